/- Walks of functions that the statements of this seat reach: what each one hands back. Conditions: those that each theorem names. -/
import Derived.Test.YtpoecjeknolnoaaP6
import Derived.Test.YtpoecjeknolnoaaA24
import Derived.Test.YtpoecjeknolnoaaProg
import Derived.KernelRfl
namespace Go.Proofs.Ytpoecjeknolnoaa
open Go.RowKit Go.Proofs.HL Go.Proofs.Try
set_option maxRecDepth 10000
set_option linter.unusedSimpArgs false
set_option linter.unusedVariables false
attribute [local irreducible] T RG RA Pu Lo
/-! ### The document's SHA-256 -/
theorem rturn_c (x n : Int) (h0 : 0 < n) (h1 : n < 32) (w : World) : Gives prog 79 [.int .u32 x, .int .i64 n].toArray w (.int .u32 (rtS x n)) := by
  refine gives_of_T func79 rfl 15 rfl rfl rfl [] (holds0 w) ?_
  refine t_seq_region ?_
  refine rg_pure (by rfl) (by rfl) (pu_assignE (v := .int .u32 _) (by rfl)) ?_
  refine rg_nil ?_
  refine t_seq_region ?_
  refine rg_pure (by rfl) (by rfl) (pu_moveE (v := .int .u32 _) (by rfl)) ?_
  refine rg_pure (by rfl) (by rfl) (pu_moveE (v := .int .i64 _) (by rfl)) ?_
  refine rg_pure (by rfl) (by rfl) (pu_conv (b := n) (by rfl) underlying3 underlying80 (wraps_u64 n (by omega) (by omega))) ?_
  refine rg_pure (by rfl) (by rfl) (pu_shr (by rfl) (by rfl) (by omega)) ?_
  refine rg_pure (by rfl) (by rfl) (pu_moveE (v := .int .u32 _) (by rfl)) ?_
  refine rg_pure (by rfl) (by rfl) (pu_moveE (v := .int .i64 _) (by rfl)) ?_
  refine rg_pure (by rfl) (by rfl) (pu_sub64 (by rfl) (by rfl) (by omega)) ?_
  refine rg_pure (by rfl) (by rfl) (pu_conv (b := 32 - n) (by rfl) underlying3 underlying80 (wraps_u64 _ (by omega) (by omega))) ?_
  refine rg_pure (by rfl) (by rfl) (pu_shl (by rfl) (by rfl) (by omega)) ?_
  refine rg_pure (by rfl) (by rfl) (pu_or (by rfl) (by rfl)) ?_
  refine rg_pure (by rfl) (by rfl) (pu_assignE (v := .int .u32 _) (by rfl)) ?_
  refine rg_nil ?_
  refine t_ret ?_
  exact Fin.ret (res1 rfl .tmp) (by rw [← rtS_eq x n h0 h1]; rfl)
theorem rconst_c (w : World) : Gives prog 80 [].toArray w (.agg (u32s constS).toArray) := by
  refine gives_of_T func80 rfl 2 rfl rfl rfl [] (holds0 w) ?_
  refine t_seq_region ?_
  refine rg_loud (by rfl) (lo_alloc (cs := u32s (List.replicate 64 0)) (by rfl) zeroValue115 (by rfl) (fun b0 hb0 => ?_))
  refine rg_nil ?_
  refine t_seq_region ?_
  refine rg_pure (by rfl) (by rfl) (pu_build (cells := (u32s constS).toArray) (by kernel_rfl)) ?_
  refine rg_loud (by rfl) (lo_storeV (vs := u32s constS) (by rfl) (by rfl) (by rfl) (by repeat constructor) sizeOf115 (by first | (simp only [u8s_len, u32s_len, i64s_len, List.length_replicate, List.length_set, schedS_len, roundsS_len, addS_len, constS_len, *]; done) | rfl) (one_u32s _) (by first | (simp only [u8s_len, u32s_len, i64s_len, List.length_replicate, List.length_set, schedS_len, roundsS_len, addS_len, constS_len, *]; done) | rfl) ?_)
  refine rg_nil ?_
  refine t_ret ?_
  exact Fin.ret (res1 rfl (ResV.cellA (cs := u32s constS) (by rfl) isAgg115 sizeOf115 (HasE.has (by repeat constructor)) (by first | (simp only [u8s_len, u32s_len, i64s_len, List.length_replicate, List.length_set, schedS_len, roundsS_len, addS_len, constS_len, *]; done) | rfl))) (by rfl)
set_option maxHeartbeats 2000000 in
theorem rblock_c (s : List Int) (hs : s.length = 8) (v : Value) (b : List Int) (hb : b.length = 64) (hbb : ∀ x ∈ b, 0 ≤ x ∧ x < 256) (w : World) (hv : Sl w v 1 64 (u8s b)) : Gives prog 74 [.agg (u32s s).toArray, v].toArray w (.agg (u32s (turnS s b)).toArray) := by
  refine gives_of_T func74 rfl 212 rfl rfl rfl [.sl v 1 64 (u8s b)] ((holds0 w).addSl hv (by decide)) ?_
  refine t_seq_region ?_
  refine rg_loud (by rfl) (lo_boxA (by rfl) (by rfl) (fun b0 hb0 => ?_))
  refine rg_loud (by rfl) (lo_alloc (cs := u32s (List.replicate 8 0)) (by rfl) zeroValue111 (by rfl) (fun b1 hb1 => ?_))
  refine rg_nil ?_
  refine t_seq_region ?_
  refine rg_loud (by rfl) (lo_alloc (cs := u32s (List.replicate 64 0)) (by rfl) zeroValue115 (by rfl) (fun b2 hb2 => ?_))
  refine rg_nil ?_
  refine t_seq ?_
  refine t_seq_region ?_
  refine rg_pure (by rfl) (by rfl) (pu_assignE (v := .int .i64 _) (by rfl)) ?_
  refine rg_nil ?_
  refine t_block ?_
  refine t_loop (σ := Nat) (fun k => [(mkS, marksV []), (1, v), (2, .pointer (some ⟨b0, 0, none⟩)), (4, .pointer (some ⟨b1, 0, none⟩)), (5, .pointer (some ⟨b2, 0, none⟩)), (6, .int .i64 (k : Int))]) (fun k => [.own b2 115 (u32s (schedS b k)), .own b1 111 (u32s (List.replicate 8 0)), .own b0 111 (u32s s), .sl v 1 64 (u8s b)]) (fun k => k ≤ 64) (fun k => 64 - k) 0 (Nat.zero_le _) (by repeat (first | exact agree_nil | refine agree_cons (by rfl) ?_)) (by repeat constructor) (fun k g hk2 => ?_)
  refine t_seq ?_
  refine t_seq_region ?_
  refine rg_pure (by rfl) (by rfl) (pu_moveE (v := .int .i64 _) (by rfl)) ?_
  refine rg_pure (by rfl) (by rfl) (pu_lss (by rfl) (by rfl)) ?_
  refine rg_nil ?_
  refine t_cond (by rfl) (fun hc0 => ?_) (fun hc0 => ?_)
  ·
    have hk1 : k < 64 := by simp at hc0; omega
    have hl := schedS_len b k
    refine t_skip ?_
    refine t_seq ?_
    refine t_block ?_
    refine t_seq ?_
    refine t_seq_region ?_
    refine rg_pure (by rfl) (by rfl) (pu_moveE (v := .int .i64 _) (by rfl)) ?_
    refine rg_pure (by rfl) (by rfl) (pu_lss (by rfl) (by rfl)) ?_
    refine rg_nil ?_
    refine t_cond (by rfl) (fun hc1 => ?_) (fun hc1 => ?_)
    ·
      have hk3 : k < 16 := by simp at hc1; omega
      refine t_seq ?_
      refine t_seq_region ?_
      refine rg_pure (by rfl) (by rfl) (pu_assignE (v := .int .i64 _) (by rfl)) ?_
      refine rg_nil ?_
      refine t_block ?_
      refine t_loop (σ := Nat) (fun j => [(mkS, marksV []), (1, v), (2, .pointer (some ⟨b0, 0, none⟩)), (4, .pointer (some ⟨b1, 0, none⟩)), (5, .pointer (some ⟨b2, 0, none⟩)), (6, .int .i64 (k : Int)), (7, .int .i64 (j : Int))]) (fun j => [.own b2 115 (u32s ((schedS b k).set k (loS b k ((schedS b k).getD k 0) j))), .own b1 111 (u32s (List.replicate 8 0)), .own b0 111 (u32s s), .sl v 1 64 (u8s b)]) (fun j => j ≤ 4) (fun j => 4 - j) 0 (Nat.zero_le _) (by repeat (first | exact agree_nil | refine agree_cons (by rfl) ?_)) (by rw [show loS b k ((schedS b k).getD k 0) 0 = (schedS b k).getD k 0 from rfl, set_getD_self _ _ (by omega)]; repeat constructor) (fun j g hj => ?_)
      refine t_seq ?_
      refine t_seq_region ?_
      refine rg_pure (by rfl) (by rfl) (pu_moveE (v := .int .i64 _) (by rfl)) ?_
      refine rg_pure (by rfl) (by rfl) (pu_lss (by rfl) (by rfl)) ?_
      refine rg_nil ?_
      refine t_cond (by rfl) (fun hc2 => ?_) (fun hc2 => ?_)
      ·
        have hj1 : j < 4 := by simp at hc2; omega
        refine t_skip ?_
        refine t_seq ?_
        refine t_block ?_
        refine t_region_draw 15 16 _ mixed (Sub.refl _) (by rfl) (by decide +kernel) ?_
        refine ra_pure0 0 1 rfl (by rfl) (by decide +kernel) (by rfl) (pu_moveE (v := .int .i64 _) (by rfl)) ?_
        refine ra_pure0 1 3 rfl (by rfl) (by decide +kernel) (by rfl) (pu_moveE (v := .int .i64 _) (by rfl)) ?_
        refine ra_pure0 2 7 rfl (by rfl) (by decide +kernel) (by rfl) (pu_indexArr1 (by rfl) (by rfl) underlying115 sizeOf106 (by omega)) ?_
        refine ra_pure 3 15 rfl (by rfl) (by decide +kernel) (by rfl) (pu_load1 (v := .int .u32 (loS b k ((schedS b k).getD k 0) j)) (by rfl) isAgg106 (HasE.has (by repeat constructor)) (by simp [u32s, hl, hk1])) ?_
        refine ra_pure0 4 31 rfl (by rfl) (by decide +kernel) (by rfl) (pu_shl (by rfl) (by rfl) (by decide)) ?_
        refine ra_pure0 5 63 rfl (by rfl) (by decide +kernel) (by rfl) (pu_moveE (v := v) (by rfl)) ?_
        refine ra_pure0 6 127 rfl (by rfl) (by decide +kernel) (by rfl) (pu_moveE (v := .int .i64 _) (by rfl)) ?_
        refine ra_pure0 7 255 rfl (by rfl) (by decide +kernel) (by rfl) (pu_mul64 (by rfl) (by rfl) (by omega)) ?_
        refine ra_pure0 8 511 rfl (by rfl) (by decide +kernel) (by rfl) (pu_moveE (v := .int .i64 _) (by rfl)) ?_
        refine ra_pure0 9 1023 rfl (by rfl) (by decide +kernel) (by rfl) (pu_add64 (by rfl) (by rfl) (by omega)) ?_
        refine ra_pure 10 2047 rfl (by rfl) (by decide +kernel) (by rfl) (pu_index1 (by rfl) (by rfl) (SrcE.src (by repeat constructor)) underlying45 sizeOf5 (by omega)) ?_
        refine ra_pure 11 4095 rfl (by rfl) (by decide +kernel) (by rfl) (pu_load1S (u := .int .u8 (b.getD (4 * k + j) 0)) (by rfl) isAgg5 (SrcE.src (by repeat constructor)) (by rw [show (4 * (k : Int) + (j : Int)).toNat = 4 * k + j by omega]; exact u8s_get (by omega))) ?_
        refine ra_pure0 12 8191 rfl (by rfl) (by decide +kernel) (by rfl) (pu_conv (b := b.getD (4 * k + j) 0) (by rfl) underlying5 underlying106 (wraps_u32 _ (byte_at hbb _).1 (by have := (byte_at hbb (4 * k + j)).2; omega))) ?_
        refine ra_pure0 13 16383 rfl (by rfl) (by decide +kernel) (by rfl) (pu_add (by rfl) (by rfl)) ?_
        refine ra_pure0 14 32767 rfl (by rfl) (by decide +kernel) (by rfl) (pu_indexArr1 (by rfl) (by rfl) underlying115 sizeOf106 (by omega)) ?_
        refine ra_next 15 65535 (by decide +kernel) ?_
        refine next_loud rfl (by rfl) (lo_store1E (v := .int .u32 _) (cs' := u32s ((schedS b k).set k (loS b k ((schedS b k).getD k 0) (j + 1)))) (by rfl) (by rfl) (by rfl) (by repeat constructor) sizeOf106 (by rfl) (by simp [u32s, hl, hk1]) (by rw [u32s_set, show Int.toNat (k : Int) = k from rfl, List.set_set, loS_succ, ← lo_step _ _ (byte_at hbb _)]) ⟨(fun hlt => absurd hlt (by decide +kernel)), ?_⟩)
        refine ra_end (by decide +kernel) ?_
        refine t_region ?_
        refine rg_pure (by rfl) (by rfl) (pu_moveE (v := .int .i64 _) (by rfl)) ?_
        refine rg_pure (by rfl) (by rfl) (pu_add64 (by rfl) (by rfl) (by omega)) ?_
        refine rg_pure (by rfl) (by rfl) (pu_assignE (v := .int .i64 _) (by rfl)) ?_
        refine rg_nil ?_
        exact ⟨j + 1, (by omega), (by omega), (by repeat (first | exact agree_nil | refine agree_cons (by rfl) ?_)), (by repeat constructor)⟩
      ·
        have hj1 : j = 4 := by simp at hc2; omega
        subst hj1
        have hs1 : schedS b (k + 1) = (schedS b k).set k (loS b k ((schedS b k).getD k 0) 4) := by rw [schedS_succ, schedStep, if_neg (by omega)]
        rw [← hs1]
        refine t_exit ?_
        refine t_exit ?_
        refine t_region ?_
        refine rg_pure (by rfl) (by rfl) (pu_moveE (v := .int .i64 _) (by rfl)) ?_
        refine rg_pure (by rfl) (by rfl) (pu_add64 (by rfl) (by rfl) (by omega)) ?_
        refine rg_pure (by rfl) (by rfl) (pu_assignE (v := .int .i64 _) (by rfl)) ?_
        refine rg_nil ?_
        exact ⟨k + 1, (by omega), (by omega), (by repeat (first | exact agree_nil | refine agree_cons (by rfl) ?_)), (by repeat constructor)⟩
    ·
      have hk3 : 16 ≤ k := by simp at hc1; omega
      refine t_skip ?_
      refine t_seq_draw 10 10 _ mixed (Sub.refl _) (by rfl) (by decide +kernel) ?_
      refine ra_pure0 0 1 rfl (by rfl) (by decide +kernel) (by rfl) (pu_moveE (v := .int .i64 _) (by rfl)) ?_
      refine ra_pure0 1 3 rfl (by rfl) (by decide +kernel) (by rfl) (pu_sub64 (by rfl) (by rfl) (by omega)) ?_
      refine ra_pure0 2 7 rfl (by rfl) (by decide +kernel) (by rfl) (pu_indexArr1 (by rfl) (by rfl) underlying115 sizeOf106 (by omega)) ?_
      refine ra_pure 3 15 rfl (by rfl) (by decide +kernel) (by rfl) (pu_load1 (by rfl) isAgg106 (HasE.has (by repeat constructor)) (u32s_get (by rw [hl]; omega))) ?_
      refine ra_pure0 4 31 rfl (by rfl) (by decide +kernel) (by rfl) (pu_moveE (v := .int .i64 _) (by rfl)) ?_
      refine ra_pure0 5 63 rfl (by rfl) (by decide +kernel) (by rfl) (pu_sub64 (by rfl) (by rfl) (by omega)) ?_
      refine ra_pure0 6 127 rfl (by rfl) (by decide +kernel) (by rfl) (pu_indexArr1 (by rfl) (by rfl) underlying115 sizeOf106 (by omega)) ?_
      refine ra_pure 7 255 rfl (by rfl) (by decide +kernel) (by rfl) (pu_load1 (by rfl) isAgg106 (HasE.has (by repeat constructor)) (u32s_get (by rw [hl]; omega))) ?_
      refine ra_pure0 8 511 rfl (by rfl) (by decide +kernel) (by rfl) (pu_assignE (v := .int .u32 _) (by rfl)) ?_
      refine ra_pure0 9 1023 rfl (by rfl) (by decide +kernel) (by rfl) (pu_assignE (v := .int .u32 _) (by rfl)) ?_
      refine ra_end (by decide +kernel) ?_
      refine t_region_draw 29 30 _ mixed (Sub.refl _) (by rfl) (by decide +kernel) ?_
      refine ra_pure0 0 1 rfl (by rfl) (by decide +kernel) (by rfl) (pu_moveE (v := .int .i64 _) (by rfl)) ?_
      refine ra_pure0 1 3 rfl (by rfl) (by decide +kernel) (by rfl) (pu_moveE (v := .int .i64 _) (by rfl)) ?_
      refine ra_pure0 2 7 rfl (by rfl) (by decide +kernel) (by rfl) (pu_sub64 (by rfl) (by rfl) (by omega)) ?_
      refine ra_pure0 3 15 rfl (by rfl) (by decide +kernel) (by rfl) (pu_indexArr1 (by rfl) (by rfl) underlying115 sizeOf106 (by omega)) ?_
      refine ra_pure 4 31 rfl (by rfl) (by decide +kernel) (by rfl) (pu_load1 (by rfl) isAgg106 (HasE.has (by repeat constructor)) (u32s_get (by rw [hl]; omega))) ?_
      refine ra_pure0 5 63 rfl (by rfl) (by decide +kernel) (by rfl) (pu_moveE (v := .int .i64 _) (by rfl)) ?_
      refine ra_pure0 6 127 rfl (by rfl) (by decide +kernel) (by rfl) (pu_sub64 (by rfl) (by rfl) (by omega)) ?_
      refine ra_pure0 7 255 rfl (by rfl) (by decide +kernel) (by rfl) (pu_indexArr1 (by rfl) (by rfl) underlying115 sizeOf106 (by omega)) ?_
      refine ra_pure 8 511 rfl (by rfl) (by decide +kernel) (by rfl) (pu_load1 (by rfl) isAgg106 (HasE.has (by repeat constructor)) (u32s_get (by rw [hl]; omega))) ?_
      refine ra_pure0 9 1023 rfl (by rfl) (by decide +kernel) (by rfl) (pu_add (by rfl) (by rfl)) ?_
      refine ra_pure0 10 2047 rfl (by rfl) (by decide +kernel) (by rfl) (pu_moveE (v := .int .u32 _) (by rfl)) ?_
      refine ra_pure0 12 6143 rfl (by rfl) (by decide +kernel) (by rfl) (pu_moveE (v := .int .u32 _) (by rfl)) ?_
      refine ra_pure0 15 38911 rfl (by rfl) (by decide +kernel) (by rfl) (pu_moveE (v := .int .u32 _) (by rfl)) ?_
      refine ra_pure0 16 104447 rfl (by rfl) (by decide +kernel) (by rfl) (pu_shr (by rfl) (by rfl) (by decide)) ?_
      refine ra_pure0 19 628735 rfl (by rfl) (by decide +kernel) (by rfl) (pu_moveE (v := .int .u32 _) (by rfl)) ?_
      refine ra_pure0 21 2725887 rfl (by rfl) (by decide +kernel) (by rfl) (pu_moveE (v := .int .u32 _) (by rfl)) ?_
      refine ra_pure0 24 19503103 rfl (by rfl) (by decide +kernel) (by rfl) (pu_moveE (v := .int .u32 _) (by rfl)) ?_
      refine ra_pure0 25 53057535 rfl (by rfl) (by decide +kernel) (by rfl) (pu_shr (by rfl) (by rfl) (by decide)) ?_
      refine ra_next 11 53059583 (by decide +kernel) ?_
      refine next_loud rfl (by rfl) (lo_callFQ call79 (by rfl) (fun w hw => rturn_c _ 7 (by decide) (by decide) w) ⟨(fun _ => (by repeat constructor)), ?_⟩)
      refine ra_next 13 53067775 (by decide +kernel) ?_
      refine next_loud rfl (by rfl) (lo_callFQ call79 (by rfl) (fun w hw => rturn_c _ 18 (by decide) (by decide) w) ⟨(fun _ => (by repeat constructor)), ?_⟩)
      refine ra_pure0 14 53084159 rfl (by rfl) (by decide +kernel) (by rfl) (pu_xor (by rfl) (by rfl)) ?_
      refine ra_pure0 17 53215231 rfl (by rfl) (by decide +kernel) (by rfl) (pu_xor (by rfl) (by rfl)) ?_
      refine ra_pure0 18 53477375 rfl (by rfl) (by decide +kernel) (by rfl) (pu_add (by rfl) (by rfl)) ?_
      refine ra_next 20 54525951 (by decide +kernel) ?_
      refine next_loud rfl (by rfl) (lo_callFQ call79 (by rfl) (fun w hw => rturn_c _ 17 (by decide) (by decide) w) ⟨(fun _ => (by repeat constructor)), ?_⟩)
      refine ra_next 22 58720255 (by decide +kernel) ?_
      refine next_loud rfl (by rfl) (lo_callFQ call79 (by rfl) (fun w hw => rturn_c _ 19 (by decide) (by decide) w) ⟨(fun _ => (by repeat constructor)), ?_⟩)
      refine ra_pure0 23 67108863 rfl (by rfl) (by decide +kernel) (by rfl) (pu_xor (by rfl) (by rfl)) ?_
      refine ra_pure0 26 134217727 rfl (by rfl) (by decide +kernel) (by rfl) (pu_xor (by rfl) (by rfl)) ?_
      refine ra_pure0 27 268435455 rfl (by rfl) (by decide +kernel) (by rfl) (pu_add (by rfl) (by rfl)) ?_
      refine ra_pure0 28 536870911 rfl (by rfl) (by decide +kernel) (by rfl) (pu_indexArr1 (by rfl) (by rfl) underlying115 sizeOf106 (by omega)) ?_
      refine ra_next 29 1073741823 (by decide +kernel) ?_
      refine next_loud rfl (by rfl) (lo_store1E (v := .int .u32 _) (cs' := u32s (schedS b (k + 1))) (by rfl) (by rfl) (by rfl) (by repeat constructor) sizeOf106 (by rfl) (by rw [u32s_len, hl]; omega) (by rw [schedS_succ, schedStep, if_pos hk3, ← sched_hi, u32s_set]; rfl) ⟨(fun hlt => absurd hlt (by decide +kernel)), ?_⟩)
      refine ra_end (by decide +kernel) ?_
      refine t_region ?_
      refine rg_pure (by rfl) (by rfl) (pu_moveE (v := .int .i64 _) (by rfl)) ?_
      refine rg_pure (by rfl) (by rfl) (pu_add64 (by rfl) (by rfl) (by omega)) ?_
      refine rg_pure (by rfl) (by rfl) (pu_assignE (v := .int .i64 _) (by rfl)) ?_
      refine rg_nil ?_
      exact ⟨k + 1, (by omega), (by omega), (by repeat (first | exact agree_nil | refine agree_cons (by rfl) ?_)), (by repeat constructor)⟩
  ·
    have hk1 : k = 64 := by simp at hc0; omega
    subst hk1
    refine t_exit ?_
    refine t_seq_region ?_
    refine rg_loud (by rfl) (lo_callFQ call80 (by rfl) (fun w hw => rconst_c w) ?_)
    refine rg_loud (by rfl) (lo_alloc (cs := u32s (List.replicate 64 0)) (by rfl) zeroValue115 (by rfl) (fun b3 hb3 => ?_))
    refine rg_loud (by rfl) (lo_storeV (vs := u32s constS) (by rfl) (by rfl) (by rfl) (by repeat constructor) sizeOf115 (by first | (simp only [u8s_len, u32s_len, i64s_len, List.length_replicate, List.length_set, schedS_len, roundsS_len, addS_len, constS_len, turnS_len, *]; done) | rfl) (one_u32s _) (by first | (simp only [u8s_len, u32s_len, i64s_len, List.length_replicate, List.length_set, schedS_len, roundsS_len, addS_len, constS_len, turnS_len, *]; done) | rfl) ?_)
    refine rg_nil ?_
    refine t_seq_region ?_
    refine rg_pure (by rfl) (by rfl) (pu_loadAll (by rfl) isAgg111 sizeOf111 (HasE.has (by repeat constructor)) (by rw [u32s_len, hs])) ?_
    refine rg_loud (by rfl) (lo_alloc (cs := u32s (List.replicate 8 0)) (by rfl) zeroValue111 (by rfl) (fun b4 hb4 => ?_))
    refine rg_loud (by rfl) (lo_storeV (vs := u32s s) (by rfl) (by rfl) (by rfl) (by repeat constructor) sizeOf111 (by first | (simp only [u8s_len, u32s_len, i64s_len, List.length_replicate, List.length_set, schedS_len, roundsS_len, addS_len, constS_len, turnS_len, *]; done) | rfl) (one_u32s _) (by first | (simp only [u8s_len, u32s_len, i64s_len, List.length_replicate, List.length_set, schedS_len, roundsS_len, addS_len, constS_len, turnS_len, *]; done) | rfl) ?_)
    refine rg_nil ?_
    refine t_seq ?_
    refine t_seq_region ?_
    refine rg_pure (by rfl) (by rfl) (pu_assignE (v := .int .i64 _) (by rfl)) ?_
    refine rg_nil ?_
    refine t_block ?_
    refine t_loop (σ := Nat) (fun q => [(mkS, marksV []), (2, .pointer (some ⟨b0, 0, none⟩)), (4, .pointer (some ⟨b1, 0, none⟩)), (5, .pointer (some ⟨b2, 0, none⟩)), (10, .pointer (some ⟨b3, 0, none⟩)), (11, .pointer (some ⟨b4, 0, none⟩)), (12, .int .i64 (q : Int))]) (fun q => [.own b4 111 (u32s (roundsS (schedS b 64) s q)), .own b3 115 (u32s constS), .own b2 115 (u32s (schedS b 64)), .own b1 111 (u32s (List.replicate 8 0)), .own b0 111 (u32s s)]) (fun q => q ≤ 64) (fun q => 64 - q) 0 (Nat.zero_le _) (by repeat (first | exact agree_nil | refine agree_cons (by rfl) ?_)) (by repeat constructor) (fun q g hq => ?_)
    refine t_seq ?_
    refine t_seq_region ?_
    refine rg_pure (by rfl) (by rfl) (pu_moveE (v := .int .i64 _) (by rfl)) ?_
    refine rg_pure (by rfl) (by rfl) (pu_lss (by rfl) (by rfl)) ?_
    refine rg_nil ?_
    refine t_cond (by rfl) (fun hc3 => ?_) (fun hc3 => ?_)
    ·
      have hq1 : q < 64 := by simp at hc3; omega
      have hl := roundsS_len hs (schedS b 64) q
      have hl2 := schedS_len b 64
      refine t_skip ?_
      refine t_seq ?_
      refine t_block ?_
      refine t_seq_region ?_
      first | (refine rg_pure (by rfl) (by rfl) (pu_field (by rfl) underlying111 (by rfl) sizeOf106 (by decide)) ?_) | (refine rg_pure (by rfl) (by rfl) (pu_fieldP (by rfl) underlying111 (by rfl) sizeOf106 (by decide) (src_some (SrcE.src (by repeat constructor)) (by omega))) ?_)
      refine rg_pure (by rfl) (by rfl) (pu_load1 (by rfl) isAgg106 (HasE.has (by repeat constructor)) (u32s_get (l := (roundsS (schedS b 64) s q)) (i := 4) (by rw [hl]; decide))) ?_
      first | (refine rg_pure (by rfl) (by rfl) (pu_field (by rfl) underlying111 (by rfl) sizeOf106 (by decide)) ?_) | (refine rg_pure (by rfl) (by rfl) (pu_fieldP (by rfl) underlying111 (by rfl) sizeOf106 (by decide) (src_some (SrcE.src (by repeat constructor)) (by omega))) ?_)
      refine rg_pure (by rfl) (by rfl) (pu_load1 (by rfl) isAgg106 (HasE.has (by repeat constructor)) (u32s_get (l := (roundsS (schedS b 64) s q)) (i := 5) (by rw [hl]; decide))) ?_
      refine rg_pure (by rfl) (by rfl) (pu_and (by rfl) (by rfl)) ?_
      first | (refine rg_pure (by rfl) (by rfl) (pu_field (by rfl) underlying111 (by rfl) sizeOf106 (by decide)) ?_) | (refine rg_pure (by rfl) (by rfl) (pu_fieldP (by rfl) underlying111 (by rfl) sizeOf106 (by decide) (src_some (SrcE.src (by repeat constructor)) (by omega))) ?_)
      refine rg_pure (by rfl) (by rfl) (pu_load1 (by rfl) isAgg106 (HasE.has (by repeat constructor)) (u32s_get (l := (roundsS (schedS b 64) s q)) (i := 4) (by rw [hl]; decide))) ?_
      refine rg_pure (by rfl) (by rfl) (pu_xor1 (by rfl)) ?_
      first | (refine rg_pure (by rfl) (by rfl) (pu_field (by rfl) underlying111 (by rfl) sizeOf106 (by decide)) ?_) | (refine rg_pure (by rfl) (by rfl) (pu_fieldP (by rfl) underlying111 (by rfl) sizeOf106 (by decide) (src_some (SrcE.src (by repeat constructor)) (by omega))) ?_)
      refine rg_pure (by rfl) (by rfl) (pu_load1 (by rfl) isAgg106 (HasE.has (by repeat constructor)) (u32s_get (l := (roundsS (schedS b 64) s q)) (i := 6) (by rw [hl]; decide))) ?_
      refine rg_pure (by rfl) (by rfl) (pu_and (by rfl) (by rfl)) ?_
      refine rg_pure (by rfl) (by rfl) (pu_or (by rfl) (by rfl)) ?_
      refine rg_pure (by rfl) (by rfl) (pu_assignE (v := .int .u32 _) (by rfl)) ?_
      refine rg_nil ?_
      refine t_seq_region ?_
      first | (refine rg_pure (by rfl) (by rfl) (pu_field (by rfl) underlying111 (by rfl) sizeOf106 (by decide)) ?_) | (refine rg_pure (by rfl) (by rfl) (pu_fieldP (by rfl) underlying111 (by rfl) sizeOf106 (by decide) (src_some (SrcE.src (by repeat constructor)) (by omega))) ?_)
      refine rg_pure (by rfl) (by rfl) (pu_load1 (by rfl) isAgg106 (HasE.has (by repeat constructor)) (u32s_get (l := (roundsS (schedS b 64) s q)) (i := 0) (by rw [hl]; decide))) ?_
      first | (refine rg_pure (by rfl) (by rfl) (pu_field (by rfl) underlying111 (by rfl) sizeOf106 (by decide)) ?_) | (refine rg_pure (by rfl) (by rfl) (pu_fieldP (by rfl) underlying111 (by rfl) sizeOf106 (by decide) (src_some (SrcE.src (by repeat constructor)) (by omega))) ?_)
      refine rg_pure (by rfl) (by rfl) (pu_load1 (by rfl) isAgg106 (HasE.has (by repeat constructor)) (u32s_get (l := (roundsS (schedS b 64) s q)) (i := 1) (by rw [hl]; decide))) ?_
      refine rg_pure (by rfl) (by rfl) (pu_and (by rfl) (by rfl)) ?_
      first | (refine rg_pure (by rfl) (by rfl) (pu_field (by rfl) underlying111 (by rfl) sizeOf106 (by decide)) ?_) | (refine rg_pure (by rfl) (by rfl) (pu_fieldP (by rfl) underlying111 (by rfl) sizeOf106 (by decide) (src_some (SrcE.src (by repeat constructor)) (by omega))) ?_)
      refine rg_pure (by rfl) (by rfl) (pu_load1 (by rfl) isAgg106 (HasE.has (by repeat constructor)) (u32s_get (l := (roundsS (schedS b 64) s q)) (i := 0) (by rw [hl]; decide))) ?_
      first | (refine rg_pure (by rfl) (by rfl) (pu_field (by rfl) underlying111 (by rfl) sizeOf106 (by decide)) ?_) | (refine rg_pure (by rfl) (by rfl) (pu_fieldP (by rfl) underlying111 (by rfl) sizeOf106 (by decide) (src_some (SrcE.src (by repeat constructor)) (by omega))) ?_)
      refine rg_pure (by rfl) (by rfl) (pu_load1 (by rfl) isAgg106 (HasE.has (by repeat constructor)) (u32s_get (l := (roundsS (schedS b 64) s q)) (i := 2) (by rw [hl]; decide))) ?_
      refine rg_pure (by rfl) (by rfl) (pu_and (by rfl) (by rfl)) ?_
      refine rg_pure (by rfl) (by rfl) (pu_or (by rfl) (by rfl)) ?_
      first | (refine rg_pure (by rfl) (by rfl) (pu_field (by rfl) underlying111 (by rfl) sizeOf106 (by decide)) ?_) | (refine rg_pure (by rfl) (by rfl) (pu_fieldP (by rfl) underlying111 (by rfl) sizeOf106 (by decide) (src_some (SrcE.src (by repeat constructor)) (by omega))) ?_)
      refine rg_pure (by rfl) (by rfl) (pu_load1 (by rfl) isAgg106 (HasE.has (by repeat constructor)) (u32s_get (l := (roundsS (schedS b 64) s q)) (i := 1) (by rw [hl]; decide))) ?_
      first | (refine rg_pure (by rfl) (by rfl) (pu_field (by rfl) underlying111 (by rfl) sizeOf106 (by decide)) ?_) | (refine rg_pure (by rfl) (by rfl) (pu_fieldP (by rfl) underlying111 (by rfl) sizeOf106 (by decide) (src_some (SrcE.src (by repeat constructor)) (by omega))) ?_)
      refine rg_pure (by rfl) (by rfl) (pu_load1 (by rfl) isAgg106 (HasE.has (by repeat constructor)) (u32s_get (l := (roundsS (schedS b 64) s q)) (i := 2) (by rw [hl]; decide))) ?_
      refine rg_pure (by rfl) (by rfl) (pu_and (by rfl) (by rfl)) ?_
      refine rg_pure (by rfl) (by rfl) (pu_or (by rfl) (by rfl)) ?_
      refine rg_pure (by rfl) (by rfl) (pu_assignE (v := .int .u32 _) (by rfl)) ?_
      refine rg_nil ?_
      refine t_seq_draw 25 25 _ mixed (Sub.refl _) (by rfl) (by decide +kernel) ?_
      first | (refine ra_pure0 0 1 rfl (by rfl) (by decide +kernel) (by rfl) (pu_field (by rfl) underlying111 (by rfl) sizeOf106 (by decide)) ?_) | (refine ra_pure 0 1 rfl (by rfl) (by decide +kernel) (by rfl) (pu_fieldP (by rfl) underlying111 (by rfl) sizeOf106 (by decide) (src_some (SrcE.src (by repeat constructor)) (by omega))) ?_)
      refine ra_pure 1 3 rfl (by rfl) (by decide +kernel) (by rfl) (pu_load1 (by rfl) isAgg106 (HasE.has (by repeat constructor)) (u32s_get (l := (roundsS (schedS b 64) s q)) (i := 7) (by rw [hl]; decide))) ?_
      first | (refine ra_pure0 2 7 rfl (by rfl) (by decide +kernel) (by rfl) (pu_field (by rfl) underlying111 (by rfl) sizeOf106 (by decide)) ?_) | (refine ra_pure 2 7 rfl (by rfl) (by decide +kernel) (by rfl) (pu_fieldP (by rfl) underlying111 (by rfl) sizeOf106 (by decide) (src_some (SrcE.src (by repeat constructor)) (by omega))) ?_)
      refine ra_pure 3 15 rfl (by rfl) (by decide +kernel) (by rfl) (pu_load1 (by rfl) isAgg106 (HasE.has (by repeat constructor)) (u32s_get (l := (roundsS (schedS b 64) s q)) (i := 4) (by rw [hl]; decide))) ?_
      first | (refine ra_pure0 5 47 rfl (by rfl) (by decide +kernel) (by rfl) (pu_field (by rfl) underlying111 (by rfl) sizeOf106 (by decide)) ?_) | (refine ra_pure 5 47 rfl (by rfl) (by decide +kernel) (by rfl) (pu_fieldP (by rfl) underlying111 (by rfl) sizeOf106 (by decide) (src_some (SrcE.src (by repeat constructor)) (by omega))) ?_)
      refine ra_pure 6 111 rfl (by rfl) (by decide +kernel) (by rfl) (pu_load1 (by rfl) isAgg106 (HasE.has (by repeat constructor)) (u32s_get (l := (roundsS (schedS b 64) s q)) (i := 4) (by rw [hl]; decide))) ?_
      first | (refine ra_pure0 9 623 rfl (by rfl) (by decide +kernel) (by rfl) (pu_field (by rfl) underlying111 (by rfl) sizeOf106 (by decide)) ?_) | (refine ra_pure 9 623 rfl (by rfl) (by decide +kernel) (by rfl) (pu_fieldP (by rfl) underlying111 (by rfl) sizeOf106 (by decide) (src_some (SrcE.src (by repeat constructor)) (by omega))) ?_)
      refine ra_pure 10 1647 rfl (by rfl) (by decide +kernel) (by rfl) (pu_load1 (by rfl) isAgg106 (HasE.has (by repeat constructor)) (u32s_get (l := (roundsS (schedS b 64) s q)) (i := 4) (by rw [hl]; decide))) ?_
      refine ra_pure0 14 18031 rfl (by rfl) (by decide +kernel) (by rfl) (pu_moveE (v := .int .u32 _) (by rfl)) ?_
      refine ra_pure0 16 83567 rfl (by rfl) (by decide +kernel) (by rfl) (pu_moveE (v := .int .i64 _) (by rfl)) ?_
      refine ra_pure0 17 214639 rfl (by rfl) (by decide +kernel) (by rfl) (pu_indexArr1 (by rfl) (by rfl) underlying115 sizeOf106 (by omega)) ?_
      refine ra_pure 18 476783 rfl (by rfl) (by decide +kernel) (by rfl) (pu_load1 (by rfl) isAgg106 (HasE.has (by repeat constructor)) (u32s_get (l := constS) (i := q) (by rw [constS_len]; omega))) ?_
      refine ra_pure0 20 1525359 rfl (by rfl) (by decide +kernel) (by rfl) (pu_moveE (v := .int .i64 _) (by rfl)) ?_
      refine ra_pure0 21 3622511 rfl (by rfl) (by decide +kernel) (by rfl) (pu_indexArr1 (by rfl) (by rfl) underlying115 sizeOf106 (by omega)) ?_
      refine ra_pure 22 7816815 rfl (by rfl) (by decide +kernel) (by rfl) (pu_load1 (by rfl) isAgg106 (HasE.has (by repeat constructor)) (u32s_get (l := schedS b 64) (i := q) (by rw [hl2]; omega))) ?_
      refine ra_next 4 7816831 (by decide +kernel) ?_
      refine next_loud rfl (by rfl) (lo_callFQ call79 (by rfl) (fun w hw => rturn_c _ 6 (by decide) (by decide) w) ⟨(fun _ => (by repeat constructor)), ?_⟩)
      refine ra_next 7 7816959 (by decide +kernel) ?_
      refine next_loud rfl (by rfl) (lo_callFQ call79 (by rfl) (fun w hw => rturn_c _ 11 (by decide) (by decide) w) ⟨(fun _ => (by repeat constructor)), ?_⟩)
      refine ra_pure0 8 7817215 rfl (by rfl) (by decide +kernel) (by rfl) (pu_xor (by rfl) (by rfl)) ?_
      refine ra_next 11 7819263 (by decide +kernel) ?_
      refine next_loud rfl (by rfl) (lo_callFQ call79 (by rfl) (fun w hw => rturn_c _ 25 (by decide) (by decide) w) ⟨(fun _ => (by repeat constructor)), ?_⟩)
      refine ra_pure0 12 7823359 rfl (by rfl) (by decide +kernel) (by rfl) (pu_xor (by rfl) (by rfl)) ?_
      refine ra_pure0 13 7831551 rfl (by rfl) (by decide +kernel) (by rfl) (pu_add (by rfl) (by rfl)) ?_
      refine ra_pure0 15 7864319 rfl (by rfl) (by decide +kernel) (by rfl) (pu_add (by rfl) (by rfl)) ?_
      refine ra_pure0 19 8388607 rfl (by rfl) (by decide +kernel) (by rfl) (pu_add (by rfl) (by rfl)) ?_
      refine ra_pure0 23 16777215 rfl (by rfl) (by decide +kernel) (by rfl) (pu_add (by rfl) (by rfl)) ?_
      refine ra_pure0 24 33554431 rfl (by rfl) (by decide +kernel) (by rfl) (pu_assignE (v := .int .u32 (turnX (schedS b 64) (roundsS (schedS b 64) s q) q)) (by rw [← round_x]; rfl)) ?_
      refine ra_end (by decide +kernel) ?_
      refine t_seq_draw 14 14 _ mixed (Sub.refl _) (by rfl) (by decide +kernel) ?_
      first | (refine ra_pure0 0 1 rfl (by rfl) (by decide +kernel) (by rfl) (pu_field (by rfl) underlying111 (by rfl) sizeOf106 (by decide)) ?_) | (refine ra_pure 0 1 rfl (by rfl) (by decide +kernel) (by rfl) (pu_fieldP (by rfl) underlying111 (by rfl) sizeOf106 (by decide) (src_some (SrcE.src (by repeat constructor)) (by omega))) ?_)
      refine ra_pure 1 3 rfl (by rfl) (by decide +kernel) (by rfl) (pu_load1 (by rfl) isAgg106 (HasE.has (by repeat constructor)) (u32s_get (l := (roundsS (schedS b 64) s q)) (i := 0) (by rw [hl]; decide))) ?_
      first | (refine ra_pure0 3 11 rfl (by rfl) (by decide +kernel) (by rfl) (pu_field (by rfl) underlying111 (by rfl) sizeOf106 (by decide)) ?_) | (refine ra_pure 3 11 rfl (by rfl) (by decide +kernel) (by rfl) (pu_fieldP (by rfl) underlying111 (by rfl) sizeOf106 (by decide) (src_some (SrcE.src (by repeat constructor)) (by omega))) ?_)
      refine ra_pure 4 27 rfl (by rfl) (by decide +kernel) (by rfl) (pu_load1 (by rfl) isAgg106 (HasE.has (by repeat constructor)) (u32s_get (l := (roundsS (schedS b 64) s q)) (i := 0) (by rw [hl]; decide))) ?_
      first | (refine ra_pure0 7 155 rfl (by rfl) (by decide +kernel) (by rfl) (pu_field (by rfl) underlying111 (by rfl) sizeOf106 (by decide)) ?_) | (refine ra_pure 7 155 rfl (by rfl) (by decide +kernel) (by rfl) (pu_fieldP (by rfl) underlying111 (by rfl) sizeOf106 (by decide) (src_some (SrcE.src (by repeat constructor)) (by omega))) ?_)
      refine ra_pure 8 411 rfl (by rfl) (by decide +kernel) (by rfl) (pu_load1 (by rfl) isAgg106 (HasE.has (by repeat constructor)) (u32s_get (l := (roundsS (schedS b 64) s q)) (i := 0) (by rw [hl]; decide))) ?_
      refine ra_pure0 11 2459 rfl (by rfl) (by decide +kernel) (by rfl) (pu_moveE (v := .int .u32 _) (by rfl)) ?_
      refine ra_next 2 2463 (by decide +kernel) ?_
      refine next_loud rfl (by rfl) (lo_callFQ call79 (by rfl) (fun w hw => rturn_c _ 2 (by decide) (by decide) w) ⟨(fun _ => (by repeat constructor)), ?_⟩)
      refine ra_next 5 2495 (by decide +kernel) ?_
      refine next_loud rfl (by rfl) (lo_callFQ call79 (by rfl) (fun w hw => rturn_c _ 13 (by decide) (by decide) w) ⟨(fun _ => (by repeat constructor)), ?_⟩)
      refine ra_pure0 6 2559 rfl (by rfl) (by decide +kernel) (by rfl) (pu_xor (by rfl) (by rfl)) ?_
      refine ra_next 9 3071 (by decide +kernel) ?_
      refine next_loud rfl (by rfl) (lo_callFQ call79 (by rfl) (fun w hw => rturn_c _ 22 (by decide) (by decide) w) ⟨(fun _ => (by repeat constructor)), ?_⟩)
      refine ra_pure0 10 4095 rfl (by rfl) (by decide +kernel) (by rfl) (pu_xor (by rfl) (by rfl)) ?_
      refine ra_pure0 12 8191 rfl (by rfl) (by decide +kernel) (by rfl) (pu_add (by rfl) (by rfl)) ?_
      refine ra_pure0 13 16383 rfl (by rfl) (by decide +kernel) (by rfl) (pu_assignE (v := .int .u32 (turnY (roundsS (schedS b 64) s q))) (by rw [← round_y]; rfl)) ?_
      refine ra_end (by decide +kernel) ?_
      refine t_region ?_
      refine rg_pure (by rfl) (by rfl) (pu_moveE (v := .int .u32 (turnX (schedS b 64) (roundsS (schedS b 64) s q) q)) (by rfl)) ?_
      refine rg_pure (by rfl) (by rfl) (pu_moveE (v := .int .u32 (turnY (roundsS (schedS b 64) s q))) (by rfl)) ?_
      refine rg_pure (by rfl) (by rfl) (pu_add (by rfl) (by rfl)) ?_
      first | (refine rg_pure (by rfl) (by rfl) (pu_field (by rfl) underlying111 (by rfl) sizeOf106 (by decide)) ?_) | (refine rg_pure (by rfl) (by rfl) (pu_fieldP (by rfl) underlying111 (by rfl) sizeOf106 (by decide) (src_some (SrcE.src (by repeat constructor)) (by omega))) ?_)
      refine rg_pure (by rfl) (by rfl) (pu_load1 (by rfl) isAgg106 (HasE.has (by repeat constructor)) (u32s_get (l := (roundsS (schedS b 64) s q)) (i := 0) (by rw [hl]; decide))) ?_
      first | (refine rg_pure (by rfl) (by rfl) (pu_field (by rfl) underlying111 (by rfl) sizeOf106 (by decide)) ?_) | (refine rg_pure (by rfl) (by rfl) (pu_fieldP (by rfl) underlying111 (by rfl) sizeOf106 (by decide) (src_some (SrcE.src (by repeat constructor)) (by omega))) ?_)
      refine rg_pure (by rfl) (by rfl) (pu_load1 (by rfl) isAgg106 (HasE.has (by repeat constructor)) (u32s_get (l := (roundsS (schedS b 64) s q)) (i := 1) (by rw [hl]; decide))) ?_
      first | (refine rg_pure (by rfl) (by rfl) (pu_field (by rfl) underlying111 (by rfl) sizeOf106 (by decide)) ?_) | (refine rg_pure (by rfl) (by rfl) (pu_fieldP (by rfl) underlying111 (by rfl) sizeOf106 (by decide) (src_some (SrcE.src (by repeat constructor)) (by omega))) ?_)
      refine rg_pure (by rfl) (by rfl) (pu_load1 (by rfl) isAgg106 (HasE.has (by repeat constructor)) (u32s_get (l := (roundsS (schedS b 64) s q)) (i := 2) (by rw [hl]; decide))) ?_
      first | (refine rg_pure (by rfl) (by rfl) (pu_field (by rfl) underlying111 (by rfl) sizeOf106 (by decide)) ?_) | (refine rg_pure (by rfl) (by rfl) (pu_fieldP (by rfl) underlying111 (by rfl) sizeOf106 (by decide) (src_some (SrcE.src (by repeat constructor)) (by omega))) ?_)
      refine rg_pure (by rfl) (by rfl) (pu_load1 (by rfl) isAgg106 (HasE.has (by repeat constructor)) (u32s_get (l := (roundsS (schedS b 64) s q)) (i := 3) (by rw [hl]; decide))) ?_
      refine rg_pure (by rfl) (by rfl) (pu_moveE (v := .int .u32 (turnX (schedS b 64) (roundsS (schedS b 64) s q) q)) (by rfl)) ?_
      refine rg_pure (by rfl) (by rfl) (pu_add (by rfl) (by rfl)) ?_
      first | (refine rg_pure (by rfl) (by rfl) (pu_field (by rfl) underlying111 (by rfl) sizeOf106 (by decide)) ?_) | (refine rg_pure (by rfl) (by rfl) (pu_fieldP (by rfl) underlying111 (by rfl) sizeOf106 (by decide) (src_some (SrcE.src (by repeat constructor)) (by omega))) ?_)
      refine rg_pure (by rfl) (by rfl) (pu_load1 (by rfl) isAgg106 (HasE.has (by repeat constructor)) (u32s_get (l := (roundsS (schedS b 64) s q)) (i := 4) (by rw [hl]; decide))) ?_
      first | (refine rg_pure (by rfl) (by rfl) (pu_field (by rfl) underlying111 (by rfl) sizeOf106 (by decide)) ?_) | (refine rg_pure (by rfl) (by rfl) (pu_fieldP (by rfl) underlying111 (by rfl) sizeOf106 (by decide) (src_some (SrcE.src (by repeat constructor)) (by omega))) ?_)
      refine rg_pure (by rfl) (by rfl) (pu_load1 (by rfl) isAgg106 (HasE.has (by repeat constructor)) (u32s_get (l := (roundsS (schedS b 64) s q)) (i := 5) (by rw [hl]; decide))) ?_
      first | (refine rg_pure (by rfl) (by rfl) (pu_field (by rfl) underlying111 (by rfl) sizeOf106 (by decide)) ?_) | (refine rg_pure (by rfl) (by rfl) (pu_fieldP (by rfl) underlying111 (by rfl) sizeOf106 (by decide) (src_some (SrcE.src (by repeat constructor)) (by omega))) ?_)
      refine rg_pure (by rfl) (by rfl) (pu_load1 (by rfl) isAgg106 (HasE.has (by repeat constructor)) (u32s_get (l := (roundsS (schedS b 64) s q)) (i := 6) (by rw [hl]; decide))) ?_
      refine rg_pure (by rfl) (by rfl) (pu_build (cells := (u32s (roundS (schedS b 64) (roundsS (schedS b 64) s q) q)).toArray) (by kernel_rfl)) ?_
      refine rg_loud (by rfl) (lo_storeV (vs := u32s (roundS (schedS b 64) (roundsS (schedS b 64) s q) q)) (by rfl) (by rfl) (by rfl) (by repeat constructor) sizeOf111 (by first | (simp only [u8s_len, u32s_len, i64s_len, List.length_replicate, List.length_set, schedS_len, roundsS_len, addS_len, constS_len, turnS_len, *]; done) | rfl) (one_u32s _) (by first | (simp only [u8s_len, u32s_len, i64s_len, List.length_replicate, List.length_set, schedS_len, roundsS_len, addS_len, constS_len, turnS_len, *]; done) | rfl) ?_)
      refine rg_nil ?_
      rw [← roundsS_succ]
      refine t_region ?_
      refine rg_pure (by rfl) (by rfl) (pu_moveE (v := .int .i64 _) (by rfl)) ?_
      refine rg_pure (by rfl) (by rfl) (pu_add64 (by rfl) (by rfl) (by omega)) ?_
      refine rg_pure (by rfl) (by rfl) (pu_assignE (v := .int .i64 _) (by rfl)) ?_
      refine rg_nil ?_
      exact ⟨q + 1, (by omega), (by omega), (by repeat (first | exact agree_nil | refine agree_cons (by rfl) ?_)), (by repeat constructor)⟩
    ·
      have hq1 : q = 64 := by simp at hc3; omega
      subst hq1
      have hl := roundsS_len hs (schedS b 64) 64
      refine t_exit ?_
      have htl := turnS_len hs b
      generalize hR : roundsS (schedS b 64) s 64 = R at hl ⊢
      refine t_sub (s := [.own b4 111 (u32s R), .own b0 111 (u32s s), .own b1 111 (u32s (List.replicate 8 0))]) (by repeat constructor) ?_
      refine t_seq_region ?_
      first | (refine rg_pure (by rfl) (by rfl) (pu_field (by rfl) underlying111 (by rfl) sizeOf106 (by decide)) ?_) | (refine rg_pure (by rfl) (by rfl) (pu_fieldP (by rfl) underlying111 (by rfl) sizeOf106 (by decide) (src_some (SrcE.src (by repeat constructor)) (by omega))) ?_)
      refine rg_pure (by rfl) (by rfl) (pu_load1 (by rfl) isAgg106 (HasE.has (by repeat constructor)) (u32s_get (l := s) (i := 0) (by rw [hs]; decide))) ?_
      first | (refine rg_pure (by rfl) (by rfl) (pu_field (by rfl) underlying111 (by rfl) sizeOf106 (by decide)) ?_) | (refine rg_pure (by rfl) (by rfl) (pu_fieldP (by rfl) underlying111 (by rfl) sizeOf106 (by decide) (src_some (SrcE.src (by repeat constructor)) (by omega))) ?_)
      refine rg_pure (by rfl) (by rfl) (pu_load1 (by rfl) isAgg106 (HasE.has (by repeat constructor)) (u32s_get (l := R) (i := 0) (by rw [hl]; decide))) ?_
      refine rg_pure (by rfl) (by rfl) (pu_add (by rfl) (by rfl)) ?_
      first | (refine rg_pure (by rfl) (by rfl) (pu_field (by rfl) underlying111 (by rfl) sizeOf106 (by decide)) ?_) | (refine rg_pure (by rfl) (by rfl) (pu_fieldP (by rfl) underlying111 (by rfl) sizeOf106 (by decide) (src_some (SrcE.src (by repeat constructor)) (by omega))) ?_)
      refine rg_pure (by rfl) (by rfl) (pu_load1 (by rfl) isAgg106 (HasE.has (by repeat constructor)) (u32s_get (l := s) (i := 1) (by rw [hs]; decide))) ?_
      first | (refine rg_pure (by rfl) (by rfl) (pu_field (by rfl) underlying111 (by rfl) sizeOf106 (by decide)) ?_) | (refine rg_pure (by rfl) (by rfl) (pu_fieldP (by rfl) underlying111 (by rfl) sizeOf106 (by decide) (src_some (SrcE.src (by repeat constructor)) (by omega))) ?_)
      refine rg_pure (by rfl) (by rfl) (pu_load1 (by rfl) isAgg106 (HasE.has (by repeat constructor)) (u32s_get (l := R) (i := 1) (by rw [hl]; decide))) ?_
      refine rg_pure (by rfl) (by rfl) (pu_add (by rfl) (by rfl)) ?_
      first | (refine rg_pure (by rfl) (by rfl) (pu_field (by rfl) underlying111 (by rfl) sizeOf106 (by decide)) ?_) | (refine rg_pure (by rfl) (by rfl) (pu_fieldP (by rfl) underlying111 (by rfl) sizeOf106 (by decide) (src_some (SrcE.src (by repeat constructor)) (by omega))) ?_)
      refine rg_pure (by rfl) (by rfl) (pu_load1 (by rfl) isAgg106 (HasE.has (by repeat constructor)) (u32s_get (l := s) (i := 2) (by rw [hs]; decide))) ?_
      first | (refine rg_pure (by rfl) (by rfl) (pu_field (by rfl) underlying111 (by rfl) sizeOf106 (by decide)) ?_) | (refine rg_pure (by rfl) (by rfl) (pu_fieldP (by rfl) underlying111 (by rfl) sizeOf106 (by decide) (src_some (SrcE.src (by repeat constructor)) (by omega))) ?_)
      refine rg_pure (by rfl) (by rfl) (pu_load1 (by rfl) isAgg106 (HasE.has (by repeat constructor)) (u32s_get (l := R) (i := 2) (by rw [hl]; decide))) ?_
      refine rg_pure (by rfl) (by rfl) (pu_add (by rfl) (by rfl)) ?_
      first | (refine rg_pure (by rfl) (by rfl) (pu_field (by rfl) underlying111 (by rfl) sizeOf106 (by decide)) ?_) | (refine rg_pure (by rfl) (by rfl) (pu_fieldP (by rfl) underlying111 (by rfl) sizeOf106 (by decide) (src_some (SrcE.src (by repeat constructor)) (by omega))) ?_)
      refine rg_pure (by rfl) (by rfl) (pu_load1 (by rfl) isAgg106 (HasE.has (by repeat constructor)) (u32s_get (l := s) (i := 3) (by rw [hs]; decide))) ?_
      first | (refine rg_pure (by rfl) (by rfl) (pu_field (by rfl) underlying111 (by rfl) sizeOf106 (by decide)) ?_) | (refine rg_pure (by rfl) (by rfl) (pu_fieldP (by rfl) underlying111 (by rfl) sizeOf106 (by decide) (src_some (SrcE.src (by repeat constructor)) (by omega))) ?_)
      refine rg_pure (by rfl) (by rfl) (pu_load1 (by rfl) isAgg106 (HasE.has (by repeat constructor)) (u32s_get (l := R) (i := 3) (by rw [hl]; decide))) ?_
      refine rg_pure (by rfl) (by rfl) (pu_add (by rfl) (by rfl)) ?_
      first | (refine rg_pure (by rfl) (by rfl) (pu_field (by rfl) underlying111 (by rfl) sizeOf106 (by decide)) ?_) | (refine rg_pure (by rfl) (by rfl) (pu_fieldP (by rfl) underlying111 (by rfl) sizeOf106 (by decide) (src_some (SrcE.src (by repeat constructor)) (by omega))) ?_)
      refine rg_pure (by rfl) (by rfl) (pu_load1 (by rfl) isAgg106 (HasE.has (by repeat constructor)) (u32s_get (l := s) (i := 4) (by rw [hs]; decide))) ?_
      first | (refine rg_pure (by rfl) (by rfl) (pu_field (by rfl) underlying111 (by rfl) sizeOf106 (by decide)) ?_) | (refine rg_pure (by rfl) (by rfl) (pu_fieldP (by rfl) underlying111 (by rfl) sizeOf106 (by decide) (src_some (SrcE.src (by repeat constructor)) (by omega))) ?_)
      refine rg_pure (by rfl) (by rfl) (pu_load1 (by rfl) isAgg106 (HasE.has (by repeat constructor)) (u32s_get (l := R) (i := 4) (by rw [hl]; decide))) ?_
      refine rg_pure (by rfl) (by rfl) (pu_add (by rfl) (by rfl)) ?_
      first | (refine rg_pure (by rfl) (by rfl) (pu_field (by rfl) underlying111 (by rfl) sizeOf106 (by decide)) ?_) | (refine rg_pure (by rfl) (by rfl) (pu_fieldP (by rfl) underlying111 (by rfl) sizeOf106 (by decide) (src_some (SrcE.src (by repeat constructor)) (by omega))) ?_)
      refine rg_pure (by rfl) (by rfl) (pu_load1 (by rfl) isAgg106 (HasE.has (by repeat constructor)) (u32s_get (l := s) (i := 5) (by rw [hs]; decide))) ?_
      first | (refine rg_pure (by rfl) (by rfl) (pu_field (by rfl) underlying111 (by rfl) sizeOf106 (by decide)) ?_) | (refine rg_pure (by rfl) (by rfl) (pu_fieldP (by rfl) underlying111 (by rfl) sizeOf106 (by decide) (src_some (SrcE.src (by repeat constructor)) (by omega))) ?_)
      refine rg_pure (by rfl) (by rfl) (pu_load1 (by rfl) isAgg106 (HasE.has (by repeat constructor)) (u32s_get (l := R) (i := 5) (by rw [hl]; decide))) ?_
      refine rg_pure (by rfl) (by rfl) (pu_add (by rfl) (by rfl)) ?_
      first | (refine rg_pure (by rfl) (by rfl) (pu_field (by rfl) underlying111 (by rfl) sizeOf106 (by decide)) ?_) | (refine rg_pure (by rfl) (by rfl) (pu_fieldP (by rfl) underlying111 (by rfl) sizeOf106 (by decide) (src_some (SrcE.src (by repeat constructor)) (by omega))) ?_)
      refine rg_pure (by rfl) (by rfl) (pu_load1 (by rfl) isAgg106 (HasE.has (by repeat constructor)) (u32s_get (l := s) (i := 6) (by rw [hs]; decide))) ?_
      first | (refine rg_pure (by rfl) (by rfl) (pu_field (by rfl) underlying111 (by rfl) sizeOf106 (by decide)) ?_) | (refine rg_pure (by rfl) (by rfl) (pu_fieldP (by rfl) underlying111 (by rfl) sizeOf106 (by decide) (src_some (SrcE.src (by repeat constructor)) (by omega))) ?_)
      refine rg_pure (by rfl) (by rfl) (pu_load1 (by rfl) isAgg106 (HasE.has (by repeat constructor)) (u32s_get (l := R) (i := 6) (by rw [hl]; decide))) ?_
      refine rg_pure (by rfl) (by rfl) (pu_add (by rfl) (by rfl)) ?_
      first | (refine rg_pure (by rfl) (by rfl) (pu_field (by rfl) underlying111 (by rfl) sizeOf106 (by decide)) ?_) | (refine rg_pure (by rfl) (by rfl) (pu_fieldP (by rfl) underlying111 (by rfl) sizeOf106 (by decide) (src_some (SrcE.src (by repeat constructor)) (by omega))) ?_)
      refine rg_pure (by rfl) (by rfl) (pu_load1 (by rfl) isAgg106 (HasE.has (by repeat constructor)) (u32s_get (l := s) (i := 7) (by rw [hs]; decide))) ?_
      first | (refine rg_pure (by rfl) (by rfl) (pu_field (by rfl) underlying111 (by rfl) sizeOf106 (by decide)) ?_) | (refine rg_pure (by rfl) (by rfl) (pu_fieldP (by rfl) underlying111 (by rfl) sizeOf106 (by decide) (src_some (SrcE.src (by repeat constructor)) (by omega))) ?_)
      refine rg_pure (by rfl) (by rfl) (pu_load1 (by rfl) isAgg106 (HasE.has (by repeat constructor)) (u32s_get (l := R) (i := 7) (by rw [hl]; decide))) ?_
      refine rg_pure (by rfl) (by rfl) (pu_add (by rfl) (by rfl)) ?_
      refine rg_pure (by rfl) (by rfl) (pu_build (cells := (u32s (turnS s b)).toArray) (by rw [turnS, hR, addS8 hl]; kernel_rfl)) ?_
      refine rg_loud (by rfl) (lo_storeV (vs := u32s (turnS s b)) (by rfl) (by rfl) (by rfl) (by repeat constructor) sizeOf111 (by first | (simp only [u8s_len, u32s_len, i64s_len, List.length_replicate, List.length_set, schedS_len, roundsS_len, addS_len, constS_len, turnS_len, *]; done) | rfl) (one_u32s _) (by first | (simp only [u8s_len, u32s_len, i64s_len, List.length_replicate, List.length_set, schedS_len, roundsS_len, addS_len, constS_len, turnS_len, *]; done) | rfl) ?_)
      refine rg_nil ?_
      refine t_ret ?_
      exact Fin.ret (res1 rfl (ResV.cellA (cs := u32s (turnS s b)) (by rfl) isAgg111 sizeOf111 (HasE.has (by repeat constructor)) (by first | (simp only [u8s_len, u32s_len, i64s_len, List.length_replicate, List.length_set, schedS_len, roundsS_len, addS_len, constS_len, turnS_len, *]; done) | rfl))) (by rfl)
end Go.Proofs.Ytpoecjeknolnoaa
