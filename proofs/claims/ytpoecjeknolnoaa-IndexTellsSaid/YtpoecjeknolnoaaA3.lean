/- Walks of functions that the statements of this seat reach: what each one hands back. Conditions: those that each theorem names. -/
import Derived.Test.YtpoecjeknolnoaaA2
import Derived.Test.YtpoecjeknolnoaaProg
import Derived.KernelRfl
namespace Go.Proofs.Ytpoecjeknolnoaa
open Go.RowKit Go.Proofs.HL Go.Proofs.Try
set_option maxRecDepth 10000
set_option linter.unusedSimpArgs false
set_option linter.unusedVariables false
attribute [local irreducible] T RG RA Pu Lo
theorem constS_len : constS.length = 64 := rfl
def turnX (W s : List Int) (k : Nat) : Int :=
  IntKind.u32.wrap (IntKind.u32.wrap (IntKind.u32.wrap (IntKind.u32.wrap (s.getD 7 0 + turnedS (s.getD 4 0) [6, 11, 25]) +
    bits .xor .u32 (bits .and .u32 (s.getD 4 0) (s.getD 5 0)) (bits .and .u32 (bits .xor .u32 (if IntKind.u32.signed then -1 else IntKind.u32.max) (s.getD 4 0)) (s.getD 6 0))) + constS.getD k 0) + W.getD k 0)
def turnY (s : List Int) : Int :=
  IntKind.u32.wrap (turnedS (s.getD 0 0) [2, 13, 22] + bits .xor .u32 (bits .xor .u32 (bits .and .u32 (s.getD 0 0) (s.getD 1 0)) (bits .and .u32 (s.getD 0 0) (s.getD 2 0))) (bits .and .u32 (s.getD 1 0) (s.getD 2 0)))
def roundS (W s : List Int) (k : Nat) : List Int :=
  [IntKind.u32.wrap (turnX W s k + turnY s), s.getD 0 0, s.getD 1 0, s.getD 2 0, IntKind.u32.wrap (s.getD 3 0 + turnX W s k), s.getD 4 0, s.getD 5 0, s.getD 6 0]
def roundsS (W h : List Int) (k : Nat) : List Int := (List.range k).foldl (roundS W) h
theorem roundsS_succ (W h : List Int) (k : Nat) : roundsS W h (k + 1) = roundS W (roundsS W h k) k := by simp [roundsS, List.range_succ, List.foldl_append]
theorem roundsS_len {h : List Int} (hh : h.length = 8) (W : List Int) (k : Nat) : (roundsS W h k).length = 8 := by
  cases k with
  | zero => exact hh
  | succ k => rw [roundsS_succ]; rfl
def addS (h s : List Int) (k : Nat) : List Int := (List.range k).foldl (fun s i => s.set i (IntKind.u32.wrap (s.getD i 0 + h.getD i 0))) s
theorem addS_zero (h s : List Int) : addS h s 0 = s := rfl
theorem addS_succ (h s : List Int) (k : Nat) : addS h s (k + 1) = (addS h s k).set k (IntKind.u32.wrap ((addS h s k).getD k 0 + h.getD k 0)) := by simp [addS, List.range_succ, List.foldl_append]
theorem addS_len {s : List Int} (hs : s.length = 8) (h : List Int) (k : Nat) : (addS h s k).length = 8 := by
  induction k with
  | zero => exact hs
  | succ k ih => rw [addS_succ, List.length_set, ih]
/-- What stands behind a chunk. -/
def turnS (h b : List Int) : List Int := addS h (roundsS (schedS b 64) h 64) 8
theorem turnS_len {h : List Int} (hh : h.length = 8) (b : List Int) : (turnS h b).length = 8 := addS_len (roundsS_len hh _ _) _ _
theorem turn_c (h : List Int) (hh : h.length = 8) (v : Value) (b : List Int) (hb : b.length = 64) (w : World) (hv : Sl w v 1 64 (u8s b)) : Gives prog 73 [.agg (u32s h).toArray, v].toArray w (.agg (u32s (turnS h b)).toArray) := by
  refine gives_of_T func73 rfl 102 rfl rfl rfl [.sl v 1 64 (u8s b)] ((holds0 w).addSl hv (by decide)) ?_
  refine t_seq_region ?_
  refine rg_loud (by rfl) (lo_boxA (by rfl) (by rfl) (fun b0 hb0 => ?_))
  refine rg_loud (by rfl) (lo_alloc (cs := u32s (List.replicate 8 0)) (by rfl) zeroValue107 (by rfl) (fun b1 hb1 => ?_))
  refine rg_nil ?_
  refine t_seq_region ?_
  refine rg_loud (by rfl) (lo_callFQ call76 (by rfl) (fun w hw => const_c w) ?_)
  refine rg_loud (by rfl) (lo_alloc (cs := u32s (List.replicate 64 0)) (by rfl) zeroValue115 (by rfl) (fun b2 hb2 => ?_))
  refine rg_loud (by rfl) (lo_storeV (vs := _) (by rfl) (by rfl) (by rfl) (by repeat constructor) sizeOf115 (by first | (simp only [u8s_len, u32s_len, i64s_len, List.length_replicate, List.length_set, schedS_len, roundsS_len, addS_len, constS_len, *]; done) | rfl) (one_u32s _) (by first | (simp only [u8s_len, u32s_len, i64s_len, List.length_replicate, List.length_set, schedS_len, roundsS_len, addS_len, constS_len, *]; done) | rfl) ?_)
  refine rg_nil ?_
  refine t_seq_region ?_
  refine rg_pure (by rfl) (by rfl) (pu_loadAll (by rfl) isAgg107 sizeOf107 (HasE.has (by repeat constructor)) (by first | (simp only [u8s_len, u32s_len, i64s_len, List.length_replicate, List.length_set, schedS_len, roundsS_len, addS_len, constS_len, *]; done) | rfl)) ?_
  refine rg_loud (by rfl) (lo_alloc (cs := u32s (List.replicate 8 0)) (by rfl) zeroValue107 (by rfl) (fun b3 hb3 => ?_))
  refine rg_loud (by rfl) (lo_storeV (vs := _) (by rfl) (by rfl) (by rfl) (by repeat constructor) sizeOf107 (by first | (simp only [u8s_len, u32s_len, i64s_len, List.length_replicate, List.length_set, schedS_len, roundsS_len, addS_len, constS_len, *]; done) | rfl) (one_u32s _) (by first | (simp only [u8s_len, u32s_len, i64s_len, List.length_replicate, List.length_set, schedS_len, roundsS_len, addS_len, constS_len, *]; done) | rfl) ?_)
  refine rg_nil ?_
  refine t_seq ?_
  refine t_seq_region ?_
  refine rg_pure (by rfl) (by rfl) (pu_moveE (by rfl)) ?_
  refine rg_loud (by rfl) (lo_callFQ call77 (by rfl) (fun w hw => sched_c _ b hb w (SrcE.src (by repeat constructor) w hw)) ?_)
  refine rg_pure (by rfl) (by rfl) (pu_moveE (v := .int .i64 _) (by rfl)) ?_
  refine rg_nil ?_
  refine t_block ?_
  refine t_loop (σ := Nat) (fun k => [(mkS, marksV []), (0, .agg (u32s h).toArray), (1, v), (2, .pointer (some ⟨b0, 0, none⟩)), (4, .pointer (some ⟨b1, 0, none⟩)), (5, .pointer (some ⟨b2, 0, none⟩)), (6, .pointer (some ⟨b3, 0, none⟩)), (15, .agg (u32s (schedS b 64)).toArray), (16, .int .i64 (k : Int))]) (fun k => [.own b3 107 (u32s (roundsS (schedS b 64) h k)), .own b2 115 (u32s constS), .own b1 107 (u32s (List.replicate 8 0)), .own b0 107 (u32s h), .sl v 1 64 (u8s b)]) (fun k => k ≤ 64) (fun k => 64 - k) 0 (by simp) (by repeat (first | exact agree_nil | refine agree_cons (by rfl) ?_)) (by repeat constructor) (fun k g hk => ?_)
  refine t_seq_region ?_
  refine rg_pure (by rfl) (by rfl) (pu_lss (by rfl) (by rfl)) ?_
  refine rg_nil ?_
  refine t_seq ?_
  refine t_cond (by rfl) (fun hc0 => ?_) (fun hc0 => ?_)
  ·
    have hk1 : k < 64 := by simp at hc0; omega
    have hl := roundsS_len hh (schedS b 64) k
    have hl2 := schedS_len b 64
    refine t_skip ?_
    refine t_seq ?_
    refine t_block ?_
    refine t_seq_region ?_
    refine rg_pure (by rfl) (by rfl) (pu_moveE (v := .int .i64 _) (by rfl)) ?_
    refine rg_pure (by rfl) (by rfl) (pu_at1 (by rfl) (by rfl) underlying115 sizeOf106 isAgg106 (by omega) (u32s_get (by rw [hl2]; omega))) ?_
    refine rg_pure (by rfl) (by rfl) (pu_assignE (v := .int .i64 _) (by rfl)) ?_
    refine rg_pure (by rfl) (by rfl) (pu_assignE (v := .int .u32 _) (by rfl)) ?_
    refine rg_nil ?_
    refine t_seq_draw 27 27 _ mixed (Sub.refl _) (by rfl) (by decide +kernel) ?_
    refine ra_pure0 0 1 rfl (by rfl) (by decide +kernel) (by rfl) (pu_indexArr1 (by rfl) (by rfl) underlying107 sizeOf106 (by omega)) ?_
    refine ra_pure 1 3 rfl (by rfl) (by decide +kernel) (by rfl) (pu_load1 (by rfl) isAgg106 (HasE.has (by repeat constructor)) (u32s_get (by rw [hl]; decide))) ?_
    refine ra_pure0 2 7 rfl (by rfl) (by decide +kernel) (by rfl) (pu_indexArr1 (by rfl) (by rfl) underlying107 sizeOf106 (by omega)) ?_
    refine ra_pure 3 15 rfl (by rfl) (by decide +kernel) (by rfl) (pu_load1 (by rfl) isAgg106 (HasE.has (by repeat constructor)) (u32s_get (by rw [hl]; decide))) ?_
    refine ra_pure0 7 143 rfl (by rfl) (by decide +kernel) (by rfl) (pu_indexArr1 (by rfl) (by rfl) underlying107 sizeOf106 (by omega)) ?_
    refine ra_pure 8 399 rfl (by rfl) (by decide +kernel) (by rfl) (pu_load1 (by rfl) isAgg106 (HasE.has (by repeat constructor)) (u32s_get (by rw [hl]; decide))) ?_
    refine ra_pure0 9 911 rfl (by rfl) (by decide +kernel) (by rfl) (pu_indexArr1 (by rfl) (by rfl) underlying107 sizeOf106 (by omega)) ?_
    refine ra_pure 10 1935 rfl (by rfl) (by decide +kernel) (by rfl) (pu_load1 (by rfl) isAgg106 (HasE.has (by repeat constructor)) (u32s_get (by rw [hl]; decide))) ?_
    refine ra_pure0 11 3983 rfl (by rfl) (by decide +kernel) (by rfl) (pu_and (by rfl) (by rfl)) ?_
    refine ra_pure0 12 8079 rfl (by rfl) (by decide +kernel) (by rfl) (pu_indexArr1 (by rfl) (by rfl) underlying107 sizeOf106 (by omega)) ?_
    refine ra_pure 13 16271 rfl (by rfl) (by decide +kernel) (by rfl) (pu_load1 (by rfl) isAgg106 (HasE.has (by repeat constructor)) (u32s_get (by rw [hl]; decide))) ?_
    refine ra_pure0 14 32655 rfl (by rfl) (by decide +kernel) (by rfl) (pu_xor1 (by rfl)) ?_
    refine ra_pure0 15 65423 rfl (by rfl) (by decide +kernel) (by rfl) (pu_indexArr1 (by rfl) (by rfl) underlying107 sizeOf106 (by omega)) ?_
    refine ra_pure 16 130959 rfl (by rfl) (by decide +kernel) (by rfl) (pu_load1 (by rfl) isAgg106 (HasE.has (by repeat constructor)) (u32s_get (by rw [hl]; decide))) ?_
    refine ra_pure0 17 262031 rfl (by rfl) (by decide +kernel) (by rfl) (pu_and (by rfl) (by rfl)) ?_
    refine ra_pure0 18 524175 rfl (by rfl) (by decide +kernel) (by rfl) (pu_xor (by rfl) (by rfl)) ?_
    refine ra_pure0 20 1572751 rfl (by rfl) (by decide +kernel) (by rfl) (pu_moveE (v := .int .i64 _) (by rfl)) ?_
    refine ra_pure0 21 3669903 rfl (by rfl) (by decide +kernel) (by rfl) (pu_indexArr1 (by rfl) (by rfl) underlying115 sizeOf106 (by omega)) ?_
    refine ra_pure 22 7864207 rfl (by rfl) (by decide +kernel) (by rfl) (pu_load1 (by rfl) isAgg106 (HasE.has (by repeat constructor)) (u32s_get (by rw [constS_len]; omega))) ?_
    refine ra_pure0 24 24641423 rfl (by rfl) (by decide +kernel) (by rfl) (pu_moveE (v := .int .u32 _) (by rfl)) ?_
    refine ra_next 4 24641439 (by decide +kernel) ?_
    refine next_loud rfl (by rfl) (lo_buildRow1 (cs := i64s [6, 11, 25]) (by rfl) underlying23 sizeOf3 (by decide) zeroValue3 (by rfl) (by kernel_rfl) (by rfl) (fun b4 hb4 => ⟨(fun _ => (by repeat constructor)), ?_⟩))
    refine ra_next 5 24641471 (by decide +kernel) ?_
    refine next_loud rfl (by rfl) (lo_callFQ call78 (by rfl) (fun w hw => turned_c _ _ [6, 11, 25] w (SrcE.src (by repeat constructor) w hw)) ⟨(fun _ => (by repeat constructor)), ?_⟩)
    refine ra_pure0 6 24641535 rfl (by rfl) (by decide +kernel) (by rfl) (pu_add (by rfl) (by rfl)) ?_
    refine ra_pure0 19 25165823 rfl (by rfl) (by decide +kernel) (by rfl) (pu_add (by rfl) (by rfl)) ?_
    refine ra_pure0 23 33554431 rfl (by rfl) (by decide +kernel) (by rfl) (pu_add (by rfl) (by rfl)) ?_
    refine ra_pure0 25 67108863 rfl (by rfl) (by decide +kernel) (by rfl) (pu_add (by rfl) (by rfl)) ?_
    refine ra_pure0 26 134217727 rfl (by rfl) (by decide +kernel) (by rfl) (pu_assignE (v := .int .u32 _) (by rfl)) ?_
    refine ra_end (by decide +kernel) ?_
    refine t_seq_draw 23 23 _ mixed (Sub.refl _) (by rfl) (by decide +kernel) ?_
    refine ra_pure0 0 1 rfl (by rfl) (by decide +kernel) (by rfl) (pu_indexArr1 (by rfl) (by rfl) underlying107 sizeOf106 (by omega)) ?_
    refine ra_pure 1 3 rfl (by rfl) (by decide +kernel) (by rfl) (pu_load1 (by rfl) isAgg106 (HasE.has (by repeat constructor)) (u32s_get (by rw [hl]; decide))) ?_
    refine ra_pure0 4 19 rfl (by rfl) (by decide +kernel) (by rfl) (pu_indexArr1 (by rfl) (by rfl) underlying107 sizeOf106 (by omega)) ?_
    refine ra_pure 5 51 rfl (by rfl) (by decide +kernel) (by rfl) (pu_load1 (by rfl) isAgg106 (HasE.has (by repeat constructor)) (u32s_get (by rw [hl]; decide))) ?_
    refine ra_pure0 6 115 rfl (by rfl) (by decide +kernel) (by rfl) (pu_indexArr1 (by rfl) (by rfl) underlying107 sizeOf106 (by omega)) ?_
    refine ra_pure 7 243 rfl (by rfl) (by decide +kernel) (by rfl) (pu_load1 (by rfl) isAgg106 (HasE.has (by repeat constructor)) (u32s_get (by rw [hl]; decide))) ?_
    refine ra_pure0 8 499 rfl (by rfl) (by decide +kernel) (by rfl) (pu_and (by rfl) (by rfl)) ?_
    refine ra_pure0 9 1011 rfl (by rfl) (by decide +kernel) (by rfl) (pu_indexArr1 (by rfl) (by rfl) underlying107 sizeOf106 (by omega)) ?_
    refine ra_pure 10 2035 rfl (by rfl) (by decide +kernel) (by rfl) (pu_load1 (by rfl) isAgg106 (HasE.has (by repeat constructor)) (u32s_get (by rw [hl]; decide))) ?_
    refine ra_pure0 11 4083 rfl (by rfl) (by decide +kernel) (by rfl) (pu_indexArr1 (by rfl) (by rfl) underlying107 sizeOf106 (by omega)) ?_
    refine ra_pure 12 8179 rfl (by rfl) (by decide +kernel) (by rfl) (pu_load1 (by rfl) isAgg106 (HasE.has (by repeat constructor)) (u32s_get (by rw [hl]; decide))) ?_
    refine ra_pure0 13 16371 rfl (by rfl) (by decide +kernel) (by rfl) (pu_and (by rfl) (by rfl)) ?_
    refine ra_pure0 14 32755 rfl (by rfl) (by decide +kernel) (by rfl) (pu_xor (by rfl) (by rfl)) ?_
    refine ra_pure0 15 65523 rfl (by rfl) (by decide +kernel) (by rfl) (pu_indexArr1 (by rfl) (by rfl) underlying107 sizeOf106 (by omega)) ?_
    refine ra_pure 16 131059 rfl (by rfl) (by decide +kernel) (by rfl) (pu_load1 (by rfl) isAgg106 (HasE.has (by repeat constructor)) (u32s_get (by rw [hl]; decide))) ?_
    refine ra_pure0 17 262131 rfl (by rfl) (by decide +kernel) (by rfl) (pu_indexArr1 (by rfl) (by rfl) underlying107 sizeOf106 (by omega)) ?_
    refine ra_pure 18 524275 rfl (by rfl) (by decide +kernel) (by rfl) (pu_load1 (by rfl) isAgg106 (HasE.has (by repeat constructor)) (u32s_get (by rw [hl]; decide))) ?_
    refine ra_pure0 19 1048563 rfl (by rfl) (by decide +kernel) (by rfl) (pu_and (by rfl) (by rfl)) ?_
    refine ra_pure0 20 2097139 rfl (by rfl) (by decide +kernel) (by rfl) (pu_xor (by rfl) (by rfl)) ?_
    refine ra_next 2 2097143 (by decide +kernel) ?_
    refine next_loud rfl (by rfl) (lo_buildRow1 (cs := i64s [2, 13, 22]) (by rfl) underlying23 sizeOf3 (by decide) zeroValue3 (by rfl) (by kernel_rfl) (by rfl) (fun b5 hb5 => ⟨(fun _ => (by repeat constructor)), ?_⟩))
    refine ra_next 3 2097151 (by decide +kernel) ?_
    refine next_loud rfl (by rfl) (lo_callFQ call78 (by rfl) (fun w hw => turned_c _ _ [2, 13, 22] w (SrcE.src (by repeat constructor) w hw)) ⟨(fun _ => (by repeat constructor)), ?_⟩)
    refine ra_pure0 21 4194303 rfl (by rfl) (by decide +kernel) (by rfl) (pu_add (by rfl) (by rfl)) ?_
    refine ra_pure0 22 8388607 rfl (by rfl) (by decide +kernel) (by rfl) (pu_assignE (v := .int .u32 _) (by rfl)) ?_
    refine ra_end (by decide +kernel) ?_
    refine t_region ?_
    refine rg_pure (by rfl) (by rfl) (pu_moveE (v := .int .u32 _) (by rfl)) ?_
    refine rg_pure (by rfl) (by rfl) (pu_moveE (v := .int .u32 _) (by rfl)) ?_
    refine rg_pure (by rfl) (by rfl) (pu_add (by rfl) (by rfl)) ?_
    refine rg_pure (by rfl) (by rfl) (pu_indexArr1 (by rfl) (by rfl) underlying107 sizeOf106 (by omega)) ?_
    refine rg_pure (by rfl) (by rfl) (pu_load1 (by rfl) isAgg106 (HasE.has (by repeat constructor)) (u32s_get (by rw [hl]; decide))) ?_
    refine rg_pure (by rfl) (by rfl) (pu_indexArr1 (by rfl) (by rfl) underlying107 sizeOf106 (by omega)) ?_
    refine rg_pure (by rfl) (by rfl) (pu_load1 (by rfl) isAgg106 (HasE.has (by repeat constructor)) (u32s_get (by rw [hl]; decide))) ?_
    refine rg_pure (by rfl) (by rfl) (pu_indexArr1 (by rfl) (by rfl) underlying107 sizeOf106 (by omega)) ?_
    refine rg_pure (by rfl) (by rfl) (pu_load1 (by rfl) isAgg106 (HasE.has (by repeat constructor)) (u32s_get (by rw [hl]; decide))) ?_
    refine rg_pure (by rfl) (by rfl) (pu_indexArr1 (by rfl) (by rfl) underlying107 sizeOf106 (by omega)) ?_
    refine rg_pure (by rfl) (by rfl) (pu_load1 (by rfl) isAgg106 (HasE.has (by repeat constructor)) (u32s_get (by rw [hl]; decide))) ?_
    refine rg_pure (by rfl) (by rfl) (pu_moveE (v := .int .u32 _) (by rfl)) ?_
    refine rg_pure (by rfl) (by rfl) (pu_add (by rfl) (by rfl)) ?_
    refine rg_pure (by rfl) (by rfl) (pu_indexArr1 (by rfl) (by rfl) underlying107 sizeOf106 (by omega)) ?_
    refine rg_pure (by rfl) (by rfl) (pu_load1 (by rfl) isAgg106 (HasE.has (by repeat constructor)) (u32s_get (by rw [hl]; decide))) ?_
    refine rg_pure (by rfl) (by rfl) (pu_indexArr1 (by rfl) (by rfl) underlying107 sizeOf106 (by omega)) ?_
    refine rg_pure (by rfl) (by rfl) (pu_load1 (by rfl) isAgg106 (HasE.has (by repeat constructor)) (u32s_get (by rw [hl]; decide))) ?_
    refine rg_pure (by rfl) (by rfl) (pu_indexArr1 (by rfl) (by rfl) underlying107 sizeOf106 (by omega)) ?_
    refine rg_pure (by rfl) (by rfl) (pu_load1 (by rfl) isAgg106 (HasE.has (by repeat constructor)) (u32s_get (by rw [hl]; decide))) ?_
    refine rg_pure (by rfl) (by rfl) (pu_build (cells := (u32s (roundS (schedS b 64) (roundsS (schedS b 64) h k) k)).toArray) (by kernel_rfl)) ?_
    refine rg_loud (by rfl) (lo_storeV (vs := u32s (roundS (schedS b 64) (roundsS (schedS b 64) h k) k)) (by rfl) (by rfl) (by rfl) (by repeat constructor) sizeOf107 (by first | (simp only [u8s_len, u32s_len, i64s_len, List.length_replicate, List.length_set, schedS_len, roundsS_len, addS_len, constS_len, *]; done) | rfl) (one_u32s _) (by first | (simp only [u8s_len, u32s_len, i64s_len, List.length_replicate, List.length_set, schedS_len, roundsS_len, addS_len, constS_len, *]; done) | rfl) ?_)
    refine rg_nil ?_
    rw [← roundsS_succ]
    refine t_region ?_
    refine rg_pure (by rfl) (by rfl) (pu_add64 (by rfl) (by rfl) (by omega)) ?_
    refine rg_pure (by rfl) (by rfl) (pu_moveE (v := .int .i64 _) (by rfl)) ?_
    refine rg_nil ?_
    exact ⟨k + 1, (by omega), (by omega), (by repeat (first | exact agree_nil | refine agree_cons (by rfl) ?_)), (by repeat constructor)⟩
  ·
    have hk1 : k = 64 := by simp at hc0; omega
    subst hk1
    have hl := roundsS_len hh (schedS b 64) 64
    refine t_exit ?_
    refine t_seq ?_
    refine t_seq_region ?_
    refine rg_pure (by rfl) (by rfl) (pu_moveE (v := .int .i64 _) (by rfl)) ?_
    refine rg_nil ?_
    refine t_block ?_
    refine t_loop (σ := Nat) (fun k => [(mkS, marksV []), (0, .agg (u32s h).toArray), (1, v), (2, .pointer (some ⟨b0, 0, none⟩)), (4, .pointer (some ⟨b1, 0, none⟩)), (5, .pointer (some ⟨b2, 0, none⟩)), (6, .pointer (some ⟨b3, 0, none⟩)), (89, .int .i64 (k : Int))]) (fun k => [.own b3 107 (u32s (addS h (roundsS (schedS b 64) h 64) k)), .own b2 115 (u32s constS), .own b1 107 (u32s (List.replicate 8 0)), .own b0 107 (u32s h), .sl v 1 64 (u8s b)]) (fun k => k ≤ 8) (fun k => 8 - k) 0 (by simp) (by repeat (first | exact agree_nil | refine agree_cons (by rfl) ?_)) (by simp only [addS_zero]; repeat constructor) (fun k g hk => ?_)
    refine t_seq_region ?_
    refine rg_pure (by rfl) (by rfl) (pu_lss (by rfl) (by rfl)) ?_
    refine rg_nil ?_
    refine t_seq ?_
    refine t_cond (by rfl) (fun hc1 => ?_) (fun hc1 => ?_)
    ·
      have hk1 : k < 8 := by simp at hc1; omega
      have hl3 := addS_len hl h k
      refine t_skip ?_
      refine t_seq ?_
      refine t_block ?_
      refine t_seq_region ?_
      refine rg_pure (by rfl) (by rfl) (pu_moveE (v := .int .i64 _) (by rfl)) ?_
      refine rg_pure (by rfl) (by rfl) (pu_assignE (v := .int .i64 _) (by rfl)) ?_
      refine rg_nil ?_
      refine t_region_draw 8 9 _ mixed (Sub.refl _) (by rfl) (by decide +kernel) ?_
      refine ra_pure0 0 1 rfl (by rfl) (by decide +kernel) (by rfl) (pu_moveE (v := .int .i64 _) (by rfl)) ?_
      refine ra_pure0 1 3 rfl (by rfl) (by decide +kernel) (by rfl) (pu_indexArr1 (by rfl) (by rfl) underlying107 sizeOf106 (by omega)) ?_
      refine ra_pure 2 7 rfl (by rfl) (by decide +kernel) (by rfl) (pu_load1 (by rfl) isAgg106 (HasE.has (by repeat constructor)) (u32s_get (by rw [hl3]; omega))) ?_
      refine ra_pure0 3 15 rfl (by rfl) (by decide +kernel) (by rfl) (pu_moveE (v := .int .i64 _) (by rfl)) ?_
      refine ra_pure0 4 31 rfl (by rfl) (by decide +kernel) (by rfl) (pu_indexArr1 (by rfl) (by rfl) underlying107 sizeOf106 (by omega)) ?_
      refine ra_pure 5 63 rfl (by rfl) (by decide +kernel) (by rfl) (pu_load1 (by rfl) isAgg106 (HasE.has (by repeat constructor)) (u32s_get (by rw [hh]; omega))) ?_
      refine ra_pure0 6 127 rfl (by rfl) (by decide +kernel) (by rfl) (pu_add (by rfl) (by rfl)) ?_
      refine ra_pure0 7 255 rfl (by rfl) (by decide +kernel) (by rfl) (pu_indexArr1 (by rfl) (by rfl) underlying107 sizeOf106 (by omega)) ?_
      refine ra_next 8 511 (by decide +kernel) ?_
      refine next_loud rfl (by rfl) (lo_store1E (v := .int .u32 _) (cs' := u32s (addS h (roundsS (schedS b 64) h 64) (k + 1))) (by rfl) (by rfl) (by rfl) (by repeat constructor) sizeOf106 (by rfl) (by rw [u32s_len, hl3]; omega) (by rw [addS_succ, u32s_set]; rfl) ⟨(fun hlt => absurd hlt (by decide +kernel)), ?_⟩)
      refine ra_end (by decide +kernel) ?_
      refine t_region ?_
      refine rg_pure (by rfl) (by rfl) (pu_add64 (by rfl) (by rfl) (by omega)) ?_
      refine rg_pure (by rfl) (by rfl) (pu_moveE (v := .int .i64 _) (by rfl)) ?_
      refine rg_nil ?_
      exact ⟨k + 1, (by omega), (by omega), (by repeat (first | exact agree_nil | refine agree_cons (by rfl) ?_)), (by repeat constructor)⟩
    ·
      have hk1 : k = 8 := by simp at hc1; omega
      subst hk1
      have hl3 := addS_len hl h 8
      refine t_exit ?_
      refine t_seq_region ?_
      refine rg_pure (by rfl) (by rfl) (pu_loadAll (by rfl) isAgg107 sizeOf107 (HasE.has (by repeat constructor)) (by first | (simp only [u8s_len, u32s_len, i64s_len, List.length_replicate, List.length_set, schedS_len, roundsS_len, addS_len, constS_len, *]; done) | rfl)) ?_
      refine rg_loud (by rfl) (lo_storeV (vs := _) (by rfl) (by rfl) (by rfl) (by repeat constructor) sizeOf107 (by first | (simp only [u8s_len, u32s_len, i64s_len, List.length_replicate, List.length_set, schedS_len, roundsS_len, addS_len, constS_len, *]; done) | rfl) (one_u32s _) (by first | (simp only [u8s_len, u32s_len, i64s_len, List.length_replicate, List.length_set, schedS_len, roundsS_len, addS_len, constS_len, *]; done) | rfl) ?_)
      refine rg_nil ?_
      refine t_ret ?_
      exact Fin.ret (res1 rfl (ResV.cellA (cs := _) (by rfl) isAgg107 sizeOf107 (HasE.has (by repeat constructor)) (by first | (simp only [u8s_len, u32s_len, i64s_len, List.length_replicate, List.length_set, schedS_len, roundsS_len, addS_len, constS_len, *]; done) | rfl))) (by rfl)
end Go.Proofs.Ytpoecjeknolnoaa
