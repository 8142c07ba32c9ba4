/- Walks of functions that the statements of this seat reach: what each one hands back. Conditions: those that each theorem names. -/
import Derived.Test.YtpoecjeknolnoaaA30
import Derived.Test.YtpoecjeknolnoaaProg
import Derived.KernelRfl
namespace Go.Proofs.Ytpoecjeknolnoaa
open Go.RowKit Go.Proofs.HL Go.Proofs.Try
set_option maxRecDepth 10000
set_option linter.unusedSimpArgs false
set_option linter.unusedVariables false
attribute [local irreducible] T RG RA Pu Lo
theorem list8 {h : List Int} (hh : h.length = 8) : [h.getD 0 0, h.getD 1 0, h.getD 2 0, h.getD 3 0, h.getD 4 0, h.getD 5 0, h.getD 6 0, h.getD 7 0] = h := by
  match h, hh with
  | [a, b, c, d, e, f, g, i], _ => rfl
theorem padS_byte {l : List Int} (h : ∀ x ∈ l, 0 ≤ x ∧ x < 256) (j : Nat) : ∀ x ∈ padS l j, 0 ≤ x ∧ x < 256 := fun x hx => by
  rw [padS, List.mem_append, List.mem_append, List.mem_append] at hx
  rcases hx with ((hx | hx) | hx) | hx
  · exact h x hx
  · simp only [List.mem_singleton] at hx; rw [hx]; decide
  · rw [(List.mem_replicate.1 hx).2]; decide
  · obtain ⟨q, _, rfl⟩ := List.mem_map.1 hx
    exact wrap8_byte _
theorem chunk_byte {p : List Int} (h : ∀ x ∈ p, 0 ≤ x ∧ x < 256) (j : Nat) : ∀ x ∈ chunk p j, 0 ≤ x ∧ x < 256 := fun x hx => h x (List.mem_of_mem_drop (List.mem_of_mem_take hx))
set_option maxHeartbeats 2000000 in
theorem rsum_c (v : Value) (l : List Int) (hl : l.length ≤ 1000000) (hbl : ∀ x ∈ l, 0 ≤ x ∧ x < 256) (w : World) (hv : Sl w v 1 l.length (u8s l)) : Gives prog 67 [v].toArray w (.agg (u8s (sumS l)).toArray) := by
  refine gives_of_T func67 rfl 95 rfl rfl rfl [.sl v 1 l.length (u8s l)] ((holds0 w).addSl hv (by decide)) ?_
  refine t_seq_region ?_
  refine rg_loud (by rfl) (lo_alloc (cs := u8s (List.replicate 32 0)) (by rfl) zeroValue47 (by rfl) (fun b0 hb0 => ?_))
  refine rg_nil ?_
  refine t_seq_region ?_
  refine rg_loud (by rfl) (lo_buildRow0 (by rfl) underlying45 sizeOf5 (fun b1 hb1 => ?_))
  refine rg_pure (by rfl) (by rfl) (pu_moveE (v := v) (by rfl)) ?_
  refine rg_loud (by rfl) (lo_appendE (xs' := u8s l) (k' := l.length) elemOk45 (by rfl) (by rfl) (by rfl) (by repeat constructor) (src_sl (.tail _ (.tail _ (.head _)))) (one_u8s _) (by omega) (by simp) (by rfl) (fun v2 => ?_))
  refine rg_loud (by rfl) (lo_buildRow1 (cs := u8s [128]) (by rfl) underlying45 sizeOf5 (by decide) zeroValue5 (by rfl) (by kernel_rfl) (by rfl) (fun b3 hb3 => ?_))
  refine rg_loud (by rfl) (lo_appendE (xs' := u8s (l ++ [128])) (k' := l.length + 1) elemOk45 (by rfl) (by rfl) (by rfl) (by repeat constructor) (SrcE.src (by repeat constructor)) (one_u8s _) (by omega) (by rfl) (by simp [u8s]) (fun v4 => ?_))
  refine rg_pure (by rfl) (by rfl) (pu_assign) ?_
  refine rg_nil ?_
  refine t_seq ?_
  refine t_block ?_
  refine t_loop (σ := Nat × Value) (fun s => [(mkS, marksV []), (0, v), (2, .pointer (some ⟨b0, 0, none⟩)), (3, s.2)]) (fun s => [.row 5 1 s.2 (l.length + 1 + s.1) (u8s (l ++ [128] ++ List.replicate s.1 0)), .own b0 47 (u8s (List.replicate 32 0)), .sl v 1 l.length (u8s l)]) (fun s => s.1 ≤ padN l.length) (fun s => padN l.length - s.1) ((0, _) : Nat × Value) (Nat.zero_le _) (by repeat (first | exact agree_nil | refine agree_cons (by rfl) ?_)) (by simp only [List.replicate_zero, List.append_nil, Nat.add_zero]; repeat constructor) (fun s g hk => ?_)
  refine t_seq ?_
  refine t_seq_region ?_
  refine rg_pure (by rfl) (by rfl) (pu_moveE (by rfl)) ?_
  refine rg_pure (by rfl) (by rfl) (pu_len (by rfl) (SrcE.src (by repeat constructor)) (by rfl) underlying45) ?_
  refine rg_pure (by rfl) (by rfl) (pu_rem64 (by rfl) (by rfl) (by omega)) ?_
  refine rg_pure (by rfl) (by rfl) (pu_neq (by rfl) (by rfl)) ?_
  refine rg_nil ?_
  refine t_cond (by rfl) (fun hc0 => ?_) (fun hc0 => ?_)
  ·
    have hk1 : s.1 < padN l.length := by simp at hc0; simp only [padN] at *; omega
    refine t_skip ?_
    refine t_block ?_
    refine t_region ?_
    refine rg_pure (by rfl) (by rfl) (pu_moveE (by rfl)) ?_
    refine rg_loud (by rfl) (lo_buildRow1 (cs := u8s [0]) (by rfl) underlying45 sizeOf5 (by decide) zeroValue5 (by rfl) (by kernel_rfl) (by rfl) (fun b5 hb5 => ?_))
    refine rg_loud (by rfl) (lo_appendE (xs' := u8s (l ++ [128] ++ List.replicate (s.1 + 1) 0)) (k' := l.length + 1 + (s.1 + 1)) elemOk45 (by rfl) (by rfl) (by rfl) (by repeat constructor) (SrcE.src (by repeat constructor)) (one_u8s _) (by simp only [padN] at *; omega) (by omega) (pad_step _ _) (fun v6 => ?_))
    refine rg_pure (by rfl) (by rfl) (pu_assign) ?_
    refine rg_nil ?_
    exact ⟨(s.1 + 1, _), hk1, (by show padN l.length - (s.1 + 1) < padN l.length - s.1; omega), (by repeat (first | exact agree_nil | refine agree_cons (by rfl) ?_)), (by repeat constructor)⟩
  ·
    have hk1 : s.1 = padN l.length := by simp at hc0; simp only [padN] at *; omega
    rw [hk1]
    refine t_exit ?_
    refine t_seq_region ?_
    refine rg_pure (by rfl) (by rfl) (pu_moveE (v := v) (by rfl)) ?_
    refine rg_pure (by rfl) (by rfl) (pu_len (by rfl) (SrcE.src (by repeat constructor)) (by rfl) underlying45) ?_
    refine rg_pure (by rfl) (by rfl) (pu_conv (by rfl) underlying3 underlying105 (by rfl)) ?_
    refine rg_pure (by rfl) (by rfl) (pu_mul (by rfl) (by rfl)) ?_
    refine rg_pure (by rfl) (by rfl) (pu_assignE (v := .int .u64 (nbits l)) (by rfl)) ?_
    refine rg_nil ?_
    refine t_seq ?_
    refine t_seq_region ?_
    refine rg_pure (by rfl) (by rfl) (pu_assignE (v := .int .i64 _) (by rfl)) ?_
    refine rg_nil ?_
    refine t_block ?_
    refine t_loop (σ := Nat × Value) (fun s => [(mkS, marksV []), (0, v), (2, .pointer (some ⟨b0, 0, none⟩)), (3, s.2), (4, .int .u64 (nbits l)), (5, .int .i64 (56 - 8 * (s.1 : Int)))]) (fun s => [.row 5 1 s.2 (l.length + 1 + padN l.length + s.1) (u8s (padS l s.1)), .own b0 47 (u8s (List.replicate 32 0))]) (fun s => s.1 ≤ 8) (fun s => 8 - s.1) ((0, _) : Nat × Value) (Nat.zero_le _) (by repeat (first | exact agree_nil | refine agree_cons (by rfl) ?_)) (by simp only [padS, List.range_zero, List.map_nil, List.append_nil, Nat.add_zero]; repeat constructor) (fun s g hk => ?_)
    refine t_seq ?_
    refine t_seq_region ?_
    refine rg_pure (by rfl) (by rfl) (pu_moveE (v := .int .i64 _) (by rfl)) ?_
    refine rg_pure (by rfl) (by rfl) (pu_geq (by rfl) (by rfl)) ?_
    refine rg_nil ?_
    refine t_cond (by rfl) (fun hc1 => ?_) (fun hc1 => ?_)
    ·
      have hk1 : s.1 < 8 := by simp at hc1; omega
      refine t_skip ?_
      refine t_seq ?_
      refine t_block ?_
      refine t_region ?_
      refine rg_pure (by rfl) (by rfl) (pu_moveE (by rfl)) ?_
      refine rg_pure (by rfl) (by rfl) (pu_moveE (v := .int .u64 _) (by rfl)) ?_
      refine rg_pure (by rfl) (by rfl) (pu_moveE (v := .int .i64 _) (by rfl)) ?_
      refine rg_pure (by rfl) (by rfl) (pu_conv (b := 56 - 8 * (s.1 : Int)) (by rfl) underlying3 underlying80 (wraps_u64 _ (by omega) (by omega))) ?_
      refine rg_pure (by rfl) (by rfl) (pu_shr (by rfl) (by rfl) (by omega)) ?_
      refine rg_pure (by rfl) (by rfl) (pu_conv (by rfl) underlying105 underlying5 (by rfl)) ?_
      refine rg_loud (by rfl) (lo_buildRow1 (cs := u8s [lenByte l s.1]) (by rfl) underlying45 sizeOf5 (by decide) zeroValue5 (by rfl) (by kernel_rfl) (by rfl) (fun b7 hb7 => ?_))
      refine rg_loud (by rfl) (lo_appendE (xs' := u8s (padS l (s.1 + 1))) (k' := l.length + 1 + padN l.length + (s.1 + 1)) elemOk45 (by rfl) (by rfl) (by rfl) (by repeat constructor) (SrcE.src (by repeat constructor)) (one_u8s _) (by simp only [padN] at *; omega) (by omega) (padS_step _ _) (fun v8 => ?_))
      refine rg_pure (by rfl) (by rfl) (pu_assign) ?_
      refine rg_nil ?_
      refine t_region ?_
      refine rg_pure (by rfl) (by rfl) (pu_moveE (v := .int .i64 _) (by rfl)) ?_
      refine rg_pure (by rfl) (by rfl) (pu_sub64 (by rfl) (by rfl) (by omega)) ?_
      refine rg_pure (by rfl) (by rfl) (pu_assignE (v := .int .i64 (56 - 8 * ((s.1 + 1 : Nat) : Int))) (by show Value.int .i64 (56 - 8 * (s.1 : Int) - 8) = _; congr 1; omega)) ?_
      refine rg_nil ?_
      exact ⟨(s.1 + 1, _), hk1, (by show 8 - (s.1 + 1) < 8 - s.1; omega), (by repeat (first | exact agree_nil | refine agree_cons (by rfl) ?_)), (by repeat constructor)⟩
    ·
      have hk1 : s.1 = 8 := by simp at hc1; omega
      have hpl := padS_len l 8
      have hpb : (padS l 8).length ≤ 1000100 := by rw [hpl]; simp only [padN]; omega
      rw [hk1]
      generalize s.2 = u
      have hby := padS_byte hbl 8
      refine t_exit ?_
      refine t_seq_region ?_
      refine rg_pure (by rfl) (by rfl) (pu_build (cells := (u32s startS).toArray) (by kernel_rfl)) ?_
      refine rg_loud (by rfl) (lo_alloc (cs := u32s (List.replicate 8 0)) (by rfl) zeroValue111 (by rfl) (fun b9 hb9 => ?_))
      refine rg_loud (by rfl) (lo_storeV (vs := u32s startS) (by rfl) (by rfl) (by rfl) (by repeat constructor) sizeOf111 (by first | (simp only [u8s_len, u32s_len, i64s_len, List.length_replicate, List.length_set, outS_len, hashS_len, turnS_len, sumS_len, checkS_len, *]; done) | rfl) (one_u32s _) (by first | (simp only [u8s_len, u32s_len, i64s_len, List.length_replicate, List.length_set, outS_len, hashS_len, turnS_len, sumS_len, checkS_len, *]; done) | rfl) ?_)
      refine rg_nil ?_
      refine t_seq ?_
      refine t_seq_region ?_
      refine rg_pure (by rfl) (by rfl) (pu_assignE (v := .int .i64 _) (by rfl)) ?_
      refine rg_nil ?_
      refine t_block ?_
      refine t_loop (σ := Nat) (fun j => [(mkS, marksV []), (2, .pointer (some ⟨b0, 0, none⟩)), (3, u), (6, .pointer (some ⟨b9, 0, none⟩)), (7, .int .i64 (64 * j : Nat))]) (fun j => [.own b9 111 (u32s (hashS (padS l 8) j)), .row 5 1 u (l.length + 1 + padN l.length + 8) (u8s (padS l 8)), .own b0 47 (u8s (List.replicate 32 0))]) (fun j => j ≤ (padS l 8).length / 64) (fun j => (padS l 8).length / 64 - j) 0 (Nat.zero_le _) (by repeat (first | exact agree_nil | refine agree_cons (by rfl) ?_)) (by simp only [hashS_zero]; repeat constructor) (fun j g hj => ?_)
      refine t_seq ?_
      refine t_seq_region ?_
      refine rg_pure (by rfl) (by rfl) (pu_moveE (v := .int .i64 _) (by rfl)) ?_
      refine rg_pure (by rfl) (by rfl) (pu_moveE (by rfl)) ?_
      refine rg_pure (by rfl) (by rfl) (pu_len (by rfl) (SrcE.src (by repeat constructor)) (by rfl) underlying45) ?_
      refine rg_pure (by rfl) (by rfl) (pu_lss (by rfl) (by rfl)) ?_
      refine rg_nil ?_
      refine t_cond (by rfl) (fun hc2 => ?_) (fun hc2 => ?_)
      ·
        have hj1 : 64 * j + 64 ≤ (padS l 8).length := by rw [hpl]; simp at hc2; simp only [padN] at *; omega
        have hj2 : 64 * j + 64 ≤ l.length + 1 + padN l.length + 8 := by rw [← hpl]; exact hj1
        refine t_skip ?_
        refine t_seq ?_
        refine t_block ?_
        refine t_region_draw 7 8 _ mixed (Sub.refl _) (by rfl) (by decide +kernel) ?_
        refine ra_pure 0 1 rfl (by rfl) (by decide +kernel) (by rfl) (pu_loadAll (by rfl) isAgg111 sizeOf111 (HasE.has (by repeat constructor)) (by rw [u32s_len, hashS_len])) ?_
        refine ra_pure0 1 3 rfl (by rfl) (by decide +kernel) (by rfl) (pu_moveE (by rfl)) ?_
        refine ra_pure0 2 7 rfl (by rfl) (by decide +kernel) (by rfl) (pu_moveE (v := .int .i64 _) (by rfl)) ?_
        refine ra_pure0 3 15 rfl (by rfl) (by decide +kernel) (by rfl) (pu_moveE (v := .int .i64 _) (by rfl)) ?_
        refine ra_pure0 4 31 rfl (by rfl) (by decide +kernel) (by rfl) (pu_add64 (by rfl) (by rfl) (by omega)) ?_
        refine ra_pure 5 63 rfl (by rfl) (by decide +kernel) (by rfl) (pu_slice (l := 64 * j) (h := 64 * j + 64) (by rfl) (SrcE.src (by repeat constructor)) underlying45 sizeOf5 (bv_some (by rfl)) (bv_some (by rfl)) (by omega) hj2) ?_
        refine ra_next 6 127 (by decide +kernel) ?_
        refine next_loud rfl (by rfl) (lo_callFQ call74 (by rfl) (fun w hw => rblock_c _ (hashS_len _ _) _ (chunk (padS l 8) j) (chunk_len hj1) (chunk_byte hby j) w (chunk_src (SrcE.src (by repeat constructor)) hj2 w hw)) ⟨(fun _ => (by repeat constructor)), ?_⟩)
        refine ra_next 7 255 (by decide +kernel) ?_
        refine next_loud rfl (by rfl) (lo_storeV (vs := u32s (turnS (hashS (padS l 8) j) (chunk (padS l 8) j))) (by rfl) (by rfl) (by rfl) (by repeat constructor) sizeOf111 (by first | (simp only [u8s_len, u32s_len, i64s_len, List.length_replicate, List.length_set, outS_len, hashS_len, turnS_len, sumS_len, checkS_len, *]; done) | rfl) (one_u32s _) (by first | (simp only [u8s_len, u32s_len, i64s_len, List.length_replicate, List.length_set, outS_len, hashS_len, turnS_len, sumS_len, checkS_len, *]; done) | rfl) ⟨(fun hlt => absurd hlt (by decide +kernel)), ?_⟩)
        refine ra_end (by decide +kernel) ?_
        rw [← hashS_succ]
        refine t_region ?_
        refine rg_pure (by rfl) (by rfl) (pu_moveE (v := .int .i64 _) (by rfl)) ?_
        refine rg_pure (by rfl) (by rfl) (pu_add64 (by rfl) (by rfl) (by omega)) ?_
        refine rg_pure (by rfl) (by rfl) (pu_assignE (v := .int .i64 _) (by rfl)) ?_
        refine rg_nil ?_
        exact ⟨j + 1, (by show j + 1 ≤ _; omega), (by show (padS l 8).length / 64 - (j + 1) < (padS l 8).length / 64 - j; omega), (agree_cons (by rfl) (agree_cons (by rfl) (agree_cons (by rfl) (agree_cons (by rfl) (agree_cons (by show Value.int .i64 _ = _; rfl) agree_nil))))), (by repeat constructor)⟩
      ·
        have hj1 : j = (padS l 8).length / 64 := by rw [hpl] at hj ⊢; simp at hc2; simp only [padN] at *; omega
        subst hj1
        generalize hH : hashS (padS l 8) ((padS l 8).length / 64) = hh
        have hhl : hh.length = 8 := by rw [← hH]; exact hashS_len _ _
        refine t_exit ?_
        refine t_seq_region ?_
        first | (refine rg_pure (by rfl) (by rfl) (pu_field (by rfl) underlying111 (by rfl) sizeOf106 (by decide)) ?_) | (refine rg_pure (by rfl) (by rfl) (pu_fieldP (by rfl) underlying111 (by rfl) sizeOf106 (by decide) (src_some (SrcE.src (by repeat constructor)) (by omega))) ?_)
        refine rg_pure (by rfl) (by rfl) (pu_load1 (by rfl) isAgg106 (HasE.has (by repeat constructor)) (u32s_get (l := hh) (i := 0) (by rw [hhl]; decide))) ?_
        first | (refine rg_pure (by rfl) (by rfl) (pu_field (by rfl) underlying111 (by rfl) sizeOf106 (by decide)) ?_) | (refine rg_pure (by rfl) (by rfl) (pu_fieldP (by rfl) underlying111 (by rfl) sizeOf106 (by decide) (src_some (SrcE.src (by repeat constructor)) (by omega))) ?_)
        refine rg_pure (by rfl) (by rfl) (pu_load1 (by rfl) isAgg106 (HasE.has (by repeat constructor)) (u32s_get (l := hh) (i := 1) (by rw [hhl]; decide))) ?_
        first | (refine rg_pure (by rfl) (by rfl) (pu_field (by rfl) underlying111 (by rfl) sizeOf106 (by decide)) ?_) | (refine rg_pure (by rfl) (by rfl) (pu_fieldP (by rfl) underlying111 (by rfl) sizeOf106 (by decide) (src_some (SrcE.src (by repeat constructor)) (by omega))) ?_)
        refine rg_pure (by rfl) (by rfl) (pu_load1 (by rfl) isAgg106 (HasE.has (by repeat constructor)) (u32s_get (l := hh) (i := 2) (by rw [hhl]; decide))) ?_
        first | (refine rg_pure (by rfl) (by rfl) (pu_field (by rfl) underlying111 (by rfl) sizeOf106 (by decide)) ?_) | (refine rg_pure (by rfl) (by rfl) (pu_fieldP (by rfl) underlying111 (by rfl) sizeOf106 (by decide) (src_some (SrcE.src (by repeat constructor)) (by omega))) ?_)
        refine rg_pure (by rfl) (by rfl) (pu_load1 (by rfl) isAgg106 (HasE.has (by repeat constructor)) (u32s_get (l := hh) (i := 3) (by rw [hhl]; decide))) ?_
        first | (refine rg_pure (by rfl) (by rfl) (pu_field (by rfl) underlying111 (by rfl) sizeOf106 (by decide)) ?_) | (refine rg_pure (by rfl) (by rfl) (pu_fieldP (by rfl) underlying111 (by rfl) sizeOf106 (by decide) (src_some (SrcE.src (by repeat constructor)) (by omega))) ?_)
        refine rg_pure (by rfl) (by rfl) (pu_load1 (by rfl) isAgg106 (HasE.has (by repeat constructor)) (u32s_get (l := hh) (i := 4) (by rw [hhl]; decide))) ?_
        first | (refine rg_pure (by rfl) (by rfl) (pu_field (by rfl) underlying111 (by rfl) sizeOf106 (by decide)) ?_) | (refine rg_pure (by rfl) (by rfl) (pu_fieldP (by rfl) underlying111 (by rfl) sizeOf106 (by decide) (src_some (SrcE.src (by repeat constructor)) (by omega))) ?_)
        refine rg_pure (by rfl) (by rfl) (pu_load1 (by rfl) isAgg106 (HasE.has (by repeat constructor)) (u32s_get (l := hh) (i := 5) (by rw [hhl]; decide))) ?_
        first | (refine rg_pure (by rfl) (by rfl) (pu_field (by rfl) underlying111 (by rfl) sizeOf106 (by decide)) ?_) | (refine rg_pure (by rfl) (by rfl) (pu_fieldP (by rfl) underlying111 (by rfl) sizeOf106 (by decide) (src_some (SrcE.src (by repeat constructor)) (by omega))) ?_)
        refine rg_pure (by rfl) (by rfl) (pu_load1 (by rfl) isAgg106 (HasE.has (by repeat constructor)) (u32s_get (l := hh) (i := 6) (by rw [hhl]; decide))) ?_
        first | (refine rg_pure (by rfl) (by rfl) (pu_field (by rfl) underlying111 (by rfl) sizeOf106 (by decide)) ?_) | (refine rg_pure (by rfl) (by rfl) (pu_fieldP (by rfl) underlying111 (by rfl) sizeOf106 (by decide) (src_some (SrcE.src (by repeat constructor)) (by omega))) ?_)
        refine rg_pure (by rfl) (by rfl) (pu_load1 (by rfl) isAgg106 (HasE.has (by repeat constructor)) (u32s_get (l := hh) (i := 7) (by rw [hhl]; decide))) ?_
        refine rg_loud (by rfl) (lo_buildRow1 (cs := u32s [hh.getD 0 0, hh.getD 1 0, hh.getD 2 0, hh.getD 3 0, hh.getD 4 0, hh.getD 5 0, hh.getD 6 0, hh.getD 7 0]) (by rfl) underlying113 sizeOf106 (by decide) zeroValue106 (by rfl) (by kernel_rfl) (by rfl) (fun b10 hb10 => ?_))
        refine rg_pure (by rfl) (by rfl) (pu_assign) ?_
        refine rg_nil ?_
        rw [list8 hhl]
        refine t_seq_region ?_
        refine rg_loud (by rfl) (lo_alloc (cs := u8s (List.replicate 32 0)) (by rfl) zeroValue47 (by rfl) (fun b11 hb11 => ?_))
        refine rg_nil ?_
        refine t_seq ?_
        refine t_seq_region ?_
        refine rg_pure (by rfl) (by rfl) (pu_assignE (v := .int .i64 _) (by rfl)) ?_
        refine rg_nil ?_
        refine t_block ?_
        refine t_loop (σ := Nat) (fun i => [(mkS, marksV []), (2, .pointer (some ⟨b0, 0, none⟩)), (8, .slice (some ⟨b10, 0, none⟩) 8 8), (9, .pointer (some ⟨b11, 0, none⟩)), (10, .int .i64 (i : Int))]) (fun i => [.own b11 47 (u8s (outS hh (4 * i))), .row 106 1 (.slice (some ⟨b10, 0, none⟩) 8 8) 8 (u32s hh), .own b0 47 (u8s (List.replicate 32 0))]) (fun i => i ≤ 8) (fun i => 8 - i) 0 (Nat.zero_le _) (by repeat (first | exact agree_nil | refine agree_cons (by rfl) ?_)) (by simp only [Nat.mul_zero, outS_zero]; repeat constructor) (fun i g hi => ?_)
        refine t_seq ?_
        refine t_seq_region ?_
        refine rg_pure (by rfl) (by rfl) (pu_moveE (v := .int .i64 _) (by rfl)) ?_
        refine rg_pure (by rfl) (by rfl) (pu_lss (by rfl) (by rfl)) ?_
        refine rg_nil ?_
        refine t_cond (by rfl) (fun hc3 => ?_) (fun hc3 => ?_)
        ·
          have hi1 : i < 8 := by simp at hc3; omega
          refine t_skip ?_
          refine t_seq ?_
          refine t_block ?_
          refine t_seq_region ?_
          refine rg_pure (by rfl) (by rfl) (pu_assignE (v := .int .i64 _) (by rfl)) ?_
          refine rg_nil ?_
          refine t_block ?_
          refine t_loop (σ := Nat) (fun q => [(mkS, marksV []), (2, .pointer (some ⟨b0, 0, none⟩)), (8, .slice (some ⟨b10, 0, none⟩) 8 8), (9, .pointer (some ⟨b11, 0, none⟩)), (10, .int .i64 (i : Int)), (11, .int .i64 (q : Int))]) (fun q => [.own b11 47 (u8s (outS hh (4 * i + q))), .row 106 1 (.slice (some ⟨b10, 0, none⟩) 8 8) 8 (u32s hh), .own b0 47 (u8s (List.replicate 32 0))]) (fun q => q ≤ 4) (fun q => 4 - q) 0 (Nat.zero_le _) (by repeat (first | exact agree_nil | refine agree_cons (by rfl) ?_)) (by repeat constructor) (fun q g hq => ?_)
          refine t_seq ?_
          refine t_seq_region ?_
          refine rg_pure (by rfl) (by rfl) (pu_moveE (v := .int .i64 _) (by rfl)) ?_
          refine rg_pure (by rfl) (by rfl) (pu_lss (by rfl) (by rfl)) ?_
          refine rg_nil ?_
          refine t_cond (by rfl) (fun hc4 => ?_) (fun hc4 => ?_)
          ·
            have hq1 : q < 4 := by simp at hc4; omega
            have hol := outS_len hh (4 * i + q)
            refine t_skip ?_
            refine t_seq ?_
            refine t_block ?_
            refine t_region ?_
            refine rg_pure (by rfl) (by rfl) (pu_moveE (v := .int .i64 _) (by rfl)) ?_
            refine rg_pure (by rfl) (by rfl) (pu_mul64 (by rfl) (by rfl) (by omega)) ?_
            refine rg_pure (by rfl) (by rfl) (pu_moveE (v := .int .i64 _) (by rfl)) ?_
            refine rg_pure (by rfl) (by rfl) (pu_add64 (by rfl) (by rfl) (by omega)) ?_
            refine rg_pure (by rfl) (by rfl) (pu_moveE (v := .slice (some ⟨b10, 0, none⟩) 8 8) (by rfl)) ?_
            refine rg_pure (by rfl) (by rfl) (pu_moveE (v := .int .i64 _) (by rfl)) ?_
            refine rg_pure (by rfl) (by rfl) (pu_index1 (by rfl) (by rfl) (SrcE.src (by repeat constructor)) underlying113 sizeOf106 (by omega)) ?_
            refine rg_pure (by rfl) (by rfl) (pu_load1S (u := .int .u32 (hh.getD i 0)) (by rfl) isAgg106 (SrcE.src (by repeat constructor)) (u32s_get (by omega))) ?_
            refine rg_pure (by rfl) (by rfl) (pu_moveE (v := .int .i64 _) (by rfl)) ?_
            refine rg_pure (by rfl) (by rfl) (pu_mul64 (by rfl) (by rfl) (by omega)) ?_
            refine rg_pure (by rfl) (by rfl) (pu_sub64 (by rfl) (by rfl) (by omega)) ?_
            refine rg_pure (by rfl) (by rfl) (pu_conv (b := 24 - 8 * (q : Int)) (by rfl) underlying3 underlying80 (wraps_u64 _ (by omega) (by omega))) ?_
            refine rg_pure (by rfl) (by rfl) (pu_shr (by rfl) (by rfl) (by omega)) ?_
            refine rg_pure (by rfl) (by rfl) (pu_conv (by rfl) underlying106 underlying5 (by rfl)) ?_
            refine rg_pure (by rfl) (by rfl) (pu_indexArr1 (by rfl) (by rfl) underlying47 sizeOf5 (by omega)) ?_
            refine rg_loud (by rfl) (lo_store1E (v := .int .u8 _) (cs' := u8s (outS hh (4 * i + q + 1))) (by rfl) (by rfl) (by rfl) (by repeat constructor) sizeOf5 (by rfl) (by rw [u8s_len, hol]; omega) (by rw [outS_succ, u8s_set, byteS, show (4 * (i : Int) + (q : Int)).toNat = 4 * i + q by omega, show (4 * i + q) / 4 = i by omega, show (4 * i + q) % 4 = q by omega]) ?_)
            refine rg_nil ?_
            refine t_region ?_
            refine rg_pure (by rfl) (by rfl) (pu_moveE (v := .int .i64 _) (by rfl)) ?_
            refine rg_pure (by rfl) (by rfl) (pu_add64 (by rfl) (by rfl) (by omega)) ?_
            refine rg_pure (by rfl) (by rfl) (pu_assignE (v := .int .i64 _) (by rfl)) ?_
            refine rg_nil ?_
            exact ⟨q + 1, (by show q + 1 ≤ 4; omega), (by show 4 - (q + 1) < 4 - q; omega), (by repeat (first | exact agree_nil | refine agree_cons (by rfl) ?_)), (by repeat constructor)⟩
          ·
            have hq1 : q = 4 := by simp at hc4; omega
            subst hq1
            refine t_exit ?_
            refine t_region ?_
            refine rg_pure (by rfl) (by rfl) (pu_moveE (v := .int .i64 _) (by rfl)) ?_
            refine rg_pure (by rfl) (by rfl) (pu_add64 (by rfl) (by rfl) (by omega)) ?_
            refine rg_pure (by rfl) (by rfl) (pu_assignE (v := .int .i64 _) (by rfl)) ?_
            refine rg_nil ?_
            exact ⟨i + 1, (by show i + 1 ≤ 8; omega), (by show 8 - (i + 1) < 8 - i; omega), (by repeat (first | exact agree_nil | refine agree_cons (by rfl) ?_)), (by repeat constructor)⟩
        ·
          have hi1 : i = 8 := by simp at hc3; omega
          subst hi1
          have hol := outS_len hh (4 * 8)
          refine t_exit ?_
          refine t_seq_region ?_
          refine rg_pure (by rfl) (by rfl) (pu_loadAll (by rfl) isAgg47 sizeOf47 (HasE.has (by repeat constructor)) (by rw [u8s_len, hol])) ?_
          refine rg_loud (by rfl) (lo_storeV (vs := u8s (outS hh (4 * 8))) (by rfl) (by rfl) (by rfl) (by repeat constructor) sizeOf47 (by first | (simp only [u8s_len, u32s_len, i64s_len, List.length_replicate, List.length_set, outS_len, hashS_len, turnS_len, sumS_len, checkS_len, *]; done) | rfl) (one_u8s _) (by first | (simp only [u8s_len, u32s_len, i64s_len, List.length_replicate, List.length_set, outS_len, hashS_len, turnS_len, sumS_len, checkS_len, *]; done) | rfl) ?_)
          refine rg_nil ?_
          refine t_ret ?_
          exact Fin.ret (res1 rfl (ResV.cellA (cs := u8s (outS hh (4 * 8))) (by rfl) isAgg47 sizeOf47 (HasE.has (by repeat constructor)) (by first | (simp only [u8s_len, u32s_len, i64s_len, List.length_replicate, List.length_set, outS_len, hashS_len, turnS_len, sumS_len, checkS_len, *]; done) | rfl))) (by rw [sumS, hH])
theorem rcheck_c (v : Value) (l : List Int) (hl : l.length ≤ 1000000) (hbl : ∀ x ∈ l, 0 ≤ x ∧ x < 256) (w : World) (hv : Sl w v 1 l.length (u8s l)) :
    Calls prog 59 [v].toArray w (Ret [] w fun u w' => ∃ i : Value, True ∧ u = i ∧ Fresh w.heap.size [Ent.row 5 1 i 4 (u8s (checkS l))] w') := by
  refine hands_of_T func59 rfl 9 rfl rfl rfl [.sl v 1 l.length (u8s l)] ((holds0 w).addSl hv (by decide)) (fun _ => rfl) ?_
  refine t_seq_region ?_
  refine rg_pure (by rfl) (by rfl) (pu_assign) ?_
  refine rg_nil ?_
  refine t_seq_region ?_
  refine rg_pure (by rfl) (by rfl) (pu_moveE (v := v) (by rfl)) ?_
  refine rg_loud (by rfl) (lo_callFQ call67 (by rfl) (fun w hw => rsum_c v l hl hbl w ((SrcE.src (by repeat constructor)) w hw)) ?_)
  refine rg_loud (by rfl) (lo_alloc (cs := u8s (List.replicate 32 0)) (by rfl) zeroValue47 (by rfl) (fun b0 hb0 => ?_))
  refine rg_loud (by rfl) (lo_storeV (vs := u8s (sumS l)) (by rfl) (by rfl) (by rfl) (by repeat constructor) sizeOf47 (by first | (simp only [u8s_len, u32s_len, i64s_len, List.length_replicate, List.length_set, outS_len, hashS_len, turnS_len, sumS_len, checkS_len, *]; done) | rfl) (one_u8s _) (by first | (simp only [u8s_len, u32s_len, i64s_len, List.length_replicate, List.length_set, outS_len, hashS_len, turnS_len, sumS_len, checkS_len, *]; done) | rfl) ?_)
  refine rg_nil ?_
  refine t_seq_region ?_
  refine rg_loud (by rfl) (lo_buildRow0 (by rfl) underlying45 sizeOf5 (fun b1 hb1 => ?_))
  refine rg_pure (by rfl) (by rfl) (pu_sliceArr (l := 0) (h := 4) (by rfl) underlying47 sizeOf5 bv_none (bv_some (by rfl)) (by decide) (by decide) (by decide)) ?_
  refine rg_loud (by rfl) (lo_appendE (xs' := u8s (checkS l)) (k' := 4) elemOk45 (by rfl) (by rfl) (by rfl) (by repeat constructor) ((src_has (off := 0) (m := 4) (c := 32) (sz := 1) (HasE.has (by repeat constructor)) (by rw [u8s_len, sumS_len]; decide) (by decide) (by decide)).to (xs' := u8s (checkS l)) rfl (by rw [List.drop_zero, Nat.mul_one, u8s_take]; rfl)) (one_u8s _) (by omega) (by rfl) (List.nil_append _) (fun v2 => ?_))
  refine rg_pure (by rfl) (by rfl) (pu_assign) ?_
  refine rg_nil ?_
  refine t_ret ?_
  exact Fin.ret (res1 rfl .tmp) ⟨_, trivial, rfl, by repeat constructor⟩
theorem rseal_c (v : Value) (l : List Int) (hl : l.length ≤ 124) (hbl : ∀ x ∈ l, 0 ≤ x ∧ x < 256) (w : World) (hv : Sl w v 1 l.length (u8s l)) : Gives prog 45 [v].toArray w (.agg (u8s (sealS l)).toArray) := by
  have hsl : (sealS l).length = 128 := sealS_len hl
  refine gives_of_T func45 rfl 13 rfl rfl rfl [.sl v 1 l.length (u8s l)] ((holds0 w).addSl hv (by decide)) ?_
  refine t_seq_region ?_
  refine rg_loud (by rfl) (lo_alloc (cs := u8s (List.replicate 128 0)) (by rfl) zeroValue43 (by rfl) (fun b0 hb0 => ?_))
  refine rg_nil ?_
  refine t_seq_region ?_
  refine rg_loud (by rfl) (lo_alloc (cs := u8s (List.replicate 128 0)) (by rfl) zeroValue43 (by rfl) (fun b1 hb1 => ?_))
  refine rg_nil ?_
  refine t_seq_draw 7 8 [.sl v 1 l.length (u8s l)] mixed (by repeat constructor) (by rfl) (by decide +kernel) ?_
  refine ra_pure0 0 1 rfl (by rfl) (by decide +kernel) (by rfl) (pu_sliceArr (l := 0) (h := 128) (by rfl) underlying43 sizeOf5 bv_none bv_none (by decide) (by decide) (by decide)) ?_
  refine ra_pure0 2 5 rfl (by rfl) (by decide +kernel) (by rfl) (pu_moveE (v := v) (by rfl)) ?_
  refine ra_pure0 4 21 rfl (by rfl) (by decide +kernel) (by rfl) (pu_moveE (v := v) (by rfl)) ?_
  refine ra_next 1 23 (by decide +kernel) ?_
  refine next_loud rfl (by rfl) (lo_buildRow0 (by rfl) underlying45 sizeOf5 (fun b2 hb2 => ⟨(fun _ => (by repeat constructor)), ?_⟩))
  refine ra_next 3 31 (by decide +kernel) ?_
  refine next_loud rfl (by rfl) (lo_appendE (xs' := u8s l) (k' := l.length) elemOk45 (by rfl) (by rfl) (by rfl) (by repeat constructor) (src_sl (.tail _ (.tail _ (.tail _ (.head _))))) (one_u8s _) (by omega) (by simp) (by rfl) (fun v3 => ⟨(fun _ => (by repeat constructor)), ?_⟩))
  refine ra_next 5 63 (by decide +kernel) ?_
  refine next_loud rfl (by rfl) (lo_callR (E := fun u => .row 5 1 u 4 (u8s (checkS l))) call59 (by rfl) (fun w hw => rcheck_c v l (by omega) hbl w (src_sl (by simp) w hw)) (fun v4 => ⟨(fun _ => (by repeat constructor)), ?_⟩))
  refine ra_next 6 127 (by decide +kernel) ?_
  refine next_loud rfl (by rfl) (lo_appendE (xs' := u8s (l ++ checkS l)) (k' := l.length + 4) elemOk45 (by rfl) (by rfl) (by rfl) (by repeat constructor) (SrcE.src (by repeat constructor)) (one_u8s _) (by omega) (by rfl) (by simp [u8s]) (fun v4 => ⟨(fun _ => (by repeat constructor)), ?_⟩))
  refine ra_next 7 255 (by decide +kernel) ?_
  refine next_loud rfl (by rfl) (lo_copyOwn (kk := l.length + 4) (cs' := u8s (sealS l)) (by rfl) (by rfl) (by rfl) underlying45 sizeOf5 (by repeat constructor) (SrcE.src (by repeat constructor)) (one_u8s _) (by omega) (by rw [u8s_len, List.length_replicate]; omega) (seal_put hl) ⟨(fun hlt => absurd hlt (by decide +kernel)), ?_⟩)
  refine ra_end (by decide +kernel) ?_
  refine t_seq_region ?_
  refine rg_pure (by rfl) (by rfl) (pu_loadAll (by rfl) isAgg43 sizeOf43 (HasE.has (by repeat constructor)) (by rw [u8s_len, hsl])) ?_
  refine rg_loud (by rfl) (lo_storeV (vs := u8s (sealS l)) (by rfl) (by rfl) (by rfl) (by repeat constructor) sizeOf43 (by first | (simp only [u8s_len, u32s_len, i64s_len, List.length_replicate, List.length_set, outS_len, hashS_len, turnS_len, sumS_len, checkS_len, *]; done) | rfl) (one_u8s _) (by first | (simp only [u8s_len, u32s_len, i64s_len, List.length_replicate, List.length_set, outS_len, hashS_len, turnS_len, sumS_len, checkS_len, *]; done) | rfl) ?_)
  refine rg_nil ?_
  refine t_ret ?_
  exact Fin.ret (res1 rfl (ResV.cellA (cs := u8s (sealS l)) (by rfl) isAgg43 sizeOf43 (HasE.has (by repeat constructor)) (by first | (simp only [u8s_len, u32s_len, i64s_len, List.length_replicate, List.length_set, outS_len, hashS_len, turnS_len, sumS_len, checkS_len, *]; done) | rfl))) (by rfl)
end Go.Proofs.Ytpoecjeknolnoaa
