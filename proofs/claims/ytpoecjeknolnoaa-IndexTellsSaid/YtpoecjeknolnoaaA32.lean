/- Walks of functions that the statements of this seat reach: what each one hands back. Conditions: those that each theorem names. -/
import Derived.Test.YtpoecjeknolnoaaA31
import Derived.Test.YtpoecjeknolnoaaProg
import Derived.KernelRfl
namespace Go.Proofs.Ytpoecjeknolnoaa
open Go.RowKit Go.Proofs.HL Go.Proofs.Try
set_option maxRecDepth 10000
set_option linter.unusedSimpArgs false
set_option linter.unusedVariables false
attribute [local irreducible] T RG RA Pu Lo
theorem rgBad_eq (l : List En) (i : Nat) : rgBad l i = badE l i := by
  rw [rgBad, badE_split, riseBad, ← leafGood_1, Bool.or_comm]
  congr 1
  have h : leafGood [l.getD i d0] = !badE [l.getD i d0] 0 := by simp [leafGood]
  rw [h, Bool.not_not]
theorem idxA_some : ∀ {p : List Int} {x : Int} {i : Int}, x ∈ p → 0 ≤ i → 0 ≤ idxA p x i
  | [], _, _, h, _ => nomatch h
  | y :: r, x, i, h, hi => by
    rw [idxA]
    split
    · exact hi
    · rename_i hc
      rcases List.mem_cons.1 h with rfl | h
      · simp at hc
      · exact idxA_some h (by omega)
theorem rleafGood_c (v : Value) (l : List En) (hk : KeysOk l) (w : World) (hv : Sl w v 35 l.length (encEs l)) : Gives prog 44 [v].toArray w (.bool (leafGood l)) := by
  have hb := hv.len
  refine gives_of_T func44 rfl 43 rfl rfl rfl [.sl v 35 l.length (encEs l)] ((holds0 w).addSl hv (by decide)) ?_
  refine t_seq_region ?_
  refine rg_pure (by rfl) (by rfl) (pu_assignE (v := .bool _) (by rfl)) ?_
  refine rg_nil ?_
  refine t_seq ?_
  refine t_seq_region ?_
  refine rg_pure (by rfl) (by rfl) (pu_assignE (v := .int .i64 _) (by rfl)) ?_
  refine rg_nil ?_
  refine t_block ?_
  refine t_loop (σ := Nat) (fun k => [(mkS, marksV []), (0, v), (3, .int .i64 (k : Int))]) (fun k => [.sl v 35 l.length (encEs l)]) (fun k => k ≤ l.length ∧ ∀ i, i < k → badE l i = false) (fun k => l.length - k) 0 ⟨Nat.zero_le _, fun _ h => absurd h (Nat.not_lt_zero _)⟩ (by repeat (first | exact agree_nil | refine agree_cons (by rfl) ?_)) (by repeat constructor) (fun k g hkk => ?_)
  obtain ⟨hk2, hk3⟩ := hkk
  refine t_seq ?_
  refine t_seq_region ?_
  refine rg_pure (by rfl) (by rfl) (pu_moveE (v := .int .i64 _) (by rfl)) ?_
  refine rg_pure (by rfl) (by rfl) (pu_moveE (v := v) (by rfl)) ?_
  refine rg_pure (by rfl) (by rfl) (pu_len (by rfl) (SrcE.src (by repeat constructor)) (by rfl) underlying22) ?_
  refine rg_pure (by rfl) (by rfl) (pu_lss (by rfl) (by rfl)) ?_
  refine rg_nil ?_
  refine t_cond (by rfl) (fun hc0 => ?_) (fun hc0 => ?_)
  ·
    have hk1 : k < l.length := by simp at hc0; omega
    refine t_skip ?_
    refine t_seq ?_
    refine t_block ?_
    refine t_seq_draw 25 25 _ mixed (Sub.refl _) (by rfl) (by decide +kernel) ?_
    refine ra_pure0 0 1 rfl (by rfl) (by decide +kernel) (by rfl) (pu_moveE (v := v) (by rfl)) ?_
    refine ra_pure0 1 3 rfl (by rfl) (by decide +kernel) (by rfl) (pu_moveE (v := .int .i64 _) (by rfl)) ?_
    refine ra_pure 2 7 rfl (by rfl) (by decide +kernel) (by rfl) (pu_index (by rfl) (by rfl) (SrcE.src (by repeat constructor)) underlying22 sizeOf49 (by omega)) ?_
    refine ra_pure 3 15 rfl (by rfl) (by decide +kernel) (by rfl) (pu_loadS (ds := encE (l.getD (k) d0)) (by rfl) isAgg49 sizeOf49 (SrcE.src (by repeat constructor)) (encEs_at hk hk1) (encE_len (hk.at_ _)) (by decide)) ?_
    refine ra_next 4 31 (by decide +kernel) ?_
    refine next_loud rfl (by rfl) (lo_callFQ call35 (by rfl) (fun w hw => one_c (l.getD k d0) (hk.at_ _) w) ⟨(fun _ => (by repeat constructor)), ?_⟩)
    refine ra_pure0 5 63 rfl (by rfl) (by decide +kernel) (by rfl) (pu_not (by rfl)) ?_
    refine ra_pure0 6 127 rfl (by rfl) (by decide +kernel) (by rfl) (pu_moveE (v := .bool _) (by rfl)) ?_
    refine ra_gpure0 7 255 rfl (by rfl) (by rfl) (by rfl) (by decide +kernel) (by rfl) (fun hg => pu_moveE (v := .int .i64 _) (by rfl)) ?_
    refine ra_gpure0 8 511 rfl (by rfl) (by rfl) (by rfl) (by decide +kernel) (by rfl) (fun hg => pu_gtr (gvE hg (by rfl)) (by rfl)) ?_
    refine ra_gpure0 9 1023 rfl (by rfl) (by rfl) (by rfl) (by decide +kernel) (by rfl) (fun hg => pu_moveE (v := .bool _) (gvE hg (by rfl))) ?_
    refine ra_gpure0N 10 2047 rfl (by rfl) (by rfl) (by rfl) (by decide +kernel) (by rfl) (fun hg => pu_moveE (v := v) (by rfl)) ?_
    refine ra_gpure0N 11 4095 rfl (by rfl) (by rfl) (by rfl) (by decide +kernel) (by rfl) (fun hg => pu_moveE (v := .int .i64 _) (by rfl)) ?_
    refine ra_gpure0N 12 8191 rfl (by rfl) (by rfl) (by rfl) (by decide +kernel) (by rfl) (fun hg => pu_sub64 (gvE hg (by rfl)) (by rfl) (by omega)) ?_
    refine ra_gpureN 13 16383 rfl (by rfl) (by rfl) (by rfl) (by decide +kernel) (by rfl) (fun hg => pu_index (gvE hg (by rfl)) (gvE hg (by rfl)) (SrcE.src (by repeat constructor)) underlying22 sizeOf49 (by simp [-List.getD_eq_getElem?_getD] at hg; omega)) ?_
    refine ra_gpureN 14 32767 rfl (by rfl) (by rfl) (by rfl) (by decide +kernel) (by rfl) (fun hg => pu_fieldP (gvE hg (by rfl)) underlying49 (by rfl) sizeOf47 (by decide) (src_some (SrcE.src (by repeat constructor)) (by omega))) ?_
    refine ra_gpureN 15 65535 rfl (by rfl) (by rfl) (by rfl) (by decide +kernel) (by rfl) (fun hg => pu_loadS (ds := u8s (l.getD (((k : Int) - 1).toNat) d0).1) (gvE hg (by rfl)) isAgg47 sizeOf47 (SrcE.src (by repeat constructor)) (encEs_key hk (by omega)) (u8s_len32 (hk.at_ _)) (by decide)) ?_
    refine ra_gpure0N 16 131071 rfl (by rfl) (by rfl) (by rfl) (by decide +kernel) (by rfl) (fun hg => pu_moveE (v := v) (by rfl)) ?_
    refine ra_gpure0N 17 262143 rfl (by rfl) (by rfl) (by rfl) (by decide +kernel) (by rfl) (fun hg => pu_moveE (v := .int .i64 _) (by rfl)) ?_
    refine ra_gpureN 18 524287 rfl (by rfl) (by rfl) (by rfl) (by decide +kernel) (by rfl) (fun hg => pu_index (gvE hg (by rfl)) (gvE hg (by rfl)) (SrcE.src (by repeat constructor)) underlying22 sizeOf49 (by simp [-List.getD_eq_getElem?_getD] at hg; omega)) ?_
    refine ra_gpureN 19 1048575 rfl (by rfl) (by rfl) (by rfl) (by decide +kernel) (by rfl) (fun hg => pu_fieldP (gvE hg (by rfl)) underlying49 (by rfl) sizeOf47 (by decide) (src_some (SrcE.src (by repeat constructor)) (by omega))) ?_
    refine ra_gpureN 20 2097151 rfl (by rfl) (by rfl) (by rfl) (by decide +kernel) (by rfl) (fun hg => pu_loadS (ds := u8s (l.getD (k) d0).1) (gvE hg (by rfl)) isAgg47 sizeOf47 (SrcE.src (by repeat constructor)) (encEs_key hk (by omega)) (u8s_len32 (hk.at_ _)) (by decide)) ?_
    refine ra_next 21 4194303 (by decide +kernel) ?_
    refine next_gcallN rfl (by rfl) (by rfl) (by rfl) (by rfl) (by repeat constructor) (fun hg => lo_callFP call36 (by rfl) (fun w hw => gives_eq (args2 (gvE hg (by rfl)) (gvE hg (by rfl))) (rless_c (l.getD ((k : Int) - 1).toNat d0).1 (l.getD k d0).1 (hk.at_ _) (hk.at_ _) w))) ?_
    refine ra_gpure0N 22 8388607 rfl (by rfl) (by rfl) (by rfl) (by decide +kernel) (by rfl) (fun hg => pu_not (gvE hg (by rfl))) ?_
    refine ra_gpure0 23 16777215 rfl (by rfl) (by rfl) (by rfl) (by decide +kernel) (by rfl) (fun hg => pu_pickAnd (gvE hg (by rfl)) (gvAnd hg (by rfl))) ?_
    refine ra_pure0 24 33554431 rfl (by rfl) (by decide +kernel) (by rfl) (pu_pickOr (by rfl) (by rfl)) ?_
    refine ra_end (by decide +kernel) ?_
    refine t_cond (by rfl) (fun hc1 => ?_) (fun hc1 => ?_)
    ·
      have hbad : leafGood l = false := by
        have h1 : badE l k = true := by rw [← rgBad_eq]; exact hc1
        rw [leafGood, not_all hk1 h1, Bool.and_false]
      refine t_seq_region ?_
      refine rg_pure (by rfl) (by rfl) (pu_assignE (v := .bool _) (by rfl)) ?_
      refine rg_nil ?_
      refine t_ret ?_
      exact Fin.ret (res1 rfl .tmp) (by rw [hbad]; rfl)
    ·
      have hbk : badE l k = false := by rw [← rgBad_eq]; exact hc1
      refine t_skip ?_
      refine t_region ?_
      refine rg_pure (by rfl) (by rfl) (pu_moveE (v := .int .i64 _) (by rfl)) ?_
      refine rg_pure (by rfl) (by rfl) (pu_add64 (by rfl) (by rfl) (by omega)) ?_
      refine rg_pure (by rfl) (by rfl) (pu_assignE (v := .int .i64 _) (by rfl)) ?_
      refine rg_nil ?_
      exact ⟨k + 1, ⟨hk1, lt_succ_cases hk3 hbk⟩, by show l.length - (k + 1) < l.length - k; omega, (by repeat (first | exact agree_nil | refine agree_cons (by rfl) ?_)), by repeat constructor⟩
  ·
    have hk1 : k = l.length := by simp at hc0; omega
    have hall : ((List.range l.length).all fun i => !badE l i) = true := all_of (by rw [← hk1]; exact hk3)
    refine t_exit ?_
    refine t_seq_region ?_
    refine rg_pure (by rfl) (by rfl) (pu_moveE (v := v) (by rfl)) ?_
    refine rg_pure (by rfl) (by rfl) (pu_len (by rfl) (SrcE.src (by repeat constructor)) (by rfl) underlying22) ?_
    refine rg_pure (by rfl) (by rfl) (pu_geq (by rfl) (by rfl)) ?_
    refine rg_pure (by rfl) (by rfl) (pu_moveE (v := .bool _) (by rfl)) ?_
    refine rg_gpure (by rfl) (by rfl) (by rfl) (by rfl) (fun hg => pu_moveE (v := v) (by rfl)) ?_
    refine rg_gpure (by rfl) (by rfl) (by rfl) (by rfl) (fun hg => pu_len (gvE hg (by rfl)) (SrcE.src (by repeat constructor)) (by rfl) underlying22) ?_
    refine rg_gpure (by rfl) (by rfl) (by rfl) (by rfl) (fun hg => pu_leq (gvE hg (by rfl)) (by rfl)) ?_
    refine rg_pure (by rfl) (by rfl) (pu_pickAnd (by rfl) (by rfl)) ?_
    refine rg_pure (by rfl) (by rfl) (pu_assignE (v := .bool _) (by rfl)) ?_
    refine rg_nil ?_
    refine t_ret ?_
    exact Fin.ret (res1 rfl .tmp) (by show Value.bool (decide ((1 : Int) ≤ (l.length : Int)) && decide ((l.length : Int) ≤ 3)) = Value.bool (leafGood l); congr 1; rw [leafGood, hall, Bool.and_true]; rw [Bool.eq_iff_iff]; simp <;> omega)
theorem renc_c (v : Value) (l : List En) (hk : KeysOk l) (w : World) (hv : Sl w v 35 l.length (encEs l)) : Gives prog 27 [v].toArray w (.tuple #[.agg (u8s (encS l).1).toArray, .int .i64 (encS l).2]) := by
  have hb := hv.len
  refine gives_of_T func27 rfl 56 rfl rfl rfl [.sl v 35 l.length (encEs l)] ((holds0 w).addSl hv (by decide)) ?_
  refine t_seq_region ?_
  refine rg_loud (by rfl) (lo_alloc (cs := u8s (List.replicate 128 0)) (by rfl) zeroValue43 (by rfl) (fun b0 hb0 => ?_))
  refine rg_pure (by rfl) (by rfl) (pu_assignE (v := .int .i64 _) (by rfl)) ?_
  refine rg_nil ?_
  refine t_seq ?_
  refine t_seq_region ?_
  refine rg_pure (by rfl) (by rfl) (pu_moveE (v := v) (by rfl)) ?_
  refine rg_loud (by rfl) (lo_callFQ call44 (by rfl) (fun w hw => rleafGood_c v l hk w ((SrcE.src (by repeat constructor)) w hw)) ?_)
  refine rg_pure (by rfl) (by rfl) (pu_not (by rfl)) ?_
  refine rg_nil ?_
  refine t_cond (by rfl) (fun hc0 => ?_) (fun hc0 => ?_)
  ·
    have hbad : leafGood l = false := by simpa using hc0
    refine t_seq_region ?_
    refine rg_pure (by rfl) (by rfl) (pu_build0 zeroValue43 ⟨_, _, underlying43, fun w => ⟨1, sizeOf5 w⟩⟩) ?_
    refine rg_loud (by rfl) (lo_storeV (vs := u8s (List.replicate 128 0)) (by rfl) (by rfl) (by rfl) (by repeat constructor) sizeOf43 (by first | (simp only [u8s_len, u32s_len, i64s_len, List.length_replicate, List.length_set, encE_len, sumS_len, checkS_len, *]; done) | rfl) (one_u8s _) (by first | (simp only [u8s_len, u32s_len, i64s_len, List.length_replicate, List.length_set, encE_len, sumS_len, checkS_len, *]; done) | rfl) ?_)
    refine rg_pure (by rfl) (by rfl) (pu_assignE (v := .int .i64 _) (by rfl)) ?_
    refine rg_nil ?_
    refine t_ret ?_
    exact Fin.ret (res2 rfl (ResV.cellA (cs := u8s (List.replicate 128 0)) (by rfl) isAgg43 sizeOf43 (HasE.has (by repeat constructor)) (by first | (simp only [u8s_len, u32s_len, i64s_len, List.length_replicate, List.length_set, encE_len, sumS_len, checkS_len, *]; done) | rfl)) .tmp) (by rw [encS, hbad]; rfl)
  ·
    have hgood : leafGood l = true := by simpa using hc0
    have hlen := leafGood_len hgood
    refine t_skip ?_
    refine t_seq_region ?_
    refine rg_pure (by rfl) (by rfl) (pu_moveE (v := v) (by rfl)) ?_
    refine rg_pure (by rfl) (by rfl) (pu_len (by rfl) (SrcE.src (by repeat constructor)) (by rfl) underlying22) ?_
    refine rg_pure (by rfl) (by rfl) (pu_conv (by rfl) underlying3 underlying5 (by rfl)) ?_
    refine rg_loud (by rfl) (lo_buildRow1 (cs := u8s (headB 76 l.length)) (by rfl) underlying45 sizeOf5 (by decide) zeroValue5 (by rfl) (by kernel_rfl) (by rfl) (fun b1 hb1 => ?_))
    refine rg_pure (by rfl) (by rfl) (pu_assign) ?_
    refine rg_nil ?_
    refine t_seq ?_
    refine t_seq_region ?_
    refine rg_pure (by rfl) (by rfl) (pu_assignE (v := .int .i64 _) (by rfl)) ?_
    refine rg_nil ?_
    refine t_block ?_
    refine t_loop (σ := Nat × Value) (fun s => [(mkS, marksV []), (0, v), (2, .pointer (some ⟨b0, 0, none⟩)), (4, s.2), (5, .int .i64 (s.1 : Int))]) (fun s => [.row 5 1 s.2 (2 + 36 * s.1) (u8s (leafB l s.1)), .own b0 43 (u8s (List.replicate 128 0)), .sl v 35 l.length (encEs l)]) (fun s => s.1 ≤ l.length) (fun s => l.length - s.1) ((0, _) : Nat × Value) (Nat.zero_le _) (by repeat (first | exact agree_nil | refine agree_cons (by rfl) ?_)) (by repeat constructor) (fun s g hks => ?_)
    obtain ⟨k, u⟩ := s
    simp only at hks ⊢
    refine t_seq ?_
    refine t_seq_region ?_
    refine rg_pure (by rfl) (by rfl) (pu_moveE (v := .int .i64 _) (by rfl)) ?_
    refine rg_pure (by rfl) (by rfl) (pu_moveE (v := v) (by rfl)) ?_
    refine rg_pure (by rfl) (by rfl) (pu_len (by rfl) (SrcE.src (by repeat constructor)) (by rfl) underlying22) ?_
    refine rg_pure (by rfl) (by rfl) (pu_lss (by rfl) (by rfl)) ?_
    refine rg_nil ?_
    refine t_cond (by rfl) (fun hc1 => ?_) (fun hc1 => ?_)
    ·
      have hk1 : k < l.length := by simp at hc1; omega
      have hke := hk.at_ k
      refine t_skip ?_
      refine t_seq ?_
      refine t_block ?_
      refine t_region_draw 35 35 [.sl v 35 l.length (encEs l)] mixed (by repeat constructor) (by rfl) (by decide +kernel) ?_
      refine ra_pure0 0 1 rfl (by rfl) (by decide +kernel) (by rfl) (pu_moveE (v := u) (by rfl)) ?_
      refine ra_pure0 1 3 rfl (by rfl) (by decide +kernel) (by rfl) (pu_moveE (v := v) (by rfl)) ?_
      refine ra_pure0 2 7 rfl (by rfl) (by decide +kernel) (by rfl) (pu_moveE (v := .int .i64 _) (by rfl)) ?_
      refine ra_pure 3 15 rfl (by rfl) (by decide +kernel) (by rfl) (pu_index (by rfl) (by rfl) (SrcE.src (by repeat constructor)) underlying22 sizeOf49 (by omega)) ?_
      refine ra_pure 4 31 rfl (by rfl) (by decide +kernel) (by rfl) (pu_fieldP (by rfl) underlying49 (by rfl) sizeOf47 (by decide) (src_some (SrcE.src (by repeat constructor)) (by omega))) ?_
      refine ra_pure 5 63 rfl (by rfl) (by decide +kernel) (by rfl) (pu_sliceArrP (by rfl) underlying47 sizeOf5 (by decide) (src_some (SrcE.src (by repeat constructor)) (by omega))) ?_
      refine ra_pure0 7 191 rfl (by rfl) (by decide +kernel) (by rfl) (pu_moveE (v := v) (by rfl)) ?_
      refine ra_pure0 8 447 rfl (by rfl) (by decide +kernel) (by rfl) (pu_moveE (v := .int .i64 _) (by rfl)) ?_
      refine ra_pure 9 959 rfl (by rfl) (by decide +kernel) (by rfl) (pu_index (by rfl) (by rfl) (SrcE.src (by repeat constructor)) underlying22 sizeOf49 (by omega)) ?_
      refine ra_pure 10 1983 rfl (by rfl) (by decide +kernel) (by rfl) (pu_fieldP (by rfl) underlying49 (by rfl) sizeOf3 (by decide) (src_some (SrcE.src (by repeat constructor)) (by omega))) ?_
      refine ra_pure 11 4031 rfl (by rfl) (by decide +kernel) (by rfl) (pu_load1S (u := .int .i64 (l.getD (k) d0).2.1) (by rfl) isAgg3 (SrcE.src (by repeat constructor)) ((encEs_cell hk hk1 (by decide)).trans (encE_place (hk.at_ _)))) ?_
      refine ra_pure0 12 8127 rfl (by rfl) (by decide +kernel) (by rfl) (pu_conv (by rfl) underlying3 underlying5 (by rfl)) ?_
      refine ra_pure0 13 16319 rfl (by rfl) (by decide +kernel) (by rfl) (pu_moveE (v := v) (by rfl)) ?_
      refine ra_pure0 14 32703 rfl (by rfl) (by decide +kernel) (by rfl) (pu_moveE (v := .int .i64 _) (by rfl)) ?_
      refine ra_pure 15 65471 rfl (by rfl) (by decide +kernel) (by rfl) (pu_index (by rfl) (by rfl) (SrcE.src (by repeat constructor)) underlying22 sizeOf49 (by omega)) ?_
      refine ra_pure 16 131007 rfl (by rfl) (by decide +kernel) (by rfl) (pu_fieldP (by rfl) underlying49 (by rfl) sizeOf3 (by decide) (src_some (SrcE.src (by repeat constructor)) (by omega))) ?_
      refine ra_pure 17 262079 rfl (by rfl) (by decide +kernel) (by rfl) (pu_load1S (u := .int .i64 (l.getD (k) d0).2.2.1) (by rfl) isAgg3 (SrcE.src (by repeat constructor)) ((encEs_cell hk hk1 (by decide)).trans (encE_blocks (hk.at_ _)))) ?_
      refine ra_pure0 18 524223 rfl (by rfl) (by decide +kernel) (by rfl) (pu_conv (by rfl) underlying3 underlying5 (by rfl)) ?_
      refine ra_pure0 19 1048511 rfl (by rfl) (by decide +kernel) (by rfl) (pu_moveE (v := v) (by rfl)) ?_
      refine ra_pure0 20 2097087 rfl (by rfl) (by decide +kernel) (by rfl) (pu_moveE (v := .int .i64 _) (by rfl)) ?_
      refine ra_pure 21 4194239 rfl (by rfl) (by decide +kernel) (by rfl) (pu_index (by rfl) (by rfl) (SrcE.src (by repeat constructor)) underlying22 sizeOf49 (by omega)) ?_
      refine ra_pure 22 8388543 rfl (by rfl) (by decide +kernel) (by rfl) (pu_fieldP (by rfl) underlying49 (by rfl) sizeOf3 (by decide) (src_some (SrcE.src (by repeat constructor)) (by omega))) ?_
      refine ra_pure 23 16777151 rfl (by rfl) (by decide +kernel) (by rfl) (pu_load1S (u := .int .i64 (l.getD (k) d0).2.2.2) (by rfl) isAgg3 (SrcE.src (by repeat constructor)) ((encEs_cell hk hk1 (by decide)).trans (encE_refs (hk.at_ _)))) ?_
      refine ra_pure0 24 33554367 rfl (by rfl) (by decide +kernel) (by rfl) (pu_shr (by rfl) (by rfl) (by decide)) ?_
      refine ra_pure0 25 67108799 rfl (by rfl) (by decide +kernel) (by rfl) (pu_conv (by rfl) underlying3 underlying5 (by rfl)) ?_
      refine ra_pure0 26 134217663 rfl (by rfl) (by decide +kernel) (by rfl) (pu_moveE (v := v) (by rfl)) ?_
      refine ra_pure0 27 268435391 rfl (by rfl) (by decide +kernel) (by rfl) (pu_moveE (v := .int .i64 _) (by rfl)) ?_
      refine ra_pure 28 536870847 rfl (by rfl) (by decide +kernel) (by rfl) (pu_index (by rfl) (by rfl) (SrcE.src (by repeat constructor)) underlying22 sizeOf49 (by omega)) ?_
      refine ra_pure 29 1073741759 rfl (by rfl) (by decide +kernel) (by rfl) (pu_fieldP (by rfl) underlying49 (by rfl) sizeOf3 (by decide) (src_some (SrcE.src (by repeat constructor)) (by omega))) ?_
      refine ra_pure 30 2147483583 rfl (by rfl) (by decide +kernel) (by rfl) (pu_load1S (u := .int .i64 (l.getD (k) d0).2.2.2) (by rfl) isAgg3 (SrcE.src (by repeat constructor)) ((encEs_cell hk hk1 (by decide)).trans (encE_refs (hk.at_ _)))) ?_
      refine ra_pure0 31 4294967231 rfl (by rfl) (by decide +kernel) (by rfl) (pu_conv (by rfl) underlying3 underlying5 (by rfl)) ?_
      refine ra_next2 6 32 4294967295 8589934527 (by decide +kernel) ?_ ?_
      ·
        refine next_loud rfl (by rfl) (lo_appendE (xs' := u8s (leafB l k ++ (l.getD k d0).1)) (k' := 2 + 36 * k + 32) elemOk45 (by rfl) (by rfl) (by rfl) (by repeat constructor) ((src_inP (m := 32) (k := 1) (SrcE.src (by repeat constructor)) (by rw [encEs_len hk]; show ((k : Nat) : Int).toNat * 35 + 0 + 32 * 1 ≤ _; omega) (by decide) (by decide)).to rfl (encEs_key hk hk1)) (one_u8s _) (by omega) (by rfl) (by simp [u8s]) (fun v2 => ⟨(fun _ => (by repeat constructor)), ?_⟩))
        refine ra_next 32 8589934591 (by decide +kernel) ?_
        refine next_loud rfl (by rfl) (lo_buildRow1 (cs := u8s [IntKind.u8.wrap (l.getD k d0).2.1, IntKind.u8.wrap (l.getD k d0).2.2.1, IntKind.u8.wrap ((l.getD k d0).2.2.2.fdiv (2 ^ (min (Int.toNat 8) IntKind.i64.bits))), IntKind.u8.wrap (l.getD k d0).2.2.2]) (by rfl) underlying45 sizeOf5 (by decide) zeroValue5 (by rfl) (by kernel_rfl) (by rfl) (fun b3 hb3 => ⟨(fun _ => (by repeat constructor)), ?_⟩))
        refine ra_next 33 17179869183 (by decide +kernel) ?_
        refine next_loud rfl (by rfl) (lo_appendE (xs' := u8s (leafB l (k + 1))) (k' := 2 + 36 * (k + 1)) elemOk45 (by rfl) (by rfl) (by rfl) (by repeat constructor) (SrcE.src (by repeat constructor)) (one_u8s _) (by omega) (by omega) (by rw [leafB_step hk1]; simp [u8s, entB]) (fun v4 => ⟨(fun _ => (by repeat constructor)), ?_⟩))
        refine ra_pure0 34 34359738367 rfl (by rfl) (by decide +kernel) (by rfl) (pu_assign) ?_
        refine ra_end (by decide +kernel) ?_
        refine t_region ?_
        refine rg_pure (by rfl) (by rfl) (pu_moveE (v := .int .i64 _) (by rfl)) ?_
        refine rg_pure (by rfl) (by rfl) (pu_add64 (by rfl) (by rfl) (by omega)) ?_
        refine rg_pure (by rfl) (by rfl) (pu_assignE (v := .int .i64 _) (by rfl)) ?_
        refine rg_nil ?_
        exact ⟨(k + 1, _), hk1, by show l.length - (k + 1) < l.length - k; omega, (by repeat (first | exact agree_nil | refine agree_cons (by rfl) ?_)), by repeat constructor⟩
      ·
        refine next_loud rfl (by rfl) (lo_buildRow1 (cs := u8s [IntKind.u8.wrap (l.getD k d0).2.1, IntKind.u8.wrap (l.getD k d0).2.2.1, IntKind.u8.wrap ((l.getD k d0).2.2.2.fdiv (2 ^ (min (Int.toNat 8) IntKind.i64.bits))), IntKind.u8.wrap (l.getD k d0).2.2.2]) (by rfl) underlying45 sizeOf5 (by decide) zeroValue5 (by rfl) (by kernel_rfl) (by rfl) (fun b3 hb3 => ⟨(fun _ => (by repeat constructor)), ?_⟩))
        refine ra_next 6 8589934591 (by decide +kernel) ?_
        refine next_loud rfl (by rfl) (lo_appendE (xs' := u8s (leafB l k ++ (l.getD k d0).1)) (k' := 2 + 36 * k + 32) elemOk45 (by rfl) (by rfl) (by rfl) (by repeat constructor) ((src_inP (m := 32) (k := 1) (SrcE.src (by repeat constructor)) (by rw [encEs_len hk]; show ((k : Nat) : Int).toNat * 35 + 0 + 32 * 1 ≤ _; omega) (by decide) (by decide)).to rfl (encEs_key hk hk1)) (one_u8s _) (by omega) (by rfl) (by simp [u8s]) (fun v2 => ⟨(fun _ => (by repeat constructor)), ?_⟩))
        refine ra_next 33 17179869183 (by decide +kernel) ?_
        refine next_loud rfl (by rfl) (lo_appendE (xs' := u8s (leafB l (k + 1))) (k' := 2 + 36 * (k + 1)) elemOk45 (by rfl) (by rfl) (by rfl) (by repeat constructor) (SrcE.src (by repeat constructor)) (one_u8s _) (by omega) (by omega) (by rw [leafB_step hk1]; simp [u8s, entB]) (fun v4 => ⟨(fun _ => (by repeat constructor)), ?_⟩))
        refine ra_pure0 34 34359738367 rfl (by rfl) (by decide +kernel) (by rfl) (pu_assign) ?_
        refine ra_end (by decide +kernel) ?_
        refine t_region ?_
        refine rg_pure (by rfl) (by rfl) (pu_moveE (v := .int .i64 _) (by rfl)) ?_
        refine rg_pure (by rfl) (by rfl) (pu_add64 (by rfl) (by rfl) (by omega)) ?_
        refine rg_pure (by rfl) (by rfl) (pu_assignE (v := .int .i64 _) (by rfl)) ?_
        refine rg_nil ?_
        exact ⟨(k + 1, _), hk1, by show l.length - (k + 1) < l.length - k; omega, (by repeat (first | exact agree_nil | refine agree_cons (by rfl) ?_)), by repeat constructor⟩
    ·
      have hk1 : k = l.length := by simp at hc1; omega
      subst hk1
      have hll := leafB_len hk l.length (Nat.le_refl _)
      have hsl : (sealS (leafB l l.length)).length = 128 := sealS_len (by rw [hll]; omega)
      refine t_exit ?_
      refine t_seq_region ?_
      refine rg_pure (by rfl) (by rfl) (pu_moveE (v := u) (by rfl)) ?_
      refine rg_loud (by rfl) (lo_callFQ call45 (by rfl) (fun w hw => rseal_c u (leafB l l.length) (by rw [hll]; omega) (leafB_byte hk _) w (((SrcE.src (by repeat constructor)).to hll.symm rfl) w hw)) ?_)
      refine rg_loud (by rfl) (lo_storeV (vs := u8s (sealS (leafB l l.length))) (by rfl) (by rfl) (by rfl) (by repeat constructor) sizeOf43 (by first | (simp only [u8s_len, u32s_len, i64s_len, List.length_replicate, List.length_set, encE_len, sumS_len, checkS_len, *]; done) | rfl) (one_u8s _) (by first | (simp only [u8s_len, u32s_len, i64s_len, List.length_replicate, List.length_set, encE_len, sumS_len, checkS_len, *]; done) | rfl) ?_)
      refine rg_pure (by rfl) (by rfl) (pu_assignE (v := .int .i64 _) (by rfl)) ?_
      refine rg_nil ?_
      refine t_ret ?_
      exact Fin.ret (res2 rfl (ResV.cellA (cs := u8s (sealS (leafB l l.length))) (by rfl) isAgg43 sizeOf43 (HasE.has (by repeat constructor)) (by first | (simp only [u8s_len, u32s_len, i64s_len, List.length_replicate, List.length_set, encE_len, sumS_len, checkS_len, *]; done) | rfl)) .tmp) (by rw [encS, hgood]; rfl)
theorem rootB_byte (p : List Int) : ∀ x ∈ rootB p p.length, 0 ≤ x ∧ x < 256 := fun y hy => by
  rw [rootB, List.mem_append] at hy
  rcases hy with hy | hy
  · exact headB_byte (by decide) (by decide) y hy
  · obtain ⟨z, _, rfl⟩ := List.mem_map.1 hy
    exact wrap8_byte _
theorem rroot_c (v : Value) (p : List Int) (w : World) (hv : Sl w v 1 p.length (i64s p)) : Gives prog 28 [v].toArray w (.tuple #[.agg (u8s (rootS p).1).toArray, .int .i64 (rootS p).2]) := by
  have hb := hv.len
  refine gives_of_T func28 rfl 64 rfl rfl rfl [.sl v 1 p.length (i64s p)] ((holds0 w).addSl hv (by decide)) ?_
  refine t_seq_region ?_
  refine rg_loud (by rfl) (lo_alloc (cs := u8s (List.replicate 128 0)) (by rfl) zeroValue43 (by rfl) (fun b0 hb0 => ?_))
  refine rg_pure (by rfl) (by rfl) (pu_assignE (v := .int .i64 _) (by rfl)) ?_
  refine rg_nil ?_
  refine t_seq ?_
  refine t_seq_region ?_
  refine rg_pure (by rfl) (by rfl) (pu_moveE (v := v) (by rfl)) ?_
  refine rg_pure (by rfl) (by rfl) (pu_len (by rfl) (SrcE.src (by repeat constructor)) (by rfl) underlying23) ?_
  refine rg_pure (by rfl) (by rfl) (pu_lss (by rfl) (by rfl)) ?_
  refine rg_pure (by rfl) (by rfl) (pu_moveE (v := .bool _) (by rfl)) ?_
  refine rg_gpure (by rfl) (by rfl) (by rfl) (by rfl) (fun hg => pu_moveE (v := v) (by rfl)) ?_
  refine rg_gpure (by rfl) (by rfl) (by rfl) (by rfl) (fun hg => pu_len (gvE hg (by rfl)) (SrcE.src (by repeat constructor)) (by rfl) underlying23) ?_
  refine rg_gpure (by rfl) (by rfl) (by rfl) (by rfl) (fun hg => pu_gtr (gvE hg (by rfl)) (by rfl)) ?_
  refine rg_pure (by rfl) (by rfl) (pu_pickOr (by rfl) (by rfl)) ?_
  refine rg_nil ?_
  refine t_cond (by rfl) (fun hc0 => ?_) (fun hc0 => ?_)
  ·
    have hbad : rootOk p = false := by rw [rootOk, show (decide ((p.length : Int) < 1) || decide ((100 : Int) < p.length)) = true from hc0]; rfl
    refine t_seq_region ?_
    refine rg_pure (by rfl) (by rfl) (pu_build0 zeroValue43 ⟨_, _, underlying43, fun w => ⟨1, sizeOf5 w⟩⟩) ?_
    refine rg_loud (by rfl) (lo_storeV (vs := u8s (List.replicate 128 0)) (by rfl) (by rfl) (by rfl) (by repeat constructor) sizeOf43 (by first | (simp only [u8s_len, u32s_len, i64s_len, List.length_replicate, List.length_set, encE_len, sumS_len, checkS_len, *]; done) | rfl) (one_u8s _) (by first | (simp only [u8s_len, u32s_len, i64s_len, List.length_replicate, List.length_set, encE_len, sumS_len, checkS_len, *]; done) | rfl) ?_)
    refine rg_pure (by rfl) (by rfl) (pu_assignE (v := .int .i64 _) (by rfl)) ?_
    refine rg_nil ?_
    refine t_ret ?_
    exact Fin.ret (res2 rfl (ResV.cellA (cs := u8s (List.replicate 128 0)) (by rfl) isAgg43 sizeOf43 (HasE.has (by repeat constructor)) (by first | (simp only [u8s_len, u32s_len, i64s_len, List.length_replicate, List.length_set, encE_len, sumS_len, checkS_len, *]; done) | rfl)) .tmp) (by rw [rootS, hbad]; rfl)
  ·
    have hgood : rootOk p = (List.range p.length).all fun i => !rootBad p i := by rw [rootOk, show (decide ((p.length : Int) < 1) || decide ((100 : Int) < p.length)) = false from hc0]; rfl
    have hlen : 1 ≤ p.length ∧ p.length ≤ 100 := by simp at hc0; omega
    refine t_skip ?_
    refine t_seq_region ?_
    refine rg_pure (by rfl) (by rfl) (pu_moveE (v := v) (by rfl)) ?_
    refine rg_pure (by rfl) (by rfl) (pu_len (by rfl) (SrcE.src (by repeat constructor)) (by rfl) underlying23) ?_
    refine rg_pure (by rfl) (by rfl) (pu_conv (by rfl) underlying3 underlying5 (by rfl)) ?_
    refine rg_loud (by rfl) (lo_buildRow1 (cs := u8s (headB 82 p.length)) (by rfl) underlying45 sizeOf5 (by decide) zeroValue5 (by rfl) (by kernel_rfl) (by rfl) (fun b1 hb1 => ?_))
    refine rg_pure (by rfl) (by rfl) (pu_assign) ?_
    refine rg_nil ?_
    refine t_seq ?_
    refine t_seq_region ?_
    refine rg_pure (by rfl) (by rfl) (pu_assignE (v := .int .i64 _) (by rfl)) ?_
    refine rg_nil ?_
    refine t_block ?_
    refine t_loop (σ := Nat × Value) (fun s => [(mkS, marksV []), (0, v), (2, .pointer (some ⟨b0, 0, none⟩)), (4, s.2), (5, .int .i64 (s.1 : Int))]) (fun s => [.row 5 1 s.2 (2 + s.1) (u8s (rootB p s.1)), .own b0 43 (u8s (List.replicate 128 0)), .sl v 1 p.length (i64s p)]) (fun s => s.1 ≤ p.length ∧ ∀ i, i < s.1 → rootBad p i = false) (fun s => p.length - s.1) ((0, _) : Nat × Value) ⟨Nat.zero_le _, fun _ h => absurd h (Nat.not_lt_zero _)⟩ (by repeat (first | exact agree_nil | refine agree_cons (by rfl) ?_)) (by repeat constructor) (fun s g hks => ?_)
    obtain ⟨k, u⟩ := s
    obtain ⟨hk2, hk3⟩ := hks
    simp only at hk2 hk3 ⊢
    refine t_seq ?_
    refine t_seq_region ?_
    refine rg_pure (by rfl) (by rfl) (pu_moveE (v := .int .i64 _) (by rfl)) ?_
    refine rg_pure (by rfl) (by rfl) (pu_moveE (v := v) (by rfl)) ?_
    refine rg_pure (by rfl) (by rfl) (pu_len (by rfl) (SrcE.src (by repeat constructor)) (by rfl) underlying23) ?_
    refine rg_pure (by rfl) (by rfl) (pu_lss (by rfl) (by rfl)) ?_
    refine rg_nil ?_
    refine t_cond (by rfl) (fun hc1 => ?_) (fun hc1 => ?_)
    ·
      have hk1 : k < p.length := by simp at hc1; omega
      refine t_skip ?_
      refine t_seq ?_
      refine t_block ?_
      refine t_seq ?_
      refine t_seq_region ?_
      refine rg_pure (by rfl) (by rfl) (pu_moveE (v := v) (by rfl)) ?_
      refine rg_pure (by rfl) (by rfl) (pu_moveE (v := .int .i64 _) (by rfl)) ?_
      refine rg_pure (by rfl) (by rfl) (pu_index1 (by rfl) (by rfl) (SrcE.src (by repeat constructor)) underlying23 sizeOf3 (by omega)) ?_
      refine rg_pure (by rfl) (by rfl) (pu_load1S (u := .int .i64 (p.getD k 0)) (by rfl) isAgg3 (SrcE.src (by repeat constructor)) (i64s_get (by show ((k : Nat) : Int).toNat < _; omega))) ?_
      refine rg_pure (by rfl) (by rfl) (pu_lss (by rfl) (by rfl)) ?_
      refine rg_pure (by rfl) (by rfl) (pu_moveE (v := .bool _) (by rfl)) ?_
      refine rg_gpure (by rfl) (by rfl) (by rfl) (by rfl) (fun hg => pu_moveE (v := v) (by rfl)) ?_
      refine rg_gpure (by rfl) (by rfl) (by rfl) (by rfl) (fun hg => pu_moveE (v := .int .i64 _) (by rfl)) ?_
      refine rg_gpure (by rfl) (by rfl) (by rfl) (by rfl) (fun hg => pu_index1 (gvE hg (by rfl)) (gvE hg (by rfl)) (SrcE.src (by repeat constructor)) underlying23 sizeOf3 (by omega)) ?_
      refine rg_gpure (by rfl) (by rfl) (by rfl) (by rfl) (fun hg => pu_load1S (u := .int .i64 (p.getD k 0)) (gvE hg (by rfl)) isAgg3 (SrcE.src (by repeat constructor)) (i64s_get (by show ((k : Nat) : Int).toNat < _; omega))) ?_
      refine rg_gpure (by rfl) (by rfl) (by rfl) (by rfl) (fun hg => pu_gtr (gvE hg (by rfl)) (by rfl)) ?_
      refine rg_pure (by rfl) (by rfl) (pu_pickOr (by rfl) (by rfl)) ?_
      refine rg_nil ?_
      refine t_cond (by rfl) (fun hc2 => ?_) (fun hc2 => ?_)
      ·
        have hbad : rootOk p = false := by
          rw [hgood]
          refine not_all hk1 ?_
          rw [rootBad]
          have h2 : (decide (p.getD k 0 < 2) || decide (127 < p.getD k 0)) = true := hc2
          rw [Bool.or_eq_true, decide_eq_true_eq, decide_eq_true_eq] at h2
          rw [Bool.or_eq_true, Bool.or_eq_true, decide_eq_true_eq, decide_eq_true_eq]
          left; omega
        refine t_seq_region ?_
        refine rg_pure (by rfl) (by rfl) (pu_build0 zeroValue43 ⟨_, _, underlying43, fun w => ⟨1, sizeOf5 w⟩⟩) ?_
        refine rg_loud (by rfl) (lo_storeV (vs := u8s (List.replicate 128 0)) (by rfl) (by rfl) (by rfl) (by repeat constructor) sizeOf43 (by first | (simp only [u8s_len, u32s_len, i64s_len, List.length_replicate, List.length_set, encE_len, sumS_len, checkS_len, *]; done) | rfl) (one_u8s _) (by first | (simp only [u8s_len, u32s_len, i64s_len, List.length_replicate, List.length_set, encE_len, sumS_len, checkS_len, *]; done) | rfl) ?_)
        refine rg_pure (by rfl) (by rfl) (pu_assignE (v := .int .i64 _) (by rfl)) ?_
        refine rg_nil ?_
        refine t_ret ?_
        exact Fin.ret (res2 rfl (ResV.cellA (cs := u8s (List.replicate 128 0)) (by rfl) isAgg43 sizeOf43 (HasE.has (by repeat constructor)) (by first | (simp only [u8s_len, u32s_len, i64s_len, List.length_replicate, List.length_set, encE_len, sumS_len, checkS_len, *]; done) | rfl)) .tmp) (by rw [rootS, hbad]; rfl)
      ·
        have hrng : 2 ≤ p.getD k 0 ∧ p.getD k 0 ≤ 127 := by
          have h2 : (decide (p.getD k 0 < 2) || decide (127 < p.getD k 0)) = false := hc2
          rw [Bool.or_eq_false_iff, decide_eq_false_iff_not, decide_eq_false_iff_not] at h2
          omega
        refine t_skip ?_
        refine t_seq ?_
        refine t_seq_region ?_
        refine rg_pure (by rfl) (by rfl) (pu_assignE (v := .int .i64 _) (by rfl)) ?_
        refine rg_nil ?_
        refine t_block ?_
        refine t_loop (σ := Nat) (fun j => [(mkS, marksV []), (0, v), (2, .pointer (some ⟨b0, 0, none⟩)), (4, u), (5, .int .i64 (k : Int)), (6, .int .i64 (j : Int))]) (fun j => [.row 5 1 u (2 + k) (u8s (rootB p k)), .own b0 43 (u8s (List.replicate 128 0)), .sl v 1 p.length (i64s p)]) (fun j => j ≤ k ∧ ∀ i, i < j → p.getD i 0 ≠ p.getD k 0) (fun j => k - j) 0 ⟨Nat.zero_le _, fun _ h => absurd h (Nat.not_lt_zero _)⟩ (by repeat (first | exact agree_nil | refine agree_cons (by rfl) ?_)) (by repeat constructor) (fun j g hjj => ?_)
        obtain ⟨hj2, hj3⟩ := hjj
        refine t_seq ?_
        refine t_seq_region ?_
        refine rg_pure (by rfl) (by rfl) (pu_moveE (v := .int .i64 _) (by rfl)) ?_
        refine rg_pure (by rfl) (by rfl) (pu_moveE (v := .int .i64 _) (by rfl)) ?_
        refine rg_pure (by rfl) (by rfl) (pu_lss (by rfl) (by rfl)) ?_
        refine rg_nil ?_
        refine t_cond (by rfl) (fun hc3 => ?_) (fun hc3 => ?_)
        ·
          have hj1 : j < k := by simp at hc3; omega
          refine t_skip ?_
          refine t_seq ?_
          refine t_block ?_
          refine t_seq_draw 9 9 _ mixed (Sub.refl _) (by rfl) (by decide +kernel) ?_
          refine ra_pure0 0 1 rfl (by rfl) (by decide +kernel) (by rfl) (pu_moveE (v := v) (by rfl)) ?_
          refine ra_pure0 1 3 rfl (by rfl) (by decide +kernel) (by rfl) (pu_moveE (v := .int .i64 _) (by rfl)) ?_
          refine ra_pure 2 7 rfl (by rfl) (by decide +kernel) (by rfl) (pu_index1 (by rfl) (by rfl) (SrcE.src (by repeat constructor)) underlying23 sizeOf3 (by omega)) ?_
          refine ra_pure 3 15 rfl (by rfl) (by decide +kernel) (by rfl) (pu_load1S (u := .int .i64 (p.getD j 0)) (by rfl) isAgg3 (SrcE.src (by repeat constructor)) (i64s_get (by show ((j : Nat) : Int).toNat < _; omega))) ?_
          refine ra_pure0 4 31 rfl (by rfl) (by decide +kernel) (by rfl) (pu_moveE (v := v) (by rfl)) ?_
          refine ra_pure0 5 63 rfl (by rfl) (by decide +kernel) (by rfl) (pu_moveE (v := .int .i64 _) (by rfl)) ?_
          refine ra_pure 6 127 rfl (by rfl) (by decide +kernel) (by rfl) (pu_index1 (by rfl) (by rfl) (SrcE.src (by repeat constructor)) underlying23 sizeOf3 (by omega)) ?_
          refine ra_pure 7 255 rfl (by rfl) (by decide +kernel) (by rfl) (pu_load1S (u := .int .i64 (p.getD k 0)) (by rfl) isAgg3 (SrcE.src (by repeat constructor)) (i64s_get (by show ((k : Nat) : Int).toNat < _; omega))) ?_
          refine ra_pure0 8 511 rfl (by rfl) (by decide +kernel) (by rfl) (pu_eql (by rfl) (by rfl)) ?_
          refine ra_end (by decide +kernel) ?_
          refine t_cond (by rfl) (fun hc4 => ?_) (fun hc4 => ?_)
          ·
            have hbad : rootOk p = false := by
              rw [hgood]
              refine not_all hk1 ?_
              have h4 : p.getD j 0 = p.getD k 0 := eq_of_beq (show (p.getD j 0 == p.getD k 0) = true from hc4)
              rw [rootBad, decide_eq_true (idxA_some ?_ (by decide)), Bool.or_true]
              rw [← h4, getD_at 0 (by omega : j < p.length)]
              exact List.mem_take_iff_getElem.2 ⟨j, by omega, rfl⟩
            refine t_seq_region ?_
            refine rg_pure (by rfl) (by rfl) (pu_build0 zeroValue43 ⟨_, _, underlying43, fun w => ⟨1, sizeOf5 w⟩⟩) ?_
            refine rg_loud (by rfl) (lo_storeV (vs := u8s (List.replicate 128 0)) (by rfl) (by rfl) (by rfl) (by repeat constructor) sizeOf43 (by first | (simp only [u8s_len, u32s_len, i64s_len, List.length_replicate, List.length_set, encE_len, sumS_len, checkS_len, *]; done) | rfl) (one_u8s _) (by first | (simp only [u8s_len, u32s_len, i64s_len, List.length_replicate, List.length_set, encE_len, sumS_len, checkS_len, *]; done) | rfl) ?_)
            refine rg_pure (by rfl) (by rfl) (pu_assignE (v := .int .i64 _) (by rfl)) ?_
            refine rg_nil ?_
            refine t_ret ?_
            exact Fin.ret (res2 rfl (ResV.cellA (cs := u8s (List.replicate 128 0)) (by rfl) isAgg43 sizeOf43 (HasE.has (by repeat constructor)) (by first | (simp only [u8s_len, u32s_len, i64s_len, List.length_replicate, List.length_set, encE_len, sumS_len, checkS_len, *]; done) | rfl)) .tmp) (by rw [rootS, hbad]; rfl)
          ·
            have h4 : p.getD j 0 ≠ p.getD k 0 := by
              intro he
              have h5 : (p.getD j 0 == p.getD k 0) = false := hc4
              rw [he] at h5
              simp at h5
            refine t_skip ?_
            refine t_region ?_
            refine rg_pure (by rfl) (by rfl) (pu_moveE (v := .int .i64 _) (by rfl)) ?_
            refine rg_pure (by rfl) (by rfl) (pu_add64 (by rfl) (by rfl) (by omega)) ?_
            refine rg_pure (by rfl) (by rfl) (pu_assignE (v := .int .i64 _) (by rfl)) ?_
            refine rg_nil ?_
            exact ⟨j + 1, ⟨hj1, fun i hi => by rcases Nat.lt_succ_iff_lt_or_eq.1 hi with h | h; exact hj3 i h; rw [h]; exact h4⟩, by show k - (j + 1) < k - j; omega, (by repeat (first | exact agree_nil | refine agree_cons (by rfl) ?_)), by repeat constructor⟩
        ·
          have hj1 : j = k := by simp at hc3; omega
          have hbk : rootBad p k = false := by
            rw [rootBad, decide_eq_false (by omega), decide_eq_false (by omega), Bool.false_or, Bool.false_or, idxA_none]
            · decide
            · intro hm
              obtain ⟨q, hq, he⟩ := List.getElem_of_mem hm
              rw [List.length_take] at hq
              rw [List.getElem_take] at he
              exact hj3 q (by omega) (by rw [getD_at 0 (by omega : q < p.length)]; exact he)
          refine t_exit ?_
          refine t_region ?_
          refine rg_pure (by rfl) (by rfl) (pu_moveE (v := u) (by rfl)) ?_
          refine rg_pure (by rfl) (by rfl) (pu_moveE (v := v) (by rfl)) ?_
          refine rg_pure (by rfl) (by rfl) (pu_moveE (v := .int .i64 _) (by rfl)) ?_
          refine rg_pure (by rfl) (by rfl) (pu_index1 (by rfl) (by rfl) (SrcE.src (by repeat constructor)) underlying23 sizeOf3 (by omega)) ?_
          refine rg_pure (by rfl) (by rfl) (pu_load1S (u := .int .i64 (p.getD k 0)) (by rfl) isAgg3 (SrcE.src (by repeat constructor)) (i64s_get (by show ((k : Nat) : Int).toNat < _; omega))) ?_
          refine rg_pure (by rfl) (by rfl) (pu_conv (by rfl) underlying3 underlying5 (by rfl)) ?_
          refine rg_loud (by rfl) (lo_buildRow1 (cs := u8s [IntKind.u8.wrap (p.getD k 0)]) (by rfl) underlying45 sizeOf5 (by decide) zeroValue5 (by rfl) (by kernel_rfl) (by rfl) (fun b2 hb2 => ?_))
          refine rg_loud (by rfl) (lo_appendE (xs' := u8s (rootB p (k + 1))) (k' := 2 + (k + 1)) elemOk45 (by rfl) (by rfl) (by rfl) (by repeat constructor) (SrcE.src (by repeat constructor)) (one_u8s _) (by omega) (by omega) (by rw [rootB_step hk1]; simp [u8s]) (fun v3 => ?_))
          refine rg_pure (by rfl) (by rfl) (pu_assign) ?_
          refine rg_nil ?_
          refine t_region ?_
          refine rg_pure (by rfl) (by rfl) (pu_moveE (v := .int .i64 _) (by rfl)) ?_
          refine rg_pure (by rfl) (by rfl) (pu_add64 (by rfl) (by rfl) (by omega)) ?_
          refine rg_pure (by rfl) (by rfl) (pu_assignE (v := .int .i64 _) (by rfl)) ?_
          refine rg_nil ?_
          exact ⟨(k + 1, _), ⟨hk1, lt_succ_cases hk3 hbk⟩, by show p.length - (k + 1) < p.length - k; omega, (by repeat (first | exact agree_nil | refine agree_cons (by rfl) ?_)), by repeat constructor⟩
    ·
      have hk1 : k = p.length := by simp at hc1; omega
      subst hk1
      have hall : rootOk p = true := by rw [hgood]; exact all_of hk3
      have hll := rootB_len p p.length (Nat.le_refl _)
      have hsl : (sealS (rootB p p.length)).length = 128 := sealS_len (by rw [hll]; omega)
      refine t_exit ?_
      refine t_seq_region ?_
      refine rg_pure (by rfl) (by rfl) (pu_moveE (v := u) (by rfl)) ?_
      refine rg_loud (by rfl) (lo_callFQ call45 (by rfl) (fun w hw => rseal_c u (rootB p p.length) (by rw [hll]; omega) (rootB_byte p) w (((SrcE.src (by repeat constructor)).to hll.symm rfl) w hw)) ?_)
      refine rg_loud (by rfl) (lo_storeV (vs := u8s (sealS (rootB p p.length))) (by rfl) (by rfl) (by rfl) (by repeat constructor) sizeOf43 (by first | (simp only [u8s_len, u32s_len, i64s_len, List.length_replicate, List.length_set, encE_len, sumS_len, checkS_len, *]; done) | rfl) (one_u8s _) (by first | (simp only [u8s_len, u32s_len, i64s_len, List.length_replicate, List.length_set, encE_len, sumS_len, checkS_len, *]; done) | rfl) ?_)
      refine rg_pure (by rfl) (by rfl) (pu_assignE (v := .int .i64 _) (by rfl)) ?_
      refine rg_nil ?_
      refine t_ret ?_
      exact Fin.ret (res2 rfl (ResV.cellA (cs := u8s (sealS (rootB p p.length))) (by rfl) isAgg43 sizeOf43 (HasE.has (by repeat constructor)) (by first | (simp only [u8s_len, u32s_len, i64s_len, List.length_replicate, List.length_set, encE_len, sumS_len, checkS_len, *]; done) | rfl)) .tmp) (by rw [rootS, hall]; rfl)
end Go.Proofs.Ytpoecjeknolnoaa
