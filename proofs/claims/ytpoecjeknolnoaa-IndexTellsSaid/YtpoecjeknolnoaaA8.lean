/- Walks of functions that the statements of this seat reach: what each one hands back. Conditions: those that each theorem names. -/
import Derived.Test.YtpoecjeknolnoaaA7
import Derived.Test.YtpoecjeknolnoaaProg
import Derived.KernelRfl
namespace Go.Proofs.Ytpoecjeknolnoaa
open Go.RowKit Go.Proofs.HL Go.Proofs.Try
set_option maxRecDepth 10000
set_option linter.unusedSimpArgs false
set_option linter.unusedVariables false
attribute [local irreducible] T RG RA Pu Lo
/-- The first bytes of a sum. -/
def checkS (l : List Int) : List Int := (sumS l).take 4
theorem checkS_len (l : List Int) : (checkS l).length = 4 := by simp [checkS, sumS_len]
theorem u8s_take (l : List Int) (k : Nat) : (u8s l).take k = u8s (l.take k) := by simp [u8s, List.map_take]
theorem check_c (v : Value) (l : List Int) (hl : l.length ≤ 1000000) (w : World) (hv : Sl w v 1 l.length (u8s l)) : Gives prog 56 [v].toArray w (.agg (u8s (checkS l)).toArray) := by
  refine gives_of_T func56 rfl 9 rfl rfl rfl [.sl v 1 l.length (u8s l)] ((holds0 w).addSl hv (by decide)) ?_
  refine t_seq_region ?_
  refine rg_loud (by rfl) (lo_alloc (cs := u8s (List.replicate 4 0)) (by rfl) zeroValue93 (by rfl) (fun b0 hb0 => ?_))
  refine rg_nil ?_
  refine t_seq_region ?_
  refine rg_pure (by rfl) (by rfl) (pu_moveE (v := v) (by rfl)) ?_
  refine rg_loud (by rfl) (lo_callFQ call66 (by rfl) (fun w hw => sum_c v l hl w ((SrcE.src (by repeat constructor)) w hw)) ?_)
  refine rg_loud (by rfl) (lo_alloc (cs := u8s (List.replicate 32 0)) (by rfl) zeroValue47 (by rfl) (fun b1 hb1 => ?_))
  refine rg_loud (by rfl) (lo_storeV (vs := u8s (sumS l)) (by rfl) (by rfl) (by rfl) (by repeat constructor) sizeOf47 (by first | (simp only [u8s_len, u32s_len, i64s_len, List.length_replicate, List.length_set, encE_len, sumS_len, checkS_len, *]; done) | rfl) (one_u8s _) (by first | (simp only [u8s_len, u32s_len, i64s_len, List.length_replicate, List.length_set, encE_len, sumS_len, checkS_len, *]; done) | rfl) ?_)
  refine rg_nil ?_
  refine t_seq_region ?_
  refine rg_pure (by rfl) (by rfl) (pu_sliceArr (l := 0) (h := 4) (by rfl) underlying47 sizeOf5 bv_none (bv_some (by rfl)) (by decide) (by decide) (by decide)) ?_
  refine rg_pure (by rfl) (by rfl) (pu_arrPtr (by rfl) (src_has (off := 0) (m := 4) (sz := 1) (HasE.has (by repeat constructor)) (by simp only [u8s_len, sumS_len]; decide) (by decide) (by decide)) underlying93 (by decide)) ?_
  refine rg_pure (by rfl) (by rfl) (pu_load (ds := u8s (checkS l)) (by rfl) isAgg93 sizeOf93 (HasE.has (by repeat constructor)) (by rw [List.drop_zero, u8s_take]; rfl) (by rw [u8s_len, checkS_len])) ?_
  refine rg_loud (by rfl) (lo_storeV (vs := u8s (checkS l)) (by rfl) (by rfl) (by rfl) (by repeat constructor) sizeOf93 (by first | (simp only [u8s_len, u32s_len, i64s_len, List.length_replicate, List.length_set, encE_len, sumS_len, checkS_len, *]; done) | rfl) (one_u8s _) (by first | (simp only [u8s_len, u32s_len, i64s_len, List.length_replicate, List.length_set, encE_len, sumS_len, checkS_len, *]; done) | rfl) ?_)
  refine rg_nil ?_
  refine t_ret ?_
  exact Fin.ret (res1 rfl (ResV.cellA (cs := _) (by rfl) isAgg93 sizeOf93 (HasE.has (by repeat constructor)) (by first | (simp only [u8s_len, u32s_len, i64s_len, List.length_replicate, List.length_set, encE_len, sumS_len, checkS_len, *]; done) | rfl))) (by rfl)
/-- Bytes with their check, and zeros behind. -/
def sealS (l : List Int) : List Int := l ++ checkS l ++ List.replicate (124 - l.length) 0
theorem sealS_len {l : List Int} (h : l.length ≤ 124) : (sealS l).length = 128 := by simp [sealS, checkS_len]; omega
theorem seal_put {l : List Int} (h : l.length ≤ 124) : putAt (u8s (List.replicate 128 0)) 0 ((u8s (l ++ checkS l)).take ((l.length + 4) * 1)) = u8s (sealS l) := by
  have h1 : (u8s (l ++ checkS l)).take ((l.length + 4) * 1) = u8s (l ++ checkS l) := List.take_of_length_le (by rw [u8s_len, List.length_append, checkS_len]; omega)
  rw [h1, putAt, u8s_len, List.length_append, checkS_len]
  simp only [u8s, sealS, List.take_zero, List.nil_append, List.map_append, List.map_replicate, List.drop_replicate, Nat.zero_add]
  rw [show 128 - (l.length + 4) = 124 - l.length by omega]
theorem seal_c (v : Value) (l : List Int) (hl : l.length ≤ 124) (w : World) (hv : Sl w v 1 l.length (u8s l)) : Gives prog 42 [v].toArray w (.agg (u8s (sealS l)).toArray) := by
  have hsl : (sealS l).length = 128 := sealS_len hl
  refine gives_of_T func42 rfl 14 rfl rfl rfl [.sl v 1 l.length (u8s l)] ((holds0 w).addSl hv (by decide)) ?_
  refine t_seq_region ?_
  refine rg_loud (by rfl) (lo_alloc (cs := u8s (List.replicate 128 0)) (by rfl) zeroValue43 (by rfl) (fun b0 hb0 => ?_))
  refine rg_nil ?_
  refine t_seq_region ?_
  refine rg_pure (by rfl) (by rfl) (pu_moveE (v := v) (by rfl)) ?_
  refine rg_loud (by rfl) (lo_callFQ call56 (by rfl) (fun w hw => check_c v l (by omega) w ((SrcE.src (by repeat constructor)) w hw)) ?_)
  refine rg_loud (by rfl) (lo_alloc (cs := u8s (List.replicate 4 0)) (by rfl) zeroValue93 (by rfl) (fun b1 hb1 => ?_))
  refine rg_loud (by rfl) (lo_storeV (vs := u8s (checkS l)) (by rfl) (by rfl) (by rfl) (by repeat constructor) sizeOf93 (by first | (simp only [u8s_len, u32s_len, i64s_len, List.length_replicate, List.length_set, encE_len, sumS_len, checkS_len, *]; done) | rfl) (one_u8s _) (by first | (simp only [u8s_len, u32s_len, i64s_len, List.length_replicate, List.length_set, encE_len, sumS_len, checkS_len, *]; done) | rfl) ?_)
  refine rg_nil ?_
  refine t_seq_region ?_
  refine rg_loud (by rfl) (lo_alloc (cs := u8s (List.replicate 128 0)) (by rfl) zeroValue43 (by rfl) (fun b2 hb2 => ?_))
  refine rg_nil ?_
  refine t_seq_draw 5 6 _ mixed (Sub.refl _) (by rfl) (by decide +kernel) ?_
  refine ra_pure0 0 1 rfl (by rfl) (by decide +kernel) (by rfl) (pu_sliceArr (l := 0) (h := 128) (by rfl) underlying43 sizeOf5 bv_none bv_none (by decide) (by decide) (by decide)) ?_
  refine ra_pure0 1 3 rfl (by rfl) (by decide +kernel) (by rfl) (pu_moveE (v := v) (by rfl)) ?_
  refine ra_pure0 3 11 rfl (by rfl) (by decide +kernel) (by rfl) (pu_sliceArr (l := 0) (h := 4) (by rfl) underlying93 sizeOf5 bv_none bv_none (by decide) (by decide) (by decide)) ?_
  refine ra_next 2 15 (by decide +kernel) ?_
  refine next_loud rfl (by rfl) (lo_callR (E := fun u => .row 5 1 u l.length (u8s l)) call57 (by rfl) (fun w hw => clone57_c v _ _ w ((SrcE.src (by repeat constructor)) w hw) (one_u8s _) (by omega)) (fun v1 => ⟨(fun _ => (by repeat constructor)), ?_⟩))
  refine ra_next 4 31 (by decide +kernel) ?_
  refine next_loud rfl (by rfl) (lo_appendE (xs' := u8s (l ++ checkS l)) (k' := l.length + 4) elemOk45 (by rfl) (by rfl) (by rfl) (by repeat constructor) (src_all (sz := 1) (m := 4) (HasE.has (by repeat constructor)) (by rw [u8s_len, checkS_len]) (by decide)) (one_u8s _) (by omega) (by rfl) (by simp [u8s]) (fun v3 => ⟨(fun _ => (by repeat constructor)), ?_⟩))
  refine ra_next 5 63 (by decide +kernel) ?_
  refine next_loud rfl (by rfl) (lo_copyOwn (kk := l.length + 4) (cs' := u8s (sealS l)) (by rfl) (by rfl) (by rfl) underlying45 sizeOf5 (by repeat constructor) (SrcE.src (by repeat constructor)) (one_u8s _) (by omega) (by rw [u8s_len, List.length_replicate]; omega) (seal_put hl) ⟨(fun hlt => absurd hlt (by decide +kernel)), ?_⟩)
  refine ra_end (by decide +kernel) ?_
  refine t_seq_region ?_
  refine rg_pure (by rfl) (by rfl) (pu_loadAll (by rfl) isAgg43 sizeOf43 (HasE.has (by repeat constructor)) (by first | (simp only [u8s_len, u32s_len, i64s_len, List.length_replicate, List.length_set, encE_len, sumS_len, checkS_len, *]; done) | rfl)) ?_
  refine rg_loud (by rfl) (lo_storeV (vs := _) (by rfl) (by rfl) (by rfl) (by repeat constructor) sizeOf43 (by first | (simp only [u8s_len, u32s_len, i64s_len, List.length_replicate, List.length_set, encE_len, sumS_len, checkS_len, *]; done) | rfl) (one_u8s _) (by first | (simp only [u8s_len, u32s_len, i64s_len, List.length_replicate, List.length_set, encE_len, sumS_len, checkS_len, *]; done) | rfl) ?_)
  refine rg_nil ?_
  refine t_ret ?_
  exact Fin.ret (res1 rfl (ResV.cellA (cs := u8s (sealS l)) (by rfl) isAgg43 sizeOf43 (HasE.has (by repeat constructor)) (by first | (simp only [u8s_len, u32s_len, i64s_len, List.length_replicate, List.length_set, encE_len, sumS_len, checkS_len, *]; done) | rfl))) (by rfl)
def entB (e : En) : List Int := e.1 ++ [IntKind.u8.wrap e.2.1, IntKind.u8.wrap e.2.2.1, IntKind.u8.wrap (e.2.2.2.fdiv (2 ^ (min (Int.toNat 8) IntKind.i64.bits))), IntKind.u8.wrap e.2.2.2]
def headB (c n : Int) : List Int := [c, IntKind.u8.wrap n]
def leafB (l : List En) (k : Nat) : List Int := headB 76 l.length ++ (l.take k).flatMap entB
def encS (l : List En) : List Int × Int := if leafGood l then (sealS (leafB l l.length), 0) else (List.replicate 128 0, 11)
theorem take_succ_flat {l : List En} {k : Nat} (hk : k < l.length) : (l.take (k + 1)).flatMap entB = (l.take k).flatMap entB ++ entB (l.getD k d0) := by
  rw [List.take_succ_eq_append_getElem hk, List.flatMap_append]
  simp [hk]
theorem leafB_step {l : List En} {k : Nat} (hk : k < l.length) : leafB l (k + 1) = leafB l k ++ entB (l.getD k d0) := by rw [leafB, leafB, take_succ_flat hk, List.append_assoc]
theorem entB_len {e : En} (h : e.1.length = 32) : (entB e).length = 36 := by simp [entB, h]
theorem leafB_len {l : List En} (hk : KeysOk l) : ∀ k, k ≤ l.length → (leafB l k).length = 2 + 36 * k
  | 0, _ => rfl
  | k + 1, h => by rw [leafB_step h, List.length_append, leafB_len hk k (by omega), entB_len (hk.at_ k)]; omega
theorem leafGood_len {l : List En} (h : leafGood l = true) : 1 ≤ l.length ∧ l.length ≤ 3 := by
  simp only [leafGood, Bool.and_eq_true, Bool.not_eq_true', Bool.or_eq_false_iff, decide_eq_false_iff_not] at h
  omega
theorem enc_c (v : Value) (l : List En) (hk : KeysOk l) (w : World) (hv : Sl w v 35 l.length (encEs l)) : Gives prog 25 [v].toArray w (.tuple #[.agg (u8s (encS l).1).toArray, .int .i64 (encS l).2]) := by
  have hb := hv.len
  refine gives_of_T func25 rfl 43 rfl rfl rfl [.sl v 35 l.length (encEs l)] ((holds0 w).addSl hv (by decide)) ?_
  refine t_seq_region ?_
  refine rg_loud (by rfl) (lo_alloc (cs := u8s (List.replicate 128 0)) (by rfl) zeroValue43 (by rfl) (fun b0 hb0 => ?_))
  refine rg_pure (by rfl) (by rfl) (pu_assignE (v := .int .i64 _) (by rfl)) ?_
  refine rg_nil ?_
  refine t_seq ?_
  refine t_seq_region ?_
  refine rg_pure (by rfl) (by rfl) (pu_moveE (v := v) (by rfl)) ?_
  refine rg_loud (by rfl) (lo_callFQ call34 (by rfl) (fun w hw => leafGood_c v l hk w ((SrcE.src (by repeat constructor)) w hw)) ?_)
  refine rg_pure (by rfl) (by rfl) (pu_not (by rfl)) ?_
  refine rg_nil ?_
  refine t_cond (by rfl) (fun hc0 => ?_) (fun hc0 => ?_)
  ·
    have hbad : leafGood l = false := by simpa using hc0
    refine t_seq_region ?_
    refine rg_pure (by rfl) (by rfl) (pu_build0 zeroValue43 ⟨_, _, underlying43, fun w => ⟨1, sizeOf5 w⟩⟩) ?_
    refine rg_loud (by rfl) (lo_storeV (vs := u8s (List.replicate 128 0)) (by rfl) (by rfl) (by rfl) (by repeat constructor) sizeOf43 (by first | (simp only [u8s_len, u32s_len, i64s_len, List.length_replicate, List.length_set, encE_len, sumS_len, checkS_len, *]; done) | rfl) (one_u8s _) (by first | (simp only [u8s_len, u32s_len, i64s_len, List.length_replicate, List.length_set, encE_len, sumS_len, checkS_len, *]; done) | rfl) ?_)
    refine rg_pure (by rfl) (by rfl) (pu_assignE (v := .int .i64 _) (by rfl)) ?_
    refine rg_nil ?_
    refine t_ret ?_
    exact Fin.ret (res2 rfl (ResV.cellA (cs := u8s (List.replicate 128 0)) (by rfl) isAgg43 sizeOf43 (HasE.has (by repeat constructor)) (by first | (simp only [u8s_len, u32s_len, i64s_len, List.length_replicate, List.length_set, encE_len, sumS_len, checkS_len, *]; done) | rfl)) .tmp) (by rw [encS, hbad]; rfl)
  ·
    have hgood : leafGood l = true := by simpa using hc0
    have hlen := leafGood_len hgood
    refine t_skip ?_
    refine t_seq_region ?_
    refine rg_pure (by rfl) (by rfl) (pu_moveE (v := v) (by rfl)) ?_
    refine rg_pure (by rfl) (by rfl) (pu_len (by rfl) (SrcE.src (by repeat constructor)) (by rfl) underlying22) ?_
    refine rg_pure (by rfl) (by rfl) (pu_conv (by rfl) underlying3 underlying5 (by rfl)) ?_
    refine rg_loud (by rfl) (lo_buildRow1 (cs := u8s (headB 76 l.length)) (by rfl) underlying45 sizeOf5 (by decide) zeroValue5 (by rfl) (by kernel_rfl) (by rfl) (fun b1 hb1 => ?_))
    refine rg_pure (by rfl) (by rfl) (pu_assign) ?_
    refine rg_nil ?_
    refine t_seq ?_
    refine t_seq_region ?_
    refine rg_pure (by rfl) (by rfl) (pu_moveE (v := v) (by rfl)) ?_
    refine rg_pure (by rfl) (by rfl) (pu_len (by rfl) (SrcE.src (by repeat constructor)) (by rfl) underlying22) ?_
    refine rg_pure (by rfl) (by rfl) (pu_moveE (v := .int .i64 _) (by rfl)) ?_
    refine rg_nil ?_
    refine t_block ?_
    refine t_loop (σ := Nat × Value) (fun s => [(mkS, marksV []), (0, v), (2, .pointer (some ⟨b0, 0, none⟩)), (4, s.2), (15, v), (16, .int .i64 (l.length : Int)), (17, .int .i64 (s.1 : Int))]) (fun s => [.row 5 1 s.2 (2 + 36 * s.1) (u8s (leafB l s.1)), .own b0 43 (u8s (List.replicate 128 0)), .sl v 35 l.length (encEs l)]) (fun s => s.1 ≤ l.length) (fun s => l.length - s.1) ((0, _) : Nat × Value) (Nat.zero_le _) (by repeat (first | exact agree_nil | refine agree_cons (by rfl) ?_)) (by repeat constructor) (fun s g hks => ?_)
    obtain ⟨k, u⟩ := s
    simp only at hks ⊢
    refine t_seq_region ?_
    refine rg_pure (by rfl) (by rfl) (pu_lss (by rfl) (by rfl)) ?_
    refine rg_nil ?_
    refine t_seq ?_
    refine t_cond (by rfl) (fun hc1 => ?_) (fun hc1 => ?_)
    ·
      have hk1 : k < l.length := by simp at hc1; omega
      have hke := hk.at_ k
      refine t_skip ?_
      refine t_seq ?_
      refine t_block ?_
      refine t_seq_region ?_
      refine rg_pure (by rfl) (by rfl) (pu_index (by rfl) (by rfl) (SrcE.src (by repeat constructor)) underlying22 sizeOf49 (by omega)) ?_
      refine rg_pure (by rfl) (by rfl) (pu_loadS (ds := encE (l.getD (k) d0)) (by rfl) isAgg49 sizeOf49 (SrcE.src (by repeat constructor)) (encEs_at hk hk1) (encE_len (hk.at_ _)) (by decide)) ?_
      refine rg_loud (by rfl) (lo_alloc (cs := _) (by rfl) zeroValue49 (by rfl) (fun b2 hb2 => ?_))
      refine rg_loud (by rfl) (lo_storeV (vs := encE (l.getD k d0)) (by rfl) (by rfl) (by rfl) (by repeat constructor) sizeOf49 (by first | (simp only [u8s_len, u32s_len, i64s_len, List.length_replicate, List.length_set, encE_len, sumS_len, checkS_len, *]; done) | rfl) (one_encE _) (by first | (simp only [u8s_len, u32s_len, i64s_len, List.length_replicate, List.length_set, encE_len, sumS_len, checkS_len, *]; done) | rfl) ?_)
      refine rg_nil ?_
      refine t_region_draw 20 20 [.own b2 49 (encE (l.getD k d0))] mixed (by repeat constructor) (by rfl) (by decide +kernel) ?_
      refine ra_pure0 0 1 rfl (by rfl) (by decide +kernel) (by rfl) (pu_moveE (v := u) (by rfl)) ?_
      first | (refine ra_pure0 1 3 rfl (by rfl) (by decide +kernel) (by rfl) (pu_field (by rfl) underlying49 (by rfl) sizeOf47 (by decide)) ?_) | (refine ra_pure 1 3 rfl (by rfl) (by decide +kernel) (by rfl) (pu_fieldP (by rfl) underlying49 (by rfl) sizeOf47 (by decide) (src_some (SrcE.src (by repeat constructor)) (by omega))) ?_)
      refine ra_pure0 2 7 rfl (by rfl) (by decide +kernel) (by rfl) (pu_sliceArr (l := 0) (h := 32) (by rfl) underlying47 sizeOf5 bv_none bv_none (by decide) (by decide) (by decide)) ?_
      first | (refine ra_pure0 4 23 rfl (by rfl) (by decide +kernel) (by rfl) (pu_field (by rfl) underlying49 (by rfl) sizeOf3 (by decide)) ?_) | (refine ra_pure 4 23 rfl (by rfl) (by decide +kernel) (by rfl) (pu_fieldP (by rfl) underlying49 (by rfl) sizeOf3 (by decide) (src_some (SrcE.src (by repeat constructor)) (by omega))) ?_)
      refine ra_pure 5 55 rfl (by rfl) (by decide +kernel) (by rfl) (pu_load1 (by rfl) isAgg3 (HasE.has (by repeat constructor)) (encE_place hke)) ?_
      refine ra_pure0 6 119 rfl (by rfl) (by decide +kernel) (by rfl) (pu_conv (by rfl) underlying3 underlying5 (by rfl)) ?_
      first | (refine ra_pure0 7 247 rfl (by rfl) (by decide +kernel) (by rfl) (pu_field (by rfl) underlying49 (by rfl) sizeOf3 (by decide)) ?_) | (refine ra_pure 7 247 rfl (by rfl) (by decide +kernel) (by rfl) (pu_fieldP (by rfl) underlying49 (by rfl) sizeOf3 (by decide) (src_some (SrcE.src (by repeat constructor)) (by omega))) ?_)
      refine ra_pure 8 503 rfl (by rfl) (by decide +kernel) (by rfl) (pu_load1 (by rfl) isAgg3 (HasE.has (by repeat constructor)) (encE_blocks hke)) ?_
      refine ra_pure0 9 1015 rfl (by rfl) (by decide +kernel) (by rfl) (pu_conv (by rfl) underlying3 underlying5 (by rfl)) ?_
      first | (refine ra_pure0 10 2039 rfl (by rfl) (by decide +kernel) (by rfl) (pu_field (by rfl) underlying49 (by rfl) sizeOf3 (by decide)) ?_) | (refine ra_pure 10 2039 rfl (by rfl) (by decide +kernel) (by rfl) (pu_fieldP (by rfl) underlying49 (by rfl) sizeOf3 (by decide) (src_some (SrcE.src (by repeat constructor)) (by omega))) ?_)
      refine ra_pure 11 4087 rfl (by rfl) (by decide +kernel) (by rfl) (pu_load1 (by rfl) isAgg3 (HasE.has (by repeat constructor)) (encE_refs hke)) ?_
      refine ra_pure0 12 8183 rfl (by rfl) (by decide +kernel) (by rfl) (pu_shr (by rfl) (by rfl) (by decide)) ?_
      refine ra_pure0 13 16375 rfl (by rfl) (by decide +kernel) (by rfl) (pu_conv (by rfl) underlying3 underlying5 (by rfl)) ?_
      first | (refine ra_pure0 14 32759 rfl (by rfl) (by decide +kernel) (by rfl) (pu_field (by rfl) underlying49 (by rfl) sizeOf3 (by decide)) ?_) | (refine ra_pure 14 32759 rfl (by rfl) (by decide +kernel) (by rfl) (pu_fieldP (by rfl) underlying49 (by rfl) sizeOf3 (by decide) (src_some (SrcE.src (by repeat constructor)) (by omega))) ?_)
      refine ra_pure 15 65527 rfl (by rfl) (by decide +kernel) (by rfl) (pu_load1 (by rfl) isAgg3 (HasE.has (by repeat constructor)) (encE_refs hke)) ?_
      refine ra_pure0 16 131063 rfl (by rfl) (by decide +kernel) (by rfl) (pu_conv (by rfl) underlying3 underlying5 (by rfl)) ?_
      refine ra_next2 3 17 131071 262135 (by decide +kernel) ?_ ?_
      ·
        refine next_loud rfl (by rfl) (lo_appendE (xs' := u8s (leafB l k ++ (l.getD k d0).1)) (k' := 2 + 36 * k + 32) elemOk45 (by rfl) (by rfl) (by rfl) (by repeat constructor) ((src_has (off := 0) (m := 32) (sz := 1) (HasE.has (by repeat constructor)) (by rw [encE_len hke]; decide) (by decide) (by decide)).to rfl (encE_key hke)) (one_u8s _) (by omega) (by rfl) (by simp [u8s]) (fun v3 => ⟨(fun _ => (by repeat constructor)), ?_⟩))
        refine ra_next 17 262143 (by decide +kernel) ?_
        refine next_loud rfl (by rfl) (lo_buildRow1 (cs := u8s [IntKind.u8.wrap (l.getD k d0).2.1, IntKind.u8.wrap (l.getD k d0).2.2.1, IntKind.u8.wrap ((l.getD k d0).2.2.2.fdiv (2 ^ (min (Int.toNat 8) IntKind.i64.bits))), IntKind.u8.wrap (l.getD k d0).2.2.2]) (by rfl) underlying45 sizeOf5 (by decide) zeroValue5 (by rfl) (by kernel_rfl) (by rfl) (fun b4 hb4 => ⟨(fun _ => (by repeat constructor)), ?_⟩))
        refine ra_next 18 524287 (by decide +kernel) ?_
        refine next_loud rfl (by rfl) (lo_appendE (xs' := u8s (leafB l (k + 1))) (k' := 2 + 36 * (k + 1)) elemOk45 (by rfl) (by rfl) (by rfl) (by repeat constructor) (SrcE.src (by repeat constructor)) (one_u8s _) (by omega) (by omega) (by rw [leafB_step hk1]; simp [u8s, entB]) (fun v5 => ⟨(fun _ => (by repeat constructor)), ?_⟩))
        refine ra_pure0 19 1048575 rfl (by rfl) (by decide +kernel) (by rfl) (pu_assign) ?_
        refine ra_end (by decide +kernel) ?_
        refine t_region ?_
        refine rg_pure (by rfl) (by rfl) (pu_add64 (by rfl) (by rfl) (by omega)) ?_
        refine rg_pure (by rfl) (by rfl) (pu_moveE (v := .int .i64 _) (by rfl)) ?_
        refine rg_nil ?_
        exact ⟨(k + 1, _), hk1, by show l.length - (k + 1) < l.length - k; omega, (by repeat (first | exact agree_nil | refine agree_cons (by rfl) ?_)), by repeat constructor⟩
      ·
        refine next_loud rfl (by rfl) (lo_buildRow1 (cs := u8s [IntKind.u8.wrap (l.getD k d0).2.1, IntKind.u8.wrap (l.getD k d0).2.2.1, IntKind.u8.wrap ((l.getD k d0).2.2.2.fdiv (2 ^ (min (Int.toNat 8) IntKind.i64.bits))), IntKind.u8.wrap (l.getD k d0).2.2.2]) (by rfl) underlying45 sizeOf5 (by decide) zeroValue5 (by rfl) (by kernel_rfl) (by rfl) (fun b4 hb4 => ⟨(fun _ => (by repeat constructor)), ?_⟩))
        refine ra_next 3 262143 (by decide +kernel) ?_
        refine next_loud rfl (by rfl) (lo_appendE (xs' := u8s (leafB l k ++ (l.getD k d0).1)) (k' := 2 + 36 * k + 32) elemOk45 (by rfl) (by rfl) (by rfl) (by repeat constructor) ((src_has (off := 0) (m := 32) (sz := 1) (HasE.has (by repeat constructor)) (by rw [encE_len hke]; decide) (by decide) (by decide)).to rfl (encE_key hke)) (one_u8s _) (by omega) (by rfl) (by simp [u8s]) (fun v3 => ⟨(fun _ => (by repeat constructor)), ?_⟩))
        refine ra_next 18 524287 (by decide +kernel) ?_
        refine next_loud rfl (by rfl) (lo_appendE (xs' := u8s (leafB l (k + 1))) (k' := 2 + 36 * (k + 1)) elemOk45 (by rfl) (by rfl) (by rfl) (by repeat constructor) (SrcE.src (by repeat constructor)) (one_u8s _) (by omega) (by omega) (by rw [leafB_step hk1]; simp [u8s, entB]) (fun v5 => ⟨(fun _ => (by repeat constructor)), ?_⟩))
        refine ra_pure0 19 1048575 rfl (by rfl) (by decide +kernel) (by rfl) (pu_assign) ?_
        refine ra_end (by decide +kernel) ?_
        refine t_region ?_
        refine rg_pure (by rfl) (by rfl) (pu_add64 (by rfl) (by rfl) (by omega)) ?_
        refine rg_pure (by rfl) (by rfl) (pu_moveE (v := .int .i64 _) (by rfl)) ?_
        refine rg_nil ?_
        exact ⟨(k + 1, _), hk1, by show l.length - (k + 1) < l.length - k; omega, (by repeat (first | exact agree_nil | refine agree_cons (by rfl) ?_)), by repeat constructor⟩
    ·
      have hk1 : k = l.length := by simp at hc1; omega
      have hll := leafB_len hk l.length (Nat.le_refl _)
      have hsl : (sealS (leafB l l.length)).length = 128 := sealS_len (by rw [hll]; omega)
      refine t_exit ?_
      subst hk1
      refine t_seq_region ?_
      refine rg_pure (by rfl) (by rfl) (pu_moveE (v := u) (by rfl)) ?_
      refine rg_loud (by rfl) (lo_callFQ call42 (by rfl) (fun w hw => seal_c u (leafB l l.length) (by rw [hll]; omega) w (((SrcE.src (by repeat constructor)).to hll.symm rfl) w hw)) ?_)
      refine rg_loud (by rfl) (lo_storeV (vs := u8s (sealS (leafB l l.length))) (by rfl) (by rfl) (by rfl) (by repeat constructor) sizeOf43 (by first | (simp only [u8s_len, u32s_len, i64s_len, List.length_replicate, List.length_set, encE_len, sumS_len, checkS_len, *]; done) | rfl) (one_u8s _) (by first | (simp only [u8s_len, u32s_len, i64s_len, List.length_replicate, List.length_set, encE_len, sumS_len, checkS_len, *]; done) | rfl) ?_)
      refine rg_pure (by rfl) (by rfl) (pu_assignE (v := .int .i64 _) (by rfl)) ?_
      refine rg_nil ?_
      refine t_ret ?_
      exact Fin.ret (res2 rfl (ResV.cellA (cs := u8s (sealS (leafB l l.length))) (by rfl) isAgg43 sizeOf43 (HasE.has (by repeat constructor)) (by first | (simp only [u8s_len, u32s_len, i64s_len, List.length_replicate, List.length_set, encE_len, sumS_len, checkS_len, *]; done) | rfl)) .tmp) (by rw [encS, hgood]; rfl)
/-! ### Lists of numbers -/
def idxA : List Int → Int → Int → Int
  | [], _, _ => -1
  | y :: r, x, i => if x == y then i else idxA r x (i + 1)
theorem drop_consI {p : List Int} {k : Nat} (hk : k < p.length) : p.drop k = p.getD k 0 :: p.drop (k + 1) := by
  rw [List.drop_eq_getElem_cons hk]; simp [hk]
theorem idx_c (v : Value) (p : List Int) (x : Int) (w : World) (hv : Sl w v 1 p.length (i64s p)) : Gives prog 58 [v, .int .i64 x].toArray w (.int .i64 (idxA p x 0)) := by
  have hb := hv.len
  refine gives_of_T func58 rfl 19 rfl rfl rfl [.sl v 1 p.length (i64s p)] ((holds0 w).addSl hv (by decide)) ?_
  refine t_seq_region ?_
  refine rg_pure (by rfl) (by rfl) (pu_assignE (v := .int .i64 _) (by rfl)) ?_
  refine rg_nil ?_
  refine t_seq ?_
  refine t_seq_region ?_
  refine rg_pure (by rfl) (by rfl) (pu_moveE (v := v) (by rfl)) ?_
  refine rg_pure (by rfl) (by rfl) (pu_len (by rfl) (SrcE.src (by repeat constructor)) (by rfl) underlying23) ?_
  refine rg_pure (by rfl) (by rfl) (pu_moveE (v := .int .i64 _) (by rfl)) ?_
  refine rg_nil ?_
  refine t_block ?_
  refine t_loop (σ := Nat) (fun k => [(mkS, marksV []), (0, v), (1, .int .i64 x), (6, v), (7, .int .i64 (p.length : Int)), (8, .int .i64 (k : Int))]) (fun k => [.sl v 1 p.length (i64s p)]) (fun k => k ≤ p.length ∧ idxA p x 0 = idxA (p.drop k) x k) (fun k => p.length - k) 0 ⟨Nat.zero_le _, rfl⟩ (by repeat (first | exact agree_nil | refine agree_cons (by rfl) ?_)) (by repeat constructor) (fun k g hkk => ?_)
  obtain ⟨hk2, hk3⟩ := hkk
  refine t_seq_region ?_
  refine rg_pure (by rfl) (by rfl) (pu_lss (by rfl) (by rfl)) ?_
  refine rg_nil ?_
  refine t_seq ?_
  refine t_cond (by rfl) (fun hc0 => ?_) (fun hc0 => ?_)
  ·
    have hk1 : k < p.length := by simp at hc0; omega
    refine t_skip ?_
    refine t_seq ?_
    refine t_block ?_
    refine t_seq_region ?_
    refine rg_pure (by rfl) (by rfl) (pu_moveE (v := .int .i64 _) (by rfl)) ?_
    refine rg_pure (by rfl) (by rfl) (pu_assignE (v := .int .i64 _) (by rfl)) ?_
    refine rg_nil ?_
    refine t_seq_region ?_
    refine rg_pure (by rfl) (by rfl) (pu_moveE (v := .int .i64 _) (by rfl)) ?_
    refine rg_pure (by rfl) (by rfl) (pu_moveE (v := v) (by rfl)) ?_
    refine rg_pure (by rfl) (by rfl) (pu_moveE (v := .int .i64 _) (by rfl)) ?_
    refine rg_pure (by rfl) (by rfl) (pu_index1 (by rfl) (by rfl) (SrcE.src (by repeat constructor)) underlying23 sizeOf3 (by omega)) ?_
    refine rg_pure (by rfl) (by rfl) (pu_load1S (by rfl) isAgg3 (SrcE.src (by repeat constructor)) (i64s_get (by simpa using hk1))) ?_
    refine rg_pure (by rfl) (by rfl) (pu_eql (by rfl) (by rfl)) ?_
    refine rg_nil ?_
    refine t_cond (by rfl) (fun hc1 => ?_) (fun hc1 => ?_)
    ·
      have hall : idxA p x 0 = k := by rw [hk3, drop_consI hk1, idxA, if_pos (show (x == p.getD k 0) = true from hc1)]
      refine t_seq_region ?_
      refine rg_pure (by rfl) (by rfl) (pu_moveE (v := .int .i64 _) (by rfl)) ?_
      refine rg_pure (by rfl) (by rfl) (pu_assignE (v := .int .i64 _) (by rfl)) ?_
      refine rg_nil ?_
      refine t_ret ?_
      exact Fin.ret (res1 rfl .tmp) (by rw [hall]; rfl)
    ·
      have hst : idxA p x 0 = idxA (p.drop (k + 1)) x ((k + 1 : Nat) : Int) := by rw [hk3, drop_consI hk1, idxA, if_neg (by rw [show (x == p.getD k 0) = false from hc1]; decide)]; rfl
      refine t_skip ?_
      refine t_region ?_
      refine rg_pure (by rfl) (by rfl) (pu_add64 (by rfl) (by rfl) (by omega)) ?_
      refine rg_pure (by rfl) (by rfl) (pu_moveE (v := .int .i64 _) (by rfl)) ?_
      refine rg_nil ?_
      exact ⟨k + 1, ⟨hk1, hst⟩, by show p.length - (k + 1) < p.length - k; omega, (by repeat (first | exact agree_nil | refine agree_cons (by rfl) ?_)), by repeat constructor⟩
  ·
    have hk1 : k = p.length := by simp at hc0; omega
    have hall : idxA p x 0 = -1 := by rw [hk3, hk1, List.drop_length]; rfl
    refine t_exit ?_
    refine t_seq_region ?_
    refine rg_pure (by rfl) (by rfl) (pu_assignE (v := .int .i64 (-1)) (by rfl)) ?_
    refine rg_nil ?_
    refine t_ret ?_
    exact Fin.ret (res1 rfl .tmp) (by rw [hall]; rfl)
theorem contains_c (v : Value) (p : List Int) (x : Int) (w : World) (hv : Sl w v 1 p.length (i64s p)) : Gives prog 43 [v, .int .i64 x].toArray w (.bool (decide (0 ≤ idxA p x 0))) := by
  refine gives_of_T func43 rfl 9 rfl rfl rfl [.sl v 1 p.length (i64s p)] ((holds0 w).addSl hv (by decide)) ?_
  refine t_seq_region ?_
  refine rg_pure (by rfl) (by rfl) (pu_assignE (v := .bool _) (by rfl)) ?_
  refine rg_nil ?_
  refine t_seq_region ?_
  refine rg_pure (by rfl) (by rfl) (pu_moveE (v := v) (by rfl)) ?_
  refine rg_pure (by rfl) (by rfl) (pu_moveE (v := .int .i64 _) (by rfl)) ?_
  refine rg_loud (by rfl) (lo_callFQ call58 (by rfl) (fun w hw => idx_c v p x w ((SrcE.src (by repeat constructor)) w hw)) ?_)
  refine rg_pure (by rfl) (by rfl) (pu_geq (by rfl) (by rfl)) ?_
  refine rg_pure (by rfl) (by rfl) (pu_assignE (v := .bool _) (by rfl)) ?_
  refine rg_nil ?_
  refine t_ret ?_
  exact Fin.ret (res1 rfl .tmp) (by rfl)
/-! ### The root -/
def rootBad (p : List Int) (i : Nat) : Bool := decide (p.getD i 0 < 2) || decide (128 ≤ p.getD i 0) || decide (0 ≤ idxA (p.take i) (p.getD i 0) 0)
def rootB (p : List Int) (k : Nat) : List Int := headB 82 p.length ++ (p.take k).map IntKind.u8.wrap
def rootOk (p : List Int) : Bool := !(decide ((p.length : Int) < 1) || decide ((100 : Int) < p.length)) && (List.range p.length).all fun i => !rootBad p i
def rootS (p : List Int) : List Int × Int := if rootOk p then (sealS (rootB p p.length), 0) else (List.replicate 128 0, 11)
theorem rootB_step {p : List Int} {k : Nat} (hk : k < p.length) : rootB p (k + 1) = rootB p k ++ [IntKind.u8.wrap (p.getD k 0)] := by
  rw [rootB, rootB, List.take_succ_eq_append_getElem hk, List.map_append, List.append_assoc]
  simp [hk]
theorem rootB_len (p : List Int) (k : Nat) (hk : k ≤ p.length) : (rootB p k).length = 2 + k := by simp [rootB, headB]; omega
theorem i64s_take (p : List Int) (k : Nat) : (i64s p).take k = i64s (p.take k) := by simp [i64s, List.map_take]
theorem root_c (v : Value) (p : List Int) (w : World) (hv : Sl w v 1 p.length (i64s p)) : Gives prog 26 [v].toArray w (.tuple #[.agg (u8s (rootS p).1).toArray, .int .i64 (rootS p).2]) := by
  have hb := hv.len
  refine gives_of_T func26 rfl 49 rfl rfl rfl [.sl v 1 p.length (i64s p)] ((holds0 w).addSl hv (by decide)) ?_
  refine t_seq_region ?_
  refine rg_loud (by rfl) (lo_alloc (cs := u8s (List.replicate 128 0)) (by rfl) zeroValue43 (by rfl) (fun b0 hb0 => ?_))
  refine rg_pure (by rfl) (by rfl) (pu_assignE (v := .int .i64 _) (by rfl)) ?_
  refine rg_nil ?_
  refine t_seq ?_
  refine t_seq_region ?_
  refine rg_pure (by rfl) (by rfl) (pu_moveE (v := v) (by rfl)) ?_
  refine rg_pure (by rfl) (by rfl) (pu_len (by rfl) (SrcE.src (by repeat constructor)) (by rfl) underlying23) ?_
  refine rg_pure (by rfl) (by rfl) (pu_lss (by rfl) (by rfl)) ?_
  refine rg_pure (by rfl) (by rfl) (pu_moveE (v := .bool _) (by rfl)) ?_
  refine rg_gpure (by rfl) (by rfl) (by rfl) (by rfl) (fun hg => pu_moveE (v := v) (by rfl)) ?_
  refine rg_gpure (by rfl) (by rfl) (by rfl) (by rfl) (fun hg => pu_len (gvE hg (by rfl)) (SrcE.src (by repeat constructor)) (by rfl) underlying23) ?_
  refine rg_gpure (by rfl) (by rfl) (by rfl) (by rfl) (fun hg => pu_gtr (gvE hg (by rfl)) (by rfl)) ?_
  refine rg_pure (by rfl) (by rfl) (pu_pickOr (by rfl) (by rfl)) ?_
  refine rg_nil ?_
  refine t_cond (by rfl) (fun hc0 => ?_) (fun hc0 => ?_)
  ·
    have hbad : rootOk p = false := by rw [rootOk, show (decide ((p.length : Int) < 1) || decide ((100 : Int) < p.length)) = true from hc0]; rfl
    refine t_seq_region ?_
    refine rg_pure (by rfl) (by rfl) (pu_build0 zeroValue43 ⟨_, _, underlying43, fun w => ⟨1, sizeOf5 w⟩⟩) ?_
    refine rg_loud (by rfl) (lo_storeV (vs := u8s (List.replicate 128 0)) (by rfl) (by rfl) (by rfl) (by repeat constructor) sizeOf43 (by first | (simp only [u8s_len, u32s_len, i64s_len, List.length_replicate, List.length_set, encE_len, sumS_len, checkS_len, *]; done) | rfl) (one_u8s _) (by first | (simp only [u8s_len, u32s_len, i64s_len, List.length_replicate, List.length_set, encE_len, sumS_len, checkS_len, *]; done) | rfl) ?_)
    refine rg_pure (by rfl) (by rfl) (pu_assignE (v := .int .i64 _) (by rfl)) ?_
    refine rg_nil ?_
    refine t_ret ?_
    exact Fin.ret (res2 rfl (ResV.cellA (cs := u8s (List.replicate 128 0)) (by rfl) isAgg43 sizeOf43 (HasE.has (by repeat constructor)) (by first | (simp only [u8s_len, u32s_len, i64s_len, List.length_replicate, List.length_set, encE_len, sumS_len, checkS_len, *]; done) | rfl)) .tmp) (by rw [rootS, hbad]; rfl)
  ·
    have hgood : rootOk p = (List.range p.length).all fun i => !rootBad p i := by rw [rootOk, show (decide ((p.length : Int) < 1) || decide ((100 : Int) < p.length)) = false from hc0]; rfl
    have hlen : 1 ≤ p.length ∧ p.length ≤ 100 := by simp at hc0; omega
    refine t_skip ?_
    refine t_seq_region ?_
    refine rg_pure (by rfl) (by rfl) (pu_moveE (v := v) (by rfl)) ?_
    refine rg_pure (by rfl) (by rfl) (pu_len (by rfl) (SrcE.src (by repeat constructor)) (by rfl) underlying23) ?_
    refine rg_pure (by rfl) (by rfl) (pu_conv (by rfl) underlying3 underlying5 (by rfl)) ?_
    refine rg_loud (by rfl) (lo_buildRow1 (cs := u8s (headB 82 p.length)) (by rfl) underlying45 sizeOf5 (by decide) zeroValue5 (by rfl) (by kernel_rfl) (by rfl) (fun b1 hb1 => ?_))
    refine rg_pure (by rfl) (by rfl) (pu_assign) ?_
    refine rg_nil ?_
    refine t_seq ?_
    refine t_seq_region ?_
    refine rg_pure (by rfl) (by rfl) (pu_moveE (v := v) (by rfl)) ?_
    refine rg_pure (by rfl) (by rfl) (pu_len (by rfl) (SrcE.src (by repeat constructor)) (by rfl) underlying23) ?_
    refine rg_pure (by rfl) (by rfl) (pu_moveE (v := .int .i64 _) (by rfl)) ?_
    refine rg_nil ?_
    refine t_block ?_
    refine t_loop (σ := Nat × Value) (fun s => [(mkS, marksV []), (0, v), (2, .pointer (some ⟨b0, 0, none⟩)), (4, s.2), (20, v), (21, .int .i64 (p.length : Int)), (22, .int .i64 (s.1 : Int))]) (fun s => [.row 5 1 s.2 (2 + s.1) (u8s (rootB p s.1)), .own b0 43 (u8s (List.replicate 128 0)), .sl v 1 p.length (i64s p)]) (fun s => s.1 ≤ p.length ∧ ∀ i, i < s.1 → rootBad p i = false) (fun s => p.length - s.1) ((0, _) : Nat × Value) ⟨Nat.zero_le _, fun _ h => absurd h (Nat.not_lt_zero _)⟩ (by repeat (first | exact agree_nil | refine agree_cons (by rfl) ?_)) (by repeat constructor) (fun s g hks => ?_)
    obtain ⟨k, u⟩ := s
    obtain ⟨hk2, hk3⟩ := hks
    simp only at hk2 hk3 ⊢
    refine t_seq_region ?_
    refine rg_pure (by rfl) (by rfl) (pu_lss (by rfl) (by rfl)) ?_
    refine rg_nil ?_
    refine t_seq ?_
    refine t_cond (by rfl) (fun hc1 => ?_) (fun hc1 => ?_)
    ·
      have hk1 : k < p.length := by simp at hc1; omega
      refine t_skip ?_
      refine t_seq ?_
      refine t_block ?_
      refine t_seq_region ?_
      refine rg_pure (by rfl) (by rfl) (pu_moveE (v := .int .i64 _) (by rfl)) ?_
      refine rg_pure (by rfl) (by rfl) (pu_index1 (by rfl) (by rfl) (SrcE.src (by repeat constructor)) underlying23 sizeOf3 (by omega)) ?_
      refine rg_pure (by rfl) (by rfl) (pu_load1S (by rfl) isAgg3 (SrcE.src (by repeat constructor)) (i64s_get (by simpa using hk1))) ?_
      refine rg_pure (by rfl) (by rfl) (pu_assignE (v := .int .i64 _) (by rfl)) ?_
      refine rg_pure (by rfl) (by rfl) (pu_assignE (v := .int .i64 _) (by rfl)) ?_
      refine rg_nil ?_
      refine t_seq ?_
      refine t_seq_region ?_
      refine rg_pure (by rfl) (by rfl) (pu_moveE (v := .int .i64 _) (by rfl)) ?_
      refine rg_pure (by rfl) (by rfl) (pu_lss (by rfl) (by rfl)) ?_
      refine rg_pure (by rfl) (by rfl) (pu_moveE (v := .bool _) (by rfl)) ?_
      refine rg_gpure (by rfl) (by rfl) (by rfl) (by rfl) (fun hg => pu_moveE (v := .int .i64 _) (by rfl)) ?_
      refine rg_gpure (by rfl) (by rfl) (by rfl) (by rfl) (fun hg => pu_geq (gvE hg (by rfl)) (by rfl)) ?_
      refine rg_pure (by rfl) (by rfl) (pu_pickOr (by rfl) (by rfl)) ?_
      refine rg_pure (by rfl) (by rfl) (pu_moveE (v := .bool _) (by rfl)) ?_
      refine rg_gpure (by rfl) (by rfl) (by rfl) (by rfl) (fun hg => pu_moveE (v := v) (by rfl)) ?_
      refine rg_gpure (by rfl) (by rfl) (by rfl) (by rfl) (fun hg => pu_moveE (v := .int .i64 _) (by rfl)) ?_
      refine rg_gpure (by rfl) (by rfl) (by rfl) (by rfl) (fun hg => pu_slice (l := 0) (h := k) (gvE hg (by rfl)) (SrcE.src (by repeat constructor)) underlying23 sizeOf3 bv_none (bv_op (gvE hg (by rfl)) (by rfl)) (by omega) (by omega)) ?_
      refine rg_gpure (by rfl) (by rfl) (by rfl) (by rfl) (fun hg => pu_moveE (v := .int .i64 _) (by rfl)) ?_
      refine rg_gcall (by rfl) (by rfl) (by rfl) (by rfl) (fun hg => lo_callFP call43 (by rfl) (fun w hw => gives_eq (args2 (gvE hg (by rfl)) (gvE hg (by rfl))) (contains_c _ (p.take k) _ w (((src_cut (SrcE.src (by repeat constructor)) (l := 0) (h := k) (by omega) (by omega)).to (by rw [List.length_take]; omega) (by rw [Nat.zero_mul, List.drop_zero, Nat.sub_zero, Nat.mul_one, i64s_take])) w hw)))) ?_
      refine rg_pure (by rfl) (by rfl) (pu_pickOr (by rfl) (by rfl)) ?_
      refine rg_nil ?_
      refine t_cond (by rfl) (fun hc2 => ?_) (fun hc2 => ?_)
      ·
        have hbad : rootOk p = false := by rw [hgood]; exact not_all hk1 hc2
        refine t_seq_region ?_
        refine rg_pure (by rfl) (by rfl) (pu_build0 zeroValue43 ⟨_, _, underlying43, fun w => ⟨1, sizeOf5 w⟩⟩) ?_
        refine rg_loud (by rfl) (lo_storeV (vs := u8s (List.replicate 128 0)) (by rfl) (by rfl) (by rfl) (by repeat constructor) sizeOf43 (by first | (simp only [u8s_len, u32s_len, i64s_len, List.length_replicate, List.length_set, encE_len, sumS_len, checkS_len, *]; done) | rfl) (one_u8s _) (by first | (simp only [u8s_len, u32s_len, i64s_len, List.length_replicate, List.length_set, encE_len, sumS_len, checkS_len, *]; done) | rfl) ?_)
        refine rg_pure (by rfl) (by rfl) (pu_assignE (v := .int .i64 _) (by rfl)) ?_
        refine rg_nil ?_
        refine t_ret ?_
        exact Fin.ret (res2 rfl (ResV.cellA (cs := u8s (List.replicate 128 0)) (by rfl) isAgg43 sizeOf43 (HasE.has (by repeat constructor)) (by first | (simp only [u8s_len, u32s_len, i64s_len, List.length_replicate, List.length_set, encE_len, sumS_len, checkS_len, *]; done) | rfl)) .tmp) (by rw [rootS, hbad]; rfl)
      ·
        have hbk : rootBad p k = false := hc2
        refine t_skip ?_
        refine t_region ?_
        refine rg_pure (by rfl) (by rfl) (pu_moveE (v := u) (by rfl)) ?_
        refine rg_pure (by rfl) (by rfl) (pu_moveE (v := .int .i64 _) (by rfl)) ?_
        refine rg_pure (by rfl) (by rfl) (pu_conv (by rfl) underlying3 underlying5 (by rfl)) ?_
        refine rg_loud (by rfl) (lo_buildRow1 (cs := u8s [IntKind.u8.wrap (p.getD k 0)]) (by rfl) underlying45 sizeOf5 (by decide) zeroValue5 (by rfl) (by kernel_rfl) (by rfl) (fun b2 hb2 => ?_))
        refine rg_loud (by rfl) (lo_appendE (xs' := u8s (rootB p (k + 1))) (k' := 2 + (k + 1)) elemOk45 (by rfl) (by rfl) (by rfl) (by repeat constructor) (SrcE.src (by repeat constructor)) (one_u8s _) (by omega) (by omega) (by rw [rootB_step hk1]; simp [u8s]) (fun v3 => ?_))
        refine rg_pure (by rfl) (by rfl) (pu_assign) ?_
        refine rg_nil ?_
        refine t_region ?_
        refine rg_pure (by rfl) (by rfl) (pu_add64 (by rfl) (by rfl) (by omega)) ?_
        refine rg_pure (by rfl) (by rfl) (pu_moveE (v := .int .i64 _) (by rfl)) ?_
        refine rg_nil ?_
        exact ⟨(k + 1, _), ⟨hk1, lt_succ_cases hk3 hbk⟩, by show p.length - (k + 1) < p.length - k; omega, (by repeat (first | exact agree_nil | refine agree_cons (by rfl) ?_)), by repeat constructor⟩
    ·
      have hk1 : k = p.length := by simp at hc1; omega
      have hall : rootOk p = true := by rw [hgood]; exact all_of (by rw [← hk1]; exact hk3)
      have hll := rootB_len p p.length (Nat.le_refl _)
      have hsl : (sealS (rootB p p.length)).length = 128 := sealS_len (by rw [hll]; omega)
      refine t_exit ?_
      subst hk1
      refine t_seq_region ?_
      refine rg_pure (by rfl) (by rfl) (pu_moveE (v := u) (by rfl)) ?_
      refine rg_loud (by rfl) (lo_callFQ call42 (by rfl) (fun w hw => seal_c u (rootB p p.length) (by rw [hll]; omega) w (((SrcE.src (by repeat constructor)).to hll.symm rfl) w hw)) ?_)
      refine rg_loud (by rfl) (lo_storeV (vs := u8s (sealS (rootB p p.length))) (by rfl) (by rfl) (by rfl) (by repeat constructor) sizeOf43 (by first | (simp only [u8s_len, u32s_len, i64s_len, List.length_replicate, List.length_set, encE_len, sumS_len, checkS_len, *]; done) | rfl) (one_u8s _) (by first | (simp only [u8s_len, u32s_len, i64s_len, List.length_replicate, List.length_set, encE_len, sumS_len, checkS_len, *]; done) | rfl) ?_)
      refine rg_pure (by rfl) (by rfl) (pu_assignE (v := .int .i64 _) (by rfl)) ?_
      refine rg_nil ?_
      refine t_ret ?_
      exact Fin.ret (res2 rfl (ResV.cellA (cs := u8s (sealS (rootB p p.length))) (by rfl) isAgg43 sizeOf43 (HasE.has (by repeat constructor)) (by first | (simp only [u8s_len, u32s_len, i64s_len, List.length_replicate, List.length_set, encE_len, sumS_len, checkS_len, *]; done) | rfl)) .tmp) (by rw [rootS, hall]; rfl)
end Go.Proofs.Ytpoecjeknolnoaa
