/- Walks of functions that the statements of this seat reach: what each one hands back. Conditions: those that each theorem names. -/
import Derived.Test.YtpoecjeknolnoaaA12
import Derived.Test.YtpoecjeknolnoaaProg
import Derived.KernelRfl
namespace Go.Proofs.Ytpoecjeknolnoaa
open Go.RowKit Go.Proofs.HL Go.Proofs.Try
set_option maxRecDepth 10000
set_option linter.unusedSimpArgs false
set_option linter.unusedVariables false
attribute [local irreducible] T RG RA Pu Lo
/-- The first entry of a list that has an entry's key. -/
def sameS : List En → En → En
  | [], e => e
  | x :: r, e => if x.1 == e.1 then x else sameS r e
def risBad (l : List En) (i : Nat) : Bool := !lessS (l.getD ((i : Int) - 1).toNat d0).1 (l.getD i d0).1
/-- Do the keys rise? -/
def risS (l : List En) : Bool := (List.range l.length).all fun i => !(decide (1 ≤ i) && risBad l i)
theorem same_c (v : Value) (l : List En) (e : En) (hk : KeysOk l) (he : e.1.length = 32) (w : World) (hv : Sl w v 35 l.length (encEs l)) : Gives prog 20 [v, .agg (encE e).toArray].toArray w (.agg (encE (sameS l e)).toArray) := by
  have hb := hv.len
  have hd0 : (encE d0).length = 35 := rfl
  have hke := hk.at_
  refine gives_of_T func20 rfl 25 rfl rfl rfl [.sl v 35 l.length (encEs l)] ((holds0 w).addSl hv (by decide)) ?_
  refine t_seq_region ?_
  refine rg_loud (by rfl) (lo_boxA (by rfl) (by rfl) (fun b0 hb0 => ?_))
  refine rg_loud (by rfl) (lo_alloc (cs := encE d0) (by rfl) zeroValue49 (by rfl) (fun b1 hb1 => ?_))
  refine rg_nil ?_
  refine t_seq ?_
  refine t_seq_region ?_
  refine rg_pure (by rfl) (by rfl) (pu_assignE (v := .int .i64 _) (by rfl)) ?_
  refine rg_nil ?_
  refine t_block ?_
  refine t_loop (σ := Nat) (fun k => [(mkS, marksV []), (0, v), (3, .pointer (some ⟨b0, 0, none⟩)), (4, .pointer (some ⟨b1, 0, none⟩)), (5, .int .i64 (k : Int))]) (fun k => [.own b1 49 (encE d0), .own b0 49 (encE e), .sl v 35 l.length (encEs l)]) (fun k => k ≤ l.length ∧ sameS l e = sameS (l.drop k) e) (fun k => l.length - k) 0 ⟨Nat.zero_le _, rfl⟩ (by repeat (first | exact agree_nil | refine agree_cons (by rfl) ?_)) (by repeat constructor) (fun k g hkk => ?_)
  obtain ⟨hk2, hk3⟩ := hkk
  refine t_seq ?_
  refine t_seq_region ?_
  refine rg_pure (by rfl) (by rfl) (pu_moveE (v := .int .i64 _) (by rfl)) ?_
  refine rg_pure (by rfl) (by rfl) (pu_moveE (v := v) (by rfl)) ?_
  refine rg_pure (by rfl) (by rfl) (pu_len (by rfl) (SrcE.src (by repeat constructor)) (by rfl) underlying22) ?_
  refine rg_pure (by rfl) (by rfl) (pu_lss (by rfl) (by rfl)) ?_
  refine rg_nil ?_
  refine t_cond (by rfl) (fun hc0 => ?_) (fun hc0 => ?_)
  ·
    have hk1 : k < l.length := by simp at hc0; omega
    refine t_skip ?_
    refine t_seq ?_
    refine t_block ?_
    refine t_seq_draw 8 8 _ mixed (Sub.refl _) (by rfl) (by decide +kernel) ?_
    refine ra_pure0 0 1 rfl (by rfl) (by decide +kernel) (by rfl) (pu_moveE (v := v) (by rfl)) ?_
    refine ra_pure0 1 3 rfl (by rfl) (by decide +kernel) (by rfl) (pu_moveE (v := .int .i64 _) (by rfl)) ?_
    refine ra_pure 2 7 rfl (by rfl) (by decide +kernel) (by rfl) (pu_index (by rfl) (by rfl) (SrcE.src (by repeat constructor)) underlying22 sizeOf49 (by omega)) ?_
    refine ra_pure 3 15 rfl (by rfl) (by decide +kernel) (by rfl) (pu_fieldP (by rfl) underlying49 (by rfl) sizeOf47 (by decide) (src_some (SrcE.src (by repeat constructor)) (by omega))) ?_
    refine ra_pure 4 31 rfl (by rfl) (by decide +kernel) (by rfl) (pu_loadS (ds := u8s (l.getD (k) d0).1) (by rfl) isAgg47 sizeOf47 (SrcE.src (by repeat constructor)) (encEs_key hk (by omega)) (u8s_len32 (hk.at_ _)) (by decide)) ?_
    first | (refine ra_pure0 5 63 rfl (by rfl) (by decide +kernel) (by rfl) (pu_field (by rfl) underlying49 (by rfl) sizeOf47 (by decide)) ?_) | (refine ra_pure 5 63 rfl (by rfl) (by decide +kernel) (by rfl) (pu_fieldP (by rfl) underlying49 (by rfl) sizeOf47 (by decide) (src_some (SrcE.src (by repeat constructor)) (by omega))) ?_)
    refine ra_pure 6 127 rfl (by rfl) (by decide +kernel) (by rfl) (pu_load (ds := u8s _) (by rfl) isAgg47 sizeOf47 (HasE.has (by repeat constructor)) (encE_key he) (u8s_len32 he)) ?_
    refine ra_pure 7 255 rfl (by rfl) (by decide +kernel) (by rfl) (pu_eqlInts (xs := (l.getD k d0).1) (ys := e.1) (by rfl) (by rfl) underlying47 underlying5 info5 (by kernel_rfl) (hk.at_ k) he eqGuardType47) ?_
    refine ra_end (by decide +kernel) ?_
    refine t_cond (by rfl) (fun hc1 => ?_) (fun hc1 => ?_)
    ·
      have hall : sameS l e = l.getD k d0 := by rw [hk3, drop_cons hk1, sameS, if_pos hc1]
      refine t_seq_region ?_
      refine rg_pure (by rfl) (by rfl) (pu_moveE (v := v) (by rfl)) ?_
      refine rg_pure (by rfl) (by rfl) (pu_moveE (v := .int .i64 _) (by rfl)) ?_
      refine rg_pure (by rfl) (by rfl) (pu_index (by rfl) (by rfl) (SrcE.src (by repeat constructor)) underlying22 sizeOf49 (by omega)) ?_
      refine rg_pure (by rfl) (by rfl) (pu_loadS (ds := encE (l.getD (k) d0)) (by rfl) isAgg49 sizeOf49 (SrcE.src (by repeat constructor)) (encEs_at hk hk1) (encE_len (hk.at_ _)) (by decide)) ?_
      refine rg_loud (by rfl) (lo_storeV (vs := encE (l.getD k d0)) (by rfl) (by rfl) (by rfl) (by repeat constructor) sizeOf49 (by first | (simp only [u8s_len, u32s_len, i64s_len, List.length_replicate, List.length_set, encE_len, sumS_len, checkS_len, *]; done) | rfl) (one_encE _) (by first | (simp only [u8s_len, u32s_len, i64s_len, List.length_replicate, List.length_set, encE_len, sumS_len, checkS_len, *]; done) | rfl) ?_)
      refine rg_nil ?_
      refine t_ret ?_
      exact Fin.ret (res1 rfl (ResV.cellA (cs := encE (l.getD k d0)) (by rfl) isAgg49 sizeOf49 (HasE.has (by repeat constructor)) (by first | (simp only [u8s_len, u32s_len, i64s_len, List.length_replicate, List.length_set, encE_len, sumS_len, checkS_len, *]; done) | rfl))) (by rw [hall])
    ·
      have hst : sameS l e = sameS (l.drop (k + 1)) e := by rw [hk3, drop_cons hk1, sameS, if_neg (by rw [show ((l.getD k d0).1 == e.1) = false from hc1]; decide)]
      refine t_skip ?_
      refine t_region ?_
      refine rg_pure (by rfl) (by rfl) (pu_moveE (v := .int .i64 _) (by rfl)) ?_
      refine rg_pure (by rfl) (by rfl) (pu_add64 (by rfl) (by rfl) (by omega)) ?_
      refine rg_pure (by rfl) (by rfl) (pu_assignE (v := .int .i64 _) (by rfl)) ?_
      refine rg_nil ?_
      exact ⟨k + 1, ⟨hk1, hst⟩, by show l.length - (k + 1) < l.length - k; omega, (by repeat (first | exact agree_nil | refine agree_cons (by rfl) ?_)), by repeat constructor⟩
  ·
    have hk1 : k = l.length := by simp at hc0; omega
    have hall : sameS l e = e := by rw [hk3, hk1, List.drop_length]; rfl
    refine t_exit ?_
    refine t_seq_region ?_
    refine rg_pure (by rfl) (by rfl) (pu_loadAll (by rfl) isAgg49 sizeOf49 (HasE.has (by repeat constructor)) (by first | (simp only [u8s_len, u32s_len, i64s_len, List.length_replicate, List.length_set, encE_len, sumS_len, checkS_len, *]; done) | rfl)) ?_
    refine rg_loud (by rfl) (lo_storeV (vs := encE e) (by rfl) (by rfl) (by rfl) (by repeat constructor) sizeOf49 (by first | (simp only [u8s_len, u32s_len, i64s_len, List.length_replicate, List.length_set, encE_len, sumS_len, checkS_len, *]; done) | rfl) (one_encE _) (by first | (simp only [u8s_len, u32s_len, i64s_len, List.length_replicate, List.length_set, encE_len, sumS_len, checkS_len, *]; done) | rfl) ?_)
    refine rg_nil ?_
    refine t_ret ?_
    exact Fin.ret (res1 rfl (ResV.cellA (cs := encE e) (by rfl) isAgg49 sizeOf49 (HasE.has (by repeat constructor)) (by first | (simp only [u8s_len, u32s_len, i64s_len, List.length_replicate, List.length_set, encE_len, sumS_len, checkS_len, *]; done) | rfl))) (by rw [hall])
theorem rising_c (v : Value) (l : List En) (hk : KeysOk l) (w : World) (hv : Sl w v 35 l.length (encEs l)) : Gives prog 21 [v].toArray w (.bool (risS l)) := by
  have hb := hv.len
  refine gives_of_T func21 rfl 23 rfl rfl rfl [.sl v 35 l.length (encEs l)] ((holds0 w).addSl hv (by decide)) ?_
  refine t_seq_region ?_
  refine rg_pure (by rfl) (by rfl) (pu_assignE (v := .bool _) (by rfl)) ?_
  refine rg_nil ?_
  refine t_seq ?_
  refine t_seq_region ?_
  refine rg_pure (by rfl) (by rfl) (pu_assignE (v := .int .i64 _) (by rfl)) ?_
  refine rg_nil ?_
  refine t_block ?_
  refine t_loop (σ := Nat) (fun k => [(mkS, marksV []), (0, v), (3, .int .i64 (k : Int))]) (fun k => [.sl v 35 l.length (encEs l)]) (fun k => 1 ≤ k ∧ k ≤ l.length + 1 ∧ ∀ i, i < k → (decide (1 ≤ i) && risBad l i) = false) (fun k => l.length + 1 - k) 1 ⟨Nat.le_refl _, by omega, fun i h => by cases i with | zero => rfl | succ i => omega⟩ (by repeat (first | exact agree_nil | refine agree_cons (by rfl) ?_)) (by repeat constructor) (fun k g hkk => ?_)
  obtain ⟨hk0, hk2, hk3⟩ := hkk
  refine t_seq ?_
  refine t_seq_region ?_
  refine rg_pure (by rfl) (by rfl) (pu_moveE (v := .int .i64 _) (by rfl)) ?_
  refine rg_pure (by rfl) (by rfl) (pu_moveE (v := v) (by rfl)) ?_
  refine rg_pure (by rfl) (by rfl) (pu_len (by rfl) (SrcE.src (by repeat constructor)) (by rfl) underlying22) ?_
  refine rg_pure (by rfl) (by rfl) (pu_lss (by rfl) (by rfl)) ?_
  refine rg_nil ?_
  refine t_cond (by rfl) (fun hc0 => ?_) (fun hc0 => ?_)
  ·
    have hk1 : k < l.length := by simp at hc0; omega
    refine t_skip ?_
    refine t_seq ?_
    refine t_block ?_
    refine t_seq_draw 13 13 _ mixed (Sub.refl _) (by rfl) (by decide +kernel) ?_
    refine ra_pure0 0 1 rfl (by rfl) (by decide +kernel) (by rfl) (pu_moveE (v := v) (by rfl)) ?_
    refine ra_pure0 1 3 rfl (by rfl) (by decide +kernel) (by rfl) (pu_moveE (v := .int .i64 _) (by rfl)) ?_
    refine ra_pure0 2 7 rfl (by rfl) (by decide +kernel) (by rfl) (pu_sub64 (by rfl) (by rfl) (by omega)) ?_
    refine ra_pure 3 15 rfl (by rfl) (by decide +kernel) (by rfl) (pu_index (by rfl) (by rfl) (SrcE.src (by repeat constructor)) underlying22 sizeOf49 (by omega)) ?_
    refine ra_pure 4 31 rfl (by rfl) (by decide +kernel) (by rfl) (pu_fieldP (by rfl) underlying49 (by rfl) sizeOf47 (by decide) (src_some (SrcE.src (by repeat constructor)) (by omega))) ?_
    refine ra_pure 5 63 rfl (by rfl) (by decide +kernel) (by rfl) (pu_loadS (ds := u8s (l.getD (((k : Int) - 1).toNat) d0).1) (by rfl) isAgg47 sizeOf47 (SrcE.src (by repeat constructor)) (encEs_key hk (by omega)) (u8s_len32 (hk.at_ _)) (by decide)) ?_
    refine ra_pure0 6 127 rfl (by rfl) (by decide +kernel) (by rfl) (pu_moveE (v := v) (by rfl)) ?_
    refine ra_pure0 7 255 rfl (by rfl) (by decide +kernel) (by rfl) (pu_moveE (v := .int .i64 _) (by rfl)) ?_
    refine ra_pure 8 511 rfl (by rfl) (by decide +kernel) (by rfl) (pu_index (by rfl) (by rfl) (SrcE.src (by repeat constructor)) underlying22 sizeOf49 (by omega)) ?_
    refine ra_pure 9 1023 rfl (by rfl) (by decide +kernel) (by rfl) (pu_fieldP (by rfl) underlying49 (by rfl) sizeOf47 (by decide) (src_some (SrcE.src (by repeat constructor)) (by omega))) ?_
    refine ra_pure 10 2047 rfl (by rfl) (by decide +kernel) (by rfl) (pu_loadS (ds := u8s (l.getD (k) d0).1) (by rfl) isAgg47 sizeOf47 (SrcE.src (by repeat constructor)) (encEs_key hk (by omega)) (u8s_len32 (hk.at_ _)) (by decide)) ?_
    refine ra_next 11 4095 (by decide +kernel) ?_
    refine next_loud rfl (by rfl) (lo_callFQ call36 (by rfl) (fun w hw => rless_c (l.getD ((k : Int) - 1).toNat d0).1 (l.getD k d0).1 (hk.at_ _) (hk.at_ _) w) ⟨(fun _ => (by repeat constructor)), ?_⟩)
    refine ra_pure0 12 8191 rfl (by rfl) (by decide +kernel) (by rfl) (pu_not (by rfl)) ?_
    refine ra_end (by decide +kernel) ?_
    refine t_cond (by rfl) (fun hc1 => ?_) (fun hc1 => ?_)
    ·
      have hbad : risS l = false := not_all hk1 (by rw [show risBad l k = true from hc1]; simp [hk0])
      refine t_seq_region ?_
      refine rg_pure (by rfl) (by rfl) (pu_assignE (v := .bool _) (by rfl)) ?_
      refine rg_nil ?_
      refine t_ret ?_
      exact Fin.ret (res1 rfl .tmp) (by rw [hbad]; rfl)
    ·
      have hbk : (decide (1 ≤ k) && risBad l k) = false := by rw [show risBad l k = false from hc1, Bool.and_false]
      refine t_skip ?_
      refine t_region ?_
      refine rg_pure (by rfl) (by rfl) (pu_moveE (v := .int .i64 _) (by rfl)) ?_
      refine rg_pure (by rfl) (by rfl) (pu_add64 (by rfl) (by rfl) (by omega)) ?_
      refine rg_pure (by rfl) (by rfl) (pu_assignE (v := .int .i64 _) (by rfl)) ?_
      refine rg_nil ?_
      exact ⟨k + 1, ⟨by omega, by omega, lt_succ_cases hk3 hbk⟩, by show l.length + 1 - (k + 1) < l.length + 1 - k; omega, (by repeat (first | exact agree_nil | refine agree_cons (by rfl) ?_)), by repeat constructor⟩
  ·
    have hk1 : l.length ≤ k := by simp at hc0; omega
    have hall : risS l = true := all_of (fun i hi => hk3 i (by omega))
    refine t_exit ?_
    refine t_seq_region ?_
    refine rg_pure (by rfl) (by rfl) (pu_assignE (v := .bool _) (by rfl)) ?_
    refine rg_nil ?_
    refine t_ret ?_
    exact Fin.ret (res1 rfl .tmp) (by rw [hall]; rfl)
/-- The leaves, one by one. -/
def unpF : List (List Int) → List En → Option (List En)
  | [], acc => some acc
  | b :: r, acc => if (decS b).2 != 0 || (decide (((decS b).1.length : Int) < 3) && decide (0 < r.length)) then none else unpF r (acc ++ (decS b).1)
def unpackS (l : List (List Int)) : List En × Int := match unpF l [] with
  | none => ([], 11)
  | some a => if goodI a then (a, 0) else ([], 11)
theorem drop_consB {l : List (List Int)} {k : Nat} (hk : k < l.length) : l.drop k = l.getD k z128 :: l.drop (k + 1) := by
  rw [List.drop_eq_getElem_cons hk]; simp [hk]
theorem KeysOk.nil : KeysOk [] := fun _ h => nomatch h
theorem decS_ok {b : List Int} (h : BOk b) : KeysOk (decS b).1 ∧ (decS b).1.length ≤ 3 := by
  unfold decS
  split
  · exact ⟨KeysOk.nil, by simp⟩
  · split
    · exact ⟨KeysOk.nil, by simp⟩
    · exact ⟨leafOf_ok h (by omega), by rw [leafOf_len]; omega⟩
theorem unp_cond {l : List (List Int)} {k : Nat} (hk : k < l.length) : ((decS (l.getD k z128)).2 != 0 || (decide (((decS (l.getD k z128)).1.length : Int) < 3) && decide (0 < (l.drop (k + 1)).length))) = ((decS (l.getD k z128)).2 != 0 || (decide (((decS (l.getD k z128)).1.length : Int) < 3) && decide ((k : Int) < (l.length : Int) - 1))) := by
  congr 2
  rw [List.length_drop]
  by_cases h : k + 1 < l.length
  · rw [decide_eq_true (by omega), decide_eq_true (by omega)]
  · rw [decide_eq_false (by omega), decide_eq_false (by omega)]
theorem unpack_c (v : Value) (l : List (List Int)) (hn : l.length ≤ 1000000) (hk : BsOk l) (w : World) (hv : Sl w v 128 l.length (encBs l)) : Calls prog 10 [v].toArray w (Ret [] w fun u w' => ∃ i : Value, True ∧ u = .tuple #[i, .int .i64 (unpackS l).2] ∧ Fresh w.heap.size [Ent.row 49 35 i (unpackS l).1.length (encEs (unpackS l).1)] w') := by
  refine hands_of_T (V := fun i : Value => .tuple #[i, .int .i64 (unpackS l).2]) (E := fun i => [Ent.row 49 35 i (unpackS l).1.length (encEs (unpackS l).1)]) func10 rfl 43 rfl rfl rfl [.sl v 128 l.length (encBs l)] ((holds0 w).addSl hv (by decide)) (fun _ => rfl) ?_
  refine t_seq_region ?_
  refine rg_pure (by rfl) (by rfl) (pu_assign) ?_
  refine rg_pure (by rfl) (by rfl) (pu_assignE (v := .int .i64 _) (by rfl)) ?_
  refine rg_nil ?_
  refine t_seq_region ?_
  refine rg_pure (by rfl) (by rfl) (pu_assign) ?_
  refine rg_nil ?_
  refine t_seq ?_
  refine t_seq_region ?_
  refine rg_pure (by rfl) (by rfl) (pu_moveE (v := v) (by rfl)) ?_
  refine rg_pure (by rfl) (by rfl) (pu_len (by rfl) (SrcE.src (by repeat constructor)) (by rfl) underlying24) ?_
  refine rg_pure (by rfl) (by rfl) (pu_moveE (v := .int .i64 _) (by rfl)) ?_
  refine rg_nil ?_
  refine t_row_nil 49 35 ?_
  refine t_block ?_
  refine t_loop (σ := Nat × Value × List En) (fun s => [(mkS, marksV []), (0, v), (4, s.2.1), (9, v), (10, .int .i64 (l.length : Int)), (11, .int .i64 (s.1 : Int))]) (fun s => [.row 49 35 s.2.1 s.2.2.length (encEs s.2.2), .sl v 128 l.length (encBs l)]) (fun s => s.1 ≤ l.length ∧ KeysOk s.2.2 ∧ s.2.2.length ≤ 3 * s.1 ∧ unpF l [] = unpF (l.drop s.1) s.2.2) (fun s => l.length - s.1) ((0, .slice none 0 0, []) : Nat × Value × List En) ⟨Nat.zero_le _, KeysOk.nil, by simp, rfl⟩ (by repeat (first | exact agree_nil | refine agree_cons (by rfl) ?_)) (by repeat constructor) (fun s g hks => ?_)
  obtain ⟨k, u, acc⟩ := s
  obtain ⟨hk2, hka, hk4, hk3⟩ := hks
  simp only at hk2 hka hk4 hk3 ⊢
  refine t_seq_region ?_
  refine rg_pure (by rfl) (by rfl) (pu_lss (by rfl) (by rfl)) ?_
  refine rg_nil ?_
  refine t_seq ?_
  refine t_cond (by rfl) (fun hc0 => ?_) (fun hc0 => ?_)
  ·
    have hk1 : k < l.length := by simp at hc0; omega
    have hbk := hk.ok k
    have hbl : (l.getD k z128).length = 128 := hbk.1
    have hdk := decS_ok hbk
    refine t_skip ?_
    refine t_seq ?_
    refine t_block ?_
    refine t_seq_region ?_
    refine rg_pure (by rfl) (by rfl) (pu_moveE (v := .int .i64 _) (by rfl)) ?_
    refine rg_pure (by rfl) (by rfl) (pu_index (by rfl) (by rfl) (SrcE.src (by repeat constructor)) underlying24 sizeOf43 (by omega)) ?_
    refine rg_pure (by rfl) (by rfl) (pu_loadS (ds := u8s (l.getD k z128)) (by rfl) isAgg43 sizeOf43 (SrcE.src (by repeat constructor)) (encBs_at hk hk1) (by rw [u8s_len]; exact hbk.1) (by decide)) ?_
    refine rg_loud (by rfl) (lo_alloc (cs := u8s (List.replicate 128 0)) (by rfl) zeroValue43 (by rfl) (fun b0 hb0 => ?_))
    refine rg_pure (by rfl) (by rfl) (pu_assignE (v := .int .i64 _) (by rfl)) ?_
    refine rg_loud (by rfl) (lo_storeV (vs := u8s (l.getD k z128)) (by rfl) (by rfl) (by rfl) (by repeat constructor) sizeOf43 (by first | (simp only [u8s_len, u32s_len, i64s_len, List.length_replicate, List.length_set, encE_len, sumS_len, checkS_len, *]; done) | rfl) (one_u8s _) (by first | (simp only [u8s_len, u32s_len, i64s_len, List.length_replicate, List.length_set, encE_len, sumS_len, checkS_len, *]; done) | rfl) ?_)
    refine rg_nil ?_
    refine t_seq_region ?_
    refine rg_pure (by rfl) (by rfl) (pu_loadAll (by rfl) isAgg43 sizeOf43 (HasE.has (by repeat constructor)) (by rw [u8s_len]; exact hbk.1)) ?_
    refine rg_loud (by rfl) (lo_callF (fun _ : Value => True) (fun i => .tuple #[i, .int .i64 (decS (l.getD k z128)).2]) (fun i => [.row 49 35 i (decS (l.getD k z128)).1.length (encEs (decS (l.getD k z128)).1)]) call29 (by rfl) (fun w hw => dec_c (l.getD k z128) hbk w) (fun i _ => ?_))
    refine rg_pure (by rfl) (by rfl) (pu_move) ?_
    refine rg_pure (by rfl) (by rfl) (pu_extract (by rfl) (by rfl)) ?_
    refine rg_pure (by rfl) (by rfl) (pu_extract (by rfl) (by rfl)) ?_
    refine rg_pure (by rfl) (by rfl) (pu_assignE (v := i) (by rfl)) ?_
    refine rg_pure (by rfl) (by rfl) (pu_assignE (v := .int .i64 _) (by rfl)) ?_
    refine rg_nil ?_
    refine t_seq ?_
    refine t_seq_region ?_
    refine rg_pure (by rfl) (by rfl) (pu_moveE (v := .int .i64 _) (by rfl)) ?_
    refine rg_pure (by rfl) (by rfl) (pu_neq (by rfl) (by rfl)) ?_
    refine rg_pure (by rfl) (by rfl) (pu_moveE (v := .bool _) (by rfl)) ?_
    refine rg_gpure (by rfl) (by rfl) (by rfl) (by rfl) (fun hg => pu_moveE (v := i) (by rfl)) ?_
    refine rg_gpure (by rfl) (by rfl) (by rfl) (by rfl) (fun hg => pu_len (gvE hg (by rfl)) (SrcE.src (by repeat constructor)) (by rfl) underlying22) ?_
    refine rg_gpure (by rfl) (by rfl) (by rfl) (by rfl) (fun hg => pu_lss (gvE hg (by rfl)) (by rfl)) ?_
    refine rg_gpure (by rfl) (by rfl) (by rfl) (by rfl) (fun hg => pu_moveE (v := .bool _) (gvE hg (by rfl))) ?_
    refine rg_gpureN (by rfl) (by rfl) (by rfl) (by rfl) (fun hg => pu_moveE (v := .int .i64 _) (by rfl)) ?_
    refine rg_gpureN (by rfl) (by rfl) (by rfl) (by rfl) (fun hg => pu_moveE (v := v) (by rfl)) ?_
    refine rg_gpureN (by rfl) (by rfl) (by rfl) (by rfl) (fun hg => pu_len (gvE hg (by rfl)) (SrcE.src (by repeat constructor)) (by rfl) underlying24) ?_
    refine rg_gpureN (by rfl) (by rfl) (by rfl) (by rfl) (fun hg => pu_sub64 (gvE hg (by rfl)) (by rfl) (by omega)) ?_
    refine rg_gpureN (by rfl) (by rfl) (by rfl) (by rfl) (fun hg => pu_lss (gvE hg (by rfl)) (gvE hg (by rfl))) ?_
    refine rg_gpure (by rfl) (by rfl) (by rfl) (by rfl) (fun hg => pu_pickAnd (gvE hg (by rfl)) (gvAnd hg (by rfl))) ?_
    refine rg_pure (by rfl) (by rfl) (pu_pickOr (by rfl) (by rfl)) ?_
    refine rg_nil ?_
    refine t_cond (by rfl) (fun hc1 => ?_) (fun hc1 => ?_)
    ·
      have hbad : unpackS l = ([], 11) := by
        have : unpF l [] = none := by
          rw [hk3, drop_consB hk1, unpF, if_pos (by rw [unp_cond hk1]; exact hc1)]
        rw [unpackS, this]
      refine t_row_nil 49 35 ?_
      refine t_seq_region ?_
      refine rg_pure (by rfl) (by rfl) (pu_assign) ?_
      refine rg_pure (by rfl) (by rfl) (pu_assignE (v := .int .i64 _) (by rfl)) ?_
      refine rg_nil ?_
      refine t_ret ?_
      exact Fin.ret (res2 rfl .tmp .tmp) ⟨.slice none 0 0, trivial, by rw [hbad]; rfl, by rw [hbad]; repeat constructor⟩
    ·
      have hst : unpF l [] = unpF (l.drop (k + 1)) (acc ++ (decS (l.getD k z128)).1) := by
        rw [hk3, drop_consB hk1, unpF, if_neg (by rw [unp_cond hk1, hc1]; decide)]
      refine t_skip ?_
      refine t_region ?_
      refine rg_pure (by rfl) (by rfl) (pu_moveE (v := u) (by rfl)) ?_
      refine rg_pure (by rfl) (by rfl) (pu_moveE (v := i) (by rfl)) ?_
      refine rg_loud (by rfl) (lo_appendE (xs' := encEs (acc ++ (decS (l.getD k z128)).1)) (k' := (acc ++ (decS (l.getD k z128)).1).length) elemOk22 (by rfl) (by rfl) (by rfl) (by repeat constructor) (SrcE.src (by repeat constructor)) (one_encEs _) (by omega) (by simp) (by simp [encEs]) (fun v1 => ?_))
      refine rg_pure (by rfl) (by rfl) (pu_assign) ?_
      refine rg_nil ?_
      refine t_region ?_
      refine rg_pure (by rfl) (by rfl) (pu_add64 (by rfl) (by rfl) (by omega)) ?_
      refine rg_pure (by rfl) (by rfl) (pu_moveE (v := .int .i64 _) (by rfl)) ?_
      refine rg_nil ?_
      exact ⟨(k + 1, _, acc ++ (decS (l.getD k z128)).1), ⟨hk1, fun e he => by rcases List.mem_append.1 he with h | h; exact hka e h; exact hdk.1 e h, by simp only [List.length_append]; omega, hst⟩, by show l.length - (k + 1) < l.length - k; omega, (by repeat (first | exact agree_nil | refine agree_cons (by rfl) ?_)), by repeat constructor⟩
  ·
    have hk1 : k = l.length := by simp at hc0; omega
    have hacc : unpF l [] = some acc := by rw [hk3, hk1, List.drop_length]; rfl
    refine t_exit ?_
    refine t_seq ?_
    refine t_seq_region ?_
    refine rg_pure (by rfl) (by rfl) (pu_moveE (v := u) (by rfl)) ?_
    refine rg_loud (by rfl) (lo_callFQ call12 (by rfl) (fun w hw => good_c u acc hka w ((SrcE.src (by repeat constructor)) w hw)) ?_)
    refine rg_pure (by rfl) (by rfl) (pu_not (by rfl)) ?_
    refine rg_nil ?_
    refine t_cond (by rfl) (fun hc2 => ?_) (fun hc2 => ?_)
    ·
      have hbad : unpackS l = ([], 11) := by
        have h : goodI acc = false := by simpa using hc2
        rw [unpackS, hacc]
        show (if goodI acc = true then _ else _) = _
        rw [h]; rfl
      refine t_row_nil 49 35 ?_
      refine t_seq_region ?_
      refine rg_pure (by rfl) (by rfl) (pu_assign) ?_
      refine rg_pure (by rfl) (by rfl) (pu_assignE (v := .int .i64 _) (by rfl)) ?_
      refine rg_nil ?_
      refine t_ret ?_
      exact Fin.ret (res2 rfl .tmp .tmp) ⟨.slice none 0 0, trivial, by rw [hbad]; rfl, by rw [hbad]; repeat constructor⟩
    ·
      have hgood : unpackS l = (acc, 0) := by
        have h : goodI acc = true := by simpa using hc2
        rw [unpackS, hacc]
        show (if goodI acc = true then _ else _) = _
        rw [h]; rfl
      refine t_skip ?_
      refine t_seq_region ?_
      refine rg_pure (by rfl) (by rfl) (pu_moveE (v := u) (by rfl)) ?_
      refine rg_pure (by rfl) (by rfl) (pu_assign) ?_
      refine rg_pure (by rfl) (by rfl) (pu_assignE (v := .int .i64 _) (by rfl)) ?_
      refine rg_nil ?_
      refine t_ret ?_
      exact Fin.ret (res2 rfl .tmp .tmp) ⟨u, trivial, by rw [hgood]; rfl, by rw [hgood]; repeat constructor⟩
end Go.Proofs.Ytpoecjeknolnoaa
