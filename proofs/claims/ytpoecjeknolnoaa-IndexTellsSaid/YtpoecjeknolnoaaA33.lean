/- Walks of functions that the statements of this seat reach: what each one hands back. Conditions: those that each theorem names. -/
import Derived.Test.YtpoecjeknolnoaaA32
import Derived.Test.YtpoecjeknolnoaaProg
import Derived.KernelRfl
namespace Go.Proofs.Ytpoecjeknolnoaa
open Go.RowKit Go.Proofs.HL Go.Proofs.Try
set_option maxRecDepth 10000
set_option linter.unusedSimpArgs false
set_option linter.unusedVariables false
attribute [local irreducible] T RG RA Pu Lo
/-! ### The document's Decode -/
def decR (b : List Int) (k : Nat) : List En := (List.range k).map (entAt (b.drop 2))
theorem decR_len (b : List Int) (k : Nat) : (decR b k).length = k := by simp [decR]
theorem decR_succ (b : List Int) (k : Nat) : decR b (k + 1) = decR b k ++ [entAt (b.drop 2) k] := by simp [decR, List.range_succ]
theorem part36_len' {b : List Int} (hb : BOk b) {k : Nat} (hk : k < 3) : (part36 (b.drop 2) k).length = 36 := by simp [part36, hb.1]; omega
theorem entR_ok {b : List Int} (hb : BOk b) {k : Nat} (hk : k < 3) : EOk (entAt (b.drop 2) k) :=
  entC_ok (part36_len' hb hk) (fun x hx => hb.2 x (List.mem_of_mem_drop (List.mem_of_mem_drop (List.mem_of_mem_take hx))))
theorem decR_ok {b : List Int} (hb : BOk b) {k : Nat} (hk : k ≤ 3) : KeysOk (decR b k) := fun e he => by
  obtain ⟨i, hi, rfl⟩ := List.mem_map.1 he
  exact entR_ok hb (by have := List.mem_range.1 hi; omega)
theorem decR_eq (b : List Int) : decR b (cntS b) = leafOf b := by
  rw [decR, leafOf, entsS]
  refine List.map_congr_left fun i hi => ?_
  have hi' := List.mem_range.1 hi
  rw [entAt, entAt, part36, part36, List.drop_take, List.take_take, Nat.min_eq_left (by omega)]
theorem encS_cnt {l : List En} (hg : leafGood l = true) : (encS l).1.getD 1 0 = (l.length : Int) := by
  have hlen := leafGood_len hg
  rw [encS, if_pos hg]
  show (sealS (leafB l l.length)).getD 1 0 = _
  rw [sealS, leafB, headB]
  show IntKind.u8.wrap (l.length : Int) = _
  exact wrap8_id (by omega) (by omega)
theorem dec_ref {b : List Int} (hb : BOk b) : decS b = if ((encS (decR b (min (cntS b) 3))).2 != 0 || !((encS (decR b (min (cntS b) 3))).1 == b)) = true then ([], 11) else (decR b (min (cntS b) 3), 0) := by
  rw [decS]
  by_cases h3 : 3 < cntS b
  · rw [if_pos h3, Nat.min_eq_right (by omega), if_pos]
    cases hg : leafGood (decR b 3) with
    | false => rw [encS, hg]; rfl
    | true =>
      have h1 := encS_cnt hg
      rw [decR_len] at h1
      cases hx : ((encS (decR b 3)).1 == b) with
      | false => simp
      | true =>
        have h2 := cnt_eq hb
        rw [eq_of_beq hx] at h1
        rw [h1] at h2
        have h4 := wraps_i64 (3 : Int) (by decide) (by decide)
        have h5 : IntKind.i64.wrap (((3 : Nat) : Int)) = 3 := h4
        rw [h5] at h2
        omega
  · rw [if_neg h3, Nat.min_eq_left (by omega), decR_eq]
theorem part_get {b : List Int} {k q : Nat} (hq : q < 36) : (part36 (b.drop 2) k).getD q 0 = b.getD (2 + 36 * k + q) 0 := by
  rw [part36, List.getD_eq_getElem?_getD, List.getElem?_take, if_pos hq, List.getElem?_drop, List.getElem?_drop, ← List.getD_eq_getElem?_getD]
  congr 1
  omega
theorem part_key {b : List Int} {k : Nat} : (part36 (b.drop 2) k).take 32 = (b.drop (2 + 36 * k)).take 32 := by
  rw [part36, List.take_take, List.drop_drop]
  rfl
theorem refs_add {x y : Int} (hx : 0 ≤ x ∧ x < 256) (hy : 0 ≤ y ∧ y < 256) : bits .or .i64 (IntKind.i64.wrap (IntKind.i64.wrap x * 2 ^ (min (Int.toNat 8) IntKind.i64.bits))) (IntKind.i64.wrap y) = IntKind.i64.wrap (IntKind.i64.wrap x * 2 ^ (min (Int.toNat 8) IntKind.i64.bits)) + IntKind.i64.wrap y := by
  have e8 : (2 : Int) ^ (min (Int.toNat 8) IntKind.i64.bits) = 256 := by decide
  rw [e8, wraps_i64 x hx.1 (by omega), wraps_i64 y hy.1 (by omega), wraps_i64 (x * 256) (by omega) (by omega)]
  exact bits_join .i64 63 (by decide) wraps_i64 8 (x * 256) y (by omega) (by omega) (by omega) hy.1 (by omega) (by omega)
theorem refs_rng {x y : Int} (hx : 0 ≤ x ∧ x < 256) (hy : 0 ≤ y ∧ y < 256) : 0 ≤ IntKind.i64.wrap (IntKind.i64.wrap x * 2 ^ (min (Int.toNat 8) IntKind.i64.bits)) + IntKind.i64.wrap y ∧ IntKind.i64.wrap (IntKind.i64.wrap x * 2 ^ (min (Int.toNat 8) IntKind.i64.bits)) + IntKind.i64.wrap y < 65536 := by
  have e8 : (2 : Int) ^ (min (Int.toNat 8) IntKind.i64.bits) = 256 := by decide
  rw [e8, wraps_i64 x hx.1 (by omega), wraps_i64 y hy.1 (by omega), wraps_i64 (x * 256) (by omega) (by omega)]
  omega
theorem key_put (key k0 : List Int) (p b r : Int) (h : key.length = 32) (h0 : k0.length = 32) : putAt (encE (k0, p, b, r)) 0 ((u8s key).take (32 * 1)) = encE (key, p, b, r) := by
  rw [List.take_of_length_le (by rw [u8s_len, h]; decide), putAt, encE, encE]
  simp only [List.take_zero, List.nil_append, Nat.zero_add, u8s_len, h]
  rw [List.drop_left' (by rw [u8s_len, h0])]
theorem BM_at {l : List Int} (h : ∀ x ∈ l, 0 ≤ x ∧ x < 256) (i : Nat) : 0 ≤ l.getD i 0 ∧ l.getD i 0 < 256 := byte_at h i
theorem rdec_c (b : List Int) (hb : BOk b) (w : World) : Calls prog 30 [.agg (u8s b).toArray].toArray w (Ret [] w fun u w' => ∃ i : Value, True ∧ u = .tuple #[i, .int .i64 (decS b).2] ∧ Fresh w.heap.size [Ent.row 49 35 i (decS b).1.length (encEs (decS b).1)] w') := by
  refine hands_of_T (V := fun i : Value => .tuple #[i, .int .i64 (decS b).2]) (E := fun i => [Ent.row 49 35 i (decS b).1.length (encEs (decS b).1)]) func30 rfl 71 rfl rfl rfl [] (holds0 w) (fun _ => rfl) ?_
  refine t_seq_region ?_
  refine rg_loud (by rfl) (lo_boxA (by rfl) (by rfl) (fun b0 hb0 => ?_))
  refine rg_pure (by rfl) (by rfl) (pu_assign) ?_
  refine rg_pure (by rfl) (by rfl) (pu_assignE (v := .int .i64 _) (by rfl)) ?_
  refine rg_nil ?_
  refine t_row_nil 49 35 ?_
  refine t_seq_region ?_
  refine rg_pure (by rfl) (by rfl) (pu_assign) ?_
  refine rg_nil ?_
  refine t_seq ?_
  refine t_seq_region ?_
  refine rg_pure (by rfl) (by rfl) (pu_assignE (v := .int .i64 _) (by rfl)) ?_
  refine rg_nil ?_
  refine t_block ?_
  refine t_loop (σ := Nat × Value) (fun s => [(mkS, marksV []), (1, .pointer (some ⟨b0, 0, none⟩)), (4, s.2), (5, .int .i64 (s.1 : Int))]) (fun s => [.row 49 35 s.2 s.1 (encEs (decR b s.1)), .own b0 43 (u8s b)]) (fun s => s.1 ≤ (min (cntS b) 3)) (fun s => (min (cntS b) 3) - s.1) ((0, .slice none 0 0) : Nat × Value) (Nat.zero_le _) (by repeat (first | exact agree_nil | refine agree_cons (by rfl) ?_)) (by repeat constructor) (fun s g hk2 => ?_)
  obtain ⟨k, u⟩ := s
  simp only at hk2 ⊢
  refine t_seq ?_
  refine t_seq_region ?_
  refine rg_pure (by rfl) (by rfl) (pu_moveE (v := .int .i64 _) (by rfl)) ?_
  refine rg_pure (by rfl) (by rfl) (pu_indexArr1 (by rfl) (by rfl) underlying43 sizeOf5 (by omega)) ?_
  refine rg_pure (by rfl) (by rfl) (pu_load1 (v := .int .u8 (b.getD 1 0)) (by rfl) isAgg5 (HasE.has (by repeat constructor)) (u8s_get (by rw [hb.1]; decide))) ?_
  refine rg_pure (by rfl) (by rfl) (pu_conv (by rfl) underlying5 underlying3 (cnt_eq hb)) ?_
  refine rg_pure (by rfl) (by rfl) (pu_lss (by rfl) (by rfl)) ?_
  refine rg_pure (by rfl) (by rfl) (pu_moveE (v := .bool _) (by rfl)) ?_
  refine rg_gpure (by rfl) (by rfl) (by rfl) (by rfl) (fun hg => pu_moveE (v := .int .i64 _) (by rfl)) ?_
  refine rg_gpure (by rfl) (by rfl) (by rfl) (by rfl) (fun hg => pu_lss (gvE hg (by rfl)) (by rfl)) ?_
  refine rg_pure (by rfl) (by rfl) (pu_pickAnd (by rfl) (by rfl)) ?_
  refine rg_nil ?_
  refine t_cond (by rfl) (fun hc0 => ?_) (fun hc0 => ?_)
  ·
    have hk1 : k < (min (cntS b) 3) := by simp at hc0; omega
    have h34 := BM_at hb.2 (2 + 36 * k + 34)
    have h35 := BM_at hb.2 (2 + 36 * k + 35)
    have hrr := refs_rng h34 h35
    refine t_skip ?_
    refine t_seq ?_
    refine t_block ?_
    refine t_seq_region ?_
    refine rg_pure (by rfl) (by rfl) (pu_moveE (v := .int .i64 _) (by rfl)) ?_
    refine rg_pure (by rfl) (by rfl) (pu_mul64 (by rfl) (by rfl) (by omega)) ?_
    refine rg_pure (by rfl) (by rfl) (pu_add64 (by rfl) (by rfl) (by omega)) ?_
    refine rg_pure (by rfl) (by rfl) (pu_assignE (v := .int .i64 _) (by rfl)) ?_
    refine rg_nil ?_
    refine t_seq_draw 24 25 _ mixed (Sub.refl _) (by rfl) (by decide +kernel) ?_
    refine ra_pure0 0 1 rfl (by rfl) (by decide +kernel) (by rfl) (pu_moveE (v := .int .i64 _) (by rfl)) ?_
    refine ra_pure0 1 3 rfl (by rfl) (by decide +kernel) (by rfl) (pu_add64 (by rfl) (by rfl) (by omega)) ?_
    refine ra_pure0 2 7 rfl (by rfl) (by decide +kernel) (by rfl) (pu_indexArr1 (by rfl) (by rfl) underlying43 sizeOf5 (by omega)) ?_
    refine ra_pure 3 15 rfl (by rfl) (by decide +kernel) (by rfl) (pu_load1 (v := .int .u8 (b.getD (2 + 36 * k + 32) 0)) (by rfl) isAgg5 (HasE.has (by repeat constructor)) (by rw [show ((2 + 36 * (k : Int) + 32)).toNat = 2 + 36 * k + 32 by omega]; exact u8s_get (by rw [hb.1]; omega))) ?_
    refine ra_pure0 4 31 rfl (by rfl) (by decide +kernel) (by rfl) (pu_conv (by rfl) underlying5 underlying3 (by rfl)) ?_
    refine ra_pure0 5 63 rfl (by rfl) (by decide +kernel) (by rfl) (pu_moveE (v := .int .i64 _) (by rfl)) ?_
    refine ra_pure0 6 127 rfl (by rfl) (by decide +kernel) (by rfl) (pu_add64 (by rfl) (by rfl) (by omega)) ?_
    refine ra_pure0 7 255 rfl (by rfl) (by decide +kernel) (by rfl) (pu_indexArr1 (by rfl) (by rfl) underlying43 sizeOf5 (by omega)) ?_
    refine ra_pure 8 511 rfl (by rfl) (by decide +kernel) (by rfl) (pu_load1 (v := .int .u8 (b.getD (2 + 36 * k + 33) 0)) (by rfl) isAgg5 (HasE.has (by repeat constructor)) (by rw [show ((2 + 36 * (k : Int) + 33)).toNat = 2 + 36 * k + 33 by omega]; exact u8s_get (by rw [hb.1]; omega))) ?_
    refine ra_pure0 9 1023 rfl (by rfl) (by decide +kernel) (by rfl) (pu_conv (by rfl) underlying5 underlying3 (by rfl)) ?_
    refine ra_pure0 10 2047 rfl (by rfl) (by decide +kernel) (by rfl) (pu_moveE (v := .int .i64 _) (by rfl)) ?_
    refine ra_pure0 11 4095 rfl (by rfl) (by decide +kernel) (by rfl) (pu_add64 (by rfl) (by rfl) (by omega)) ?_
    refine ra_pure0 12 8191 rfl (by rfl) (by decide +kernel) (by rfl) (pu_indexArr1 (by rfl) (by rfl) underlying43 sizeOf5 (by omega)) ?_
    refine ra_pure 13 16383 rfl (by rfl) (by decide +kernel) (by rfl) (pu_load1 (v := .int .u8 (b.getD (2 + 36 * k + 34) 0)) (by rfl) isAgg5 (HasE.has (by repeat constructor)) (by rw [show ((2 + 36 * (k : Int) + 34)).toNat = 2 + 36 * k + 34 by omega]; exact u8s_get (by rw [hb.1]; omega))) ?_
    refine ra_pure0 14 32767 rfl (by rfl) (by decide +kernel) (by rfl) (pu_conv (by rfl) underlying5 underlying3 (by rfl)) ?_
    refine ra_pure0 15 65535 rfl (by rfl) (by decide +kernel) (by rfl) (pu_shl (by rfl) (by rfl) (by decide)) ?_
    refine ra_pure0 16 131071 rfl (by rfl) (by decide +kernel) (by rfl) (pu_moveE (v := .int .i64 _) (by rfl)) ?_
    refine ra_pure0 17 262143 rfl (by rfl) (by decide +kernel) (by rfl) (pu_add64 (by rfl) (by rfl) (by omega)) ?_
    refine ra_pure0 18 524287 rfl (by rfl) (by decide +kernel) (by rfl) (pu_indexArr1 (by rfl) (by rfl) underlying43 sizeOf5 (by omega)) ?_
    refine ra_pure 19 1048575 rfl (by rfl) (by decide +kernel) (by rfl) (pu_load1 (v := .int .u8 (b.getD (2 + 36 * k + 35) 0)) (by rfl) isAgg5 (HasE.has (by repeat constructor)) (by rw [show ((2 + 36 * (k : Int) + 35)).toNat = 2 + 36 * k + 35 by omega]; exact u8s_get (by rw [hb.1]; omega))) ?_
    refine ra_pure0 20 2097151 rfl (by rfl) (by decide +kernel) (by rfl) (pu_conv (by rfl) underlying5 underlying3 (by rfl)) ?_
    refine ra_pure0 21 4194303 rfl (by rfl) (by decide +kernel) (by rfl) (pu_add64 (by rfl) (by rfl) (by omega)) ?_
    refine ra_pure0 22 8388607 rfl (by rfl) (by decide +kernel) (by rfl) (pu_build (cells := (encE (List.replicate 32 0, IntKind.i64.wrap (b.getD (2 + 36 * k + 32) 0), IntKind.i64.wrap (b.getD (2 + 36 * k + 33) 0), (IntKind.i64.wrap (IntKind.i64.wrap (b.getD (2 + 36 * k + 34) 0) * 2 ^ (min (Int.toNat 8) IntKind.i64.bits)) + IntKind.i64.wrap (b.getD (2 + 36 * k + 35) 0)))).toArray) (by kernel_rfl)) ?_
    refine ra_next 23 16777215 (by decide +kernel) ?_
    refine next_loud rfl (by rfl) (lo_alloc (cs := encE d0) (by rfl) zeroValue49 (by rfl) (fun b1 hb1 => ⟨(fun _ => (by repeat constructor)), ?_⟩))
    refine ra_next 24 33554431 (by decide +kernel) ?_
    refine next_loud rfl (by rfl) (lo_storeV (vs := encE (List.replicate 32 0, IntKind.i64.wrap (b.getD (2 + 36 * k + 32) 0), IntKind.i64.wrap (b.getD (2 + 36 * k + 33) 0), (IntKind.i64.wrap (IntKind.i64.wrap (b.getD (2 + 36 * k + 34) 0) * 2 ^ (min (Int.toNat 8) IntKind.i64.bits)) + IntKind.i64.wrap (b.getD (2 + 36 * k + 35) 0)))) (by rfl) (by rfl) (by rfl) (by repeat constructor) sizeOf49 (by first | (simp only [u8s_len, u32s_len, i64s_len, List.length_replicate, List.length_set, encE_len, sumS_len, checkS_len, *]; done) | rfl) (one_encE _) (by first | (simp only [u8s_len, u32s_len, i64s_len, List.length_replicate, List.length_set, encE_len, sumS_len, checkS_len, *]; done) | rfl) ⟨(fun hlt => absurd hlt (by decide +kernel)), ?_⟩)
    refine ra_end (by decide +kernel) ?_
    refine t_seq_draw 7 7 [] mixed .nil (by rfl) (by decide +kernel) ?_
    refine ra_pure0 0 1 rfl (by rfl) (by decide +kernel) (by rfl) (pu_field (by rfl) underlying49 (by rfl) sizeOf47 (by decide)) ?_
    refine ra_pure0 1 3 rfl (by rfl) (by decide +kernel) (by rfl) (pu_sliceArr (l := 0) (h := 32) (by rfl) underlying47 sizeOf5 bv_none bv_none (by decide) (by decide) (by decide)) ?_
    refine ra_pure0 2 7 rfl (by rfl) (by decide +kernel) (by rfl) (pu_moveE (v := .int .i64 _) (by rfl)) ?_
    refine ra_pure0 3 15 rfl (by rfl) (by decide +kernel) (by rfl) (pu_moveE (v := .int .i64 _) (by rfl)) ?_
    refine ra_pure0 4 31 rfl (by rfl) (by decide +kernel) (by rfl) (pu_add64 (by rfl) (by rfl) (by omega)) ?_
    refine ra_pure0 5 63 rfl (by rfl) (by decide +kernel) (by rfl) (pu_sliceArr (l := 2 + 36 * k) (h := 2 + 36 * k + 32) (by rfl) underlying43 sizeOf5 (bv_some (by rfl)) (bv_some (by rfl)) (by omega) (by omega) (by omega)) ?_
    refine ra_next 6 127 (by decide +kernel) ?_
    refine next_loud rfl (by rfl) (lo_copyOwn (kk := 32) (cs' := encE (entAt (b.drop 2) k)) (by rfl) (by rfl) (by rfl) underlying45 sizeOf5 (by repeat constructor) ((src_has (off := 0 + (2 + 36 * k) * 1) (m := 2 + 36 * k + 32 - (2 + 36 * k)) (c := 128 - (2 + 36 * k)) (sz := 1) (HasE.has (b := b0) (by repeat constructor)) (by rw [u8s_len, hb.1]; omega) (by omega) (by simp only [maxLen]; omega)).to (xs' := u8s ((part36 (b.drop 2) k).take 32)) rfl (by rw [part_key, show 0 + (2 + 36 * k) * 1 = 2 + 36 * k by omega, show (2 + 36 * k + 32 - (2 + 36 * k)) * 1 = 32 by omega]; simp only [u8s, List.map_drop, List.map_take])) (one_u8s _) (by omega) (by rw [encE_len (e := (List.replicate 32 0, _, _, _)) rfl]; decide) ((key_put _ _ _ _ _ (by rw [List.length_take, part36_len' hb (by omega)]; rfl) rfl).trans (by rw [entAt, entC, part_get (by decide), part_get (by decide), part_get (by decide), part_get (by decide), refs_add h34 h35])) ⟨(fun _ => (by repeat constructor)), ?_⟩)
    refine ra_end (by decide +kernel) ?_
    refine t_region ?_
    refine rg_pure (by rfl) (by rfl) (pu_moveE (v := u) (by rfl)) ?_
    refine rg_pure (by rfl) (by rfl) (pu_loadAll (by rfl) isAgg49 sizeOf49 (HasE.has (by repeat constructor)) (encE_len (entR_ok hb (by omega)).1)) ?_
    refine rg_loud (by rfl) (lo_buildOne (v := .agg (encE (entAt (b.drop 2) k)).toArray) (cs := encE (entAt (b.drop 2) k)) (by rfl) underlying22 sizeOf49 (by decide) zeroValue49 (by rfl) (by rfl) (by rfl) (encE_len (entR_ok hb (by omega)).1) (fun b5 hb5 => ?_))
    refine rg_loud (by rfl) (lo_appendE (xs' := encEs (decR b (k + 1))) (k' := k + 1) elemOk22 (by rfl) (by rfl) (by rfl) (by repeat constructor) (SrcE.src (by repeat constructor)) (one_encE _) (by omega) (by rfl) (by rw [decR_succ]; simp [encEs]) (fun v3 => ?_))
    refine rg_pure (by rfl) (by rfl) (pu_assign) ?_
    refine rg_nil ?_
    refine t_region ?_
    refine rg_pure (by rfl) (by rfl) (pu_moveE (v := .int .i64 _) (by rfl)) ?_
    refine rg_pure (by rfl) (by rfl) (pu_add64 (by rfl) (by rfl) (by omega)) ?_
    refine rg_pure (by rfl) (by rfl) (pu_assignE (v := .int .i64 _) (by rfl)) ?_
    refine rg_nil ?_
    exact ⟨(k + 1, _), hk1, by show (min (cntS b) 3) - (k + 1) < (min (cntS b) 3) - k; omega, (by repeat (first | exact agree_nil | refine agree_cons (by rfl) ?_)), by repeat constructor⟩
  ·
    have hk1 : k = (min (cntS b) 3) := by simp at hc0; omega
    subst hk1
    have hrk := decR_ok hb (k := (min (cntS b) 3)) (by omega)
    have hrl := decR_len b (min (cntS b) 3)
    have hel := encS_len hrk
    have hdr := dec_ref hb
    refine t_exit ?_
    refine t_seq_region ?_
    refine rg_pure (by rfl) (by rfl) (pu_moveE (v := u) (by rfl)) ?_
    refine rg_loud (by rfl) (lo_callFQ call27 (by rfl) (fun w hw => renc_c u (decR b (min (cntS b) 3)) hrk w (((SrcE.src (by repeat constructor)).to hrl.symm rfl) w hw)) ?_)
    refine rg_pure (by rfl) (by rfl) (pu_move) ?_
    refine rg_pure (by rfl) (by rfl) (pu_extract (by rfl) (by rfl)) ?_
    refine rg_pure (by rfl) (by rfl) (pu_extract (by rfl) (by rfl)) ?_
    refine rg_loud (by rfl) (lo_alloc (cs := u8s (List.replicate 128 0)) (by rfl) zeroValue43 (by rfl) (fun b4 hb4 => ?_))
    refine rg_loud (by rfl) (lo_storeV (vs := u8s (encS (decR b (min (cntS b) 3))).1) (by rfl) (by rfl) (by rfl) (by repeat constructor) sizeOf43 (by first | (simp only [u8s_len, u32s_len, i64s_len, List.length_replicate, List.length_set, encE_len, sumS_len, checkS_len, *]; done) | rfl) (one_u8s _) (by first | (simp only [u8s_len, u32s_len, i64s_len, List.length_replicate, List.length_set, encE_len, sumS_len, checkS_len, *]; done) | rfl) ?_)
    refine rg_pure (by rfl) (by rfl) (pu_assignE (v := .int .i64 _) (by rfl)) ?_
    refine rg_nil ?_
    refine t_seq ?_
    refine t_seq_region ?_
    refine rg_pure (by rfl) (by rfl) (pu_moveE (v := .int .i64 _) (by rfl)) ?_
    refine rg_pure (by rfl) (by rfl) (pu_neq (by rfl) (by rfl)) ?_
    refine rg_pure (by rfl) (by rfl) (pu_moveE (v := .bool _) (by rfl)) ?_
    refine rg_gpure (by rfl) (by rfl) (by rfl) (by rfl) (fun hg => pu_loadAll (by rfl) isAgg43 sizeOf43 (HasE.has (by repeat constructor)) (by rw [u8s_len, hel])) ?_
    refine rg_gpure (by rfl) (by rfl) (by rfl) (by rfl) (fun hg => pu_loadAll (by rfl) isAgg43 sizeOf43 (HasE.has (by repeat constructor)) (by rw [u8s_len, hb.1])) ?_
    refine rg_gpure (by rfl) (by rfl) (by rfl) (by rfl) (fun hg => pu_neqInts (xs := (encS (decR b (min (cntS b) 3))).1) (ys := b) (gvE hg (by rfl)) (gvE hg (by rfl)) underlying43 underlying5 info5 (by kernel_rfl) hel hb.1 eqGuardType43) ?_
    refine rg_pure (by rfl) (by rfl) (pu_pickOr (by rfl) (by rfl)) ?_
    refine rg_nil ?_
    refine t_cond (by rfl) (fun hc1 => ?_) (fun hc1 => ?_)
    ·
      have hbad : decS b = ([], 11) := by rw [hdr]; exact if_pos hc1
      refine t_row_nil 49 35 ?_
      refine t_seq_region ?_
      refine rg_pure (by rfl) (by rfl) (pu_assign) ?_
      refine rg_pure (by rfl) (by rfl) (pu_assignE (v := .int .i64 _) (by rfl)) ?_
      refine rg_nil ?_
      refine t_ret ?_
      exact Fin.ret (res2 rfl .tmp .tmp) ⟨.slice none 0 0, trivial, by rw [hbad]; rfl, by rw [hbad]; repeat constructor⟩
    ·
      have hok : decS b = (decR b (min (cntS b) 3), 0) := by rw [hdr]; exact if_neg (by rw [show ((encS (decR b (min (cntS b) 3))).2 != 0 || !((encS (decR b (min (cntS b) 3))).1 == b)) = false from hc1]; decide)
      refine t_skip ?_
      refine t_seq_region ?_
      refine rg_pure (by rfl) (by rfl) (pu_moveE (v := u) (by rfl)) ?_
      refine rg_pure (by rfl) (by rfl) (pu_assign) ?_
      refine rg_pure (by rfl) (by rfl) (pu_assignE (v := .int .i64 _) (by rfl)) ?_
      refine rg_nil ?_
      refine t_ret ?_
      exact Fin.ret (res2 rfl .tmp .tmp) ⟨u, trivial, by rw [hok]; rfl, by rw [hok, hrl]; repeat constructor⟩
end Go.Proofs.Ytpoecjeknolnoaa
