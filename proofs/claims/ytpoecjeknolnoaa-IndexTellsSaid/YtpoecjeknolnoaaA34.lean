/- Walks of functions that the statements of this seat reach: what each one hands back. Conditions: those that each theorem names. -/
import Derived.Test.YtpoecjeknolnoaaA33
import Derived.Test.YtpoecjeknolnoaaProg
import Derived.KernelRfl
namespace Go.Proofs.Ytpoecjeknolnoaa
open Go.RowKit Go.Proofs.HL Go.Proofs.Try
set_option maxRecDepth 10000
set_option linter.unusedSimpArgs false
set_option linter.unusedVariables false
attribute [local irreducible] T RG RA Pu Lo
/-! ### The document's Pack, Unpack -/
theorem part3_srcV {es : List Ent} {v : Value} {l : List En} {x : Nat} (hk : KeysOk l) (h : HL.Src es v 35 l.length (encEs l)) (hx : 3 * x < l.length) : HL.Src es (slV 35 v (3 * x) (min (3 * x + 3) l.length)) 35 (part3 l x).length (encEs (part3 l x)) := by
  have := src_cut h (l := 3 * x) (h := min (3 * x + 3) l.length) (by omega) (by omega)
  refine this.to (part3_len l x).symm ?_
  rw [encEs_drop _ hk, encEs_take _ (fun e he => hk e (List.mem_of_mem_drop he)), ← part3_len]
  congr 1
  rw [part3, List.take_eq_take_iff, List.length_take, List.length_drop]
  omega
theorem range_map_succ (l : List En) (x : Nat) : encBs ((List.range x).map (blkS l)) ++ u8s (blkS l x) = encBs ((List.range (x + 1)).map (blkS l)) := by
  simp [encBs, List.range_succ]
theorem rpack_c (v u : Value) (l : List En) (p : List Int) (hn : l.length ≤ 1000000) (hk : KeysOk l) (w : World) (hv : Sl w v 35 l.length (encEs l)) (hu : Sl w u 1 p.length (i64s p)) :
    Calls prog 9 [v, u].toArray w (Ret [] w fun r w' => ∃ i : Value, True ∧ r = .tuple #[i, .int .i64 (packS l p).2] ∧ Fresh w.heap.size [Ent.row 43 128 i (packS l p).1.length (encBs (packS l p).1)] w') := by
  have hb := hu.len
  refine hands_of_T (V := fun i : Value => .tuple #[i, .int .i64 (packS l p).2]) (E := fun i => [Ent.row 43 128 i (packS l p).1.length (encBs (packS l p).1)]) func9 rfl 62 rfl rfl rfl [.sl v 35 l.length (encEs l), .sl u 1 p.length (i64s p)] (((holds0 w).addSl hu (by decide)).addSl hv (by decide)) (fun _ => rfl) ?_
  refine t_seq_region ?_
  refine rg_pure (by rfl) (by rfl) (pu_assign) ?_
  refine rg_pure (by rfl) (by rfl) (pu_assignE (v := .int .i64 _) (by rfl)) ?_
  refine rg_nil ?_
  refine t_seq ?_
  refine t_seq_region ?_
  refine rg_pure (by rfl) (by rfl) (pu_moveE (v := v) (by rfl)) ?_
  refine rg_loud (by rfl) (lo_callFQ call13 (by rfl) (fun w hw => refGood_c v l hk w ((SrcE.src (by repeat constructor)) w hw)) ?_)
  refine rg_pure (by rfl) (by rfl) (pu_not (by rfl)) ?_
  refine rg_nil ?_
  refine t_cond (by rfl) (fun hc0 => ?_) (fun hc0 => ?_)
  ·
    have hbad : packS l p = ([], 11) := by rw [packS, if_pos (by rw [goodI_eq]; simpa using hc0)]
    refine t_row_nil 43 128 ?_
    refine t_seq_region ?_
    refine rg_pure (by rfl) (by rfl) (pu_assign) ?_
    refine rg_pure (by rfl) (by rfl) (pu_assignE (v := .int .i64 _) (by rfl)) ?_
    refine rg_nil ?_
    refine t_ret ?_
    exact Fin.ret (res2 rfl .tmp .tmp) ⟨.slice none 0 0, trivial, by rw [hbad]; rfl, by rw [hbad]; repeat constructor⟩
  ·
    have hgood : goodI l = true := by rw [goodI_eq]; simpa using hc0
    have hlen := goodP_len ((goodI_iff l).1 hgood)
    refine t_skip ?_
    refine t_seq ?_
    refine t_seq_region ?_
    refine rg_pure (by rfl) (by rfl) (pu_moveE (v := u) (by rfl)) ?_
    refine rg_pure (by rfl) (by rfl) (pu_len (by rfl) (SrcE.src (by repeat constructor)) (by rfl) underlying23) ?_
    refine rg_pure (by rfl) (by rfl) (pu_moveE (v := v) (by rfl)) ?_
    refine rg_pure (by rfl) (by rfl) (pu_len (by rfl) (SrcE.src (by repeat constructor)) (by rfl) underlying22) ?_
    refine rg_loud (by rfl) (lo_callFQ call17 (by rfl) (fun w hw => rsize_c _ (by omega) w) ?_)
    refine rg_pure (by rfl) (by rfl) (pu_neq (by rfl) (by rfl)) ?_
    refine rg_nil ?_
    refine t_cond (by rfl) (fun hc1 => ?_) (fun hc1 => ?_)
    ·
      have hbad : packS l p = ([], 1) := by rw [packS, if_neg (by rw [hgood]; decide), if_pos (by simpa using hc1)]
      refine t_row_nil 43 128 ?_
      refine t_seq_region ?_
      refine rg_pure (by rfl) (by rfl) (pu_assign) ?_
      refine rg_pure (by rfl) (by rfl) (pu_assignE (v := .int .i64 _) (by rfl)) ?_
      refine rg_nil ?_
      refine t_ret ?_
      exact Fin.ret (res2 rfl .tmp .tmp) ⟨.slice none 0 0, trivial, by rw [hbad]; rfl, by rw [hbad]; repeat constructor⟩
    ·
      have hsz : (p.length : Int) = sizeS l.length := by simpa using hc1
      refine t_skip ?_
      refine t_seq ?_
      refine t_seq_region ?_
      refine rg_pure (by rfl) (by rfl) (pu_moveE (v := v) (by rfl)) ?_
      refine rg_pure (by rfl) (by rfl) (pu_len (by rfl) (SrcE.src (by repeat constructor)) (by rfl) underlying22) ?_
      refine rg_pure (by rfl) (by rfl) (pu_eql (by rfl) (by rfl)) ?_
      refine rg_nil ?_
      refine t_cond (by rfl) (fun hc2 => ?_) (fun hc2 => ?_)
      ·
        have hl0 : l.length = 0 := by simp at hc2; rw [hc2]; rfl
        have hbad : packS l p = ([], 0) := by rw [packS, if_neg (by rw [hgood]; decide), if_neg (by rw [hsz]; simp), if_pos hl0]
        refine t_row_nil 43 128 ?_
        refine t_seq_region ?_
        refine rg_pure (by rfl) (by rfl) (pu_assign) ?_
        refine rg_pure (by rfl) (by rfl) (pu_assignE (v := .int .i64 _) (by rfl)) ?_
        refine rg_nil ?_
        refine t_ret ?_
        exact Fin.ret (res2 rfl .tmp .tmp) ⟨.slice none 0 0, trivial, by rw [hbad]; rfl, by rw [hbad]; repeat constructor⟩
      ·
        have hl0 : l.length ≠ 0 := by intro h; rw [h] at hc2; cases hc2
        have hp1 : 1 ≤ p.length := by rw [sizeS, if_neg (by omega)] at hsz; omega
        refine t_skip ?_
        refine t_seq_region ?_
        refine rg_pure (by rfl) (by rfl) (pu_assign) ?_
        refine rg_nil ?_
        refine t_seq ?_
        refine t_seq_region ?_
        refine rg_pure (by rfl) (by rfl) (pu_assignE (v := .int .i64 _) (by rfl)) ?_
        refine rg_nil ?_
        refine t_row_nil 43 128 ?_
        refine t_block ?_
        refine t_loop (σ := Nat × Value) (fun s => [(mkS, marksV []), (0, v), (1, u), (6, s.2), (7, .int .i64 (3 * (s.1 : Int)))]) (fun s => [.row 43 128 s.2 s.1 (encBs ((List.range s.1).map (blkS l))), .sl v 35 l.length (encEs l), .sl u 1 p.length (i64s p)]) (fun s => s.1 ≤ ((l.length + 2) / 3)) (fun s => ((l.length + 2) / 3) - s.1) ((0, .slice none 0 0) : Nat × Value) (Nat.zero_le _) (by repeat (first | exact agree_nil | refine agree_cons (by rfl) ?_)) (by repeat constructor) (fun s g hk2 => ?_)
        obtain ⟨x, q⟩ := s
        simp only at hk2 ⊢
        refine t_seq ?_
        refine t_seq_region ?_
        refine rg_pure (by rfl) (by rfl) (pu_moveE (v := .int .i64 _) (by rfl)) ?_
        refine rg_pure (by rfl) (by rfl) (pu_moveE (v := v) (by rfl)) ?_
        refine rg_pure (by rfl) (by rfl) (pu_len (by rfl) (SrcE.src (by repeat constructor)) (by rfl) underlying22) ?_
        refine rg_pure (by rfl) (by rfl) (pu_lss (by rfl) (by rfl)) ?_
        refine rg_nil ?_
        refine t_cond (by rfl) (fun hc3 => ?_) (fun hc3 => ?_)
        ·
          have hx : 3 * x < l.length := by simp at hc3; omega
          have hpo := part3_ok hk x
          have hpg := part3_good hgood hx
          have he0 : (encS (part3 l x)).2 = 0 := by rw [encS, hpg]; rfl
          have hel := encS_len hpo
          refine t_skip ?_
          refine t_seq ?_
          refine t_block ?_
          refine t_seq_region ?_
          refine rg_pure (by rfl) (by rfl) (pu_moveE (v := v) (by rfl)) ?_
          refine rg_pure (by rfl) (by rfl) (pu_moveE (v := .int .i64 _) (by rfl)) ?_
          refine rg_pure (by rfl) (by rfl) (pu_moveE (v := .int .i64 _) (by rfl)) ?_
          refine rg_pure (by rfl) (by rfl) (pu_add64 (by rfl) (by rfl) (by omega)) ?_
          refine rg_pure (by rfl) (by rfl) (pu_moveE (v := v) (by rfl)) ?_
          refine rg_pure (by rfl) (by rfl) (pu_len (by rfl) (SrcE.src (by repeat constructor)) (by rfl) underlying22) ?_
          refine rg_pure (by rfl) (by rfl) (pu_min2 (by rfl) (by rfl)) ?_
          refine rg_pure (by rfl) (by rfl) (pu_slice (l := 3 * x) (h := min (3 * x + 3) l.length) (by rfl) (SrcE.src (by repeat constructor)) underlying22 sizeOf49 (bv_some (by omega)) (bv_some (by split <;> omega)) (by omega) (by omega)) ?_
          refine rg_loud (by rfl) (lo_callFQ call27 (by rfl) (fun w hw => renc_c _ (part3 l x) hpo w (part3_srcV hk (SrcE.src (by repeat constructor)) hx w hw)) ?_)
          refine rg_pure (by rfl) (by rfl) (pu_move) ?_
          refine rg_pure (by rfl) (by rfl) (pu_extract (by rfl) (by rfl)) ?_
          refine rg_pure (by rfl) (by rfl) (pu_extract (by rfl) (by rfl)) ?_
          refine rg_loud (by rfl) (lo_alloc (cs := u8s (List.replicate 128 0)) (by rfl) zeroValue43 (by rfl) (fun b0 hb0 => ?_))
          refine rg_loud (by rfl) (lo_storeV (vs := u8s (encS (part3 l x)).1) (by rfl) (by rfl) (by rfl) (by repeat constructor) sizeOf43 (by first | (simp only [u8s_len, u32s_len, i64s_len, List.length_replicate, List.length_set, encE_len, sumS_len, checkS_len, *]; done) | rfl) (one_u8s _) (by first | (simp only [u8s_len, u32s_len, i64s_len, List.length_replicate, List.length_set, encE_len, sumS_len, checkS_len, *]; done) | rfl) ?_)
          refine rg_pure (by rfl) (by rfl) (pu_assignE (v := .int .i64 _) (by rfl)) ?_
          refine rg_nil ?_
          refine t_region ?_
          refine rg_pure (by rfl) (by rfl) (pu_moveE (v := q) (by rfl)) ?_
          refine rg_pure (by rfl) (by rfl) (pu_loadAll (by rfl) isAgg43 sizeOf43 (HasE.has (by repeat constructor)) (by rw [u8s_len, hel])) ?_
          refine rg_loud (by rfl) (lo_buildOne (v := .agg (u8s (encS (part3 l x)).1).toArray) (cs := u8s (encS (part3 l x)).1) (by rfl) underlying24 sizeOf43 (by decide) zeroValue43 (by rfl) (by rfl) (by rfl) (by rw [u8s_len, hel]) (fun b4 hb4 => ?_))
          refine rg_loud (by rfl) (lo_appendE (xs' := encBs ((List.range (x + 1)).map (blkS l))) (k' := x + 1) elemOk24 (by rfl) (by rfl) (by rfl) (by repeat constructor) (SrcE.src (by repeat constructor)) (one_u8s _) (by omega) (by rfl) (range_map_succ l x) (fun v2 => ?_))
          refine rg_pure (by rfl) (by rfl) (pu_assign) ?_
          refine rg_nil ?_
          refine t_region ?_
          refine rg_pure (by rfl) (by rfl) (pu_moveE (v := .int .i64 _) (by rfl)) ?_
          refine rg_pure (by rfl) (by rfl) (pu_add64 (by rfl) (by rfl) (by omega)) ?_
          refine rg_pure (by rfl) (by rfl) (pu_assignE (v := .int .i64 (3 * ((x + 1 : Nat) : Int))) (by show Value.int .i64 (3 * (x : Int) + 3) = _; congr 1)) ?_
          refine rg_nil ?_
          exact ⟨(x + 1, _), by show x + 1 ≤ ((l.length + 2) / 3); omega, by show ((l.length + 2) / 3) - (x + 1) < ((l.length + 2) / 3) - x; omega, (by repeat (first | exact agree_nil | refine agree_cons (by rfl) ?_)), by repeat constructor⟩
        ·
          have hx : x = ((l.length + 2) / 3) := by simp at hc3; omega
          subst hx
          refine t_exit ?_
          have hrl := rootS_len (cutP p)
          refine t_seq_region ?_
          refine rg_pure (by rfl) (by rfl) (pu_moveE (v := u) (by rfl)) ?_
          refine rg_pure (by rfl) (by rfl) (pu_moveE (v := u) (by rfl)) ?_
          refine rg_pure (by rfl) (by rfl) (pu_len (by rfl) (SrcE.src (by repeat constructor)) (by rfl) underlying23) ?_
          refine rg_pure (by rfl) (by rfl) (pu_sub64 (by rfl) (by rfl) (by omega)) ?_
          refine rg_pure (by rfl) (by rfl) (pu_slice (l := 0) (h := p.length - 1) (by rfl) (SrcE.src (by repeat constructor)) underlying23 sizeOf3 bv_none (bv_some (by omega)) (by omega) (by omega)) ?_
          refine rg_loud (by rfl) (lo_callFQ call28 (by rfl) (fun w hw => rroot_c _ (cutP p) w (((src_cut (SrcE.src (by repeat constructor)) (l := 0) (h := p.length - 1) (by omega) (by omega)).to (by rw [cutP, List.length_take]; omega) (by rw [Nat.zero_mul, List.drop_zero, Nat.sub_zero, Nat.mul_one, i64s_take]; rfl)) w hw)) ?_)
          refine rg_pure (by rfl) (by rfl) (pu_move) ?_
          refine rg_pure (by rfl) (by rfl) (pu_extract (by rfl) (by rfl)) ?_
          refine rg_pure (by rfl) (by rfl) (pu_extract (by rfl) (by rfl)) ?_
          refine rg_loud (by rfl) (lo_alloc (cs := u8s (List.replicate 128 0)) (by rfl) zeroValue43 (by rfl) (fun b3 hb3 => ?_))
          refine rg_loud (by rfl) (lo_storeV (vs := u8s (rootS (cutP p)).1) (by rfl) (by rfl) (by rfl) (by repeat constructor) sizeOf43 (by first | (simp only [u8s_len, u32s_len, i64s_len, List.length_replicate, List.length_set, encE_len, sumS_len, checkS_len, *]; done) | rfl) (one_u8s _) (by first | (simp only [u8s_len, u32s_len, i64s_len, List.length_replicate, List.length_set, encE_len, sumS_len, checkS_len, *]; done) | rfl) ?_)
          refine rg_pure (by rfl) (by rfl) (pu_assignE (v := .int .i64 _) (by rfl)) ?_
          refine rg_nil ?_
          refine t_seq ?_
          refine t_seq_region ?_
          refine rg_pure (by rfl) (by rfl) (pu_moveE (v := .int .i64 _) (by rfl)) ?_
          refine rg_pure (by rfl) (by rfl) (pu_neq (by rfl) (by rfl)) ?_
          refine rg_nil ?_
          refine t_cond (by rfl) (fun hc4 => ?_) (fun hc4 => ?_)
          ·
            have hbad : packS l p = ([], (rootS (cutP p)).2) := by rw [packS, if_neg (by rw [hgood]; decide), if_neg (by rw [hsz]; simp), if_neg hl0, if_pos (by simpa using hc4)]
            refine t_row_nil 43 128 ?_
            refine t_seq_region ?_
            refine rg_pure (by rfl) (by rfl) (pu_moveE (v := .int .i64 _) (by rfl)) ?_
            refine rg_pure (by rfl) (by rfl) (pu_assign) ?_
            refine rg_pure (by rfl) (by rfl) (pu_assignE (v := .int .i64 _) (by rfl)) ?_
            refine rg_nil ?_
            refine t_ret ?_
            exact Fin.ret (res2 rfl .tmp .tmp) ⟨.slice none 0 0, trivial, by rw [hbad]; rfl, by rw [hbad]; repeat constructor⟩
          ·
            have hok : packS l p = (leavesS l ++ [(rootS (cutP p)).1], 0) := by rw [packS, if_neg (by rw [hgood]; decide), if_neg (by rw [hsz]; simp), if_neg hl0, if_neg (by simpa using hc4)]
            refine t_skip ?_
            refine t_seq_region ?_
            refine rg_pure (by rfl) (by rfl) (pu_moveE (v := q) (by rfl)) ?_
            refine rg_pure (by rfl) (by rfl) (pu_loadAll (by rfl) isAgg43 sizeOf43 (HasE.has (by repeat constructor)) (by rw [u8s_len, hrl])) ?_
            refine rg_loud (by rfl) (lo_buildOne (v := .agg (u8s (rootS (cutP p)).1).toArray) (cs := u8s (rootS (cutP p)).1) (by rfl) underlying24 sizeOf43 (by decide) zeroValue43 (by rfl) (by rfl) (by rfl) (by rw [u8s_len, hrl]) (fun b6 hb6 => ?_))
            refine rg_loud (by rfl) (lo_appendE (xs' := encBs (leavesS l ++ [(rootS (cutP p)).1])) (k' := (leavesS l ++ [(rootS (cutP p)).1]).length) elemOk24 (by rfl) (by rfl) (by rfl) (by repeat constructor) (SrcE.src (by repeat constructor)) (one_u8s _) (by omega) (by rw [List.length_append, leavesS_len]; rfl) (by simp [encBs, leavesS]) (fun v5 => ?_))
            refine rg_pure (by rfl) (by rfl) (pu_assign) ?_
            refine rg_pure (by rfl) (by rfl) (pu_assignE (v := .int .i64 _) (by rfl)) ?_
            refine rg_nil ?_
            refine t_ret ?_
            exact Fin.ret (res2 rfl .tmp .tmp) ⟨_, trivial, by rw [hok]; rfl, by rw [hok]; repeat constructor⟩
theorem runp_cond {l : List (List Int)} {k : Nat} (hk : k < l.length) : ((decS (l.getD k z128)).2 != 0 || (decide (((decS (l.getD k z128)).1.length : Int) < 3) && decide (0 < (l.drop (k + 1)).length))) = ((decS (l.getD k z128)).2 != 0 || (decide (((decS (l.getD k z128)).1.length : Int) < 3) && decide ((k : Int) + 1 < (l.length : Int)))) := by
  congr 2
  rw [List.length_drop]
  by_cases h : k + 1 < l.length
  · rw [decide_eq_true (by omega), decide_eq_true (by omega)]
  · rw [decide_eq_false (by omega), decide_eq_false (by omega)]
theorem runpack_c (v : Value) (l : List (List Int)) (hn : l.length ≤ 1000000) (hk : BsOk l) (w : World) (hv : Sl w v 128 l.length (encBs l)) : Calls prog 11 [v].toArray w (Ret [] w fun u w' => ∃ i : Value, True ∧ u = .tuple #[i, .int .i64 (unpackS l).2] ∧ Fresh w.heap.size [Ent.row 49 35 i (unpackS l).1.length (encEs (unpackS l).1)] w') := by
  refine hands_of_T (V := fun i : Value => .tuple #[i, .int .i64 (unpackS l).2]) (E := fun i => [Ent.row 49 35 i (unpackS l).1.length (encEs (unpackS l).1)]) func11 rfl 43 rfl rfl rfl [.sl v 128 l.length (encBs l)] ((holds0 w).addSl hv (by decide)) (fun _ => rfl) ?_
  refine t_seq_region ?_
  refine rg_pure (by rfl) (by rfl) (pu_assign) ?_
  refine rg_pure (by rfl) (by rfl) (pu_assignE (v := .int .i64 _) (by rfl)) ?_
  refine rg_nil ?_
  refine t_seq_region ?_
  refine rg_pure (by rfl) (by rfl) (pu_assign) ?_
  refine rg_nil ?_
  refine t_seq ?_
  refine t_seq_region ?_
  refine rg_pure (by rfl) (by rfl) (pu_assignE (v := .int .i64 _) (by rfl)) ?_
  refine rg_nil ?_
  refine t_row_nil 49 35 ?_
  refine t_block ?_
  refine t_loop (σ := Nat × Value × List En) (fun s => [(mkS, marksV []), (0, v), (4, s.2.1), (5, .int .i64 (s.1 : Int))]) (fun s => [.row 49 35 s.2.1 s.2.2.length (encEs s.2.2), .sl v 128 l.length (encBs l)]) (fun s => s.1 ≤ l.length ∧ KeysOk s.2.2 ∧ s.2.2.length ≤ 3 * s.1 ∧ unpF l [] = unpF (l.drop s.1) s.2.2) (fun s => l.length - s.1) ((0, .slice none 0 0, []) : Nat × Value × List En) ⟨Nat.zero_le _, KeysOk.nil, by simp, rfl⟩ (by repeat (first | exact agree_nil | refine agree_cons (by rfl) ?_)) (by repeat constructor) (fun s g hks => ?_)
  obtain ⟨k, u, acc⟩ := s
  obtain ⟨hk2, hka, hk4, hk3⟩ := hks
  simp only at hk2 hka hk4 hk3 ⊢
  refine t_seq ?_
  refine t_seq_region ?_
  refine rg_pure (by rfl) (by rfl) (pu_moveE (v := .int .i64 _) (by rfl)) ?_
  refine rg_pure (by rfl) (by rfl) (pu_moveE (v := v) (by rfl)) ?_
  refine rg_pure (by rfl) (by rfl) (pu_len (by rfl) (SrcE.src (by repeat constructor)) (by rfl) underlying24) ?_
  refine rg_pure (by rfl) (by rfl) (pu_lss (by rfl) (by rfl)) ?_
  refine rg_nil ?_
  refine t_cond (by rfl) (fun hc0 => ?_) (fun hc0 => ?_)
  ·
    have hk1 : k < l.length := by simp at hc0; omega
    have hbk := hk.ok k
    have hbl : (l.getD k z128).length = 128 := hbk.1
    have hdk := decS_ok hbk
    refine t_skip ?_
    refine t_seq ?_
    refine t_block ?_
    refine t_seq_region ?_
    refine rg_pure (by rfl) (by rfl) (pu_moveE (v := v) (by rfl)) ?_
    refine rg_pure (by rfl) (by rfl) (pu_moveE (v := .int .i64 _) (by rfl)) ?_
    refine rg_pure (by rfl) (by rfl) (pu_index (by rfl) (by rfl) (SrcE.src (by repeat constructor)) underlying24 sizeOf43 (by omega)) ?_
    refine rg_pure (by rfl) (by rfl) (pu_loadS (ds := u8s (l.getD k z128)) (by rfl) isAgg43 sizeOf43 (SrcE.src (by repeat constructor)) (encBs_at hk hk1) (by rw [u8s_len]; exact hbk.1) (by decide)) ?_
    refine rg_loud (by rfl) (lo_callF (fun _ : Value => True) (fun i => .tuple #[i, .int .i64 (decS (l.getD k z128)).2]) (fun i => [.row 49 35 i (decS (l.getD k z128)).1.length (encEs (decS (l.getD k z128)).1)]) call30 (by rfl) (fun w hw => rdec_c (l.getD k z128) hbk w) (fun i _ => ?_))
    refine rg_pure (by rfl) (by rfl) (pu_move) ?_
    refine rg_pure (by rfl) (by rfl) (pu_extract (by rfl) (by rfl)) ?_
    refine rg_pure (by rfl) (by rfl) (pu_extract (by rfl) (by rfl)) ?_
    refine rg_pure (by rfl) (by rfl) (pu_assignE (v := i) (by rfl)) ?_
    refine rg_pure (by rfl) (by rfl) (pu_assignE (v := .int .i64 _) (by rfl)) ?_
    refine rg_nil ?_
    refine t_seq ?_
    refine t_seq_region ?_
    refine rg_pure (by rfl) (by rfl) (pu_moveE (v := .int .i64 _) (by rfl)) ?_
    refine rg_pure (by rfl) (by rfl) (pu_neq (by rfl) (by rfl)) ?_
    refine rg_pure (by rfl) (by rfl) (pu_moveE (v := .bool _) (by rfl)) ?_
    refine rg_gpure (by rfl) (by rfl) (by rfl) (by rfl) (fun hg => pu_moveE (v := i) (by rfl)) ?_
    refine rg_gpure (by rfl) (by rfl) (by rfl) (by rfl) (fun hg => pu_len (gvE hg (by rfl)) (SrcE.src (by repeat constructor)) (by rfl) underlying22) ?_
    refine rg_gpure (by rfl) (by rfl) (by rfl) (by rfl) (fun hg => pu_lss (gvE hg (by rfl)) (by rfl)) ?_
    refine rg_gpure (by rfl) (by rfl) (by rfl) (by rfl) (fun hg => pu_moveE (v := .bool _) (gvE hg (by rfl))) ?_
    refine rg_gpureN (by rfl) (by rfl) (by rfl) (by rfl) (fun hg => pu_moveE (v := .int .i64 _) (by rfl)) ?_
    refine rg_gpureN (by rfl) (by rfl) (by rfl) (by rfl) (fun hg => pu_add64 (gvE hg (by rfl)) (by rfl) (by omega)) ?_
    refine rg_gpureN (by rfl) (by rfl) (by rfl) (by rfl) (fun hg => pu_moveE (v := v) (by rfl)) ?_
    refine rg_gpureN (by rfl) (by rfl) (by rfl) (by rfl) (fun hg => pu_len (gvE hg (by rfl)) (SrcE.src (by repeat constructor)) (by rfl) underlying24) ?_
    refine rg_gpureN (by rfl) (by rfl) (by rfl) (by rfl) (fun hg => pu_lss (gvE hg (by rfl)) (gvE hg (by rfl))) ?_
    refine rg_gpure (by rfl) (by rfl) (by rfl) (by rfl) (fun hg => pu_pickAnd (gvE hg (by rfl)) (gvAnd hg (by rfl))) ?_
    refine rg_pure (by rfl) (by rfl) (pu_pickOr (by rfl) (by rfl)) ?_
    refine rg_nil ?_
    refine t_cond (by rfl) (fun hc1 => ?_) (fun hc1 => ?_)
    ·
      have hbad : unpackS l = ([], 11) := by
        have : unpF l [] = none := by
          rw [hk3, drop_consB hk1, unpF, if_pos (by rw [runp_cond hk1]; exact hc1)]
        rw [unpackS, this]
      refine t_row_nil 49 35 ?_
      refine t_seq_region ?_
      refine rg_pure (by rfl) (by rfl) (pu_assign) ?_
      refine rg_pure (by rfl) (by rfl) (pu_assignE (v := .int .i64 _) (by rfl)) ?_
      refine rg_nil ?_
      refine t_ret ?_
      exact Fin.ret (res2 rfl .tmp .tmp) ⟨.slice none 0 0, trivial, by rw [hbad]; rfl, by rw [hbad]; repeat constructor⟩
    ·
      have hst : unpF l [] = unpF (l.drop (k + 1)) (acc ++ (decS (l.getD k z128)).1) := by
        rw [hk3, drop_consB hk1, unpF, if_neg (by rw [runp_cond hk1, hc1]; decide)]
      refine t_skip ?_
      refine t_region ?_
      refine rg_pure (by rfl) (by rfl) (pu_moveE (v := u) (by rfl)) ?_
      refine rg_pure (by rfl) (by rfl) (pu_moveE (v := i) (by rfl)) ?_
      refine rg_loud (by rfl) (lo_appendE (xs' := encEs (acc ++ (decS (l.getD k z128)).1)) (k' := (acc ++ (decS (l.getD k z128)).1).length) elemOk22 (by rfl) (by rfl) (by rfl) (by repeat constructor) (SrcE.src (by repeat constructor)) (one_encEs _) (by omega) (by simp) (by simp [encEs]) (fun v0 => ?_))
      refine rg_pure (by rfl) (by rfl) (pu_assign) ?_
      refine rg_nil ?_
      refine t_region ?_
      refine rg_pure (by rfl) (by rfl) (pu_moveE (v := .int .i64 _) (by rfl)) ?_
      refine rg_pure (by rfl) (by rfl) (pu_add64 (by rfl) (by rfl) (by omega)) ?_
      refine rg_pure (by rfl) (by rfl) (pu_assignE (v := .int .i64 _) (by rfl)) ?_
      refine rg_nil ?_
      exact ⟨(k + 1, _, acc ++ (decS (l.getD k z128)).1), ⟨hk1, fun e he => by rcases List.mem_append.1 he with h | h; exact hka e h; exact hdk.1 e h, by simp only [List.length_append]; omega, hst⟩, by show l.length - (k + 1) < l.length - k; omega, (by repeat (first | exact agree_nil | refine agree_cons (by rfl) ?_)), by repeat constructor⟩
  ·
    have hk1 : k = l.length := by simp at hc0; omega
    have hacc : unpF l [] = some acc := by rw [hk3, hk1, List.drop_length]; rfl
    refine t_exit ?_
    refine t_seq ?_
    refine t_seq_region ?_
    refine rg_pure (by rfl) (by rfl) (pu_moveE (v := u) (by rfl)) ?_
    refine rg_loud (by rfl) (lo_callFQ call13 (by rfl) (fun w hw => refGood_c u acc hka w ((SrcE.src (by repeat constructor)) w hw)) ?_)
    refine rg_pure (by rfl) (by rfl) (pu_not (by rfl)) ?_
    refine rg_nil ?_
    refine t_cond (by rfl) (fun hc2 => ?_) (fun hc2 => ?_)
    ·
      have hbad : unpackS l = ([], 11) := by
        have h : goodI acc = false := by rw [goodI_eq]; simpa using hc2
        rw [unpackS, hacc]
        show (if goodI acc = true then _ else _) = _
        rw [h]; rfl
      refine t_row_nil 49 35 ?_
      refine t_seq_region ?_
      refine rg_pure (by rfl) (by rfl) (pu_assign) ?_
      refine rg_pure (by rfl) (by rfl) (pu_assignE (v := .int .i64 _) (by rfl)) ?_
      refine rg_nil ?_
      refine t_ret ?_
      exact Fin.ret (res2 rfl .tmp .tmp) ⟨.slice none 0 0, trivial, by rw [hbad]; rfl, by rw [hbad]; repeat constructor⟩
    ·
      have hgood : unpackS l = (acc, 0) := by
        have h : goodI acc = true := by rw [goodI_eq]; simpa using hc2
        rw [unpackS, hacc]
        show (if goodI acc = true then _ else _) = _
        rw [h]; rfl
      refine t_skip ?_
      refine t_seq_region ?_
      refine rg_pure (by rfl) (by rfl) (pu_moveE (v := u) (by rfl)) ?_
      refine rg_pure (by rfl) (by rfl) (pu_assign) ?_
      refine rg_pure (by rfl) (by rfl) (pu_assignE (v := .int .i64 _) (by rfl)) ?_
      refine rg_nil ?_
      refine t_ret ?_
      exact Fin.ret (res2 rfl .tmp .tmp) ⟨u, trivial, by rw [hgood]; rfl, by rw [hgood]; repeat constructor⟩
end Go.Proofs.Ytpoecjeknolnoaa
