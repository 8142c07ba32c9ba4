/- Walks of functions that the statements of this seat reach: what each one hands back. Conditions: those that each theorem names. -/
import Derived.Test.YtpoecjeknolnoaaA3
import Derived.Test.YtpoecjeknolnoaaProg
import Derived.KernelRfl
namespace Go.Proofs.Ytpoecjeknolnoaa
open Go.RowKit Go.Proofs.HL Go.Proofs.Try
set_option maxRecDepth 10000
set_option linter.unusedSimpArgs false
set_option linter.unusedVariables false
attribute [local irreducible] T RG RA Pu Lo
def nbits (l : List Int) : Int := IntKind.u64.wrap (IntKind.u64.wrap (l.length : Int) * 8)
def padN (n : Nat) : Nat := (119 - n % 64) % 64
def lenByte (l : List Int) (i : Nat) : Int := IntKind.u8.wrap ((nbits l).fdiv (2 ^ (min (56 - 8 * (i : Int)).toNat IntKind.u64.bits)))
def padS (l : List Int) (j : Nat) : List Int := l ++ [128] ++ List.replicate (padN l.length) 0 ++ (List.range j).map (lenByte l)
theorem padS_len (l : List Int) (j : Nat) : (padS l j).length = l.length + 1 + padN l.length + j := by simp [padS]; omega
theorem pad_step (l : List Int) (j : Nat) : u8s (l ++ [128] ++ List.replicate j 0) ++ u8s [0] = u8s (l ++ [128] ++ List.replicate (j + 1) 0) := by
  simp [u8s, List.replicate_succ']
theorem padS_step (l : List Int) (j : Nat) : u8s (padS l j) ++ u8s [lenByte l j] = u8s (padS l (j + 1)) := by
  simp [u8s, padS, List.range_succ]
def chunk (p : List Int) (j : Nat) : List Int := (p.drop (64 * j)).take 64
def hashS (p : List Int) (j : Nat) : List Int := (List.range j).foldl (fun h i => turnS h (chunk p i)) startS
theorem hashS_zero (p : List Int) : hashS p 0 = startS := rfl
theorem hashS_succ (p : List Int) (j : Nat) : hashS p (j + 1) = turnS (hashS p j) (chunk p j) := by simp [hashS, List.range_succ, List.foldl_append]
theorem hashS_len (p : List Int) (j : Nat) : (hashS p j).length = 8 := by
  induction j with
  | zero => rfl
  | succ j ih => rw [hashS_succ]; exact turnS_len ih _
def byteS (h : List Int) (q : Nat) : Int := IntKind.u8.wrap ((h.getD (q / 4) 0).fdiv (2 ^ (min (24 - 8 * ((q % 4 : Nat) : Int)).toNat IntKind.u32.bits)))
def outS (h : List Int) (m : Nat) : List Int := (List.range m).foldl (fun o q => o.set q (byteS h q)) (List.replicate 32 0)
theorem outS_zero (h : List Int) : outS h 0 = List.replicate 32 0 := rfl
theorem outS_succ (h : List Int) (m : Nat) : outS h (m + 1) = (outS h m).set m (byteS h m) := by simp [outS, List.range_succ, List.foldl_append]
theorem outS_len (h : List Int) (m : Nat) : (outS h m).length = 32 := by
  induction m with
  | zero => rfl
  | succ m ih => rw [outS_succ, List.length_set, ih]
/-- The SHA-256 of bytes, as the program reckons it. -/
def sumS (l : List Int) : List Int := outS (hashS (padS l 8) ((padS l 8).length / 64)) 32
theorem sumS_len (l : List Int) : (sumS l).length = 32 := outS_len _ _
theorem chunk_src {es : List Ent} {v : Value} {n : Nat} {p : List Int} {j : Nat} (h : Src es v 1 n (u8s p)) (hj : 64 * j + 64 ≤ n) : Src es (slV 1 v (64 * j) (64 * j + 64)) 1 64 (u8s (chunk p j)) := by
  have := src_cut h (l := 64 * j) (h := 64 * j + 64) (by omega) hj
  refine this.to (by omega) ?_
  simp [u8s, chunk, List.map_drop, List.map_take, show 64 * j + 64 - 64 * j = 64 by omega]
theorem chunk_len {p : List Int} {j : Nat} (hj : 64 * j + 64 ≤ p.length) : (chunk p j).length = 64 := by simp [chunk]; omega
theorem sum_c (v : Value) (l : List Int) (hl : l.length ≤ 1000000) (w : World) (hv : Sl w v 1 l.length (u8s l)) : Gives prog 66 [v].toArray w (.agg (u8s (sumS l)).toArray) := by
  refine gives_of_T func66 rfl 75 rfl rfl rfl [.sl v 1 l.length (u8s l)] ((holds0 w).addSl hv (by decide)) ?_
  refine t_seq_region ?_
  refine rg_loud (by rfl) (lo_alloc (cs := u8s (List.replicate 32 0)) (by rfl) zeroValue47 (by rfl) (fun b0 hb0 => ?_))
  refine rg_nil ?_
  refine t_seq_region ?_
  refine rg_pure (by rfl) (by rfl) (pu_moveE (by rfl)) ?_
  refine rg_pure (by rfl) (by rfl) (pu_len (by rfl) (SrcE.src (by repeat constructor)) (by rfl) underlying45) ?_
  refine rg_pure (by rfl) (by rfl) (pu_conv (by rfl) underlying3 underlying105 (by rfl)) ?_
  refine rg_pure (by rfl) (by rfl) (pu_mul (by rfl) (by rfl)) ?_
  refine rg_pure (by rfl) (by rfl) (pu_assignE (v := .int .u64 _) (by rfl)) ?_
  refine rg_nil ?_
  refine t_seq_region ?_
  refine rg_pure (by rfl) (by rfl) (pu_moveE (by rfl)) ?_
  refine rg_loud (by rfl) (lo_callR (E := fun u => .row 5 1 u l.length (u8s l)) call71 (by rfl) (fun w hw => clone71_c _ _ _ w (SrcE.src (by repeat constructor) w hw) (one_u8s _) (by omega)) (fun v1 => ?_))
  refine rg_loud (by rfl) (lo_buildRow1 (cs := u8s [128]) (by rfl) underlying45 sizeOf5 (by decide) zeroValue5 (by rfl) (by kernel_rfl) (by rfl) (fun b1 hb1 => ?_))
  refine rg_loud (by rfl) (lo_appendE (xs' := u8s (l ++ [128])) (k' := l.length + 1) elemOk45 (by rfl) (by rfl) (by rfl) (by repeat constructor) (SrcE.src (by repeat constructor)) (one_u8s _) (by omega) (by rfl) (by simp [u8s]) (fun v2 => ?_))
  refine rg_pure (by rfl) (by rfl) (pu_assign) ?_
  refine rg_nil ?_
  refine t_seq ?_
  refine t_block ?_
  refine t_loop (σ := Nat × Value) (fun s => [(mkS, marksV []), (0, s.2), (2, .pointer (some ⟨b0, 0, none⟩)), (3, .int .u64 (nbits l))]) (fun s => [.row 5 1 s.2 (l.length + 1 + s.1) (u8s (l ++ [128] ++ List.replicate s.1 0)), .own b0 47 (u8s (List.replicate 32 0))]) (fun s => s.1 ≤ padN l.length) (fun s => padN l.length - s.1) ((0, _) : Nat × Value) (Nat.zero_le _) (by repeat (first | exact agree_nil | refine agree_cons (by rfl) ?_)) (by simp only [List.replicate_zero, List.append_nil, Nat.add_zero]; repeat constructor) (fun s g hk => ?_)
  refine t_seq ?_
  refine t_seq_region ?_
  refine rg_pure (by rfl) (by rfl) (pu_moveE (by rfl)) ?_
  refine rg_pure (by rfl) (by rfl) (pu_len (by rfl) (SrcE.src (by repeat constructor)) (by rfl) underlying45) ?_
  refine rg_pure (by rfl) (by rfl) (pu_rem64 (by rfl) (by rfl) (by omega)) ?_
  refine rg_pure (by rfl) (by rfl) (pu_neq (by rfl) (by rfl)) ?_
  refine rg_nil ?_
  refine t_cond (by rfl) (fun hc0 => ?_) (fun hc0 => ?_)
  ·
    have hk1 : s.1 < padN l.length := by simp at hc0; simp only [padN] at *; omega
    refine t_skip ?_
    refine t_block ?_
    refine t_region ?_
    refine rg_pure (by rfl) (by rfl) (pu_moveE (by rfl)) ?_
    refine rg_loud (by rfl) (lo_buildRow1 (cs := u8s [0]) (by rfl) underlying45 sizeOf5 (by decide) zeroValue5 (by rfl) (by kernel_rfl) (by rfl) (fun b3 hb3 => ?_))
    refine rg_loud (by rfl) (lo_appendE (xs' := u8s (l ++ [128] ++ List.replicate (s.1 + 1) 0)) (k' := l.length + 1 + (s.1 + 1)) elemOk45 (by rfl) (by rfl) (by rfl) (by repeat constructor) (SrcE.src (by repeat constructor)) (one_u8s _) (by simp only [padN] at *; omega) (by omega) (pad_step _ _) (fun v4 => ?_))
    refine rg_pure (by rfl) (by rfl) (pu_assign) ?_
    refine rg_nil ?_
    exact ⟨(s.1 + 1, _), hk1, (by show padN l.length - (s.1 + 1) < padN l.length - s.1; omega), (by repeat (first | exact agree_nil | refine agree_cons (by rfl) ?_)), (by repeat constructor)⟩
  ·
    have hk1 : s.1 = padN l.length := by simp at hc0; simp only [padN] at *; omega
    rw [hk1]
    refine t_exit ?_
    refine t_seq ?_
    refine t_seq_region ?_
    refine rg_pure (by rfl) (by rfl) (pu_moveE (v := .int .i64 _) (by rfl)) ?_
    refine rg_nil ?_
    refine t_block ?_
    refine t_loop (σ := Nat × Value) (fun s => [(mkS, marksV []), (0, s.2), (2, .pointer (some ⟨b0, 0, none⟩)), (3, .int .u64 (nbits l)), (26, .int .i64 (s.1 : Int))]) (fun s => [.row 5 1 s.2 (l.length + 1 + padN l.length + s.1) (u8s (padS l s.1)), .own b0 47 (u8s (List.replicate 32 0))]) (fun s => s.1 ≤ 8) (fun s => 8 - s.1) ((0, _) : Nat × Value) (Nat.zero_le _) (by repeat (first | exact agree_nil | refine agree_cons (by rfl) ?_)) (by simp only [padS, List.range_zero, List.map_nil, List.append_nil, Nat.add_zero]; repeat constructor) (fun s g hk => ?_)
    refine t_seq_region ?_
    refine rg_pure (by rfl) (by rfl) (pu_lss (by rfl) (by rfl)) ?_
    refine rg_nil ?_
    refine t_seq ?_
    refine t_cond (by rfl) (fun hc1 => ?_) (fun hc1 => ?_)
    ·
      have hk1 : s.1 < 8 := by simp at hc1; omega
      refine t_skip ?_
      refine t_seq ?_
      refine t_block ?_
      refine t_seq_region ?_
      refine rg_pure (by rfl) (by rfl) (pu_moveE (v := .int .i64 _) (by rfl)) ?_
      refine rg_pure (by rfl) (by rfl) (pu_assignE (v := .int .i64 _) (by rfl)) ?_
      refine rg_nil ?_
      refine t_region ?_
      refine rg_pure (by rfl) (by rfl) (pu_moveE (by rfl)) ?_
      refine rg_pure (by rfl) (by rfl) (pu_moveE (v := .int .u64 _) (by rfl)) ?_
      refine rg_pure (by rfl) (by rfl) (pu_moveE (v := .int .i64 _) (by rfl)) ?_
      refine rg_pure (by rfl) (by rfl) (pu_mul64 (by rfl) (by rfl) (by omega)) ?_
      refine rg_pure (by rfl) (by rfl) (pu_sub64 (by rfl) (by rfl) (by omega)) ?_
      refine rg_pure (by rfl) (by rfl) (pu_shr (by rfl) (by rfl) (by omega)) ?_
      refine rg_pure (by rfl) (by rfl) (pu_conv (by rfl) underlying105 underlying5 (by rfl)) ?_
      refine rg_loud (by rfl) (lo_buildRow1 (cs := u8s [lenByte l s.1]) (by rfl) underlying45 sizeOf5 (by decide) zeroValue5 (by rfl) (by kernel_rfl) (by rfl) (fun b5 hb5 => ?_))
      refine rg_loud (by rfl) (lo_appendE (xs' := u8s (padS l (s.1 + 1))) (k' := l.length + 1 + padN l.length + (s.1 + 1)) elemOk45 (by rfl) (by rfl) (by rfl) (by repeat constructor) (SrcE.src (by repeat constructor)) (one_u8s _) (by simp only [padN] at *; omega) (by omega) (padS_step _ _) (fun v6 => ?_))
      refine rg_pure (by rfl) (by rfl) (pu_assign) ?_
      refine rg_nil ?_
      refine t_region ?_
      refine rg_pure (by rfl) (by rfl) (pu_add64 (by rfl) (by rfl) (by omega)) ?_
      refine rg_pure (by rfl) (by rfl) (pu_moveE (v := .int .i64 _) (by rfl)) ?_
      refine rg_nil ?_
      exact ⟨(s.1 + 1, _), hk1, (by show 8 - (s.1 + 1) < 8 - s.1; omega), (by repeat (first | exact agree_nil | refine agree_cons (by rfl) ?_)), (by repeat constructor)⟩
    ·
      have hk1 : s.1 = 8 := by simp at hc1; omega
      have hpl := padS_len l 8
      have hpb : (padS l 8).length ≤ 1000100 := by rw [hpl]; simp only [padN]; omega
      rw [hk1]
      generalize s.2 = u
      refine t_exit ?_
      refine t_seq_region ?_
      refine rg_loud (by rfl) (lo_callFQ call72 (by rfl) (fun w hw => start_c w) ?_)
      refine rg_loud (by rfl) (lo_alloc (cs := u32s (List.replicate 8 0)) (by rfl) zeroValue107 (by rfl) (fun b7 hb7 => ?_))
      refine rg_loud (by rfl) (lo_storeV (vs := _) (by rfl) (by rfl) (by rfl) (by repeat constructor) sizeOf107 (by first | (simp only [u8s_len, u32s_len, i64s_len, List.length_replicate, List.length_set, outS_len, hashS_len, turnS_len, *]; done) | rfl) (one_u32s _) (by first | (simp only [u8s_len, u32s_len, i64s_len, List.length_replicate, List.length_set, outS_len, hashS_len, turnS_len, *]; done) | rfl) ?_)
      refine rg_nil ?_
      refine t_seq ?_
      refine t_seq_region ?_
      refine rg_pure (by rfl) (by rfl) (pu_assignE (v := .int .i64 _) (by rfl)) ?_
      refine rg_nil ?_
      refine t_block ?_
      refine t_loop (σ := Nat) (fun j => [(mkS, marksV []), (0, u), (2, .pointer (some ⟨b0, 0, none⟩)), (5, .pointer (some ⟨b7, 0, none⟩)), (6, .int .i64 (64 * j : Nat))]) (fun j => [.own b7 107 (u32s (hashS (padS l 8) j)), .row 5 1 u (l.length + 1 + padN l.length + 8) (u8s (padS l 8)), .own b0 47 (u8s (List.replicate 32 0))]) (fun j => j ≤ (padS l 8).length / 64) (fun j => (padS l 8).length / 64 - j) 0 (Nat.zero_le _) (by repeat (first | exact agree_nil | refine agree_cons (by rfl) ?_)) (by simp only [hashS_zero]; repeat constructor) (fun j g hj => ?_)
      refine t_seq ?_
      refine t_seq_region ?_
      refine rg_pure (by rfl) (by rfl) (pu_moveE (v := .int .i64 _) (by rfl)) ?_
      refine rg_pure (by rfl) (by rfl) (pu_moveE (by rfl)) ?_
      refine rg_pure (by rfl) (by rfl) (pu_len (by rfl) (SrcE.src (by repeat constructor)) (by rfl) underlying45) ?_
      refine rg_pure (by rfl) (by rfl) (pu_lss (by rfl) (by rfl)) ?_
      refine rg_nil ?_
      refine t_cond (by rfl) (fun hc2 => ?_) (fun hc2 => ?_)
      ·
        have hj1 : 64 * j + 64 ≤ (padS l 8).length := by rw [hpl]; simp at hc2; simp only [padN] at *; omega
        have hj2 : 64 * j + 64 ≤ l.length + 1 + padN l.length + 8 := by rw [← hpl]; exact hj1
        refine t_skip ?_
        refine t_seq ?_
        refine t_block ?_
        refine t_region_draw 7 8 _ mixed (Sub.refl _) (by rfl) (by decide +kernel) ?_
        refine ra_pure 0 1 rfl (by rfl) (by decide +kernel) (by rfl) (pu_loadAll (by rfl) isAgg107 sizeOf107 (HasE.has (by repeat constructor)) (by first | (simp only [u8s_len, u32s_len, i64s_len, List.length_replicate, List.length_set, outS_len, hashS_len, turnS_len, *]; done) | rfl)) ?_
        refine ra_pure0 1 3 rfl (by rfl) (by decide +kernel) (by rfl) (pu_moveE (by rfl)) ?_
        refine ra_pure0 2 7 rfl (by rfl) (by decide +kernel) (by rfl) (pu_moveE (v := .int .i64 _) (by rfl)) ?_
        refine ra_pure0 3 15 rfl (by rfl) (by decide +kernel) (by rfl) (pu_moveE (v := .int .i64 _) (by rfl)) ?_
        refine ra_pure0 4 31 rfl (by rfl) (by decide +kernel) (by rfl) (pu_add64 (by rfl) (by rfl) (by omega)) ?_
        refine ra_pure 5 63 rfl (by rfl) (by decide +kernel) (by rfl) (pu_slice (l := 64 * j) (h := 64 * j + 64) (by rfl) (SrcE.src (by repeat constructor)) underlying45 sizeOf5 (bv_some (by omega)) (bv_some (by omega)) (by omega) hj2) ?_
        refine ra_next 6 127 (by decide +kernel) ?_
        refine next_loud rfl (by rfl) (lo_callFQ call73 (by rfl) (fun w hw => turn_c _ (hashS_len _ _) _ (chunk (padS l 8) j) (chunk_len hj1) w (chunk_src (SrcE.src (by repeat constructor)) hj2 w hw)) ⟨(fun _ => (by repeat constructor)), ?_⟩)
        refine ra_next 7 255 (by decide +kernel) ?_
        refine next_loud rfl (by rfl) (lo_storeV (vs := _) (by rfl) (by rfl) (by rfl) (by repeat constructor) sizeOf107 (by first | (simp only [u8s_len, u32s_len, i64s_len, List.length_replicate, List.length_set, outS_len, hashS_len, turnS_len, *]; done) | rfl) (one_u32s _) (by first | (simp only [u8s_len, u32s_len, i64s_len, List.length_replicate, List.length_set, outS_len, hashS_len, turnS_len, *]; done) | rfl) ⟨(fun hlt => absurd hlt (by decide +kernel)), ?_⟩)
        refine ra_end (by decide +kernel) ?_
        rw [← hashS_succ]
        refine t_region ?_
        refine rg_pure (by rfl) (by rfl) (pu_moveE (v := .int .i64 _) (by rfl)) ?_
        refine rg_pure (by rfl) (by rfl) (pu_add64 (by rfl) (by rfl) (by omega)) ?_
        refine rg_pure (by rfl) (by rfl) (pu_assignE (v := .int .i64 _) (by rfl)) ?_
        refine rg_nil ?_
        exact ⟨j + 1, (by show j + 1 ≤ _; omega), (by show (padS l 8).length / 64 - (j + 1) < (padS l 8).length / 64 - j; omega), (agree_cons (by rfl) (agree_cons (by rfl) (agree_cons (by rfl) (agree_cons (by rfl) (agree_cons (by show Value.int .i64 _ = _; rfl) agree_nil))))), (by repeat constructor)⟩
      ·
        have hj1 : j = (padS l 8).length / 64 := by rw [hpl] at hj ⊢; simp at hc2; simp only [padN] at *; omega
        subst hj1
        refine t_exit ?_
        refine t_seq_region ?_
        refine rg_loud (by rfl) (lo_alloc (cs := u8s (List.replicate 32 0)) (by rfl) zeroValue47 (by rfl) (fun b8 hb8 => ?_))
        refine rg_nil ?_
        generalize hH : hashS (padS l 8) ((padS l 8).length / 64) = hh
        have hhl : hh.length = 8 := by rw [← hH]; exact hashS_len _ _
        refine t_seq ?_
        refine t_seq_region ?_
        refine rg_pure (by rfl) (by rfl) (pu_loadAll (by rfl) isAgg107 sizeOf107 (HasE.has (by repeat constructor)) (by first | (simp only [u8s_len, u32s_len, i64s_len, List.length_replicate, List.length_set, outS_len, hashS_len, turnS_len, *]; done) | rfl)) ?_
        refine rg_pure (by rfl) (by rfl) (pu_moveE (v := .int .i64 _) (by rfl)) ?_
        refine rg_nil ?_
        refine t_block ?_
        refine t_loop (σ := Nat) (fun i => [(mkS, marksV []), (2, .pointer (some ⟨b0, 0, none⟩)), (7, .pointer (some ⟨b8, 0, none⟩)), (53, .agg (u32s hh).toArray), (54, .int .i64 (i : Int))]) (fun i => [.own b8 47 (u8s (outS hh (4 * i))), .own b0 47 (u8s (List.replicate 32 0))]) (fun i => i ≤ 8) (fun i => 8 - i) 0 (Nat.zero_le _) (by repeat (first | exact agree_nil | refine agree_cons (by rfl) ?_)) (by simp only [Nat.mul_zero, outS_zero]; repeat constructor) (fun i g hi => ?_)
        refine t_seq_region ?_
        refine rg_pure (by rfl) (by rfl) (pu_lss (by rfl) (by rfl)) ?_
        refine rg_nil ?_
        refine t_seq ?_
        refine t_cond (by rfl) (fun hc3 => ?_) (fun hc3 => ?_)
        ·
          have hi1 : i < 8 := by simp at hc3; omega
          refine t_skip ?_
          refine t_seq ?_
          refine t_block ?_
          refine t_seq_region ?_
          refine rg_pure (by rfl) (by rfl) (pu_moveE (v := .int .i64 _) (by rfl)) ?_
          refine rg_pure (by rfl) (by rfl) (pu_at1 (by rfl) (by rfl) underlying107 sizeOf106 isAgg106 (by omega) (u32s_get (by rw [hhl]; omega))) ?_
          refine rg_pure (by rfl) (by rfl) (pu_assignE (v := .int .i64 _) (by rfl)) ?_
          refine rg_pure (by rfl) (by rfl) (pu_assignE (v := .int .u32 _) (by rfl)) ?_
          refine rg_nil ?_
          refine t_seq_region ?_
          refine rg_pure (by rfl) (by rfl) (pu_moveE (v := .int .i64 _) (by rfl)) ?_
          refine rg_nil ?_
          refine t_block ?_
          refine t_loop (σ := Nat) (fun q => [(mkS, marksV []), (2, .pointer (some ⟨b0, 0, none⟩)), (7, .pointer (some ⟨b8, 0, none⟩)), (53, .agg (u32s hh).toArray), (54, .int .i64 (i : Int)), (8, .int .i64 (i : Int)), (9, .int .u32 (hh.getD i 0)), (58, .int .i64 (q : Int))]) (fun q => [.own b8 47 (u8s (outS hh (4 * i + q))), .own b0 47 (u8s (List.replicate 32 0))]) (fun q => q ≤ 4) (fun q => 4 - q) 0 (Nat.zero_le _) (by repeat (first | exact agree_nil | refine agree_cons (by rfl) ?_)) (by repeat constructor) (fun q g hq => ?_)
          refine t_seq_region ?_
          refine rg_pure (by rfl) (by rfl) (pu_lss (by rfl) (by rfl)) ?_
          refine rg_nil ?_
          refine t_seq ?_
          refine t_cond (by rfl) (fun hc4 => ?_) (fun hc4 => ?_)
          ·
            have hq1 : q < 4 := by simp at hc4; omega
            have hol := outS_len hh (4 * i + q)
            refine t_skip ?_
            refine t_seq ?_
            refine t_block ?_
            refine t_seq_region ?_
            refine rg_pure (by rfl) (by rfl) (pu_moveE (v := .int .i64 _) (by rfl)) ?_
            refine rg_pure (by rfl) (by rfl) (pu_assignE (v := .int .i64 _) (by rfl)) ?_
            refine rg_nil ?_
            refine t_region ?_
            refine rg_pure (by rfl) (by rfl) (pu_moveE (v := .int .i64 _) (by rfl)) ?_
            refine rg_pure (by rfl) (by rfl) (pu_mul64 (by rfl) (by rfl) (by omega)) ?_
            refine rg_pure (by rfl) (by rfl) (pu_moveE (v := .int .i64 _) (by rfl)) ?_
            refine rg_pure (by rfl) (by rfl) (pu_add64 (by rfl) (by rfl) (by omega)) ?_
            refine rg_pure (by rfl) (by rfl) (pu_moveE (v := .int .u32 _) (by rfl)) ?_
            refine rg_pure (by rfl) (by rfl) (pu_moveE (v := .int .i64 _) (by rfl)) ?_
            refine rg_pure (by rfl) (by rfl) (pu_mul64 (by rfl) (by rfl) (by omega)) ?_
            refine rg_pure (by rfl) (by rfl) (pu_sub64 (by rfl) (by rfl) (by omega)) ?_
            refine rg_pure (by rfl) (by rfl) (pu_shr (by rfl) (by rfl) (by omega)) ?_
            refine rg_pure (by rfl) (by rfl) (pu_conv (by rfl) underlying106 underlying5 (by rfl)) ?_
            refine rg_pure (by rfl) (by rfl) (pu_indexArr1 (by rfl) (by rfl) underlying47 sizeOf5 (by omega)) ?_
            refine rg_loud (by rfl) (lo_store1E (v := .int .u8 _) (cs' := u8s (outS hh (4 * i + q + 1))) (by rfl) (by rfl) (by rfl) (by repeat constructor) sizeOf5 (by rfl) (by rw [u8s_len, hol]; omega) (by rw [outS_succ, u8s_set, byteS, show (4 * (i : Int) + (q : Int)).toNat = 4 * i + q by omega, show (4 * i + q) / 4 = i by omega, show (4 * i + q) % 4 = q by omega]) ?_)
            refine rg_nil ?_
            refine t_region ?_
            refine rg_pure (by rfl) (by rfl) (pu_add64 (by rfl) (by rfl) (by omega)) ?_
            refine rg_pure (by rfl) (by rfl) (pu_moveE (v := .int .i64 _) (by rfl)) ?_
            refine rg_nil ?_
            exact ⟨q + 1, (by show q + 1 ≤ 4; omega), (by show 4 - (q + 1) < 4 - q; omega), (by repeat (first | exact agree_nil | refine agree_cons (by rfl) ?_)), (by repeat constructor)⟩
          ·
            have hq1 : q = 4 := by simp at hc4; omega
            subst hq1
            refine t_exit ?_
            refine t_region ?_
            refine rg_pure (by rfl) (by rfl) (pu_add64 (by rfl) (by rfl) (by omega)) ?_
            refine rg_pure (by rfl) (by rfl) (pu_moveE (v := .int .i64 _) (by rfl)) ?_
            refine rg_nil ?_
            exact ⟨i + 1, (by show i + 1 ≤ 8; omega), (by show 8 - (i + 1) < 8 - i; omega), (by repeat (first | exact agree_nil | refine agree_cons (by rfl) ?_)), (by repeat constructor)⟩
        ·
          have hi1 : i = 8 := by simp at hc3; omega
          subst hi1
          have hol := outS_len hh (4 * 8)
          refine t_exit ?_
          refine t_seq_region ?_
          refine rg_pure (by rfl) (by rfl) (pu_loadAll (by rfl) isAgg47 sizeOf47 (HasE.has (by repeat constructor)) (by first | (simp only [u8s_len, u32s_len, i64s_len, List.length_replicate, List.length_set, outS_len, hashS_len, turnS_len, *]; done) | rfl)) ?_
          refine rg_loud (by rfl) (lo_storeV (vs := _) (by rfl) (by rfl) (by rfl) (by repeat constructor) sizeOf47 (by first | (simp only [u8s_len, u32s_len, i64s_len, List.length_replicate, List.length_set, outS_len, hashS_len, turnS_len, *]; done) | rfl) (one_u8s _) (by first | (simp only [u8s_len, u32s_len, i64s_len, List.length_replicate, List.length_set, outS_len, hashS_len, turnS_len, *]; done) | rfl) ?_)
          refine rg_nil ?_
          refine t_ret ?_
          exact Fin.ret (res1 rfl (ResV.cellA (cs := _) (by rfl) isAgg47 sizeOf47 (HasE.has (by repeat constructor)) (by first | (simp only [u8s_len, u32s_len, i64s_len, List.length_replicate, List.length_set, outS_len, hashS_len, turnS_len, *]; done) | rfl))) (by rw [sumS, hH])
end Go.Proofs.Ytpoecjeknolnoaa
