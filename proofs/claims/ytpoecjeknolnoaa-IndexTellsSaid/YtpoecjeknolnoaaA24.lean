/- Walks of functions that the statements of this seat reach: what each one hands back. Conditions: those that each theorem names. -/
import Derived.Test.YtpoecjeknolnoaaA23
import Derived.Test.YtpoecjeknolnoaaProg
import Derived.KernelRfl
namespace Go.Proofs.Ytpoecjeknolnoaa
open Go.RowKit Go.Proofs.HL Go.Proofs.Try
set_option maxRecDepth 10000
set_option linter.unusedSimpArgs false
set_option linter.unusedVariables false
attribute [local irreducible] T RG RA Pu Lo
theorem elemOk23 : ElemOk prog 23 3 1 8 := ⟨rfl, ⟨_, _, rfl, rfl, rfl, rfl, rfl⟩, by decide⟩
theorem KeysOk.take {l : List En} (h : KeysOk l) (k : Nat) : KeysOk (l.take k) := fun e he => h e (List.mem_of_mem_take he)
theorem unpack_all {l : List En} (hk : KeysOk l) (hg : goodI l = true) : unpackS (leavesS l) = (l, 0) := by
  have h := unpack_leaves hk hg (k := (l.length + 2) / 3) (Nat.le_refl _)
  rwa [List.take_of_length_le (by rw [leavesS_len]; omega), List.take_of_length_le (by omega)] at h
theorem leaves_cut {l : List En} (hk : KeysOk l) (p : List Int) {k : Nat} (h : k ≤ (l.length + 2) / 3) : ((encBs (leavesS l ++ [(rootS p).1])).drop (0 * 128)).take ((k - 0) * 128) = encBs ((leavesS l).take k) := by
  rw [Nat.zero_mul, List.drop_zero, Nat.sub_zero, encBs_take k (leavesR_ok hk p), List.take_append_of_le_length (by rw [leavesS_len]; exact h)]
theorem leaves_root (l : List En) (hk : KeysOk l) (p : List Int) : ((encBs (leavesS l ++ [(rootS p).1])).drop ((l.length + 2) / 3 * 128)).take 128 = u8s (rootS p).1 := by
  have h := encBs_at (leavesR_ok hk p) (i := (l.length + 2) / 3) (by simp [leavesS_len])
  rw [h]
  congr 1
  rw [List.getD_eq_getElem?_getD, List.getElem?_append_right (by rw [leavesS_len]; exact Nat.le_refl _), leavesS_len, Nat.sub_self]
  rfl
theorem leavesS_sub {l : List En} (hk : KeysOk l) (k : Nat) : BsOk ((leavesS l).take k) := fun b hb => leavesS_ok hk b (List.mem_of_mem_take hb)
theorem back_c (v : Value) (l : List En) (hk : KeysOk l) (x y : Int) (hx : 0 ≤ x ∧ x < 256) (hy : 0 ≤ y ∧ y < 256) (w : World) (hv : Sl w v 35 l.length (encEs l)) : Gives prog 4 [v, .agg (u8s [x, y]).toArray].toArray w (.bool true) := by
  have hb := hv.len
  refine gives_of_T func4 rfl 168 rfl rfl rfl [.sl v 35 l.length (encEs l)] ((holds0 w).addSl hv (by decide)) ?_
  refine t_seq_region ?_
  refine rg_loud (by rfl) (lo_boxA (by rfl) (by rfl) (fun b0 hb0 => ?_))
  refine rg_pure (by rfl) (by rfl) (pu_assignE (v := .bool _) (by rfl)) ?_
  refine rg_nil ?_
  refine t_seq ?_
  refine t_seq_region ?_
  refine rg_pure (by rfl) (by rfl) (pu_moveE (v := v) (by rfl)) ?_
  refine rg_loud (by rfl) (lo_callFQ call13 (by rfl) (fun w hw => refGood_c v l hk w ((SrcE.src (by repeat constructor)) w hw)) ?_)
  refine rg_pure (by rfl) (by rfl) (pu_not (by rfl)) ?_
  refine rg_pure (by rfl) (by rfl) (pu_moveE (v := .bool _) (by rfl)) ?_
  refine rg_gpure (by rfl) (by rfl) (by rfl) (by rfl) (fun hg => pu_moveE (v := v) (by rfl)) ?_
  refine rg_gpure (by rfl) (by rfl) (by rfl) (by rfl) (fun hg => pu_len (gvE hg (by rfl)) (SrcE.src (by repeat constructor)) (by rfl) underlying22) ?_
  refine rg_gpure (by rfl) (by rfl) (by rfl) (by rfl) (fun hg => pu_eql (gvE hg (by rfl)) (by rfl)) ?_
  refine rg_pure (by rfl) (by rfl) (pu_pickOr (by rfl) (by rfl)) ?_
  refine rg_nil ?_
  refine t_cond (by rfl) (fun hc0 => ?_) (fun hc0 => ?_)
  ·
    refine t_seq_region ?_
    refine rg_loud (by rfl) (lo_callFQ call7 (by rfl) (fun w hw => wakes_c w) ?_)
    refine rg_pure (by rfl) (by rfl) (pu_assignE (v := .bool _) (by rfl)) ?_
    refine rg_nil ?_
    refine t_ret ?_
    exact Fin.ret (res1 rfl .tmp) (by rfl)
  ·
    have hgood : refGood l = true := by cases hx : refGood l with | true => rfl | false => rw [hx] at hc0; simp at hc0
    have hl0 : 0 < l.length := by rw [hgood] at hc0; simp at hc0; rcases Nat.eq_zero_or_pos l.length with h | h; rw [List.length_eq_zero_iff.1 h] at hc0; simp at hc0; exact h
    have hP := (refGood_iff l).1 hgood
    have hgI := (goodI_iff l).2 hP
    have hlen := goodP_len hP
    have hsz := size_eq hl0
    have hlA : ∀ z : List Int, (leavesS l ++ [z]).length = ((l.length + 2) / 3 + 1) := fun z => by rw [List.length_append, leavesS_len]; rfl
    refine t_skip ?_
    refine t_seq_region ?_
    refine rg_pure (by rfl) (by rfl) (pu_moveE (v := v) (by rfl)) ?_
    refine rg_pure (by rfl) (by rfl) (pu_len (by rfl) (SrcE.src (by repeat constructor)) (by rfl) underlying22) ?_
    refine rg_loud (by rfl) (lo_callFQ call17 (by rfl) (fun w hw => rsize_c _ (by omega) w) ?_)
    refine rg_pure (by rfl) (by rfl) (pu_assignE (v := .int .i64 (((l.length + 2) / 3 + 1 : Nat) : Int)) (by show Value.int .i64 (sizeS (l.length : Int)) = _; rw [hsz])) ?_
    refine rg_nil ?_
    refine t_seq ?_
    refine t_seq_region ?_
    refine rg_pure (by rfl) (by rfl) (pu_moveE (v := v) (by rfl)) ?_
    refine rg_pure (by rfl) (by rfl) (pu_len (by rfl) (SrcE.src (by repeat constructor)) (by rfl) underlying22) ?_
    refine rg_loud (by rfl) (lo_callFQ call16 (by rfl) (fun w hw => size_c _ (by omega) w) ?_)
    refine rg_pure (by rfl) (by rfl) (pu_moveE (v := .int .i64 _) (by rfl)) ?_
    refine rg_pure (by rfl) (by rfl) (pu_neq (by rfl) (by rfl)) ?_
    refine rg_nil ?_
    refine t_cond (by rfl) (fun hc1 => ?_) (fun hc1 => ?_)
    ·
      exfalso; rw [hsz] at hc1; simp at hc1
    ·
      refine t_skip ?_
      refine t_seq_region ?_
      refine rg_pure (by rfl) (by rfl) (pu_assign) ?_
      refine rg_pure (by rfl) (by rfl) (pu_assign) ?_
      refine rg_nil ?_
      refine t_seq ?_
      refine t_seq_region ?_
      refine rg_pure (by rfl) (by rfl) (pu_assignE (v := .int .i64 _) (by rfl)) ?_
      refine rg_nil ?_
      refine t_row_nil 3 1 ?_
      refine t_row_nil 3 1 ?_
      refine t_block ?_
      refine t_loop (σ := Nat × Value × Value) (fun s => [(mkS, marksV []), (0, v), (3, .pointer (some ⟨b0, 0, none⟩)), (5, .int .i64 (((l.length + 2) / 3 + 1 : Nat) : Int)), (6, s.2.1), (7, s.2.2), (8, .int .i64 (s.1 : Int))]) (fun s => [.row 3 1 s.2.1 s.1 (i64s (plS x s.1)), .row 3 1 s.2.2 s.1 (i64s (plS y s.1)), .own b0 41 (u8s [x, y]), .sl v 35 l.length (encEs l)]) (fun s => s.1 ≤ ((l.length + 2) / 3 + 1)) (fun s => ((l.length + 2) / 3 + 1) - s.1) ((0, .slice none 0 0, .slice none 0 0) : Nat × Value × Value) (Nat.zero_le _) (by repeat (first | exact agree_nil | refine agree_cons (by rfl) ?_)) (by repeat constructor) (fun s g hk2 => ?_)
      obtain ⟨k, vp, vq⟩ := s
      simp only at hk2 ⊢
      refine t_seq ?_
      refine t_seq_region ?_
      refine rg_pure (by rfl) (by rfl) (pu_moveE (v := .int .i64 _) (by rfl)) ?_
      refine rg_pure (by rfl) (by rfl) (pu_moveE (v := .int .i64 _) (by rfl)) ?_
      refine rg_pure (by rfl) (by rfl) (pu_lss (by rfl) (by rfl)) ?_
      refine rg_nil ?_
      refine t_cond (by rfl) (fun hc2 => ?_) (fun hc2 => ?_)
      ·
        have hk1 : k < ((l.length + 2) / 3 + 1) := by simp at hc2; omega
        refine t_skip ?_
        refine t_seq ?_
        refine t_block ?_
        refine t_region_draw 22 22 [.own b0 41 (u8s [x, y])] mixed (by repeat constructor) (by rfl) (by decide +kernel) ?_
        refine ra_pure0 0 1 rfl (by rfl) (by decide +kernel) (by rfl) (pu_moveE (v := vp) (by rfl)) ?_
        refine ra_pure0 1 3 rfl (by rfl) (by decide +kernel) (by rfl) (pu_indexArr1 (by rfl) (by rfl) underlying41 sizeOf5 (by omega)) ?_
        refine ra_pure 2 7 rfl (by rfl) (by decide +kernel) (by rfl) (pu_load1 (v := .int .u8 x) (by rfl) isAgg5 (HasE.has (by repeat constructor)) (by rfl)) ?_
        refine ra_pure0 3 15 rfl (by rfl) (by decide +kernel) (by rfl) (pu_conv (b := x) (by rfl) underlying5 underlying3 (wraps_i64 x hx.1 (by omega))) ?_
        refine ra_pure0 4 31 rfl (by rfl) (by decide +kernel) (by rfl) (pu_moveE (v := .int .i64 _) (by rfl)) ?_
        refine ra_pure0 5 63 rfl (by rfl) (by decide +kernel) (by rfl) (pu_add64 (by rfl) (by rfl) (by omega)) ?_
        refine ra_pure0 6 127 rfl (by rfl) (by decide +kernel) (by rfl) (pu_rem64 (by rfl) (by rfl) (by omega)) ?_
        refine ra_pure0 7 255 rfl (by rfl) (by decide +kernel) (by rfl) (pu_add64 (by rfl) (by rfl) (by omega)) ?_
        refine ra_pure0 10 1279 rfl (by rfl) (by decide +kernel) (by rfl) (pu_moveE (v := vq) (by rfl)) ?_
        refine ra_pure0 11 3327 rfl (by rfl) (by decide +kernel) (by rfl) (pu_indexArr1 (by rfl) (by rfl) underlying41 sizeOf5 (by omega)) ?_
        refine ra_pure 12 7423 rfl (by rfl) (by decide +kernel) (by rfl) (pu_load1 (v := .int .u8 y) (by rfl) isAgg5 (HasE.has (by repeat constructor)) (by rfl)) ?_
        refine ra_pure0 13 15615 rfl (by rfl) (by decide +kernel) (by rfl) (pu_conv (b := y) (by rfl) underlying5 underlying3 (wraps_i64 y hy.1 (by omega))) ?_
        refine ra_pure0 14 31999 rfl (by rfl) (by decide +kernel) (by rfl) (pu_moveE (v := .int .i64 _) (by rfl)) ?_
        refine ra_pure0 15 64767 rfl (by rfl) (by decide +kernel) (by rfl) (pu_add64 (by rfl) (by rfl) (by omega)) ?_
        refine ra_pure0 16 130303 rfl (by rfl) (by decide +kernel) (by rfl) (pu_rem64 (by rfl) (by rfl) (by omega)) ?_
        refine ra_pure0 17 261375 rfl (by rfl) (by decide +kernel) (by rfl) (pu_add64 (by rfl) (by rfl) (by omega)) ?_
        refine ra_next2 8 18 261631 523519 (by decide +kernel) ?_ ?_
        ·
          refine next_loud rfl (by rfl) (lo_buildRow1 (cs := i64s [2 + (x + (k : Int)) % 126]) (by rfl) underlying23 sizeOf3 (by decide) zeroValue3 (by rfl) (by kernel_rfl) (by rfl) (fun b1 hb1 => ⟨(fun _ => (by repeat constructor)), ?_⟩))
          refine ra_next2 9 18 262143 523775 (by decide +kernel) ?_ ?_
          ·
            refine next_loud rfl (by rfl) (lo_appendE (xs' := i64s (plS x (k + 1))) (k' := k + 1) elemOk23 (by rfl) (by rfl) (by rfl) (by repeat constructor) (SrcE.src (by repeat constructor)) (one_i64s _) (by omega) (by rfl) (by rw [plS_succ]; simp [i64s]) (fun v2 => ⟨(fun _ => (by repeat constructor)), ?_⟩))
            refine ra_next 18 524287 (by decide +kernel) ?_
            refine next_loud rfl (by rfl) (lo_buildRow1 (cs := i64s [2 + (y + (k : Int)) % 126]) (by rfl) underlying23 sizeOf3 (by decide) zeroValue3 (by rfl) (by kernel_rfl) (by rfl) (fun b3 hb3 => ⟨(fun _ => (by repeat constructor)), ?_⟩))
            refine ra_next 19 1048575 (by decide +kernel) ?_
            refine next_loud rfl (by rfl) (lo_appendE (xs' := i64s (plS y (k + 1))) (k' := k + 1) elemOk23 (by rfl) (by rfl) (by rfl) (by repeat constructor) (SrcE.src (by repeat constructor)) (one_i64s _) (by omega) (by rfl) (by rw [plS_succ]; simp [i64s]) (fun v4 => ⟨(fun _ => (by repeat constructor)), ?_⟩))
            refine ra_pure0 20 2097151 rfl (by rfl) (by decide +kernel) (by rfl) (pu_assignE (v := v2) (by rfl)) ?_
            refine ra_pure0 21 4194303 rfl (by rfl) (by decide +kernel) (by rfl) (pu_assignE (v := v4) (by rfl)) ?_
            refine ra_end (by decide +kernel) ?_
            refine t_region ?_
            refine rg_pure (by rfl) (by rfl) (pu_moveE (v := .int .i64 _) (by rfl)) ?_
            refine rg_pure (by rfl) (by rfl) (pu_add64 (by rfl) (by rfl) (by omega)) ?_
            refine rg_pure (by rfl) (by rfl) (pu_assignE (v := .int .i64 _) (by rfl)) ?_
            refine rg_nil ?_
            exact ⟨(k + 1, _, _), hk1, by show ((l.length + 2) / 3 + 1) - (k + 1) < ((l.length + 2) / 3 + 1) - k; omega, (by repeat (first | exact agree_nil | refine agree_cons (by rfl) ?_)), by repeat constructor⟩
          ·
            refine next_loud rfl (by rfl) (lo_buildRow1 (cs := i64s [2 + (y + (k : Int)) % 126]) (by rfl) underlying23 sizeOf3 (by decide) zeroValue3 (by rfl) (by kernel_rfl) (by rfl) (fun b3 hb3 => ⟨(fun _ => (by repeat constructor)), ?_⟩))
            refine ra_next 9 524287 (by decide +kernel) ?_
            refine next_loud rfl (by rfl) (lo_appendE (xs' := i64s (plS x (k + 1))) (k' := k + 1) elemOk23 (by rfl) (by rfl) (by rfl) (by repeat constructor) (SrcE.src (by repeat constructor)) (one_i64s _) (by omega) (by rfl) (by rw [plS_succ]; simp [i64s]) (fun v2 => ⟨(fun _ => (by repeat constructor)), ?_⟩))
            refine ra_next 19 1048575 (by decide +kernel) ?_
            refine next_loud rfl (by rfl) (lo_appendE (xs' := i64s (plS y (k + 1))) (k' := k + 1) elemOk23 (by rfl) (by rfl) (by rfl) (by repeat constructor) (SrcE.src (by repeat constructor)) (one_i64s _) (by omega) (by rfl) (by rw [plS_succ]; simp [i64s]) (fun v4 => ⟨(fun _ => (by repeat constructor)), ?_⟩))
            refine ra_pure0 20 2097151 rfl (by rfl) (by decide +kernel) (by rfl) (pu_assignE (v := v2) (by rfl)) ?_
            refine ra_pure0 21 4194303 rfl (by rfl) (by decide +kernel) (by rfl) (pu_assignE (v := v4) (by rfl)) ?_
            refine ra_end (by decide +kernel) ?_
            refine t_region ?_
            refine rg_pure (by rfl) (by rfl) (pu_moveE (v := .int .i64 _) (by rfl)) ?_
            refine rg_pure (by rfl) (by rfl) (pu_add64 (by rfl) (by rfl) (by omega)) ?_
            refine rg_pure (by rfl) (by rfl) (pu_assignE (v := .int .i64 _) (by rfl)) ?_
            refine rg_nil ?_
            exact ⟨(k + 1, _, _), hk1, by show ((l.length + 2) / 3 + 1) - (k + 1) < ((l.length + 2) / 3 + 1) - k; omega, (by repeat (first | exact agree_nil | refine agree_cons (by rfl) ?_)), by repeat constructor⟩
        ·
          refine next_loud rfl (by rfl) (lo_buildRow1 (cs := i64s [2 + (y + (k : Int)) % 126]) (by rfl) underlying23 sizeOf3 (by decide) zeroValue3 (by rfl) (by kernel_rfl) (by rfl) (fun b3 hb3 => ⟨(fun _ => (by repeat constructor)), ?_⟩))
          refine ra_next 8 523775 (by decide +kernel) ?_
          refine next_loud rfl (by rfl) (lo_buildRow1 (cs := i64s [2 + (x + (k : Int)) % 126]) (by rfl) underlying23 sizeOf3 (by decide) zeroValue3 (by rfl) (by kernel_rfl) (by rfl) (fun b1 hb1 => ⟨(fun _ => (by repeat constructor)), ?_⟩))
          refine ra_next 9 524287 (by decide +kernel) ?_
          refine next_loud rfl (by rfl) (lo_appendE (xs' := i64s (plS x (k + 1))) (k' := k + 1) elemOk23 (by rfl) (by rfl) (by rfl) (by repeat constructor) (SrcE.src (by repeat constructor)) (one_i64s _) (by omega) (by rfl) (by rw [plS_succ]; simp [i64s]) (fun v2 => ⟨(fun _ => (by repeat constructor)), ?_⟩))
          refine ra_next 19 1048575 (by decide +kernel) ?_
          refine next_loud rfl (by rfl) (lo_appendE (xs' := i64s (plS y (k + 1))) (k' := k + 1) elemOk23 (by rfl) (by rfl) (by rfl) (by repeat constructor) (SrcE.src (by repeat constructor)) (one_i64s _) (by omega) (by rfl) (by rw [plS_succ]; simp [i64s]) (fun v4 => ⟨(fun _ => (by repeat constructor)), ?_⟩))
          refine ra_pure0 20 2097151 rfl (by rfl) (by decide +kernel) (by rfl) (pu_assignE (v := v2) (by rfl)) ?_
          refine ra_pure0 21 4194303 rfl (by rfl) (by decide +kernel) (by rfl) (pu_assignE (v := v4) (by rfl)) ?_
          refine ra_end (by decide +kernel) ?_
          refine t_region ?_
          refine rg_pure (by rfl) (by rfl) (pu_moveE (v := .int .i64 _) (by rfl)) ?_
          refine rg_pure (by rfl) (by rfl) (pu_add64 (by rfl) (by rfl) (by omega)) ?_
          refine rg_pure (by rfl) (by rfl) (pu_assignE (v := .int .i64 _) (by rfl)) ?_
          refine rg_nil ?_
          exact ⟨(k + 1, _, _), hk1, by show ((l.length + 2) / 3 + 1) - (k + 1) < ((l.length + 2) / 3 + 1) - k; omega, (by repeat (first | exact agree_nil | refine agree_cons (by rfl) ?_)), by repeat constructor⟩
      ·
        have hk1 : k = ((l.length + 2) / 3 + 1) := by simp at hc2; omega
        subst hk1
        refine t_exit ?_
        refine t_seq_region ?_
        refine rg_pure (by rfl) (by rfl) (pu_moveE (v := v) (by rfl)) ?_
        refine rg_pure (by rfl) (by rfl) (pu_moveE (v := vp) (by rfl)) ?_
        refine rg_loud (by rfl) (lo_callF (fun _ : Value => True) (fun i => .tuple #[i, .int .i64 0]) (fun i => [.row 43 128 i ((l.length + 2) / 3 + 1) (encBs (leavesS l ++ [(rootS (plS x ((l.length + 2) / 3))).1]))]) call8 (by rfl) (fun w hw => by have := pack_c v vp l (plS x ((l.length + 2) / 3 + 1)) (by omega) hk w ((SrcE.src (by repeat constructor)) w hw) (((SrcE.src (by repeat constructor)).to (plS_len _ _).symm rfl) w hw); simp only [pack_good hgI hl0, hlA] at this; exact this) (fun va _ => ?_))
        refine rg_pure (by rfl) (by rfl) (pu_move) ?_
        refine rg_pure (by rfl) (by rfl) (pu_extract (by rfl) (by rfl)) ?_
        refine rg_pure (by rfl) (by rfl) (pu_extract (by rfl) (by rfl)) ?_
        refine rg_pure (by rfl) (by rfl) (pu_assignE (v := va) (by rfl)) ?_
        refine rg_pure (by rfl) (by rfl) (pu_assignE (v := .int .i64 _) (by rfl)) ?_
        refine rg_nil ?_
        refine t_seq_region ?_
        refine rg_pure (by rfl) (by rfl) (pu_moveE (v := v) (by rfl)) ?_
        refine rg_pure (by rfl) (by rfl) (pu_moveE (v := vq) (by rfl)) ?_
        refine rg_loud (by rfl) (lo_callF (fun _ : Value => True) (fun i => .tuple #[i, .int .i64 0]) (fun i => [.row 43 128 i ((l.length + 2) / 3 + 1) (encBs (leavesS l ++ [(rootS (plS y ((l.length + 2) / 3))).1]))]) call8 (by rfl) (fun w hw => by have := pack_c v vq l (plS y ((l.length + 2) / 3 + 1)) (by omega) hk w ((SrcE.src (by repeat constructor)) w hw) (((SrcE.src (by repeat constructor)).to (plS_len _ _).symm rfl) w hw); simp only [pack_good hgI hl0, hlA] at this; exact this) (fun vb _ => ?_))
        refine rg_pure (by rfl) (by rfl) (pu_move) ?_
        refine rg_pure (by rfl) (by rfl) (pu_extract (by rfl) (by rfl)) ?_
        refine rg_pure (by rfl) (by rfl) (pu_extract (by rfl) (by rfl)) ?_
        refine rg_pure (by rfl) (by rfl) (pu_assignE (v := vb) (by rfl)) ?_
        refine rg_pure (by rfl) (by rfl) (pu_assignE (v := .int .i64 _) (by rfl)) ?_
        refine rg_nil ?_
        refine t_seq ?_
        refine t_seq_region ?_
        refine rg_pure (by rfl) (by rfl) (pu_moveE (v := .int .i64 _) (by rfl)) ?_
        refine rg_pure (by rfl) (by rfl) (pu_gtr (by rfl) (by rfl)) ?_
        refine rg_nil ?_
        refine t_cond (by rfl) (fun hc3 => ?_) (fun hc3 => ?_)
        ·
          refine t_seq_region ?_
          refine rg_loud (by rfl) (lo_callFQ call7 (by rfl) (fun w hw => wakes_c w) ?_)
          refine rg_pure (by rfl) (by rfl) (pu_assignE (v := .bool _) (by rfl)) ?_
          refine rg_nil ?_
          refine t_ret ?_
          exact Fin.ret (res1 rfl .tmp) (by rfl)
        ·
          refine t_skip ?_
          refine t_seq ?_
          refine t_seq_region ?_
          refine rg_pure (by rfl) (by rfl) (pu_moveE (v := .int .i64 _) (by rfl)) ?_
          refine rg_pure (by rfl) (by rfl) (pu_neq (by rfl) (by rfl)) ?_
          refine rg_pure (by rfl) (by rfl) (pu_moveE (v := .bool _) (by rfl)) ?_
          refine rg_gpure (by rfl) (by rfl) (by rfl) (by rfl) (fun hg => pu_moveE (v := .int .i64 _) (by rfl)) ?_
          refine rg_gpure (by rfl) (by rfl) (by rfl) (by rfl) (fun hg => pu_neq (gvE hg (by rfl)) (by rfl)) ?_
          refine rg_pure (by rfl) (by rfl) (pu_pickOr (by rfl) (by rfl)) ?_
          refine rg_pure (by rfl) (by rfl) (pu_moveE (v := .bool _) (by rfl)) ?_
          refine rg_gpure (by rfl) (by rfl) (by rfl) (by rfl) (fun hg => pu_moveE (v := va) (by rfl)) ?_
          refine rg_gpure (by rfl) (by rfl) (by rfl) (by rfl) (fun hg => pu_len (gvE hg (by rfl)) (SrcE.src (by repeat constructor)) (by rfl) underlying24) ?_
          refine rg_gpure (by rfl) (by rfl) (by rfl) (by rfl) (fun hg => pu_moveE (v := .int .i64 _) (by rfl)) ?_
          refine rg_gpure (by rfl) (by rfl) (by rfl) (by rfl) (fun hg => pu_neq (gvE hg (by rfl)) (gvE hg (by rfl))) ?_
          refine rg_pure (by rfl) (by rfl) (pu_pickOr (by rfl) (by rfl)) ?_
          refine rg_pure (by rfl) (by rfl) (pu_moveE (v := .bool _) (by rfl)) ?_
          refine rg_gpure (by rfl) (by rfl) (by rfl) (by rfl) (fun hg => pu_moveE (v := vb) (by rfl)) ?_
          refine rg_gpure (by rfl) (by rfl) (by rfl) (by rfl) (fun hg => pu_len (gvE hg (by rfl)) (SrcE.src (by repeat constructor)) (by rfl) underlying24) ?_
          refine rg_gpure (by rfl) (by rfl) (by rfl) (by rfl) (fun hg => pu_moveE (v := .int .i64 _) (by rfl)) ?_
          refine rg_gpure (by rfl) (by rfl) (by rfl) (by rfl) (fun hg => pu_neq (gvE hg (by rfl)) (gvE hg (by rfl))) ?_
          refine rg_pure (by rfl) (by rfl) (pu_pickOr (by rfl) (by rfl)) ?_
          refine rg_nil ?_
          refine t_cond (by rfl) (fun hc4 => ?_) (fun hc4 => ?_)
          ·
            exfalso; simp at hc4
          ·
            refine t_skip ?_
            refine t_seq_region ?_
            refine rg_pure (by rfl) (by rfl) (pu_moveE (v := va) (by rfl)) ?_
            refine rg_pure (by rfl) (by rfl) (pu_moveE (v := .int .i64 _) (by rfl)) ?_
            refine rg_pure (by rfl) (by rfl) (pu_sub64 (by rfl) (by rfl) (by omega)) ?_
            refine rg_pure (by rfl) (by rfl) (pu_slice (l := 0) (h := ((l.length + 2) / 3)) (by rfl) (SrcE.src (by repeat constructor)) underlying24 sizeOf43 bv_none (bv_some (by omega)) (Nat.zero_le _) (by omega)) ?_
            refine rg_loud (by rfl) (lo_callF (fun _ : Value => True) (fun i => .tuple #[i, .int .i64 0]) (fun i => [.row 49 35 i l.length (encEs l)]) call10 (by rfl) (fun w hw => by have := unpack_c (slV 128 va 0 ((l.length + 2) / 3)) ((leavesS l).take ((l.length + 2) / 3)) (by rw [List.length_take, leavesS_len]; omega) (leavesS_sub hk _) w (((src_cut (SrcE.src (by repeat constructor)) (l := 0) (h := ((l.length + 2) / 3)) (Nat.zero_le _) (by omega)).to (by rw [Nat.sub_zero, List.length_take, leavesS_len]; omega) (leaves_cut hk _ (by omega))) w hw); rw [List.take_of_length_le (by rw [leavesS_len]; omega), unpack_all hk hgI] at this; exact this) (fun vm _ => ?_))
            refine rg_pure (by rfl) (by rfl) (pu_move) ?_
            refine rg_pure (by rfl) (by rfl) (pu_extract (by rfl) (by rfl)) ?_
            refine rg_pure (by rfl) (by rfl) (pu_extract (by rfl) (by rfl)) ?_
            refine rg_pure (by rfl) (by rfl) (pu_assignE (v := vm) (by rfl)) ?_
            refine rg_pure (by rfl) (by rfl) (pu_assignE (v := .int .i64 _) (by rfl)) ?_
            refine rg_nil ?_
            refine t_seq ?_
            refine t_seq_draw 43 43 _ mixed (Sub.refl _) (by rfl) (by decide +kernel) ?_
            refine ra_pure0 0 1 rfl (by rfl) (by decide +kernel) (by rfl) (pu_moveE (v := .int .i64 _) (by rfl)) ?_
            refine ra_pure0 1 3 rfl (by rfl) (by decide +kernel) (by rfl) (pu_neq (by rfl) (by rfl)) ?_
            refine ra_pure0 2 7 rfl (by rfl) (by decide +kernel) (by rfl) (pu_moveE (v := .bool _) (by rfl)) ?_
            refine ra_gpure0 3 15 rfl (by rfl) (by rfl) (by rfl) (by decide +kernel) (by rfl) (fun hg => pu_moveE (v := vm) (by rfl)) ?_
            refine ra_gpure0 4 31 rfl (by rfl) (by rfl) (by rfl) (by decide +kernel) (by rfl) (fun hg => pu_moveE (v := v) (by rfl)) ?_
            refine ra_next 5 63 (by decide +kernel) ?_
            refine next_gcall rfl (by rfl) (by rfl) (by rfl) (by rfl) (by repeat constructor) (fun hg => lo_callFP call15 (by rfl) (fun w hw => gives_eq (args2 (gvE hg (by rfl)) (gvE hg (by rfl))) (eentries_c vm v l l hk hk w ((SrcE.src (by repeat constructor)) w hw) ((SrcE.src (by repeat constructor)) w hw)))) ?_
            refine ra_gpure0 6 127 rfl (by rfl) (by rfl) (by rfl) (by decide +kernel) (by rfl) (fun hg => pu_not (gvE hg (by rfl))) ?_
            refine ra_pure0 7 255 rfl (by rfl) (by decide +kernel) (by rfl) (pu_pickOr (by rfl) (by rfl)) ?_
            refine ra_pure0 8 511 rfl (by rfl) (by decide +kernel) (by rfl) (pu_moveE (v := .bool _) (by rfl)) ?_
            refine ra_gpure0 9 1023 rfl (by rfl) (by rfl) (by rfl) (by decide +kernel) (by rfl) (fun hg => pu_moveE (v := va) (by rfl)) ?_
            refine ra_gpure0 10 2047 rfl (by rfl) (by rfl) (by rfl) (by decide +kernel) (by rfl) (fun hg => pu_moveE (v := .int .i64 _) (by rfl)) ?_
            refine ra_gpure0 11 4095 rfl (by rfl) (by rfl) (by rfl) (by decide +kernel) (by rfl) (fun hg => pu_sub64 (gvE hg (by rfl)) (by rfl) (by omega)) ?_
            refine ra_gpure 12 8191 rfl (by rfl) (by rfl) (by rfl) (by decide +kernel) (by rfl) (fun hg => pu_slice (l := 0) (h := ((l.length + 2) / 3)) (gvE hg (by rfl)) (SrcE.src (by repeat constructor)) underlying24 sizeOf43 bv_none (bv_op (gvE hg (by rfl)) (by omega)) (Nat.zero_le _) (by omega)) ?_
            refine ra_gpure0 13 16383 rfl (by rfl) (by rfl) (by rfl) (by decide +kernel) (by rfl) (fun hg => pu_moveE (v := vb) (by rfl)) ?_
            refine ra_gpure0 14 32767 rfl (by rfl) (by rfl) (by rfl) (by decide +kernel) (by rfl) (fun hg => pu_moveE (v := .int .i64 _) (by rfl)) ?_
            refine ra_gpure0 15 65535 rfl (by rfl) (by rfl) (by rfl) (by decide +kernel) (by rfl) (fun hg => pu_sub64 (gvE hg (by rfl)) (by rfl) (by omega)) ?_
            refine ra_gpure 16 131071 rfl (by rfl) (by rfl) (by rfl) (by decide +kernel) (by rfl) (fun hg => pu_slice (l := 0) (h := ((l.length + 2) / 3)) (gvE hg (by rfl)) (SrcE.src (by repeat constructor)) underlying24 sizeOf43 bv_none (bv_op (gvE hg (by rfl)) (by omega)) (Nat.zero_le _) (by omega)) ?_
            refine ra_next 17 262143 (by decide +kernel) ?_
            refine next_gcall rfl (by rfl) (by rfl) (by rfl) (by rfl) (by repeat constructor) (fun hg => lo_callFP call14 (by rfl) (fun w hw => gives_eq (args2 (gvE hg (by rfl)) (gvE hg (by rfl))) (eblocks_c (slV 128 va 0 ((l.length + 2) / 3)) (slV 128 vb 0 ((l.length + 2) / 3)) ((leavesS l).take ((l.length + 2) / 3)) ((leavesS l).take ((l.length + 2) / 3)) (leavesS_sub hk _) (leavesS_sub hk _) w (((src_cut (SrcE.src (by repeat constructor)) (l := 0) (h := ((l.length + 2) / 3)) (Nat.zero_le _) (by omega)).to (by rw [Nat.sub_zero, List.length_take, leavesS_len]; omega) (leaves_cut hk _ (by omega))) w hw) (((src_cut (SrcE.src (by repeat constructor)) (l := 0) (h := ((l.length + 2) / 3)) (Nat.zero_le _) (by omega)).to (by rw [Nat.sub_zero, List.length_take, leavesS_len]; omega) (leaves_cut hk _ (by omega))) w hw)))) ?_
            refine ra_gpure0 18 524287 rfl (by rfl) (by rfl) (by rfl) (by decide +kernel) (by rfl) (fun hg => pu_not (gvE hg (by rfl))) ?_
            refine ra_pure0 19 1048575 rfl (by rfl) (by decide +kernel) (by rfl) (pu_pickOr (by rfl) (by rfl)) ?_
            refine ra_pure0 20 2097151 rfl (by rfl) (by decide +kernel) (by rfl) (pu_moveE (v := .bool _) (by rfl)) ?_
            refine ra_gpure0 21 4194303 rfl (by rfl) (by rfl) (by rfl) (by decide +kernel) (by rfl) (fun hg => pu_moveE (v := va) (by rfl)) ?_
            refine ra_gpure0 22 8388607 rfl (by rfl) (by rfl) (by rfl) (by decide +kernel) (by rfl) (fun hg => pu_moveE (v := .int .i64 _) (by rfl)) ?_
            refine ra_gpure0 23 16777215 rfl (by rfl) (by rfl) (by rfl) (by decide +kernel) (by rfl) (fun hg => pu_sub64 (gvE hg (by rfl)) (by rfl) (by omega)) ?_
            refine ra_gpure 24 33554431 rfl (by rfl) (by rfl) (by rfl) (by decide +kernel) (by rfl) (fun hg => pu_index (gvE hg (by rfl)) (gvE hg (by rfl)) (SrcE.src (by repeat constructor)) underlying24 sizeOf43 (by omega)) ?_
            refine ra_gpure 25 67108863 rfl (by rfl) (by rfl) (by rfl) (by decide +kernel) (by rfl) (fun hg => pu_loadS (ds := u8s (rootS (plS x ((l.length + 2) / 3))).1) (gvE hg (by rfl)) isAgg43 sizeOf43 (SrcE.src (by repeat constructor)) (by rw [show ((((l.length + 2) / 3 + 1 : Nat) : Int) - 1).toNat = ((l.length + 2) / 3) by omega]; exact leaves_root l hk _) (by rw [u8s_len, rootS_len]) (by decide)) ?_
            refine ra_gpure0 26 134217727 rfl (by rfl) (by rfl) (by rfl) (by decide +kernel) (by rfl) (fun hg => pu_moveE (v := vb) (by rfl)) ?_
            refine ra_gpure0 27 268435455 rfl (by rfl) (by rfl) (by rfl) (by decide +kernel) (by rfl) (fun hg => pu_moveE (v := .int .i64 _) (by rfl)) ?_
            refine ra_gpure0 28 536870911 rfl (by rfl) (by rfl) (by rfl) (by decide +kernel) (by rfl) (fun hg => pu_sub64 (gvE hg (by rfl)) (by rfl) (by omega)) ?_
            refine ra_gpure 29 1073741823 rfl (by rfl) (by rfl) (by rfl) (by decide +kernel) (by rfl) (fun hg => pu_index (gvE hg (by rfl)) (gvE hg (by rfl)) (SrcE.src (by repeat constructor)) underlying24 sizeOf43 (by omega)) ?_
            refine ra_gpure 30 2147483647 rfl (by rfl) (by rfl) (by rfl) (by decide +kernel) (by rfl) (fun hg => pu_loadS (ds := u8s (rootS (plS y ((l.length + 2) / 3))).1) (gvE hg (by rfl)) isAgg43 sizeOf43 (SrcE.src (by repeat constructor)) (by rw [show ((((l.length + 2) / 3 + 1 : Nat) : Int) - 1).toNat = ((l.length + 2) / 3) by omega]; exact leaves_root l hk _) (by rw [u8s_len, rootS_len]) (by decide)) ?_
            refine ra_gpure 31 4294967295 rfl (by rfl) (by rfl) (by rfl) (by decide +kernel) (by rfl) (fun hg => pu_eqlInts (xs := (rootS (plS x ((l.length + 2) / 3))).1) (ys := (rootS (plS y ((l.length + 2) / 3))).1) (gvE hg (by rfl)) (gvE hg (by rfl)) underlying43 underlying5 info5 (by kernel_rfl) (rootS_len _) (rootS_len _) eqGuardType43) ?_
            refine ra_gpure0 32 8589934591 rfl (by rfl) (by rfl) (by rfl) (by decide +kernel) (by rfl) (fun hg => pu_moveE (v := vp) (by rfl)) ?_
            refine ra_gpure0 33 17179869183 rfl (by rfl) (by rfl) (by rfl) (by decide +kernel) (by rfl) (fun hg => pu_moveE (v := .int .i64 _) (by rfl)) ?_
            refine ra_gpure0 34 34359738367 rfl (by rfl) (by rfl) (by rfl) (by decide +kernel) (by rfl) (fun hg => pu_sub64 (gvE hg (by rfl)) (by rfl) (by omega)) ?_
            refine ra_gpure 35 68719476735 rfl (by rfl) (by rfl) (by rfl) (by decide +kernel) (by rfl) (fun hg => pu_slice (l := 0) (h := ((l.length + 2) / 3)) (gvE hg (by rfl)) (SrcE.src (by repeat constructor)) underlying23 sizeOf3 bv_none (bv_op (gvE hg (by rfl)) (by omega)) (Nat.zero_le _) (by omega)) ?_
            refine ra_gpure0 36 137438953471 rfl (by rfl) (by rfl) (by rfl) (by decide +kernel) (by rfl) (fun hg => pu_moveE (v := vq) (by rfl)) ?_
            refine ra_gpure0 37 274877906943 rfl (by rfl) (by rfl) (by rfl) (by decide +kernel) (by rfl) (fun hg => pu_moveE (v := .int .i64 _) (by rfl)) ?_
            refine ra_gpure0 38 549755813887 rfl (by rfl) (by rfl) (by rfl) (by decide +kernel) (by rfl) (fun hg => pu_sub64 (gvE hg (by rfl)) (by rfl) (by omega)) ?_
            refine ra_gpure 39 1099511627775 rfl (by rfl) (by rfl) (by rfl) (by decide +kernel) (by rfl) (fun hg => pu_slice (l := 0) (h := ((l.length + 2) / 3)) (gvE hg (by rfl)) (SrcE.src (by repeat constructor)) underlying23 sizeOf3 bv_none (bv_op (gvE hg (by rfl)) (by omega)) (Nat.zero_le _) (by omega)) ?_
            refine ra_next 40 2199023255551 (by decide +kernel) ?_
            refine next_gcall rfl (by rfl) (by rfl) (by rfl) (by rfl) (by repeat constructor) (fun hg => lo_callFP call18 (by rfl) (fun w hw => gives_eq (args2 (gvE hg (by rfl)) (gvE hg (by rfl))) (eints_c (slV 1 vp 0 ((l.length + 2) / 3)) (slV 1 vq 0 ((l.length + 2) / 3)) (plS x ((l.length + 2) / 3)) (plS y ((l.length + 2) / 3)) trivial w (((src_cut (SrcE.src (by repeat constructor)) (l := 0) (h := ((l.length + 2) / 3)) (Nat.zero_le _) (by omega)).to (by rw [plS_len, Nat.sub_zero]) (by rw [Nat.zero_mul, List.drop_zero, Nat.sub_zero, Nat.mul_one, i64s_take, plS_take (by omega)])) w hw) (((src_cut (SrcE.src (by repeat constructor)) (l := 0) (h := ((l.length + 2) / 3)) (Nat.zero_le _) (by omega)).to (by rw [plS_len, Nat.sub_zero]) (by rw [Nat.zero_mul, List.drop_zero, Nat.sub_zero, Nat.mul_one, i64s_take, plS_take (by omega)])) w hw)))) ?_
            refine ra_gpure0 41 4398046511103 rfl (by rfl) (by rfl) (by rfl) (by decide +kernel) (by rfl) (fun hg => pu_neqB (gvE hg (by rfl)) (gvE hg (by rfl)) underlying4) ?_
            refine ra_pure0 42 8796093022207 rfl (by rfl) (by decide +kernel) (by rfl) (pu_pickOr (by rfl) (by rfl)) ?_
            refine ra_end (by decide +kernel) ?_
            refine t_cond (by rfl) (fun hc5 => ?_) (fun hc5 => ?_)
            ·
              exfalso
              rw [root_eq (by omega)] at hc5
              simp at hc5
            ·
              refine t_skip ?_
              refine t_seq_region ?_
              refine rg_pure (by rfl) (by rfl) (pu_moveE (v := va) (by rfl)) ?_
              refine rg_pure (by rfl) (by rfl) (pu_moveE (v := .int .i64 _) (by rfl)) ?_
              refine rg_pure (by rfl) (by rfl) (pu_sub64 (by rfl) (by rfl) (by omega)) ?_
              refine rg_pure (by rfl) (by rfl) (pu_slice (l := 0) (h := ((l.length + 2) / 3) - 1) (by rfl) (SrcE.src (by repeat constructor)) underlying24 sizeOf43 bv_none (bv_some (by omega)) (Nat.zero_le _) (by omega)) ?_
              refine rg_loud (by rfl) (lo_callF (fun _ : Value => True) (fun i => .tuple #[i, .int .i64 0]) (fun i => [.row 49 35 i (l.take (3 * (((l.length + 2) / 3) - 1))).length (encEs (l.take (3 * (((l.length + 2) / 3) - 1))))]) call10 (by rfl) (fun w hw => by have := unpack_c (slV 128 va 0 (((l.length + 2) / 3) - 1)) ((leavesS l).take (((l.length + 2) / 3) - 1)) (by rw [List.length_take, leavesS_len]; omega) (leavesS_sub hk _) w (((src_cut (SrcE.src (by repeat constructor)) (l := 0) (h := ((l.length + 2) / 3) - 1) (Nat.zero_le _) (by omega)).to (by rw [Nat.sub_zero, List.length_take, leavesS_len]; omega) (leaves_cut hk _ (by omega))) w hw); rw [unpack_leaves hk hgI (by omega)] at this; exact this) (fun vo _ => ?_))
              refine rg_pure (by rfl) (by rfl) (pu_move) ?_
              refine rg_pure (by rfl) (by rfl) (pu_extract (by rfl) (by rfl)) ?_
              refine rg_pure (by rfl) (by rfl) (pu_extract (by rfl) (by rfl)) ?_
              refine rg_pure (by rfl) (by rfl) (pu_assignE (v := vo) (by rfl)) ?_
              refine rg_pure (by rfl) (by rfl) (pu_assignE (v := .int .i64 _) (by rfl)) ?_
              refine rg_nil ?_
              refine t_seq_region ?_
              refine rg_pure (by rfl) (by rfl) (pu_moveE (v := .int .i64 _) (by rfl)) ?_
              refine rg_pure (by rfl) (by rfl) (pu_eql (by rfl) (by rfl)) ?_
              refine rg_pure (by rfl) (by rfl) (pu_moveE (v := .bool _) (by rfl)) ?_
              refine rg_gpure (by rfl) (by rfl) (by rfl) (by rfl) (fun hg => pu_moveE (v := vo) (by rfl)) ?_
              refine rg_gpure (by rfl) (by rfl) (by rfl) (by rfl) (fun hg => pu_moveE (v := v) (by rfl)) ?_
              refine rg_gpure (by rfl) (by rfl) (by rfl) (by rfl) (fun hg => pu_moveE (v := v) (by rfl)) ?_
              refine rg_gpure (by rfl) (by rfl) (by rfl) (by rfl) (fun hg => pu_len (gvE hg (by rfl)) (SrcE.src (by repeat constructor)) (by rfl) underlying22) ?_
              refine rg_gpure (by rfl) (by rfl) (by rfl) (by rfl) (fun hg => pu_moveE (v := .int .i64 _) (by rfl)) ?_
              refine rg_gpure (by rfl) (by rfl) (by rfl) (by rfl) (fun hg => pu_sub64 (gvE hg (by rfl)) (by rfl) (by omega)) ?_
              refine rg_gpure (by rfl) (by rfl) (by rfl) (by rfl) (fun hg => pu_mul64 (by rfl) (gvE hg (by rfl)) (by omega)) ?_
              refine rg_gpure (by rfl) (by rfl) (by rfl) (by rfl) (fun hg => pu_min2 (gvE hg (by rfl)) (gvE hg (by rfl))) ?_
              refine rg_gpure (by rfl) (by rfl) (by rfl) (by rfl) (fun hg => pu_slice (l := 0) (h := (min l.length (3 * (((l.length + 2) / 3) - 1)))) (gvE hg (by rfl)) (SrcE.src (by repeat constructor)) underlying22 sizeOf49 bv_none (bv_op (gvE hg (by rfl)) (by split <;> omega)) (Nat.zero_le _) (by omega)) ?_
              refine rg_gcall (by rfl) (by rfl) (by rfl) (by rfl) (fun hg => lo_callFP call15 (by rfl) (fun w hw => gives_eq (args2 (gvE hg (by rfl)) (gvE hg (by rfl))) (eentries_c vo (slV 35 v 0 (min l.length (3 * (((l.length + 2) / 3) - 1)))) (l.take (3 * (((l.length + 2) / 3) - 1))) (l.take (min l.length (3 * (((l.length + 2) / 3) - 1)))) (hk.take _) (hk.take _) w ((SrcE.src (by repeat constructor)) w hw) (((src_cut (SrcE.src (by repeat constructor)) (l := 0) (h := (min l.length (3 * (((l.length + 2) / 3) - 1)))) (Nat.zero_le _) (by omega)).to (by rw [List.length_take]; omega) (by rw [Nat.zero_mul, List.drop_zero, Nat.sub_zero, encEs_take _ hk])) w hw)))) ?_
              refine rg_pure (by rfl) (by rfl) (pu_pickAnd (by rfl) (by rfl)) ?_
              refine rg_pure (by rfl) (by rfl) (pu_moveE (v := .bool _) (by rfl)) ?_
              refine rg_gcall (by rfl) (by rfl) (by rfl) (by rfl) (fun hg => lo_callFP call7 (by rfl) (fun w hw => wakes_c w)) ?_
              refine rg_pure (by rfl) (by rfl) (pu_pickAnd (by rfl) (by rfl)) ?_
              refine rg_pure (by rfl) (by rfl) (pu_assignE (v := .bool _) (by rfl)) ?_
              refine rg_nil ?_
              refine t_ret ?_
              exact Fin.ret (res1 rfl .tmp) (by show Value.bool ((((0 : Int) == 0) && (l.take (3 * (((l.length + 2) / 3) - 1)) == l.take (min l.length (3 * (((l.length + 2) / 3) - 1))))) && true) = Value.bool true; rw [show l.take (3 * (((l.length + 2) / 3) - 1)) = l.take (min l.length (3 * (((l.length + 2) / 3) - 1))) by rw [List.take_eq_take_iff]; omega]; simp)
end Go.Proofs.Ytpoecjeknolnoaa
