/- Walks of functions that the statements of this seat reach: what each one hands back. Conditions: those that each theorem names. -/
import Derived.Test.YtpoecjeknolnoaaA21
import Derived.Test.YtpoecjeknolnoaaH10
import Derived.Test.YtpoecjeknolnoaaProg
import Derived.KernelRfl
namespace Go.Proofs.Ytpoecjeknolnoaa
open Go.RowKit Go.Proofs.HL Go.Proofs.Try
set_option maxRecDepth 10000
set_option linter.unusedSimpArgs false
set_option linter.unusedVariables false
attribute [local irreducible] T RG RA Pu Lo
theorem decide_beq_cast (a b : Nat) : ((a : Int) == (b : Int)) = decide (a = b) := by
  rw [Bool.eq_iff_iff, beq_iff_eq, decide_eq_true_eq]; omega
theorem apart_c (v : Value) (l : List En) (hk : KeysOk l) (x y : Int) (hx : 0 ≤ x ∧ x < 256) (hy : 0 ≤ y ∧ y < 256) (w : World) (hv : Sl w v 35 l.length (encEs l)) : Gives prog 6 [v, .agg (u8s [x, y]).toArray].toArray w (.bool true) := by
  have hb := hv.len
  refine gives_of_T func6 rfl 94 rfl rfl rfl [.sl v 35 l.length (encEs l)] ((holds0 w).addSl hv (by decide)) ?_
  refine t_seq_region ?_
  refine rg_loud (by rfl) (lo_boxA (by rfl) (by rfl) (fun b0 hb0 => ?_))
  refine rg_pure (by rfl) (by rfl) (pu_assignE (v := .bool _) (by rfl)) ?_
  refine rg_nil ?_
  refine t_seq ?_
  refine t_seq_region ?_
  refine rg_pure (by rfl) (by rfl) (pu_moveE (v := v) (by rfl)) ?_
  refine rg_loud (by rfl) (lo_callFQ call13 (by rfl) (fun w hw => refGood_c v l hk w ((SrcE.src (by repeat constructor)) w hw)) ?_)
  refine rg_pure (by rfl) (by rfl) (pu_not (by rfl)) ?_
  refine rg_pure (by rfl) (by rfl) (pu_moveE (v := .bool _) (by rfl)) ?_
  refine rg_gpure (by rfl) (by rfl) (by rfl) (by rfl) (fun hg => pu_moveE (v := v) (by rfl)) ?_
  refine rg_gpure (by rfl) (by rfl) (by rfl) (by rfl) (fun hg => pu_len (gvE hg (by rfl)) (SrcE.src (by repeat constructor)) (by rfl) underlying22) ?_
  refine rg_gpure (by rfl) (by rfl) (by rfl) (by rfl) (fun hg => pu_lss (gvE hg (by rfl)) (by rfl)) ?_
  refine rg_pure (by rfl) (by rfl) (pu_pickOr (by rfl) (by rfl)) ?_
  refine rg_pure (by rfl) (by rfl) (pu_moveE (v := .bool _) (by rfl)) ?_
  refine rg_gpure (by rfl) (by rfl) (by rfl) (by rfl) (fun hg => pu_moveE (v := v) (by rfl)) ?_
  refine rg_gpure (by rfl) (by rfl) (by rfl) (by rfl) (fun hg => pu_len (gvE hg (by rfl)) (SrcE.src (by repeat constructor)) (by rfl) underlying22) ?_
  refine rg_gpure (by rfl) (by rfl) (by rfl) (by rfl) (fun hg => pu_gtr (gvE hg (by rfl)) (by rfl)) ?_
  refine rg_pure (by rfl) (by rfl) (pu_pickOr (by rfl) (by rfl)) ?_
  refine rg_nil ?_
  refine t_cond (by rfl) (fun hc0 => ?_) (fun hc0 => ?_)
  ·
    refine t_seq_region ?_
    refine rg_loud (by rfl) (lo_callFQ call7 (by rfl) (fun w hw => wakes_c w) ?_)
    refine rg_pure (by rfl) (by rfl) (pu_assignE (v := .bool _) (by rfl)) ?_
    refine rg_nil ?_
    refine t_ret ?_
    exact Fin.ret (res1 rfl .tmp) (by rfl)
  ·
    have hgood : refGood l = true := by cases hx : refGood l with | true => rfl | false => rw [hx] at hc0; simp at hc0
    have hlen : 2 ≤ l.length ∧ l.length ≤ 60 := by rw [hgood] at hc0; simp at hc0; omega
    have hP := (refGood_iff l).1 hgood
    obtain ⟨a, hae, ha⟩ : ∃ a : Nat, (a : Int) = x % (l.length : Int) ∧ a < l.length := ⟨(x % (l.length : Int)).toNat, Int.toNat_of_nonneg (Int.emod_nonneg x (by omega)), by have := Int.emod_lt_of_pos x (show (0 : Int) < l.length by omega); omega⟩
    obtain ⟨b0, hbe, hb0⟩ : ∃ a : Nat, (a : Int) = y % (l.length : Int) ∧ a < l.length := ⟨(y % (l.length : Int)).toNat, Int.toNat_of_nonneg (Int.emod_nonneg y (by omega)), by have := Int.emod_lt_of_pos y (show (0 : Int) < l.length by omega); omega⟩
    refine t_skip ?_
    refine t_seq_draw 14 14 _ mixed (Sub.refl _) (by rfl) (by decide +kernel) ?_
    refine ra_pure0 0 1 rfl (by rfl) (by decide +kernel) (by rfl) (pu_indexArr1 (by rfl) (by rfl) underlying41 sizeOf5 (by omega)) ?_
    refine ra_pure 1 3 rfl (by rfl) (by decide +kernel) (by rfl) (pu_load1 (v := .int .u8 x) (by rfl) isAgg5 (HasE.has (by repeat constructor)) (by rfl)) ?_
    refine ra_pure0 2 7 rfl (by rfl) (by decide +kernel) (by rfl) (pu_conv (b := x) (by rfl) underlying5 underlying3 (wraps_i64 x hx.1 (by omega))) ?_
    refine ra_pure0 3 15 rfl (by rfl) (by decide +kernel) (by rfl) (pu_moveE (v := v) (by rfl)) ?_
    refine ra_pure 4 31 rfl (by rfl) (by decide +kernel) (by rfl) (pu_len (by rfl) (SrcE.src (by repeat constructor)) (by rfl) underlying22) ?_
    refine ra_pure0 5 63 rfl (by rfl) (by decide +kernel) (by rfl) (pu_rem64 (by rfl) (by rfl) (by omega)) ?_
    refine ra_pure0 6 127 rfl (by rfl) (by decide +kernel) (by rfl) (pu_indexArr1 (by rfl) (by rfl) underlying41 sizeOf5 (by omega)) ?_
    refine ra_pure 7 255 rfl (by rfl) (by decide +kernel) (by rfl) (pu_load1 (v := .int .u8 y) (by rfl) isAgg5 (HasE.has (by repeat constructor)) (by rfl)) ?_
    refine ra_pure0 8 511 rfl (by rfl) (by decide +kernel) (by rfl) (pu_conv (b := y) (by rfl) underlying5 underlying3 (wraps_i64 y hy.1 (by omega))) ?_
    refine ra_pure0 9 1023 rfl (by rfl) (by decide +kernel) (by rfl) (pu_moveE (v := v) (by rfl)) ?_
    refine ra_pure 10 2047 rfl (by rfl) (by decide +kernel) (by rfl) (pu_len (by rfl) (SrcE.src (by repeat constructor)) (by rfl) underlying22) ?_
    refine ra_pure0 11 4095 rfl (by rfl) (by decide +kernel) (by rfl) (pu_rem64 (by rfl) (by rfl) (by omega)) ?_
    refine ra_pure0 12 8191 rfl (by rfl) (by decide +kernel) (by rfl) (pu_assignE (v := .int .i64 (a : Int)) (by rw [hae]; rfl)) ?_
    refine ra_pure0 13 16383 rfl (by rfl) (by decide +kernel) (by rfl) (pu_assignE (v := .int .i64 (b0 : Int)) (by rw [hbe]; rfl)) ?_
    refine ra_end (by decide +kernel) ?_
    refine t_seq_region ?_
    refine rg_loud (by rfl) (lo_buildRow0 (by rfl) underlying22 sizeOf49 (fun b1 hb1 => ?_))
    refine rg_pure (by rfl) (by rfl) (pu_moveE (v := v) (by rfl)) ?_
    refine rg_loud (by rfl) (lo_appendE (xs' := encEs l) (k' := l.length) elemOk22 (by rfl) (by rfl) (by rfl) (by repeat constructor) (src_sl (.tail _ (.tail _ (.head _)))) (one_encEs _) (by omega) (by simp) (by rfl) (fun v2 => ?_))
    refine rg_pure (by rfl) (by rfl) (pu_assign) ?_
    refine rg_nil ?_
    refine t_row_own (v := v2) (by repeat constructor) (by omega) ?_
    rintro b cap cs rfl hcap hcapm hcl hct
    obtain ⟨rest, rfl⟩ : ∃ rest, cs = encEs l ++ rest := ⟨cs.drop (l.length * 35), by rw [← hct, List.take_append_drop]⟩
    refine t_seq_draw 20 20 [.sl v 35 l.length (encEs l)] mixed (by repeat constructor) (by rfl) (by decide +kernel) ?_
    refine ra_pure0 0 1 rfl (by rfl) (by decide +kernel) (by rfl) (pu_moveE (v := .slice (some ⟨b, 0, none⟩) l.length cap) (by rfl)) ?_
    refine ra_pure0 1 3 rfl (by rfl) (by decide +kernel) (by rfl) (pu_moveE (v := .int .i64 _) (by rfl)) ?_
    refine ra_pure0 2 7 rfl (by rfl) (by decide +kernel) (by rfl) (pu_moveE (v := .slice (some ⟨b, 0, none⟩) l.length cap) (by rfl)) ?_
    refine ra_pure0 3 15 rfl (by rfl) (by decide +kernel) (by rfl) (pu_moveE (v := .int .i64 _) (by rfl)) ?_
    refine ra_pure0 4 31 rfl (by rfl) (by decide +kernel) (by rfl) (pu_moveE (v := v) (by rfl)) ?_
    refine ra_pure0 5 63 rfl (by rfl) (by decide +kernel) (by rfl) (pu_moveE (v := .int .i64 _) (by rfl)) ?_
    refine ra_pure 6 127 rfl (by rfl) (by decide +kernel) (by rfl) (pu_index (by rfl) (by rfl) (SrcE.src (by repeat constructor)) underlying22 sizeOf49 (by omega)) ?_
    refine ra_pure 7 255 rfl (by rfl) (by decide +kernel) (by rfl) (pu_fieldP (by rfl) underlying49 (by rfl) sizeOf3 (by decide) (src_some (SrcE.src (by repeat constructor)) (by omega))) ?_
    refine ra_pure 8 511 rfl (by rfl) (by decide +kernel) (by rfl) (pu_load1S (u := .int .i64 (l.getD (b0) d0).2.1) (by rfl) isAgg3 (SrcE.src (by repeat constructor)) ((encEs_cell hk hb0 (by decide)).trans (encE_place (hk.at_ _)))) ?_
    refine ra_pure0 9 1023 rfl (by rfl) (by decide +kernel) (by rfl) (pu_moveE (v := v) (by rfl)) ?_
    refine ra_pure0 10 2047 rfl (by rfl) (by decide +kernel) (by rfl) (pu_moveE (v := .int .i64 _) (by rfl)) ?_
    refine ra_pure 11 4095 rfl (by rfl) (by decide +kernel) (by rfl) (pu_index (by rfl) (by rfl) (SrcE.src (by repeat constructor)) underlying22 sizeOf49 (by omega)) ?_
    refine ra_pure 12 8191 rfl (by rfl) (by decide +kernel) (by rfl) (pu_fieldP (by rfl) underlying49 (by rfl) sizeOf3 (by decide) (src_some (SrcE.src (by repeat constructor)) (by omega))) ?_
    refine ra_pure 13 16383 rfl (by rfl) (by decide +kernel) (by rfl) (pu_load1S (u := .int .i64 (l.getD (a) d0).2.1) (by rfl) isAgg3 (SrcE.src (by repeat constructor)) ((encEs_cell hk ha (by decide)).trans (encE_place (hk.at_ _)))) ?_
    refine ra_pure0 14 32767 rfl (by rfl) (by decide +kernel) (by rfl) (pu_indexLit (by rfl) (by rfl) underlying22 sizeOf49 (by omega)) ?_
    first | (refine ra_pure0 15 65535 rfl (by rfl) (by decide +kernel) (by rfl) (pu_field (by rfl) underlying49 (by rfl) sizeOf3 (by decide)) ?_) | (refine ra_pure 15 65535 rfl (by rfl) (by decide +kernel) (by rfl) (pu_fieldP (by rfl) underlying49 (by rfl) sizeOf3 (by decide) (src_some (SrcE.src (by repeat constructor)) (by omega))) ?_)
    refine ra_next 16 131071 (by decide +kernel) ?_
    refine next_loud rfl (by rfl) (lo_store1E (v := .int .i64 _) (cs' := encEs (setP l a (l.getD b0 d0).2.1) ++ rest) (by rfl) (by rfl) (by rfl) (by repeat constructor) sizeOf3 (by rfl) (by rw [List.length_append, encEs_len (hk)]; show 0 + ((a : Nat) : Int).toNat * 35 + 32 < _; (try simp only [setP_len, setB_len, swS_len]); omega) (by show (encEs (l) ++ rest).set (0 + ((a : Nat) : Int).toNat * 35 + 32) _ = _; rw [Nat.zero_add, Int.toNat_natCast, List.set_append_left _ _ (by rw [encEs_len (hk)]; (try simp only [setP_len, setB_len, swS_len]); omega), encEs_setP (hk) (by (try simp only [setP_len, setB_len, swS_len]); omega)]; try rfl) ⟨(fun _ => (by repeat constructor)), ?_⟩)
    refine ra_pure0 17 262143 rfl (by rfl) (by decide +kernel) (by rfl) (pu_indexLit (by rfl) (by rfl) underlying22 sizeOf49 (by omega)) ?_
    first | (refine ra_pure0 18 524287 rfl (by rfl) (by decide +kernel) (by rfl) (pu_field (by rfl) underlying49 (by rfl) sizeOf3 (by decide)) ?_) | (refine ra_pure 18 524287 rfl (by rfl) (by decide +kernel) (by rfl) (pu_fieldP (by rfl) underlying49 (by rfl) sizeOf3 (by decide) (src_some (SrcE.src (by repeat constructor)) (by omega))) ?_)
    refine ra_next 19 1048575 (by decide +kernel) ?_
    refine next_loud rfl (by rfl) (lo_store1E (v := .int .i64 _) (cs' := encEs (setP (setP l a (l.getD b0 d0).2.1) b0 (l.getD a d0).2.1) ++ rest) (by rfl) (by rfl) (by rfl) (by repeat constructor) sizeOf3 (by rfl) (by rw [List.length_append, encEs_len (setP_ok hk (hk.ok b0).2.2.1)]; show 0 + ((b0 : Nat) : Int).toNat * 35 + 32 < _; (try simp only [setP_len, setB_len, swS_len]); omega) (by show (encEs (setP l a (l.getD b0 d0).2.1) ++ rest).set (0 + ((b0 : Nat) : Int).toNat * 35 + 32) _ = _; rw [Nat.zero_add, Int.toNat_natCast, List.set_append_left _ _ (by rw [encEs_len (setP_ok hk (hk.ok b0).2.2.1)]; (try simp only [setP_len, setB_len, swS_len]); omega), encEs_setP (setP_ok hk (hk.ok b0).2.2.1) (by (try simp only [setP_len, setB_len, swS_len]); omega)]; try rfl) ⟨(fun _ => (by repeat constructor)), ?_⟩)
    refine ra_end (by decide +kernel) ?_
    refine t_seq_draw 20 20 [.sl v 35 l.length (encEs l)] mixed (by repeat constructor) (by rfl) (by decide +kernel) ?_
    refine ra_pure0 0 1 rfl (by rfl) (by decide +kernel) (by rfl) (pu_moveE (v := .slice (some ⟨b, 0, none⟩) l.length cap) (by rfl)) ?_
    refine ra_pure0 1 3 rfl (by rfl) (by decide +kernel) (by rfl) (pu_moveE (v := .int .i64 _) (by rfl)) ?_
    refine ra_pure0 2 7 rfl (by rfl) (by decide +kernel) (by rfl) (pu_moveE (v := .slice (some ⟨b, 0, none⟩) l.length cap) (by rfl)) ?_
    refine ra_pure0 3 15 rfl (by rfl) (by decide +kernel) (by rfl) (pu_moveE (v := .int .i64 _) (by rfl)) ?_
    refine ra_pure0 4 31 rfl (by rfl) (by decide +kernel) (by rfl) (pu_moveE (v := v) (by rfl)) ?_
    refine ra_pure0 5 63 rfl (by rfl) (by decide +kernel) (by rfl) (pu_moveE (v := .int .i64 _) (by rfl)) ?_
    refine ra_pure 6 127 rfl (by rfl) (by decide +kernel) (by rfl) (pu_index (by rfl) (by rfl) (SrcE.src (by repeat constructor)) underlying22 sizeOf49 (by omega)) ?_
    refine ra_pure 7 255 rfl (by rfl) (by decide +kernel) (by rfl) (pu_fieldP (by rfl) underlying49 (by rfl) sizeOf3 (by decide) (src_some (SrcE.src (by repeat constructor)) (by omega))) ?_
    refine ra_pure 8 511 rfl (by rfl) (by decide +kernel) (by rfl) (pu_load1S (u := .int .i64 (l.getD (b0) d0).2.2.1) (by rfl) isAgg3 (SrcE.src (by repeat constructor)) ((encEs_cell hk hb0 (by decide)).trans (encE_blocks (hk.at_ _)))) ?_
    refine ra_pure0 9 1023 rfl (by rfl) (by decide +kernel) (by rfl) (pu_moveE (v := v) (by rfl)) ?_
    refine ra_pure0 10 2047 rfl (by rfl) (by decide +kernel) (by rfl) (pu_moveE (v := .int .i64 _) (by rfl)) ?_
    refine ra_pure 11 4095 rfl (by rfl) (by decide +kernel) (by rfl) (pu_index (by rfl) (by rfl) (SrcE.src (by repeat constructor)) underlying22 sizeOf49 (by omega)) ?_
    refine ra_pure 12 8191 rfl (by rfl) (by decide +kernel) (by rfl) (pu_fieldP (by rfl) underlying49 (by rfl) sizeOf3 (by decide) (src_some (SrcE.src (by repeat constructor)) (by omega))) ?_
    refine ra_pure 13 16383 rfl (by rfl) (by decide +kernel) (by rfl) (pu_load1S (u := .int .i64 (l.getD (a) d0).2.2.1) (by rfl) isAgg3 (SrcE.src (by repeat constructor)) ((encEs_cell hk ha (by decide)).trans (encE_blocks (hk.at_ _)))) ?_
    refine ra_pure0 14 32767 rfl (by rfl) (by decide +kernel) (by rfl) (pu_indexLit (by rfl) (by rfl) underlying22 sizeOf49 (by omega)) ?_
    first | (refine ra_pure0 15 65535 rfl (by rfl) (by decide +kernel) (by rfl) (pu_field (by rfl) underlying49 (by rfl) sizeOf3 (by decide)) ?_) | (refine ra_pure 15 65535 rfl (by rfl) (by decide +kernel) (by rfl) (pu_fieldP (by rfl) underlying49 (by rfl) sizeOf3 (by decide) (src_some (SrcE.src (by repeat constructor)) (by omega))) ?_)
    refine ra_next 16 131071 (by decide +kernel) ?_
    refine next_loud rfl (by rfl) (lo_store1E (v := .int .i64 _) (cs' := encEs (setB (setP (setP l a (l.getD b0 d0).2.1) b0 (l.getD a d0).2.1) a (l.getD b0 d0).2.2.1) ++ rest) (by rfl) (by rfl) (by rfl) (by repeat constructor) sizeOf3 (by rfl) (by rw [List.length_append, encEs_len (setP_ok (setP_ok hk (hk.ok b0).2.2.1) (hk.ok a).2.2.1)]; show 0 + ((a : Nat) : Int).toNat * 35 + 33 < _; (try simp only [setP_len, setB_len, swS_len]); omega) (by show (encEs (setP (setP l a (l.getD b0 d0).2.1) b0 (l.getD a d0).2.1) ++ rest).set (0 + ((a : Nat) : Int).toNat * 35 + 33) _ = _; rw [Nat.zero_add, Int.toNat_natCast, List.set_append_left _ _ (by rw [encEs_len (setP_ok (setP_ok hk (hk.ok b0).2.2.1) (hk.ok a).2.2.1)]; (try simp only [setP_len, setB_len, swS_len]); omega), encEs_setB (setP_ok (setP_ok hk (hk.ok b0).2.2.1) (hk.ok a).2.2.1) (by (try simp only [setP_len, setB_len, swS_len]); omega)]; try rfl) ⟨(fun _ => (by repeat constructor)), ?_⟩)
    refine ra_pure0 17 262143 rfl (by rfl) (by decide +kernel) (by rfl) (pu_indexLit (by rfl) (by rfl) underlying22 sizeOf49 (by omega)) ?_
    first | (refine ra_pure0 18 524287 rfl (by rfl) (by decide +kernel) (by rfl) (pu_field (by rfl) underlying49 (by rfl) sizeOf3 (by decide)) ?_) | (refine ra_pure 18 524287 rfl (by rfl) (by decide +kernel) (by rfl) (pu_fieldP (by rfl) underlying49 (by rfl) sizeOf3 (by decide) (src_some (SrcE.src (by repeat constructor)) (by omega))) ?_)
    refine ra_next 19 1048575 (by decide +kernel) ?_
    refine next_loud rfl (by rfl) (lo_store1E (v := .int .i64 _) (cs' := encEs (swS l a b0) ++ rest) (by rfl) (by rfl) (by rfl) (by repeat constructor) sizeOf3 (by rfl) (by rw [List.length_append, encEs_len (setB_ok (setP_ok (setP_ok hk (hk.ok b0).2.2.1) (hk.ok a).2.2.1) (hk.ok b0).2.2.2.1)]; show 0 + ((b0 : Nat) : Int).toNat * 35 + 33 < _; (try simp only [setP_len, setB_len, swS_len]); omega) (by show (encEs (setB (setP (setP l a (l.getD b0 d0).2.1) b0 (l.getD a d0).2.1) a (l.getD b0 d0).2.2.1) ++ rest).set (0 + ((b0 : Nat) : Int).toNat * 35 + 33) _ = _; rw [Nat.zero_add, Int.toNat_natCast, List.set_append_left _ _ (by rw [encEs_len (setB_ok (setP_ok (setP_ok hk (hk.ok b0).2.2.1) (hk.ok a).2.2.1) (hk.ok b0).2.2.2.1)]; (try simp only [setP_len, setB_len, swS_len]); omega), encEs_setB (setB_ok (setP_ok (setP_ok hk (hk.ok b0).2.2.1) (hk.ok a).2.2.1) (hk.ok b0).2.2.2.1) (by (try simp only [setP_len, setB_len, swS_len]); omega)]; try rfl) ⟨(fun _ => (by repeat constructor)), ?_⟩)
    refine ra_end (by decide +kernel) ?_
    refine t_seq ?_
    refine t_seq_region ?_
    refine rg_pure (by rfl) (by rfl) (pu_moveE (v := .slice (some ⟨b, 0, none⟩) l.length cap) (by rfl)) ?_
    refine rg_loud (by rfl) (lo_callFQ call12 (by rfl) (fun w hw => good_c (.slice (some ⟨b, 0, none⟩) l.length cap) (swS l a b0) (swS_ok hk a b0) w (((src_pre (HasE.has (by repeat constructor)) (by rw [encEs_len (swS_ok hk a b0), (swS_len l a b0)]) hcap hcapm).to (swS_len l a b0).symm rfl) w hw)) ?_)
    refine rg_pure (by rfl) (by rfl) (pu_not (by rfl)) ?_
    refine rg_nil ?_
    refine t_cond (by rfl) (fun hc1 => ?_) (fun hc1 => ?_)
    ·
      exfalso; rw [(goodI_iff _).2 (sw_good hP ha hb0)] at hc1; cases hc1
    ·
      refine t_skip ?_
      refine t_seq_region ?_
      refine rg_pure (by rfl) (by rfl) (pu_moveE (v := .slice (some ⟨b, 0, none⟩) l.length cap) (by rfl)) ?_
      refine rg_pure (by rfl) (by rfl) (pu_moveE (v := .int .i64 _) (by rfl)) ?_
      refine rg_pure (by rfl) (by rfl) (pu_moveE (v := .slice (some ⟨b, 0, none⟩) l.length cap) (by rfl)) ?_
      refine rg_pure (by rfl) (by rfl) (pu_moveE (v := .int .i64 _) (by rfl)) ?_
      refine rg_pure (by rfl) (by rfl) (pu_indexLit (by rfl) (by rfl) underlying22 sizeOf49 (by omega)) ?_
      first | (refine rg_pure (by rfl) (by rfl) (pu_field (by rfl) underlying49 (by rfl) sizeOf3 (by decide)) ?_) | (refine rg_pure (by rfl) (by rfl) (pu_fieldP (by rfl) underlying49 (by rfl) sizeOf3 (by decide) (src_some (SrcE.src (by repeat constructor)) (by omega))) ?_)
      refine rg_pure (by rfl) (by rfl) (pu_load1 (v := .int .i64 ((swS l a b0).getD b0 d0).2.1) (by rfl) isAgg3 (HasE.has (by repeat constructor)) (by show (encEs (swS l a b0) ++ rest)[0 + ((b0 : Nat) : Int).toNat * 35 + 32]? = _; rw [Nat.zero_add, Int.toNat_natCast, List.getElem?_append_left (by rw [encEs_len (swS_ok hk a b0), swS_len]; omega), encEs_cell (swS_ok hk a b0) (by rw [swS_len]; exact hb0) (by decide)]; exact encE_place ((swS_ok hk a b0).at_ _))) ?_
      refine rg_pure (by rfl) (by rfl) (pu_indexLit (by rfl) (by rfl) underlying22 sizeOf49 (by omega)) ?_
      first | (refine rg_pure (by rfl) (by rfl) (pu_field (by rfl) underlying49 (by rfl) sizeOf3 (by decide)) ?_) | (refine rg_pure (by rfl) (by rfl) (pu_fieldP (by rfl) underlying49 (by rfl) sizeOf3 (by decide) (src_some (SrcE.src (by repeat constructor)) (by omega))) ?_)
      refine rg_loud (by rfl) (lo_store1E (v := .int .i64 _) (cs' := encEs (mvS l a b0) ++ rest) (by rfl) (by rfl) (by rfl) (by repeat constructor) sizeOf3 (by rfl) (by rw [List.length_append, encEs_len (swS_ok hk a b0)]; show 0 + ((a : Nat) : Int).toNat * 35 + 32 < _; (try simp only [setP_len, setB_len, swS_len]); omega) (by show (encEs (swS l a b0) ++ rest).set (0 + ((a : Nat) : Int).toNat * 35 + 32) _ = _; rw [Nat.zero_add, Int.toNat_natCast, List.set_append_left _ _ (by rw [encEs_len (swS_ok hk a b0)]; (try simp only [setP_len, setB_len, swS_len]); omega), encEs_setP (swS_ok hk a b0) (by (try simp only [setP_len, setB_len, swS_len]); omega)]; try rfl) ?_)
      refine rg_nil ?_
      refine t_seq_region ?_
      refine rg_pure (by rfl) (by rfl) (pu_moveE (v := .slice (some ⟨b, 0, none⟩) l.length cap) (by rfl)) ?_
      refine rg_loud (by rfl) (lo_callFQ call12 (by rfl) (fun w hw => good_c (.slice (some ⟨b, 0, none⟩) l.length cap) (mvS l a b0) (mvS_ok hk a b0) w (((src_pre (HasE.has (by repeat constructor)) (by rw [encEs_len (mvS_ok hk a b0), (mvS_len l a b0)]) hcap hcapm).to (mvS_len l a b0).symm rfl) w hw)) ?_)
      refine rg_pure (by rfl) (by rfl) (pu_moveE (v := .int .i64 _) (by rfl)) ?_
      refine rg_pure (by rfl) (by rfl) (pu_moveE (v := .int .i64 _) (by rfl)) ?_
      refine rg_pure (by rfl) (by rfl) (pu_eql (by rfl) (by rfl)) ?_
      refine rg_pure (by rfl) (by rfl) (pu_eqlB (by rfl) (by rfl) underlying4) ?_
      refine rg_pure (by rfl) (by rfl) (pu_moveE (v := .bool _) (by rfl)) ?_
      refine rg_gcall (by rfl) (by rfl) (by rfl) (by rfl) (fun hg => lo_callFP call7 (by rfl) (fun w hw => wakes_c w)) ?_
      refine rg_pure (by rfl) (by rfl) (pu_pickAnd (by rfl) (by rfl)) ?_
      refine rg_pure (by rfl) (by rfl) (pu_assignE (v := .bool _) (by rfl)) ?_
      refine rg_nil ?_
      refine t_ret ?_
      exact Fin.ret (res1 rfl .tmp) (by show Value.bool ((goodI (mvS l a b0) == ((a : Int) == (b0 : Int))) && true) = Value.bool true; rw [mv_good hP ha hb0, Bool.and_true, decide_beq_cast]; simp)
end Go.Proofs.Ytpoecjeknolnoaa
