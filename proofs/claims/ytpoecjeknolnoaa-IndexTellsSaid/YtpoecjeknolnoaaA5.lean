/- Walks of functions that the statements of this seat reach: what each one hands back. Conditions: those that each theorem names. -/
import Derived.Test.YtpoecjeknolnoaaA4
import Derived.Test.YtpoecjeknolnoaaH8
import Derived.Test.YtpoecjeknolnoaaProg
import Derived.KernelRfl
namespace Go.Proofs.Ytpoecjeknolnoaa
open Go.RowKit Go.Proofs.HL Go.Proofs.Try
set_option maxRecDepth 10000
set_option linter.unusedSimpArgs false
set_option linter.unusedVariables false
attribute [local irreducible] T RG RA Pu Lo
open Go.Lib (compareBytes bytesOf)
theorem ext69 (xs : Array Value) (w : World) : (callFunc 69 xs).run prog w = ((Extern.BytealgCompare.compare xs).run prog w).andThen fun v w' => .ok (.value v) w' :=
  run_callFunc_extern func69 rfl rfl rfl rfl xs w
def cmpS (a b : List Int) : Int := compareBytes (bytesOf a) (bytesOf b)
def lessS (a b : List Int) : Bool := decide (cmpS a b < 0)
theorem bytesLess_eq : ∀ (a b : List UInt8), Op.bytesLess a b = decide (compareBytes a b < 0)
  | [], [] => rfl
  | [], _ :: _ => rfl
  | _ :: _, [] => rfl
  | x :: a, y :: b => by
    have ih := bytesLess_eq a b
    by_cases h1 : x < y
    · simp [Op.bytesLess, compareBytes, h1]
    · by_cases h2 : y < x
      · have h3 : x ≠ y := fun h => h1 (by rw [h] at h2 ⊢; exact h2)
        simp [Op.bytesLess, compareBytes, h1, h2, h3]
      · have h3 : x = y := UInt8.le_antisymm (UInt8.not_lt.1 h2) (UInt8.not_lt.1 h1)
        subst h3
        simp [Op.bytesLess, compareBytes, h1, ih]
theorem strOfNums_toList (a : List Int) : (strOfNums a).toList = bytesOf a := by
  rw [ByteArray.toList_eq]; rfl
theorem cmp_c (v u : Value) (m m' : Nat) (a b : List Int) (w : World) (hv : Sl w v 1 m (u8s a)) (hu : Sl w u 1 m' (u8s b)) : Gives prog 63 [v, u].toArray w (.int .i64 (cmpS a b)) := by
  refine gives_of_T func63 rfl 8 rfl rfl rfl [.sl v 1 m (u8s a), .sl u 1 m' (u8s b)] (((holds0 w).addSl hu (by decide)).addSl hv (by decide)) ?_
  refine t_seq_region ?_
  refine rg_pure (by rfl) (by rfl) (pu_assignE (v := .int .i64 _) (by rfl)) ?_
  refine rg_nil ?_
  refine t_seq_region ?_
  refine rg_pure (by rfl) (by rfl) (pu_moveE (v := v) (by rfl)) ?_
  refine rg_pure (by rfl) (by rfl) (pu_moveE (v := u) (by rfl)) ?_
  refine rg_pure (by rfl) (by rfl) (pu_ext ext69 (fun w hw => run_compareBytes (m := m) (m' := m') (a := a) (b := b) (src_sl (.head _) w hw) (src_sl (.tail _ (.head _)) w hw))) ?_
  refine rg_pure (by rfl) (by rfl) (pu_assignE (v := .int .i64 _) (by rfl)) ?_
  refine rg_nil ?_
  refine t_ret ?_
  exact Fin.ret (res1 rfl .tmp) (by rfl)
theorem less_c (a b : List Int) (ha : a.length = 32) (hb : b.length = 32) (w : World) : Gives prog 49 [.agg (u8s a).toArray, .agg (u8s b).toArray].toArray w (.bool (lessS a b)) := by
  refine gives_of_T func49 rfl 9 rfl rfl rfl [] (holds0 w) ?_
  refine t_seq_region ?_
  refine rg_loud (by rfl) (lo_boxA (by rfl) (by rfl) (fun b0 hb0 => ?_))
  refine rg_loud (by rfl) (lo_boxA (by rfl) (by rfl) (fun b1 hb1 => ?_))
  refine rg_pure (by rfl) (by rfl) (pu_assignE (v := .bool _) (by rfl)) ?_
  refine rg_nil ?_
  refine t_seq_draw 5 5 _ mixed (Sub.refl _) (by rfl) (by decide +kernel) ?_
  refine ra_pure0 0 1 rfl (by rfl) (by decide +kernel) (by rfl) (pu_sliceArr (l := 0) (h := 32) (by rfl) underlying47 sizeOf5 bv_none bv_none (by decide) (by decide) (by decide)) ?_
  refine ra_pure0 1 3 rfl (by rfl) (by decide +kernel) (by rfl) (pu_sliceArr (l := 0) (h := 32) (by rfl) underlying47 sizeOf5 bv_none bv_none (by decide) (by decide) (by decide)) ?_
  refine ra_next 2 7 (by decide +kernel) ?_
  refine next_loud rfl (by rfl) (lo_callFQ call63 (by rfl) (fun w hw => cmp_c _ _ 32 32 a b w ((src_all (sz := 1) (m := 32) (HasE.has (by repeat constructor)) (by simp only [u8s, List.length_map, ha]) (by decide)) w hw) ((src_all (sz := 1) (m := 32) (HasE.has (by repeat constructor)) (by simp only [u8s, List.length_map, hb]) (by decide)) w hw)) ⟨(fun _ => (by repeat constructor)), ?_⟩)
  refine ra_pure0 3 15 rfl (by rfl) (by decide +kernel) (by rfl) (pu_lss (by rfl) (by rfl)) ?_
  refine ra_pure0 4 31 rfl (by rfl) (by decide +kernel) (by rfl) (pu_assignE (v := .bool _) (by rfl)) ?_
  refine ra_end (by decide +kernel) ?_
  refine t_ret ?_
  exact Fin.ret (res1 rfl .tmp) (by rfl)
theorem rless_c (a b : List Int) (ha : a.length = 32) (hb : b.length = 32) (w : World) : Gives prog 36 [.agg (u8s a).toArray, .agg (u8s b).toArray].toArray w (.bool (lessS a b)) := by
  refine gives_of_T func36 rfl 10 rfl rfl rfl [] (holds0 w) ?_
  refine t_seq_region ?_
  refine rg_loud (by rfl) (lo_boxA (by rfl) (by rfl) (fun b0 hb0 => ?_))
  refine rg_loud (by rfl) (lo_boxA (by rfl) (by rfl) (fun b1 hb1 => ?_))
  refine rg_pure (by rfl) (by rfl) (pu_assignE (v := .bool _) (by rfl)) ?_
  refine rg_nil ?_
  refine t_seq_draw 6 6 _ mixed (Sub.refl _) (by rfl) (by decide +kernel) ?_
  refine ra_pure0 0 1 rfl (by rfl) (by decide +kernel) (by rfl) (pu_sliceArr (l := 0) (h := 32) (by rfl) underlying47 sizeOf5 bv_none bv_none (by decide) (by decide) (by decide)) ?_
  refine ra_pure 1 3 rfl (by rfl) (by decide +kernel) (by rfl) (pu_bytesStr (bs := a) (by rfl) (src_all (sz := 1) (m := 32) (HasE.has (by repeat constructor)) (by simp only [u8s, List.length_map, ha]) (by decide)) underlying45 underlying5 underlying9) ?_
  refine ra_pure0 2 7 rfl (by rfl) (by decide +kernel) (by rfl) (pu_sliceArr (l := 0) (h := 32) (by rfl) underlying47 sizeOf5 bv_none bv_none (by decide) (by decide) (by decide)) ?_
  refine ra_pure 3 15 rfl (by rfl) (by decide +kernel) (by rfl) (pu_bytesStr (bs := b) (by rfl) (src_all (sz := 1) (m := 32) (HasE.has (by repeat constructor)) (by simp only [u8s, List.length_map, hb]) (by decide)) underlying45 underlying5 underlying9) ?_
  refine ra_pure 4 31 rfl (by rfl) (by decide +kernel) (by rfl) (pu_strLss (by rfl) (by rfl)) ?_
  refine ra_pure0 5 63 rfl (by rfl) (by decide +kernel) (by rfl) (pu_assignE (v := .bool _) (by rfl)) ?_
  refine ra_end (by decide +kernel) ?_
  refine t_ret ?_
  exact Fin.ret (res1 rfl .tmp) (by rw [lessS, cmpS, ← bytesLess_eq, ← strOfNums_toList, ← strOfNums_toList]; rfl)
/-! ### Bitmaps -/
def hasS (ms : List Int) (b : Int) : Bool := decide (b < 0) || decide (128 ≤ b) || (bits .and .u8 ((ms.getD (b / 8).toNat 0).fdiv (2 ^ (min (b % 8).toNat IntKind.u8.bits))) 1 == 1)
theorem has_c (ms : List Int) (hm : ms.length = 16) (b : Int) (w : World) (hb : -9223372036854775808 ≤ b ∧ b ≤ 9223372036854775807) : Gives prog 50 [.agg (u8s ms).toArray, .int .i64 b].toArray w (.bool (hasS ms b)) := by
  refine gives_of_T func50 rfl 22 rfl rfl rfl [] (holds0 w) ?_
  refine t_seq_region ?_
  refine rg_loud (by rfl) (lo_boxA (by rfl) (by rfl) (fun b0 hb0 => ?_))
  refine rg_pure (by rfl) (by rfl) (pu_assignE (v := .bool _) (by rfl)) ?_
  refine rg_nil ?_
  refine t_seq_region ?_
  refine rg_pure (by rfl) (by rfl) (pu_moveE (v := .int .i64 _) (by rfl)) ?_
  refine rg_pure (by rfl) (by rfl) (pu_lss (by rfl) (by rfl)) ?_
  refine rg_pure (by rfl) (by rfl) (pu_moveE (v := .bool _) (by rfl)) ?_
  refine rg_gpure (by rfl) (by rfl) (by rfl) (by rfl) (fun hg => pu_moveE (v := .int .i64 _) (by rfl)) ?_
  refine rg_gpure (by rfl) (by rfl) (by rfl) (by rfl) (fun hg => pu_geq (gvE hg (by rfl)) (by rfl)) ?_
  refine rg_pure (by rfl) (by rfl) (pu_pickOr (by rfl) (by rfl)) ?_
  refine rg_pure (by rfl) (by rfl) (pu_moveE (v := .bool _) (by rfl)) ?_
  refine rg_gpure (by rfl) (by rfl) (by rfl) (by rfl) (fun hg => pu_moveE (v := .int .i64 _) (by rfl)) ?_
  refine rg_gpure (by rfl) (by rfl) (by rfl) (by rfl) (fun hg => pu_quo64 (gvE hg (by rfl)) (by rfl) (by simp at hg; omega)) ?_
  refine rg_gpure (by rfl) (by rfl) (by rfl) (by rfl) (fun hg => pu_indexArr1 (by rfl) (gvE hg (by rfl)) underlying72 sizeOf5 (by simp at hg; omega)) ?_
  refine rg_gpure (by rfl) (by rfl) (by rfl) (by rfl) (fun hg => pu_load1 (gvE hg (by rfl)) isAgg5 (HasE.has (by repeat constructor)) (u8s_get (by simp at hg; omega))) ?_
  refine rg_gpure (by rfl) (by rfl) (by rfl) (by rfl) (fun hg => pu_moveE (v := .int .i64 _) (by rfl)) ?_
  refine rg_gpure (by rfl) (by rfl) (by rfl) (by rfl) (fun hg => pu_rem64 (gvE hg (by rfl)) (by rfl) (by simp at hg; omega)) ?_
  refine rg_gpure (by rfl) (by rfl) (by rfl) (by rfl) (fun hg => pu_shr (gvE hg (by rfl)) (gvE hg (by rfl)) (by omega)) ?_
  refine rg_gpure (by rfl) (by rfl) (by rfl) (by rfl) (fun hg => pu_and (gvE hg (by rfl)) (by rfl)) ?_
  refine rg_gpure (by rfl) (by rfl) (by rfl) (by rfl) (fun hg => pu_eql (gvE hg (by rfl)) (by rfl)) ?_
  refine rg_pure (by rfl) (by rfl) (pu_pickOr (by rfl) (by rfl)) ?_
  refine rg_pure (by rfl) (by rfl) (pu_assignE (v := .bool _) (by rfl)) ?_
  refine rg_nil ?_
  refine t_ret ?_
  exact Fin.ret (res1 rfl .tmp) (by rfl)
/-- A bitmap with one block more. -/
def setS (ms : List Int) (b : Int) : List Int := ms.set (b / 8).toNat (bits .or .u8 (ms.getD (b / 8).toNat 0) (IntKind.u8.wrap (1 * 2 ^ (min (b % 8).toNat IntKind.u8.bits))))
theorem setS_len (ms : List Int) (b : Int) : (setS ms b).length = ms.length := by simp [setS]
/-- k blocks from b on: the bitmap, or none. -/
def withL (ms : List Int) (b : Int) : Nat → Option (List Int)
  | 0 => some ms
  | k + 1 => if hasS ms b then none else withL (setS ms b) (b + 1) k
def withS (ms : List Int) (b n : Int) : List Int × Int :=
  if n < 1 ∨ b < 0 ∨ 128 ≤ b ∨ 128 - b < n then (List.replicate 16 0, 1) else match withL ms b n.toNat with
    | some l => (l, 0)
    | none => (List.replicate 16 0, 11)
theorem with_c (ms : List Int) (hm : ms.length = 16) (b n : Int) (w : World) (hb : -9223372036854775808 ≤ b ∧ b ≤ 9223372036854775807) (hn : -9223372036854775808 ≤ n ∧ n ≤ 9223372036854775807) :
    Gives prog 33 [.agg (u8s ms).toArray, .int .i64 b, .int .i64 n].toArray w (.tuple #[.agg (u8s (withS ms b n).1).toArray, .int .i64 (withS ms b n).2]) := by
  refine gives_of_T func33 rfl 48 rfl rfl rfl [] (holds0 w) ?_
  refine t_seq_region ?_
  refine rg_loud (by rfl) (lo_boxA (by rfl) (by rfl) (fun b0 hb0 => ?_))
  refine rg_loud (by rfl) (lo_alloc (cs := u8s (List.replicate 16 0)) (by rfl) zeroValue72 (by rfl) (fun b1 hb1 => ?_))
  refine rg_pure (by rfl) (by rfl) (pu_assignE (v := .int .i64 _) (by rfl)) ?_
  refine rg_nil ?_
  refine t_seq ?_
  refine t_seq_region ?_
  refine rg_pure (by rfl) (by rfl) (pu_moveE (v := .int .i64 _) (by rfl)) ?_
  refine rg_pure (by rfl) (by rfl) (pu_lss (by rfl) (by rfl)) ?_
  refine rg_pure (by rfl) (by rfl) (pu_moveE (v := .bool _) (by rfl)) ?_
  refine rg_gpure (by rfl) (by rfl) (by rfl) (by rfl) (fun hg => pu_moveE (v := .int .i64 _) (by rfl)) ?_
  refine rg_gpure (by rfl) (by rfl) (by rfl) (by rfl) (fun hg => pu_lss (gvE hg (by rfl)) (by rfl)) ?_
  refine rg_pure (by rfl) (by rfl) (pu_pickOr (by rfl) (by rfl)) ?_
  refine rg_pure (by rfl) (by rfl) (pu_moveE (v := .bool _) (by rfl)) ?_
  refine rg_gpure (by rfl) (by rfl) (by rfl) (by rfl) (fun hg => pu_moveE (v := .int .i64 _) (by rfl)) ?_
  refine rg_gpure (by rfl) (by rfl) (by rfl) (by rfl) (fun hg => pu_geq (gvE hg (by rfl)) (by rfl)) ?_
  refine rg_pure (by rfl) (by rfl) (pu_pickOr (by rfl) (by rfl)) ?_
  refine rg_pure (by rfl) (by rfl) (pu_moveE (v := .bool _) (by rfl)) ?_
  refine rg_gpure (by rfl) (by rfl) (by rfl) (by rfl) (fun hg => pu_moveE (v := .int .i64 _) (by rfl)) ?_
  refine rg_gpure (by rfl) (by rfl) (by rfl) (by rfl) (fun hg => pu_moveE (v := .int .i64 _) (by rfl)) ?_
  refine rg_gpure (by rfl) (by rfl) (by rfl) (by rfl) (fun hg => pu_sub64 (by rfl) (gvE hg (by rfl)) (by simp at hg; omega)) ?_
  refine rg_gpure (by rfl) (by rfl) (by rfl) (by rfl) (fun hg => pu_gtr (gvE hg (by rfl)) (gvE hg (by rfl))) ?_
  refine rg_pure (by rfl) (by rfl) (pu_pickOr (by rfl) (by rfl)) ?_
  refine rg_nil ?_
  refine t_cond (by rfl) (fun hc0 => ?_) (fun hc0 => ?_)
  ·
    have hbad : n < 1 ∨ b < 0 ∨ 128 ≤ b ∨ 128 - b < n := by
      by_cases h1 : n < 1
      · exact .inl h1
      by_cases h2 : b < 0
      · exact .inr (.inl h2)
      by_cases h3 : 128 ≤ b
      · exact .inr (.inr (.inl h3))
      · simp [h1, h2, h3] at hc0; omega
    refine t_seq_region ?_
    refine rg_pure (by rfl) (by rfl) (pu_build0 zeroValue72 ⟨_, _, underlying72, fun w => ⟨1, sizeOf5 w⟩⟩) ?_
    refine rg_loud (by rfl) (lo_storeV (vs := u8s (List.replicate 16 0)) (by rfl) (by rfl) (by rfl) (by repeat constructor) sizeOf72 (by first | (simp only [u8s_len, u32s_len, i64s_len, List.length_replicate, List.length_set, sumS_len, *]; done) | rfl) (one_u8s _) (by first | (simp only [u8s_len, u32s_len, i64s_len, List.length_replicate, List.length_set, sumS_len, *]; done) | rfl) ?_)
    refine rg_pure (by rfl) (by rfl) (pu_assignE (v := .int .i64 _) (by rfl)) ?_
    refine rg_nil ?_
    refine t_ret ?_
    exact Fin.ret (res2 rfl (ResV.cellA (cs := _) (by rfl) isAgg72 sizeOf72 (HasE.has (by repeat constructor)) (by first | (simp only [u8s_len, u32s_len, i64s_len, List.length_replicate, List.length_set, sumS_len, *]; done) | rfl)) .tmp) (by rw [withS, if_pos hbad]; rfl)
  ·
    have hgood : ¬ (n < 1 ∨ b < 0 ∨ 128 ≤ b ∨ 128 - b < n) := by
      simp at hc0; omega
    refine t_skip ?_
    refine t_seq ?_
    refine t_seq_region ?_
    refine rg_pure (by rfl) (by rfl) (pu_moveE (v := .int .i64 _) (by rfl)) ?_
    refine rg_pure (by rfl) (by rfl) (pu_assignE (v := .int .i64 _) (by rfl)) ?_
    refine rg_nil ?_
    refine t_block ?_
    refine t_loop (σ := Nat × List Int) (fun s => [(mkS, marksV []), (1, .int .i64 b), (2, .int .i64 n), (3, .pointer (some ⟨b0, 0, none⟩)), (6, .pointer (some ⟨b1, 0, none⟩)), (8, .int .i64 (b + (s.1 : Int)))]) (fun s => [.own b0 72 (u8s s.2), .own b1 72 (u8s (List.replicate 16 0))]) (fun s => s.2.length = 16 ∧ s.1 ≤ n.toNat ∧ withL ms b n.toNat = withL s.2 (b + (s.1 : Int)) (n.toNat - s.1)) (fun s => n.toNat - s.1) ((0, ms) : Nat × List Int) ⟨hm, Nat.zero_le _, by simp⟩ (agree_cons (by rfl) (agree_cons (by rfl) (agree_cons (by rfl) (agree_cons (by rfl) (agree_cons (by rfl) (agree_cons (by show Value.int .i64 b = _; simp) agree_nil)))))) (by repeat constructor) (fun s g hk => ?_)
    obtain ⟨hk1, hk2, hk3⟩ := hk
    obtain ⟨k, us⟩ := s
    simp only at hk1 hk2 hk3 ⊢
    refine t_seq ?_
    refine t_seq_region ?_
    refine rg_pure (by rfl) (by rfl) (pu_moveE (v := .int .i64 _) (by rfl)) ?_
    refine rg_pure (by rfl) (by rfl) (pu_moveE (v := .int .i64 _) (by rfl)) ?_
    refine rg_pure (by rfl) (by rfl) (pu_moveE (v := .int .i64 _) (by rfl)) ?_
    refine rg_pure (by rfl) (by rfl) (pu_add64 (by rfl) (by rfl) (by omega)) ?_
    refine rg_pure (by rfl) (by rfl) (pu_lss (by rfl) (by rfl)) ?_
    refine rg_nil ?_
    refine t_cond (by rfl) (fun hc1 => ?_) (fun hc1 => ?_)
    ·
      have hk4 : k < n.toNat := by simp at hc1; omega
      refine t_skip ?_
      refine t_seq ?_
      refine t_block ?_
      refine t_seq ?_
      refine t_seq_region ?_
      refine rg_pure (by rfl) (by rfl) (pu_loadAll (by rfl) isAgg72 sizeOf72 (HasE.has (by repeat constructor)) (by first | (simp only [u8s_len, u32s_len, i64s_len, List.length_replicate, List.length_set, sumS_len, *]; done) | rfl)) ?_
      refine rg_pure (by rfl) (by rfl) (pu_moveE (v := .int .i64 _) (by rfl)) ?_
      refine rg_loud (by rfl) (lo_callFQ call50 (by rfl) (fun w hw => has_c _ hk1 _ w (by omega)) ?_)
      refine rg_nil ?_
      refine t_cond (by rfl) (fun hc2 => ?_) (fun hc2 => ?_)
      ·
        have hk6 : withL ms b n.toNat = none := by rw [hk3, show n.toNat - k = (n.toNat - (k + 1)) + 1 by omega, withL, if_pos hc2]
        refine t_seq_region ?_
        refine rg_pure (by rfl) (by rfl) (pu_build0 zeroValue72 ⟨_, _, underlying72, fun w => ⟨1, sizeOf5 w⟩⟩) ?_
        refine rg_loud (by rfl) (lo_storeV (vs := u8s (List.replicate 16 0)) (by rfl) (by rfl) (by rfl) (by repeat constructor) sizeOf72 (by first | (simp only [u8s_len, u32s_len, i64s_len, List.length_replicate, List.length_set, sumS_len, *]; done) | rfl) (one_u8s _) (by first | (simp only [u8s_len, u32s_len, i64s_len, List.length_replicate, List.length_set, sumS_len, *]; done) | rfl) ?_)
        refine rg_pure (by rfl) (by rfl) (pu_assignE (v := .int .i64 _) (by rfl)) ?_
        refine rg_nil ?_
        refine t_ret ?_
        exact Fin.ret (res2 rfl (ResV.cellA (cs := _) (by rfl) isAgg72 sizeOf72 (HasE.has (by repeat constructor)) (by first | (simp only [u8s_len, u32s_len, i64s_len, List.length_replicate, List.length_set, sumS_len, *]; done) | rfl)) .tmp) (by rw [withS, if_neg hgood, hk6]; rfl)
      ·
        have hk6 : withL ms b n.toNat = withL (setS us (b + (k : Int))) (b + ((k + 1 : Nat) : Int)) (n.toNat - (k + 1)) := by rw [hk3, show n.toNat - k = (n.toNat - (k + 1)) + 1 by omega, withL, if_neg (by rw [hc2]; decide), show b + ((k + 1 : Nat) : Int) = b + (k : Int) + 1 by omega]
        refine t_skip ?_
        refine t_region_draw 9 10 _ mixed (Sub.refl _) (by rfl) (by decide +kernel) ?_
        refine ra_pure0 0 1 rfl (by rfl) (by decide +kernel) (by rfl) (pu_moveE (v := .int .i64 _) (by rfl)) ?_
        refine ra_pure0 1 3 rfl (by rfl) (by decide +kernel) (by rfl) (pu_quo64 (by rfl) (by rfl) (by omega)) ?_
        refine ra_pure0 2 7 rfl (by rfl) (by decide +kernel) (by rfl) (pu_indexArr1 (by rfl) (by rfl) underlying72 sizeOf5 (by omega)) ?_
        refine ra_pure 3 15 rfl (by rfl) (by decide +kernel) (by rfl) (pu_load1 (by rfl) isAgg5 (HasE.has (by repeat constructor)) (u8s_get (by rw [hk1]; omega))) ?_
        refine ra_pure0 4 31 rfl (by rfl) (by decide +kernel) (by rfl) (pu_moveE (v := .int .i64 _) (by rfl)) ?_
        refine ra_pure0 5 63 rfl (by rfl) (by decide +kernel) (by rfl) (pu_rem64 (by rfl) (by rfl) (by omega)) ?_
        refine ra_pure0 6 127 rfl (by rfl) (by decide +kernel) (by rfl) (pu_shl (by rfl) (by rfl) (by omega)) ?_
        refine ra_pure0 7 255 rfl (by rfl) (by decide +kernel) (by rfl) (pu_or (by rfl) (by rfl)) ?_
        refine ra_pure0 8 511 rfl (by rfl) (by decide +kernel) (by rfl) (pu_indexArr1 (by rfl) (by rfl) underlying72 sizeOf5 (by omega)) ?_
        refine ra_next 9 1023 (by decide +kernel) ?_
        refine next_loud rfl (by rfl) (lo_store1E (v := .int .u8 _) (cs' := u8s (setS us (b + (k : Int)))) (by rfl) (by rfl) (by rfl) (by repeat constructor) sizeOf5 (by rfl) (by rw [u8s_len, hk1]; omega) (by rw [u8s_set]; rfl) ⟨(fun hlt => absurd hlt (by decide +kernel)), ?_⟩)
        refine ra_end (by decide +kernel) ?_
        refine t_region ?_
        refine rg_pure (by rfl) (by rfl) (pu_moveE (v := .int .i64 _) (by rfl)) ?_
        refine rg_pure (by rfl) (by rfl) (pu_add64 (by rfl) (by rfl) (by omega)) ?_
        refine rg_pure (by rfl) (by rfl) (pu_assignE (v := .int .i64 _) (by rfl)) ?_
        refine rg_nil ?_
        exact ⟨(k + 1, setS us (b + (k : Int))), ⟨by rw [setS_len]; exact hk1, hk4, hk6⟩, by show n.toNat - (k + 1) < n.toNat - k; omega, (agree_cons (by rfl) (agree_cons (by rfl) (agree_cons (by rfl) (agree_cons (by rfl) (agree_cons (by rfl) (agree_cons (by show Value.int .i64 (b + (k : Int) + 1) = _; congr 1; show _ = b + ((k + 1 : Nat) : Int); omega) agree_nil)))))), (by repeat constructor)⟩
    ·
      have hk4 : k = n.toNat := by simp at hc1; omega
      have hk5 : withL ms b n.toNat = some us := by rw [hk3, hk4, Nat.sub_self]; rfl
      refine t_exit ?_
      refine t_seq_region ?_
      refine rg_pure (by rfl) (by rfl) (pu_loadAll (by rfl) isAgg72 sizeOf72 (HasE.has (by repeat constructor)) (by first | (simp only [u8s_len, u32s_len, i64s_len, List.length_replicate, List.length_set, sumS_len, *]; done) | rfl)) ?_
      refine rg_loud (by rfl) (lo_storeV (vs := _) (by rfl) (by rfl) (by rfl) (by repeat constructor) sizeOf72 (by first | (simp only [u8s_len, u32s_len, i64s_len, List.length_replicate, List.length_set, sumS_len, *]; done) | rfl) (one_u8s _) (by first | (simp only [u8s_len, u32s_len, i64s_len, List.length_replicate, List.length_set, sumS_len, *]; done) | rfl) ?_)
      refine rg_pure (by rfl) (by rfl) (pu_assignE (v := .int .i64 _) (by rfl)) ?_
      refine rg_nil ?_
      refine t_ret ?_
      exact Fin.ret (res2 rfl (ResV.cellA (cs := _) (by rfl) isAgg72 sizeOf72 (HasE.has (by repeat constructor)) (by first | (simp only [u8s_len, u32s_len, i64s_len, List.length_replicate, List.length_set, sumS_len, *]; done) | rfl)) .tmp) (by rw [withS, if_neg hgood, hk5]; rfl)
end Go.Proofs.Ytpoecjeknolnoaa
