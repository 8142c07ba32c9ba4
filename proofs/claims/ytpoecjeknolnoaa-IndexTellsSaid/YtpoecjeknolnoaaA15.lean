/- Walks of functions that the statements of this seat reach: what each one hands back. Conditions: those that each theorem names. -/
import Derived.Test.YtpoecjeknolnoaaA14
import Derived.Test.YtpoecjeknolnoaaProg
import Derived.KernelRfl
namespace Go.Proofs.Ytpoecjeknolnoaa
open Go.RowKit Go.Proofs.HL Go.Proofs.Try
set_option maxRecDepth 10000
set_option linter.unusedSimpArgs false
set_option linter.unusedVariables false
attribute [local irreducible] T RG RA Pu Lo
/-! ### Find -/
def cmpK (e : En) (key : List Int) : Int := if lessS e.1 key then -1 else if lessS key e.1 then 1 else 0
theorem argsC2 {f : Fm} {x y : Operand} {a b c : Value} (h1 : ev f x = a) (h2 : ev f y = b) : (List.map (ev f) [x, y] ++ [c]).toArray = [a, b, c].toArray := by simp [h1, h2]
theorem find1_c (e : En) (key : List Int) (he : e.1.length = 32) (hk : key.length = 32) (v : Value) (bS : Nat) (w : World) (hS : w.heap[bS]? = some (.cells #[v, fn48] 69 (0, 0))) : Gives prog 54 [.agg (encE e).toArray, .agg (u8s key).toArray, .pointer (some ⟨bS, 0, none⟩)].toArray w (.int .i64 (cmpK e key)) := by
  refine gives_of_T func54 rfl 20 rfl rfl rfl [.fix bS 69 [v, fn48]] ((holds0 w).addFix (cs := [v, fn48]) hS) ?_
  refine t_seq_region ?_
  refine rg_loud (by rfl) (lo_boxA (by rfl) (by rfl) (fun b0 hb0 => ?_))
  refine rg_loud (by rfl) (lo_boxA (by rfl) (by rfl) (fun b1 hb1 => ?_))
  refine rg_pure (by rfl) (by rfl) (pu_assignE (v := .int .i64 _) (by rfl)) ?_
  refine rg_nil ?_
  refine t_seq ?_
  refine t_block ?_
  refine t_seq_draw 7 7 _ mixed (Sub.refl _) (by rfl) (by decide +kernel) ?_
  first | (refine ra_pure0 0 1 rfl (by rfl) (by decide +kernel) (by rfl) (pu_field (by rfl) underlying69 (by rfl) sizeOf67 (by decide)) ?_) | (refine ra_pure 0 1 rfl (by rfl) (by decide +kernel) (by rfl) (pu_fieldP (by rfl) underlying69 (by rfl) sizeOf67 (by decide) (src_some (SrcE.src (by repeat constructor)) (by omega))) ?_)
  refine ra_pure 1 3 rfl (by rfl) (by decide +kernel) (by rfl) (pu_load1 (v := fn48) (by rfl) isAgg67 (HasE.has (by repeat constructor)) (by rfl)) ?_
  refine ra_pure 2 7 rfl (by rfl) (by decide +kernel) (by rfl) (pu_loadAll (by rfl) isAgg49 sizeOf49 (HasE.has (by repeat constructor)) (encE_len he)) ?_
  refine ra_pure 4 23 rfl (by rfl) (by decide +kernel) (by rfl) (pu_loadAll (by rfl) isAgg47 sizeOf47 (HasE.has (by repeat constructor)) (u8s_len32 hk)) ?_
  refine ra_next 3 31 (by decide +kernel) ?_
  refine next_loud rfl (by rfl) (lo_callQ (cap := []) (by rfl) call48 (by rfl) (fun w hw => gives_eq (argsA1 (by rfl)) (key_c e he w)) ⟨(fun _ => (by repeat constructor)), ?_⟩)
  refine ra_next 5 63 (by decide +kernel) ?_
  refine next_loud rfl (by rfl) (lo_callFQ call49 (by rfl) (fun w hw => less_c e.1 key he hk w) ⟨(fun _ => (by repeat constructor)), ?_⟩)
  refine ra_pure0 6 127 rfl (by rfl) (by decide +kernel) (by rfl) (pu_assignE (v := .bool _) (by rfl)) ?_
  refine ra_end (by decide +kernel) ?_
  refine t_cond (by rfl) (fun hc0 => ?_) (fun hc0 => ?_)
  ·
    refine t_seq_region ?_
    refine rg_pure (by rfl) (by rfl) (pu_assignE (v := .int .i64 (-1)) (by rfl)) ?_
    refine rg_nil ?_
    refine t_ret ?_
    exact Fin.ret (res1 rfl .tmp) (by rw [cmpK, if_pos hc0]; rfl)
  ·
    refine t_seq_draw 7 7 _ mixed (Sub.refl _) (by rfl) (by decide +kernel) ?_
    refine ra_pure 0 1 rfl (by rfl) (by decide +kernel) (by rfl) (pu_loadAll (by rfl) isAgg47 sizeOf47 (HasE.has (by repeat constructor)) (u8s_len32 hk)) ?_
    first | (refine ra_pure0 1 3 rfl (by rfl) (by decide +kernel) (by rfl) (pu_field (by rfl) underlying69 (by rfl) sizeOf67 (by decide)) ?_) | (refine ra_pure 1 3 rfl (by rfl) (by decide +kernel) (by rfl) (pu_fieldP (by rfl) underlying69 (by rfl) sizeOf67 (by decide) (src_some (SrcE.src (by repeat constructor)) (by omega))) ?_)
    refine ra_pure 2 7 rfl (by rfl) (by decide +kernel) (by rfl) (pu_load1 (v := fn48) (by rfl) isAgg67 (HasE.has (by repeat constructor)) (by rfl)) ?_
    refine ra_pure 3 15 rfl (by rfl) (by decide +kernel) (by rfl) (pu_loadAll (by rfl) isAgg49 sizeOf49 (HasE.has (by repeat constructor)) (encE_len he)) ?_
    refine ra_next 4 31 (by decide +kernel) ?_
    refine next_loud rfl (by rfl) (lo_callQ (cap := []) (by rfl) call48 (by rfl) (fun w hw => gives_eq (argsA1 (by rfl)) (key_c e he w)) ⟨(fun _ => (by repeat constructor)), ?_⟩)
    refine ra_next 5 63 (by decide +kernel) ?_
    refine next_loud rfl (by rfl) (lo_callFQ call49 (by rfl) (fun w hw => less_c key e.1 hk he w) ⟨(fun _ => (by repeat constructor)), ?_⟩)
    refine ra_pure0 6 127 rfl (by rfl) (by decide +kernel) (by rfl) (pu_assignE (v := .bool _) (by rfl)) ?_
    refine ra_end (by decide +kernel) ?_
    refine t_cond (by rfl) (fun hc1 => ?_) (fun hc1 => ?_)
    ·
      refine t_seq_region ?_
      refine rg_pure (by rfl) (by rfl) (pu_assignE (v := .int .i64 _) (by rfl)) ?_
      refine rg_nil ?_
      refine t_ret ?_
      exact Fin.ret (res1 rfl .tmp) (by rw [cmpK, if_neg (by rw [hc0]; decide), if_pos hc1]; rfl)
    ·
      refine t_skip ?_
      refine t_seq_region ?_
      refine rg_pure (by rfl) (by rfl) (pu_assignE (v := .int .i64 _) (by rfl)) ?_
      refine rg_nil ?_
      refine t_ret ?_
      exact Fin.ret (res1 rfl .tmp) (by rw [cmpK, if_neg (by rw [hc0]; decide), if_neg (by rw [hc1]; decide)]; rfl)
/-- The binary search. -/
def bsL (l : List En) (key : List Int) (i j : Nat) : Nat :=
  if i < j then (if cmpK (l.getD ((i + j) / 2) d0) key < 0 then bsL l key ((i + j) / 2 + 1) j else bsL l key i ((i + j) / 2)) else i
  termination_by j - i
  decreasing_by all_goals omega
def findS (l : List En) (key : List Int) : Nat × Bool := (bsL l key 0 l.length, decide ((bsL l key 0 l.length : Int) < l.length) && (cmpK (l.getD (bsL l key 0 l.length) d0) key == 0))
theorem mid_eq {i j : Nat} (h : i + j ≤ 4611686018427387904) : IntKind.i64.wrap ((IntKind.u64.wrap ((i : Int) + (j : Int))).fdiv (2 ^ (min (Int.toNat 1) IntKind.u64.bits))) = (((i + j) / 2 : Nat) : Int) := by
  have h1 : IntKind.u64.wrap ((i : Int) + (j : Int)) = (i : Int) + j := by
    simp only [IntKind.wrap, IntKind.signed, IntKind.bits, Bool.false_and, Bool.false_eq_true, if_false]
    exact Int.emod_eq_of_lt (by omega) (by omega)
  have h2 : (2 : Int) ^ (min (Int.toNat 1) IntKind.u64.bits) = 2 := by decide
  rw [h1, h2, Int.fdiv_eq_ediv_of_nonneg _ (by decide), IntKind.wrap_i64]
  omega
theorem bsearch_c (v vv : Value) (l : List En) (key : List Int) (hn : l.length ≤ 1000000) (hk : KeysOk l) (hkey : key.length = 32) (bS : Nat) (w : World) (hS : w.heap[bS]? = some (.cells #[vv, fn48] 69 (0, 0))) (hv : Sl w v 35 l.length (encEs l)) :
    Gives prog 53 [v, .agg (u8s key).toArray, (.func (.func 54) #[] #[.pointer (some ⟨bS, 0, none⟩)])].toArray w (.tuple #[.int .i64 ((findS l key).1 : Int), .bool (findS l key).2]) := by
  refine gives_of_T func53 rfl 49 rfl rfl rfl [.fix bS 69 [vv, fn48], .sl v 35 l.length (encEs l)] (((holds0 w).addSl hv (by decide)).addFix (cs := [vv, fn48]) hS) ?_
  refine t_seq_region ?_
  refine rg_loud (by rfl) (lo_boxA (by rfl) (by rfl) (fun b0 hb0 => ?_))
  refine rg_pure (by rfl) (by rfl) (pu_assignE (v := .int .i64 _) (by rfl)) ?_
  refine rg_pure (by rfl) (by rfl) (pu_assignE (v := .bool _) (by rfl)) ?_
  refine rg_nil ?_
  refine t_seq_region ?_
  refine rg_pure (by rfl) (by rfl) (pu_moveE (v := v) (by rfl)) ?_
  refine rg_pure (by rfl) (by rfl) (pu_len (by rfl) (SrcE.src (by repeat constructor)) (by rfl) underlying22) ?_
  refine rg_pure (by rfl) (by rfl) (pu_assignE (v := .int .i64 _) (by rfl)) ?_
  refine rg_nil ?_
  refine t_seq_region ?_
  refine rg_pure (by rfl) (by rfl) (pu_moveE (v := .int .i64 _) (by rfl)) ?_
  refine rg_pure (by rfl) (by rfl) (pu_assignE (v := .int .i64 _) (by rfl)) ?_
  refine rg_pure (by rfl) (by rfl) (pu_assignE (v := .int .i64 _) (by rfl)) ?_
  refine rg_nil ?_
  refine t_seq ?_
  refine t_block ?_
  refine t_loop (σ := Nat × Nat) (fun s => [(mkS, marksV []), (0, v), (2, (.func (.func 54) #[] #[.pointer (some ⟨bS, 0, none⟩)])), (4, .pointer (some ⟨b0, 0, none⟩)), (8, .int .i64 (l.length : Int)), (9, .int .i64 (s.1 : Int)), (10, .int .i64 (s.2 : Int))]) (fun s => [.own b0 47 (u8s key), .fix bS 69 [vv, fn48], .sl v 35 l.length (encEs l)]) (fun s => s.1 ≤ s.2 ∧ s.2 ≤ l.length ∧ bsL l key 0 l.length = bsL l key s.1 s.2) (fun s => s.2 - s.1) ((0, l.length) : Nat × Nat) ⟨Nat.zero_le _, Nat.le_refl _, rfl⟩ (by repeat (first | exact agree_nil | refine agree_cons (by rfl) ?_)) (by repeat constructor) (fun s g hks => ?_)
  obtain ⟨i, j⟩ := s
  obtain ⟨hi1, hi2, hi3⟩ := hks
  simp only at hi1 hi2 hi3 ⊢
  refine t_seq ?_
  refine t_seq_region ?_
  refine rg_pure (by rfl) (by rfl) (pu_moveE (v := .int .i64 _) (by rfl)) ?_
  refine rg_pure (by rfl) (by rfl) (pu_moveE (v := .int .i64 _) (by rfl)) ?_
  refine rg_pure (by rfl) (by rfl) (pu_lss (by rfl) (by rfl)) ?_
  refine rg_nil ?_
  refine t_cond (by rfl) (fun hc0 => ?_) (fun hc0 => ?_)
  ·
    have hij : i < j := by simp at hc0; omega
    refine t_skip ?_
    refine t_block ?_
    refine t_seq_region ?_
    refine rg_pure (by rfl) (by rfl) (pu_moveE (v := .int .i64 _) (by rfl)) ?_
    refine rg_pure (by rfl) (by rfl) (pu_moveE (v := .int .i64 _) (by rfl)) ?_
    refine rg_pure (by rfl) (by rfl) (pu_add64 (by rfl) (by rfl) (by omega)) ?_
    refine rg_pure (by rfl) (by rfl) (pu_conv (by rfl) underlying3 underlying80 (by rfl)) ?_
    refine rg_pure (by rfl) (by rfl) (pu_shr (by rfl) (by rfl) (by decide)) ?_
    refine rg_pure (by rfl) (by rfl) (pu_conv (by rfl) underlying80 underlying3 (mid_eq (by omega))) ?_
    refine rg_pure (by rfl) (by rfl) (pu_assignE (v := .int .i64 _) (by rfl)) ?_
    refine rg_nil ?_
    refine t_seq_draw 8 8 _ mixed (Sub.refl _) (by rfl) (by decide +kernel) ?_
    refine ra_pure0 0 1 rfl (by rfl) (by decide +kernel) (by rfl) (pu_moveE (v := (.func (.func 54) #[] #[.pointer (some ⟨bS, 0, none⟩)])) (by rfl)) ?_
    refine ra_pure0 1 3 rfl (by rfl) (by decide +kernel) (by rfl) (pu_moveE (v := v) (by rfl)) ?_
    refine ra_pure0 2 7 rfl (by rfl) (by decide +kernel) (by rfl) (pu_moveE (v := .int .i64 _) (by rfl)) ?_
    refine ra_pure 3 15 rfl (by rfl) (by decide +kernel) (by rfl) (pu_index (by rfl) (by rfl) (SrcE.src (by repeat constructor)) underlying22 sizeOf49 (by omega)) ?_
    refine ra_pure 4 31 rfl (by rfl) (by decide +kernel) (by rfl) (pu_loadS (ds := encE (l.getD ((i + j) / 2) d0)) (by rfl) isAgg49 sizeOf49 (SrcE.src (by repeat constructor)) (encEs_at hk (by omega)) (encE_len (hk.at_ _)) (by decide)) ?_
    refine ra_pure 5 63 rfl (by rfl) (by decide +kernel) (by rfl) (pu_loadAll (by rfl) isAgg47 sizeOf47 (HasE.has (by repeat constructor)) (u8s_len32 hkey)) ?_
    refine ra_next 6 127 (by decide +kernel) ?_
    refine next_loud rfl (by rfl) (lo_callQ (cap := [.pointer (some ⟨bS, 0, none⟩)]) (by rfl) call54 (by rfl) (fun w hw => gives_eq (argsC2 (by rfl) (by rfl)) (find1_c (l.getD ((i + j) / 2) d0) key (hk.at_ _) hkey vv bS w (hw (.fix bS 69 [vv, fn48]) (by simp)))) ⟨(fun _ => (by repeat constructor)), ?_⟩)
    refine ra_pure0 7 255 rfl (by rfl) (by decide +kernel) (by rfl) (pu_lss (by rfl) (by rfl)) ?_
    refine ra_end (by decide +kernel) ?_
    refine t_cond (by rfl) (fun hc1 => ?_) (fun hc1 => ?_)
    ·
      have hst : bsL l key 0 l.length = bsL l key ((i + j) / 2 + 1) j := by rw [hi3, bsL, if_pos hij, if_pos (by simpa using hc1)]
      refine t_region ?_
      refine rg_pure (by rfl) (by rfl) (pu_moveE (v := .int .i64 _) (by rfl)) ?_
      refine rg_pure (by rfl) (by rfl) (pu_add64 (by rfl) (by rfl) (by omega)) ?_
      refine rg_pure (by rfl) (by rfl) (pu_assignE (v := .int .i64 _) (by rfl)) ?_
      refine rg_nil ?_
      exact ⟨((i + j) / 2 + 1, j), ⟨by show (i + j) / 2 + 1 ≤ j; omega, hi2, hst⟩, by show j - ((i + j) / 2 + 1) < j - i; omega, (by repeat (first | exact agree_nil | refine agree_cons (by rfl) ?_)), by repeat constructor⟩
      
    ·
      have hst : bsL l key 0 l.length = bsL l key i ((i + j) / 2) := by rw [hi3, bsL, if_pos hij, if_neg (by simpa using hc1)]
      refine t_region ?_
      refine rg_pure (by rfl) (by rfl) (pu_moveE (v := .int .i64 _) (by rfl)) ?_
      refine rg_pure (by rfl) (by rfl) (pu_assignE (v := .int .i64 _) (by rfl)) ?_
      refine rg_nil ?_
      exact ⟨(i, (i + j) / 2), ⟨by show i ≤ (i + j) / 2; omega, by show (i + j) / 2 ≤ l.length; omega, hst⟩, by show (i + j) / 2 - i < j - i; omega, (by repeat (first | exact agree_nil | refine agree_cons (by rfl) ?_)), by repeat constructor⟩
      
  ·
    have hij : i = j := by simp at hc0; omega
    have hall : bsL l key 0 l.length = i := by rw [hi3, bsL, if_neg (by omega)]
    refine t_exit ?_
    refine t_seq_draw 16 16 _ mixed (Sub.refl _) (by rfl) (by decide +kernel) ?_
    refine ra_pure0 0 1 rfl (by rfl) (by decide +kernel) (by rfl) (pu_moveE (v := .int .i64 _) (by rfl)) ?_
    refine ra_pure0 1 3 rfl (by rfl) (by decide +kernel) (by rfl) (pu_moveE (v := .int .i64 _) (by rfl)) ?_
    refine ra_pure0 2 7 rfl (by rfl) (by decide +kernel) (by rfl) (pu_moveE (v := .int .i64 _) (by rfl)) ?_
    refine ra_pure0 3 15 rfl (by rfl) (by decide +kernel) (by rfl) (pu_lss (by rfl) (by rfl)) ?_
    refine ra_pure0 4 31 rfl (by rfl) (by decide +kernel) (by rfl) (pu_moveE (v := .bool _) (by rfl)) ?_
    refine ra_gpure0 5 63 rfl (by rfl) (by rfl) (by rfl) (by decide +kernel) (by rfl) (fun hg => pu_moveE (v := (.func (.func 54) #[] #[.pointer (some ⟨bS, 0, none⟩)])) (by rfl)) ?_
    refine ra_gpure0 6 127 rfl (by rfl) (by rfl) (by rfl) (by decide +kernel) (by rfl) (fun hg => pu_moveE (v := v) (by rfl)) ?_
    refine ra_gpure0 7 255 rfl (by rfl) (by rfl) (by rfl) (by decide +kernel) (by rfl) (fun hg => pu_moveE (v := .int .i64 _) (by rfl)) ?_
    refine ra_gpure 8 511 rfl (by rfl) (by rfl) (by rfl) (by decide +kernel) (by rfl) (fun hg => pu_index (gvE hg (by rfl)) (gvE hg (by rfl)) (SrcE.src (by repeat constructor)) underlying22 sizeOf49 (by simp [-List.getD_eq_getElem?_getD] at hg; omega)) ?_
    refine ra_gpure 9 1023 rfl (by rfl) (by rfl) (by rfl) (by decide +kernel) (by rfl) (fun hg => pu_loadS (ds := encE (l.getD (i) d0)) (gvE hg (by rfl)) isAgg49 sizeOf49 (SrcE.src (by repeat constructor)) (encEs_at hk (by simp [-List.getD_eq_getElem?_getD] at hg; omega)) (encE_len (hk.at_ _)) (by decide)) ?_
    refine ra_gpure 10 2047 rfl (by rfl) (by rfl) (by rfl) (by decide +kernel) (by rfl) (fun hg => pu_loadAll (by rfl) isAgg47 sizeOf47 (HasE.has (by repeat constructor)) (u8s_len32 hkey)) ?_
    refine ra_next 11 4095 (by decide +kernel) ?_
    refine next_gcall rfl (by rfl) (by rfl) (by rfl) (by rfl) (by repeat constructor) (fun hg => lo_callP (cap := [.pointer (some ⟨bS, 0, none⟩)]) (gvE hg (by rfl)) call54 (by rfl) (fun w hw => gives_eq (argsC2 (gvE hg (by rfl)) (gvE hg (by rfl))) (find1_c (l.getD i d0) key (hk.at_ _) hkey vv bS w (hw (.fix bS 69 [vv, fn48]) (by simp))))) ?_
    refine ra_gpure0 12 8191 rfl (by rfl) (by rfl) (by rfl) (by decide +kernel) (by rfl) (fun hg => pu_eql (gvE hg (by rfl)) (by rfl)) ?_
    refine ra_pure0 13 16383 rfl (by rfl) (by decide +kernel) (by rfl) (pu_pickAnd (by rfl) (by rfl)) ?_
    refine ra_pure0 14 32767 rfl (by rfl) (by decide +kernel) (by rfl) (pu_assignE (v := .int .i64 _) (by rfl)) ?_
    refine ra_pure0 15 65535 rfl (by rfl) (by decide +kernel) (by rfl) (pu_assignE (v := .bool _) (by rfl)) ?_
    refine ra_end (by decide +kernel) ?_
    refine t_ret ?_
    exact Fin.ret (res2 rfl .tmp .tmp) (by rw [findS, hall]; rfl)
theorem find_c (v : Value) (l : List En) (key : List Int) (hn : l.length ≤ 1000000) (hk : KeysOk l) (hkey : key.length = 32) (w : World) (hv : Sl w v 35 l.length (encEs l)) :
    Gives prog 39 [.agg [v, fn48].toArray, .agg (u8s key).toArray].toArray w (.tuple #[.int .i64 ((findS l key).1 : Int), .bool (findS l key).2]) := by
  refine gives_of_T func39 rfl 13 rfl rfl rfl [.sl v 35 l.length (encEs l)] ((holds0 w).addSl hv (by decide)) ?_
  refine t_seq_region ?_
  refine rg_loud (by rfl) (lo_boxA (by rfl) (by rfl) (fun b0 hb0 => ?_))
  refine rg_loud (by rfl) (lo_boxA (by rfl) (by rfl) (fun b1 hb1 => ?_))
  refine rg_pure (by rfl) (by rfl) (pu_assignE (v := .int .i64 _) (by rfl)) ?_
  refine rg_pure (by rfl) (by rfl) (pu_assignE (v := .bool _) (by rfl)) ?_
  refine rg_nil ?_
  refine t_seq_region ?_
  first | (refine rg_pure (by rfl) (by rfl) (pu_field (by rfl) underlying69 (by rfl) sizeOf22 (by decide)) ?_) | (refine rg_pure (by rfl) (by rfl) (pu_fieldP (by rfl) underlying69 (by rfl) sizeOf22 (by decide) (src_some (SrcE.src (by repeat constructor)) (by omega))) ?_)
  refine rg_pure (by rfl) (by rfl) (pu_load1 (v := v) (by rfl) isAgg22 (HasE.has (by repeat constructor)) (by rfl)) ?_
  refine rg_pure (by rfl) (by rfl) (pu_loadAll (by rfl) isAgg47 sizeOf47 (HasE.has (by repeat constructor)) (u8s_len32 hkey)) ?_
  refine rg_pure (by rfl) (by rfl) (pu_makeFuncL) ?_
  refine rg_loud (by rfl) (lo_callFQ call53 (by rfl) (fun w hw => bsearch_c v v l key hn hk hkey b0 w (hw (.own b0 69 [v, fn48]) (by simp)) ((SrcE.src (by repeat constructor)) w hw)) ?_)
  refine rg_pure (by rfl) (by rfl) (pu_extract (by rfl) (by rfl)) ?_
  refine rg_pure (by rfl) (by rfl) (pu_extract (by rfl) (by rfl)) ?_
  refine rg_pure (by rfl) (by rfl) (pu_assignE (v := .int .i64 _) (by rfl)) ?_
  refine rg_pure (by rfl) (by rfl) (pu_assignE (v := .bool _) (by rfl)) ?_
  refine rg_nil ?_
  refine t_ret ?_
  exact Fin.ret (res2 rfl .tmp .tmp) (by rfl)
theorem Find_c (v : Value) (l : List En) (key : List Int) (hn : l.length ≤ 1000000) (hk : KeysOk l) (hkey : key.length = 32) (w : World) (hv : Sl w v 35 l.length (encEs l)) :
    Gives prog 22 [v, .agg (u8s key).toArray].toArray w (.tuple #[.int .i64 ((findS l key).1 : Int), .bool (findS l key).2]) := by
  have hv1 : ∃ A n c, v = .slice A n c := hv.isSl
  refine gives_of_T func22 rfl 12 rfl rfl rfl [.sl v 35 l.length (encEs l)] ((holds0 w).addSl hv (by decide)) ?_
  refine t_seq_region ?_
  refine rg_loud (by rfl) (lo_boxA (by rfl) (by rfl) (fun b0 hb0 => ?_))
  refine rg_pure (by rfl) (by rfl) (pu_assignE (v := .int .i64 _) (by rfl)) ?_
  refine rg_pure (by rfl) (by rfl) (pu_assignE (v := .bool _) (by rfl)) ?_
  refine rg_nil ?_
  refine t_seq_draw 8 8 _ mixed (Sub.refl _) (by rfl) (by decide +kernel) ?_
  refine ra_pure0 0 1 rfl (by rfl) (by decide +kernel) (by rfl) (pu_moveE (v := v) (by rfl)) ?_
  refine ra_pure 2 5 rfl (by rfl) (by decide +kernel) (by rfl) (pu_loadAll (by rfl) isAgg47 sizeOf47 (HasE.has (by repeat constructor)) (u8s_len32 hkey)) ?_
  refine ra_next 1 7 (by decide +kernel) ?_
  refine next_loud rfl (by rfl) (lo_callFQ call31 (by rfl) (fun w hw => of_c v hv1 w) ⟨(fun _ => (by repeat constructor)), ?_⟩)
  refine ra_next 3 15 (by decide +kernel) ?_
  refine next_loud rfl (by rfl) (lo_callFQ call39 (by rfl) (fun w hw => find_c v l key hn hk hkey w ((SrcE.src (by repeat constructor)) w hw)) ⟨(fun _ => (by repeat constructor)), ?_⟩)
  refine ra_pure0 4 31 rfl (by rfl) (by decide +kernel) (by rfl) (pu_extract (by rfl) (by rfl)) ?_
  refine ra_pure0 5 63 rfl (by rfl) (by decide +kernel) (by rfl) (pu_extract (by rfl) (by rfl)) ?_
  refine ra_pure0 6 127 rfl (by rfl) (by decide +kernel) (by rfl) (pu_assignE (v := .int .i64 _) (by rfl)) ?_
  refine ra_pure0 7 255 rfl (by rfl) (by decide +kernel) (by rfl) (pu_assignE (v := .bool _) (by rfl)) ?_
  refine ra_end (by decide +kernel) ?_
  refine t_ret ?_
  exact Fin.ret (res2 rfl .tmp .tmp) (by rfl)
end Go.Proofs.Ytpoecjeknolnoaa
