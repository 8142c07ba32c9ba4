/- Walks of functions that the statements of this seat reach: what each one hands back. Conditions: those that each theorem names. -/
import Derived.Test.YtpoecjeknolnoaaA8
import Derived.Test.YtpoecjeknolnoaaProg
import Derived.KernelRfl
namespace Go.Proofs.Ytpoecjeknolnoaa
open Go.RowKit Go.Proofs.HL Go.Proofs.Try
set_option maxRecDepth 10000
set_option linter.unusedSimpArgs false
set_option linter.unusedVariables false
attribute [local irreducible] T RG RA Pu Lo
theorem chunkB_c (v : Value) (hv : IsSl v) (w : World) : Calls prog 62 [v, .int .i64 36].toArray w (Ret [] w fun u w' => ∃ i : Nat × Nat, True ∧ u = .func (.func 68) #[] #[.pointer (some ⟨i.1, 0, none⟩), .pointer (some ⟨i.2, 0, none⟩)] ∧ Fresh w.heap.size [Ent.own i.1 45 [v], Ent.own i.2 3 [.int .i64 36]] w') := by
  refine hands_of_T (V := fun i : Nat × Nat => .func (.func 68) #[] #[.pointer (some ⟨i.1, 0, none⟩), .pointer (some ⟨i.2, 0, none⟩)]) (E := fun i => [Ent.own i.1 45 [v], Ent.own i.2 3 [.int .i64 36]]) func62 rfl 9 rfl rfl rfl [] (holds0 w) (fun _ => rfl) ?_
  refine t_seq_region ?_
  refine rg_loud (by rfl) (lo_box1 (v := v) (by rfl) (by rfl) hv.one (fun b0 hb0 => ?_))
  refine rg_loud (by rfl) (lo_box1 (v := .int .i64 _) (by rfl) (by rfl) (by rfl) (fun b1 hb1 => ?_))
  refine rg_pure (by rfl) (by rfl) (pu_assign) ?_
  refine rg_nil ?_
  refine t_seq ?_
  refine t_seq_region ?_
  refine rg_pure (by rfl) (by rfl) (pu_load1 (v := .int .i64 36) (by rfl) isAgg3 (HasE.has (by repeat constructor)) (by rfl)) ?_
  refine rg_pure (by rfl) (by rfl) (pu_lss (by rfl) (by rfl)) ?_
  refine rg_nil ?_
  refine t_cond (by rfl) (fun hc0 => ?_) (fun hc0 => ?_)
  ·
    exact absurd hc0 (by decide)
  ·
    refine t_skip ?_
    refine t_seq_region ?_
    refine rg_pure (by rfl) (by rfl) (pu_makeFuncL) ?_
    refine rg_pure (by rfl) (by rfl) (pu_assign) ?_
    refine rg_nil ?_
    refine t_ret ?_
    exact Fin.ret (res1 rfl .tmp) ⟨(b0, b1), trivial, rfl, by repeat constructor⟩
theorem chunkBIt_c (v : Value) (N q : Nat) (hN : N ≤ 9223372036854770000) (hq : (N + 35) / 36 = q) (xs : List Value) (bS bN : Nat) : IterC prog 68 [.pointer (some ⟨bS, 0, none⟩), .pointer (some ⟨bN, 0, none⟩)] (fun (k : Nat) => [slV3 1 v (36 * k) (min (36 * k + 36) N) (min (36 * k + 36) N)]) (List.range q) [.own bS 45 [v], .own bN 3 [.int .i64 36], .sl v 1 N xs] := by
  intro w0 M G l J Jx es hY hJ w hw
  refine calls_of_T (PE := fun _ es' => ∃ e1, es' = [.own bS 45 [v], .own bN 3 [.int .i64 36], .sl v 1 N xs] ++ e1 ∧ (J (List.range q) e1 ∨ Jx e1)) func68 rfl 31 rfl (Nat.le_of_ble_eq_true rfl) (by decide) ([.own bS 45 [v], .own bN 3 [.int .i64 36], .sl v 1 N xs] ++ es) hw ?_ (fun v es' w' hw' hp => by
    obtain ⟨e1, rfl, hp⟩ := hp
    exact ⟨v, rfl, e1, hp, hw'⟩)
  show T _ _ _ _ _ _ _ (.own bS 45 [v] :: .own bN 3 [.int .i64 36] :: .sl v 1 N xs :: es) _
  refine t_seq_region ?_
  refine rg_pure (by rfl) (by rfl) (pu_assignE (v := .int .i64 _) (by rfl)) ?_
  refine rg_nil ?_
  refine t_block ?_
  refine t_loop (σ := Nat × List Ent) (fun s => [(mkS, marksV []), (0, .func (.yield l) #[] #[]), (1, .pointer (some ⟨bS, 0, none⟩)), (2, .pointer (some ⟨bN, 0, none⟩)), (4, .int .i64 ((36 * s.1 : Nat) : Int))]) (fun s => .own bS 45 [v] :: .own bN 3 [.int .i64 36] :: .sl v 1 N xs :: s.2) (fun s => s.1 ≤ q ∧ J (List.range s.1) s.2) (fun s => q - s.1) ((0, es) : Nat × List Ent) ⟨Nat.zero_le _, hJ⟩ (by repeat (first | exact agree_nil | refine agree_cons (by rfl) ?_)) (Sub.refl _) (fun s g hks => ?_)
  obtain ⟨k, e1⟩ := s
  obtain ⟨hk2, hk3⟩ := hks
  simp only at hk2 hk3 ⊢
  refine t_seq ?_
  refine t_seq_region ?_
  refine rg_pure (by rfl) (by rfl) (pu_moveE (v := .int .i64 _) (by rfl)) ?_
  refine rg_pure (by rfl) (by rfl) (pu_load1 (v := v) (by rfl) isAgg45 (HasE.has (by repeat constructor)) (by rfl)) ?_
  refine rg_pure (by rfl) (by rfl) (pu_len (by rfl) (SrcE.src (by repeat constructor)) (by rfl) underlying45) ?_
  refine rg_pure (by rfl) (by rfl) (pu_lss (by rfl) (by rfl)) ?_
  refine rg_nil ?_
  refine t_cond (by rfl) (fun hc0 => ?_) (fun hc0 => ?_)
  ·
    have hk1 : 36 * k < N := by simp at hc0; omega
    have hkq : k < q := by omega
    have hhi : 36 * k ≤ min (36 * k + 36) N := by omega
    have hhn : min (36 * k + 36) N ≤ N := by omega
    refine t_skip ?_
    refine t_seq ?_
    refine t_block ?_
    refine t_seq_draw 7 7 _ mixed (Sub.refl _) (by rfl) (by decide +kernel) ?_
    refine ra_pure 0 1 rfl (by rfl) (by decide +kernel) (by rfl) (pu_load1 (v := .int .i64 36) (by rfl) isAgg3 (HasE.has (by repeat constructor)) (by rfl)) ?_
    refine ra_pure 1 3 rfl (by rfl) (by decide +kernel) (by rfl) (pu_load1 (v := v) (by rfl) isAgg45 (HasE.has (by repeat constructor)) (by rfl)) ?_
    refine ra_pure0 2 7 rfl (by rfl) (by decide +kernel) (by rfl) (pu_moveE (v := .int .i64 _) (by rfl)) ?_
    refine ra_pure 3 15 rfl (by rfl) (by decide +kernel) (by rfl) (pu_slice (l := 36 * k) (h := N) (by rfl) (SrcE.src (by repeat constructor)) underlying45 sizeOf5 (bv_some (by rfl)) bv_none (by omega) (by omega)) ?_
    refine ra_pure 4 31 rfl (by rfl) (by decide +kernel) (by rfl) (pu_len (by rfl) (src_cut (SrcE.src (by repeat constructor)) (l := 36 * k) (h := N) (by omega) (by omega)) (by rfl) underlying45) ?_
    refine ra_pure0 5 63 rfl (by rfl) (by decide +kernel) (by rfl) (pu_min2 (by rfl) (by rfl)) ?_
    refine ra_pure0 6 127 rfl (by rfl) (by decide +kernel) (by rfl) (pu_assignE (v := .int .i64 (((min (36 * k + 36) N) - 36 * k : Nat) : Int)) (by show Value.int .i64 (if ((N - 36 * k : Nat) : Int) < 36 then ((N - 36 * k : Nat) : Int) else 36) = _; congr 1; split <;> omega)) ?_
    refine ra_end (by decide +kernel) ?_
    refine t_seq_region ?_
    refine rg_pure (by rfl) (by rfl) (pu_moveE (v := .func (.yield l) #[] #[]) (by rfl)) ?_
    refine rg_pure (by rfl) (by rfl) (pu_load1 (v := v) (by rfl) isAgg45 (HasE.has (by repeat constructor)) (by rfl)) ?_
    refine rg_pure (by rfl) (by rfl) (pu_moveE (v := .int .i64 _) (by rfl)) ?_
    refine rg_pure (by rfl) (by rfl) (pu_moveE (v := .int .i64 _) (by rfl)) ?_
    refine rg_pure (by rfl) (by rfl) (pu_moveE (v := .int .i64 _) (by rfl)) ?_
    refine rg_pure (by rfl) (by rfl) (pu_add64 (by rfl) (by rfl) (by omega)) ?_
    refine rg_pure (by rfl) (by rfl) (pu_moveE (v := .int .i64 _) (by rfl)) ?_
    refine rg_pure (by rfl) (by rfl) (pu_moveE (v := .int .i64 _) (by rfl)) ?_
    refine rg_pure (by rfl) (by rfl) (pu_add64 (by rfl) (by rfl) (by omega)) ?_
    refine rg_pure (by rfl) (by rfl) (pu_slice3 (l := 36 * k) (h := min (36 * k + 36) N) (m := min (36 * k + 36) N) (by rfl) (SrcE.src (by repeat constructor)) underlying45 sizeOf5 (bv_some (by omega)) (bv_some (by omega)) (bv_some (by omega)) (by omega) (by omega) (by omega)) ?_
    refine rg_loud (by rfl) (lo_yield (I := [.own bS 45 [v], .own bN 3 [.int .i64 36], .sl v 1 N xs]) (by rfl) (by rfl) (.cons (.cons (.cons .nil))) (hY (List.range k) k e1 hk3 (range_prefix hkq)) (fun yb e2 hyb => ?_))
    refine rg_pure (by rfl) (by rfl) (pu_not (by rfl)) ?_
    refine rg_nil ?_
    refine t_cond (by rfl) (fun hc1 => ?_) (fun hc1 => ?_)
    ·
      have hj : Jx e2 := by
        rcases hyb with ⟨h, _⟩ | ⟨_, h⟩
        · rw [h] at hc1; cases hc1
        · exact h
      refine t_ret ?_
      exact Fin.ret (res0 rfl) ⟨e2, rfl, .inr hj⟩
    ·
      have hj : J (List.range (k + 1)) e2 := by
        rcases hyb with ⟨_, h⟩ | ⟨h, _⟩
        · rw [List.range_succ]; exact h
        · rw [h] at hc1; cases hc1
      refine t_skip ?_
      refine t_region ?_
      refine rg_pure (by rfl) (by rfl) (pu_moveE (v := .int .i64 _) (by rfl)) ?_
      refine rg_pure (by rfl) (by rfl) (pu_load1 (v := .int .i64 36) (by rfl) isAgg3 (HasE.has (by repeat constructor)) (by rfl)) ?_
      refine rg_pure (by rfl) (by rfl) (pu_add64 (by rfl) (by rfl) (by omega)) ?_
      refine rg_pure (by rfl) (by rfl) (pu_assignE (v := .int .i64 _) (by rfl)) ?_
      refine rg_nil ?_
      exact ⟨(k + 1, e2), ⟨hkq, hj⟩, by show q - (k + 1) < q - k; omega, (agree_cons (by rfl) (agree_cons (by rfl) (agree_cons (by rfl) (agree_cons (by rfl) (agree_cons (by show Value.int .i64 (((36 * k : Nat) : Int) + 36) = _; congr 1) agree_nil))))), Sub.refl _⟩
  ·
    have hk1 : N ≤ 36 * k := by simp at hc0; omega
    have hkq : k = q := by omega
    subst hkq
    refine t_exit ?_
    exact Fin.normal (res0 rfl) ⟨e1, rfl, .inl hk3⟩
theorem chunkE_c (v : Value) (hv : IsSl v) (w : World) : Calls prog 24 [v, .int .i64 3].toArray w (Ret [] w fun u w' => ∃ i : Nat × Nat, True ∧ u = .func (.func 41) #[] #[.pointer (some ⟨i.1, 0, none⟩), .pointer (some ⟨i.2, 0, none⟩)] ∧ Fresh w.heap.size [Ent.own i.1 22 [v], Ent.own i.2 3 [.int .i64 3]] w') := by
  refine hands_of_T (V := fun i : Nat × Nat => .func (.func 41) #[] #[.pointer (some ⟨i.1, 0, none⟩), .pointer (some ⟨i.2, 0, none⟩)]) (E := fun i => [Ent.own i.1 22 [v], Ent.own i.2 3 [.int .i64 3]]) func24 rfl 9 rfl rfl rfl [] (holds0 w) (fun _ => rfl) ?_
  refine t_seq_region ?_
  refine rg_loud (by rfl) (lo_box1 (v := v) (by rfl) (by rfl) hv.one (fun b0 hb0 => ?_))
  refine rg_loud (by rfl) (lo_box1 (v := .int .i64 _) (by rfl) (by rfl) (by rfl) (fun b1 hb1 => ?_))
  refine rg_pure (by rfl) (by rfl) (pu_assign) ?_
  refine rg_nil ?_
  refine t_seq ?_
  refine t_seq_region ?_
  refine rg_pure (by rfl) (by rfl) (pu_load1 (v := .int .i64 3) (by rfl) isAgg3 (HasE.has (by repeat constructor)) (by rfl)) ?_
  refine rg_pure (by rfl) (by rfl) (pu_lss (by rfl) (by rfl)) ?_
  refine rg_nil ?_
  refine t_cond (by rfl) (fun hc0 => ?_) (fun hc0 => ?_)
  ·
    exact absurd hc0 (by decide)
  ·
    refine t_skip ?_
    refine t_seq_region ?_
    refine rg_pure (by rfl) (by rfl) (pu_makeFuncL) ?_
    refine rg_pure (by rfl) (by rfl) (pu_assign) ?_
    refine rg_nil ?_
    refine t_ret ?_
    exact Fin.ret (res1 rfl .tmp) ⟨(b0, b1), trivial, rfl, by repeat constructor⟩
theorem chunkEIt_c (v : Value) (N q : Nat) (hN : N ≤ 9223372036854770000) (hq : (N + 2) / 3 = q) (xs : List Value) (bS bN : Nat) : IterC prog 41 [.pointer (some ⟨bS, 0, none⟩), .pointer (some ⟨bN, 0, none⟩)] (fun (k : Nat) => [slV3 35 v (3 * k) (min (3 * k + 3) N) (min (3 * k + 3) N)]) (List.range q) [.own bS 22 [v], .own bN 3 [.int .i64 3], .sl v 35 N xs] := by
  intro w0 M G l J Jx es hY hJ w hw
  refine calls_of_T (PE := fun _ es' => ∃ e1, es' = [.own bS 22 [v], .own bN 3 [.int .i64 3], .sl v 35 N xs] ++ e1 ∧ (J (List.range q) e1 ∨ Jx e1)) func41 rfl 31 rfl (Nat.le_of_ble_eq_true rfl) (by decide) ([.own bS 22 [v], .own bN 3 [.int .i64 3], .sl v 35 N xs] ++ es) hw ?_ (fun v es' w' hw' hp => by
    obtain ⟨e1, rfl, hp⟩ := hp
    exact ⟨v, rfl, e1, hp, hw'⟩)
  show T _ _ _ _ _ _ _ (.own bS 22 [v] :: .own bN 3 [.int .i64 3] :: .sl v 35 N xs :: es) _
  refine t_seq_region ?_
  refine rg_pure (by rfl) (by rfl) (pu_assignE (v := .int .i64 _) (by rfl)) ?_
  refine rg_nil ?_
  refine t_block ?_
  refine t_loop (σ := Nat × List Ent) (fun s => [(mkS, marksV []), (0, .func (.yield l) #[] #[]), (1, .pointer (some ⟨bS, 0, none⟩)), (2, .pointer (some ⟨bN, 0, none⟩)), (4, .int .i64 ((3 * s.1 : Nat) : Int))]) (fun s => .own bS 22 [v] :: .own bN 3 [.int .i64 3] :: .sl v 35 N xs :: s.2) (fun s => s.1 ≤ q ∧ J (List.range s.1) s.2) (fun s => q - s.1) ((0, es) : Nat × List Ent) ⟨Nat.zero_le _, hJ⟩ (by repeat (first | exact agree_nil | refine agree_cons (by rfl) ?_)) (Sub.refl _) (fun s g hks => ?_)
  obtain ⟨k, e1⟩ := s
  obtain ⟨hk2, hk3⟩ := hks
  simp only at hk2 hk3 ⊢
  refine t_seq ?_
  refine t_seq_region ?_
  refine rg_pure (by rfl) (by rfl) (pu_moveE (v := .int .i64 _) (by rfl)) ?_
  refine rg_pure (by rfl) (by rfl) (pu_load1 (v := v) (by rfl) isAgg22 (HasE.has (by repeat constructor)) (by rfl)) ?_
  refine rg_pure (by rfl) (by rfl) (pu_len (by rfl) (SrcE.src (by repeat constructor)) (by rfl) underlying22) ?_
  refine rg_pure (by rfl) (by rfl) (pu_lss (by rfl) (by rfl)) ?_
  refine rg_nil ?_
  refine t_cond (by rfl) (fun hc0 => ?_) (fun hc0 => ?_)
  ·
    have hk1 : 3 * k < N := by simp at hc0; omega
    have hkq : k < q := by omega
    have hhi : 3 * k ≤ min (3 * k + 3) N := by omega
    have hhn : min (3 * k + 3) N ≤ N := by omega
    refine t_skip ?_
    refine t_seq ?_
    refine t_block ?_
    refine t_seq_draw 7 7 _ mixed (Sub.refl _) (by rfl) (by decide +kernel) ?_
    refine ra_pure 0 1 rfl (by rfl) (by decide +kernel) (by rfl) (pu_load1 (v := .int .i64 3) (by rfl) isAgg3 (HasE.has (by repeat constructor)) (by rfl)) ?_
    refine ra_pure 1 3 rfl (by rfl) (by decide +kernel) (by rfl) (pu_load1 (v := v) (by rfl) isAgg22 (HasE.has (by repeat constructor)) (by rfl)) ?_
    refine ra_pure0 2 7 rfl (by rfl) (by decide +kernel) (by rfl) (pu_moveE (v := .int .i64 _) (by rfl)) ?_
    refine ra_pure 3 15 rfl (by rfl) (by decide +kernel) (by rfl) (pu_slice (l := 3 * k) (h := N) (by rfl) (SrcE.src (by repeat constructor)) underlying22 sizeOf49 (bv_some (by rfl)) bv_none (by omega) (by omega)) ?_
    refine ra_pure 4 31 rfl (by rfl) (by decide +kernel) (by rfl) (pu_len (by rfl) (src_cut (SrcE.src (by repeat constructor)) (l := 3 * k) (h := N) (by omega) (by omega)) (by rfl) underlying22) ?_
    refine ra_pure0 5 63 rfl (by rfl) (by decide +kernel) (by rfl) (pu_min2 (by rfl) (by rfl)) ?_
    refine ra_pure0 6 127 rfl (by rfl) (by decide +kernel) (by rfl) (pu_assignE (v := .int .i64 (((min (3 * k + 3) N) - 3 * k : Nat) : Int)) (by show Value.int .i64 (if ((N - 3 * k : Nat) : Int) < 3 then ((N - 3 * k : Nat) : Int) else 3) = _; congr 1; split <;> omega)) ?_
    refine ra_end (by decide +kernel) ?_
    refine t_seq_region ?_
    refine rg_pure (by rfl) (by rfl) (pu_moveE (v := .func (.yield l) #[] #[]) (by rfl)) ?_
    refine rg_pure (by rfl) (by rfl) (pu_load1 (v := v) (by rfl) isAgg22 (HasE.has (by repeat constructor)) (by rfl)) ?_
    refine rg_pure (by rfl) (by rfl) (pu_moveE (v := .int .i64 _) (by rfl)) ?_
    refine rg_pure (by rfl) (by rfl) (pu_moveE (v := .int .i64 _) (by rfl)) ?_
    refine rg_pure (by rfl) (by rfl) (pu_moveE (v := .int .i64 _) (by rfl)) ?_
    refine rg_pure (by rfl) (by rfl) (pu_add64 (by rfl) (by rfl) (by omega)) ?_
    refine rg_pure (by rfl) (by rfl) (pu_moveE (v := .int .i64 _) (by rfl)) ?_
    refine rg_pure (by rfl) (by rfl) (pu_moveE (v := .int .i64 _) (by rfl)) ?_
    refine rg_pure (by rfl) (by rfl) (pu_add64 (by rfl) (by rfl) (by omega)) ?_
    refine rg_pure (by rfl) (by rfl) (pu_slice3 (l := 3 * k) (h := min (3 * k + 3) N) (m := min (3 * k + 3) N) (by rfl) (SrcE.src (by repeat constructor)) underlying22 sizeOf49 (bv_some (by omega)) (bv_some (by omega)) (bv_some (by omega)) (by omega) (by omega) (by omega)) ?_
    refine rg_loud (by rfl) (lo_yield (I := [.own bS 22 [v], .own bN 3 [.int .i64 3], .sl v 35 N xs]) (by rfl) (by rfl) (.cons (.cons (.cons .nil))) (hY (List.range k) k e1 hk3 (range_prefix hkq)) (fun yb e2 hyb => ?_))
    refine rg_pure (by rfl) (by rfl) (pu_not (by rfl)) ?_
    refine rg_nil ?_
    refine t_cond (by rfl) (fun hc1 => ?_) (fun hc1 => ?_)
    ·
      have hj : Jx e2 := by
        rcases hyb with ⟨h, _⟩ | ⟨_, h⟩
        · rw [h] at hc1; cases hc1
        · exact h
      refine t_ret ?_
      exact Fin.ret (res0 rfl) ⟨e2, rfl, .inr hj⟩
    ·
      have hj : J (List.range (k + 1)) e2 := by
        rcases hyb with ⟨_, h⟩ | ⟨h, _⟩
        · rw [List.range_succ]; exact h
        · rw [h] at hc1; cases hc1
      refine t_skip ?_
      refine t_region ?_
      refine rg_pure (by rfl) (by rfl) (pu_moveE (v := .int .i64 _) (by rfl)) ?_
      refine rg_pure (by rfl) (by rfl) (pu_load1 (v := .int .i64 3) (by rfl) isAgg3 (HasE.has (by repeat constructor)) (by rfl)) ?_
      refine rg_pure (by rfl) (by rfl) (pu_add64 (by rfl) (by rfl) (by omega)) ?_
      refine rg_pure (by rfl) (by rfl) (pu_assignE (v := .int .i64 _) (by rfl)) ?_
      refine rg_nil ?_
      exact ⟨(k + 1, e2), ⟨hkq, hj⟩, by show q - (k + 1) < q - k; omega, (agree_cons (by rfl) (agree_cons (by rfl) (agree_cons (by rfl) (agree_cons (by rfl) (agree_cons (by show Value.int .i64 (((3 * k : Nat) : Int) + 3) = _; congr 1) agree_nil))))), Sub.refl _⟩
  ·
    have hk1 : N ≤ 3 * k := by simp at hc0; omega
    have hkq : k = q := by omega
    subst hkq
    refine t_exit ?_
    exact Fin.normal (res0 rfl) ⟨e1, rfl, .inl hk3⟩
end Go.Proofs.Ytpoecjeknolnoaa
