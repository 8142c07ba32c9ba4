/- Walks of functions that the statements of this seat reach: what each one hands back. Conditions: those that each theorem names. -/
import Derived.Test.YtpoecjeknolnoaaA5
import Derived.Test.YtpoecjeknolnoaaProg
import Derived.KernelRfl
namespace Go.Proofs.Ytpoecjeknolnoaa
open Go.RowKit Go.Proofs.HL Go.Proofs.Try
set_option maxRecDepth 10000
set_option linter.unusedSimpArgs false
set_option linter.unusedVariables false
attribute [local irreducible] T RG RA Pu Lo
/-! ### Entries -/
abbrev En := List Int × Int × Int × Int
def d0 : En := (List.replicate 32 0, 0, 0, 0)
def encE (e : En) : List Value := u8s e.1 ++ [.int .i64 e.2.1, .int .i64 e.2.2.1, .int .i64 e.2.2.2]
def encEs (l : List En) : List Value := l.flatMap encE
def R64 (x : Int) : Prop := -9223372036854775808 ≤ x ∧ x ≤ 9223372036854775807
def EOk (e : En) : Prop := e.1.length = 32 ∧ (∀ x ∈ e.1, 0 ≤ x ∧ x < 256) ∧ R64 e.2.1 ∧ R64 e.2.2.1 ∧ R64 e.2.2.2
def KeysOk (l : List En) : Prop := ∀ e ∈ l, EOk e
theorem d0_ok : EOk d0 := ⟨rfl, fun x hx => by rw [(List.mem_replicate.1 hx).2]; decide, by constructor <;> decide, by constructor <;> decide, by constructor <;> decide⟩
theorem KeysOk.ok {l : List En} (h : KeysOk l) (i : Nat) : EOk (l.getD i d0) := by
  rw [List.getD_eq_getElem?_getD]
  by_cases hi : i < l.length
  · rw [List.getElem?_eq_getElem hi]; exact h _ (List.getElem_mem hi)
  · rw [List.getElem?_eq_none (by omega)]; exact d0_ok
theorem KeysOk.at_ {l : List En} (h : KeysOk l) (i : Nat) : (l.getD i d0).1.length = 32 := (h.ok i).1
theorem encE_len {e : En} (h : e.1.length = 32) : (encE e).length = 35 := by simp [encE, u8s, h]
theorem one_encE (e : En) : ∀ u ∈ encE e, u.oneCell' = true := fun u hu => by
  rcases List.mem_append.1 hu with h | h
  · exact one_u8s _ u h
  · simp only [List.mem_cons, List.not_mem_nil, or_false] at h
    rcases h with rfl | rfl | rfl <;> rfl
theorem one_encEs (l : List En) : ∀ u ∈ encEs l, u.oneCell' = true := fun u hu => by
  obtain ⟨e, _, h⟩ := List.mem_flatMap.1 hu
  exact one_encE e u h
theorem encEs_len : ∀ {l : List En}, KeysOk l → (encEs l).length = l.length * 35
  | [], _ => rfl
  | e :: l, h => by
    have ih := encEs_len (l := l) (fun x hx => h x (by simp [hx]))
    have := encE_len (h e (by simp)).1
    simp only [encEs, List.flatMap_cons, List.length_append, List.length_cons] at *
    omega
theorem encEs_drop : ∀ {l : List En} (i : Nat), KeysOk l → (encEs l).drop (i * 35) = encEs (l.drop i)
  | [], i, _ => by simp [encEs]
  | e :: l, 0, _ => by simp
  | e :: l, i + 1, h => by
    have ih := encEs_drop (l := l) i (fun x hx => h x (by simp [hx]))
    have := encE_len (h e (by simp)).1
    rw [show (i + 1) * 35 = 35 + i * 35 by omega, ← List.drop_drop]
    have h1 : (encEs (e :: l)).drop 35 = encEs l := by
      simp only [encEs, List.flatMap_cons]
      rw [List.drop_append_of_le_length (by omega), List.drop_eq_nil_of_le (by omega), List.nil_append]
    rw [h1, ih]
    rfl
theorem encEs_take : ∀ {l : List En} (i : Nat), KeysOk l → (encEs l).take (i * 35) = encEs (l.take i)
  | [], i, _ => by simp [encEs]
  | e :: l, 0, _ => by simp [encEs]
  | e :: l, i + 1, h => by
    have ih := encEs_take (l := l) i (fun x hx => h x (by simp [hx]))
    have := encE_len (h e (by simp)).1
    simp only [encEs, List.flatMap_cons, List.take_succ_cons] at *
    rw [List.take_append, List.take_of_length_le (by omega), show (i + 1) * 35 - (encE e).length = i * 35 by omega, ih]
theorem encEs_at {l : List En} {i : Nat} (h : KeysOk l) (hi : i < l.length) : ((encEs l).drop (i * 35)).take 35 = encE (l.getD i d0) := by
  rw [encEs_drop i h]
  have hd : l.drop i = l.getD i d0 :: l.drop (i + 1) := by
    rw [List.drop_eq_getElem_cons hi]; simp [hi]
  have := encE_len (h.at_ i)
  rw [hd]
  simp only [encEs, List.flatMap_cons]
  rw [List.take_append_of_le_length (by omega), List.take_of_length_le (by omega)]
theorem encEs_one {l : List En} {i : Nat} (h : KeysOk l) (hi : i < l.length) : ((encEs l).drop (i * 35)).take ((i + 1 - i) * 35) = encEs [l.getD i d0] := by
  rw [show (i + 1 - i) * 35 = 35 by omega, encEs_at h hi]
  simp [encEs]
theorem encEs_cell {l : List En} {i q : Nat} (h : KeysOk l) (hi : i < l.length) (hq : q < 35) : (encEs l)[i * 35 + q]? = (encE (l.getD i d0))[q]? := by
  rw [← encEs_at h hi, List.getElem?_take, if_pos hq, List.getElem?_drop]
theorem encE_place {e : En} (h : e.1.length = 32) : (encE e)[32]? = some (.int .i64 e.2.1) := by
  rw [encE, List.getElem?_append_right (by rw [u8s_len]; omega), u8s_len, h]; rfl
theorem encE_blocks {e : En} (h : e.1.length = 32) : (encE e)[33]? = some (.int .i64 e.2.2.1) := by
  rw [encE, List.getElem?_append_right (by rw [u8s_len]; omega), u8s_len, h]; rfl
theorem encE_refs {e : En} (h : e.1.length = 32) : (encE e)[34]? = some (.int .i64 e.2.2.2) := by
  rw [encE, List.getElem?_append_right (by rw [u8s_len]; omega), u8s_len, h]; rfl
theorem encE_key {e : En} (h : e.1.length = 32) : ((encE e).drop 0).take 32 = u8s e.1 := by
  rw [List.drop_zero, encE, List.take_append_of_le_length (by rw [u8s_len]; omega), List.take_of_length_le (by rw [u8s_len]; omega)]
theorem encEs_key {l : List En} {i : Nat} (h : KeysOk l) (hi : i < l.length) : ((encEs l).drop (i * 35 + 0)).take 32 = u8s (l.getD i d0).1 := by
  have := encEs_at h hi
  rw [Nat.add_zero, ← encE_key (h.at_ i), ← this, List.drop_zero, List.take_take]
  rfl
theorem u8s_len32 {k : List Int} (h : k.length = 32) : (u8s k).length = 32 := by rw [u8s_len, h]
def oneS (e : En) : Bool := decide (2 ≤ e.2.1) && decide (e.2.1 ≤ 127) && decide (1 ≤ e.2.2.1) && decide (e.2.2.1 ≤ 8) && decide (e.2.1 + e.2.2.1 ≤ 128) && decide (0 ≤ e.2.2.2) && decide (e.2.2.2 ≤ 1000)
theorem one_c (e : En) (hk : e.1.length = 32) (w : World) : Gives prog 35 [.agg (encE e).toArray].toArray w (.bool (oneS e)) := by
  refine gives_of_T func35 rfl 39 rfl rfl rfl [] (holds0 w) ?_
  refine t_seq_region ?_
  refine rg_loud (by rfl) (lo_boxA (by rfl) (by rfl) (fun b0 hb0 => ?_))
  refine rg_pure (by rfl) (by rfl) (pu_assignE (v := .bool _) (by rfl)) ?_
  refine rg_nil ?_
  refine t_seq_region ?_
  first | (refine rg_pure (by rfl) (by rfl) (pu_field (by rfl) underlying49 (by rfl) sizeOf3 (by decide)) ?_) | (refine rg_pure (by rfl) (by rfl) (pu_fieldP (by rfl) underlying49 (by rfl) sizeOf3 (by decide) (src_some (SrcE.src (by repeat constructor)) (by omega))) ?_)
  refine rg_pure (by rfl) (by rfl) (pu_load1 (by rfl) isAgg3 (HasE.has (by repeat constructor)) (encE_place hk)) ?_
  refine rg_pure (by rfl) (by rfl) (pu_geq (by rfl) (by rfl)) ?_
  refine rg_pure (by rfl) (by rfl) (pu_moveE (v := .bool _) (by rfl)) ?_
  first | (refine rg_gpure (by rfl) (by rfl) (by rfl) (by rfl) (fun hg => pu_field (by rfl) underlying49 (by rfl) sizeOf3 (by decide)) ?_) | (refine rg_gpure (by rfl) (by rfl) (by rfl) (by rfl) (fun hg => pu_fieldP (by rfl) underlying49 (by rfl) sizeOf3 (by decide) (src_some (SrcE.src (by repeat constructor)) (by omega))) ?_)
  refine rg_gpure (by rfl) (by rfl) (by rfl) (by rfl) (fun hg => pu_load1 (gvE hg (by rfl)) isAgg3 (HasE.has (by repeat constructor)) (encE_place hk)) ?_
  refine rg_gpure (by rfl) (by rfl) (by rfl) (by rfl) (fun hg => pu_leq (gvE hg (by rfl)) (by rfl)) ?_
  refine rg_pure (by rfl) (by rfl) (pu_pickAnd (by rfl) (by rfl)) ?_
  refine rg_pure (by rfl) (by rfl) (pu_moveE (v := .bool _) (by rfl)) ?_
  first | (refine rg_gpure (by rfl) (by rfl) (by rfl) (by rfl) (fun hg => pu_field (by rfl) underlying49 (by rfl) sizeOf3 (by decide)) ?_) | (refine rg_gpure (by rfl) (by rfl) (by rfl) (by rfl) (fun hg => pu_fieldP (by rfl) underlying49 (by rfl) sizeOf3 (by decide) (src_some (SrcE.src (by repeat constructor)) (by omega))) ?_)
  refine rg_gpure (by rfl) (by rfl) (by rfl) (by rfl) (fun hg => pu_load1 (gvE hg (by rfl)) isAgg3 (HasE.has (by repeat constructor)) (encE_blocks hk)) ?_
  refine rg_gpure (by rfl) (by rfl) (by rfl) (by rfl) (fun hg => pu_geq (gvE hg (by rfl)) (by rfl)) ?_
  refine rg_pure (by rfl) (by rfl) (pu_pickAnd (by rfl) (by rfl)) ?_
  refine rg_pure (by rfl) (by rfl) (pu_moveE (v := .bool _) (by rfl)) ?_
  first | (refine rg_gpure (by rfl) (by rfl) (by rfl) (by rfl) (fun hg => pu_field (by rfl) underlying49 (by rfl) sizeOf3 (by decide)) ?_) | (refine rg_gpure (by rfl) (by rfl) (by rfl) (by rfl) (fun hg => pu_fieldP (by rfl) underlying49 (by rfl) sizeOf3 (by decide) (src_some (SrcE.src (by repeat constructor)) (by omega))) ?_)
  refine rg_gpure (by rfl) (by rfl) (by rfl) (by rfl) (fun hg => pu_load1 (gvE hg (by rfl)) isAgg3 (HasE.has (by repeat constructor)) (encE_blocks hk)) ?_
  refine rg_gpure (by rfl) (by rfl) (by rfl) (by rfl) (fun hg => pu_leq (gvE hg (by rfl)) (by rfl)) ?_
  refine rg_pure (by rfl) (by rfl) (pu_pickAnd (by rfl) (by rfl)) ?_
  refine rg_pure (by rfl) (by rfl) (pu_moveE (v := .bool _) (by rfl)) ?_
  first | (refine rg_gpure (by rfl) (by rfl) (by rfl) (by rfl) (fun hg => pu_field (by rfl) underlying49 (by rfl) sizeOf3 (by decide)) ?_) | (refine rg_gpure (by rfl) (by rfl) (by rfl) (by rfl) (fun hg => pu_fieldP (by rfl) underlying49 (by rfl) sizeOf3 (by decide) (src_some (SrcE.src (by repeat constructor)) (by omega))) ?_)
  refine rg_gpure (by rfl) (by rfl) (by rfl) (by rfl) (fun hg => pu_load1 (gvE hg (by rfl)) isAgg3 (HasE.has (by repeat constructor)) (encE_place hk)) ?_
  first | (refine rg_gpure (by rfl) (by rfl) (by rfl) (by rfl) (fun hg => pu_field (by rfl) underlying49 (by rfl) sizeOf3 (by decide)) ?_) | (refine rg_gpure (by rfl) (by rfl) (by rfl) (by rfl) (fun hg => pu_fieldP (by rfl) underlying49 (by rfl) sizeOf3 (by decide) (src_some (SrcE.src (by repeat constructor)) (by omega))) ?_)
  refine rg_gpure (by rfl) (by rfl) (by rfl) (by rfl) (fun hg => pu_load1 (gvE hg (by rfl)) isAgg3 (HasE.has (by repeat constructor)) (encE_blocks hk)) ?_
  refine rg_gpure (by rfl) (by rfl) (by rfl) (by rfl) (fun hg => pu_add64 (gvE hg (by rfl)) (gvE hg (by rfl)) (by simp [-List.getD_eq_getElem?_getD] at hg; omega)) ?_
  refine rg_gpure (by rfl) (by rfl) (by rfl) (by rfl) (fun hg => pu_leq (gvE hg (by rfl)) (by rfl)) ?_
  refine rg_pure (by rfl) (by rfl) (pu_pickAnd (by rfl) (by rfl)) ?_
  refine rg_pure (by rfl) (by rfl) (pu_moveE (v := .bool _) (by rfl)) ?_
  first | (refine rg_gpure (by rfl) (by rfl) (by rfl) (by rfl) (fun hg => pu_field (by rfl) underlying49 (by rfl) sizeOf3 (by decide)) ?_) | (refine rg_gpure (by rfl) (by rfl) (by rfl) (by rfl) (fun hg => pu_fieldP (by rfl) underlying49 (by rfl) sizeOf3 (by decide) (src_some (SrcE.src (by repeat constructor)) (by omega))) ?_)
  refine rg_gpure (by rfl) (by rfl) (by rfl) (by rfl) (fun hg => pu_load1 (gvE hg (by rfl)) isAgg3 (HasE.has (by repeat constructor)) (encE_refs hk)) ?_
  refine rg_gpure (by rfl) (by rfl) (by rfl) (by rfl) (fun hg => pu_geq (gvE hg (by rfl)) (by rfl)) ?_
  refine rg_pure (by rfl) (by rfl) (pu_pickAnd (by rfl) (by rfl)) ?_
  refine rg_pure (by rfl) (by rfl) (pu_moveE (v := .bool _) (by rfl)) ?_
  first | (refine rg_gpure (by rfl) (by rfl) (by rfl) (by rfl) (fun hg => pu_field (by rfl) underlying49 (by rfl) sizeOf3 (by decide)) ?_) | (refine rg_gpure (by rfl) (by rfl) (by rfl) (by rfl) (fun hg => pu_fieldP (by rfl) underlying49 (by rfl) sizeOf3 (by decide) (src_some (SrcE.src (by repeat constructor)) (by omega))) ?_)
  refine rg_gpure (by rfl) (by rfl) (by rfl) (by rfl) (fun hg => pu_load1 (gvE hg (by rfl)) isAgg3 (HasE.has (by repeat constructor)) (encE_refs hk)) ?_
  refine rg_gpure (by rfl) (by rfl) (by rfl) (by rfl) (fun hg => pu_leq (gvE hg (by rfl)) (by rfl)) ?_
  refine rg_pure (by rfl) (by rfl) (pu_pickAnd (by rfl) (by rfl)) ?_
  refine rg_pure (by rfl) (by rfl) (pu_assignE (v := .bool _) (by rfl)) ?_
  refine rg_nil ?_
  refine t_ret ?_
  exact Fin.ret (res1 rfl .tmp) (by rfl)
def badE (l : List En) (i : Nat) : Bool :=
  decide ((0 : Int) < i) && !lessS (l.getD ((i : Int) - 1).toNat d0).1 (l.getD i d0).1 || decide ((l.getD i d0).2.1 < 2) || decide (128 ≤ (l.getD i d0).2.1) || decide ((l.getD i d0).2.2.1 < 1) || decide (8 < (l.getD i d0).2.2.1) || decide (128 - (l.getD i d0).2.1 < (l.getD i d0).2.2.1) || decide ((l.getD i d0).2.2.2 < 0) || decide (1000 < (l.getD i d0).2.2.2)
def leafGood (l : List En) : Bool := !(decide ((l.length : Int) < 1) || decide ((3 : Int) < l.length)) && (List.range l.length).all fun i => !badE l i
theorem leafGood_c (v : Value) (l : List En) (hk : KeysOk l) (w : World) (hv : Sl w v 35 l.length (encEs l)) : Gives prog 34 [v].toArray w (.bool (leafGood l)) := by
  have hb := hv.len
  refine gives_of_T func34 rfl 73 rfl rfl rfl [.sl v 35 l.length (encEs l)] ((holds0 w).addSl hv (by decide)) ?_
  refine t_seq_region ?_
  refine rg_pure (by rfl) (by rfl) (pu_assignE (v := .bool _) (by rfl)) ?_
  refine rg_nil ?_
  refine t_seq ?_
  refine t_seq_region ?_
  refine rg_pure (by rfl) (by rfl) (pu_moveE (v := v) (by rfl)) ?_
  refine rg_pure (by rfl) (by rfl) (pu_len (by rfl) (SrcE.src (by repeat constructor)) (by rfl) underlying22) ?_
  refine rg_pure (by rfl) (by rfl) (pu_lss (by rfl) (by rfl)) ?_
  refine rg_pure (by rfl) (by rfl) (pu_moveE (v := .bool _) (by rfl)) ?_
  refine rg_gpure (by rfl) (by rfl) (by rfl) (by rfl) (fun hg => pu_moveE (v := v) (by rfl)) ?_
  refine rg_gpure (by rfl) (by rfl) (by rfl) (by rfl) (fun hg => pu_len (gvE hg (by rfl)) (SrcE.src (by repeat constructor)) (by rfl) underlying22) ?_
  refine rg_gpure (by rfl) (by rfl) (by rfl) (by rfl) (fun hg => pu_gtr (gvE hg (by rfl)) (by rfl)) ?_
  refine rg_pure (by rfl) (by rfl) (pu_pickOr (by rfl) (by rfl)) ?_
  refine rg_nil ?_
  refine t_cond (by rfl) (fun hc0 => ?_) (fun hc0 => ?_)
  ·
    have hbad : leafGood l = false := by rw [leafGood, show (decide ((l.length : Int) < 1) || decide ((3 : Int) < l.length)) = true from hc0]; rfl
    refine t_seq_region ?_
    refine rg_pure (by rfl) (by rfl) (pu_assignE (v := .bool _) (by rfl)) ?_
    refine rg_nil ?_
    refine t_ret ?_
    exact Fin.ret (res1 rfl .tmp) (by rw [hbad]; rfl)
  ·
    have hgood : leafGood l = (List.range l.length).all fun i => !badE l i := by rw [leafGood, show (decide ((l.length : Int) < 1) || decide ((3 : Int) < l.length)) = false from hc0]; rfl
    refine t_skip ?_
    refine t_seq ?_
    refine t_seq_region ?_
    refine rg_pure (by rfl) (by rfl) (pu_moveE (v := v) (by rfl)) ?_
    refine rg_pure (by rfl) (by rfl) (pu_len (by rfl) (SrcE.src (by repeat constructor)) (by rfl) underlying22) ?_
    refine rg_pure (by rfl) (by rfl) (pu_moveE (v := .int .i64 _) (by rfl)) ?_
    refine rg_nil ?_
    refine t_block ?_
    refine t_loop (σ := Nat) (fun k => [(mkS, marksV []), (0, v), (13, v), (14, .int .i64 (l.length : Int)), (15, .int .i64 (k : Int))]) (fun k => [.sl v 35 l.length (encEs l)]) (fun k => k ≤ l.length ∧ ∀ i, i < k → badE l i = false) (fun k => l.length - k) 0 ⟨Nat.zero_le _, fun _ h => absurd h (Nat.not_lt_zero _)⟩ (by repeat (first | exact agree_nil | refine agree_cons (by rfl) ?_)) (by repeat constructor) (fun k g hkk => ?_)
    obtain ⟨hk2, hk3⟩ := hkk
    refine t_seq_region ?_
    refine rg_pure (by rfl) (by rfl) (pu_lss (by rfl) (by rfl)) ?_
    refine rg_nil ?_
    refine t_seq ?_
    refine t_cond (by rfl) (fun hc1 => ?_) (fun hc1 => ?_)
    ·
      have hk1 : k < l.length := by simp at hc1; omega
      have hke := hk.at_ k
      refine t_skip ?_
      refine t_seq ?_
      refine t_block ?_
      refine t_seq_region ?_
      refine rg_pure (by rfl) (by rfl) (pu_moveE (v := .int .i64 _) (by rfl)) ?_
      refine rg_pure (by rfl) (by rfl) (pu_index (by rfl) (by rfl) (SrcE.src (by repeat constructor)) underlying22 sizeOf49 (by omega)) ?_
      refine rg_pure (by rfl) (by rfl) (pu_loadS (ds := encE (l.getD k d0)) (by rfl) isAgg49 sizeOf49 (SrcE.src (by repeat constructor)) (encEs_at hk hk1) (encE_len (hk.at_ k)) (by decide)) ?_
      refine rg_loud (by rfl) (lo_alloc (cs := _) (by rfl) zeroValue49 (by rfl) (fun b0 hb0 => ?_))
      refine rg_pure (by rfl) (by rfl) (pu_assignE (v := .int .i64 _) (by rfl)) ?_
      refine rg_loud (by rfl) (lo_storeV (vs := encE (l.getD k d0)) (by rfl) (by rfl) (by rfl) (by repeat constructor) sizeOf49 (by first | (simp only [u8s_len, u32s_len, i64s_len, List.length_replicate, List.length_set, encE_len, *]; done) | rfl) (one_encE _) (by first | (simp only [u8s_len, u32s_len, i64s_len, List.length_replicate, List.length_set, encE_len, *]; done) | rfl) ?_)
      refine rg_nil ?_
      refine t_seq_draw 52 52 _ mixed (Sub.refl _) (by rfl) (by decide +kernel) ?_
      refine ra_pure0 0 1 rfl (by rfl) (by decide +kernel) (by rfl) (pu_moveE (v := .int .i64 _) (by rfl)) ?_
      refine ra_pure0 1 3 rfl (by rfl) (by decide +kernel) (by rfl) (pu_gtr (by rfl) (by rfl)) ?_
      refine ra_pure0 2 7 rfl (by rfl) (by decide +kernel) (by rfl) (pu_moveE (v := .bool _) (by rfl)) ?_
      refine ra_gpure0 3 15 rfl (by rfl) (by rfl) (by rfl) (by decide +kernel) (by rfl) (fun hg => pu_moveE (v := v) (by rfl)) ?_
      refine ra_gpure0 4 31 rfl (by rfl) (by rfl) (by rfl) (by decide +kernel) (by rfl) (fun hg => pu_moveE (v := .int .i64 _) (by rfl)) ?_
      refine ra_gpure0 5 63 rfl (by rfl) (by rfl) (by rfl) (by decide +kernel) (by rfl) (fun hg => pu_sub64 (gvE hg (by rfl)) (by rfl) (by simp [-List.getD_eq_getElem?_getD] at hg; omega)) ?_
      refine ra_gpure 6 127 rfl (by rfl) (by rfl) (by rfl) (by decide +kernel) (by rfl) (fun hg => pu_index (gvE hg (by rfl)) (gvE hg (by rfl)) (SrcE.src (by repeat constructor)) underlying22 sizeOf49 (by simp [-List.getD_eq_getElem?_getD] at hg; omega)) ?_
      refine ra_gpure 7 255 rfl (by rfl) (by rfl) (by rfl) (by decide +kernel) (by rfl) (fun hg => pu_fieldP (gvE hg (by rfl)) underlying49 (by rfl) sizeOf47 (by decide) (src_some (SrcE.src (by repeat constructor)) (by omega))) ?_
      refine ra_gpure 8 511 rfl (by rfl) (by rfl) (by rfl) (by decide +kernel) (by rfl) (fun hg => pu_loadS (ds := u8s (l.getD (((k : Int) - 1).toNat) d0).1) (gvE hg (by rfl)) isAgg47 sizeOf47 (SrcE.src (by repeat constructor)) (encEs_key hk (by omega)) (u8s_len32 (hk.at_ _)) (by decide)) ?_
      first | (refine ra_gpure0 9 1023 rfl (by rfl) (by rfl) (by rfl) (by decide +kernel) (by rfl) (fun hg => pu_field (by rfl) underlying49 (by rfl) sizeOf47 (by decide)) ?_) | (refine ra_gpure 9 1023 rfl (by rfl) (by rfl) (by rfl) (by decide +kernel) (by rfl) (fun hg => pu_fieldP (by rfl) underlying49 (by rfl) sizeOf47 (by decide) (src_some (SrcE.src (by repeat constructor)) (by omega))) ?_)
      refine ra_gpure 10 2047 rfl (by rfl) (by rfl) (by rfl) (by decide +kernel) (by rfl) (fun hg => pu_load (ds := u8s _) (gvE hg (by rfl)) isAgg47 sizeOf47 (HasE.has (by repeat constructor)) (encE_key hke) (u8s_len32 hke)) ?_
      refine ra_next 11 4095 (by decide +kernel) ?_
      refine next_gcall rfl (by rfl) (by rfl) (by rfl) (by rfl) (by repeat constructor) (fun hg => lo_callFP call49 (by rfl) (fun w hw => gives_eq (args2 (gvE hg (by rfl)) (gvE hg (by rfl))) (less_c (l.getD ((k : Int) - 1).toNat d0).1 (l.getD k d0).1 (hk.at_ _) hke w))) ?_
      refine ra_gpure0 12 8191 rfl (by rfl) (by rfl) (by rfl) (by decide +kernel) (by rfl) (fun hg => pu_not (gvE hg (by rfl))) ?_
      refine ra_pure0 13 16383 rfl (by rfl) (by decide +kernel) (by rfl) (pu_pickAnd (by rfl) (by rfl)) ?_
      refine ra_pure0 14 32767 rfl (by rfl) (by decide +kernel) (by rfl) (pu_moveE (v := .bool _) (by rfl)) ?_
      first | (refine ra_gpure0 15 65535 rfl (by rfl) (by rfl) (by rfl) (by decide +kernel) (by rfl) (fun hg => pu_field (by rfl) underlying49 (by rfl) sizeOf3 (by decide)) ?_) | (refine ra_gpure 15 65535 rfl (by rfl) (by rfl) (by rfl) (by decide +kernel) (by rfl) (fun hg => pu_fieldP (by rfl) underlying49 (by rfl) sizeOf3 (by decide) (src_some (SrcE.src (by repeat constructor)) (by omega))) ?_)
      refine ra_gpure 16 131071 rfl (by rfl) (by rfl) (by rfl) (by decide +kernel) (by rfl) (fun hg => pu_load1 (gvE hg (by rfl)) isAgg3 (HasE.has (by repeat constructor)) (encE_place hke)) ?_
      refine ra_gpure0 17 262143 rfl (by rfl) (by rfl) (by rfl) (by decide +kernel) (by rfl) (fun hg => pu_lss (gvE hg (by rfl)) (by rfl)) ?_
      refine ra_pure0 18 524287 rfl (by rfl) (by decide +kernel) (by rfl) (pu_pickOr (by rfl) (by rfl)) ?_
      refine ra_pure0 19 1048575 rfl (by rfl) (by decide +kernel) (by rfl) (pu_moveE (v := .bool _) (by rfl)) ?_
      first | (refine ra_gpure0 20 2097151 rfl (by rfl) (by rfl) (by rfl) (by decide +kernel) (by rfl) (fun hg => pu_field (by rfl) underlying49 (by rfl) sizeOf3 (by decide)) ?_) | (refine ra_gpure 20 2097151 rfl (by rfl) (by rfl) (by rfl) (by decide +kernel) (by rfl) (fun hg => pu_fieldP (by rfl) underlying49 (by rfl) sizeOf3 (by decide) (src_some (SrcE.src (by repeat constructor)) (by omega))) ?_)
      refine ra_gpure 21 4194303 rfl (by rfl) (by rfl) (by rfl) (by decide +kernel) (by rfl) (fun hg => pu_load1 (gvE hg (by rfl)) isAgg3 (HasE.has (by repeat constructor)) (encE_place hke)) ?_
      refine ra_gpure0 22 8388607 rfl (by rfl) (by rfl) (by rfl) (by decide +kernel) (by rfl) (fun hg => pu_geq (gvE hg (by rfl)) (by rfl)) ?_
      refine ra_pure0 23 16777215 rfl (by rfl) (by decide +kernel) (by rfl) (pu_pickOr (by rfl) (by rfl)) ?_
      refine ra_pure0 24 33554431 rfl (by rfl) (by decide +kernel) (by rfl) (pu_moveE (v := .bool _) (by rfl)) ?_
      first | (refine ra_gpure0 25 67108863 rfl (by rfl) (by rfl) (by rfl) (by decide +kernel) (by rfl) (fun hg => pu_field (by rfl) underlying49 (by rfl) sizeOf3 (by decide)) ?_) | (refine ra_gpure 25 67108863 rfl (by rfl) (by rfl) (by rfl) (by decide +kernel) (by rfl) (fun hg => pu_fieldP (by rfl) underlying49 (by rfl) sizeOf3 (by decide) (src_some (SrcE.src (by repeat constructor)) (by omega))) ?_)
      refine ra_gpure 26 134217727 rfl (by rfl) (by rfl) (by rfl) (by decide +kernel) (by rfl) (fun hg => pu_load1 (gvE hg (by rfl)) isAgg3 (HasE.has (by repeat constructor)) (encE_blocks hke)) ?_
      refine ra_gpure0 27 268435455 rfl (by rfl) (by rfl) (by rfl) (by decide +kernel) (by rfl) (fun hg => pu_lss (gvE hg (by rfl)) (by rfl)) ?_
      refine ra_pure0 28 536870911 rfl (by rfl) (by decide +kernel) (by rfl) (pu_pickOr (by rfl) (by rfl)) ?_
      refine ra_pure0 29 1073741823 rfl (by rfl) (by decide +kernel) (by rfl) (pu_moveE (v := .bool _) (by rfl)) ?_
      first | (refine ra_gpure0 30 2147483647 rfl (by rfl) (by rfl) (by rfl) (by decide +kernel) (by rfl) (fun hg => pu_field (by rfl) underlying49 (by rfl) sizeOf3 (by decide)) ?_) | (refine ra_gpure 30 2147483647 rfl (by rfl) (by rfl) (by rfl) (by decide +kernel) (by rfl) (fun hg => pu_fieldP (by rfl) underlying49 (by rfl) sizeOf3 (by decide) (src_some (SrcE.src (by repeat constructor)) (by omega))) ?_)
      refine ra_gpure 31 4294967295 rfl (by rfl) (by rfl) (by rfl) (by decide +kernel) (by rfl) (fun hg => pu_load1 (gvE hg (by rfl)) isAgg3 (HasE.has (by repeat constructor)) (encE_blocks hke)) ?_
      refine ra_gpure0 32 8589934591 rfl (by rfl) (by rfl) (by rfl) (by decide +kernel) (by rfl) (fun hg => pu_gtr (gvE hg (by rfl)) (by rfl)) ?_
      refine ra_pure0 33 17179869183 rfl (by rfl) (by decide +kernel) (by rfl) (pu_pickOr (by rfl) (by rfl)) ?_
      refine ra_pure0 34 34359738367 rfl (by rfl) (by decide +kernel) (by rfl) (pu_moveE (v := .bool _) (by rfl)) ?_
      first | (refine ra_gpure0 35 68719476735 rfl (by rfl) (by rfl) (by rfl) (by decide +kernel) (by rfl) (fun hg => pu_field (by rfl) underlying49 (by rfl) sizeOf3 (by decide)) ?_) | (refine ra_gpure 35 68719476735 rfl (by rfl) (by rfl) (by rfl) (by decide +kernel) (by rfl) (fun hg => pu_fieldP (by rfl) underlying49 (by rfl) sizeOf3 (by decide) (src_some (SrcE.src (by repeat constructor)) (by omega))) ?_)
      refine ra_gpure 36 137438953471 rfl (by rfl) (by rfl) (by rfl) (by decide +kernel) (by rfl) (fun hg => pu_load1 (gvE hg (by rfl)) isAgg3 (HasE.has (by repeat constructor)) (encE_blocks hke)) ?_
      first | (refine ra_gpure0 37 274877906943 rfl (by rfl) (by rfl) (by rfl) (by decide +kernel) (by rfl) (fun hg => pu_field (by rfl) underlying49 (by rfl) sizeOf3 (by decide)) ?_) | (refine ra_gpure 37 274877906943 rfl (by rfl) (by rfl) (by rfl) (by decide +kernel) (by rfl) (fun hg => pu_fieldP (by rfl) underlying49 (by rfl) sizeOf3 (by decide) (src_some (SrcE.src (by repeat constructor)) (by omega))) ?_)
      refine ra_gpure 38 549755813887 rfl (by rfl) (by rfl) (by rfl) (by decide +kernel) (by rfl) (fun hg => pu_load1 (gvE hg (by rfl)) isAgg3 (HasE.has (by repeat constructor)) (encE_place hke)) ?_
      refine ra_gpure0 39 1099511627775 rfl (by rfl) (by rfl) (by rfl) (by decide +kernel) (by rfl) (fun hg => pu_sub64 (by rfl) (gvE hg (by rfl)) (by simp [-List.getD_eq_getElem?_getD] at hg; omega)) ?_
      refine ra_gpure0 40 2199023255551 rfl (by rfl) (by rfl) (by rfl) (by decide +kernel) (by rfl) (fun hg => pu_gtr (gvE hg (by rfl)) (gvE hg (by rfl))) ?_
      refine ra_pure0 41 4398046511103 rfl (by rfl) (by decide +kernel) (by rfl) (pu_pickOr (by rfl) (by rfl)) ?_
      refine ra_pure0 42 8796093022207 rfl (by rfl) (by decide +kernel) (by rfl) (pu_moveE (v := .bool _) (by rfl)) ?_
      first | (refine ra_gpure0 43 17592186044415 rfl (by rfl) (by rfl) (by rfl) (by decide +kernel) (by rfl) (fun hg => pu_field (by rfl) underlying49 (by rfl) sizeOf3 (by decide)) ?_) | (refine ra_gpure 43 17592186044415 rfl (by rfl) (by rfl) (by rfl) (by decide +kernel) (by rfl) (fun hg => pu_fieldP (by rfl) underlying49 (by rfl) sizeOf3 (by decide) (src_some (SrcE.src (by repeat constructor)) (by omega))) ?_)
      refine ra_gpure 44 35184372088831 rfl (by rfl) (by rfl) (by rfl) (by decide +kernel) (by rfl) (fun hg => pu_load1 (gvE hg (by rfl)) isAgg3 (HasE.has (by repeat constructor)) (encE_refs hke)) ?_
      refine ra_gpure0 45 70368744177663 rfl (by rfl) (by rfl) (by rfl) (by decide +kernel) (by rfl) (fun hg => pu_lss (gvE hg (by rfl)) (by rfl)) ?_
      refine ra_pure0 46 140737488355327 rfl (by rfl) (by decide +kernel) (by rfl) (pu_pickOr (by rfl) (by rfl)) ?_
      refine ra_pure0 47 281474976710655 rfl (by rfl) (by decide +kernel) (by rfl) (pu_moveE (v := .bool _) (by rfl)) ?_
      first | (refine ra_gpure0 48 562949953421311 rfl (by rfl) (by rfl) (by rfl) (by decide +kernel) (by rfl) (fun hg => pu_field (by rfl) underlying49 (by rfl) sizeOf3 (by decide)) ?_) | (refine ra_gpure 48 562949953421311 rfl (by rfl) (by rfl) (by rfl) (by decide +kernel) (by rfl) (fun hg => pu_fieldP (by rfl) underlying49 (by rfl) sizeOf3 (by decide) (src_some (SrcE.src (by repeat constructor)) (by omega))) ?_)
      refine ra_gpure 49 1125899906842623 rfl (by rfl) (by rfl) (by rfl) (by decide +kernel) (by rfl) (fun hg => pu_load1 (gvE hg (by rfl)) isAgg3 (HasE.has (by repeat constructor)) (encE_refs hke)) ?_
      refine ra_gpure0 50 2251799813685247 rfl (by rfl) (by rfl) (by rfl) (by decide +kernel) (by rfl) (fun hg => pu_gtr (gvE hg (by rfl)) (by rfl)) ?_
      refine ra_pure0 51 4503599627370495 rfl (by rfl) (by decide +kernel) (by rfl) (pu_pickOr (by rfl) (by rfl)) ?_
      refine ra_end (by decide +kernel) ?_
      refine t_cond (by rfl) (fun hc2 => ?_) (fun hc2 => ?_)
      ·
        have hbad : leafGood l = false := by
          rw [hgood]
          cases hx : (List.range l.length).all fun i => !badE l i with
          | false => rfl
          | true => have := List.all_eq_true.1 hx k (List.mem_range.2 hk1); rw [show badE l k = true from hc2] at this; cases this
        refine t_seq_region ?_
        refine rg_pure (by rfl) (by rfl) (pu_assignE (v := .bool _) (by rfl)) ?_
        refine rg_nil ?_
        refine t_ret ?_
        exact Fin.ret (res1 rfl .tmp) (by rw [hbad]; rfl)
      ·
        have hbk : badE l k = false := hc2
        refine t_skip ?_
        refine t_region ?_
        refine rg_pure (by rfl) (by rfl) (pu_add64 (by rfl) (by rfl) (by omega)) ?_
        refine rg_pure (by rfl) (by rfl) (pu_moveE (v := .int .i64 _) (by rfl)) ?_
        refine rg_nil ?_
        exact ⟨k + 1, ⟨hk1, fun i hi => by rcases Nat.lt_succ_iff_lt_or_eq.1 hi with h | h; exact hk3 i h; rw [h]; exact hbk⟩, by show l.length - (k + 1) < l.length - k; omega, (by repeat (first | exact agree_nil | refine agree_cons (by rfl) ?_)), by repeat constructor⟩
    ·
      have hk1 : k = l.length := by simp at hc1; omega
      have hall : leafGood l = true := by rw [hgood, List.all_eq_true]; intro i hi; rw [hk3 i (by rw [hk1]; exact List.mem_range.1 hi)]; rfl
      refine t_exit ?_
      refine t_seq_region ?_
      refine rg_pure (by rfl) (by rfl) (pu_assignE (v := .bool _) (by rfl)) ?_
      refine rg_nil ?_
      refine t_ret ?_
      exact Fin.ret (res1 rfl .tmp) (by rw [hall]; rfl)
end Go.Proofs.Ytpoecjeknolnoaa
