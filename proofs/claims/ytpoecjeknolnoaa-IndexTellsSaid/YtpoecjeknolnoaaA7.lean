/- Walks of functions that the statements of this seat reach: what each one hands back. Conditions: those that each theorem names. -/
import Derived.Test.YtpoecjeknolnoaaA6
import Derived.Test.YtpoecjeknolnoaaProg
import Derived.KernelRfl
namespace Go.Proofs.Ytpoecjeknolnoaa
open Go.RowKit Go.Proofs.HL Go.Proofs.Try
set_option maxRecDepth 10000
set_option linter.unusedSimpArgs false
set_option linter.unusedVariables false
attribute [local irreducible] T RG RA Pu Lo
theorem withL_len {ms : List Int} (hm : ms.length = 16) (b : Int) (k : Nat) : ∀ l, withL ms b k = some l → l.length = 16 := by
  induction k generalizing ms b with
  | zero => intro l h; cases h; exact hm
  | succ k ih =>
    intro l h
    rw [withL] at h
    split at h
    · cases h
    · exact ih (by rw [setS_len]; exact hm) _ l h
theorem withS_len {ms : List Int} (hm : ms.length = 16) (b n : Int) : (withS ms b n).1.length = 16 := by
  rw [withS]
  split
  · simp
  · split
    · rename_i l h; exact withL_len hm _ _ l h
    · simp
theorem key_c (e : En) (hk : e.1.length = 32) (w : World) : Gives prog 48 [.agg (encE e).toArray].toArray w (.agg (u8s e.1).toArray) := by
  refine gives_of_T func48 rfl 5 rfl rfl rfl [] (holds0 w) ?_
  refine t_seq_region ?_
  refine rg_loud (by rfl) (lo_boxA (by rfl) (by rfl) (fun b0 hb0 => ?_))
  refine rg_loud (by rfl) (lo_alloc (cs := u8s (List.replicate 32 0)) (by rfl) zeroValue47 (by rfl) (fun b1 hb1 => ?_))
  refine rg_nil ?_
  refine t_seq_region ?_
  first | (refine rg_pure (by rfl) (by rfl) (pu_field (by rfl) underlying49 (by rfl) sizeOf47 (by decide)) ?_) | (refine rg_pure (by rfl) (by rfl) (pu_fieldP (by rfl) underlying49 (by rfl) sizeOf47 (by decide) (src_some (SrcE.src (by repeat constructor)) (by omega))) ?_)
  refine rg_pure (by rfl) (by rfl) (pu_load (ds := u8s _) (by rfl) isAgg47 sizeOf47 (HasE.has (by repeat constructor)) (encE_key hk) (u8s_len32 hk)) ?_
  refine rg_loud (by rfl) (lo_storeV (vs := _) (by rfl) (by rfl) (by rfl) (by repeat constructor) sizeOf47 (by first | (simp only [u8s_len, u32s_len, i64s_len, List.length_replicate, List.length_set, encE_len, withS_len, *]; done) | rfl) (one_u8s _) (by first | (simp only [u8s_len, u32s_len, i64s_len, List.length_replicate, List.length_set, encE_len, withS_len, *]; done) | rfl) ?_)
  refine rg_nil ?_
  refine t_ret ?_
  exact Fin.ret (res1 rfl (ResV.cellA (cs := _) (by rfl) isAgg47 sizeOf47 (HasE.has (by repeat constructor)) (by first | (simp only [u8s_len, u32s_len, i64s_len, List.length_replicate, List.length_set, encE_len, withS_len, *]; done) | rfl))) (by rfl)
def fn48 : Value := .func (.func 48) #[] #[]
theorem of_c (v : Value) (hv1 : ∃ A n c, v = .slice A n c) (w : World) : Gives prog 31 [v].toArray w (.agg [v, fn48].toArray) := by
  obtain ⟨A, n, c, rfl⟩ := hv1
  refine gives_of_T func31 rfl 5 rfl rfl rfl [] (holds0 w) ?_
  refine t_seq_region ?_
  refine rg_loud (by rfl) (lo_alloc (cs := _) (by rfl) zeroValue69 (by rfl) (fun b0 hb0 => ?_))
  refine rg_nil ?_
  refine t_seq_region ?_
  refine rg_pure (by rfl) (by rfl) (pu_moveE (v := .slice _ _ _) (by rfl)) ?_
  refine rg_pure (by rfl) (by rfl) (pu_build (cells := [.slice A n c, fn48].toArray) (by kernel_rfl)) ?_
  refine rg_loud (by rfl) (lo_storeV (vs := [.slice A n c, fn48]) (by rfl) (by rfl) (by rfl) (by repeat constructor) sizeOf69 (by first | (simp only [u8s_len, u32s_len, i64s_len, List.length_replicate, List.length_set, encE_len, withS_len, *]; done) | rfl) (by intro u hu; simp only [List.mem_cons, List.not_mem_nil, or_false] at hu; rcases hu with rfl | rfl <;> rfl) (by first | (simp only [u8s_len, u32s_len, i64s_len, List.length_replicate, List.length_set, encE_len, withS_len, *]; done) | rfl) ?_)
  refine rg_nil ?_
  refine t_ret ?_
  exact Fin.ret (res1 rfl (ResV.cellA (cs := _) (by rfl) isAgg69 sizeOf69 (HasE.has (by repeat constructor)) (by first | (simp only [u8s_len, u32s_len, i64s_len, List.length_replicate, List.length_set, encE_len, withS_len, *]; done) | rfl))) (by rfl)
def riseBad (l : List En) (i : Nat) : Bool := decide ((0 : Int) < i) && !lessS (l.getD ((i : Int) - 1).toNat d0).1 (l.getD i d0).1
def risesS (l : List En) : Bool := (List.range l.length).all fun i => !riseBad l i
theorem all_of {p : Nat → Bool} {n : Nat} (h : ∀ i, i < n → p i = false) : ((List.range n).all fun i => !p i) = true := by
  rw [List.all_eq_true]; intro i hi; rw [h i (List.mem_range.1 hi)]; rfl
theorem not_all {p : Nat → Bool} {n k : Nat} (hk : k < n) (h : p k = true) : ((List.range n).all fun i => !p i) = false := by
  cases hx : (List.range n).all fun i => !p i with
  | false => rfl
  | true => have := List.all_eq_true.1 hx k (List.mem_range.2 hk); rw [h] at this; cases this
theorem lt_succ_cases {p : Nat → Bool} {k : Nat} (h3 : ∀ i, i < k → p i = false) (h : p k = false) : ∀ i, i < k + 1 → p i = false := fun i hi => by
  rcases Nat.lt_succ_iff_lt_or_eq.1 hi with h' | h'
  · exact h3 i h'
  · rw [h']; exact h
theorem rises_c (v : Value) (l : List En) (hk : KeysOk l) (w : World) (hv : Sl w v 35 l.length (encEs l)) : Gives prog 32 [.agg [v, fn48].toArray].toArray w (.bool (risesS l)) := by
  have hb := hv.len
  refine gives_of_T func32 rfl 34 rfl rfl rfl [.sl v 35 l.length (encEs l)] ((holds0 w).addSl hv (by decide)) ?_
  refine t_seq_region ?_
  refine rg_loud (by rfl) (lo_boxA (by rfl) (by rfl) (fun b0 hb0 => ?_))
  refine rg_pure (by rfl) (by rfl) (pu_assignE (v := .bool _) (by rfl)) ?_
  refine rg_nil ?_
  refine t_seq ?_
  refine t_seq_region ?_
  first | (refine rg_pure (by rfl) (by rfl) (pu_field (by rfl) underlying69 (by rfl) sizeOf22 (by decide)) ?_) | (refine rg_pure (by rfl) (by rfl) (pu_fieldP (by rfl) underlying69 (by rfl) sizeOf22 (by decide) (src_some (SrcE.src (by repeat constructor)) (by omega))) ?_)
  refine rg_pure (by rfl) (by rfl) (pu_load1 (v := v) (by rfl) isAgg22 (HasE.has (by repeat constructor)) (by rfl)) ?_
  refine rg_pure (by rfl) (by rfl) (pu_len (by rfl) (SrcE.src (by repeat constructor)) (by rfl) underlying22) ?_
  refine rg_pure (by rfl) (by rfl) (pu_moveE (v := .int .i64 _) (by rfl)) ?_
  refine rg_nil ?_
  refine t_block ?_
  refine t_loop (σ := Nat) (fun k => [(mkS, marksV []), (1, .pointer (some ⟨b0, 0, none⟩)), (6, .int .i64 (l.length : Int)), (7, .int .i64 (k : Int))]) (fun k => [.own b0 69 [v, fn48], .sl v 35 l.length (encEs l)]) (fun k => k ≤ l.length ∧ ∀ i, i < k → riseBad l i = false) (fun k => l.length - k) 0 ⟨Nat.zero_le _, fun _ h => absurd h (Nat.not_lt_zero _)⟩ (by repeat (first | exact agree_nil | refine agree_cons (by rfl) ?_)) (by repeat constructor) (fun k g hkk => ?_)
  obtain ⟨hk2, hk3⟩ := hkk
  refine t_seq_region ?_
  refine rg_pure (by rfl) (by rfl) (pu_lss (by rfl) (by rfl)) ?_
  refine rg_nil ?_
  refine t_seq ?_
  refine t_cond (by rfl) (fun hc0 => ?_) (fun hc0 => ?_)
  ·
    have hk1 : k < l.length := by simp at hc0; omega
    refine t_skip ?_
    refine t_seq ?_
    refine t_block ?_
    refine t_seq_region ?_
    refine rg_pure (by rfl) (by rfl) (pu_moveE (v := .int .i64 _) (by rfl)) ?_
    refine rg_pure (by rfl) (by rfl) (pu_assignE (v := .int .i64 _) (by rfl)) ?_
    refine rg_nil ?_
    refine t_seq_draw 23 23 _ mixed (Sub.refl _) (by rfl) (by decide +kernel) ?_
    refine ra_pure0 0 1 rfl (by rfl) (by decide +kernel) (by rfl) (pu_moveE (v := .int .i64 _) (by rfl)) ?_
    refine ra_pure0 1 3 rfl (by rfl) (by decide +kernel) (by rfl) (pu_gtr (by rfl) (by rfl)) ?_
    refine ra_pure0 2 7 rfl (by rfl) (by decide +kernel) (by rfl) (pu_moveE (v := .bool _) (by rfl)) ?_
    first | (refine ra_gpure0 3 15 rfl (by rfl) (by rfl) (by rfl) (by decide +kernel) (by rfl) (fun hg => pu_field (by rfl) underlying69 (by rfl) sizeOf67 (by decide)) ?_) | (refine ra_gpure 3 15 rfl (by rfl) (by rfl) (by rfl) (by decide +kernel) (by rfl) (fun hg => pu_fieldP (by rfl) underlying69 (by rfl) sizeOf67 (by decide) (src_some (SrcE.src (by repeat constructor)) (by omega))) ?_)
    refine ra_gpure 4 31 rfl (by rfl) (by rfl) (by rfl) (by decide +kernel) (by rfl) (fun hg => pu_load1 (v := fn48) (gvE hg (by rfl)) isAgg67 (HasE.has (by repeat constructor)) (by rfl)) ?_
    first | (refine ra_gpure0 5 63 rfl (by rfl) (by rfl) (by rfl) (by decide +kernel) (by rfl) (fun hg => pu_field (by rfl) underlying69 (by rfl) sizeOf22 (by decide)) ?_) | (refine ra_gpure 5 63 rfl (by rfl) (by rfl) (by rfl) (by decide +kernel) (by rfl) (fun hg => pu_fieldP (by rfl) underlying69 (by rfl) sizeOf22 (by decide) (src_some (SrcE.src (by repeat constructor)) (by omega))) ?_)
    refine ra_gpure 6 127 rfl (by rfl) (by rfl) (by rfl) (by decide +kernel) (by rfl) (fun hg => pu_load1 (v := v) (gvE hg (by rfl)) isAgg22 (HasE.has (by repeat constructor)) (by rfl)) ?_
    refine ra_gpure0 7 255 rfl (by rfl) (by rfl) (by rfl) (by decide +kernel) (by rfl) (fun hg => pu_moveE (v := .int .i64 _) (by rfl)) ?_
    refine ra_gpure0 8 511 rfl (by rfl) (by rfl) (by rfl) (by decide +kernel) (by rfl) (fun hg => pu_sub64 (gvE hg (by rfl)) (by rfl) (by omega)) ?_
    refine ra_gpure 9 1023 rfl (by rfl) (by rfl) (by rfl) (by decide +kernel) (by rfl) (fun hg => pu_index (gvE hg (by rfl)) (gvE hg (by rfl)) (SrcE.src (by repeat constructor)) underlying22 sizeOf49 (by simp [-List.getD_eq_getElem?_getD] at hg; omega)) ?_
    refine ra_gpure 10 2047 rfl (by rfl) (by rfl) (by rfl) (by decide +kernel) (by rfl) (fun hg => pu_loadS (ds := encE (l.getD (((k : Int) - 1).toNat) d0)) (gvE hg (by rfl)) isAgg49 sizeOf49 (SrcE.src (by repeat constructor)) (encEs_at hk (by omega)) (encE_len (hk.at_ _)) (by decide)) ?_
    first | (refine ra_gpure0 12 6143 rfl (by rfl) (by rfl) (by rfl) (by decide +kernel) (by rfl) (fun hg => pu_field (by rfl) underlying69 (by rfl) sizeOf67 (by decide)) ?_) | (refine ra_gpure 12 6143 rfl (by rfl) (by rfl) (by rfl) (by decide +kernel) (by rfl) (fun hg => pu_fieldP (by rfl) underlying69 (by rfl) sizeOf67 (by decide) (src_some (SrcE.src (by repeat constructor)) (by omega))) ?_)
    refine ra_gpure 13 14335 rfl (by rfl) (by rfl) (by rfl) (by decide +kernel) (by rfl) (fun hg => pu_load1 (v := fn48) (gvE hg (by rfl)) isAgg67 (HasE.has (by repeat constructor)) (by rfl)) ?_
    first | (refine ra_gpure0 14 30719 rfl (by rfl) (by rfl) (by rfl) (by decide +kernel) (by rfl) (fun hg => pu_field (by rfl) underlying69 (by rfl) sizeOf22 (by decide)) ?_) | (refine ra_gpure 14 30719 rfl (by rfl) (by rfl) (by rfl) (by decide +kernel) (by rfl) (fun hg => pu_fieldP (by rfl) underlying69 (by rfl) sizeOf22 (by decide) (src_some (SrcE.src (by repeat constructor)) (by omega))) ?_)
    refine ra_gpure 15 63487 rfl (by rfl) (by rfl) (by rfl) (by decide +kernel) (by rfl) (fun hg => pu_load1 (v := v) (gvE hg (by rfl)) isAgg22 (HasE.has (by repeat constructor)) (by rfl)) ?_
    refine ra_gpure0 16 129023 rfl (by rfl) (by rfl) (by rfl) (by decide +kernel) (by rfl) (fun hg => pu_moveE (v := .int .i64 _) (by rfl)) ?_
    refine ra_gpure 17 260095 rfl (by rfl) (by rfl) (by rfl) (by decide +kernel) (by rfl) (fun hg => pu_index (gvE hg (by rfl)) (gvE hg (by rfl)) (SrcE.src (by repeat constructor)) underlying22 sizeOf49 (by simp [-List.getD_eq_getElem?_getD] at hg; omega)) ?_
    refine ra_gpure 18 522239 rfl (by rfl) (by rfl) (by rfl) (by decide +kernel) (by rfl) (fun hg => pu_loadS (ds := encE (l.getD (k) d0)) (gvE hg (by rfl)) isAgg49 sizeOf49 (SrcE.src (by repeat constructor)) (encEs_at hk hk1) (encE_len (hk.at_ _)) (by decide)) ?_
    refine ra_next 11 524287 (by decide +kernel) ?_
    refine next_gcall rfl (by rfl) (by rfl) (by rfl) (by rfl) (by repeat constructor) (fun hg => lo_callP (cap := []) (gvE hg (by rfl)) call48 (by rfl) (fun w hw => gives_eq (argsA1 (gvE hg (by rfl))) (key_c (l.getD ((k : Int) - 1).toNat d0) (hk.at_ _) w))) ?_
    refine ra_next 19 1048575 (by decide +kernel) ?_
    refine next_gcall rfl (by rfl) (by rfl) (by rfl) (by rfl) (by repeat constructor) (fun hg => lo_callP (cap := []) (gvE hg (by rfl)) call48 (by rfl) (fun w hw => gives_eq (argsA1 (gvE hg (by rfl))) (key_c (l.getD k d0) (hk.at_ _) w))) ?_
    refine ra_next 20 2097151 (by decide +kernel) ?_
    refine next_gcall rfl (by rfl) (by rfl) (by rfl) (by rfl) (by repeat constructor) (fun hg => lo_callFP call49 (by rfl) (fun w hw => gives_eq (args2 (gvE hg (by rfl)) (gvE hg (by rfl))) (less_c (l.getD ((k : Int) - 1).toNat d0).1 (l.getD k d0).1 (hk.at_ _) (hk.at_ _) w))) ?_
    refine ra_gpure0 21 4194303 rfl (by rfl) (by rfl) (by rfl) (by decide +kernel) (by rfl) (fun hg => pu_not (gvE hg (by rfl))) ?_
    refine ra_pure0 22 8388607 rfl (by rfl) (by decide +kernel) (by rfl) (pu_pickAnd (by rfl) (by rfl)) ?_
    refine ra_end (by decide +kernel) ?_
    refine t_cond (by rfl) (fun hc1 => ?_) (fun hc1 => ?_)
    ·
      have hbad : risesS l = false := not_all hk1 hc1
      refine t_seq_region ?_
      refine rg_pure (by rfl) (by rfl) (pu_assignE (v := .bool _) (by rfl)) ?_
      refine rg_nil ?_
      refine t_ret ?_
      exact Fin.ret (res1 rfl .tmp) (by rw [hbad]; rfl)
    ·
      have hbk : riseBad l k = false := hc1
      refine t_skip ?_
      refine t_region ?_
      refine rg_pure (by rfl) (by rfl) (pu_add64 (by rfl) (by rfl) (by omega)) ?_
      refine rg_pure (by rfl) (by rfl) (pu_moveE (v := .int .i64 _) (by rfl)) ?_
      refine rg_nil ?_
      exact ⟨k + 1, ⟨hk1, lt_succ_cases hk3 hbk⟩, by show l.length - (k + 1) < l.length - k; omega, (by repeat (first | exact agree_nil | refine agree_cons (by rfl) ?_)), by repeat constructor⟩
  ·
    have hk1 : k = l.length := by simp at hc0; omega
    have hall : risesS l = true := all_of (by rw [← hk1]; exact hk3)
    refine t_exit ?_
    refine t_seq_region ?_
    refine rg_pure (by rfl) (by rfl) (pu_assignE (v := .bool _) (by rfl)) ?_
    refine rg_nil ?_
    refine t_ret ?_
    exact Fin.ret (res1 rfl .tmp) (by rw [hall]; rfl)
def goodB : List En → List Int → Bool
  | [], _ => true
  | e :: r, m => if (withS m e.2.1 e.2.2.1).2 != 0 || !leafGood [e] then false else goodB r (withS m e.2.1 e.2.2.1).1
/-- index.Good. -/
def goodI (l : List En) : Bool := risesS l && goodB l (List.replicate 16 0)
theorem drop_cons {l : List En} {k : Nat} (hk : k < l.length) : l.drop k = l.getD k d0 :: l.drop (k + 1) := by
  rw [List.drop_eq_getElem_cons hk]; simp [hk]
theorem KeysOk.one {l : List En} (h : KeysOk l) (i : Nat) : KeysOk [l.getD i d0] := fun e he => by
  simp only [List.mem_singleton] at he; rw [he]; exact h.ok i
theorem good_c (v : Value) (l : List En) (hk : KeysOk l) (w : World) (hv : Sl w v 35 l.length (encEs l)) : Gives prog 12 [v].toArray w (.bool (goodI l)) := by
  have hb := hv.len
  have hv1 : ∃ A n c, v = .slice A n c := ⟨_, _, _, hv.1.choose_spec.1⟩
  refine gives_of_T func12 rfl 41 rfl rfl rfl [.sl v 35 l.length (encEs l)] ((holds0 w).addSl hv (by decide)) ?_
  refine t_seq_region ?_
  refine rg_pure (by rfl) (by rfl) (pu_assignE (v := .bool _) (by rfl)) ?_
  refine rg_nil ?_
  refine t_seq ?_
  refine t_seq_region ?_
  refine rg_pure (by rfl) (by rfl) (pu_moveE (v := v) (by rfl)) ?_
  refine rg_loud (by rfl) (lo_callFQ call31 (by rfl) (fun w hw => of_c v hv1 w) ?_)
  refine rg_loud (by rfl) (lo_callFQ call32 (by rfl) (fun w hw => rises_c v l hk w ((SrcE.src (by repeat constructor)) w hw)) ?_)
  refine rg_pure (by rfl) (by rfl) (pu_not (by rfl)) ?_
  refine rg_nil ?_
  refine t_cond (by rfl) (fun hc0 => ?_) (fun hc0 => ?_)
  ·
    have hbad : risesS l = false := by simpa using hc0
    refine t_seq_region ?_
    refine rg_pure (by rfl) (by rfl) (pu_assignE (v := .bool _) (by rfl)) ?_
    refine rg_nil ?_
    refine t_ret ?_
    exact Fin.ret (res1 rfl .tmp) (by rw [goodI, hbad]; rfl)
  ·
    have hris : risesS l = true := by simpa using hc0
    refine t_skip ?_
    refine t_seq_region ?_
    refine rg_loud (by rfl) (lo_alloc (cs := u8s (List.replicate 16 0)) (by rfl) zeroValue72 (by rfl) (fun b0 hb0 => ?_))
    refine rg_nil ?_
    refine t_seq ?_
    refine t_seq_region ?_
    refine rg_pure (by rfl) (by rfl) (pu_moveE (v := v) (by rfl)) ?_
    refine rg_pure (by rfl) (by rfl) (pu_len (by rfl) (SrcE.src (by repeat constructor)) (by rfl) underlying22) ?_
    refine rg_pure (by rfl) (by rfl) (pu_moveE (v := .int .i64 _) (by rfl)) ?_
    refine rg_nil ?_
    refine t_block ?_
    refine t_loop (σ := Nat × List Int) (fun s => [(mkS, marksV []), (0, v), (3, .pointer (some ⟨b0, 0, none⟩)), (12, v), (13, .int .i64 (l.length : Int)), (14, .int .i64 (s.1 : Int))]) (fun s => [.own b0 72 (u8s s.2), .sl v 35 l.length (encEs l)]) (fun s => s.2.length = 16 ∧ s.1 ≤ l.length ∧ goodB l (List.replicate 16 0) = goodB (l.drop s.1) s.2) (fun s => l.length - s.1) ((0, List.replicate 16 0) : Nat × List Int) ⟨by simp, Nat.zero_le _, rfl⟩ (by repeat (first | exact agree_nil | refine agree_cons (by rfl) ?_)) (by repeat constructor) (fun s g hkk => ?_)
    obtain ⟨hm, hk2, hk3⟩ := hkk
    obtain ⟨k, ms⟩ := s
    simp only at hm hk2 hk3 ⊢
    refine t_seq_region ?_
    refine rg_pure (by rfl) (by rfl) (pu_lss (by rfl) (by rfl)) ?_
    refine rg_nil ?_
    refine t_seq ?_
    refine t_cond (by rfl) (fun hc1 => ?_) (fun hc1 => ?_)
    ·
      have hk1 : k < l.length := by simp at hc1; omega
      have hke := hk.at_ k
      have hko := hk.ok k
      refine t_skip ?_
      refine t_seq ?_
      refine t_block ?_
      refine t_seq_region ?_
      refine rg_pure (by rfl) (by rfl) (pu_moveE (v := .int .i64 _) (by rfl)) ?_
      refine rg_pure (by rfl) (by rfl) (pu_index (by rfl) (by rfl) (SrcE.src (by repeat constructor)) underlying22 sizeOf49 (by omega)) ?_
      refine rg_pure (by rfl) (by rfl) (pu_loadS (ds := encE (l.getD (k) d0)) (by rfl) isAgg49 sizeOf49 (SrcE.src (by repeat constructor)) (encEs_at hk hk1) (encE_len (hk.at_ _)) (by decide)) ?_
      refine rg_loud (by rfl) (lo_alloc (cs := _) (by rfl) zeroValue49 (by rfl) (fun b1 hb1 => ?_))
      refine rg_pure (by rfl) (by rfl) (pu_assignE (v := .int .i64 _) (by rfl)) ?_
      refine rg_loud (by rfl) (lo_storeV (vs := encE (l.getD k d0)) (by rfl) (by rfl) (by rfl) (by repeat constructor) sizeOf49 (by first | (simp only [u8s_len, u32s_len, i64s_len, List.length_replicate, List.length_set, encE_len, withS_len, *]; done) | rfl) (one_encE _) (by first | (simp only [u8s_len, u32s_len, i64s_len, List.length_replicate, List.length_set, encE_len, withS_len, *]; done) | rfl) ?_)
      refine rg_nil ?_
      refine t_seq_region ?_
      refine rg_pure (by rfl) (by rfl) (pu_loadAll (by rfl) isAgg72 sizeOf72 (HasE.has (by repeat constructor)) (by first | (simp only [u8s_len, u32s_len, i64s_len, List.length_replicate, List.length_set, encE_len, withS_len, *]; done) | rfl)) ?_
      first | (refine rg_pure (by rfl) (by rfl) (pu_field (by rfl) underlying49 (by rfl) sizeOf3 (by decide)) ?_) | (refine rg_pure (by rfl) (by rfl) (pu_fieldP (by rfl) underlying49 (by rfl) sizeOf3 (by decide) (src_some (SrcE.src (by repeat constructor)) (by omega))) ?_)
      refine rg_pure (by rfl) (by rfl) (pu_load1 (by rfl) isAgg3 (HasE.has (by repeat constructor)) (encE_place hke)) ?_
      first | (refine rg_pure (by rfl) (by rfl) (pu_field (by rfl) underlying49 (by rfl) sizeOf3 (by decide)) ?_) | (refine rg_pure (by rfl) (by rfl) (pu_fieldP (by rfl) underlying49 (by rfl) sizeOf3 (by decide) (src_some (SrcE.src (by repeat constructor)) (by omega))) ?_)
      refine rg_pure (by rfl) (by rfl) (pu_load1 (by rfl) isAgg3 (HasE.has (by repeat constructor)) (encE_blocks hke)) ?_
      refine rg_loud (by rfl) (lo_callFQ call33 (by rfl) (fun w hw => with_c ms hm _ _ w hko.2.2.1 hko.2.2.2.1) ?_)
      refine rg_pure (by rfl) (by rfl) (pu_move) ?_
      refine rg_pure (by rfl) (by rfl) (pu_extract (by rfl) (by rfl)) ?_
      refine rg_pure (by rfl) (by rfl) (pu_extract (by rfl) (by rfl)) ?_
      refine rg_loud (by rfl) (lo_alloc (cs := u8s (List.replicate 16 0)) (by rfl) zeroValue72 (by rfl) (fun b2 hb2 => ?_))
      refine rg_loud (by rfl) (lo_storeV (vs := _) (by rfl) (by rfl) (by rfl) (by repeat constructor) sizeOf72 (by first | (simp only [u8s_len, u32s_len, i64s_len, List.length_replicate, List.length_set, encE_len, withS_len, *]; done) | rfl) (one_u8s _) (by first | (simp only [u8s_len, u32s_len, i64s_len, List.length_replicate, List.length_set, encE_len, withS_len, *]; done) | rfl) ?_)
      refine rg_pure (by rfl) (by rfl) (pu_assignE (v := .int .i64 _) (by rfl)) ?_
      refine rg_nil ?_
      refine t_seq ?_
      refine t_seq_region ?_
      refine rg_pure (by rfl) (by rfl) (pu_moveE (v := .int .i64 _) (by rfl)) ?_
      refine rg_pure (by rfl) (by rfl) (pu_neq (by rfl) (by rfl)) ?_
      refine rg_pure (by rfl) (by rfl) (pu_moveE (v := .bool _) (by rfl)) ?_
      refine rg_gpure (by rfl) (by rfl) (by rfl) (by rfl) (fun hg => pu_moveE (v := v) (by rfl)) ?_
      refine rg_gpure (by rfl) (by rfl) (by rfl) (by rfl) (fun hg => pu_moveE (v := .int .i64 _) (by rfl)) ?_
      refine rg_gpure (by rfl) (by rfl) (by rfl) (by rfl) (fun hg => pu_moveE (v := .int .i64 _) (by rfl)) ?_
      refine rg_gpure (by rfl) (by rfl) (by rfl) (by rfl) (fun hg => pu_add64 (gvE hg (by rfl)) (by rfl) (by omega)) ?_
      refine rg_gpure (by rfl) (by rfl) (by rfl) (by rfl) (fun hg => pu_slice (l := k) (h := k + 1) (gvE hg (by rfl)) (SrcE.src (by repeat constructor)) underlying22 sizeOf49 (bv_op (gvE hg (by rfl)) (by omega)) (bv_op (gvE hg (by rfl)) (by omega)) (by omega) (by omega)) ?_
      refine rg_gcall (by rfl) (by rfl) (by rfl) (by rfl) (fun hg => lo_callFP call34 (by rfl) (fun w hw => gives_eq (args1 (gvE hg (by rfl))) (leafGood_c _ [l.getD k d0] (hk.one k) w (((src_cut (SrcE.src (by repeat constructor)) (l := k) (h := k + 1) (by omega) (by omega)).to (by show k + 1 - k = 1; omega) (encEs_one hk hk1)) w hw)))) ?_
      refine rg_gpure (by rfl) (by rfl) (by rfl) (by rfl) (fun hg => pu_not (gvE hg (by rfl))) ?_
      refine rg_pure (by rfl) (by rfl) (pu_pickOr (by rfl) (by rfl)) ?_
      refine rg_nil ?_
      refine t_cond (by rfl) (fun hc2 => ?_) (fun hc2 => ?_)
      ·
        have hstep : goodB (l.drop k) ms = false := by rw [drop_cons hk1, goodB, if_pos hc2]
        refine t_seq_region ?_
        refine rg_pure (by rfl) (by rfl) (pu_assignE (v := .bool _) (by rfl)) ?_
        refine rg_nil ?_
        refine t_ret ?_
        exact Fin.ret (res1 rfl .tmp) (by rw [goodI, hk3, hstep, Bool.and_false]; rfl)
      ·
        have hstep : goodB (l.drop k) ms = goodB (l.drop (k + 1)) (withS ms (l.getD k d0).2.1 (l.getD k d0).2.2.1).1 := by rw [drop_cons hk1, goodB, if_neg (by rw [show ((withS ms (l.getD k d0).2.1 (l.getD k d0).2.2.1).2 != 0 || !leafGood [l.getD k d0]) = false from hc2]; decide)]
        refine t_skip ?_
        refine t_region ?_
        refine rg_pure (by rfl) (by rfl) (pu_loadAll (by rfl) isAgg72 sizeOf72 (HasE.has (by repeat constructor)) (by first | (simp only [u8s_len, u32s_len, i64s_len, List.length_replicate, List.length_set, encE_len, withS_len, *]; done) | rfl)) ?_
        refine rg_loud (by rfl) (lo_storeV (vs := _) (by rfl) (by rfl) (by rfl) (by repeat constructor) sizeOf72 (by first | (simp only [u8s_len, u32s_len, i64s_len, List.length_replicate, List.length_set, encE_len, withS_len, *]; done) | rfl) (one_u8s _) (by first | (simp only [u8s_len, u32s_len, i64s_len, List.length_replicate, List.length_set, encE_len, withS_len, *]; done) | rfl) ?_)
        refine rg_nil ?_
        refine t_region ?_
        refine rg_pure (by rfl) (by rfl) (pu_add64 (by rfl) (by rfl) (by omega)) ?_
        refine rg_pure (by rfl) (by rfl) (pu_moveE (v := .int .i64 _) (by rfl)) ?_
        refine rg_nil ?_
        exact ⟨(k + 1, (withS ms (l.getD k d0).2.1 (l.getD k d0).2.2.1).1), ⟨withS_len hm _ _, hk1, hk3.trans hstep⟩, by show l.length - (k + 1) < l.length - k; omega, (by repeat (first | exact agree_nil | refine agree_cons (by rfl) ?_)), by repeat constructor⟩
    ·
      have hk1 : k = l.length := by simp at hc1; omega
      have hall : goodI l = true := by rw [goodI, hris, hk3, hk1, List.drop_length]; rfl
      refine t_exit ?_
      refine t_seq_region ?_
      refine rg_pure (by rfl) (by rfl) (pu_assignE (v := .bool _) (by rfl)) ?_
      refine rg_nil ?_
      refine t_ret ?_
      exact Fin.ret (res1 rfl .tmp) (by rw [hall]; rfl)
def rgBad (l : List En) (i : Nat) : Bool := !oneS (l.getD i d0) || (decide ((0 : Int) < i) && !lessS (l.getD ((i : Int) - 1).toNat d0).1 (l.getD i d0).1)
def rgOver (l : List En) (i k : Nat) : Bool := decide ((l.getD k d0).2.1 < (l.getD i d0).2.1 + (l.getD i d0).2.2.1) && decide ((l.getD i d0).2.1 < (l.getD k d0).2.1 + (l.getD k d0).2.2.1)
def rgAt (l : List En) (i : Nat) : Bool := rgBad l i || !(List.range i).all fun k => !rgOver l i k
/-- The document's Good. -/
def refGood (l : List En) : Bool := (List.range l.length).all fun i => !rgAt l i
theorem oneS_of {l : List En} {i : Nat} (h : rgBad l i = false) : oneS (l.getD i d0) = true := by
  cases hx : oneS (l.getD i d0) with
  | true => rfl
  | false => rw [rgBad, hx] at h; cases h
theorem oneS_spec {e : En} (h : oneS e = true) : 2 ≤ e.2.1 ∧ e.2.1 ≤ 127 ∧ 1 ≤ e.2.2.1 ∧ e.2.2.1 ≤ 8 ∧ e.2.1 + e.2.2.1 ≤ 128 ∧ 0 ≤ e.2.2.2 ∧ e.2.2.2 ≤ 1000 := by
  simp [oneS] at h; omega
theorem rgAt_bad {l : List En} {i : Nat} (h : rgAt l i = false) : rgBad l i = false := by
  cases hx : rgBad l i with
  | false => rfl
  | true => rw [rgAt, hx] at h; cases h
theorem refGood_c (v : Value) (l : List En) (hk : KeysOk l) (w : World) (hv : Sl w v 35 l.length (encEs l)) : Gives prog 13 [v].toArray w (.bool (refGood l)) := by
  have hb := hv.len
  refine gives_of_T func13 rfl 77 rfl rfl rfl [.sl v 35 l.length (encEs l)] ((holds0 w).addSl hv (by decide)) ?_
  refine t_seq_region ?_
  refine rg_pure (by rfl) (by rfl) (pu_assignE (v := .bool _) (by rfl)) ?_
  refine rg_nil ?_
  refine t_seq ?_
  refine t_seq_region ?_
  refine rg_pure (by rfl) (by rfl) (pu_assignE (v := .int .i64 _) (by rfl)) ?_
  refine rg_nil ?_
  refine t_block ?_
  refine t_loop (σ := Nat) (fun i => [(mkS, marksV []), (0, v), (3, .int .i64 (i : Int))]) (fun i => [.sl v 35 l.length (encEs l)]) (fun i => i ≤ l.length ∧ ∀ q, q < i → rgAt l q = false) (fun i => l.length - i) 0 ⟨Nat.zero_le _, fun _ h => absurd h (Nat.not_lt_zero _)⟩ (by repeat (first | exact agree_nil | refine agree_cons (by rfl) ?_)) (by repeat constructor) (fun i g hkk => ?_)
  obtain ⟨hi2, hi3⟩ := hkk
  refine t_seq ?_
  refine t_seq_region ?_
  refine rg_pure (by rfl) (by rfl) (pu_moveE (v := .int .i64 _) (by rfl)) ?_
  refine rg_pure (by rfl) (by rfl) (pu_moveE (v := v) (by rfl)) ?_
  refine rg_pure (by rfl) (by rfl) (pu_len (by rfl) (SrcE.src (by repeat constructor)) (by rfl) underlying22) ?_
  refine rg_pure (by rfl) (by rfl) (pu_lss (by rfl) (by rfl)) ?_
  refine rg_nil ?_
  refine t_cond (by rfl) (fun hc0 => ?_) (fun hc0 => ?_)
  ·
    have hi1 : i < l.length := by simp at hc0; omega
    refine t_skip ?_
    refine t_seq ?_
    refine t_block ?_
    refine t_seq ?_
    refine t_seq_draw 25 25 _ mixed (Sub.refl _) (by rfl) (by decide +kernel) ?_
    refine ra_pure0 0 1 rfl (by rfl) (by decide +kernel) (by rfl) (pu_moveE (v := v) (by rfl)) ?_
    refine ra_pure0 1 3 rfl (by rfl) (by decide +kernel) (by rfl) (pu_moveE (v := .int .i64 _) (by rfl)) ?_
    refine ra_pure 2 7 rfl (by rfl) (by decide +kernel) (by rfl) (pu_index (by rfl) (by rfl) (SrcE.src (by repeat constructor)) underlying22 sizeOf49 (by omega)) ?_
    refine ra_pure 3 15 rfl (by rfl) (by decide +kernel) (by rfl) (pu_loadS (ds := encE (l.getD (i) d0)) (by rfl) isAgg49 sizeOf49 (SrcE.src (by repeat constructor)) (encEs_at hk hi1) (encE_len (hk.at_ _)) (by decide)) ?_
    refine ra_next 4 31 (by decide +kernel) ?_
    refine next_loud rfl (by rfl) (lo_callFQ call35 (by rfl) (fun w hw => one_c (l.getD i d0) (hk.at_ _) w) ⟨(fun _ => (by repeat constructor)), ?_⟩)
    refine ra_pure0 5 63 rfl (by rfl) (by decide +kernel) (by rfl) (pu_not (by rfl)) ?_
    refine ra_pure0 6 127 rfl (by rfl) (by decide +kernel) (by rfl) (pu_moveE (v := .bool _) (by rfl)) ?_
    refine ra_gpure0 7 255 rfl (by rfl) (by rfl) (by rfl) (by decide +kernel) (by rfl) (fun hg => pu_moveE (v := .int .i64 _) (by rfl)) ?_
    refine ra_gpure0 8 511 rfl (by rfl) (by rfl) (by rfl) (by decide +kernel) (by rfl) (fun hg => pu_gtr (gvE hg (by rfl)) (by rfl)) ?_
    refine ra_gpure0 9 1023 rfl (by rfl) (by rfl) (by rfl) (by decide +kernel) (by rfl) (fun hg => pu_moveE (v := .bool _) (gvE hg (by rfl))) ?_
    refine ra_gpure0N 10 2047 rfl (by rfl) (by rfl) (by rfl) (by decide +kernel) (by rfl) (fun hg => pu_moveE (v := v) (by rfl)) ?_
    refine ra_gpure0N 11 4095 rfl (by rfl) (by rfl) (by rfl) (by decide +kernel) (by rfl) (fun hg => pu_moveE (v := .int .i64 _) (by rfl)) ?_
    refine ra_gpure0N 12 8191 rfl (by rfl) (by rfl) (by rfl) (by decide +kernel) (by rfl) (fun hg => pu_sub64 (gvE hg (by rfl)) (by rfl) (by omega)) ?_
    refine ra_gpureN 13 16383 rfl (by rfl) (by rfl) (by rfl) (by decide +kernel) (by rfl) (fun hg => pu_index (gvE hg (by rfl)) (gvE hg (by rfl)) (SrcE.src (by repeat constructor)) underlying22 sizeOf49 (by simp [-List.getD_eq_getElem?_getD] at hg; omega)) ?_
    refine ra_gpureN 14 32767 rfl (by rfl) (by rfl) (by rfl) (by decide +kernel) (by rfl) (fun hg => pu_fieldP (gvE hg (by rfl)) underlying49 (by rfl) sizeOf47 (by decide) (src_some (SrcE.src (by repeat constructor)) (by omega))) ?_
    refine ra_gpureN 15 65535 rfl (by rfl) (by rfl) (by rfl) (by decide +kernel) (by rfl) (fun hg => pu_loadS (ds := u8s (l.getD (((i : Int) - 1).toNat) d0).1) (gvE hg (by rfl)) isAgg47 sizeOf47 (SrcE.src (by repeat constructor)) (encEs_key hk (by omega)) (u8s_len32 (hk.at_ _)) (by decide)) ?_
    refine ra_gpure0N 16 131071 rfl (by rfl) (by rfl) (by rfl) (by decide +kernel) (by rfl) (fun hg => pu_moveE (v := v) (by rfl)) ?_
    refine ra_gpure0N 17 262143 rfl (by rfl) (by rfl) (by rfl) (by decide +kernel) (by rfl) (fun hg => pu_moveE (v := .int .i64 _) (by rfl)) ?_
    refine ra_gpureN 18 524287 rfl (by rfl) (by rfl) (by rfl) (by decide +kernel) (by rfl) (fun hg => pu_index (gvE hg (by rfl)) (gvE hg (by rfl)) (SrcE.src (by repeat constructor)) underlying22 sizeOf49 (by simp [-List.getD_eq_getElem?_getD] at hg; omega)) ?_
    refine ra_gpureN 19 1048575 rfl (by rfl) (by rfl) (by rfl) (by decide +kernel) (by rfl) (fun hg => pu_fieldP (gvE hg (by rfl)) underlying49 (by rfl) sizeOf47 (by decide) (src_some (SrcE.src (by repeat constructor)) (by omega))) ?_
    refine ra_gpureN 20 2097151 rfl (by rfl) (by rfl) (by rfl) (by decide +kernel) (by rfl) (fun hg => pu_loadS (ds := u8s (l.getD (i) d0).1) (gvE hg (by rfl)) isAgg47 sizeOf47 (SrcE.src (by repeat constructor)) (encEs_key hk (by omega)) (u8s_len32 (hk.at_ _)) (by decide)) ?_
    refine ra_next 21 4194303 (by decide +kernel) ?_
    refine next_gcallN rfl (by rfl) (by rfl) (by rfl) (by rfl) (by repeat constructor) (fun hg => lo_callFP call36 (by rfl) (fun w hw => gives_eq (args2 (gvE hg (by rfl)) (gvE hg (by rfl))) (rless_c (l.getD ((i : Int) - 1).toNat d0).1 (l.getD i d0).1 (hk.at_ _) (hk.at_ _) w))) ?_
    refine ra_gpure0N 22 8388607 rfl (by rfl) (by rfl) (by rfl) (by decide +kernel) (by rfl) (fun hg => pu_not (gvE hg (by rfl))) ?_
    refine ra_gpure0 23 16777215 rfl (by rfl) (by rfl) (by rfl) (by decide +kernel) (by rfl) (fun hg => pu_pickAnd (gvE hg (by rfl)) (gvAnd hg (by rfl))) ?_
    refine ra_pure0 24 33554431 rfl (by rfl) (by decide +kernel) (by rfl) (pu_pickOr (by rfl) (by rfl)) ?_
    refine ra_end (by decide +kernel) ?_
    refine t_cond (by rfl) (fun hc1 => ?_) (fun hc1 => ?_)
    ·
      have hbad : refGood l = false := not_all hi1 (by rw [rgAt, show rgBad l i = true from hc1]; rfl)
      refine t_seq_region ?_
      refine rg_pure (by rfl) (by rfl) (pu_assignE (v := .bool _) (by rfl)) ?_
      refine rg_nil ?_
      refine t_ret ?_
      exact Fin.ret (res1 rfl .tmp) (by rw [hbad]; rfl)
    ·
      have hbi : rgBad l i = false := hc1
      have hoi := oneS_spec (oneS_of hbi)
      refine t_skip ?_
      refine t_seq_region ?_
      refine rg_pure (by rfl) (by rfl) (pu_assignE (v := .int .i64 _) (by rfl)) ?_
      refine rg_nil ?_
      refine t_block ?_
      refine t_loop (σ := Nat) (fun k => [(mkS, marksV []), (0, v), (3, .int .i64 (i : Int)), (4, .int .i64 (k : Int))]) (fun k => [.sl v 35 l.length (encEs l)]) (fun k => k ≤ i ∧ ∀ q, q < k → rgOver l i q = false) (fun k => i - k) 0 ⟨Nat.zero_le _, fun _ h => absurd h (Nat.not_lt_zero _)⟩ (by repeat (first | exact agree_nil | refine agree_cons (by rfl) ?_)) (by repeat constructor) (fun k g hkk => ?_)
      obtain ⟨hk2, hk3⟩ := hkk
      refine t_seq ?_
      refine t_seq_region ?_
      refine rg_pure (by rfl) (by rfl) (pu_moveE (v := .int .i64 _) (by rfl)) ?_
      refine rg_pure (by rfl) (by rfl) (pu_moveE (v := .int .i64 _) (by rfl)) ?_
      refine rg_pure (by rfl) (by rfl) (pu_lss (by rfl) (by rfl)) ?_
      refine rg_nil ?_
      refine t_cond (by rfl) (fun hc2 => ?_) (fun hc2 => ?_)
      ·
        have hk1 : k < i := by simp at hc2; omega
        have hok := oneS_spec (oneS_of (rgAt_bad (hi3 k hk1)))
        refine t_skip ?_
        refine t_seq ?_
        refine t_block ?_
        refine t_seq_draw 36 36 _ mixed (Sub.refl _) (by rfl) (by decide +kernel) ?_
        refine ra_pure0 0 1 rfl (by rfl) (by decide +kernel) (by rfl) (pu_moveE (v := v) (by rfl)) ?_
        refine ra_pure0 1 3 rfl (by rfl) (by decide +kernel) (by rfl) (pu_moveE (v := .int .i64 _) (by rfl)) ?_
        refine ra_pure 2 7 rfl (by rfl) (by decide +kernel) (by rfl) (pu_index (by rfl) (by rfl) (SrcE.src (by repeat constructor)) underlying22 sizeOf49 (by omega)) ?_
        refine ra_pure 3 15 rfl (by rfl) (by decide +kernel) (by rfl) (pu_fieldP (by rfl) underlying49 (by rfl) sizeOf3 (by decide) (src_some (SrcE.src (by repeat constructor)) (by omega))) ?_
        refine ra_pure 4 31 rfl (by rfl) (by decide +kernel) (by rfl) (pu_load1S (u := .int .i64 (l.getD (k) d0).2.1) (by rfl) isAgg3 (SrcE.src (by repeat constructor)) ((encEs_cell hk (by omega) (by decide)).trans (encE_place (hk.at_ _)))) ?_
        refine ra_pure0 5 63 rfl (by rfl) (by decide +kernel) (by rfl) (pu_moveE (v := v) (by rfl)) ?_
        refine ra_pure0 6 127 rfl (by rfl) (by decide +kernel) (by rfl) (pu_moveE (v := .int .i64 _) (by rfl)) ?_
        refine ra_pure 7 255 rfl (by rfl) (by decide +kernel) (by rfl) (pu_index (by rfl) (by rfl) (SrcE.src (by repeat constructor)) underlying22 sizeOf49 (by omega)) ?_
        refine ra_pure 8 511 rfl (by rfl) (by decide +kernel) (by rfl) (pu_fieldP (by rfl) underlying49 (by rfl) sizeOf3 (by decide) (src_some (SrcE.src (by repeat constructor)) (by omega))) ?_
        refine ra_pure 9 1023 rfl (by rfl) (by decide +kernel) (by rfl) (pu_load1S (u := .int .i64 (l.getD (i) d0).2.1) (by rfl) isAgg3 (SrcE.src (by repeat constructor)) ((encEs_cell hk (by omega) (by decide)).trans (encE_place (hk.at_ _)))) ?_
        refine ra_pure0 10 2047 rfl (by rfl) (by decide +kernel) (by rfl) (pu_moveE (v := v) (by rfl)) ?_
        refine ra_pure0 11 4095 rfl (by rfl) (by decide +kernel) (by rfl) (pu_moveE (v := .int .i64 _) (by rfl)) ?_
        refine ra_pure 12 8191 rfl (by rfl) (by decide +kernel) (by rfl) (pu_index (by rfl) (by rfl) (SrcE.src (by repeat constructor)) underlying22 sizeOf49 (by omega)) ?_
        refine ra_pure 13 16383 rfl (by rfl) (by decide +kernel) (by rfl) (pu_fieldP (by rfl) underlying49 (by rfl) sizeOf3 (by decide) (src_some (SrcE.src (by repeat constructor)) (by omega))) ?_
        refine ra_pure 14 32767 rfl (by rfl) (by decide +kernel) (by rfl) (pu_load1S (u := .int .i64 (l.getD (i) d0).2.2.1) (by rfl) isAgg3 (SrcE.src (by repeat constructor)) ((encEs_cell hk (by omega) (by decide)).trans (encE_blocks (hk.at_ _)))) ?_
        refine ra_pure0 15 65535 rfl (by rfl) (by decide +kernel) (by rfl) (pu_add64 (by rfl) (by rfl) (by omega)) ?_
        refine ra_pure0 16 131071 rfl (by rfl) (by decide +kernel) (by rfl) (pu_lss (by rfl) (by rfl)) ?_
        refine ra_pure0 17 262143 rfl (by rfl) (by decide +kernel) (by rfl) (pu_moveE (v := .bool _) (by rfl)) ?_
        refine ra_gpure0 18 524287 rfl (by rfl) (by rfl) (by rfl) (by decide +kernel) (by rfl) (fun hg => pu_moveE (v := v) (by rfl)) ?_
        refine ra_gpure0 19 1048575 rfl (by rfl) (by rfl) (by rfl) (by decide +kernel) (by rfl) (fun hg => pu_moveE (v := .int .i64 _) (by rfl)) ?_
        refine ra_gpure 20 2097151 rfl (by rfl) (by rfl) (by rfl) (by decide +kernel) (by rfl) (fun hg => pu_index (gvE hg (by rfl)) (gvE hg (by rfl)) (SrcE.src (by repeat constructor)) underlying22 sizeOf49 (by omega)) ?_
        refine ra_gpure 21 4194303 rfl (by rfl) (by rfl) (by rfl) (by decide +kernel) (by rfl) (fun hg => pu_fieldP (gvE hg (by rfl)) underlying49 (by rfl) sizeOf3 (by decide) (src_some (SrcE.src (by repeat constructor)) (by omega))) ?_
        refine ra_gpure 22 8388607 rfl (by rfl) (by rfl) (by rfl) (by decide +kernel) (by rfl) (fun hg => pu_load1S (u := .int .i64 (l.getD (i) d0).2.1) (gvE hg (by rfl)) isAgg3 (SrcE.src (by repeat constructor)) ((encEs_cell hk (by omega) (by decide)).trans (encE_place (hk.at_ _)))) ?_
        refine ra_gpure0 23 16777215 rfl (by rfl) (by rfl) (by rfl) (by decide +kernel) (by rfl) (fun hg => pu_moveE (v := v) (by rfl)) ?_
        refine ra_gpure0 24 33554431 rfl (by rfl) (by rfl) (by rfl) (by decide +kernel) (by rfl) (fun hg => pu_moveE (v := .int .i64 _) (by rfl)) ?_
        refine ra_gpure 25 67108863 rfl (by rfl) (by rfl) (by rfl) (by decide +kernel) (by rfl) (fun hg => pu_index (gvE hg (by rfl)) (gvE hg (by rfl)) (SrcE.src (by repeat constructor)) underlying22 sizeOf49 (by omega)) ?_
        refine ra_gpure 26 134217727 rfl (by rfl) (by rfl) (by rfl) (by decide +kernel) (by rfl) (fun hg => pu_fieldP (gvE hg (by rfl)) underlying49 (by rfl) sizeOf3 (by decide) (src_some (SrcE.src (by repeat constructor)) (by omega))) ?_
        refine ra_gpure 27 268435455 rfl (by rfl) (by rfl) (by rfl) (by decide +kernel) (by rfl) (fun hg => pu_load1S (u := .int .i64 (l.getD (k) d0).2.1) (gvE hg (by rfl)) isAgg3 (SrcE.src (by repeat constructor)) ((encEs_cell hk (by omega) (by decide)).trans (encE_place (hk.at_ _)))) ?_
        refine ra_gpure0 28 536870911 rfl (by rfl) (by rfl) (by rfl) (by decide +kernel) (by rfl) (fun hg => pu_moveE (v := v) (by rfl)) ?_
        refine ra_gpure0 29 1073741823 rfl (by rfl) (by rfl) (by rfl) (by decide +kernel) (by rfl) (fun hg => pu_moveE (v := .int .i64 _) (by rfl)) ?_
        refine ra_gpure 30 2147483647 rfl (by rfl) (by rfl) (by rfl) (by decide +kernel) (by rfl) (fun hg => pu_index (gvE hg (by rfl)) (gvE hg (by rfl)) (SrcE.src (by repeat constructor)) underlying22 sizeOf49 (by omega)) ?_
        refine ra_gpure 31 4294967295 rfl (by rfl) (by rfl) (by rfl) (by decide +kernel) (by rfl) (fun hg => pu_fieldP (gvE hg (by rfl)) underlying49 (by rfl) sizeOf3 (by decide) (src_some (SrcE.src (by repeat constructor)) (by omega))) ?_
        refine ra_gpure 32 8589934591 rfl (by rfl) (by rfl) (by rfl) (by decide +kernel) (by rfl) (fun hg => pu_load1S (u := .int .i64 (l.getD (k) d0).2.2.1) (gvE hg (by rfl)) isAgg3 (SrcE.src (by repeat constructor)) ((encEs_cell hk (by omega) (by decide)).trans (encE_blocks (hk.at_ _)))) ?_
        refine ra_gpure0 33 17179869183 rfl (by rfl) (by rfl) (by rfl) (by decide +kernel) (by rfl) (fun hg => pu_add64 (gvE hg (by rfl)) (gvE hg (by rfl)) (by omega)) ?_
        refine ra_gpure0 34 34359738367 rfl (by rfl) (by rfl) (by rfl) (by decide +kernel) (by rfl) (fun hg => pu_lss (gvE hg (by rfl)) (gvE hg (by rfl))) ?_
        refine ra_pure0 35 68719476735 rfl (by rfl) (by decide +kernel) (by rfl) (pu_pickAnd (by rfl) (by rfl)) ?_
        refine ra_end (by decide +kernel) ?_
        refine t_cond (by rfl) (fun hc3 => ?_) (fun hc3 => ?_)
        ·
          have hbad : refGood l = false := not_all hi1 (by rw [rgAt, not_all hk1 (show rgOver l i k = true from hc3)]; simp)
          refine t_seq_region ?_
          refine rg_pure (by rfl) (by rfl) (pu_assignE (v := .bool _) (by rfl)) ?_
          refine rg_nil ?_
          refine t_ret ?_
          exact Fin.ret (res1 rfl .tmp) (by rw [hbad]; rfl)
        ·
          have hbk : rgOver l i k = false := hc3
          refine t_skip ?_
          refine t_region ?_
          refine rg_pure (by rfl) (by rfl) (pu_moveE (v := .int .i64 _) (by rfl)) ?_
          refine rg_pure (by rfl) (by rfl) (pu_add64 (by rfl) (by rfl) (by omega)) ?_
          refine rg_pure (by rfl) (by rfl) (pu_assignE (v := .int .i64 _) (by rfl)) ?_
          refine rg_nil ?_
          exact ⟨k + 1, ⟨hk1, lt_succ_cases hk3 hbk⟩, by show i - (k + 1) < i - k; omega, (by repeat (first | exact agree_nil | refine agree_cons (by rfl) ?_)), by repeat constructor⟩
      ·
        have hk1 : k = i := by simp at hc2; omega
        have hat : rgAt l i = false := by rw [rgAt, hbi, all_of (fun q hq => hk3 q (by omega))]; rfl
        refine t_exit ?_
        refine t_region ?_
        refine rg_pure (by rfl) (by rfl) (pu_moveE (v := .int .i64 _) (by rfl)) ?_
        refine rg_pure (by rfl) (by rfl) (pu_add64 (by rfl) (by rfl) (by omega)) ?_
        refine rg_pure (by rfl) (by rfl) (pu_assignE (v := .int .i64 _) (by rfl)) ?_
        refine rg_nil ?_
        exact ⟨i + 1, ⟨hi1, lt_succ_cases hi3 hat⟩, by show l.length - (i + 1) < l.length - i; omega, (by repeat (first | exact agree_nil | refine agree_cons (by rfl) ?_)), by repeat constructor⟩
  ·
    have hi1 : i = l.length := by simp at hc0; omega
    have hall : refGood l = true := all_of (by rw [← hi1]; exact hi3)
    refine t_exit ?_
    refine t_seq_region ?_
    refine rg_pure (by rfl) (by rfl) (pu_assignE (v := .bool _) (by rfl)) ?_
    refine rg_nil ?_
    refine t_ret ?_
    exact Fin.ret (res1 rfl .tmp) (by rw [hall]; rfl)
end Go.Proofs.Ytpoecjeknolnoaa
