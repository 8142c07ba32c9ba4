/- Walks of functions that the statements of this seat reach: what each one hands back. Conditions: those that each theorem names. -/
import Derived.Test.YtpoecjeknolnoaaA11
import Derived.Test.YtpoecjeknolnoaaProg
import Derived.KernelRfl
namespace Go.Proofs.Ytpoecjeknolnoaa
open Go.RowKit Go.Proofs.HL Go.Proofs.Try
set_option maxRecDepth 10000
set_option linter.unusedSimpArgs false
set_option linter.unusedVariables false
attribute [local irreducible] T RG RA Pu Lo
/-! ### Size -/
def sizeS (n : Int) : Int := if n ≤ 0 then 0 else (n - 1) / 3 + 1 + 1
theorem leaves_c (n : Int) (hn : 1 ≤ n ∧ n ≤ 9223372036854775807) (w : World) : Gives prog 37 [.int .i64 n].toArray w (.int .i64 ((n - 1) / 3 + 1)) := by
  refine gives_of_T func37 rfl 7 rfl rfl rfl [] (holds0 w) ?_
  refine t_seq_region ?_
  refine rg_pure (by rfl) (by rfl) (pu_assignE (v := .int .i64 _) (by rfl)) ?_
  refine rg_nil ?_
  refine t_seq_region ?_
  refine rg_pure (by rfl) (by rfl) (pu_moveE (v := .int .i64 _) (by rfl)) ?_
  refine rg_pure (by rfl) (by rfl) (pu_sub64 (by rfl) (by rfl) (by omega)) ?_
  refine rg_pure (by rfl) (by rfl) (pu_quo64 (by rfl) (by rfl) (by omega)) ?_
  refine rg_pure (by rfl) (by rfl) (pu_add64 (by rfl) (by rfl) (by omega)) ?_
  refine rg_pure (by rfl) (by rfl) (pu_assignE (v := .int .i64 _) (by rfl)) ?_
  refine rg_nil ?_
  refine t_ret ?_
  exact Fin.ret (res1 rfl .tmp) (by rfl)
theorem size_c (n : Int) (hn : -9223372036854775808 ≤ n ∧ n ≤ 9223372036854775807) (w : World) : Gives prog 16 [.int .i64 n].toArray w (.int .i64 (sizeS n)) := by
  refine gives_of_T func16 rfl 8 rfl rfl rfl [] (holds0 w) ?_
  refine t_seq_region ?_
  refine rg_pure (by rfl) (by rfl) (pu_assignE (v := .int .i64 _) (by rfl)) ?_
  refine rg_nil ?_
  refine t_seq ?_
  refine t_seq_region ?_
  refine rg_pure (by rfl) (by rfl) (pu_moveE (v := .int .i64 _) (by rfl)) ?_
  refine rg_pure (by rfl) (by rfl) (pu_leq (by rfl) (by rfl)) ?_
  refine rg_nil ?_
  refine t_cond (by rfl) (fun hc0 => ?_) (fun hc0 => ?_)
  ·
    have h : n ≤ 0 := by simpa using hc0
    refine t_seq_region ?_
    refine rg_pure (by rfl) (by rfl) (pu_assignE (v := .int .i64 _) (by rfl)) ?_
    refine rg_nil ?_
    refine t_ret ?_
    exact Fin.ret (res1 rfl .tmp) (by rw [sizeS, if_pos h]; rfl)
  ·
    have h : ¬ n ≤ 0 := by simpa using hc0
    refine t_skip ?_
    refine t_seq_region ?_
    refine rg_pure (by rfl) (by rfl) (pu_moveE (v := .int .i64 _) (by rfl)) ?_
    refine rg_loud (by rfl) (lo_callFQ call37 (by rfl) (fun w hw => leaves_c n (by omega) w) ?_)
    refine rg_pure (by rfl) (by rfl) (pu_add64 (by rfl) (by rfl) (by omega)) ?_
    refine rg_pure (by rfl) (by rfl) (pu_assignE (v := .int .i64 _) (by rfl)) ?_
    refine rg_nil ?_
    refine t_ret ?_
    exact Fin.ret (res1 rfl .tmp) (by rw [sizeS, if_neg h]; rfl)
theorem rsize_c (n : Int) (hn : -9223372036854775808 ≤ n ∧ n ≤ 9223372036854775807) (w : World) : Gives prog 17 [.int .i64 n].toArray w (.int .i64 (sizeS n)) := by
  refine gives_of_T func17 rfl 9 rfl rfl rfl [] (holds0 w) ?_
  refine t_seq_region ?_
  refine rg_pure (by rfl) (by rfl) (pu_assignE (v := .int .i64 _) (by rfl)) ?_
  refine rg_nil ?_
  refine t_seq ?_
  refine t_seq_region ?_
  refine rg_pure (by rfl) (by rfl) (pu_moveE (v := .int .i64 _) (by rfl)) ?_
  refine rg_pure (by rfl) (by rfl) (pu_lss (by rfl) (by rfl)) ?_
  refine rg_nil ?_
  refine t_cond (by rfl) (fun hc0 => ?_) (fun hc0 => ?_)
  ·
    have h : n ≤ 0 := by simp at hc0; omega
    refine t_seq_region ?_
    refine rg_pure (by rfl) (by rfl) (pu_assignE (v := .int .i64 _) (by rfl)) ?_
    refine rg_nil ?_
    refine t_ret ?_
    exact Fin.ret (res1 rfl .tmp) (by rw [sizeS, if_pos h]; rfl)
  ·
    have h : ¬ n ≤ 0 := by simp at hc0; omega
    refine t_skip ?_
    refine t_seq_region ?_
    refine rg_pure (by rfl) (by rfl) (pu_moveE (v := .int .i64 _) (by rfl)) ?_
    refine rg_pure (by rfl) (by rfl) (pu_sub64 (by rfl) (by rfl) (by omega)) ?_
    refine rg_pure (by rfl) (by rfl) (pu_quo64 (by rfl) (by rfl) (by omega)) ?_
    refine rg_pure (by rfl) (by rfl) (pu_add64 (by rfl) (by rfl) (by omega)) ?_
    refine rg_pure (by rfl) (by rfl) (pu_assignE (v := .int .i64 _) (by rfl)) ?_
    refine rg_nil ?_
    refine t_ret ?_
    exact Fin.ret (res1 rfl .tmp) (by rw [sizeS, if_neg h]; show Value.int .i64 ((n - 1) / 3 + 2) = _; congr 1; omega)
theorem eints_c (v u : Value) (a b : List Int) (_hh : True) (w : World) (hv : Sl w v 1 a.length (i64s a)) (hu : Sl w u 1 b.length (i64s b)) : Gives prog 18 [v, u].toArray w (.bool (a == b)) := by
  have hb1 := hv.len
  have hb2 := hu.len
  refine gives_of_T func18 rfl 26 rfl rfl rfl [.sl v 1 a.length (i64s a), .sl u 1 b.length (i64s b)] (((holds0 w).addSl hu (by decide)).addSl hv (by decide)) ?_
  refine t_seq_region ?_
  refine rg_pure (by rfl) (by rfl) (pu_assignE (v := .bool _) (by rfl)) ?_
  refine rg_nil ?_
  refine t_seq ?_
  refine t_seq_region ?_
  refine rg_pure (by rfl) (by rfl) (pu_moveE (v := v) (by rfl)) ?_
  refine rg_pure (by rfl) (by rfl) (pu_len (by rfl) (SrcE.src (by repeat constructor)) (by rfl) underlying23) ?_
  refine rg_pure (by rfl) (by rfl) (pu_moveE (v := u) (by rfl)) ?_
  refine rg_pure (by rfl) (by rfl) (pu_len (by rfl) (SrcE.src (by repeat constructor)) (by rfl) underlying23) ?_
  refine rg_pure (by rfl) (by rfl) (pu_neq (by rfl) (by rfl)) ?_
  refine rg_nil ?_
  refine t_cond (by rfl) (fun hc0 => ?_) (fun hc0 => ?_)
  ·
    have hne : (a == b) = false := by
      cases hx : (a == b) with
      | false => rfl
      | true => rw [eq_of_beq hx] at hc0; simp at hc0
    refine t_seq_region ?_
    refine rg_pure (by rfl) (by rfl) (pu_assignE (v := .bool _) (by rfl)) ?_
    refine rg_nil ?_
    refine t_ret ?_
    exact Fin.ret (res1 rfl .tmp) (by rw [hne]; rfl)
  ·
    have hl : a.length = b.length := by simp at hc0; omega
    refine t_skip ?_
    refine t_seq ?_
    refine t_seq_region ?_
    refine rg_pure (by rfl) (by rfl) (pu_assignE (v := .int .i64 _) (by rfl)) ?_
    refine rg_nil ?_
    refine t_block ?_
    refine t_loop (σ := Nat) (fun k => [(mkS, marksV []), (0, v), (1, u), (5, .int .i64 (k : Int))]) (fun k => [.sl v 1 a.length (i64s a), .sl u 1 b.length (i64s b)]) (fun k => k ≤ a.length ∧ a.take k = b.take k) (fun k => a.length - k) 0 ⟨Nat.zero_le _, rfl⟩ (by repeat (first | exact agree_nil | refine agree_cons (by rfl) ?_)) (by repeat constructor) (fun k g hkk => ?_)
    obtain ⟨hk2, hk3⟩ := hkk
    refine t_seq ?_
    refine t_seq_region ?_
    refine rg_pure (by rfl) (by rfl) (pu_moveE (v := .int .i64 _) (by rfl)) ?_
    refine rg_pure (by rfl) (by rfl) (pu_moveE (v := v) (by rfl)) ?_
    refine rg_pure (by rfl) (by rfl) (pu_len (by rfl) (SrcE.src (by repeat constructor)) (by rfl) underlying23) ?_
    refine rg_pure (by rfl) (by rfl) (pu_lss (by rfl) (by rfl)) ?_
    refine rg_nil ?_
    refine t_cond (by rfl) (fun hc1 => ?_) (fun hc1 => ?_)
    ·
      have hk1 : k < a.length := by simp at hc1; omega
      have hk4 : k < b.length := by omega
      refine t_skip ?_
      refine t_seq ?_
      refine t_block ?_
      refine t_seq_draw 9 9 _ mixed (Sub.refl _) (by rfl) (by decide +kernel) ?_
      refine ra_pure0 0 1 rfl (by rfl) (by decide +kernel) (by rfl) (pu_moveE (v := v) (by rfl)) ?_
      refine ra_pure0 1 3 rfl (by rfl) (by decide +kernel) (by rfl) (pu_moveE (v := .int .i64 _) (by rfl)) ?_
      refine ra_pure 2 7 rfl (by rfl) (by decide +kernel) (by rfl) (pu_index1 (by rfl) (by rfl) (src_sl (.head _)) underlying23 sizeOf3 (by omega)) ?_
      refine ra_pure 3 15 rfl (by rfl) (by decide +kernel) (by rfl) (pu_load1S (by rfl) isAgg3 (src_sl (.head _)) (i64s_get (by simpa using hk1))) ?_
      refine ra_pure0 4 31 rfl (by rfl) (by decide +kernel) (by rfl) (pu_moveE (v := u) (by rfl)) ?_
      refine ra_pure0 5 63 rfl (by rfl) (by decide +kernel) (by rfl) (pu_moveE (v := .int .i64 _) (by rfl)) ?_
      refine ra_pure 6 127 rfl (by rfl) (by decide +kernel) (by rfl) (pu_index1 (by rfl) (by rfl) (src_sl (.tail _ (.head _))) underlying23 sizeOf3 (by omega)) ?_
      refine ra_pure 7 255 rfl (by rfl) (by decide +kernel) (by rfl) (pu_load1S (by rfl) isAgg3 (src_sl (.tail _ (.head _))) (i64s_get (by simpa using hk4))) ?_
      refine ra_pure0 8 511 rfl (by rfl) (by decide +kernel) (by rfl) (pu_neq (by rfl) (by rfl)) ?_
      refine ra_end (by decide +kernel) ?_
      refine t_cond (by rfl) (fun hc2 => ?_) (fun hc2 => ?_)
      ·
        have hd : a.getD k 0 ≠ b.getD k 0 := by intro he; have : (a.getD k 0 != b.getD k 0) = true := hc2; rw [he] at this; simp at this
        have hne : (a == b) = false := by
          cases hx : (a == b) with
          | false => rfl
          | true => exact absurd (by rw [eq_of_beq hx]) hd
        refine t_seq_region ?_
        refine rg_pure (by rfl) (by rfl) (pu_assignE (v := .bool _) (by rfl)) ?_
        refine rg_nil ?_
        refine t_ret ?_
        exact Fin.ret (res1 rfl .tmp) (by rw [hne]; rfl)
      ·
        have hd : a.getD k 0 = b.getD k 0 := by have : (a.getD k 0 != b.getD k 0) = false := hc2; simpa [bne] using this
        have hst : a.take (k + 1) = b.take (k + 1) := by rw [List.take_succ_eq_append_getElem hk1, List.take_succ_eq_append_getElem hk4, hk3]; simp only [List.getD_eq_getElem?_getD, List.getElem?_eq_getElem hk1, List.getElem?_eq_getElem hk4, Option.getD_some] at hd; rw [hd]
        refine t_skip ?_
        refine t_region ?_
        refine rg_pure (by rfl) (by rfl) (pu_moveE (v := .int .i64 _) (by rfl)) ?_
        refine rg_pure (by rfl) (by rfl) (pu_add64 (by rfl) (by rfl) (by omega)) ?_
        refine rg_pure (by rfl) (by rfl) (pu_assignE (v := .int .i64 _) (by rfl)) ?_
        refine rg_nil ?_
        exact ⟨k + 1, ⟨hk1, hst⟩, by show a.length - (k + 1) < a.length - k; omega, (by repeat (first | exact agree_nil | refine agree_cons (by rfl) ?_)), by repeat constructor⟩
    ·
      have hk1 : k = a.length := by simp at hc1; omega
      have heq : (a == b) = true := by
        rw [hk1, List.take_length, hl, List.take_length] at hk3
        rw [hk3]; exact beq_self_eq_true b
      refine t_exit ?_
      refine t_seq_region ?_
      refine rg_pure (by rfl) (by rfl) (pu_assignE (v := .bool _) (by rfl)) ?_
      refine rg_nil ?_
      refine t_ret ?_
      exact Fin.ret (res1 rfl .tmp) (by rw [heq]; rfl)
theorem eblocks_c (v u : Value) (a b : List (List Int)) (hka : BsOk a) (hkb : BsOk b) (w : World) (hv : Sl w v 128 a.length (encBs a)) (hu : Sl w u 128 b.length (encBs b)) : Gives prog 14 [v, u].toArray w (.bool (a == b)) := by
  have hb1 := hv.len
  have hb2 := hu.len
  refine gives_of_T func14 rfl 26 rfl rfl rfl [.sl v 128 a.length (encBs a), .sl u 128 b.length (encBs b)] (((holds0 w).addSl hu (by decide)).addSl hv (by decide)) ?_
  refine t_seq_region ?_
  refine rg_pure (by rfl) (by rfl) (pu_assignE (v := .bool _) (by rfl)) ?_
  refine rg_nil ?_
  refine t_seq ?_
  refine t_seq_region ?_
  refine rg_pure (by rfl) (by rfl) (pu_moveE (v := v) (by rfl)) ?_
  refine rg_pure (by rfl) (by rfl) (pu_len (by rfl) (SrcE.src (by repeat constructor)) (by rfl) underlying24) ?_
  refine rg_pure (by rfl) (by rfl) (pu_moveE (v := u) (by rfl)) ?_
  refine rg_pure (by rfl) (by rfl) (pu_len (by rfl) (SrcE.src (by repeat constructor)) (by rfl) underlying24) ?_
  refine rg_pure (by rfl) (by rfl) (pu_neq (by rfl) (by rfl)) ?_
  refine rg_nil ?_
  refine t_cond (by rfl) (fun hc0 => ?_) (fun hc0 => ?_)
  ·
    have hne : (a == b) = false := by
      cases hx : (a == b) with
      | false => rfl
      | true => rw [eq_of_beq hx] at hc0; simp at hc0
    refine t_seq_region ?_
    refine rg_pure (by rfl) (by rfl) (pu_assignE (v := .bool _) (by rfl)) ?_
    refine rg_nil ?_
    refine t_ret ?_
    exact Fin.ret (res1 rfl .tmp) (by rw [hne]; rfl)
  ·
    have hl : a.length = b.length := by simp at hc0; omega
    refine t_skip ?_
    refine t_seq ?_
    refine t_seq_region ?_
    refine rg_pure (by rfl) (by rfl) (pu_assignE (v := .int .i64 _) (by rfl)) ?_
    refine rg_nil ?_
    refine t_block ?_
    refine t_loop (σ := Nat) (fun k => [(mkS, marksV []), (0, v), (1, u), (5, .int .i64 (k : Int))]) (fun k => [.sl v 128 a.length (encBs a), .sl u 128 b.length (encBs b)]) (fun k => k ≤ a.length ∧ a.take k = b.take k) (fun k => a.length - k) 0 ⟨Nat.zero_le _, rfl⟩ (by repeat (first | exact agree_nil | refine agree_cons (by rfl) ?_)) (by repeat constructor) (fun k g hkk => ?_)
    obtain ⟨hk2, hk3⟩ := hkk
    refine t_seq ?_
    refine t_seq_region ?_
    refine rg_pure (by rfl) (by rfl) (pu_moveE (v := .int .i64 _) (by rfl)) ?_
    refine rg_pure (by rfl) (by rfl) (pu_moveE (v := v) (by rfl)) ?_
    refine rg_pure (by rfl) (by rfl) (pu_len (by rfl) (SrcE.src (by repeat constructor)) (by rfl) underlying24) ?_
    refine rg_pure (by rfl) (by rfl) (pu_lss (by rfl) (by rfl)) ?_
    refine rg_nil ?_
    refine t_cond (by rfl) (fun hc1 => ?_) (fun hc1 => ?_)
    ·
      have hk1 : k < a.length := by simp at hc1; omega
      have hk4 : k < b.length := by omega
      refine t_skip ?_
      refine t_seq ?_
      refine t_block ?_
      refine t_seq_draw 9 9 _ mixed (Sub.refl _) (by rfl) (by decide +kernel) ?_
      refine ra_pure0 0 1 rfl (by rfl) (by decide +kernel) (by rfl) (pu_moveE (v := v) (by rfl)) ?_
      refine ra_pure0 1 3 rfl (by rfl) (by decide +kernel) (by rfl) (pu_moveE (v := .int .i64 _) (by rfl)) ?_
      refine ra_pure 2 7 rfl (by rfl) (by decide +kernel) (by rfl) (pu_index (by rfl) (by rfl) (src_sl (.head _)) underlying24 sizeOf43 (by omega)) ?_
      refine ra_pure 3 15 rfl (by rfl) (by decide +kernel) (by rfl) (pu_loadS (ds := u8s (a.getD k z128)) (by rfl) isAgg43 sizeOf43 (src_sl (.head _)) (encBs_at hka hk1) (by rw [u8s_len]; exact (hka.ok k).1) (by decide)) ?_
      refine ra_pure0 4 31 rfl (by rfl) (by decide +kernel) (by rfl) (pu_moveE (v := u) (by rfl)) ?_
      refine ra_pure0 5 63 rfl (by rfl) (by decide +kernel) (by rfl) (pu_moveE (v := .int .i64 _) (by rfl)) ?_
      refine ra_pure 6 127 rfl (by rfl) (by decide +kernel) (by rfl) (pu_index (by rfl) (by rfl) (src_sl (.tail _ (.head _))) underlying24 sizeOf43 (by omega)) ?_
      refine ra_pure 7 255 rfl (by rfl) (by decide +kernel) (by rfl) (pu_loadS (ds := u8s (b.getD k z128)) (by rfl) isAgg43 sizeOf43 (src_sl (.tail _ (.head _))) (encBs_at hkb hk4) (by rw [u8s_len]; exact (hkb.ok k).1) (by decide)) ?_
      refine ra_pure 8 511 rfl (by rfl) (by decide +kernel) (by rfl) (pu_neqInts (xs := a.getD k z128) (ys := b.getD k z128) (by rfl) (by rfl) underlying43 underlying5 info5 (by kernel_rfl) (hka.ok k).1 (hkb.ok k).1 eqGuardType43) ?_
      refine ra_end (by decide +kernel) ?_
      refine t_cond (by rfl) (fun hc2 => ?_) (fun hc2 => ?_)
      ·
        have hd : a.getD k z128 ≠ b.getD k z128 := by intro he; rw [he] at hc2; simp at hc2
        have hne : (a == b) = false := by
          cases hx : (a == b) with
          | false => rfl
          | true => exact absurd (by rw [eq_of_beq hx]) hd
        refine t_seq_region ?_
        refine rg_pure (by rfl) (by rfl) (pu_assignE (v := .bool _) (by rfl)) ?_
        refine rg_nil ?_
        refine t_ret ?_
        exact Fin.ret (res1 rfl .tmp) (by rw [hne]; rfl)
      ·
        have hd : a.getD k z128 = b.getD k z128 := by simpa using hc2
        have hst : a.take (k + 1) = b.take (k + 1) := by rw [List.take_succ_eq_append_getElem hk1, List.take_succ_eq_append_getElem hk4, hk3]; simp only [List.getD_eq_getElem?_getD, List.getElem?_eq_getElem hk1, List.getElem?_eq_getElem hk4, Option.getD_some] at hd; rw [hd]
        refine t_skip ?_
        refine t_region ?_
        refine rg_pure (by rfl) (by rfl) (pu_moveE (v := .int .i64 _) (by rfl)) ?_
        refine rg_pure (by rfl) (by rfl) (pu_add64 (by rfl) (by rfl) (by omega)) ?_
        refine rg_pure (by rfl) (by rfl) (pu_assignE (v := .int .i64 _) (by rfl)) ?_
        refine rg_nil ?_
        exact ⟨k + 1, ⟨hk1, hst⟩, by show a.length - (k + 1) < a.length - k; omega, (by repeat (first | exact agree_nil | refine agree_cons (by rfl) ?_)), by repeat constructor⟩
    ·
      have hk1 : k = a.length := by simp at hc1; omega
      have heq : (a == b) = true := by
        rw [hk1, List.take_length, hl, List.take_length] at hk3
        rw [hk3]; exact beq_self_eq_true b
      refine t_exit ?_
      refine t_seq_region ?_
      refine rg_pure (by rfl) (by rfl) (pu_assignE (v := .bool _) (by rfl)) ?_
      refine rg_nil ?_
      refine t_ret ?_
      exact Fin.ret (res1 rfl .tmp) (by rw [heq]; rfl)
theorem eqFields_nil {P : Program} (w : World) (d : Nat) (xs ys : Array Value) : (Op.eqFields d xs ys []).run P w = .ok true w := by simp [Op.eqFields]
theorem eqFields_step {P : Program} {w : World} {d : Nat} {xs ys : Array Value} {f : Field} {fs : List Field} {a b : Value} {r rr : Bool} (hn : f.name ≠ "_") (h1 : (part f.type xs f.offset).run P w = .ok a w) (h2 : (part f.type ys f.offset).run P w = .ok b w) (h3 : (Op.equalIn d f.type a b).run P w = .ok r w)
    (rest : (Op.eqFields d xs ys fs).run P w = .ok rr w) : (Op.eqFields d xs ys (f :: fs)).run P w = .ok (r && rr) w := by
  simp only [Op.eqFields]
  rw [if_pos hn]
  simp only [Sem.run_bind, h1, h2, h3, Result.andThen_ok]
  cases r
  · simp
  · simpa using rest
theorem run_equalIn_entry (w : World) (d : Nat) (e e' : En) (h : e.1.length = 32) (h' : e'.1.length = 32) : (Op.equalIn (d + 3) 49 (.agg (encE e).toArray) (.agg (encE e').toArray)).run prog w = .ok (e == e') w := by
  have pk : ∀ (e : En), e.1.length = 32 → (part 47 (encE e).toArray 0).run prog w = .ok (.agg (u8s e.1).toArray) w := fun e h => by
    simp only [part, Sem.run_bind, isAgg47, sizeOf47, Result.andThen_ok, if_true, Sem.run_pure]
    have := encE_key h
    rw [List.drop_zero] at this
    simp [this]
  have pi : ∀ (e : En) (q : Nat) (x : Int), (encE e)[q]? = some (.int .i64 x) → (part 3 (encE e).toArray q).run prog w = .ok (.int .i64 x) w := fun e q x hq => by
    simp only [part, Sem.run_bind, isAgg3, Result.andThen_ok, Bool.false_eq_true, if_false]
    simp [hq]
  have hs := run_equalIn_struct (P := prog) w (d + 2) 49 (encE e).toArray (encE e').toArray (by simp only [Program.fieldsOf, underlying49]) stoodInHeld49
  rw [hs]
  have hk := run_equalIn_ints (P := prog) (t := 47) w d underlying47 underlying5 info5 (by kernel_rfl) e.1 e'.1 h h'
  have hi : ∀ a b : Int, (Op.equalIn (d + 2) 3 (.int .i64 a) (.int .i64 b)).run prog w = .ok (a == b) w := fun a b => run_equalIn_int w (d + 1) 3 .i64 .i64 a b underlying3
  have hu : ∀ x : En, u8s x.1 = x.1.map (Value.int .u8) := fun _ => rfl
  have hf : (prog.fieldsOf 49).toList = [({ name := "Key", type := 47, offset := 0, embedded := false, tag := "", pkgPath := "", byteOffset := 0 } : Field), ({ name := "Place", type := 3, offset := 32, embedded := false, tag := "", pkgPath := "", byteOffset := 32 } : Field), ({ name := "Blocks", type := 3, offset := 33, embedded := false, tag := "", pkgPath := "", byteOffset := 40 } : Field), ({ name := "Refs", type := 3, offset := 34, embedded := false, tag := "", pkgPath := "", byteOffset := 48 } : Field)] := by simp only [Program.fieldsOf, underlying49]
  rw [hf]
  have hk' : (Op.equalIn (d + 2) 47 (.agg (u8s e.1).toArray) (.agg (u8s e'.1).toArray)).run prog w = .ok (e.1 == e'.1) w := hk
  have s4 := eqFields_step (P := prog) (w := w) (d := d + 2) (f := ({ name := "Refs", type := 3, offset := 34, embedded := false, tag := "", pkgPath := "", byteOffset := 48 } : Field)) (fs := []) (by decide) (pi e 34 _ (encE_refs h)) (pi e' 34 _ (encE_refs h')) (hi _ _) (eqFields_nil w (d + 2) _ _)
  have s3 := eqFields_step (P := prog) (w := w) (d := d + 2) (f := ({ name := "Blocks", type := 3, offset := 33, embedded := false, tag := "", pkgPath := "", byteOffset := 40 } : Field)) (by decide) (pi e 33 _ (encE_blocks h)) (pi e' 33 _ (encE_blocks h')) (hi _ _) s4
  have s2 := eqFields_step (P := prog) (w := w) (d := d + 2) (f := ({ name := "Place", type := 3, offset := 32, embedded := false, tag := "", pkgPath := "", byteOffset := 32 } : Field)) (by decide) (pi e 32 _ (encE_place h)) (pi e' 32 _ (encE_place h')) (hi _ _) s3
  have s1 := eqFields_step (P := prog) (w := w) (d := d + 2) (f := ({ name := "Key", type := 47, offset := 0, embedded := false, tag := "", pkgPath := "", byteOffset := 0 } : Field)) (by decide) (pk e h) (pk e' h') hk' s2
  refine s1.trans ?_
  obtain ⟨k, p, q, r⟩ := e
  obtain ⟨k', p', q', r'⟩ := e'
  rw [show (((k, p, q, r) : En) == (k', p', q', r')) = (k == k' && (p == p' && (q == q' && r == r'))) from rfl]
  cases (k == k') <;> cases (p == p') <;> cases (q == q') <;> cases (r == r') <;> simp
theorem pu_neqEn {f : Fm} {es : List Ent} {x y : Operand} {d : Option Nat} {ty t' : TypeId} {pos : String} {af : Array Edge} {g : Option (Nat × Bool)} {e e' : En} (hx : ev f x = .agg (encE e).toArray) (hy : ev f y = .agg (encE e').toArray) (h : e.1.length = 32) (h' : e'.1.length = 32) : Pu prog ⟨d, .binOp .neq 49 x y t', ty, pos, af, g⟩ f es (.bool !(e == e')) := by
  refine pu_of rfl fun w _ => ?_
  rw [hx, hy]
  have h1 := fun a b => run_guard_agg (x := x) (y := y) (P := prog) (t := 49) .neq w a b eqGuardType49
  simp only [Sem.run_bind, h1, Result.andThen_ok, run_neq_struct, run_equalIn_entry w 9997 e e' h h']
theorem eentries_c (v u : Value) (a b : List En) (hka : KeysOk a) (hkb : KeysOk b) (w : World) (hv : Sl w v 35 a.length (encEs a)) (hu : Sl w u 35 b.length (encEs b)) : Gives prog 15 [v, u].toArray w (.bool (a == b)) := by
  have hb1 := hv.len
  have hb2 := hu.len
  refine gives_of_T func15 rfl 26 rfl rfl rfl [.sl v 35 a.length (encEs a), .sl u 35 b.length (encEs b)] (((holds0 w).addSl hu (by decide)).addSl hv (by decide)) ?_
  refine t_seq_region ?_
  refine rg_pure (by rfl) (by rfl) (pu_assignE (v := .bool _) (by rfl)) ?_
  refine rg_nil ?_
  refine t_seq ?_
  refine t_seq_region ?_
  refine rg_pure (by rfl) (by rfl) (pu_moveE (v := v) (by rfl)) ?_
  refine rg_pure (by rfl) (by rfl) (pu_len (by rfl) (SrcE.src (by repeat constructor)) (by rfl) underlying22) ?_
  refine rg_pure (by rfl) (by rfl) (pu_moveE (v := u) (by rfl)) ?_
  refine rg_pure (by rfl) (by rfl) (pu_len (by rfl) (SrcE.src (by repeat constructor)) (by rfl) underlying22) ?_
  refine rg_pure (by rfl) (by rfl) (pu_neq (by rfl) (by rfl)) ?_
  refine rg_nil ?_
  refine t_cond (by rfl) (fun hc0 => ?_) (fun hc0 => ?_)
  ·
    have hne : (a == b) = false := by
      cases hx : (a == b) with
      | false => rfl
      | true => rw [eq_of_beq hx] at hc0; simp at hc0
    refine t_seq_region ?_
    refine rg_pure (by rfl) (by rfl) (pu_assignE (v := .bool _) (by rfl)) ?_
    refine rg_nil ?_
    refine t_ret ?_
    exact Fin.ret (res1 rfl .tmp) (by rw [hne]; rfl)
  ·
    have hl : a.length = b.length := by simp at hc0; omega
    refine t_skip ?_
    refine t_seq ?_
    refine t_seq_region ?_
    refine rg_pure (by rfl) (by rfl) (pu_assignE (v := .int .i64 _) (by rfl)) ?_
    refine rg_nil ?_
    refine t_block ?_
    refine t_loop (σ := Nat) (fun k => [(mkS, marksV []), (0, v), (1, u), (5, .int .i64 (k : Int))]) (fun k => [.sl v 35 a.length (encEs a), .sl u 35 b.length (encEs b)]) (fun k => k ≤ a.length ∧ a.take k = b.take k) (fun k => a.length - k) 0 ⟨Nat.zero_le _, rfl⟩ (by repeat (first | exact agree_nil | refine agree_cons (by rfl) ?_)) (by repeat constructor) (fun k g hkk => ?_)
    obtain ⟨hk2, hk3⟩ := hkk
    refine t_seq ?_
    refine t_seq_region ?_
    refine rg_pure (by rfl) (by rfl) (pu_moveE (v := .int .i64 _) (by rfl)) ?_
    refine rg_pure (by rfl) (by rfl) (pu_moveE (v := v) (by rfl)) ?_
    refine rg_pure (by rfl) (by rfl) (pu_len (by rfl) (SrcE.src (by repeat constructor)) (by rfl) underlying22) ?_
    refine rg_pure (by rfl) (by rfl) (pu_lss (by rfl) (by rfl)) ?_
    refine rg_nil ?_
    refine t_cond (by rfl) (fun hc1 => ?_) (fun hc1 => ?_)
    ·
      have hk1 : k < a.length := by simp at hc1; omega
      have hk4 : k < b.length := by omega
      refine t_skip ?_
      refine t_seq ?_
      refine t_block ?_
      refine t_seq_draw 9 9 _ mixed (Sub.refl _) (by rfl) (by decide +kernel) ?_
      refine ra_pure0 0 1 rfl (by rfl) (by decide +kernel) (by rfl) (pu_moveE (v := v) (by rfl)) ?_
      refine ra_pure0 1 3 rfl (by rfl) (by decide +kernel) (by rfl) (pu_moveE (v := .int .i64 _) (by rfl)) ?_
      refine ra_pure 2 7 rfl (by rfl) (by decide +kernel) (by rfl) (pu_index (by rfl) (by rfl) (src_sl (.head _)) underlying22 sizeOf49 (by omega)) ?_
      refine ra_pure 3 15 rfl (by rfl) (by decide +kernel) (by rfl) (pu_loadS (ds := encE (a.getD k d0)) (by rfl) isAgg49 sizeOf49 (src_sl (.head _)) (encEs_at hka hk1) (encE_len (hka.at_ k)) (by decide)) ?_
      refine ra_pure0 4 31 rfl (by rfl) (by decide +kernel) (by rfl) (pu_moveE (v := u) (by rfl)) ?_
      refine ra_pure0 5 63 rfl (by rfl) (by decide +kernel) (by rfl) (pu_moveE (v := .int .i64 _) (by rfl)) ?_
      refine ra_pure 6 127 rfl (by rfl) (by decide +kernel) (by rfl) (pu_index (by rfl) (by rfl) (src_sl (.tail _ (.head _))) underlying22 sizeOf49 (by omega)) ?_
      refine ra_pure 7 255 rfl (by rfl) (by decide +kernel) (by rfl) (pu_loadS (ds := encE (b.getD k d0)) (by rfl) isAgg49 sizeOf49 (src_sl (.tail _ (.head _))) (encEs_at hkb hk4) (encE_len (hkb.at_ k)) (by decide)) ?_
      refine ra_pure 8 511 rfl (by rfl) (by decide +kernel) (by rfl) (pu_neqEn (by rfl) (by rfl) (hka.at_ k) (hkb.at_ k)) ?_
      refine ra_end (by decide +kernel) ?_
      refine t_cond (by rfl) (fun hc2 => ?_) (fun hc2 => ?_)
      ·
        have hd : a.getD k d0 ≠ b.getD k d0 := by intro he; rw [he] at hc2; simp at hc2
        have hne : (a == b) = false := by
          cases hx : (a == b) with
          | false => rfl
          | true => exact absurd (by rw [eq_of_beq hx]) hd
        refine t_seq_region ?_
        refine rg_pure (by rfl) (by rfl) (pu_assignE (v := .bool _) (by rfl)) ?_
        refine rg_nil ?_
        refine t_ret ?_
        exact Fin.ret (res1 rfl .tmp) (by rw [hne]; rfl)
      ·
        have hd : a.getD k d0 = b.getD k d0 := by simpa using hc2
        have hst : a.take (k + 1) = b.take (k + 1) := by rw [List.take_succ_eq_append_getElem hk1, List.take_succ_eq_append_getElem hk4, hk3]; simp only [List.getD_eq_getElem?_getD, List.getElem?_eq_getElem hk1, List.getElem?_eq_getElem hk4, Option.getD_some] at hd; rw [hd]
        refine t_skip ?_
        refine t_region ?_
        refine rg_pure (by rfl) (by rfl) (pu_moveE (v := .int .i64 _) (by rfl)) ?_
        refine rg_pure (by rfl) (by rfl) (pu_add64 (by rfl) (by rfl) (by omega)) ?_
        refine rg_pure (by rfl) (by rfl) (pu_assignE (v := .int .i64 _) (by rfl)) ?_
        refine rg_nil ?_
        exact ⟨k + 1, ⟨hk1, hst⟩, by show a.length - (k + 1) < a.length - k; omega, (by repeat (first | exact agree_nil | refine agree_cons (by rfl) ?_)), by repeat constructor⟩
    ·
      have hk1 : k = a.length := by simp at hc1; omega
      have heq : (a == b) = true := by
        rw [hk1, List.take_length, hl, List.take_length] at hk3
        rw [hk3]; exact beq_self_eq_true b
      refine t_exit ?_
      refine t_seq_region ?_
      refine rg_pure (by rfl) (by rfl) (pu_assignE (v := .bool _) (by rfl)) ?_
      refine rg_nil ?_
      refine t_ret ?_
      exact Fin.ret (res1 rfl .tmp) (by rw [heq]; rfl)
end Go.Proofs.Ytpoecjeknolnoaa
