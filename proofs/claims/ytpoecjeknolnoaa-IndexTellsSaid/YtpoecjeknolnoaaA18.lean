/- Walks of functions that the statements of this seat reach: what each one hands back. Conditions: those that each theorem names. -/
import Derived.Test.YtpoecjeknolnoaaA17
import Derived.Test.YtpoecjeknolnoaaProg
import Derived.KernelRfl
namespace Go.Proofs.Ytpoecjeknolnoaa
open Go.RowKit Go.Proofs.HL Go.Proofs.Try
set_option maxRecDepth 10000
set_option linter.unusedSimpArgs false
set_option linter.unusedVariables false
attribute [local irreducible] T RG RA Pu Lo
theorem bsL_le (l : List En) (key : List Int) (i j : Nat) (h : i ≤ j) : bsL l key i j ≤ j := by
  fun_induction bsL l key i j with
  | case1 i j hij hc ih => exact ih (by omega)
  | case2 i j hij hc ih => exact Nat.le_trans (ih (by omega)) (by omega)
  | case3 i j hij => omega
theorem findS_le (l : List En) (key : List Int) : (findS l key).1 ≤ l.length := bsL_le l key 0 l.length (Nat.zero_le _)
/-- index.Insert. -/
def insertS (l : List En) (e : En) : List En × Int := if (findS l e.1).2 then ([], 1) else (insL l (findS l e.1).1 e, 0)
theorem insertI_c (v : Value) (l : List En) (e : En) (hn : l.length ≤ 1000000) (hk : KeysOk l) (he : e.1.length = 32) (w : World) (hv : Sl w v 35 l.length (encEs l)) :
    Calls prog 19 [v, .agg (encE e).toArray].toArray w (Ret [] w fun u w' => ∃ i : Value, True ∧ u = .tuple #[i, .int .i64 (insertS l e).2] ∧ Fresh w.heap.size [Ent.row 49 35 i (insertS l e).1.length (encEs (insertS l e).1)] w') := by
  have hv1 : ∃ A n c, v = .slice A n c := hv.isSl
  refine hands_of_T (V := fun i : Value => .tuple #[i, .int .i64 (insertS l e).2]) (E := fun i => [Ent.row 49 35 i (insertS l e).1.length (encEs (insertS l e).1)]) func19 rfl 21 rfl rfl rfl [.sl v 35 l.length (encEs l)] ((holds0 w).addSl hv (by decide)) (fun _ => rfl) ?_
  refine t_seq_region ?_
  refine rg_loud (by rfl) (lo_boxA (by rfl) (by rfl) (fun b0 hb0 => ?_))
  refine rg_pure (by rfl) (by rfl) (pu_assign) ?_
  refine rg_pure (by rfl) (by rfl) (pu_assignE (v := .int .i64 _) (by rfl)) ?_
  refine rg_nil ?_
  refine t_seq_region ?_
  refine rg_pure (by rfl) (by rfl) (pu_moveE (v := v) (by rfl)) ?_
  first | (refine rg_pure (by rfl) (by rfl) (pu_field (by rfl) underlying49 (by rfl) sizeOf47 (by decide)) ?_) | (refine rg_pure (by rfl) (by rfl) (pu_fieldP (by rfl) underlying49 (by rfl) sizeOf47 (by decide) (src_some (SrcE.src (by repeat constructor)) (by omega))) ?_)
  refine rg_pure (by rfl) (by rfl) (pu_load (ds := u8s _) (by rfl) isAgg47 sizeOf47 (HasE.has (by repeat constructor)) (encE_key he) (u8s_len32 he)) ?_
  refine rg_loud (by rfl) (lo_callFQ call22 (by rfl) (fun w hw => Find_c v l e.1 hn hk he w ((SrcE.src (by repeat constructor)) w hw)) ?_)
  refine rg_pure (by rfl) (by rfl) (pu_move) ?_
  refine rg_pure (by rfl) (by rfl) (pu_extract (by rfl) (by rfl)) ?_
  refine rg_pure (by rfl) (by rfl) (pu_extract (by rfl) (by rfl)) ?_
  refine rg_pure (by rfl) (by rfl) (pu_assignE (v := .int .i64 _) (by rfl)) ?_
  refine rg_pure (by rfl) (by rfl) (pu_assignE (v := .bool _) (by rfl)) ?_
  refine rg_nil ?_
  refine t_seq ?_
  refine t_seq_region ?_
  refine rg_pure (by rfl) (by rfl) (pu_moveE (v := .bool _) (by rfl)) ?_
  refine rg_nil ?_
  refine t_cond (by rfl) (fun hc0 => ?_) (fun hc0 => ?_)
  ·
    have hbad : insertS l e = ([], 1) := by rw [insertS, if_pos hc0]
    refine t_row_nil 49 35 ?_
    refine t_seq_region ?_
    refine rg_pure (by rfl) (by rfl) (pu_assign) ?_
    refine rg_pure (by rfl) (by rfl) (pu_assignE (v := .int .i64 _) (by rfl)) ?_
    refine rg_nil ?_
    refine t_ret ?_
    exact Fin.ret (res2 rfl .tmp .tmp) ⟨.slice none 0 0, trivial, by rw [hbad]; rfl, by rw [hbad]; repeat constructor⟩
  ·
    have hok : insertS l e = (insL l (findS l e.1).1 e, 0) := by rw [insertS, if_neg (by rw [hc0]; decide)]
    have hle := findS_le l e.1
    refine t_skip ?_
    refine t_seq_draw 7 7 [.own b0 49 (encE e), .sl v 35 l.length (encEs l)] mixed (by repeat constructor) (by rfl) (by decide +kernel) ?_
    refine ra_pure0 0 1 rfl (by rfl) (by decide +kernel) (by rfl) (pu_moveE (v := v) (by rfl)) ?_
    refine ra_pure0 2 5 rfl (by rfl) (by decide +kernel) (by rfl) (pu_moveE (v := .int .i64 _) (by rfl)) ?_
    refine ra_pure 3 13 rfl (by rfl) (by decide +kernel) (by rfl) (pu_loadAll (by rfl) isAgg49 sizeOf49 (HasE.has (by repeat constructor)) (encE_len he)) ?_
    refine ra_next 1 15 (by decide +kernel) ?_
    refine next_loud rfl (by rfl) (lo_callFQ call31 (by rfl) (fun w hw => of_c v hv1 w) ⟨(fun _ => (by repeat constructor)), ?_⟩)
    refine ra_next 4 31 (by decide +kernel) ?_
    refine next_loud rfl (by rfl) (lo_callR (E := fun r => .row 49 35 r (l.length + 1) (encEs (insL l (findS l e.1).1 e))) call38 (by rfl) (fun w hw => with_row_c v l (findS l e.1).1 e hle hn hk he w ((SrcE.src (by repeat constructor)) w hw)) (fun r => ⟨(fun _ => (by repeat constructor)), ?_⟩))
    refine ra_pure0 5 63 rfl (by rfl) (by decide +kernel) (by rfl) (pu_assignE (v := r) (by rfl)) ?_
    refine ra_pure0 6 127 rfl (by rfl) (by decide +kernel) (by rfl) (pu_assignE (v := .int .i64 _) (by rfl)) ?_
    refine ra_end (by decide +kernel) ?_
    refine t_ret ?_
    exact Fin.ret (res2 rfl .tmp .tmp) ⟨r, trivial, by rw [hok]; rfl, by rw [hok, insL_len hle]; repeat constructor⟩
end Go.Proofs.Ytpoecjeknolnoaa
