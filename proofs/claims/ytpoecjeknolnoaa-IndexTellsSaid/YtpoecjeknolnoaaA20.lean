/- Walks of functions that the statements of this seat reach: what each one hands back. Conditions: those that each theorem names. -/
import Derived.Test.YtpoecjeknolnoaaA19
import Derived.Test.YtpoecjeknolnoaaProg
import Derived.KernelRfl
namespace Go.Proofs.Ytpoecjeknolnoaa
open Go.RowKit Go.Proofs.HL Go.Proofs.Try
set_option maxRecDepth 10000
set_option linter.unusedSimpArgs false
set_option linter.unusedVariables false
attribute [local irreducible] T RG RA Pu Lo
theorem without_c (v : Value) (l : List En) (i : Nat) (hi : i < l.length) (hn : l.length ≤ 1000000) (hk : KeysOk l) (w : World) (hv : Sl w v 35 l.length (encEs l)) :
    Calls prog 40 [.agg [v, fn48].toArray, .int .i64 (i : Int)].toArray w (Ret [] w fun u w' => ∃ r : Value, True ∧ u = r ∧ Fresh w.heap.size [Ent.row 49 35 r (l.length - 1) (encEs (delL l i))] w') := by
  have hb := hv.len
  refine hands_of_T func40 rfl 12 rfl rfl rfl [.sl v 35 l.length (encEs l)] ((holds0 w).addSl hv (by decide)) (fun _ => rfl) ?_
  refine t_seq_region ?_
  refine rg_loud (by rfl) (lo_boxA (by rfl) (by rfl) (fun b0 hb0 => ?_))
  refine rg_pure (by rfl) (by rfl) (pu_assign) ?_
  refine rg_nil ?_
  refine t_seq_region ?_
  first | (refine rg_pure (by rfl) (by rfl) (pu_field (by rfl) underlying69 (by rfl) sizeOf22 (by decide)) ?_) | (refine rg_pure (by rfl) (by rfl) (pu_fieldP (by rfl) underlying69 (by rfl) sizeOf22 (by decide) (src_some (SrcE.src (by repeat constructor)) (by omega))) ?_)
  refine rg_pure (by rfl) (by rfl) (pu_load1 (v := v) (by rfl) isAgg22 (HasE.has (by repeat constructor)) (by rfl)) ?_
  refine rg_loud (by rfl) (lo_callR (E := fun q => .row 49 35 q l.length (encEs l)) call52 (by rfl) (fun w hw => clone52_c v _ _ w ((SrcE.src (by repeat constructor)) w hw) (one_encEs l) (by omega)) (fun v1 => ?_))
  refine rg_pure (by rfl) (by rfl) (pu_moveE (v := .int .i64 _) (by rfl)) ?_
  refine rg_pure (by rfl) (by rfl) (pu_moveE (v := .int .i64 _) (by rfl)) ?_
  refine rg_pure (by rfl) (by rfl) (pu_add64 (by rfl) (by rfl) (by omega)) ?_
  refine rg_loud (by rfl) (lo_callX (cap := []) (fun _ : Value => True) (fun r => r) (fun r => [.row 49 35 r (l.length - 1) (encEs (delL l i))]) (old := [.row 49 35 v1 l.length (encEs l)]) v1.ownBlock.toList (by rfl) call55 (by rfl) (Pick.perm (by repeat constructor)) (fun q hq => by cases hx : v1.ownBlock with | none => rw [hx] at hq; cases hq | some q' => rw [hx] at hq; simp at hq; simp [Ent.blk, hx, hq]) (fun w hw hnd => by
    have hr : w.ownsRow 0 49 35 v1 l.length (encEs l) := hw (.row 49 35 v1 l.length (encEs l)) (by simp)
    exact delete_c v1 l i hi hn hk w hr) (fun r _ => ?_))
  refine rg_pure (by rfl) (by rfl) (pu_assignE (v := r) (by rfl)) ?_
  refine rg_nil ?_
  refine t_ret ?_
  exact Fin.ret (res1 rfl .tmp) ⟨r, trivial, rfl, by repeat constructor⟩
/-- index.Remove. -/
def removeS (l : List En) (key : List Int) : List En × Int := if (findS l key).2 then (delL l (findS l key).1, 0) else ([], 19)
theorem findS_lt {l : List En} {key : List Int} (h : (findS l key).2 = true) : (findS l key).1 < l.length := by
  have e2 : (findS l key).2 = (decide (((findS l key).1 : Int) < l.length) && (cmpK (l.getD (findS l key).1 d0) key == 0)) := rfl
  rw [e2, Bool.and_eq_true, decide_eq_true_eq] at h
  omega
theorem removeI_c (v : Value) (l : List En) (key : List Int) (hn : l.length ≤ 1000000) (hk : KeysOk l) (hkey : key.length = 32) (w : World) (hv : Sl w v 35 l.length (encEs l)) :
    Calls prog 23 [v, .agg (u8s key).toArray].toArray w (Ret [] w fun u w' => ∃ i : Value, True ∧ u = .tuple #[i, .int .i64 (removeS l key).2] ∧ Fresh w.heap.size [Ent.row 49 35 i (removeS l key).1.length (encEs (removeS l key).1)] w') := by
  have hv1 : ∃ A n c, v = .slice A n c := hv.isSl
  refine hands_of_T (V := fun i : Value => .tuple #[i, .int .i64 (removeS l key).2]) (E := fun i => [Ent.row 49 35 i (removeS l key).1.length (encEs (removeS l key).1)]) func23 rfl 20 rfl rfl rfl [.sl v 35 l.length (encEs l)] ((holds0 w).addSl hv (by decide)) (fun _ => rfl) ?_
  refine t_seq_region ?_
  refine rg_loud (by rfl) (lo_boxA (by rfl) (by rfl) (fun b0 hb0 => ?_))
  refine rg_pure (by rfl) (by rfl) (pu_assign) ?_
  refine rg_pure (by rfl) (by rfl) (pu_assignE (v := .int .i64 _) (by rfl)) ?_
  refine rg_nil ?_
  refine t_seq_region ?_
  refine rg_pure (by rfl) (by rfl) (pu_moveE (v := v) (by rfl)) ?_
  refine rg_pure (by rfl) (by rfl) (pu_loadAll (by rfl) isAgg47 sizeOf47 (HasE.has (by repeat constructor)) (u8s_len32 hkey)) ?_
  refine rg_loud (by rfl) (lo_callFQ call22 (by rfl) (fun w hw => Find_c v l key hn hk hkey w ((SrcE.src (by repeat constructor)) w hw)) ?_)
  refine rg_pure (by rfl) (by rfl) (pu_move) ?_
  refine rg_pure (by rfl) (by rfl) (pu_extract (by rfl) (by rfl)) ?_
  refine rg_pure (by rfl) (by rfl) (pu_extract (by rfl) (by rfl)) ?_
  refine rg_pure (by rfl) (by rfl) (pu_assignE (v := .int .i64 _) (by rfl)) ?_
  refine rg_pure (by rfl) (by rfl) (pu_assignE (v := .bool _) (by rfl)) ?_
  refine rg_nil ?_
  refine t_seq ?_
  refine t_seq_region ?_
  refine rg_pure (by rfl) (by rfl) (pu_moveE (v := .bool _) (by rfl)) ?_
  refine rg_pure (by rfl) (by rfl) (pu_not (by rfl)) ?_
  refine rg_nil ?_
  refine t_cond (by rfl) (fun hc0 => ?_) (fun hc0 => ?_)
  ·
    have hf : (findS l key).2 = false := by simpa using hc0
    have hbad : removeS l key = ([], 19) := by rw [removeS, if_neg (by rw [hf]; decide)]
    refine t_row_nil 49 35 ?_
    refine t_seq_region ?_
    refine rg_pure (by rfl) (by rfl) (pu_assign) ?_
    refine rg_pure (by rfl) (by rfl) (pu_assignE (v := .int .i64 _) (by rfl)) ?_
    refine rg_nil ?_
    refine t_ret ?_
    exact Fin.ret (res2 rfl .tmp .tmp) ⟨.slice none 0 0, trivial, by rw [hbad]; rfl, by rw [hbad]; repeat constructor⟩
  ·
    have hf : (findS l key).2 = true := by simpa using hc0
    have hok : removeS l key = (delL l (findS l key).1, 0) := by rw [removeS, if_pos hf]
    have hlt := findS_lt hf
    refine t_skip ?_
    refine t_seq_region ?_
    refine rg_pure (by rfl) (by rfl) (pu_moveE (v := v) (by rfl)) ?_
    refine rg_loud (by rfl) (lo_callFQ call31 (by rfl) (fun w hw => of_c v hv1 w) ?_)
    refine rg_pure (by rfl) (by rfl) (pu_moveE (v := .int .i64 _) (by rfl)) ?_
    refine rg_loud (by rfl) (lo_callR (E := fun r => .row 49 35 r (l.length - 1) (encEs (delL l (findS l key).1))) call40 (by rfl) (fun w hw => without_c v l (findS l key).1 hlt hn hk w ((SrcE.src (by repeat constructor)) w hw)) (fun r => ?_))
    refine rg_pure (by rfl) (by rfl) (pu_assignE (v := r) (by rfl)) ?_
    refine rg_pure (by rfl) (by rfl) (pu_assignE (v := .int .i64 _) (by rfl)) ?_
    refine rg_nil ?_
    refine t_ret ?_
    exact Fin.ret (res2 rfl .tmp .tmp) ⟨r, trivial, by rw [hok]; rfl, by rw [hok, delL_len hlt]; repeat constructor⟩
end Go.Proofs.Ytpoecjeknolnoaa
