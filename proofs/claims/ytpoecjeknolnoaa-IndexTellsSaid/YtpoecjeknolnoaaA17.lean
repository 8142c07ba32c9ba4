/- Walks of functions that the statements of this seat reach: what each one hands back. Conditions: those that each theorem names. -/
import Derived.Test.YtpoecjeknolnoaaA16
import Derived.Test.YtpoecjeknolnoaaProg
import Derived.KernelRfl
namespace Go.Proofs.Ytpoecjeknolnoaa
open Go.RowKit Go.Proofs.HL Go.Proofs.Try
set_option maxRecDepth 10000
set_option linter.unusedSimpArgs false
set_option linter.unusedVariables false
attribute [local irreducible] T RG RA Pu Lo
theorem with_row_c (v : Value) (l : List En) (i : Nat) (e : En) (hi : i ≤ l.length) (hn : l.length ≤ 1000000) (hk : KeysOk l) (he : e.1.length = 32) (w : World) (hv : Sl w v 35 l.length (encEs l)) :
    Calls prog 38 [.agg [v, fn48].toArray, .int .i64 (i : Int), .agg (encE e).toArray].toArray w (Ret [] w fun u w' => ∃ r : Value, True ∧ u = r ∧ Fresh w.heap.size [Ent.row 49 35 r (l.length + 1) (encEs (insL l i e))] w') := by
  have hb := hv.len
  refine hands_of_T func38 rfl 14 rfl rfl rfl [.sl v 35 l.length (encEs l)] ((holds0 w).addSl hv (by decide)) (fun _ => rfl) ?_
  refine t_seq_region ?_
  refine rg_loud (by rfl) (lo_boxA (by rfl) (by rfl) (fun b0 hb0 => ?_))
  refine rg_loud (by rfl) (lo_boxA (by rfl) (by rfl) (fun b1 hb1 => ?_))
  refine rg_pure (by rfl) (by rfl) (pu_assign) ?_
  refine rg_nil ?_
  refine t_seq_draw 8 8 [.own b0 69 [v, fn48], .own b1 49 (encE e)] mixed (by repeat constructor) (by rfl) (by decide +kernel) ?_
  first | (refine ra_pure0 0 1 rfl (by rfl) (by decide +kernel) (by rfl) (pu_field (by rfl) underlying69 (by rfl) sizeOf22 (by decide)) ?_) | (refine ra_pure 0 1 rfl (by rfl) (by decide +kernel) (by rfl) (pu_fieldP (by rfl) underlying69 (by rfl) sizeOf22 (by decide) (src_some (SrcE.src (by repeat constructor)) (by omega))) ?_)
  refine ra_pure 1 3 rfl (by rfl) (by decide +kernel) (by rfl) (pu_load1 (v := v) (by rfl) isAgg22 (HasE.has (by repeat constructor)) (by rfl)) ?_
  refine ra_pure0 3 11 rfl (by rfl) (by decide +kernel) (by rfl) (pu_moveE (v := .int .i64 _) (by rfl)) ?_
  refine ra_pure 4 27 rfl (by rfl) (by decide +kernel) (by rfl) (pu_loadAll (by rfl) isAgg49 sizeOf49 (HasE.has (by repeat constructor)) (encE_len he)) ?_
  refine ra_next2 2 5 31 59 (by decide +kernel) ?_ ?_
  ·
    refine next_loud rfl (by rfl) (lo_callR (E := fun q => .row 49 35 q l.length (encEs l)) call52 (by rfl) (fun w hw => clone52_c v _ _ w ((SrcE.src (by repeat constructor)) w hw) (one_encEs l) (by omega)) (fun v1 => ⟨(fun _ => (by repeat constructor)), ?_⟩))
    refine ra_next 5 63 (by decide +kernel) ?_
    refine next_loud rfl (by rfl) (lo_buildOne (v := .agg (encE e).toArray) (cs := encE e) (by rfl) underlying22 sizeOf49 (by decide) zeroValue49 (by rfl) (by rfl) (by rfl) (encE_len he) (fun b2 hb2 => ⟨(fun _ => (by repeat constructor)), ?_⟩))
    refine ra_next 6 127 (by decide +kernel) ?_
    refine next_loud rfl (by rfl) (lo_callX (cap := []) (fun _ : Value => True) (fun r => r) (fun r => [.row 49 35 r (l.length + 1) (encEs (insL l i e))]) (old := [.row 49 35 v1 l.length (encEs l)]) v1.ownBlock.toList (by rfl) call51 (by rfl) (Pick.perm (by repeat constructor)) (fun q hq => by cases hx : v1.ownBlock with | none => rw [hx] at hq; cases hq | some q' => rw [hx] at hq; simp at hq; simp [Ent.blk, hx, hq]) (fun w hw hnd => by
      have hr : w.ownsRow 0 49 35 v1 l.length (encEs l) := hw (.row 49 35 v1 l.length (encEs l)) (by simp)
      have hU := row_block (hw (.row 49 35 (.slice (some ⟨b2, 0, none⟩) 1 1) 1 (encE e)) (by simp))
      refine insert_c v1 l i e b2 hi hn hk he w hr hU (fun hx => ?_)
      exact blk_ne (a := .row 49 35 v1 l.length (encEs l)) (b := .row 49 35 (.slice (some ⟨b2, 0, none⟩) 1 1) 1 (encE e)) hnd (by repeat constructor) (by repeat constructor) hx rfl) (fun r _ => ⟨(fun _ => (by repeat constructor)), ?_⟩))
    refine ra_pure0 7 255 rfl (by rfl) (by decide +kernel) (by rfl) (pu_assign) ?_
    refine ra_end (by decide +kernel) ?_
    refine t_ret ?_
    exact Fin.ret (res1 rfl .tmp) ⟨r, trivial, rfl, by repeat constructor⟩
  ·
    refine next_loud rfl (by rfl) (lo_buildOne (v := .agg (encE e).toArray) (cs := encE e) (by rfl) underlying22 sizeOf49 (by decide) zeroValue49 (by rfl) (by rfl) (by rfl) (encE_len he) (fun b2 hb2 => ⟨(fun _ => (by repeat constructor)), ?_⟩))
    refine ra_next 2 63 (by decide +kernel) ?_
    refine next_loud rfl (by rfl) (lo_callR (E := fun q => .row 49 35 q l.length (encEs l)) call52 (by rfl) (fun w hw => clone52_c v _ _ w ((SrcE.src (by repeat constructor)) w hw) (one_encEs l) (by omega)) (fun v1 => ⟨(fun _ => (by repeat constructor)), ?_⟩))
    refine ra_next 6 127 (by decide +kernel) ?_
    refine next_loud rfl (by rfl) (lo_callX (cap := []) (fun _ : Value => True) (fun r => r) (fun r => [.row 49 35 r (l.length + 1) (encEs (insL l i e))]) (old := [.row 49 35 v1 l.length (encEs l)]) v1.ownBlock.toList (by rfl) call51 (by rfl) (Pick.perm (by repeat constructor)) (fun q hq => by cases hx : v1.ownBlock with | none => rw [hx] at hq; cases hq | some q' => rw [hx] at hq; simp at hq; simp [Ent.blk, hx, hq]) (fun w hw hnd => by
      have hr : w.ownsRow 0 49 35 v1 l.length (encEs l) := hw (.row 49 35 v1 l.length (encEs l)) (by simp)
      have hU := row_block (hw (.row 49 35 (.slice (some ⟨b2, 0, none⟩) 1 1) 1 (encE e)) (by simp))
      refine insert_c v1 l i e b2 hi hn hk he w hr hU (fun hx => ?_)
      exact blk_ne (a := .row 49 35 v1 l.length (encEs l)) (b := .row 49 35 (.slice (some ⟨b2, 0, none⟩) 1 1) 1 (encE e)) hnd (by repeat constructor) (by repeat constructor) hx rfl) (fun r _ => ⟨(fun _ => (by repeat constructor)), ?_⟩))
    refine ra_pure0 7 255 rfl (by rfl) (by decide +kernel) (by rfl) (pu_assign) ?_
    refine ra_end (by decide +kernel) ?_
    refine t_ret ?_
    exact Fin.ret (res1 rfl .tmp) ⟨r, trivial, rfl, by repeat constructor⟩
end Go.Proofs.Ytpoecjeknolnoaa
