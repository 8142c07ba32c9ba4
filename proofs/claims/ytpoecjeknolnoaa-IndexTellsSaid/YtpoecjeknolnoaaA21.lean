/- Walks of functions that the statements of this seat reach: what each one hands back. Conditions: those that each theorem names. -/
import Derived.Test.YtpoecjeknolnoaaP5
import Derived.Test.YtpoecjeknolnoaaProg
import Derived.KernelRfl
namespace Go.Proofs.Ytpoecjeknolnoaa
open Go.RowKit Go.Proofs.HL Go.Proofs.Try
set_option maxRecDepth 10000
set_option linter.unusedSimpArgs false
set_option linter.unusedVariables false
attribute [local irreducible] T RG RA Pu Lo
theorem wakes_c (w : World) : Gives prog 7 [].toArray w (.bool true) := by
  refine gives_of_T func7 rfl 123 rfl rfl rfl [] (holds0 w) ?_
  refine t_seq_region ?_
  refine rg_pure (by rfl) (by rfl) (pu_assignE (v := .bool _) (by rfl)) ?_
  refine rg_nil ?_
  refine t_seq_region ?_
  refine rg_pure (by rfl) (by rfl) (pu_build (cells := (u8s (kw 1)).toArray) (by kernel_rfl)) ?_
  refine rg_pure (by rfl) (by rfl) (pu_build (cells := (encE (kw 1, 9, 2, 0)).toArray) (by kernel_rfl)) ?_
  refine rg_pure (by rfl) (by rfl) (pu_build (cells := (u8s (kw 3)).toArray) (by kernel_rfl)) ?_
  refine rg_pure (by rfl) (by rfl) (pu_build (cells := (encE (kw 3, 5, 1, 0)).toArray) (by kernel_rfl)) ?_
  refine rg_loud (by rfl) (lo_buildRow (z0 := encEs [d0, d0]) (cs := encEs lw) (by rfl) underlying22 sizeOf49 (by decide) zeroValue49 (by kernel_rfl) (by kernel_rfl) (by rfl) (by decide) (fun b0 hb0 => ?_))
  refine rg_pure (by rfl) (by rfl) (pu_assign) ?_
  refine rg_nil ?_
  refine t_seq_region ?_
  refine rg_pure (by rfl) (by rfl) (pu_move) ?_
  refine rg_loud (by rfl) (lo_buildRow1 (cs := i64s [20, 21]) (by rfl) underlying23 sizeOf3 (by decide) zeroValue3 (by rfl) (by kernel_rfl) (by rfl) (fun b1 hb1 => ?_))
  refine rg_loud (by rfl) (lo_callF (fun _ : Value => True) (fun i => .tuple #[i, .int .i64 0]) (fun i => [.row 43 128 i 2 (encBs (leavesS lw ++ [rw20]))]) call8 (by rfl) (fun w hw => by have := pack_c (.slice (some ⟨b0, 0, none⟩) 2 2) (.slice (some ⟨b1, 0, none⟩) 2 2) lw [20, 21] (by decide) lw_ok w ((SrcE.src (by repeat constructor)) w hw) ((SrcE.src (by repeat constructor)) w hw); rw [pack_lw] at this; exact this) (fun i1 _ => ?_))
  refine rg_pure (by rfl) (by rfl) (pu_move) ?_
  refine rg_pure (by rfl) (by rfl) (pu_extract (by rfl) (by rfl)) ?_
  refine rg_pure (by rfl) (by rfl) (pu_extract (by rfl) (by rfl)) ?_
  refine rg_pure (by rfl) (by rfl) (pu_assignE (v := i1) (by rfl)) ?_
  refine rg_pure (by rfl) (by rfl) (pu_assignE (v := .int .i64 _) (by rfl)) ?_
  refine rg_nil ?_
  refine t_seq ?_
  refine t_seq_region ?_
  refine rg_pure (by rfl) (by rfl) (pu_moveE (v := .int .i64 _) (by rfl)) ?_
  refine rg_pure (by rfl) (by rfl) (pu_neq (by rfl) (by rfl)) ?_
  refine rg_pure (by rfl) (by rfl) (pu_moveE (v := .bool _) (by rfl)) ?_
  refine rg_gpure (by rfl) (by rfl) (by rfl) (by rfl) (fun hg => pu_moveE (v := i1) (gvE hg (by rfl))) ?_
  refine rg_gpure (by rfl) (by rfl) (by rfl) (by rfl) (fun hg => pu_len (gvE hg (by rfl)) (SrcE.src (by repeat constructor)) (by rfl) underlying24) ?_
  refine rg_gpure (by rfl) (by rfl) (by rfl) (by rfl) (fun hg => pu_neq (gvE hg (by rfl)) (by rfl)) ?_
  refine rg_pure (by rfl) (by rfl) (pu_pickOr (by rfl) (by rfl)) ?_
  refine rg_nil ?_
  refine t_cond (by rfl) (fun hc0 => ?_) (fun hc0 => ?_)
  ·
    exact absurd hc0 (by decide)
  ·
    refine t_skip ?_
    refine t_seq_region ?_
    refine rg_pure (by rfl) (by rfl) (pu_moveE (v := i1) (by rfl)) ?_
    refine rg_pure (by rfl) (by rfl) (pu_slice (l := 0) (h := 1) (by rfl) (SrcE.src (by repeat constructor)) underlying24 sizeOf43 bv_none (bv_some (by rfl)) (by decide) (by decide)) ?_
    refine rg_loud (by rfl) (lo_callF (fun _ : Value => True) (fun i => .tuple #[i, .int .i64 0]) (fun i => [.row 49 35 i 2 (encEs lw)]) call10 (by rfl) (fun w hw => by have := unpack_c (slV 128 i1 0 1) (leavesS lw) (by decide) (leavesS_ok lw_ok) w (((src_cut (SrcE.src (by repeat constructor)) (l := 0) (h := 1) (by decide) (by decide)).to rfl (encBs_take 1 (leavesR_ok lw_ok _))) w hw); rw [unp_lw] at this; exact this) (fun i2 _ => ?_))
    refine rg_pure (by rfl) (by rfl) (pu_move) ?_
    refine rg_pure (by rfl) (by rfl) (pu_extract (by rfl) (by rfl)) ?_
    refine rg_pure (by rfl) (by rfl) (pu_extract (by rfl) (by rfl)) ?_
    refine rg_pure (by rfl) (by rfl) (pu_assignE (v := i2) (by rfl)) ?_
    refine rg_pure (by rfl) (by rfl) (pu_assignE (v := .int .i64 _) (by rfl)) ?_
    refine rg_nil ?_
    refine t_seq_region ?_
    refine rg_pure (by rfl) (by rfl) (pu_move) ?_
    refine rg_pure (by rfl) (by rfl) (pu_build (cells := (u8s (kw 2)).toArray) (by kernel_rfl)) ?_
    refine rg_loud (by rfl) (lo_callFQ (v := .tuple #[.int .i64 1, .bool false]) call22 (by rfl) (fun w hw => by have := Find_c (.slice (some ⟨b0, 0, none⟩) 2 2) lw (kw 2) (by decide) lw_ok rfl w ((SrcE.src (by repeat constructor)) w hw); rw [find_lw] at this; exact this) ?_)
    refine rg_pure (by rfl) (by rfl) (pu_move) ?_
    refine rg_pure (by rfl) (by rfl) (pu_extract (by rfl) (by rfl)) ?_
    refine rg_pure (by rfl) (by rfl) (pu_extract (by rfl) (by rfl)) ?_
    refine rg_pure (by rfl) (by rfl) (pu_assignE (v := .int .i64 _) (by rfl)) ?_
    refine rg_pure (by rfl) (by rfl) (pu_assignE (v := .bool _) (by rfl)) ?_
    refine rg_nil ?_
    refine t_seq_region ?_
    refine rg_pure (by rfl) (by rfl) (pu_move) ?_
    refine rg_pure (by rfl) (by rfl) (pu_build (cells := (u8s (kw 2)).toArray) (by kernel_rfl)) ?_
    refine rg_pure (by rfl) (by rfl) (pu_build (cells := (encE ew).toArray) (by kernel_rfl)) ?_
    refine rg_loud (by rfl) (lo_callF (fun _ : Value => True) (fun i => .tuple #[i, .int .i64 0]) (fun i => [.row 49 35 i 3 (encEs nw)]) call19 (by rfl) (fun w hw => by have := insertI_c (.slice (some ⟨b0, 0, none⟩) 2 2) lw ew (by decide) lw_ok rfl w ((SrcE.src (by repeat constructor)) w hw); rw [ins_lw] at this; exact this) (fun i3 _ => ?_))
    refine rg_pure (by rfl) (by rfl) (pu_move) ?_
    refine rg_pure (by rfl) (by rfl) (pu_extract (by rfl) (by rfl)) ?_
    refine rg_pure (by rfl) (by rfl) (pu_extract (by rfl) (by rfl)) ?_
    refine rg_pure (by rfl) (by rfl) (pu_assignE (v := i3) (by rfl)) ?_
    refine rg_pure (by rfl) (by rfl) (pu_assignE (v := .int .i64 _) (by rfl)) ?_
    refine rg_nil ?_
    refine t_seq_region ?_
    refine rg_pure (by rfl) (by rfl) (pu_moveE (v := i3) (by rfl)) ?_
    refine rg_pure (by rfl) (by rfl) (pu_build (cells := (u8s (kw 1)).toArray) (by kernel_rfl)) ?_
    refine rg_loud (by rfl) (lo_callF (fun _ : Value => True) (fun i => .tuple #[i, .int .i64 0]) (fun i => [.row 49 35 i 2 (encEs [(kw 2, 30, 1, 0), (kw 3, 5, 1, 0)])]) call23 (by rfl) (fun w hw => by have := removeI_c i3 nw (kw 1) (by decide) nw_ok rfl w ((SrcE.src (by repeat constructor)) w hw); rw [rem_nw] at this; exact this) (fun i4 _ => ?_))
    refine rg_pure (by rfl) (by rfl) (pu_move) ?_
    refine rg_pure (by rfl) (by rfl) (pu_extract (by rfl) (by rfl)) ?_
    refine rg_pure (by rfl) (by rfl) (pu_extract (by rfl) (by rfl)) ?_
    refine rg_pure (by rfl) (by rfl) (pu_assignE (v := i4) (by rfl)) ?_
    refine rg_pure (by rfl) (by rfl) (pu_assignE (v := .int .i64 _) (by rfl)) ?_
    refine rg_nil ?_
    refine t_seq_region ?_
    refine rg_pure (by rfl) (by rfl) (pu_move) ?_
    refine rg_pure (by rfl) (by rfl) (pu_build (cells := (u8s (kw 2)).toArray) (by kernel_rfl)) ?_
    refine rg_loud (by rfl) (lo_callF (fun _ : Value => True) (fun i => .tuple #[i, .int .i64 19]) (fun i => [.row 49 35 i 0 []]) call23 (by rfl) (fun w hw => by have := removeI_c (.slice (some ⟨b0, 0, none⟩) 2 2) lw (kw 2) (by decide) lw_ok rfl w ((SrcE.src (by repeat constructor)) w hw); rw [rem_lw] at this; exact this) (fun i5 _ => ?_))
    refine rg_pure (by rfl) (by rfl) (pu_move) ?_
    refine rg_pure (by rfl) (by rfl) (pu_extract (by rfl) (by rfl)) ?_
    refine rg_pure (by rfl) (by rfl) (pu_extract (by rfl) (by rfl)) ?_
    refine rg_pure (by rfl) (by rfl) (pu_assignE (v := i5) (by rfl)) ?_
    refine rg_pure (by rfl) (by rfl) (pu_assignE (v := .int .i64 _) (by rfl)) ?_
    refine rg_nil ?_
    refine t_seq_region ?_
    refine rg_pure (by rfl) (by rfl) (pu_moveE (v := .int .i64 _) (by rfl)) ?_
    refine rg_pure (by rfl) (by rfl) (pu_eql (by rfl) (by rfl)) ?_
    refine rg_pure (by rfl) (by rfl) (pu_moveE (v := .bool _) (by rfl)) ?_
    refine rg_gpure (by rfl) (by rfl) (by rfl) (by rfl) (fun hg => pu_moveE (v := i2) (gvE hg (by rfl))) ?_
    refine rg_gpure (by rfl) (by rfl) (by rfl) (by rfl) (fun hg => pu_move) ?_
    refine rg_gcall (by rfl) (by rfl) (by rfl) (by rfl) (fun hg => lo_callFP call15 (by rfl) (fun w hw => gives_eq (args2 (gvE hg (by rfl)) (gvE hg (by rfl))) (eentries_c i2 (.slice (some ⟨b0, 0, none⟩) 2 2) lw lw lw_ok lw_ok w ((SrcE.src (by repeat constructor)) w hw) ((SrcE.src (by repeat constructor)) w hw)))) ?_
    refine rg_pure (by rfl) (by rfl) (pu_pickAnd (by rfl) (by rfl)) ?_
    refine rg_pure (by rfl) (by rfl) (pu_moveE (v := .bool _) (by rfl)) ?_
    refine rg_gpure (by rfl) (by rfl) (by rfl) (by rfl) (fun hg => pu_moveE (v := .int .i64 _) (by rfl)) ?_
    refine rg_gpure (by rfl) (by rfl) (by rfl) (by rfl) (fun hg => pu_eql (gvE hg (by rfl)) (by rfl)) ?_
    refine rg_pure (by rfl) (by rfl) (pu_pickAnd (by rfl) (by rfl)) ?_
    refine rg_pure (by rfl) (by rfl) (pu_moveE (v := .bool _) (by rfl)) ?_
    refine rg_gpure (by rfl) (by rfl) (by rfl) (by rfl) (fun hg => pu_moveE (v := .bool _) (by rfl)) ?_
    refine rg_gpure (by rfl) (by rfl) (by rfl) (by rfl) (fun hg => pu_not (gvE hg (by rfl))) ?_
    refine rg_pure (by rfl) (by rfl) (pu_pickAnd (by rfl) (by rfl)) ?_
    refine rg_pure (by rfl) (by rfl) (pu_moveE (v := .bool _) (by rfl)) ?_
    refine rg_gpure (by rfl) (by rfl) (by rfl) (by rfl) (fun hg => pu_moveE (v := .int .i64 _) (by rfl)) ?_
    refine rg_gpure (by rfl) (by rfl) (by rfl) (by rfl) (fun hg => pu_eql (gvE hg (by rfl)) (by rfl)) ?_
    refine rg_pure (by rfl) (by rfl) (pu_pickAnd (by rfl) (by rfl)) ?_
    refine rg_pure (by rfl) (by rfl) (pu_moveE (v := .bool _) (by rfl)) ?_
    refine rg_gpure (by rfl) (by rfl) (by rfl) (by rfl) (fun hg => pu_moveE (v := i3) (gvE hg (by rfl))) ?_
    refine rg_gpure (by rfl) (by rfl) (by rfl) (by rfl) (fun hg => pu_len (gvE hg (by rfl)) (SrcE.src (by repeat constructor)) (by rfl) underlying22) ?_
    refine rg_gpure (by rfl) (by rfl) (by rfl) (by rfl) (fun hg => pu_eql (gvE hg (by rfl)) (by rfl)) ?_
    refine rg_pure (by rfl) (by rfl) (pu_pickAnd (by rfl) (by rfl)) ?_
    refine rg_pure (by rfl) (by rfl) (pu_moveE (v := .bool _) (by rfl)) ?_
    refine rg_gpure (by rfl) (by rfl) (by rfl) (by rfl) (fun hg => pu_moveE (v := i3) (gvE hg (by rfl))) ?_
    refine rg_gpure (by rfl) (by rfl) (by rfl) (by rfl) (fun hg => pu_index (gvE hg (by rfl)) (by rfl) (SrcE.src (by repeat constructor)) underlying22 sizeOf49 (by decide)) ?_
    refine rg_gpure (by rfl) (by rfl) (by rfl) (by rfl) (fun hg => pu_fieldP (gvE hg (by rfl)) underlying49 (by rfl) sizeOf3 (by decide) (src_some (SrcE.src (by repeat constructor)) (by decide))) ?_
    refine rg_gpure (by rfl) (by rfl) (by rfl) (by rfl) (fun hg => pu_load1S (u := .int .i64 30) (gvE hg (by rfl)) isAgg3 (SrcE.src (by repeat constructor)) (by kernel_rfl)) ?_
    refine rg_gpure (by rfl) (by rfl) (by rfl) (by rfl) (fun hg => pu_eql (gvE hg (by rfl)) (by rfl)) ?_
    refine rg_pure (by rfl) (by rfl) (pu_pickAnd (by rfl) (by rfl)) ?_
    refine rg_pure (by rfl) (by rfl) (pu_moveE (v := .bool _) (by rfl)) ?_
    refine rg_gpure (by rfl) (by rfl) (by rfl) (by rfl) (fun hg => pu_moveE (v := .int .i64 _) (by rfl)) ?_
    refine rg_gpure (by rfl) (by rfl) (by rfl) (by rfl) (fun hg => pu_eql (gvE hg (by rfl)) (by rfl)) ?_
    refine rg_pure (by rfl) (by rfl) (pu_pickAnd (by rfl) (by rfl)) ?_
    refine rg_pure (by rfl) (by rfl) (pu_moveE (v := .bool _) (by rfl)) ?_
    refine rg_gpure (by rfl) (by rfl) (by rfl) (by rfl) (fun hg => pu_moveE (v := i4) (gvE hg (by rfl))) ?_
    refine rg_gpure (by rfl) (by rfl) (by rfl) (by rfl) (fun hg => pu_len (gvE hg (by rfl)) (SrcE.src (by repeat constructor)) (by rfl) underlying22) ?_
    refine rg_gpure (by rfl) (by rfl) (by rfl) (by rfl) (fun hg => pu_eql (gvE hg (by rfl)) (by rfl)) ?_
    refine rg_pure (by rfl) (by rfl) (pu_pickAnd (by rfl) (by rfl)) ?_
    refine rg_pure (by rfl) (by rfl) (pu_moveE (v := .bool _) (by rfl)) ?_
    refine rg_gpure (by rfl) (by rfl) (by rfl) (by rfl) (fun hg => pu_moveE (v := .int .i64 _) (by rfl)) ?_
    refine rg_gpure (by rfl) (by rfl) (by rfl) (by rfl) (fun hg => pu_eql (gvE hg (by rfl)) (by rfl)) ?_
    refine rg_pure (by rfl) (by rfl) (pu_pickAnd (by rfl) (by rfl)) ?_
    refine rg_pure (by rfl) (by rfl) (pu_moveE (v := .bool _) (by rfl)) ?_
    refine rg_gcall (by rfl) (by rfl) (by rfl) (by rfl) (fun hg => lo_callFP call16 (by rfl) (fun w hw => gives_eq (args1 (by rfl)) (size_c 3 (by decide) w))) ?_
    refine rg_gpure (by rfl) (by rfl) (by rfl) (by rfl) (fun hg => pu_eql (gvE hg (by rfl)) (by rfl)) ?_
    refine rg_pure (by rfl) (by rfl) (pu_pickAnd (by rfl) (by rfl)) ?_
    refine rg_pure (by rfl) (by rfl) (pu_moveE (v := .bool _) (by rfl)) ?_
    refine rg_gcall (by rfl) (by rfl) (by rfl) (by rfl) (fun hg => lo_callFP call16 (by rfl) (fun w hw => gives_eq (args1 (by rfl)) (size_c 4 (by decide) w))) ?_
    refine rg_gpure (by rfl) (by rfl) (by rfl) (by rfl) (fun hg => pu_eql (gvE hg (by rfl)) (by rfl)) ?_
    refine rg_pure (by rfl) (by rfl) (pu_pickAnd (by rfl) (by rfl)) ?_
    refine rg_pure (by rfl) (by rfl) (pu_moveE (v := .bool _) (by rfl)) ?_
    refine rg_gcall (by rfl) (by rfl) (by rfl) (by rfl) (fun hg => lo_callFP call16 (by rfl) (fun w hw => gives_eq (args1 (by rfl)) (size_c 0 (by decide) w))) ?_
    refine rg_gpure (by rfl) (by rfl) (by rfl) (by rfl) (fun hg => pu_eql (gvE hg (by rfl)) (by rfl)) ?_
    refine rg_pure (by rfl) (by rfl) (pu_pickAnd (by rfl) (by rfl)) ?_
    refine rg_pure (by rfl) (by rfl) (pu_moveE (v := .bool _) (by rfl)) ?_
    refine rg_gpure (by rfl) (by rfl) (by rfl) (by rfl) (fun hg => pu_move) ?_
    refine rg_gcall (by rfl) (by rfl) (by rfl) (by rfl) (fun hg => lo_callFP call12 (by rfl) (fun w hw => gives_eq (args1 (gvE hg (by rfl))) (good_c (.slice (some ⟨b0, 0, none⟩) 2 2) lw lw_ok w ((SrcE.src (by repeat constructor)) w hw)))) ?_
    refine rg_pure (by rfl) (by rfl) (pu_pickAnd (by rfl) (by rfl)) ?_
    refine rg_pure (by rfl) (by rfl) (pu_assignE (v := .bool _) (by rfl)) ?_
    refine rg_nil ?_
    refine t_ret ?_
    exact Fin.ret (res1 rfl .tmp) (by show Value.bool _ = Value.bool true; congr 1)
end Go.Proofs.Ytpoecjeknolnoaa
