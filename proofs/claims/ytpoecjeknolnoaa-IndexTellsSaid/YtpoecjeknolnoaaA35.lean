/- Walks of functions that the statements of this seat reach: what each one hands back. Conditions: those that each theorem names. -/
import Derived.Test.YtpoecjeknolnoaaA34
import Derived.Test.YtpoecjeknolnoaaProg
import Derived.KernelRfl
namespace Go.Proofs.Ytpoecjeknolnoaa
open Go.RowKit Go.Proofs.HL Go.Proofs.Try
set_option maxRecDepth 10000
set_option linter.unusedSimpArgs false
set_option linter.unusedVariables false
attribute [local irreducible] T RG RA Pu Lo
theorem unpF_ok : ∀ {l : List (List Int)} {acc a : List En}, BsOk l → KeysOk acc → unpF l acc = some a → KeysOk a
  | [], acc, a, _, ha, h => by rw [unpF] at h; cases h; exact ha
  | b :: r, acc, a, hl, ha, h => by
    rw [unpF] at h
    split at h
    · cases h
    · refine unpF_ok (fun x hx => hl x (by simp [hx])) (fun e he => ?_) h
      rcases List.mem_append.1 he with he | he
      · exact ha e he
      · exact (decS_ok (hl b (by simp))).1 e he
theorem unpackS_ok {l : List (List Int)} (h : BsOk l) : KeysOk (unpackS l).1 := by
  rw [unpackS]
  cases hx : unpF l [] with
  | none => exact KeysOk.nil
  | some a =>
    have ha := unpF_ok h KeysOk.nil hx
    show KeysOk (if goodI a = true then (a, (0 : Int)) else ([], 11)).1
    split
    · exact ha
    · exact KeysOk.nil
set_option maxHeartbeats 2000000 in
theorem tells_c (v u z : Value) (l : List En) (p : List Int) (bs : List (List Int)) (hk : KeysOk l) (hp : ∀ x ∈ p, R64 x) (hbs : BsOk bs) (w : World) (hv : Sl w v 35 l.length (encEs l)) (hu : Sl w u 1 p.length (i64s p)) (hz : Sl w z 128 bs.length (encBs bs)) : Gives prog 3 [v, u, z].toArray w (.bool true) := by
  have hb := hv.len
  have hb2 := hu.len
  have hb3 := hz.len
  refine gives_of_T func3 rfl 119 rfl rfl rfl [.sl v 35 l.length (encEs l), .sl u 1 p.length (i64s p), .sl z 128 bs.length (encBs bs)] ((((holds0 w).addSl hz (by decide)).addSl hu (by decide)).addSl hv (by decide)) ?_
  refine t_seq_region ?_
  refine rg_pure (by rfl) (by rfl) (pu_assignE (v := .bool _) (by rfl)) ?_
  refine rg_nil ?_
  refine t_seq ?_
  refine t_seq_region ?_
  refine rg_pure (by rfl) (by rfl) (pu_moveE (v := v) (by rfl)) ?_
  refine rg_pure (by rfl) (by rfl) (pu_len (by rfl) (SrcE.src (by repeat constructor)) (by rfl) underlying22) ?_
  refine rg_pure (by rfl) (by rfl) (pu_gtr (by rfl) (by rfl)) ?_
  refine rg_pure (by rfl) (by rfl) (pu_moveE (v := .bool _) (by rfl)) ?_
  refine rg_gpure (by rfl) (by rfl) (by rfl) (by rfl) (fun hg => pu_moveE (v := u) (by rfl)) ?_
  refine rg_gpure (by rfl) (by rfl) (by rfl) (by rfl) (fun hg => pu_len (gvE hg (by rfl)) (SrcE.src (by repeat constructor)) (by rfl) underlying23) ?_
  refine rg_gpure (by rfl) (by rfl) (by rfl) (by rfl) (fun hg => pu_gtr (gvE hg (by rfl)) (by rfl)) ?_
  refine rg_pure (by rfl) (by rfl) (pu_pickOr (by rfl) (by rfl)) ?_
  refine rg_pure (by rfl) (by rfl) (pu_moveE (v := .bool _) (by rfl)) ?_
  refine rg_gpure (by rfl) (by rfl) (by rfl) (by rfl) (fun hg => pu_moveE (v := z) (by rfl)) ?_
  refine rg_gpure (by rfl) (by rfl) (by rfl) (by rfl) (fun hg => pu_len (gvE hg (by rfl)) (SrcE.src (by repeat constructor)) (by rfl) underlying24) ?_
  refine rg_gpure (by rfl) (by rfl) (by rfl) (by rfl) (fun hg => pu_gtr (gvE hg (by rfl)) (by rfl)) ?_
  refine rg_pure (by rfl) (by rfl) (pu_pickOr (by rfl) (by rfl)) ?_
  refine rg_nil ?_
  refine t_cond (by rfl) (fun hc0 => ?_) (fun hc0 => ?_)
  ·
    refine t_seq_region ?_
    refine rg_loud (by rfl) (lo_callFQ call7 (by rfl) (fun w hw => wakes_c w) ?_)
    refine rg_pure (by rfl) (by rfl) (pu_assignE (v := .bool _) (by rfl)) ?_
    refine rg_nil ?_
    refine t_ret ?_
    exact Fin.ret (res1 rfl .tmp) (by rfl)
  ·
    have hlen : l.length ≤ 200 ∧ p.length ≤ 200 ∧ bs.length ≤ 100 := by simp at hc0; omega
    have hok1 := packS_ok hk p
    have hok2 := unpackS_ok hbs
    refine t_skip ?_
    refine t_seq_region ?_
    refine rg_loud (by rfl) (lo_buildRow0 (by rfl) underlying22 sizeOf49 (fun b0 hb0 => ?_))
    refine rg_pure (by rfl) (by rfl) (pu_moveE (v := v) (by rfl)) ?_
    refine rg_loud (by rfl) (lo_appendE (xs' := encEs l) (k' := l.length) elemOk22 (by rfl) (by rfl) (by rfl) (by repeat constructor) (src_sl (.tail _ (.head _))) (one_encEs _) (by omega) (by simp) (List.nil_append _) (fun v1 => ?_))
    refine rg_loud (by rfl) (lo_buildRow0 (by rfl) underlying23 sizeOf3 (fun b2 hb2 => ?_))
    refine rg_pure (by rfl) (by rfl) (pu_moveE (v := u) (by rfl)) ?_
    refine rg_loud (by rfl) (lo_appendE (xs' := i64s p) (k' := p.length) elemOk23 (by rfl) (by rfl) (by rfl) (by repeat constructor) (src_sl (.tail _ (.tail _ (.tail _ (.head _))))) (one_i64s _) (by omega) (by simp) (List.nil_append _) (fun v3 => ?_))
    refine rg_pure (by rfl) (by rfl) (pu_assignE (v := v1) (by rfl)) ?_
    refine rg_pure (by rfl) (by rfl) (pu_assignE (v := v3) (by rfl)) ?_
    refine rg_nil ?_
    refine t_seq_region ?_
    refine rg_pure (by rfl) (by rfl) (pu_moveE (v := v1) (by rfl)) ?_
    refine rg_pure (by rfl) (by rfl) (pu_moveE (v := v3) (by rfl)) ?_
    refine rg_loud (by rfl) (lo_callF (fun _ : Value => True) (fun i => .tuple #[i, .int .i64 (packS l p).2]) (fun i => [.row 43 128 i (packS l p).1.length (encBs (packS l p).1)]) call8 (by rfl) (fun w hw => pack_c v1 v3 l p (by omega) hk w ((SrcE.src (by repeat constructor)) w hw) ((SrcE.src (by repeat constructor)) w hw)) (fun i1 _ => ?_))
    refine rg_pure (by rfl) (by rfl) (pu_move) ?_
    refine rg_pure (by rfl) (by rfl) (pu_extract (by rfl) (by rfl)) ?_
    refine rg_pure (by rfl) (by rfl) (pu_extract (by rfl) (by rfl)) ?_
    refine rg_pure (by rfl) (by rfl) (pu_assignE (v := i1) (by rfl)) ?_
    refine rg_pure (by rfl) (by rfl) (pu_assignE (v := .int .i64 _) (by rfl)) ?_
    refine rg_nil ?_
    refine t_seq_region ?_
    refine rg_pure (by rfl) (by rfl) (pu_moveE (v := v) (by rfl)) ?_
    refine rg_pure (by rfl) (by rfl) (pu_moveE (v := u) (by rfl)) ?_
    refine rg_loud (by rfl) (lo_callF (fun _ : Value => True) (fun i => .tuple #[i, .int .i64 (packS l p).2]) (fun i => [.row 43 128 i (packS l p).1.length (encBs (packS l p).1)]) call9 (by rfl) (fun w hw => rpack_c v u l p (by omega) hk w ((SrcE.src (by repeat constructor)) w hw) ((SrcE.src (by repeat constructor)) w hw)) (fun i2 _ => ?_))
    refine rg_pure (by rfl) (by rfl) (pu_move) ?_
    refine rg_pure (by rfl) (by rfl) (pu_extract (by rfl) (by rfl)) ?_
    refine rg_pure (by rfl) (by rfl) (pu_extract (by rfl) (by rfl)) ?_
    refine rg_pure (by rfl) (by rfl) (pu_assignE (v := i2) (by rfl)) ?_
    refine rg_pure (by rfl) (by rfl) (pu_assignE (v := .int .i64 _) (by rfl)) ?_
    refine rg_nil ?_
    refine t_seq_region ?_
    refine rg_loud (by rfl) (lo_buildRow0 (by rfl) underlying24 sizeOf43 (fun b4 hb4 => ?_))
    refine rg_pure (by rfl) (by rfl) (pu_moveE (v := z) (by rfl)) ?_
    refine rg_loud (by rfl) (lo_appendE (xs' := encBs bs) (k' := bs.length) elemOk24 (by rfl) (by rfl) (by rfl) (by repeat constructor) (SrcE.src (by repeat constructor)) (one_encBs _) (by omega) (by simp) (List.nil_append _) (fun v5 => ?_))
    refine rg_loud (by rfl) (lo_callF (fun _ : Value => True) (fun i => .tuple #[i, .int .i64 (unpackS bs).2]) (fun i => [.row 49 35 i (unpackS bs).1.length (encEs (unpackS bs).1)]) call10 (by rfl) (fun w hw => unpack_c v5 bs (by omega) hbs w ((SrcE.src (by repeat constructor)) w hw)) (fun i3 _ => ?_))
    refine rg_pure (by rfl) (by rfl) (pu_move) ?_
    refine rg_pure (by rfl) (by rfl) (pu_extract (by rfl) (by rfl)) ?_
    refine rg_pure (by rfl) (by rfl) (pu_extract (by rfl) (by rfl)) ?_
    refine rg_pure (by rfl) (by rfl) (pu_assignE (v := i3) (by rfl)) ?_
    refine rg_pure (by rfl) (by rfl) (pu_assignE (v := .int .i64 _) (by rfl)) ?_
    refine rg_nil ?_
    refine t_seq_region ?_
    refine rg_pure (by rfl) (by rfl) (pu_moveE (v := z) (by rfl)) ?_
    refine rg_loud (by rfl) (lo_callF (fun _ : Value => True) (fun i => .tuple #[i, .int .i64 (unpackS bs).2]) (fun i => [.row 49 35 i (unpackS bs).1.length (encEs (unpackS bs).1)]) call11 (by rfl) (fun w hw => runpack_c z bs (by omega) hbs w ((SrcE.src (by repeat constructor)) w hw)) (fun i4 _ => ?_))
    refine rg_pure (by rfl) (by rfl) (pu_move) ?_
    refine rg_pure (by rfl) (by rfl) (pu_extract (by rfl) (by rfl)) ?_
    refine rg_pure (by rfl) (by rfl) (pu_extract (by rfl) (by rfl)) ?_
    refine rg_pure (by rfl) (by rfl) (pu_assignE (v := i4) (by rfl)) ?_
    refine rg_pure (by rfl) (by rfl) (pu_assignE (v := .int .i64 _) (by rfl)) ?_
    refine rg_nil ?_
    refine t_seq_region ?_
    refine rg_pure (by rfl) (by rfl) (pu_moveE (v := v) (by rfl)) ?_
    refine rg_pure (by rfl) (by rfl) (pu_len (by rfl) (SrcE.src (by repeat constructor)) (by rfl) underlying22) ?_
    refine rg_pure (by rfl) (by rfl) (pu_assignE (v := .int .i64 _) (by rfl)) ?_
    refine rg_nil ?_
    refine t_seq ?_
    refine t_seq_region ?_
    refine rg_pure (by rfl) (by rfl) (pu_moveE (v := u) (by rfl)) ?_
    refine rg_pure (by rfl) (by rfl) (pu_len (by rfl) (SrcE.src (by repeat constructor)) (by rfl) underlying23) ?_
    refine rg_pure (by rfl) (by rfl) (pu_gtr (by rfl) (by rfl)) ?_
    refine rg_nil ?_
    refine t_cond (by rfl) (fun hc1 => ?_) (fun hc1 => ?_)
    ·
      have hp0 : 0 < p.length := by simp at hc1; omega
      have hkr : R64 (p.getD 0 0) := hp _ (getD_mem hp0)
      refine t_region ?_
      refine rg_pure (by rfl) (by rfl) (pu_moveE (v := u) (by rfl)) ?_
      refine rg_pure (by rfl) (by rfl) (pu_index1 (by rfl) (by rfl) (SrcE.src (by repeat constructor)) underlying23 sizeOf3 (by omega)) ?_
      refine rg_pure (by rfl) (by rfl) (pu_load1S (u := .int .i64 (p.getD 0 0)) (by rfl) isAgg3 (SrcE.src (by repeat constructor)) (i64s_get hp0)) ?_
      refine rg_pure (by rfl) (by rfl) (pu_assignE (v := .int .i64 _) (by rfl)) ?_
      refine rg_nil ?_
      refine t_seq_region ?_
      refine rg_pure (by rfl) (by rfl) (pu_moveE (v := v1) (by rfl)) ?_
      refine rg_loud (by rfl) (lo_callFQ call12 (by rfl) (fun w hw => good_c v1 l hk w ((SrcE.src (by repeat constructor)) w hw)) ?_)
      refine rg_pure (by rfl) (by rfl) (pu_moveE (v := v) (by rfl)) ?_
      refine rg_loud (by rfl) (lo_callFQ call13 (by rfl) (fun w hw => refGood_c v l hk w ((SrcE.src (by repeat constructor)) w hw)) ?_)
      refine rg_pure (by rfl) (by rfl) (pu_eqlB (by rfl) (by rfl) underlying4) ?_
      refine rg_pure (by rfl) (by rfl) (pu_moveE (v := .bool _) (by rfl)) ?_
      refine rg_gpure (by rfl) (by rfl) (by rfl) (by rfl) (fun hg => pu_moveE (v := i1) (by rfl)) ?_
      refine rg_gpure (by rfl) (by rfl) (by rfl) (by rfl) (fun hg => pu_moveE (v := i2) (by rfl)) ?_
      refine rg_gcall (by rfl) (by rfl) (by rfl) (by rfl) (fun hg => lo_callFP call14 (by rfl) (fun w hw => gives_eq (args2 (gvE hg (by rfl)) (gvE hg (by rfl))) (eblocks_c i1 i2 (packS l p).1 (packS l p).1 hok1 hok1 w ((SrcE.src (by repeat constructor)) w hw) ((SrcE.src (by repeat constructor)) w hw)))) ?_
      refine rg_pure (by rfl) (by rfl) (pu_pickAnd (by rfl) (by rfl)) ?_
      refine rg_pure (by rfl) (by rfl) (pu_moveE (v := .bool _) (by rfl)) ?_
      refine rg_gpure (by rfl) (by rfl) (by rfl) (by rfl) (fun hg => pu_moveE (v := .int .i64 _) (by rfl)) ?_
      refine rg_gpure (by rfl) (by rfl) (by rfl) (by rfl) (fun hg => pu_moveE (v := .int .i64 _) (by rfl)) ?_
      refine rg_gpure (by rfl) (by rfl) (by rfl) (by rfl) (fun hg => pu_eql (gvE hg (by rfl)) (gvE hg (by rfl))) ?_
      refine rg_pure (by rfl) (by rfl) (pu_pickAnd (by rfl) (by rfl)) ?_
      refine rg_pure (by rfl) (by rfl) (pu_moveE (v := .bool _) (by rfl)) ?_
      refine rg_gpure (by rfl) (by rfl) (by rfl) (by rfl) (fun hg => pu_moveE (v := i3) (by rfl)) ?_
      refine rg_gpure (by rfl) (by rfl) (by rfl) (by rfl) (fun hg => pu_moveE (v := i4) (by rfl)) ?_
      refine rg_gcall (by rfl) (by rfl) (by rfl) (by rfl) (fun hg => lo_callFP call15 (by rfl) (fun w hw => gives_eq (args2 (gvE hg (by rfl)) (gvE hg (by rfl))) (eentries_c i3 i4 (unpackS bs).1 (unpackS bs).1 hok2 hok2 w ((SrcE.src (by repeat constructor)) w hw) ((SrcE.src (by repeat constructor)) w hw)))) ?_
      refine rg_pure (by rfl) (by rfl) (pu_pickAnd (by rfl) (by rfl)) ?_
      refine rg_pure (by rfl) (by rfl) (pu_moveE (v := .bool _) (by rfl)) ?_
      refine rg_gpure (by rfl) (by rfl) (by rfl) (by rfl) (fun hg => pu_moveE (v := .int .i64 _) (by rfl)) ?_
      refine rg_gpure (by rfl) (by rfl) (by rfl) (by rfl) (fun hg => pu_moveE (v := .int .i64 _) (by rfl)) ?_
      refine rg_gpure (by rfl) (by rfl) (by rfl) (by rfl) (fun hg => pu_eql (gvE hg (by rfl)) (gvE hg (by rfl))) ?_
      refine rg_pure (by rfl) (by rfl) (pu_pickAnd (by rfl) (by rfl)) ?_
      refine rg_pure (by rfl) (by rfl) (pu_moveE (v := .bool _) (by rfl)) ?_
      refine rg_gpure (by rfl) (by rfl) (by rfl) (by rfl) (fun hg => pu_moveE (v := .int .i64 _) (by rfl)) ?_
      refine rg_gpure (by rfl) (by rfl) (by rfl) (by rfl) (fun hg => pu_gtr (gvE hg (by rfl)) (by rfl)) ?_
      refine rg_gpure (by rfl) (by rfl) (by rfl) (by rfl) (fun hg => pu_moveE (v := .bool _) (gvE hg (by rfl))) ?_
      refine rg_gpureN (by rfl) (by rfl) (by rfl) (by rfl) (fun hg => pu_moveE (v := .int .i64 _) (by rfl)) ?_
      refine rg_gcallN (by rfl) (by rfl) (by rfl) (by rfl) (fun hg => lo_callFP call16 (by rfl) (fun w hw => gives_eq (args1 (gvE hg (by rfl))) (size_c _ hkr w))) ?_
      refine rg_gpureN (by rfl) (by rfl) (by rfl) (by rfl) (fun hg => pu_moveE (v := .int .i64 _) (by rfl)) ?_
      refine rg_gcallN (by rfl) (by rfl) (by rfl) (by rfl) (fun hg => lo_callFP call17 (by rfl) (fun w hw => gives_eq (args1 (gvE hg (by rfl))) (rsize_c _ hkr w))) ?_
      refine rg_gpureN (by rfl) (by rfl) (by rfl) (by rfl) (fun hg => pu_eql (gvE hg (by rfl)) (gvE hg (by rfl))) ?_
      refine rg_gpure (by rfl) (by rfl) (by rfl) (by rfl) (fun hg => pu_pickOr (gvE hg (by rfl)) (gvAnd hg (by rfl))) ?_
      refine rg_pure (by rfl) (by rfl) (pu_pickAnd (by rfl) (by rfl)) ?_
      refine rg_pure (by rfl) (by rfl) (pu_moveE (v := .bool _) (by rfl)) ?_
      refine rg_gpure (by rfl) (by rfl) (by rfl) (by rfl) (fun hg => pu_moveE (v := v1) (by rfl)) ?_
      refine rg_gpure (by rfl) (by rfl) (by rfl) (by rfl) (fun hg => pu_moveE (v := v) (by rfl)) ?_
      refine rg_gcall (by rfl) (by rfl) (by rfl) (by rfl) (fun hg => lo_callFP call15 (by rfl) (fun w hw => gives_eq (args2 (gvE hg (by rfl)) (gvE hg (by rfl))) (eentries_c v1 v l l hk hk w ((SrcE.src (by repeat constructor)) w hw) ((SrcE.src (by repeat constructor)) w hw)))) ?_
      refine rg_pure (by rfl) (by rfl) (pu_pickAnd (by rfl) (by rfl)) ?_
      refine rg_pure (by rfl) (by rfl) (pu_moveE (v := .bool _) (by rfl)) ?_
      refine rg_gpure (by rfl) (by rfl) (by rfl) (by rfl) (fun hg => pu_moveE (v := v3) (by rfl)) ?_
      refine rg_gpure (by rfl) (by rfl) (by rfl) (by rfl) (fun hg => pu_moveE (v := u) (by rfl)) ?_
      refine rg_gcall (by rfl) (by rfl) (by rfl) (by rfl) (fun hg => lo_callFP call18 (by rfl) (fun w hw => gives_eq (args2 (gvE hg (by rfl)) (gvE hg (by rfl))) (eints_c v3 u p p trivial w ((SrcE.src (by repeat constructor)) w hw) ((SrcE.src (by repeat constructor)) w hw)))) ?_
      refine rg_pure (by rfl) (by rfl) (pu_pickAnd (by rfl) (by rfl)) ?_
      refine rg_pure (by rfl) (by rfl) (pu_moveE (v := .bool _) (by rfl)) ?_
      refine rg_gcall (by rfl) (by rfl) (by rfl) (by rfl) (fun hg => lo_callFP call7 (by rfl) (fun w hw => wakes_c w)) ?_
      refine rg_pure (by rfl) (by rfl) (pu_pickAnd (by rfl) (by rfl)) ?_
      refine rg_pure (by rfl) (by rfl) (pu_assignE (v := .bool _) (by rfl)) ?_
      refine rg_nil ?_
      refine t_ret ?_
      exact Fin.ret (res1 rfl .tmp) (by refine congrArg Value.bool ?_; rw [goodI_eq]; simp)
    ·
      have hkr : R64 (l.length : Int) := by constructor <;> omega
      refine t_skip ?_
      refine t_seq_region ?_
      refine rg_pure (by rfl) (by rfl) (pu_moveE (v := v1) (by rfl)) ?_
      refine rg_loud (by rfl) (lo_callFQ call12 (by rfl) (fun w hw => good_c v1 l hk w ((SrcE.src (by repeat constructor)) w hw)) ?_)
      refine rg_pure (by rfl) (by rfl) (pu_moveE (v := v) (by rfl)) ?_
      refine rg_loud (by rfl) (lo_callFQ call13 (by rfl) (fun w hw => refGood_c v l hk w ((SrcE.src (by repeat constructor)) w hw)) ?_)
      refine rg_pure (by rfl) (by rfl) (pu_eqlB (by rfl) (by rfl) underlying4) ?_
      refine rg_pure (by rfl) (by rfl) (pu_moveE (v := .bool _) (by rfl)) ?_
      refine rg_gpure (by rfl) (by rfl) (by rfl) (by rfl) (fun hg => pu_moveE (v := i1) (by rfl)) ?_
      refine rg_gpure (by rfl) (by rfl) (by rfl) (by rfl) (fun hg => pu_moveE (v := i2) (by rfl)) ?_
      refine rg_gcall (by rfl) (by rfl) (by rfl) (by rfl) (fun hg => lo_callFP call14 (by rfl) (fun w hw => gives_eq (args2 (gvE hg (by rfl)) (gvE hg (by rfl))) (eblocks_c i1 i2 (packS l p).1 (packS l p).1 hok1 hok1 w ((SrcE.src (by repeat constructor)) w hw) ((SrcE.src (by repeat constructor)) w hw)))) ?_
      refine rg_pure (by rfl) (by rfl) (pu_pickAnd (by rfl) (by rfl)) ?_
      refine rg_pure (by rfl) (by rfl) (pu_moveE (v := .bool _) (by rfl)) ?_
      refine rg_gpure (by rfl) (by rfl) (by rfl) (by rfl) (fun hg => pu_moveE (v := .int .i64 _) (by rfl)) ?_
      refine rg_gpure (by rfl) (by rfl) (by rfl) (by rfl) (fun hg => pu_moveE (v := .int .i64 _) (by rfl)) ?_
      refine rg_gpure (by rfl) (by rfl) (by rfl) (by rfl) (fun hg => pu_eql (gvE hg (by rfl)) (gvE hg (by rfl))) ?_
      refine rg_pure (by rfl) (by rfl) (pu_pickAnd (by rfl) (by rfl)) ?_
      refine rg_pure (by rfl) (by rfl) (pu_moveE (v := .bool _) (by rfl)) ?_
      refine rg_gpure (by rfl) (by rfl) (by rfl) (by rfl) (fun hg => pu_moveE (v := i3) (by rfl)) ?_
      refine rg_gpure (by rfl) (by rfl) (by rfl) (by rfl) (fun hg => pu_moveE (v := i4) (by rfl)) ?_
      refine rg_gcall (by rfl) (by rfl) (by rfl) (by rfl) (fun hg => lo_callFP call15 (by rfl) (fun w hw => gives_eq (args2 (gvE hg (by rfl)) (gvE hg (by rfl))) (eentries_c i3 i4 (unpackS bs).1 (unpackS bs).1 hok2 hok2 w ((SrcE.src (by repeat constructor)) w hw) ((SrcE.src (by repeat constructor)) w hw)))) ?_
      refine rg_pure (by rfl) (by rfl) (pu_pickAnd (by rfl) (by rfl)) ?_
      refine rg_pure (by rfl) (by rfl) (pu_moveE (v := .bool _) (by rfl)) ?_
      refine rg_gpure (by rfl) (by rfl) (by rfl) (by rfl) (fun hg => pu_moveE (v := .int .i64 _) (by rfl)) ?_
      refine rg_gpure (by rfl) (by rfl) (by rfl) (by rfl) (fun hg => pu_moveE (v := .int .i64 _) (by rfl)) ?_
      refine rg_gpure (by rfl) (by rfl) (by rfl) (by rfl) (fun hg => pu_eql (gvE hg (by rfl)) (gvE hg (by rfl))) ?_
      refine rg_pure (by rfl) (by rfl) (pu_pickAnd (by rfl) (by rfl)) ?_
      refine rg_pure (by rfl) (by rfl) (pu_moveE (v := .bool _) (by rfl)) ?_
      refine rg_gpure (by rfl) (by rfl) (by rfl) (by rfl) (fun hg => pu_moveE (v := .int .i64 _) (by rfl)) ?_
      refine rg_gpure (by rfl) (by rfl) (by rfl) (by rfl) (fun hg => pu_gtr (gvE hg (by rfl)) (by rfl)) ?_
      refine rg_gpure (by rfl) (by rfl) (by rfl) (by rfl) (fun hg => pu_moveE (v := .bool _) (gvE hg (by rfl))) ?_
      refine rg_gpureN (by rfl) (by rfl) (by rfl) (by rfl) (fun hg => pu_moveE (v := .int .i64 _) (by rfl)) ?_
      refine rg_gcallN (by rfl) (by rfl) (by rfl) (by rfl) (fun hg => lo_callFP call16 (by rfl) (fun w hw => gives_eq (args1 (gvE hg (by rfl))) (size_c _ hkr w))) ?_
      refine rg_gpureN (by rfl) (by rfl) (by rfl) (by rfl) (fun hg => pu_moveE (v := .int .i64 _) (by rfl)) ?_
      refine rg_gcallN (by rfl) (by rfl) (by rfl) (by rfl) (fun hg => lo_callFP call17 (by rfl) (fun w hw => gives_eq (args1 (gvE hg (by rfl))) (rsize_c _ hkr w))) ?_
      refine rg_gpureN (by rfl) (by rfl) (by rfl) (by rfl) (fun hg => pu_eql (gvE hg (by rfl)) (gvE hg (by rfl))) ?_
      refine rg_gpure (by rfl) (by rfl) (by rfl) (by rfl) (fun hg => pu_pickOr (gvE hg (by rfl)) (gvAnd hg (by rfl))) ?_
      refine rg_pure (by rfl) (by rfl) (pu_pickAnd (by rfl) (by rfl)) ?_
      refine rg_pure (by rfl) (by rfl) (pu_moveE (v := .bool _) (by rfl)) ?_
      refine rg_gpure (by rfl) (by rfl) (by rfl) (by rfl) (fun hg => pu_moveE (v := v1) (by rfl)) ?_
      refine rg_gpure (by rfl) (by rfl) (by rfl) (by rfl) (fun hg => pu_moveE (v := v) (by rfl)) ?_
      refine rg_gcall (by rfl) (by rfl) (by rfl) (by rfl) (fun hg => lo_callFP call15 (by rfl) (fun w hw => gives_eq (args2 (gvE hg (by rfl)) (gvE hg (by rfl))) (eentries_c v1 v l l hk hk w ((SrcE.src (by repeat constructor)) w hw) ((SrcE.src (by repeat constructor)) w hw)))) ?_
      refine rg_pure (by rfl) (by rfl) (pu_pickAnd (by rfl) (by rfl)) ?_
      refine rg_pure (by rfl) (by rfl) (pu_moveE (v := .bool _) (by rfl)) ?_
      refine rg_gpure (by rfl) (by rfl) (by rfl) (by rfl) (fun hg => pu_moveE (v := v3) (by rfl)) ?_
      refine rg_gpure (by rfl) (by rfl) (by rfl) (by rfl) (fun hg => pu_moveE (v := u) (by rfl)) ?_
      refine rg_gcall (by rfl) (by rfl) (by rfl) (by rfl) (fun hg => lo_callFP call18 (by rfl) (fun w hw => gives_eq (args2 (gvE hg (by rfl)) (gvE hg (by rfl))) (eints_c v3 u p p trivial w ((SrcE.src (by repeat constructor)) w hw) ((SrcE.src (by repeat constructor)) w hw)))) ?_
      refine rg_pure (by rfl) (by rfl) (pu_pickAnd (by rfl) (by rfl)) ?_
      refine rg_pure (by rfl) (by rfl) (pu_moveE (v := .bool _) (by rfl)) ?_
      refine rg_gcall (by rfl) (by rfl) (by rfl) (by rfl) (fun hg => lo_callFP call7 (by rfl) (fun w hw => wakes_c w)) ?_
      refine rg_pure (by rfl) (by rfl) (pu_pickAnd (by rfl) (by rfl)) ?_
      refine rg_pure (by rfl) (by rfl) (pu_assignE (v := .bool _) (by rfl)) ?_
      refine rg_nil ?_
      refine t_ret ?_
      exact Fin.ret (res1 rfl .tmp) (by refine congrArg Value.bool ?_; rw [goodI_eq]; simp)
end Go.Proofs.Ytpoecjeknolnoaa
