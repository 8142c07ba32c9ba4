/- Walks of functions that the statements of this seat reach: what each one hands back. Conditions: those that each theorem names. -/
import Derived.Test.YtpoecjeknolnoaaA18
import Derived.Test.YtpoecjeknolnoaaProg
import Derived.KernelRfl
namespace Go.Proofs.Ytpoecjeknolnoaa
open Go.RowKit Go.Proofs.HL Go.Proofs.Try
set_option maxRecDepth 10000
set_option linter.unusedSimpArgs false
set_option linter.unusedVariables false
attribute [local irreducible] T RG RA Pu Lo
/-! ### Remove -/
def delL (l : List En) (i : Nat) : List En := l.take i ++ l.drop (i + 1)
theorem delL_len {l : List En} {i : Nat} (h : i < l.length) : (delL l i).length = l.length - 1 := by simp [delL]; omega
theorem delL_enc (l : List En) (i : Nat) : encEs (delL l i) = encEs (l.take i) ++ encEs (l.drop (i + 1)) := by simp [delL, encEs]
theorem del_put {l : List En} {i : Nat} (hk : KeysOk l) (hi : i < l.length) {cs zs : List Value} (hc : cs.take (l.length * 35) = encEs l) (hl : l.length * 35 ≤ cs.length) :
    (putAt (putAt cs (i * 35) (encEs (l.drop (i + 1)))) ((l.length - 1) * 35) zs).take ((l.length - 1) * 35) = encEs (delL l i) := by
  have hd : (encEs (l.drop (i + 1))).length = (l.length - (i + 1)) * 35 := by
    rw [encEs_len (fun x hx => hk x (List.mem_of_mem_drop hx)), List.length_drop]
  have h1 : (putAt cs (i * 35) (encEs (l.drop (i + 1)))).length = cs.length := putAt_len (by rw [hd]; omega)
  have h2 : cs.take (i * 35) = encEs (l.take i) := by rw [← encEs_take i hk, ← hc, List.take_take, Nat.min_eq_left (by omega)]
  rw [putAt_take (by rw [h1]; omega) (Nat.le_refl _)]
  have e1 : (l.length - 1) * 35 = i * 35 + (encEs (l.drop (i + 1))).length := by rw [hd]; omega
  rw [e1, putAt_take' (by omega), h2, delL_enc]
theorem delete_c (v : Value) (l : List En) (i : Nat) (hi : i < l.length) (hn : l.length ≤ 1000000) (hk : KeysOk l) (w : World) (hv : w.ownsRow 0 49 35 v l.length (encEs l)) :
    Calls prog 55 [v, .int .i64 (i : Int), .int .i64 ((i : Int) + 1)].toArray w (Ret v.ownBlock.toList w fun r w' => ∃ r' : Value, True ∧ r = r' ∧ Sat [Ent.row 49 35 r' (l.length - 1) (encEs (delL l i))] w' ∧ ([Ent.row 49 35 r' (l.length - 1) (encEs (delL l i))].filterMap Ent.blk).Nodup ∧
      (∀ b ∈ [Ent.row 49 35 r' (l.length - 1) (encEs (delL l i))].filterMap Ent.blk, w.heap.size ≤ b ∨ b ∈ [Ent.row 49 35 v l.length (encEs l)].filterMap Ent.blk) ∧ ∀ q ∈ [Ent.row 49 35 r' (l.length - 1) (encEs (delL l i))], ∀ (B : Nat) (M : List Nat), q.far B M) := by
  have hel := encEs_len hk
  have hb := (row_sl hv).len
  have h0 : Holds w v.ownBlock.toList ([.row 49 35 v l.length (encEs l)] ++ []) w := by
    rw [List.append_nil]
    refine ⟨?_, Kept.refl _ _, ?_, ?_, ?_⟩
    · intro q hq
      simp only [List.mem_singleton] at hq
      rw [hq]; exact hv
    · cases hx : v.ownBlock <;> simp [Ent.blk, hx]
    · intro b hb
      right
      cases hx : v.ownBlock with
      | none => simp [Ent.blk, hx] at hb
      | some b' => simp [Ent.blk, hx] at hb ⊢; exact hb
    · intro q hq
      simp only [List.mem_singleton] at hq
      rw [hq]; trivial
  refine calls_of_T (PE := fun r es' => ∃ r' : Value, r = r' ∧ Sub es' [Ent.row 49 35 r' (l.length - 1) (encEs (delL l i))]) func55 rfl 33 rfl (Nat.le_of_ble_eq_true rfl) (by decide) [.row 49 35 v l.length (encEs l)] h0 ?_ ?_
  rotate_left
  · rintro r es' w' hw' ⟨r', rfl, hsub⟩
    rw [List.append_nil] at hw'
    have h' := hw'.sub hsub
    refine ⟨r, rfl, hw'.kept, r, trivial, rfl, h'.sat, h'.nodup, fun b hb => ?_, fun q hq B M => ?_⟩
    · rcases h'.mine b hb with h | h
      · exact .inl h
      · right
        cases hx : v.ownBlock with
        | none => rw [hx] at h; cases h
        | some b' => rw [hx] at h; simp at h; simp [Ent.blk, hx, h]
    · simp only [List.mem_singleton] at hq
      rw [hq]; trivial
  refine t_seq_region ?_
  refine rg_pure (by rfl) (by rfl) (pu_assign) ?_
  refine rg_nil ?_
  refine t_seq_region ?_
  refine rg_pure (by rfl) (by rfl) (pu_moveE (v := v) (by rfl)) ?_
  refine rg_pure (by rfl) (by rfl) (pu_moveE (v := .int .i64 _) (by rfl)) ?_
  refine rg_pure (by rfl) (by rfl) (pu_moveE (v := .int .i64 _) (by rfl)) ?_
  refine rg_pure (by rfl) (by rfl) (pu_moveE (v := v) (by rfl)) ?_
  refine rg_pure (by rfl) (by rfl) (pu_len (by rfl) (SrcE.src (by repeat constructor)) (by rfl) underlying22) ?_
  refine rg_pure (by rfl) (by rfl) (pu_slice3 (l := i) (h := i + 1) (m := l.length) (by rfl) (SrcE.src (by repeat constructor)) underlying22 sizeOf49 (bv_some (by rfl)) (bv_some (by omega)) (bv_some (by rfl)) (by omega) (by omega) (by omega)) ?_
  refine rg_nil ?_
  refine t_seq ?_
  refine t_seq_region ?_
  refine rg_pure (by rfl) (by rfl) (pu_moveE (v := .int .i64 _) (by rfl)) ?_
  refine rg_pure (by rfl) (by rfl) (pu_moveE (v := .int .i64 _) (by rfl)) ?_
  refine rg_pure (by rfl) (by rfl) (pu_eql (by rfl) (by rfl)) ?_
  refine rg_nil ?_
  refine t_cond (by rfl) (fun hc0 => ?_) (fun hc0 => ?_)
  ·
    exfalso; simp at hc0; omega
  ·
    refine t_skip ?_
    refine t_seq_region ?_
    refine rg_pure (by rfl) (by rfl) (pu_moveE (v := v) (by rfl)) ?_
    refine rg_pure (by rfl) (by rfl) (pu_len (by rfl) (SrcE.src (by repeat constructor)) (by rfl) underlying22) ?_
    refine rg_pure (by rfl) (by rfl) (pu_assignE (v := .int .i64 _) (by rfl)) ?_
    refine rg_nil ?_
    refine t_row_own (v := v) (by repeat constructor) (by omega) ?_
    rintro b cap cs rfl hcap hcapm hcl hct
    have hdl : (encEs (l.drop (i + 1))).length = (l.length - (i + 1)) * 35 := by rw [encEs_len (fun x hx => hk x (List.mem_of_mem_drop hx)), List.length_drop]
    have hgl : (putAt cs (i * 35) (encEs (l.drop (i + 1)))).length = cap * 35 := by rw [putAt_len (by rw [hdl, hcl]; omega), hcl]
    refine t_seq_draw 6 8 _ mixed (Sub.refl _) (by rfl) (by decide +kernel) ?_
    refine ra_pure0 0 1 rfl (by rfl) (by decide +kernel) (by rfl) (pu_moveE (v := .slice (some ⟨b, 0, none⟩) l.length cap) (by rfl)) ?_
    refine ra_pure0 1 3 rfl (by rfl) (by decide +kernel) (by rfl) (pu_moveE (v := .int .i64 _) (by rfl)) ?_
    refine ra_pure 2 7 rfl (by rfl) (by decide +kernel) (by rfl) (pu_sliceOwn (l := 0) (h := i) (by rfl) underlying22 sizeOf49 bv_none (bv_some (by rfl)) (by omega) (by omega) (by omega)) ?_
    refine ra_pure0 3 15 rfl (by rfl) (by decide +kernel) (by rfl) (pu_moveE (v := .slice (some ⟨b, 0, none⟩) l.length cap) (by rfl)) ?_
    refine ra_pure0 4 31 rfl (by rfl) (by decide +kernel) (by rfl) (pu_moveE (v := .int .i64 _) (by rfl)) ?_
    refine ra_pure 5 63 rfl (by rfl) (by decide +kernel) (by rfl) (pu_slice (l := i + 1) (h := l.length) (sz := 35) (by rfl) (src_has (off := 0) (m := l.length) (c := cap) (sz := 35) (has_own (.head _)) (by rw [hcl]; omega) hcap hcapm) underlying22 sizeOf49 (bv_some (by omega)) bv_none (by omega) (by omega)) ?_
    refine ra_next 6 127 (by decide +kernel) ?_
    refine next_loud rfl (by rfl) (lo_appendOwn (m := i) (c := cap) (k := l.length - (i + 1)) (cs' := putAt cs (i * 35) (encEs (l.drop (i + 1)))) elemOk22 (by rfl) (by rfl) (by rfl) (by repeat constructor) ((src_cut (src_has (off := 0) (m := l.length) (c := cap) (sz := 35) (has_own (.head _)) (by rw [hcl]; omega) hcap hcapm) (l := i + 1) (h := l.length) (by omega) (Nat.le_refl _)).to rfl (by rw [List.drop_zero, hct, encEs_drop _ hk, List.take_of_length_le (by rw [encEs_len (fun x hx => hk x (List.mem_of_mem_drop hx)), List.length_drop]; omega)])) (one_encEs _) (by omega) (by rw [hcl]; omega) (by rfl) ⟨(fun hlt => absurd hlt (by decide +kernel)), ?_⟩)
    refine ra_pure0 7 255 rfl (by rfl) (by decide +kernel) (by rfl) (pu_assignE (v := .slice (some ⟨b, 0, none⟩) (i + (l.length - (i + 1))) cap) (by rfl)) ?_
    refine ra_end (by decide +kernel) ?_
    refine t_seq_region ?_
    refine rg_pure (by rfl) (by rfl) (pu_moveE (v := .slice (some ⟨b, 0, none⟩) (i + (l.length - (i + 1))) cap) (by rfl)) ?_
    refine rg_pure (by rfl) (by rfl) (pu_moveE (v := .slice (some ⟨b, 0, none⟩) (i + (l.length - (i + 1))) cap) (by rfl)) ?_
    refine rg_pure (by rfl) (by rfl) (pu_len_lit (by rfl) (by rfl) underlying22) ?_
    refine rg_pure (by rfl) (by rfl) (pu_moveE (v := .int .i64 _) (by rfl)) ?_
    refine rg_pure (by rfl) (by rfl) (pu_sliceOwn (l := l.length - 1) (h := l.length) (by rfl) underlying22 sizeOf49 (bv_some (by omega)) (bv_some (by rfl)) (by omega) (by omega) (by omega)) ?_
    refine rg_loud (by rfl) (lo_clearOwn (m := l.length - (l.length - 1)) (zs := encE d0) (cs' := putAt (putAt cs (i * 35) (encEs (l.drop (i + 1)))) ((l.length - 1) * 35) (encE d0)) (by rfl) (by rfl) underlying22 zeroValue49 (by rw [show l.length - (l.length - 1) = 1 by omega]; kernel_rfl) (by omega) (by repeat constructor) (one_encE _) (by rw [hgl, encE_len (e := d0) rfl]; omega) (by rw [Nat.zero_add]) ?_)
    refine rg_nil ?_
    refine t_seq_region ?_
    refine rg_pure (by rfl) (by rfl) (pu_moveE (v := .slice (some ⟨b, 0, none⟩) (i + (l.length - (i + 1))) cap) (by rfl)) ?_
    refine rg_pure (by rfl) (by rfl) (pu_assign) ?_
    refine rg_nil ?_
    rw [show i + (l.length - (i + 1)) = l.length - 1 by omega]
    refine t_own_rowC (m := l.length - 1) (cap := cap) (sz := 35) (xs := encEs (delL l i)) .here (by rw [putAt_len (by rw [hgl, encE_len (e := d0) rfl]; omega), hgl]) (by omega) hcapm (del_put hk hi hct (by rw [hcl]; omega)) ?_
    refine t_ret ?_
    exact Fin.ret (res1 rfl .tmp) ⟨_, rfl, by repeat constructor⟩
end Go.Proofs.Ytpoecjeknolnoaa
