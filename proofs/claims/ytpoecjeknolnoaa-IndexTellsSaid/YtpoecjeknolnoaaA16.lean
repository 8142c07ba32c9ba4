/- Walks of functions that the statements of this seat reach: what each one hands back. Conditions: those that each theorem names. -/
import Derived.Test.YtpoecjeknolnoaaA15
import Derived.Test.YtpoecjeknolnoaaH9
import Derived.Test.YtpoecjeknolnoaaProg
import Derived.KernelRfl
namespace Go.Proofs.Ytpoecjeknolnoaa
open Go.RowKit Go.Proofs.HL Go.Proofs.Try
set_option maxRecDepth 10000
set_option linter.unusedSimpArgs false
set_option linter.unusedVariables false
attribute [local irreducible] T RG RA Pu Lo
/-! ### Insert -/
def insL (l : List En) (i : Nat) (e : En) : List En := l.take i ++ e :: l.drop i
theorem putAt_len {cs vs : List Value} {o : Nat} (h : o + vs.length ≤ cs.length) : (putAt cs o vs).length = cs.length := by
  simp [putAt]; omega
theorem putAt_take {cs vs : List Value} {o k : Nat} (h : o ≤ cs.length) (hk : k ≤ o) : (putAt cs o vs).take k = cs.take k := by
  rw [putAt, List.append_assoc, List.take_append_of_le_length (by simp; omega), List.take_take, Nat.min_eq_left hk]
theorem putAt_drop {cs vs : List Value} {o : Nat} (h : o ≤ cs.length) : (putAt cs o vs).drop o = vs ++ cs.drop (o + vs.length) := by
  rw [putAt, List.append_assoc, List.drop_left' (by simp; omega)]
theorem putAt_take' {cs vs : List Value} {o : Nat} (h : o ≤ cs.length) : (putAt cs o vs).take (o + vs.length) = cs.take o ++ vs := by
  rw [putAt, List.take_left' (by simp; omega)]
theorem insL_enc (l : List En) (i : Nat) (e : En) : encEs (insL l i e) = encEs (l.take i) ++ encE e ++ encEs (l.drop i) := by simp [insL, encEs]
theorem insL_len {l : List En} {i : Nat} (h : i ≤ l.length) (e : En) : (insL l i e).length = l.length + 1 := by simp [insL]; omega
/-- Into a new row: the new element, then what stood behind. -/
theorem ins_grow {l : List En} {e : En} {i : Nat} (hk : KeysOk l) (he : (encE e).length = 35) (hi : i ≤ l.length) {cs : List Value} (hc : cs.take (i * 35) = encEs (l.take i)) (hl : (l.length + 1) * 35 ≤ cs.length) :
    (putAt (putAt cs (i * 35) (encE e)) ((i + 1) * 35) (encEs (l.drop i))).take ((l.length + 1) * 35) = encEs (insL l i e) := by
  have hd : (encEs (l.drop i)).length = (l.length - i) * 35 := by
    rw [encEs_len (fun x hx => hk x (List.mem_of_mem_drop hx)), List.length_drop]
  have h1 : (putAt cs (i * 35) (encE e)).length = cs.length := putAt_len (by omega)
  have e1 : (l.length + 1) * 35 = (i + 1) * 35 + (encEs (l.drop i)).length := by rw [hd]; omega
  have e2 : (i + 1) * 35 = i * 35 + (encE e).length := by rw [he]; omega
  rw [e1, putAt_take' (by rw [h1]; omega), e2, putAt_take' (by omega), hc, insL_enc]
/-- In its place: what stands behind goes on by one, then the new element. -/
theorem ins_room {l : List En} {e : En} {i : Nat} (hk : KeysOk l) (he : (encE e).length = 35) (hi : i ≤ l.length) {cs : List Value} (hc : cs.take (l.length * 35) = encEs l) (hl : (l.length + 1) * 35 ≤ cs.length) :
    (putAt (putAt cs ((i + 1) * 35) (encEs (l.drop i))) (i * 35) (encE e)).take ((l.length + 1) * 35) = encEs (insL l i e) := by
  have hd : (encEs (l.drop i)).length = (l.length - i) * 35 := by
    rw [encEs_len (fun x hx => hk x (List.mem_of_mem_drop hx)), List.length_drop]
  have h1 : (putAt cs ((i + 1) * 35) (encEs (l.drop i))).length = cs.length := putAt_len (by rw [hd]; omega)
  have h2 : cs.take (i * 35) = encEs (l.take i) := by rw [← encEs_take i hk, ← hc, List.take_take, Nat.min_eq_left (by omega)]
  rw [putAt, putAt_take (by omega) (by omega), h2, he, show i * 35 + 35 = (i + 1) * 35 by omega, putAt_drop (by omega)]
  have h3 : (encEs (l.take i)).length = i * 35 := by rw [encEs_len (fun x hx => hk x (List.mem_of_mem_take hx)), List.length_take, Nat.min_eq_left hi]
  rw [← List.append_assoc, List.take_left' (by simp [h3, he, hd]; omega), insL_enc]
theorem ins_end (l : List En) (e : En) : encEs l ++ encE e = encEs (insL l l.length e) := by simp [insL, encEs]
theorem find64 (xs : Array Value) (w : World) : (callFunc 64 xs).run prog w = ((Extern.SlicesOverlaps.overlaps #[22, 22] #[4] xs).run prog w).andThen fun v w' => .ok (.value v) w' :=
  run_callFunc_extern func64 rfl rfl rfl rfl xs w
theorem overl {w : World} {bU b la ca lb cb ob : Nat} {xs cs : List Value} (hU : w.heap[bU]? = some (.cells xs.toArray 49 (0, 0))) (hB : w.heap[b]? = some (.cells cs.toArray 49 (0, 0))) (hne : bU ≠ b) (hcs : cs.length ≠ 0) :
    (Extern.SlicesOverlaps.overlaps #[22, 22] #[4] #[.slice (some ⟨bU, 0, none⟩) la ca, .slice (some ⟨b, ob, none⟩) lb cb]).run prog w = .ok (.bool false) w :=
  Go.Lib.run_overlaps_apart w 22 4 49 underlying22 35 sizeOf49 ⟨bU, 0, none⟩ ⟨b, ob, none⟩ la ca lb cb hne 49 49 xs.length cs.length (by simp [World.shape?, hU]) (by simp [World.shape?, hB]) hcs (by simp [World.frozen?, hU]) (by simp [World.frozen?, hU])
theorem insert_c (v : Value) (l : List En) (i : Nat) (e : En) (bU : Nat) (hi : i ≤ l.length) (hn : l.length ≤ 1000000) (hk : KeysOk l) (he : e.1.length = 32) (w : World) (hv : w.ownsRow 0 49 35 v l.length (encEs l)) (hU : w.heap[bU]? = some (.cells (encE e).toArray 49 (0, 0))) (hne : v.ownBlock ≠ some bU) :
    Calls prog 51 [v, .int .i64 (i : Int), .slice (some ⟨bU, 0, none⟩) 1 1].toArray w (Ret v.ownBlock.toList w fun r w' => ∃ r' : Value, True ∧ r = r' ∧ Sat [Ent.row 49 35 r' (l.length + 1) (encEs (insL l i e))] w' ∧ ([Ent.row 49 35 r' (l.length + 1) (encEs (insL l i e))].filterMap Ent.blk).Nodup ∧
      (∀ b ∈ [Ent.row 49 35 r' (l.length + 1) (encEs (insL l i e))].filterMap Ent.blk, w.heap.size ≤ b ∨ b ∈ [Ent.row 49 35 v l.length (encEs l)].filterMap Ent.blk) ∧ ∀ q ∈ [Ent.row 49 35 r' (l.length + 1) (encEs (insL l i e))], ∀ (B : Nat) (M : List Nat), q.far B M) := by
  have he35 := encE_len he
  have hel := encEs_len hk
  have hb := (row_sl hv).len
  have h0 : Holds w v.ownBlock.toList ([.row 49 35 v l.length (encEs l), .fix bU 49 (encE e)] ++ []) w := by
    rw [List.append_nil]
    refine ⟨?_, Kept.refl _ _, ?_, ?_, ?_⟩
    · intro q hq
      simp only [List.mem_cons, List.not_mem_nil, or_false] at hq
      rcases hq with rfl | rfl
      · exact hv
      · exact hU
    · have hfb : List.filterMap Ent.blk [Ent.fix bU 49 (encE e)] = [] := rfl
      cases hx : v.ownBlock <;> simp [Ent.blk, hx, hfb]
    · intro b hb
      right
      cases hx : v.ownBlock with
      | none => simp [Ent.blk, hx] at hb
      | some b' => simp [Ent.blk, hx] at hb ⊢; exact hb
    · intro q hq
      simp only [List.mem_cons, List.not_mem_nil, or_false] at hq
      rcases hq with rfl | rfl
      · trivial
      · refine ⟨(Array.getElem?_eq_some_iff.1 hU).1, fun hm => hne ?_⟩
        cases hx : v.ownBlock with
        | none => rw [hx] at hm; cases hm
        | some b' => rw [hx] at hm; simp at hm; rw [hm]
  refine calls_of_T (PE := fun r es' => ∃ r' : Value, r = r' ∧ Sub es' [Ent.row 49 35 r' (l.length + 1) (encEs (insL l i e))]) func51 rfl 95 rfl (Nat.le_of_ble_eq_true rfl) (by decide) [.row 49 35 v l.length (encEs l), .fix bU 49 (encE e)] h0 ?_ ?_
  rotate_left
  · rintro r es' w' hw' ⟨r', rfl, hsub⟩
    rw [List.append_nil] at hw'
    have h' := hw'.sub hsub
    refine ⟨r, rfl, hw'.kept, r, trivial, rfl, h'.sat, h'.nodup, fun b hb => ?_, fun q hq B M => ?_⟩
    · rcases h'.mine b hb with h | h
      · exact .inl h
      · right
        cases hx : v.ownBlock with
        | none => rw [hx] at h; cases h
        | some b' => rw [hx] at h; simp at h; simp [Ent.blk, hx, h]
    · simp only [List.mem_singleton] at hq
      rw [hq]; trivial
  refine t_seq_region ?_
  refine rg_pure (by rfl) (by rfl) (pu_assign) ?_
  refine rg_nil ?_
  refine t_seq_region ?_
  refine rg_pure (by rfl) (by rfl) (pu_moveE (v := v) (by rfl)) ?_
  refine rg_pure (by rfl) (by rfl) (pu_moveE (v := .int .i64 _) (by rfl)) ?_
  refine rg_pure (by rfl) (by rfl) (pu_slice (l := i) (h := l.length) (by rfl) (SrcE.src (by repeat constructor)) underlying22 sizeOf49 (bv_some (by rfl)) bv_none (by omega) (by omega)) ?_
  refine rg_nil ?_
  refine t_seq_region ?_
  refine rg_pure (by rfl) (by rfl) (pu_moveE (v := .slice (some ⟨bU, 0, none⟩) 1 1) (by rfl)) ?_
  refine rg_pure (by rfl) (by rfl) (pu_len_lit (A := some ⟨bU, 0, none⟩) (n := 1) (c := 1) (by rfl) (by rfl) underlying22) ?_
  refine rg_pure (by rfl) (by rfl) (pu_assignE (v := .int .i64 _) (by rfl)) ?_
  refine rg_nil ?_
  refine t_seq ?_
  refine t_seq_region ?_
  refine rg_pure (by rfl) (by rfl) (pu_moveE (v := .int .i64 _) (by rfl)) ?_
  refine rg_pure (by rfl) (by rfl) (pu_eql (by rfl) (by rfl)) ?_
  refine rg_nil ?_
  refine t_cond (by rfl) (fun hc0 => ?_) (fun hc0 => ?_)
  ·
    cases hc0
  ·
    refine t_skip ?_
    refine t_seq_region ?_
    refine rg_pure (by rfl) (by rfl) (pu_moveE (v := v) (by rfl)) ?_
    refine rg_pure (by rfl) (by rfl) (pu_len (by rfl) (SrcE.src (by repeat constructor)) (by rfl) underlying22) ?_
    refine rg_pure (by rfl) (by rfl) (pu_assignE (v := .int .i64 _) (by rfl)) ?_
    refine rg_nil ?_
    refine t_seq ?_
    refine t_seq_region ?_
    refine rg_pure (by rfl) (by rfl) (pu_moveE (v := .int .i64 _) (by rfl)) ?_
    refine rg_pure (by rfl) (by rfl) (pu_moveE (v := .int .i64 _) (by rfl)) ?_
    refine rg_pure (by rfl) (by rfl) (pu_eql (by rfl) (by rfl)) ?_
    refine rg_nil ?_
    refine t_cond (by rfl) (fun hc1 => ?_) (fun hc1 => ?_)
    ·
      have hin : i = l.length := by simp at hc1; omega
      subst hin
      refine t_seq_region ?_
      refine rg_pure (by rfl) (by rfl) (pu_moveE (v := v) (by rfl)) ?_
      refine rg_pure (by rfl) (by rfl) (pu_moveE (v := .slice (some ⟨bU, 0, none⟩) 1 1) (by rfl)) ?_
      refine rg_loud (by rfl) (lo_appendE (xs' := encEs (insL l l.length e)) (k' := l.length + 1) elemOk22 (by rfl) (by rfl) (by rfl) (by repeat constructor) (src_all (sz := 35) (m := 1) (HasE.has (by repeat constructor)) (by rw [he35]) (by decide)) (one_encE _) (by omega) (by rfl) (ins_end l e) (fun v0 => ?_))
      refine rg_pure (by rfl) (by rfl) (pu_assign) ?_
      refine rg_nil ?_
      refine t_ret ?_
      exact Fin.ret (res1 rfl .tmp) ⟨_, rfl, by repeat constructor⟩
    ·
      have hin : i < l.length := by simp at hc1; omega
      refine t_row_own (v := v) (by repeat constructor) (by omega) ?_
      rintro b cap cs rfl hcap hcapm hcl hct
      have hbne : b ≠ bU := fun h => hne (by rw [h]; rfl)
      refine t_skip ?_
      refine t_seq ?_
      refine t_seq_region ?_
      refine rg_pure (by rfl) (by rfl) (pu_moveE (v := .int .i64 _) (by rfl)) ?_
      refine rg_pure (by rfl) (by rfl) (pu_moveE (v := .int .i64 _) (by rfl)) ?_
      refine rg_pure (by rfl) (by rfl) (pu_add64 (by rfl) (by rfl) (by omega)) ?_
      refine rg_pure (by rfl) (by rfl) (pu_moveE (v := .slice (some ⟨b, 0, none⟩) l.length cap) (by rfl)) ?_
      refine rg_pure (by rfl) (by rfl) (pu_cap (by rfl) (by rfl) underlying22) ?_
      refine rg_pure (by rfl) (by rfl) (pu_gtr (by rfl) (by rfl)) ?_
      refine rg_nil ?_
      refine t_cond (by rfl) (fun hc2 => ?_) (fun hc2 => ?_)
      ·
        have hroom : cap < l.length + 1 := by simp at hc2; omega
        refine t_seq_region ?_
        refine rg_pure (by rfl) (by rfl) (pu_moveE (v := .slice (some ⟨b, 0, none⟩) l.length cap) (by rfl)) ?_
        refine rg_pure (by rfl) (by rfl) (pu_moveE (v := .int .i64 _) (by rfl)) ?_
        refine rg_pure (by rfl) (by rfl) (pu_sliceOwn (l := 0) (h := i) (by rfl) underlying22 sizeOf49 bv_none (bv_some (by rfl)) (by omega) (by omega) (by omega)) ?_
        refine rg_pure (by rfl) (by rfl) (pu_moveE (v := .int .i64 _) (by rfl)) ?_
        refine rg_pure (by rfl) (by rfl) (pu_moveE (v := .int .i64 _) (by rfl)) ?_
        refine rg_pure (by rfl) (by rfl) (pu_add64 (by rfl) (by rfl) (by omega)) ?_
        refine rg_pure (by rfl) (by rfl) (pu_moveE (v := .int .i64 _) (by rfl)) ?_
        refine rg_pure (by rfl) (by rfl) (pu_sub64 (by rfl) (by rfl) (by omega)) ?_
        refine rg_loud (by rfl) (lo_appendZE (m := i) (c := cap) (k := l.length + 1 - i) (xs := encEs (l.take i)) elemOk22 underlying3 (by rfl) (by rfl) (by show Value.int .i64 ((l.length : Int) + 1 - (i : Int)) = _; congr 1; omega) ((src_has (off := 0) (m := i) (c := cap) (sz := 35) (HasE.has (by repeat constructor)) (by rw [hcl]; omega) (by omega) hcapm).to rfl (by rw [List.drop_zero, ← encEs_take i hk, ← hct, List.take_take, Nat.min_eq_left (by omega)])) (by omega) (by omega) (by omega) (by decide) (fun b1 cap1 rest hc1 hcm1 hl1 => ?_))
        refine rg_pure (by rfl) (by rfl) (pu_assign) ?_
        refine rg_nil ?_
        have hti : (encEs (l.take i)).length = i * 35 := by rw [encEs_len (fun x hx => hk x (List.mem_of_mem_take hx)), List.length_take, Nat.min_eq_left (by omega)]
        have hm1 : i + (l.length + 1 - i) = l.length + 1 := by omega
        rw [hm1] at hc1 ⊢
        refine t_seq_region ?_
        refine rg_pure (by rfl) (by rfl) (pu_moveE (v := .slice (some ⟨b1, 0, none⟩) (l.length + 1) cap1) (by rfl)) ?_
        refine rg_pure (by rfl) (by rfl) (pu_moveE (v := .int .i64 _) (by rfl)) ?_
        refine rg_pure (by rfl) (by rfl) (pu_sliceOwn (l := i) (h := l.length + 1) (by rfl) underlying22 sizeOf49 (bv_some (by rfl)) bv_none (by omega) (by omega) (by omega)) ?_
        refine rg_pure (by rfl) (by rfl) (pu_moveE (v := .slice (some ⟨bU, 0, none⟩) 1 1) (by rfl)) ?_
        refine rg_loud (by rfl) (lo_copyOwn (kk := 1) (cs' := putAt (encEs (l.take i) ++ rest) (i * 35) (encE e)) (by rfl) (by rfl) (by rfl) underlying22 sizeOf49 (by repeat constructor) (src_all (sz := 35) (m := 1) (HasE.has (by repeat constructor)) (by rw [he35]) (by decide)) (one_encE _) (by omega) (by rw [hl1]; omega) (by rw [Nat.zero_add, List.take_of_length_le (l := encE e) (by rw [he35]; decide)]) ?_)
        refine rg_nil ?_
        have hdrop : (cs.drop (i * 35)).take ((l.length - i) * 35) = encEs (l.drop i) := by rw [← encEs_drop i hk, ← hct, List.drop_take, show l.length * 35 - i * 35 = (l.length - i) * 35 by omega]
        have hgl : (putAt (encEs (l.take i) ++ rest) (i * 35) (encE e)).length = cap1 * 35 := by rw [putAt_len (by rw [he35, hl1]; omega), hl1]
        refine t_seq_draw 8 9 _ mixed (Sub.refl _) (by rfl) (by decide +kernel) ?_
        refine ra_pure0 0 1 rfl (by rfl) (by decide +kernel) (by rfl) (pu_moveE (v := .slice (some ⟨b1, 0, none⟩) (l.length + 1) cap1) (by rfl)) ?_
        refine ra_pure0 1 3 rfl (by rfl) (by decide +kernel) (by rfl) (pu_moveE (v := .int .i64 _) (by rfl)) ?_
        refine ra_pure0 2 7 rfl (by rfl) (by decide +kernel) (by rfl) (pu_moveE (v := .int .i64 _) (by rfl)) ?_
        refine ra_pure0 3 15 rfl (by rfl) (by decide +kernel) (by rfl) (pu_add64 (by rfl) (by rfl) (by omega)) ?_
        refine ra_pure 4 31 rfl (by rfl) (by decide +kernel) (by rfl) (pu_sliceOwn (l := i + 1) (h := l.length + 1) (by rfl) underlying22 sizeOf49 (bv_some (by omega)) bv_none (by omega) (by omega) (by omega)) ?_
        refine ra_pure0 5 63 rfl (by rfl) (by decide +kernel) (by rfl) (pu_moveE (v := .slice (some ⟨b, 0, none⟩) l.length cap) (by rfl)) ?_
        refine ra_pure0 6 127 rfl (by rfl) (by decide +kernel) (by rfl) (pu_moveE (v := .int .i64 _) (by rfl)) ?_
        refine ra_pure 7 255 rfl (by rfl) (by decide +kernel) (by rfl) (pu_sliceOwn (l := i) (h := l.length) (by rfl) underlying22 sizeOf49 (bv_some (by rfl)) bv_none (by omega) (by omega) (by omega)) ?_
        refine ra_next 8 511 (by decide +kernel) ?_
        refine next_loud rfl (by rfl) (lo_copyOwn (kk := l.length - i) (cs' := putAt (putAt (encEs (l.take i) ++ rest) (i * 35) (encE e)) ((i + 1) * 35) (encEs (l.drop i))) (by rfl) (by rfl) (by rfl) underlying22 sizeOf49 (by repeat constructor) ((src_has (off := 0 + i * 35) (m := l.length - i) (c := cap - i) (sz := 35) (b := b) (cs := cs) (has_own (List.Mem.tail _ (List.Mem.head _))) (by rw [hcl]; omega) (by omega) (by simp only [maxLen] at *; omega)).to rfl (by rw [Nat.zero_add]; exact hdrop)) (one_encEs _) (by omega) (by rw [hgl]; omega) (by rw [Nat.zero_add, List.take_of_length_le (l := encEs (l.drop i)) (by rw [encEs_len (fun x hx => hk x (List.mem_of_mem_drop hx)), List.length_drop]; omega)]) ⟨(fun hlt => absurd hlt (by decide +kernel)), ?_⟩)
        refine ra_end (by decide +kernel) ?_
        refine t_seq_region ?_
        refine rg_pure (by rfl) (by rfl) (pu_moveE (v := .slice (some ⟨b1, 0, none⟩) (l.length + 1) cap1) (by rfl)) ?_
        refine rg_pure (by rfl) (by rfl) (pu_assign) ?_
        refine rg_nil ?_
        refine t_own_rowC (m := l.length + 1) (cap := cap1) (sz := 35) (xs := encEs (insL l i e)) .here (by rw [putAt_len (by rw [hgl, encEs_len (fun x hx => hk x (List.mem_of_mem_drop hx)), List.length_drop]; omega), hgl]) hc1 hcm1 (ins_grow hk he35 hi (by rw [List.take_left' hti]) (by rw [hl1]; omega)) ?_
        refine t_ret ?_
        exact Fin.ret (res1 rfl .tmp) ⟨_, rfl, by repeat constructor⟩
      ·
        have hroom : l.length + 1 ≤ cap := by simp at hc2; omega
        refine t_skip ?_
        refine t_seq_region ?_
        refine rg_pure (by rfl) (by rfl) (pu_moveE (v := .slice (some ⟨b, 0, none⟩) l.length cap) (by rfl)) ?_
        refine rg_pure (by rfl) (by rfl) (pu_moveE (v := .int .i64 _) (by rfl)) ?_
        refine rg_pure (by rfl) (by rfl) (pu_moveE (v := .int .i64 _) (by rfl)) ?_
        refine rg_pure (by rfl) (by rfl) (pu_add64 (by rfl) (by rfl) (by omega)) ?_
        refine rg_pure (by rfl) (by rfl) (pu_sliceOwn (l := 0) (h := l.length + 1) (by rfl) underlying22 sizeOf49 bv_none (bv_some (by omega)) (by omega) (by omega) (by omega)) ?_
        refine rg_pure (by rfl) (by rfl) (pu_assignE (v := .slice (some ⟨b, 0 + 0 * 35, none⟩) (l.length + 1 - 0) (cap - 0)) (by rfl)) ?_
        refine rg_nil ?_
        refine t_seq ?_
        refine t_seq_region ?_
        refine rg_pure (by rfl) (by rfl) (pu_moveE (v := .slice (some ⟨bU, 0, none⟩) 1 1) (by rfl)) ?_
        refine rg_pure (by rfl) (by rfl) (pu_moveE (v := .slice (some ⟨b, 0 + 0 * 35, none⟩) (l.length + 1 - 0) (cap - 0)) (by rfl)) ?_
        refine rg_pure (by rfl) (by rfl) (pu_moveE (v := .int .i64 _) (by rfl)) ?_
        refine rg_pure (by rfl) (by rfl) (pu_moveE (v := .int .i64 _) (by rfl)) ?_
        refine rg_pure (by rfl) (by rfl) (pu_add64 (by rfl) (by rfl) (by omega)) ?_
        refine rg_pure (by rfl) (by rfl) (pu_sliceOwn (l := i + 1) (h := l.length + 1) (by rfl) underlying22 sizeOf49 (bv_some (by omega)) bv_none (by omega) (by omega) (by omega)) ?_
        refine rg_pure (by rfl) (by rfl) (pu_ext find64 (fun w hw => overl (xs := encE e) (cs := cs) (hw (.fix bU 49 (encE e)) (by simp)) (hw (.own b 49 cs) (by simp)) (Ne.symm hbne) (by rw [hcl]; omega))) ?_
        refine rg_pure (by rfl) (by rfl) (pu_not (by rfl)) ?_
        refine rg_nil ?_
        refine t_cond (by rfl) (fun hc3 => ?_) (fun hc3 => ?_)
        ·
          have hdl : (encEs (l.drop i)).length = (l.length - i) * 35 := by rw [encEs_len (fun x hx => hk x (List.mem_of_mem_drop hx)), List.length_drop]
          have hdrop : ((cs.drop (i * 35)).take ((l.length + 1 - i) * 35)).take ((l.length - i) * 35) = encEs (l.drop i) := by rw [List.take_take, Nat.min_eq_left (by omega), ← encEs_drop i hk, ← hct, List.drop_take, show l.length * 35 - i * 35 = (l.length - i) * 35 by omega]
          have hgl : (putAt cs ((i + 1) * 35) (encEs (l.drop i))).length = cap * 35 := by rw [putAt_len (by rw [hdl, hcl]; omega), hcl]
          refine t_seq_draw 8 9 _ mixed (Sub.refl _) (by rfl) (by decide +kernel) ?_
          refine ra_pure0 0 1 rfl (by rfl) (by decide +kernel) (by rfl) (pu_moveE (v := .slice (some ⟨b, 0 + 0 * 35, none⟩) (l.length + 1 - 0) (cap - 0)) (by rfl)) ?_
          refine ra_pure0 1 3 rfl (by rfl) (by decide +kernel) (by rfl) (pu_moveE (v := .int .i64 _) (by rfl)) ?_
          refine ra_pure0 2 7 rfl (by rfl) (by decide +kernel) (by rfl) (pu_moveE (v := .int .i64 _) (by rfl)) ?_
          refine ra_pure0 3 15 rfl (by rfl) (by decide +kernel) (by rfl) (pu_add64 (by rfl) (by rfl) (by omega)) ?_
          refine ra_pure 4 31 rfl (by rfl) (by decide +kernel) (by rfl) (pu_sliceOwn (l := i + 1) (h := l.length + 1) (by rfl) underlying22 sizeOf49 (bv_some (by omega)) bv_none (by omega) (by omega) (by omega)) ?_
          refine ra_pure0 5 63 rfl (by rfl) (by decide +kernel) (by rfl) (pu_moveE (v := .slice (some ⟨b, 0 + 0 * 35, none⟩) (l.length + 1 - 0) (cap - 0)) (by rfl)) ?_
          refine ra_pure0 6 127 rfl (by rfl) (by decide +kernel) (by rfl) (pu_moveE (v := .int .i64 _) (by rfl)) ?_
          refine ra_pure 7 255 rfl (by rfl) (by decide +kernel) (by rfl) (pu_sliceOwn (l := i) (h := l.length + 1) (by rfl) underlying22 sizeOf49 (bv_some (by rfl)) bv_none (by omega) (by omega) (by omega)) ?_
          refine ra_next 8 511 (by decide +kernel) ?_
          refine next_loud rfl (by rfl) (lo_copyOwnT (kk := l.length - i) (cs' := putAt cs ((i + 1) * 35) (encEs (l.drop i))) (by rfl) (by rfl) (by rfl) underlying22 sizeOf49 (by repeat constructor) (src_has (off := 0 + 0 * 35 + i * 35) (m := l.length + 1 - i) (c := cap - 0 - i) (sz := 35) (b := b) (cs := cs) (HasE.has (by repeat constructor)) (by rw [hcl]; omega) (by omega) (by simp only [maxLen] at *; omega)) (by rw [show 0 + 0 * 35 + i * 35 = i * 35 by omega, hdrop]; exact one_encEs _) (by omega) (by rw [hcl]; omega) (by rw [show 0 + 0 * 35 + i * 35 = i * 35 by omega, hdrop, show 0 + 0 * 35 + (i + 1) * 35 = (i + 1) * 35 by omega]) ⟨(fun hlt => absurd hlt (by decide +kernel)), ?_⟩)
          refine ra_end (by decide +kernel) ?_
          refine t_seq_region ?_
          refine rg_pure (by rfl) (by rfl) (pu_moveE (v := .slice (some ⟨b, 0 + 0 * 35, none⟩) (l.length + 1 - 0) (cap - 0)) (by rfl)) ?_
          refine rg_pure (by rfl) (by rfl) (pu_moveE (v := .int .i64 _) (by rfl)) ?_
          refine rg_pure (by rfl) (by rfl) (pu_sliceOwn (l := i) (h := l.length + 1) (by rfl) underlying22 sizeOf49 (bv_some (by rfl)) bv_none (by omega) (by omega) (by omega)) ?_
          refine rg_pure (by rfl) (by rfl) (pu_moveE (v := .slice (some ⟨bU, 0, none⟩) 1 1) (by rfl)) ?_
          refine rg_loud (by rfl) (lo_copyOwn (kk := 1) (cs' := putAt (putAt cs ((i + 1) * 35) (encEs (l.drop i))) (i * 35) (encE e)) (by rfl) (by rfl) (by rfl) underlying22 sizeOf49 (by repeat constructor) (src_all (sz := 35) (m := 1) (HasE.has (by repeat constructor)) (by rw [he35]) (by decide)) (one_encE _) (by omega) (by rw [hgl]; omega) (by rw [show 0 + 0 * 35 + i * 35 = i * 35 by omega, List.take_of_length_le (l := encE e) (by rw [he35]; decide)]) ?_)
          refine rg_nil ?_
          refine t_seq_region ?_
          refine rg_pure (by rfl) (by rfl) (pu_moveE (v := .slice (some ⟨b, 0, none⟩) (l.length + 1) cap) (by rfl)) ?_
          refine rg_pure (by rfl) (by rfl) (pu_assign) ?_
          refine rg_nil ?_
          refine t_own_rowC (m := l.length + 1) (cap := cap) (sz := 35) (xs := encEs (insL l i e)) .here (by rw [putAt_len (by rw [hgl, he35]; omega), hgl]) hroom hcapm (ins_room hk he35 hi hct (by rw [hcl]; omega)) ?_
          refine t_ret ?_
          exact Fin.ret (res1 rfl .tmp) ⟨_, rfl, by repeat constructor⟩
        ·
          cases hc3
end Go.Proofs.Ytpoecjeknolnoaa
