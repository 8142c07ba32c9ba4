/- Walks of functions that the statements of this seat reach: what each one hands back. Conditions: those that each theorem names. -/
import Derived.Test.YtpoecjeknolnoaaA13
import Derived.Test.YtpoecjeknolnoaaProg
import Derived.KernelRfl
namespace Go.Proofs.Ytpoecjeknolnoaa
open Go.RowKit Go.Proofs.HL Go.Proofs.Try
set_option maxRecDepth 10000
set_option linter.unusedSimpArgs false
set_option linter.unusedVariables false
attribute [local irreducible] T RG RA Pu Lo
theorem elemOk24 : ElemOk prog 24 43 128 128 := ⟨rfl, ⟨_, _, rfl, rfl, rfl, rfl, rfl⟩, by decide⟩
def part3 (l : List En) (x : Nat) : List En := (l.drop (3 * x)).take 3
def blkS (l : List En) (x : Nat) : List Int := (encS (part3 l x)).1
theorem part3_ok {l : List En} (h : KeysOk l) (x : Nat) : KeysOk (part3 l x) := fun e he => h e (List.mem_of_mem_drop (List.mem_of_mem_take he))
theorem part3_len (l : List En) (x : Nat) : (part3 l x).length = min (3 * x + 3) l.length - 3 * x := by simp [part3]; omega
theorem part3_get {l : List En} {x i : Nat} (h : i < (part3 l x).length) : (part3 l x).getD i d0 = l.getD (3 * x + i) d0 := by
  have hl := part3_len l x
  simp only [part3, List.getD_eq_getElem?_getD, List.getElem?_take, List.getElem?_drop]
  rw [if_pos (by omega)]
theorem part3_src {es : List Ent} {v : Value} {l : List En} {x : Nat} (hk : KeysOk l) (h : Src es v 35 l.length (encEs l)) (hx : 3 * x < l.length) : Src es (slV3 35 v (3 * x) (min (3 * x + 3) l.length) (min (3 * x + 3) l.length)) 35 (part3 l x).length (encEs (part3 l x)) := by
  have := src_cut3 h (l := 3 * x) (h := min (3 * x + 3) l.length) (m := min (3 * x + 3) l.length) (by omega) (Nat.le_refl _) (by omega)
  refine this.to (part3_len l x).symm ?_
  rw [encEs_drop _ hk, encEs_take _ (fun e he => hk e (List.mem_of_mem_drop he)), ← part3_len]
  congr 1
  rw [part3, List.take_eq_take_iff, List.length_take, List.length_drop]
  omega
/-- What is said of an entry alone. -/
theorem leafGood_one {e : En} (h : leafGood [e] = true) : badE [e] 0 = false := by
  rw [leafGood] at h
  simp only [Bool.and_eq_true, List.all_eq_true] at h
  have := h.2 0 (by simp)
  simpa using this
theorem goodB_all : ∀ {l : List En} {m : List Int}, goodB l m = true → ∀ e ∈ l, leafGood [e] = true
  | [], _, _, e, he => nomatch he
  | x :: l, m, h, e, he => by
    rw [goodB] at h
    split at h
    · cases h
    · rename_i hc
      rcases List.mem_cons.1 he with rfl | he
      · cases hx : leafGood [e] with
        | true => rfl
        | false => rw [hx] at hc; simp at hc
      · exact goodB_all h e he
theorem badE_split (l : List En) (i : Nat) : badE l i = (riseBad l i || badE [l.getD i d0] 0) := by
  simp only [badE, riseBad, List.getD_cons_zero, Bool.or_assoc]
  simp
theorem part3_good {l : List En} (h : goodI l = true) {x : Nat} (hx : 3 * x < l.length) : leafGood (part3 l x) = true := by
  rw [goodI, Bool.and_eq_true] at h
  have hl := part3_len l x
  rw [leafGood, Bool.and_eq_true]
  refine ⟨by rw [Bool.not_eq_true', Bool.or_eq_false_iff]; exact ⟨decide_eq_false (by omega), decide_eq_false (by omega)⟩, all_of fun i hi => ?_⟩
  rw [badE_split, part3_get hi, Bool.or_eq_false_iff]
  have hi' : 3 * x + i < l.length := by omega
  constructor
  · have := List.all_eq_true.1 h.1 (3 * x + i) (List.mem_range.2 hi')
    have hr : riseBad l (3 * x + i) = false := by simpa using this
    rw [riseBad] at hr ⊢
    rw [part3_get hi]
    by_cases h0 : i = 0
    · subst h0; simp
    · have e1 : ((i : Int) - 1).toNat = i - 1 := by omega
      have e2 : (((3 * x + i : Nat) : Int) - 1).toNat = 3 * x + (i - 1) := by omega
      rw [e2] at hr
      rw [e1, part3_get (by omega)]
      rw [decide_eq_true (by omega), Bool.true_and] at hr ⊢
      exact hr
  · refine leafGood_one (goodB_all h.2 _ ?_)
    rw [List.getD_eq_getElem?_getD, List.getElem?_eq_getElem hi']
    exact List.getElem_mem hi'
def cutP (p : List Int) : List Int := p.take (p.length - 1)
def leavesS (l : List En) : List (List Int) := (List.range ((l.length + 2) / 3)).map (blkS l)
/-- index.Pack. -/
def packS (l : List En) (p : List Int) : List (List Int) × Int :=
  if goodI l = false then ([], 11) else if (p.length : Int) ≠ sizeS l.length then ([], 1) else if l.length = 0 then ([], 0)
  else if (rootS (cutP p)).2 ≠ 0 then ([], (rootS (cutP p)).2) else (leavesS l ++ [(rootS (cutP p)).1], 0)
theorem rootS_len (p : List Int) : (rootS p).1.length = 128 := by
  rw [rootS]
  split
  · rename_i h
    have h1 : p.length ≤ 100 := by
      rw [rootOk, Bool.and_eq_true] at h
      have := h.1
      simp at this; omega
    exact sealS_len (by rw [rootB_len p _ (Nat.le_refl _)]; omega)
  · simp
theorem pack_c (v u : Value) (l : List En) (p : List Int) (hn : l.length ≤ 1000000) (hk : KeysOk l) (w : World) (hv : Sl w v 35 l.length (encEs l)) (hu : Sl w u 1 p.length (i64s p)) :
    Calls prog 8 [v, u].toArray w (Ret [] w fun r w' => ∃ i : Value, True ∧ r = .tuple #[i, .int .i64 (packS l p).2] ∧ Fresh w.heap.size [Ent.row 43 128 i (packS l p).1.length (encBs (packS l p).1)] w') := by
  have hb := hu.len
  refine hands_of_T (V := fun i : Value => .tuple #[i, .int .i64 (packS l p).2]) (E := fun i => [Ent.row 43 128 i (packS l p).1.length (encBs (packS l p).1)]) func8 rfl 58 rfl rfl rfl [.sl v 35 l.length (encEs l), .sl u 1 p.length (i64s p)] (((holds0 w).addSl hu (by decide)).addSl hv (by decide)) (fun _ => rfl) ?_
  refine t_seq_region ?_
  refine rg_loud (by rfl) (lo_alloc (cs := [.slice none 0 0]) (by rfl) zeroValue24 (by rfl) (fun b0 hb0 => ?_))
  refine rg_loud (by rfl) (lo_alloc (cs := [.int .i64 0]) (by rfl) zeroValue26 (by rfl) (fun b1 hb1 => ?_))
  refine rg_nil ?_
  refine t_seq ?_
  refine t_block ?_
  refine t_seq_region ?_
  refine rg_pure (by rfl) (by rfl) (pu_moveE (v := v) (by rfl)) ?_
  refine rg_loud (by rfl) (lo_callFQ call12 (by rfl) (fun w hw => good_c v l hk w ((SrcE.src (by repeat constructor)) w hw)) ?_)
  refine rg_pure (by rfl) (by rfl) (pu_not (by rfl)) ?_
  refine rg_pure (by rfl) (by rfl) (pu_assignE (v := .bool _) (by rfl)) ?_
  refine rg_nil ?_
  refine t_cond (by rfl) (fun hc0 => ?_) (fun hc0 => ?_)
  ·
    have hbad : packS l p = ([], 11) := by rw [packS, if_pos (by simpa using hc0)]
    refine t_row_nil 43 128 ?_
    refine t_seq_region ?_
    refine rg_loud (by rfl) (lo_store1 (v := _) (by rfl) (by rfl) (by rfl) (by repeat constructor) sizeOf24 (by rfl) (by first | decide | omega | (simp [u8s, u32s, i64s, encE_len, sumS_len, checkS_len, *]; done) | (simp [u8s, u32s, i64s, encE_len, sumS_len, checkS_len, *]; omega)) ?_)
    refine rg_loud (by rfl) (lo_store1 (v := .int .i64 _) (by rfl) (by rfl) (by rfl) (by repeat constructor) sizeOf26 (by rfl) (by first | decide | omega | (simp [u8s, u32s, i64s, encE_len, sumS_len, checkS_len, *]; done) | (simp [u8s, u32s, i64s, encE_len, sumS_len, checkS_len, *]; omega)) ?_)
    refine rg_nil ?_
    refine t_ret ?_
    exact Fin.ret (res2 rfl (ResV.cell1 (by rfl) isAgg24 (HasE.has (by repeat constructor)) (by rfl)) (ResV.cell1 (by rfl) isAgg26 (HasE.has (by repeat constructor)) (by rfl))) ⟨.slice none 0 0, trivial, by rw [hbad]; rfl, by rw [hbad]; repeat constructor⟩
  ·
    have hgood : goodI l = true := by simpa using hc0
    refine t_seq_region ?_
    refine rg_pure (by rfl) (by rfl) (pu_moveE (v := u) (by rfl)) ?_
    refine rg_pure (by rfl) (by rfl) (pu_len (by rfl) (SrcE.src (by repeat constructor)) (by rfl) underlying23) ?_
    refine rg_pure (by rfl) (by rfl) (pu_moveE (v := v) (by rfl)) ?_
    refine rg_pure (by rfl) (by rfl) (pu_len (by rfl) (SrcE.src (by repeat constructor)) (by rfl) underlying22) ?_
    refine rg_loud (by rfl) (lo_callFQ call16 (by rfl) (fun w hw => size_c _ (by omega) w) ?_)
    refine rg_pure (by rfl) (by rfl) (pu_neq (by rfl) (by rfl)) ?_
    refine rg_pure (by rfl) (by rfl) (pu_assignE (v := .bool _) (by rfl)) ?_
    refine rg_nil ?_
    refine t_cond (by rfl) (fun hc1 => ?_) (fun hc1 => ?_)
    ·
      have hbad : packS l p = ([], 1) := by rw [packS, if_neg (by rw [hgood]; decide), if_pos (by simpa using hc1)]
      refine t_row_nil 43 128 ?_
      refine t_seq_region ?_
      refine rg_loud (by rfl) (lo_store1 (v := _) (by rfl) (by rfl) (by rfl) (by repeat constructor) sizeOf24 (by rfl) (by first | decide | omega | (simp [u8s, u32s, i64s, encE_len, sumS_len, checkS_len, *]; done) | (simp [u8s, u32s, i64s, encE_len, sumS_len, checkS_len, *]; omega)) ?_)
      refine rg_loud (by rfl) (lo_store1 (v := .int .i64 _) (by rfl) (by rfl) (by rfl) (by repeat constructor) sizeOf26 (by rfl) (by first | decide | omega | (simp [u8s, u32s, i64s, encE_len, sumS_len, checkS_len, *]; done) | (simp [u8s, u32s, i64s, encE_len, sumS_len, checkS_len, *]; omega)) ?_)
      refine rg_nil ?_
      refine t_ret ?_
      exact Fin.ret (res2 rfl (ResV.cell1 (by rfl) isAgg24 (HasE.has (by repeat constructor)) (by rfl)) (ResV.cell1 (by rfl) isAgg26 (HasE.has (by repeat constructor)) (by rfl))) ⟨.slice none 0 0, trivial, by rw [hbad]; rfl, by rw [hbad]; repeat constructor⟩
    ·
      have hsz : (p.length : Int) = sizeS l.length := by simpa using hc1
      refine t_seq_region ?_
      refine rg_pure (by rfl) (by rfl) (pu_moveE (v := v) (by rfl)) ?_
      refine rg_pure (by rfl) (by rfl) (pu_len (by rfl) (SrcE.src (by repeat constructor)) (by rfl) underlying22) ?_
      refine rg_pure (by rfl) (by rfl) (pu_eql (by rfl) (by rfl)) ?_
      refine rg_pure (by rfl) (by rfl) (pu_assignE (v := .bool _) (by rfl)) ?_
      refine rg_nil ?_
      refine t_cond (by rfl) (fun hc2 => ?_) (fun hc2 => ?_)
      ·
        have hl0 : l.length = 0 := by simp at hc2; rw [hc2]; rfl
        have hbad : packS l p = ([], 0) := by rw [packS, if_neg (by rw [hgood]; decide), if_neg (by rw [hsz]; simp), if_pos hl0]
        refine t_row_nil 43 128 ?_
        refine t_seq_region ?_
        refine rg_loud (by rfl) (lo_store1 (v := _) (by rfl) (by rfl) (by rfl) (by repeat constructor) sizeOf24 (by rfl) (by first | decide | omega | (simp [u8s, u32s, i64s, encE_len, sumS_len, checkS_len, *]; done) | (simp [u8s, u32s, i64s, encE_len, sumS_len, checkS_len, *]; omega)) ?_)
        refine rg_loud (by rfl) (lo_store1 (v := .int .i64 _) (by rfl) (by rfl) (by rfl) (by repeat constructor) sizeOf26 (by rfl) (by first | decide | omega | (simp [u8s, u32s, i64s, encE_len, sumS_len, checkS_len, *]; done) | (simp [u8s, u32s, i64s, encE_len, sumS_len, checkS_len, *]; omega)) ?_)
        refine rg_nil ?_
        refine t_ret ?_
        exact Fin.ret (res2 rfl (ResV.cell1 (by rfl) isAgg24 (HasE.has (by repeat constructor)) (by rfl)) (ResV.cell1 (by rfl) isAgg26 (HasE.has (by repeat constructor)) (by rfl))) ⟨.slice none 0 0, trivial, by rw [hbad]; rfl, by rw [hbad]; repeat constructor⟩
      ·
        have hl0 : l.length ≠ 0 := by intro h; rw [h] at hc2; cases hc2
        have hp1 : 1 ≤ p.length := by rw [sizeS, if_neg (by omega)] at hsz; omega
        refine t_skip ?_
        refine t_seq_region ?_
        refine rg_loud (by rfl) (lo_alloc (cs := [.slice none 0 0]) (by rfl) zeroValue24 (by rfl) (fun b2 hb2 => ?_))
        refine rg_nil ?_
        refine t_row_nil 43 128 ?_
        refine t_seq ?_
        refine t_isSl v (SrcE.src (by repeat constructor)) (fun hv1 => ?_)
        refine t_seq_region ?_
        refine rg_pure (by rfl) (by rfl) (pu_moveE (v := v) (by rfl)) ?_
        refine rg_loud (by rfl) (lo_callF (fun _ : Nat × Nat => True) (fun i => .func (.func 41) #[] #[.pointer (some ⟨i.1, 0, none⟩), .pointer (some ⟨i.2, 0, none⟩)]) (fun i => [.own i.1 22 [v], .own i.2 3 [.int .i64 3]]) call24 (by rfl) (fun w hw => chunkE_c v hv1 w) (fun i _ => ?_))
        refine rg_nil ?_
        refine t_dup (v := v) (sz := 35) (m := l.length) (xs := encEs l) (by repeat constructor) ?_
        refine t_sub (s := [.own i.1 22 [v], .own i.2 3 [.int .i64 3], .sl v 35 l.length (encEs l), .own b2 24 [.slice none 0 0], .row 43 128 (.slice none 0 0) 0 [], .own b0 24 [.slice none 0 0], .own b1 26 [.int .i64 0], .sl v 35 l.length (encEs l), .sl u 1 p.length (i64s p)]) (by repeat constructor) ?_
        refine t_block ?_
        refine t_rangeFunc (ms := []) (cap := [.pointer (some ⟨i.1, 0, none⟩), .pointer (some ⟨i.2, 0, none⟩)]) (List.range ((l.length + 2) / 3)) (fun (k : Nat) => [slV3 35 v (3 * k) (min (3 * k + 3) l.length) (min (3 * k + 3) l.length)])
          (fun pre e1 => ∃ q, HL.Sub e1 [.own b2 24 [q], .row 43 128 q pre.length (encBs (pre.map (blkS l))), .own b0 24 [.slice none 0 0], .own b1 26 [.int .i64 0], .sl v 35 l.length (encEs l), .sl u 1 p.length (i64s p)]) (fun _ _ => False)
          (by rfl) call41 (.cons (.cons (.cons .nil))) (chunkEIt_c v l.length _ (by omega) rfl (encEs l) i.1 i.2) (fun _ => rfl) (by decide) (by rfl) ⟨_, Sub.refl _⟩ (fun l2 pre x es2 hJ2 hpre => ?_) (fun es2 mb hJ2 => ?_) (fun c es2 mb hj2 => ?_)
        ·
          obtain ⟨q, hsub⟩ := hJ2
          refine t_sub hsub ?_
          have hxq : x < (l.length + 2) / 3 := List.mem_range.1 (hpre.subset (by simp))
          have hx : 3 * x < l.length := by omega
          have hpl : pre.length < (l.length + 2) / 3 := by have := hpre.length_le; simp at this; omega
          have hpo := part3_ok hk x
          have hpg := part3_good hgood hx
          have he0 : (encS (part3 l x)).2 = 0 := by rw [encS, hpg]; rfl
          have hel := encS_len hpo
          refine t_region ?_
          refine rg_pure (by rfl) (by rfl) (pu_assignE (v := slV3 35 v (3 * x) (min (3 * x + 3) l.length) (min (3 * x + 3) l.length)) (by rfl)) ?_
          refine rg_nil ?_
          refine t_block ?_
          refine t_seq_region ?_
          refine rg_pure (by rfl) (by rfl) (pu_moveE (v := slV3 35 v (3 * x) (min (3 * x + 3) l.length) (min (3 * x + 3) l.length)) (by rfl)) ?_
          refine rg_loud (by rfl) (lo_callFQ call25 (by rfl) (fun w hw => enc_c _ (part3 l x) hpo w (part3_src hk (SrcE.src (by repeat constructor)) hx w hw)) ?_)
          refine rg_pure (by rfl) (by rfl) (pu_move) ?_
          refine rg_pure (by rfl) (by rfl) (pu_extract (by rfl) (by rfl)) ?_
          refine rg_pure (by rfl) (by rfl) (pu_extract (by rfl) (by rfl)) ?_
          refine rg_loud (by rfl) (lo_alloc (cs := u8s (List.replicate 128 0)) (by rfl) zeroValue43 (by rfl) (fun b3 hb3 => ?_))
          refine rg_loud (by rfl) (lo_storeV (vs := u8s (encS (part3 l x)).1) (by rfl) (by rfl) (by rfl) (by repeat constructor) sizeOf43 (by first | (simp only [u8s_len, u32s_len, i64s_len, List.length_replicate, List.length_set, encE_len, sumS_len, checkS_len, *]; done) | rfl) (one_u8s _) (by first | (simp only [u8s_len, u32s_len, i64s_len, List.length_replicate, List.length_set, encE_len, sumS_len, checkS_len, *]; done) | rfl) ?_)
          refine rg_pure (by rfl) (by rfl) (pu_assignE (v := .int .i64 _) (by rfl)) ?_
          refine rg_nil ?_
          refine t_seq ?_
          refine t_seq_region ?_
          refine rg_pure (by rfl) (by rfl) (pu_moveE (v := .int .i64 _) (by rfl)) ?_
          refine rg_pure (by rfl) (by rfl) (pu_neq (by rfl) (by rfl)) ?_
          refine rg_nil ?_
          refine t_cond (by rfl) (fun hc3 => ?_) (fun hc3 => ?_)
          ·
            rw [he0] at hc3
            cases hc3
          ·
            refine t_skip ?_
            refine t_region ?_
            refine rg_pure (by rfl) (by rfl) (pu_load1 (v := q) (by rfl) isAgg24 (HasE.has (by repeat constructor)) (by rfl)) ?_
            refine rg_pure (by rfl) (by rfl) (pu_loadAll (by rfl) isAgg43 sizeOf43 (HasE.has (by repeat constructor)) (by rw [u8s_len, hel])) ?_
            refine rg_loud (by rfl) (lo_buildOne (v := .agg (u8s (encS (part3 l x)).1).toArray) (cs := u8s (encS (part3 l x)).1) (by rfl) underlying24 sizeOf43 (by decide) zeroValue43 (by rfl) (by rfl) (by rfl) (by rw [u8s_len, hel]) (fun b4 hb4 => ?_))
            refine rg_loud (by rfl) (lo_appendE (xs' := encBs ((pre ++ [x]).map (blkS l))) (k' := (pre ++ [x]).length) elemOk24 (by rfl) (by rfl) (by rfl) (by repeat constructor) (SrcE.src (by repeat constructor)) (one_u8s _) (by omega) (by simp) (by simp [encBs, blkS]) (fun v5 => ?_))
            refine rg_isSl v5 (SrcE.src (by repeat constructor)) (fun hv5 => ?_)
            refine rg_loud (by rfl) (lo_store1 (v := v5) (by rfl) (by rfl) (by rfl) (by repeat constructor) sizeOf24 hv5.one Nat.zero_lt_one ?_)
            refine rg_nil ?_
            exact ⟨v5, by repeat constructor⟩
        ·
          obtain ⟨q, hsub⟩ := hJ2
          refine t_sub (s := [.mk mb, .own b2 24 [q], .row 43 128 q (List.range ((l.length + 2) / 3)).length (encBs ((List.range ((l.length + 2) / 3)).map (blkS l))), .own b0 24 [.slice none 0 0], .own b1 26 [.int .i64 0], .sl v 35 l.length (encEs l), .sl u 1 p.length (i64s p)]) (.cons .here (sub_skip (sub_skip (sub_skip hsub)))) ?_
          have hrl := rootS_len (cutP p)
          refine t_seq_region ?_
          refine rg_pure (by rfl) (by rfl) (pu_moveE (v := u) (by rfl)) ?_
          refine rg_pure (by rfl) (by rfl) (pu_moveE (v := u) (by rfl)) ?_
          refine rg_pure (by rfl) (by rfl) (pu_len (by rfl) (SrcE.src (by repeat constructor)) (by rfl) underlying23) ?_
          refine rg_pure (by rfl) (by rfl) (pu_sub64 (by rfl) (by rfl) (by omega)) ?_
          refine rg_pure (by rfl) (by rfl) (pu_slice (l := 0) (h := p.length - 1) (by rfl) (SrcE.src (by repeat constructor)) underlying23 sizeOf3 bv_none (bv_some (by omega)) (by omega) (by omega)) ?_
          refine rg_loud (by rfl) (lo_callFQ call26 (by rfl) (fun w hw => root_c _ (cutP p) w (((src_cut (SrcE.src (by repeat constructor)) (l := 0) (h := p.length - 1) (by omega) (by omega)).to (by rw [cutP, List.length_take]; omega) (by rw [Nat.zero_mul, List.drop_zero, Nat.sub_zero, Nat.mul_one, i64s_take]; rfl)) w hw)) ?_)
          refine rg_pure (by rfl) (by rfl) (pu_move) ?_
          refine rg_pure (by rfl) (by rfl) (pu_extract (by rfl) (by rfl)) ?_
          refine rg_pure (by rfl) (by rfl) (pu_extract (by rfl) (by rfl)) ?_
          refine rg_loud (by rfl) (lo_alloc (cs := u8s (List.replicate 128 0)) (by rfl) zeroValue43 (by rfl) (fun b6 hb6 => ?_))
          refine rg_loud (by rfl) (lo_storeV (vs := u8s (rootS (cutP p)).1) (by rfl) (by rfl) (by rfl) (by repeat constructor) sizeOf43 (by first | (simp only [u8s_len, u32s_len, i64s_len, List.length_replicate, List.length_set, encE_len, sumS_len, checkS_len, *]; done) | rfl) (one_u8s _) (by first | (simp only [u8s_len, u32s_len, i64s_len, List.length_replicate, List.length_set, encE_len, sumS_len, checkS_len, *]; done) | rfl) ?_)
          refine rg_pure (by rfl) (by rfl) (pu_assignE (v := .int .i64 _) (by rfl)) ?_
          refine rg_nil ?_
          refine t_seq ?_
          refine t_seq_region ?_
          refine rg_pure (by rfl) (by rfl) (pu_moveE (v := .int .i64 _) (by rfl)) ?_
          refine rg_pure (by rfl) (by rfl) (pu_neq (by rfl) (by rfl)) ?_
          refine rg_nil ?_
          refine t_cond (by rfl) (fun hc4 => ?_) (fun hc4 => ?_)
          ·
            have hbad : packS l p = ([], (rootS (cutP p)).2) := by rw [packS, if_neg (by rw [hgood]; decide), if_neg (by rw [hsz]; simp), if_neg hl0, if_pos (by simpa using hc4)]
            refine t_row_nil 43 128 ?_
            refine t_seq_region ?_
            refine rg_pure (by rfl) (by rfl) (pu_moveE (v := .int .i64 _) (by rfl)) ?_
            refine rg_loud (by rfl) (lo_store1 (v := _) (by rfl) (by rfl) (by rfl) (by repeat constructor) sizeOf24 (by rfl) (by first | decide | omega | (simp [u8s, u32s, i64s, encE_len, sumS_len, checkS_len, *]; done) | (simp [u8s, u32s, i64s, encE_len, sumS_len, checkS_len, *]; omega)) ?_)
            refine rg_loud (by rfl) (lo_store1 (v := .int .i64 _) (by rfl) (by rfl) (by rfl) (by repeat constructor) sizeOf26 (by rfl) (by first | decide | omega | (simp [u8s, u32s, i64s, encE_len, sumS_len, checkS_len, *]; done) | (simp [u8s, u32s, i64s, encE_len, sumS_len, checkS_len, *]; omega)) ?_)
            refine rg_nil ?_
            refine t_ret ?_
            exact Fin.retM [mb] (es' := [.row 43 128 (.slice none 0 0) 0 [], .own b0 24 [.slice none 0 0], .own b1 26 [.int .i64 (rootS (cutP p)).2]]) (res2 rfl (ResV.cell1 (by rfl) isAgg24 (HasE.has (by repeat constructor)) (by rfl)) (ResV.cell1 (by rfl) isAgg26 (HasE.has (by repeat constructor)) (by rfl))) (by repeat (first | exact Sub.refl _ | constructor | refine sub_skip ?_)) ⟨.slice none 0 0, trivial, by rw [hbad], by rw [hbad]; repeat constructor⟩
          ·
            have hok : packS l p = (leavesS l ++ [(rootS (cutP p)).1], 0) := by rw [packS, if_neg (by rw [hgood]; decide), if_neg (by rw [hsz]; simp), if_neg hl0, if_neg (by simpa using hc4)]
            refine t_skip ?_
            refine t_seq_region ?_
            refine rg_pure (by rfl) (by rfl) (pu_load1 (v := q) (by rfl) isAgg24 (HasE.has (by repeat constructor)) (by rfl)) ?_
            refine rg_pure (by rfl) (by rfl) (pu_loadAll (by rfl) isAgg43 sizeOf43 (HasE.has (by repeat constructor)) (by rw [u8s_len, hrl])) ?_
            refine rg_loud (by rfl) (lo_buildOne (v := .agg (u8s (rootS (cutP p)).1).toArray) (cs := u8s (rootS (cutP p)).1) (by rfl) underlying24 sizeOf43 (by decide) zeroValue43 (by rfl) (by rfl) (by rfl) (by rw [u8s_len, hrl]) (fun b6 hb6 => ?_))
            refine rg_loud (by rfl) (lo_appendE (xs' := encBs (leavesS l ++ [(rootS (cutP p)).1])) (k' := (leavesS l ++ [(rootS (cutP p)).1]).length) elemOk24 (by rfl) (by rfl) (by rfl) (by repeat constructor) (SrcE.src (by repeat constructor)) (one_u8s _) (by simp only [List.length_range]; omega) (by simp [leavesS]) (by simp [encBs, leavesS]) (fun v8 => ?_))
            refine rg_isSl v8 (SrcE.src (by repeat constructor)) (fun hv8 => ?_)
            refine rg_loud (by rfl) (lo_store1 (v := v8) (by rfl) (by rfl) (by rfl) (by repeat constructor) sizeOf24 hv8.one Nat.zero_lt_one ?_)
            refine rg_loud (by rfl) (lo_store1 (v := .int .i64 _) (by rfl) (by rfl) (by rfl) (by repeat constructor) sizeOf26 (by rfl) (by first | decide | omega | (simp [u8s, u32s, i64s, encE_len, sumS_len, checkS_len, *]; done) | (simp [u8s, u32s, i64s, encE_len, sumS_len, checkS_len, *]; omega)) ?_)
            refine rg_nil ?_
            refine t_ret ?_
            exact Fin.retM [mb] (es' := [.row 43 128 v8 (leavesS l ++ [(rootS (cutP p)).1]).length (encBs (leavesS l ++ [(rootS (cutP p)).1])), .own b0 24 [v8], .own b1 26 [.int .i64 0]]) (res2 rfl (ResV.cell1 (by rfl) isAgg24 (HasE.has (by repeat constructor)) (by rfl)) (ResV.cell1 (by rfl) isAgg26 (HasE.has (by repeat constructor)) (by rfl))) (by repeat (first | exact Sub.refl _ | constructor | refine sub_skip ?_)) ⟨v8, trivial, by rw [hok], by rw [hok]; repeat constructor⟩
        ·
          exact hj2.elim
end Go.Proofs.Ytpoecjeknolnoaa
