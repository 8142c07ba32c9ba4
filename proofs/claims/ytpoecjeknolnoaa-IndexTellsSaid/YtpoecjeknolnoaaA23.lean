/- Walks of functions that the statements of this seat reach: what each one hands back. Conditions: those that each theorem names. -/
import Derived.Test.YtpoecjeknolnoaaA22
import Derived.Test.YtpoecjeknolnoaaProg
import Derived.KernelRfl
namespace Go.Proofs.Ytpoecjeknolnoaa
open Go.RowKit Go.Proofs.HL Go.Proofs.Try
set_option maxRecDepth 10000
set_option linter.unusedSimpArgs false
set_option linter.unusedVariables false
attribute [local irreducible] T RG RA Pu Lo
theorem take_succ_getD {l : List En} {i : Nat} (h : i < l.length) : l.take (i + 1) = l.take i ++ [l.getD i d0] := by
  rw [List.take_succ_eq_append_getElem h, getD_at d0 h]
theorem ent_at {l : List En} {rest : List Value} {i : Nat} (hk : KeysOk l) (hi : i < l.length) : ((encEs l ++ rest).drop (0 + ((i : Nat) : Int).toNat * 35)).take 35 = encE (l.getD i d0) := by
  have hl := encEs_len hk
  rw [Nat.zero_add, Int.toNat_natCast, List.drop_append_of_le_length (by omega), List.take_append_of_le_length (by rw [List.length_drop]; omega), encEs_at hk hi]
theorem encEs_app (a b : List En) : encEs (a ++ b) = encEs a ++ encEs b := by simp [encEs]
theorem ent_put {l : List En} {rest : List Value} {i : Nat} {e : En} (hk : KeysOk l) (hi : i < l.length) (he : e.1.length = 32) : putAt (encEs l ++ rest) (0 + ((i : Nat) : Int).toNat * 35) (encE e) = encEs (l.set i e) ++ rest := by
  have hl := encEs_len hk
  have h35 := encE_len he
  rw [Nat.zero_add, Int.toNat_natCast, putAt, h35, List.take_append_of_le_length (by omega), show i * 35 + 35 = (i + 1) * 35 by omega, List.drop_append_of_le_length (by omega), encEs_take i hk, encEs_drop (i + 1) hk,
    List.set_eq_take_append_cons_drop, if_pos hi, encEs_app]
  simp [encEs]
def swpS (l : List En) (i j : Nat) : List En := (l.set i (l.getD j d0)).set j (l.getD i d0)
theorem swpS_perm {l : List En} {i j : Nat} (hi : i < l.length) (hj : j < l.length) : (swpS l i j).Perm l := by
  rw [swpS, getD_at d0 hi, getD_at d0 hj]
  exact List.set_set_perm hi hj
theorem KeysOk.perm {l m : List En} (h : KeysOk l) (hp : m.Perm l) : KeysOk m := fun e he => h e (hp.subset he)
theorem set_ok {l : List En} (hk : KeysOk l) {i : Nat} {e : En} (he : EOk e) : KeysOk (l.set i e) := fun x hx => by
  rcases List.mem_or_eq_of_mem_set hx with h | rfl
  · exact hk x h
  · exact he
theorem byte_at {ts : List Int} (h : ∀ x ∈ ts, 0 ≤ x ∧ x < 256) (i : Nat) : 0 ≤ ts.getD i 0 ∧ ts.getD i 0 < 256 := by
  by_cases hi : i < ts.length
  · exact h _ (getD_mem hi)
  · rw [List.getD_eq_getElem?_getD, List.getElem?_eq_none (by omega)]; decide
theorem order_c (v u : Value) (l : List En) (ts : List Int) (hk : KeysOk l) (hts : ∀ x ∈ ts, 0 ≤ x ∧ x < 256) (w : World) (hv : Sl w v 35 l.length (encEs l)) (hu : Sl w u 1 ts.length (u8s ts)) : Gives prog 5 [v, u].toArray w (.bool true) := by
  have hb := hv.len
  have hbu := hu.len
  refine gives_of_T func5 rfl 162 rfl rfl rfl [.sl v 35 l.length (encEs l), .sl u 1 ts.length (u8s ts)] (((holds0 w).addSl hu (by decide)).addSl hv (by decide)) ?_
  refine t_seq_region ?_
  refine rg_pure (by rfl) (by rfl) (pu_assignE (v := .bool _) (by rfl)) ?_
  refine rg_nil ?_
  refine t_seq ?_
  refine t_seq_region ?_
  refine rg_pure (by rfl) (by rfl) (pu_moveE (v := v) (by rfl)) ?_
  refine rg_pure (by rfl) (by rfl) (pu_len (by rfl) (SrcE.src (by repeat constructor)) (by rfl) underlying22) ?_
  refine rg_pure (by rfl) (by rfl) (pu_gtr (by rfl) (by rfl)) ?_
  refine rg_pure (by rfl) (by rfl) (pu_moveE (v := .bool _) (by rfl)) ?_
  refine rg_gpure (by rfl) (by rfl) (by rfl) (by rfl) (fun hg => pu_moveE (v := u) (by rfl)) ?_
  refine rg_gpure (by rfl) (by rfl) (by rfl) (by rfl) (fun hg => pu_len (gvE hg (by rfl)) (SrcE.src (by repeat constructor)) (by rfl) underlying45) ?_
  refine rg_gpure (by rfl) (by rfl) (by rfl) (by rfl) (fun hg => pu_gtr (gvE hg (by rfl)) (by rfl)) ?_
  refine rg_pure (by rfl) (by rfl) (pu_pickOr (by rfl) (by rfl)) ?_
  refine rg_nil ?_
  refine t_cond (by rfl) (fun hc0 => ?_) (fun hc0 => ?_)
  ·
    refine t_seq_region ?_
    refine rg_loud (by rfl) (lo_callFQ call7 (by rfl) (fun w hw => wakes_c w) ?_)
    refine rg_pure (by rfl) (by rfl) (pu_assignE (v := .bool _) (by rfl)) ?_
    refine rg_nil ?_
    refine t_ret ?_
    exact Fin.ret (res1 rfl .tmp) (by rfl)
  ·
    have hlen : l.length ≤ 60 ∧ ts.length ≤ 200 := by simp at hc0; omega
    refine t_skip ?_
    refine t_seq_region ?_
    refine rg_pure (by rfl) (by rfl) (pu_assign) ?_
    refine rg_pure (by rfl) (by rfl) (pu_assign) ?_
    refine rg_nil ?_
    refine t_seq_region ?_
    refine rg_loud (by rfl) (lo_buildRow0 (by rfl) underlying22 sizeOf49 (fun b0 hb0 => ?_))
    refine rg_pure (by rfl) (by rfl) (pu_moveE (v := v) (by rfl)) ?_
    refine rg_loud (by rfl) (lo_appendE (xs' := encEs l) (k' := l.length) elemOk22 (by rfl) (by rfl) (by rfl) (by repeat constructor) (src_sl (.tail _ (.head _))) (one_encEs _) (by omega) (by simp) (by rfl) (fun v1 => ?_))
    refine rg_pure (by rfl) (by rfl) (pu_assign) ?_
    refine rg_nil ?_
    refine t_seq ?_
    refine t_seq_region ?_
    refine rg_pure (by rfl) (by rfl) (pu_assignE (v := .int .i64 _) (by rfl)) ?_
    refine rg_nil ?_
    refine t_block ?_
    refine t_loop (σ := Nat × List En) (fun s => [(mkS, marksV []), (0, v), (1, u), (5, .slice none 0 0), (6, .slice none 0 0), (7, v1), (8, .int .i64 (s.1 : Int))]) (fun s => [.row 49 35 v1 l.length (encEs s.2), .sl v 35 l.length (encEs l), .sl u 1 ts.length (u8s ts)]) (fun s => s.1 ≤ l.length ∧ s.2.Perm l) (fun s => l.length - s.1) ((0, l) : Nat × List En) ⟨Nat.zero_le _, List.Perm.refl _⟩ (by repeat (first | exact agree_nil | refine agree_cons (by rfl) ?_)) (by repeat constructor) (fun s g hks => ?_)
    obtain ⟨k, ord⟩ := s
    obtain ⟨hk2, hpm⟩ := hks
    simp only at hk2 hpm ⊢
    have hol : ord.length = l.length := hpm.length_eq
    have hko := hk.perm hpm
    refine t_seq ?_
    refine t_seq_region ?_
    refine rg_pure (by rfl) (by rfl) (pu_moveE (v := .int .i64 _) (by rfl)) ?_
    refine rg_pure (by rfl) (by rfl) (pu_moveE (v := v1) (by rfl)) ?_
    refine rg_pure (by rfl) (by rfl) (pu_len (by rfl) (SrcE.src (by repeat constructor)) (by rfl) underlying22) ?_
    refine rg_pure (by rfl) (by rfl) (pu_lss (by rfl) (by rfl)) ?_
    refine rg_pure (by rfl) (by rfl) (pu_moveE (v := .bool _) (by rfl)) ?_
    refine rg_gpure (by rfl) (by rfl) (by rfl) (by rfl) (fun hg => pu_moveE (v := u) (by rfl)) ?_
    refine rg_gpure (by rfl) (by rfl) (by rfl) (by rfl) (fun hg => pu_len (gvE hg (by rfl)) (SrcE.src (by repeat constructor)) (by rfl) underlying45) ?_
    refine rg_gpure (by rfl) (by rfl) (by rfl) (by rfl) (fun hg => pu_gtr (gvE hg (by rfl)) (by rfl)) ?_
    refine rg_pure (by rfl) (by rfl) (pu_pickAnd (by rfl) (by rfl)) ?_
    refine rg_nil ?_
    refine t_cond (by rfl) (fun hc1 => ?_) (fun hc1 => ?_)
    ·
      have hk1 : k < l.length ∧ 0 < ts.length := by simp at hc1; omega
      have hm1 := Int.emod_nonneg (k : Int) (show (ts.length : Int) ≠ 0 by omega)
      have hm2 := Int.emod_lt_of_pos (k : Int) (show (0 : Int) < ts.length by omega)
      have htv := byte_at hts (((k : Nat) : Int) % (ts.length : Int)).toNat
      obtain ⟨q, hqe, hq⟩ : ∃ q : Nat, (q : Int) = (ts.getD (((k : Nat) : Int) % (ts.length : Int)).toNat 0) % (l.length : Int) ∧ q < l.length := ⟨((ts.getD (((k : Nat) : Int) % (ts.length : Int)).toNat 0) % (l.length : Int)).toNat, Int.toNat_of_nonneg (Int.emod_nonneg _ (by omega)), by have := Int.emod_lt_of_pos (ts.getD (((k : Nat) : Int) % (ts.length : Int)).toNat 0) (show (0 : Int) < l.length by omega); omega⟩
      refine t_skip ?_
      refine t_seq ?_
      refine t_block ?_
      refine t_seq_region ?_
      refine rg_pure (by rfl) (by rfl) (pu_moveE (v := u) (by rfl)) ?_
      refine rg_pure (by rfl) (by rfl) (pu_moveE (v := .int .i64 _) (by rfl)) ?_
      refine rg_pure (by rfl) (by rfl) (pu_moveE (v := u) (by rfl)) ?_
      refine rg_pure (by rfl) (by rfl) (pu_len (by rfl) (SrcE.src (by repeat constructor)) (by rfl) underlying45) ?_
      refine rg_pure (by rfl) (by rfl) (pu_rem64 (by rfl) (by rfl) (by omega)) ?_
      refine rg_pure (by rfl) (by rfl) (pu_index1 (by rfl) (by rfl) (SrcE.src (by repeat constructor)) underlying45 sizeOf5 (by omega)) ?_
      refine rg_pure (by rfl) (by rfl) (pu_load1S (u := .int .u8 (ts.getD (((k : Nat) : Int) % (ts.length : Int)).toNat 0)) (by rfl) isAgg5 (SrcE.src (by repeat constructor)) (u8s_get (by omega))) ?_
      refine rg_pure (by rfl) (by rfl) (pu_conv (b := (ts.getD (((k : Nat) : Int) % (ts.length : Int)).toNat 0)) (by rfl) underlying5 underlying3 (wraps_i64 _ htv.1 (by omega))) ?_
      refine rg_pure (by rfl) (by rfl) (pu_moveE (v := v1) (by rfl)) ?_
      refine rg_pure (by rfl) (by rfl) (pu_len (by rfl) (SrcE.src (by repeat constructor)) (by rfl) underlying22) ?_
      refine rg_pure (by rfl) (by rfl) (pu_rem64 (by rfl) (by rfl) (by omega)) ?_
      refine rg_pure (by rfl) (by rfl) (pu_assignE (v := .int .i64 (q : Int)) (by rw [hqe]; rfl)) ?_
      refine rg_nil ?_
      refine t_row_own (v := v1) (by repeat constructor) (by omega) ?_
      rintro b cap cs rfl hcap hcapm hcl hct
      obtain ⟨rest, rfl⟩ : ∃ rest, cs = encEs ord ++ rest := ⟨cs.drop (l.length * 35), by rw [← hct, List.take_append_drop]⟩
      have hel := encEs_len hko
      refine t_region_draw 13 16 [.own b 49 (encEs ord ++ rest)] mixed (by repeat constructor) (by rfl) (by decide +kernel) ?_
      refine ra_pure0 0 1 rfl (by rfl) (by decide +kernel) (by rfl) (pu_moveE (v := .slice (some ⟨b, 0, none⟩) l.length cap) (by rfl)) ?_
      refine ra_pure0 1 3 rfl (by rfl) (by decide +kernel) (by rfl) (pu_moveE (v := .int .i64 _) (by rfl)) ?_
      refine ra_pure0 2 7 rfl (by rfl) (by decide +kernel) (by rfl) (pu_moveE (v := .slice (some ⟨b, 0, none⟩) l.length cap) (by rfl)) ?_
      refine ra_pure0 3 15 rfl (by rfl) (by decide +kernel) (by rfl) (pu_moveE (v := .int .i64 _) (by rfl)) ?_
      refine ra_pure0 4 31 rfl (by rfl) (by decide +kernel) (by rfl) (pu_moveE (v := .slice (some ⟨b, 0, none⟩) l.length cap) (by rfl)) ?_
      refine ra_pure0 5 63 rfl (by rfl) (by decide +kernel) (by rfl) (pu_moveE (v := .int .i64 _) (by rfl)) ?_
      refine ra_pure0 6 127 rfl (by rfl) (by decide +kernel) (by rfl) (pu_indexLit (by rfl) (by rfl) underlying22 sizeOf49 (by omega)) ?_
      refine ra_pure 7 255 rfl (by rfl) (by decide +kernel) (by rfl) (pu_load (ds := encE (ord.getD q d0)) (by rfl) isAgg49 sizeOf49 (HasE.has (by repeat constructor)) (ent_at hko (by omega)) (encE_len (hko.at_ _))) ?_
      refine ra_pure0 8 511 rfl (by rfl) (by decide +kernel) (by rfl) (pu_moveE (v := .slice (some ⟨b, 0, none⟩) l.length cap) (by rfl)) ?_
      refine ra_pure0 9 1023 rfl (by rfl) (by decide +kernel) (by rfl) (pu_moveE (v := .int .i64 _) (by rfl)) ?_
      refine ra_pure0 10 2047 rfl (by rfl) (by decide +kernel) (by rfl) (pu_indexLit (by rfl) (by rfl) underlying22 sizeOf49 (by omega)) ?_
      refine ra_pure 11 4095 rfl (by rfl) (by decide +kernel) (by rfl) (pu_load (ds := encE (ord.getD k d0)) (by rfl) isAgg49 sizeOf49 (HasE.has (by repeat constructor)) (ent_at hko (by omega)) (encE_len (hko.at_ _))) ?_
      refine ra_pure0 12 8191 rfl (by rfl) (by decide +kernel) (by rfl) (pu_indexLit (by rfl) (by rfl) underlying22 sizeOf49 (by omega)) ?_
      refine ra_next 13 16383 (by decide +kernel) ?_
      refine next_loud rfl (by rfl) (lo_storeE (vs := encE (ord.getD q d0)) (cs' := encEs (ord.set k (ord.getD q d0)) ++ rest) (by rfl) (by rfl) (by rfl) (by repeat constructor) sizeOf49 (encE_len (hko.at_ _)) (one_encE _) (by rw [List.length_append, hel]; omega) (ent_put hko (by omega) (hko.at_ _)) ⟨(fun hlt => absurd hlt (by decide +kernel)), ?_⟩)
      refine ra_pure0 14 32767 rfl (by rfl) (by decide +kernel) (by rfl) (pu_indexLit (by rfl) (by rfl) underlying22 sizeOf49 (by omega)) ?_
      refine ra_next 15 65535 (by decide +kernel) ?_
      refine next_loud rfl (by rfl) (lo_storeE (vs := encE (ord.getD k d0)) (cs' := encEs (swpS ord k q) ++ rest) (by rfl) (by rfl) (by rfl) (by repeat constructor) sizeOf49 (encE_len (hko.at_ _)) (one_encE _) (by rw [List.length_append, encEs_len (set_ok hko (hko.ok q)), List.length_set]; omega) (ent_put (set_ok hko (hko.ok q)) (by rw [List.length_set]; omega) (hko.at_ _)) ⟨(fun hlt => absurd hlt (by decide +kernel)), ?_⟩)
      refine ra_end (by decide +kernel) ?_
      have hsw := swpS_perm (l := ord) (i := k) (j := q) (by omega) (by omega)
      have hsl : (encEs (swpS ord k q)).length = l.length * 35 := by rw [encEs_len (hko.perm hsw), hsw.length_eq, hol]
      refine t_own_rowC (m := l.length) (cap := cap) (sz := 35) (xs := encEs (swpS ord k q)) .here (by rw [List.length_append, hsl, ← hcl, List.length_append, hel, hol]) hcap hcapm (by rw [← hsl, List.take_left' rfl]) ?_
      refine t_region ?_
      refine rg_pure (by rfl) (by rfl) (pu_moveE (v := .int .i64 _) (by rfl)) ?_
      refine rg_pure (by rfl) (by rfl) (pu_add64 (by rfl) (by rfl) (by omega)) ?_
      refine rg_pure (by rfl) (by rfl) (pu_assignE (v := .int .i64 _) (by rfl)) ?_
      refine rg_nil ?_
      exact ⟨(k + 1, swpS ord k q), ⟨hk1.1, hsw.trans hpm⟩, by show l.length - (k + 1) < l.length - k; omega, (by repeat (first | exact agree_nil | refine agree_cons (by rfl) ?_)), by repeat constructor⟩
    ·
      refine t_exit ?_
      refine t_seq ?_
      refine t_seq_region ?_
      refine rg_pure (by rfl) (by rfl) (pu_assignE (v := .int .i64 _) (by rfl)) ?_
      refine rg_nil ?_
      refine t_row_nil 49 35 ?_
      refine t_row_nil 49 35 ?_
      refine t_block ?_
      refine t_loop (σ := Nat × (Value × List En) × (Value × List En)) (fun s => [(mkS, marksV []), (0, v), (1, u), (5, s.2.1.1), (6, s.2.2.1), (7, v1), (10, .int .i64 (s.1 : Int))]) (fun s => [.row 49 35 s.2.1.1 s.2.1.2.length (encEs s.2.1.2), .row 49 35 s.2.2.1 s.2.2.2.length (encEs s.2.2.2), .row 49 35 v1 l.length (encEs ord), .sl v 35 l.length (encEs l), .sl u 1 ts.length (u8s ts)]) (fun s => s.1 ≤ l.length ∧ Coll l (l.take s.1) s.2.1.2 ∧ Coll l (ord.take s.1) s.2.2.2) (fun s => l.length - s.1) ((0, (.slice none 0 0, []), (.slice none 0 0, [])) : Nat × (Value × List En) × (Value × List En)) ⟨Nat.zero_le _, Coll.nil l, Coll.nil l⟩ (by repeat (first | exact agree_nil | refine agree_cons (by rfl) ?_)) (by repeat constructor) (fun s g hks => ?_)
      obtain ⟨i, ⟨va, A⟩, ⟨vb, B⟩⟩ := s
      obtain ⟨hi2, hcA, hcB⟩ := hks
      simp only at hi2 hcA hcB ⊢
      have hSA : ∀ e ∈ l.take i, e ∈ l := fun e he => List.mem_of_mem_take he
      have hSB : ∀ e ∈ ord.take i, e ∈ l := fun e he => hpm.subset (List.mem_of_mem_take he)
      have hkA := hcA.ok hk hSA
      have hkB := hcB.ok hk hSB
      have hlA : A.length ≤ 60 := by have := hcA.len; rw [List.length_take] at this; omega
      have hlB : B.length ≤ 60 := by have := hcB.len; rw [List.length_take] at this; omega
      refine t_seq ?_
      refine t_seq_region ?_
      refine rg_pure (by rfl) (by rfl) (pu_moveE (v := .int .i64 _) (by rfl)) ?_
      refine rg_pure (by rfl) (by rfl) (pu_moveE (v := v) (by rfl)) ?_
      refine rg_pure (by rfl) (by rfl) (pu_len (by rfl) (SrcE.src (by repeat constructor)) (by rfl) underlying22) ?_
      refine rg_pure (by rfl) (by rfl) (pu_lss (by rfl) (by rfl)) ?_
      refine rg_nil ?_
      refine t_cond (by rfl) (fun hc2 => ?_) (fun hc2 => ?_)
      ·
        have hi1 : i < l.length := by simp at hc2; omega
        have hma : l.getD i d0 ∈ l := getD_mem hi1
        have hmb : ord.getD i d0 ∈ l := hpm.subset (getD_mem (by omega))
        have hstA := hcA.step hk hSA hma
        have hstB := hcB.step hk hSB hmb
        rw [← take_succ_getD hi1] at hstA
        rw [← take_succ_getD (by omega : i < ord.length)] at hstB
        have hoA := hk _ (sameS_mem hma)
        have hoB := hk _ (sameS_mem hmb)
        refine t_skip ?_
        refine t_seq ?_
        refine t_block ?_
        refine t_seq ?_
        refine t_seq_region ?_
        refine rg_pure (by rfl) (by rfl) (pu_moveE (v := va) (by rfl)) ?_
        refine rg_pure (by rfl) (by rfl) (pu_moveE (v := v) (by rfl)) ?_
        refine rg_pure (by rfl) (by rfl) (pu_moveE (v := v) (by rfl)) ?_
        refine rg_pure (by rfl) (by rfl) (pu_moveE (v := .int .i64 _) (by rfl)) ?_
        refine rg_pure (by rfl) (by rfl) (pu_index (by rfl) (by rfl) (SrcE.src (by repeat constructor)) underlying22 sizeOf49 (by omega)) ?_
        refine rg_pure (by rfl) (by rfl) (pu_loadS (ds := encE (l.getD (i) d0)) (by rfl) isAgg49 sizeOf49 (SrcE.src (by repeat constructor)) (encEs_at hk hi1) (encE_len (hk.at_ _)) (by decide)) ?_
        refine rg_loud (by rfl) (lo_callFQ call20 (by rfl) (fun w hw => same_c v l (l.getD i d0) hk (hk.at_ i) w ((SrcE.src (by repeat constructor)) w hw)) ?_)
        refine rg_loud (by rfl) (lo_callF (fun _ : Value => True) (fun r => .tuple #[r, .int .i64 (insertS A (sameS l (l.getD i d0))).2]) (fun r => [.row 49 35 r (insertS A (sameS l (l.getD i d0))).1.length (encEs (insertS A (sameS l (l.getD i d0))).1)]) call19 (by rfl) (fun w hw => insertI_c va A _ (by omega) hkA hoA.1 w ((SrcE.src (by repeat constructor)) w hw)) (fun r1 _ => ?_))
        refine rg_pure (by rfl) (by rfl) (pu_move) ?_
        refine rg_pure (by rfl) (by rfl) (pu_extract (by rfl) (by rfl)) ?_
        refine rg_pure (by rfl) (by rfl) (pu_extract (by rfl) (by rfl)) ?_
        refine rg_pure (by rfl) (by rfl) (pu_assignE (v := r1) (by rfl)) ?_
        refine rg_pure (by rfl) (by rfl) (pu_assignE (v := .int .i64 _) (by rfl)) ?_
        refine rg_nil ?_
        refine t_seq_region ?_
        refine rg_pure (by rfl) (by rfl) (pu_moveE (v := .int .i64 _) (by rfl)) ?_
        refine rg_pure (by rfl) (by rfl) (pu_eql (by rfl) (by rfl)) ?_
        refine rg_nil ?_
        refine t_cond (by rfl) (fun hc3 => ?_) (fun hc3 => ?_)
        ·
          have hA : Coll l (l.take (i + 1)) (insertS A (sameS l (l.getD i d0))).1 := by
            rcases hstA with h | h
            · exact h.2
            · rw [h.1] at hc3; cases hc3
          refine t_region ?_
          refine rg_pure (by rfl) (by rfl) (pu_moveE (v := r1) (by rfl)) ?_
          refine rg_pure (by rfl) (by rfl) (pu_assignE (v := r1) (by rfl)) ?_
          refine rg_nil ?_
          refine t_seq_region ?_
          refine rg_pure (by rfl) (by rfl) (pu_moveE (v := vb) (by rfl)) ?_
          refine rg_pure (by rfl) (by rfl) (pu_moveE (v := v) (by rfl)) ?_
          refine rg_pure (by rfl) (by rfl) (pu_moveE (v := v1) (by rfl)) ?_
          refine rg_pure (by rfl) (by rfl) (pu_moveE (v := .int .i64 _) (by rfl)) ?_
          refine rg_pure (by rfl) (by rfl) (pu_index (by rfl) (by rfl) (SrcE.src (by repeat constructor)) underlying22 sizeOf49 (by omega)) ?_
          refine rg_pure (by rfl) (by rfl) (pu_loadS (ds := encE (ord.getD (i) d0)) (by rfl) isAgg49 sizeOf49 (SrcE.src (by repeat constructor)) (encEs_at hko (by omega)) (encE_len (hko.at_ _)) (by decide)) ?_
          refine rg_loud (by rfl) (lo_callFQ call20 (by rfl) (fun w hw => same_c v l (ord.getD i d0) hk (hko.at_ i) w ((SrcE.src (by repeat constructor)) w hw)) ?_)
          refine rg_loud (by rfl) (lo_callF (fun _ : Value => True) (fun r => .tuple #[r, .int .i64 (insertS B (sameS l (ord.getD i d0))).2]) (fun r => [.row 49 35 r (insertS B (sameS l (ord.getD i d0))).1.length (encEs (insertS B (sameS l (ord.getD i d0))).1)]) call19 (by rfl) (fun w hw => insertI_c vb B _ (by omega) hkB hoB.1 w ((SrcE.src (by repeat constructor)) w hw)) (fun r2 _ => ?_))
          refine rg_pure (by rfl) (by rfl) (pu_move) ?_
          refine rg_pure (by rfl) (by rfl) (pu_extract (by rfl) (by rfl)) ?_
          refine rg_pure (by rfl) (by rfl) (pu_extract (by rfl) (by rfl)) ?_
          refine rg_pure (by rfl) (by rfl) (pu_assignE (v := r2) (by rfl)) ?_
          refine rg_pure (by rfl) (by rfl) (pu_assignE (v := .int .i64 _) (by rfl)) ?_
          refine rg_nil ?_
          refine t_seq_region ?_
          refine rg_pure (by rfl) (by rfl) (pu_moveE (v := .int .i64 _) (by rfl)) ?_
          refine rg_pure (by rfl) (by rfl) (pu_eql (by rfl) (by rfl)) ?_
          refine rg_nil ?_
          refine t_cond (by rfl) (fun hc4 => ?_) (fun hc4 => ?_)
          ·
            have hB : Coll l (ord.take (i + 1)) (insertS B (sameS l (ord.getD i d0))).1 := by
              rcases hstB with h | h
              · exact h.2
              · rw [h.1] at hc4; cases hc4
            refine t_region ?_
            refine rg_pure (by rfl) (by rfl) (pu_moveE (v := r2) (by rfl)) ?_
            refine rg_pure (by rfl) (by rfl) (pu_assignE (v := r2) (by rfl)) ?_
            refine rg_nil ?_
            refine t_region ?_
            refine rg_pure (by rfl) (by rfl) (pu_moveE (v := .int .i64 _) (by rfl)) ?_
            refine rg_pure (by rfl) (by rfl) (pu_add64 (by rfl) (by rfl) (by omega)) ?_
            refine rg_pure (by rfl) (by rfl) (pu_assignE (v := .int .i64 _) (by rfl)) ?_
            refine rg_nil ?_
            exact ⟨(i + 1, (_, _), (_, _)), ⟨hi1, hA, hB⟩, by show l.length - (i + 1) < l.length - i; omega, (by repeat (first | exact agree_nil | refine agree_cons (by rfl) ?_)), by repeat constructor⟩
          ·
            have hB1 : (insertS B (sameS l (ord.getD i d0))).2 = 1 ∧ Coll l (ord.take (i + 1)) B := by
              rcases hstB with h | h
              · rw [h.1] at hc4; cases hc4
              · exact h
            have hB := hB1.2
            refine t_seq_region ?_
            refine rg_pure (by rfl) (by rfl) (pu_moveE (v := .int .i64 _) (by rfl)) ?_
            refine rg_pure (by rfl) (by rfl) (pu_neq (by rfl) (by rfl)) ?_
            refine rg_nil ?_
            refine t_cond (by rfl) (fun hc5 => ?_) (fun hc5 => ?_)
            ·
              exfalso; rw [hB1.1] at hc5; cases hc5
            ·
              refine t_skip ?_
              refine t_region ?_
              refine rg_pure (by rfl) (by rfl) (pu_moveE (v := .int .i64 _) (by rfl)) ?_
              refine rg_pure (by rfl) (by rfl) (pu_add64 (by rfl) (by rfl) (by omega)) ?_
              refine rg_pure (by rfl) (by rfl) (pu_assignE (v := .int .i64 _) (by rfl)) ?_
              refine rg_nil ?_
              exact ⟨(i + 1, (_, _), (_, _)), ⟨hi1, hA, hB⟩, by show l.length - (i + 1) < l.length - i; omega, (by repeat (first | exact agree_nil | refine agree_cons (by rfl) ?_)), by repeat constructor⟩
        ·
          have hA1 : (insertS A (sameS l (l.getD i d0))).2 = 1 ∧ Coll l (l.take (i + 1)) A := by
            rcases hstA with h | h
            · rw [h.1] at hc3; cases hc3
            · exact h
          have hA := hA1.2
          refine t_seq_region ?_
          refine rg_pure (by rfl) (by rfl) (pu_moveE (v := .int .i64 _) (by rfl)) ?_
          refine rg_pure (by rfl) (by rfl) (pu_neq (by rfl) (by rfl)) ?_
          refine rg_nil ?_
          refine t_cond (by rfl) (fun hc6 => ?_) (fun hc6 => ?_)
          ·
            exfalso; rw [hA1.1] at hc6; cases hc6
          ·
            refine t_skip ?_
            refine t_seq_region ?_
            refine rg_pure (by rfl) (by rfl) (pu_moveE (v := vb) (by rfl)) ?_
            refine rg_pure (by rfl) (by rfl) (pu_moveE (v := v) (by rfl)) ?_
            refine rg_pure (by rfl) (by rfl) (pu_moveE (v := v1) (by rfl)) ?_
            refine rg_pure (by rfl) (by rfl) (pu_moveE (v := .int .i64 _) (by rfl)) ?_
            refine rg_pure (by rfl) (by rfl) (pu_index (by rfl) (by rfl) (SrcE.src (by repeat constructor)) underlying22 sizeOf49 (by omega)) ?_
            refine rg_pure (by rfl) (by rfl) (pu_loadS (ds := encE (ord.getD (i) d0)) (by rfl) isAgg49 sizeOf49 (SrcE.src (by repeat constructor)) (encEs_at hko (by omega)) (encE_len (hko.at_ _)) (by decide)) ?_
            refine rg_loud (by rfl) (lo_callFQ call20 (by rfl) (fun w hw => same_c v l (ord.getD i d0) hk (hko.at_ i) w ((SrcE.src (by repeat constructor)) w hw)) ?_)
            refine rg_loud (by rfl) (lo_callF (fun _ : Value => True) (fun r => .tuple #[r, .int .i64 (insertS B (sameS l (ord.getD i d0))).2]) (fun r => [.row 49 35 r (insertS B (sameS l (ord.getD i d0))).1.length (encEs (insertS B (sameS l (ord.getD i d0))).1)]) call19 (by rfl) (fun w hw => insertI_c vb B _ (by omega) hkB hoB.1 w ((SrcE.src (by repeat constructor)) w hw)) (fun r2 _ => ?_))
            refine rg_pure (by rfl) (by rfl) (pu_move) ?_
            refine rg_pure (by rfl) (by rfl) (pu_extract (by rfl) (by rfl)) ?_
            refine rg_pure (by rfl) (by rfl) (pu_extract (by rfl) (by rfl)) ?_
            refine rg_pure (by rfl) (by rfl) (pu_assignE (v := r2) (by rfl)) ?_
            refine rg_pure (by rfl) (by rfl) (pu_assignE (v := .int .i64 _) (by rfl)) ?_
            refine rg_nil ?_
            refine t_seq_region ?_
            refine rg_pure (by rfl) (by rfl) (pu_moveE (v := .int .i64 _) (by rfl)) ?_
            refine rg_pure (by rfl) (by rfl) (pu_eql (by rfl) (by rfl)) ?_
            refine rg_nil ?_
            refine t_cond (by rfl) (fun hc4 => ?_) (fun hc4 => ?_)
            ·
              have hB : Coll l (ord.take (i + 1)) (insertS B (sameS l (ord.getD i d0))).1 := by
                rcases hstB with h | h
                · exact h.2
                · rw [h.1] at hc4; cases hc4
              refine t_region ?_
              refine rg_pure (by rfl) (by rfl) (pu_moveE (v := r2) (by rfl)) ?_
              refine rg_pure (by rfl) (by rfl) (pu_assignE (v := r2) (by rfl)) ?_
              refine rg_nil ?_
              refine t_region ?_
              refine rg_pure (by rfl) (by rfl) (pu_moveE (v := .int .i64 _) (by rfl)) ?_
              refine rg_pure (by rfl) (by rfl) (pu_add64 (by rfl) (by rfl) (by omega)) ?_
              refine rg_pure (by rfl) (by rfl) (pu_assignE (v := .int .i64 _) (by rfl)) ?_
              refine rg_nil ?_
              exact ⟨(i + 1, (_, _), (_, _)), ⟨hi1, hA, hB⟩, by show l.length - (i + 1) < l.length - i; omega, (by repeat (first | exact agree_nil | refine agree_cons (by rfl) ?_)), by repeat constructor⟩
            ·
              have hB1 : (insertS B (sameS l (ord.getD i d0))).2 = 1 ∧ Coll l (ord.take (i + 1)) B := by
                rcases hstB with h | h
                · rw [h.1] at hc4; cases hc4
                · exact h
              have hB := hB1.2
              refine t_seq_region ?_
              refine rg_pure (by rfl) (by rfl) (pu_moveE (v := .int .i64 _) (by rfl)) ?_
              refine rg_pure (by rfl) (by rfl) (pu_neq (by rfl) (by rfl)) ?_
              refine rg_nil ?_
              refine t_cond (by rfl) (fun hc5 => ?_) (fun hc5 => ?_)
              ·
                exfalso; rw [hB1.1] at hc5; cases hc5
              ·
                refine t_skip ?_
                refine t_region ?_
                refine rg_pure (by rfl) (by rfl) (pu_moveE (v := .int .i64 _) (by rfl)) ?_
                refine rg_pure (by rfl) (by rfl) (pu_add64 (by rfl) (by rfl) (by omega)) ?_
                refine rg_pure (by rfl) (by rfl) (pu_assignE (v := .int .i64 _) (by rfl)) ?_
                refine rg_nil ?_
                exact ⟨(i + 1, (_, _), (_, _)), ⟨hi1, hA, hB⟩, by show l.length - (i + 1) < l.length - i; omega, (by repeat (first | exact agree_nil | refine agree_cons (by rfl) ?_)), by repeat constructor⟩
      ·
        have hie : i = l.length := by simp at hc2; omega
        subst hie
        have hab : A = B := hcA.eq hcB (fun e => by rw [List.take_length, ← hol, List.take_length]; exact hpm.mem_iff.symm)
        subst hab
        have hris : risS A = true := (ris_iff A).2 hcA.srt
        have hfd : ∀ k, k < l.length → _ := fun k hk1 => hcA.find hk hSA (e := l.getD k d0) (by rw [List.take_length]; exact getD_mem hk1)
        refine t_exit ?_
        refine t_seq ?_
        refine t_seq_region ?_
        refine rg_pure (by rfl) (by rfl) (pu_moveE (v := va) (by rfl)) ?_
        refine rg_pure (by rfl) (by rfl) (pu_moveE (v := vb) (by rfl)) ?_
        refine rg_loud (by rfl) (lo_callFQ call15 (by rfl) (fun w hw => eentries_c va vb A A hkA hkA w ((SrcE.src (by repeat constructor)) w hw) ((SrcE.src (by repeat constructor)) w hw)) ?_)
        refine rg_pure (by rfl) (by rfl) (pu_not (by rfl)) ?_
        refine rg_pure (by rfl) (by rfl) (pu_moveE (v := .bool _) (by rfl)) ?_
        refine rg_gpure (by rfl) (by rfl) (by rfl) (by rfl) (fun hg => pu_moveE (v := va) (by rfl)) ?_
        refine rg_gcall (by rfl) (by rfl) (by rfl) (by rfl) (fun hg => lo_callFP call21 (by rfl) (fun w hw => gives_eq (args1 (gvE hg (by rfl))) (rising_c va A hkA w ((SrcE.src (by repeat constructor)) w hw)))) ?_
        refine rg_gpure (by rfl) (by rfl) (by rfl) (by rfl) (fun hg => pu_not (gvE hg (by rfl))) ?_
        refine rg_pure (by rfl) (by rfl) (pu_pickOr (by rfl) (by rfl)) ?_
        refine rg_nil ?_
        refine t_cond (by rfl) (fun hc7 => ?_) (fun hc7 => ?_)
        ·
          exfalso; rw [hris] at hc7; simp at hc7
        ·
          refine t_skip ?_
          refine t_seq ?_
          refine t_seq_region ?_
          refine rg_pure (by rfl) (by rfl) (pu_assignE (v := .int .i64 _) (by rfl)) ?_
          refine rg_nil ?_
          refine t_block ?_
          refine t_loop (σ := Nat) (fun k => [(mkS, marksV []), (0, v), (1, u), (5, va), (15, .int .i64 (k : Int))]) (fun k => [.row 49 35 va A.length (encEs A), .sl v 35 l.length (encEs l), .sl u 1 ts.length (u8s ts)]) (fun k => k ≤ l.length) (fun k => l.length - k) 0 (Nat.zero_le _) (by repeat (first | exact agree_nil | refine agree_cons (by rfl) ?_)) (by repeat constructor) (fun k g hk2 => ?_)
          refine t_seq ?_
          refine t_seq_region ?_
          refine rg_pure (by rfl) (by rfl) (pu_moveE (v := .int .i64 _) (by rfl)) ?_
          refine rg_pure (by rfl) (by rfl) (pu_moveE (v := v) (by rfl)) ?_
          refine rg_pure (by rfl) (by rfl) (pu_len (by rfl) (SrcE.src (by repeat constructor)) (by rfl) underlying22) ?_
          refine rg_pure (by rfl) (by rfl) (pu_lss (by rfl) (by rfl)) ?_
          refine rg_nil ?_
          refine t_cond (by rfl) (fun hc8 => ?_) (fun hc8 => ?_)
          ·
            have hk1 : k < l.length := by simp at hc8; omega
            obtain ⟨hf1, hf2, hf3⟩ := hfd k hk1
            refine t_skip ?_
            refine t_seq ?_
            refine t_block ?_
            refine t_seq_region ?_
            refine rg_pure (by rfl) (by rfl) (pu_moveE (v := va) (by rfl)) ?_
            refine rg_pure (by rfl) (by rfl) (pu_moveE (v := v) (by rfl)) ?_
            refine rg_pure (by rfl) (by rfl) (pu_moveE (v := .int .i64 _) (by rfl)) ?_
            refine rg_pure (by rfl) (by rfl) (pu_index (by rfl) (by rfl) (SrcE.src (by repeat constructor)) underlying22 sizeOf49 (by omega)) ?_
            refine rg_pure (by rfl) (by rfl) (pu_fieldP (by rfl) underlying49 (by rfl) sizeOf47 (by decide) (src_some (SrcE.src (by repeat constructor)) (by omega))) ?_
            refine rg_pure (by rfl) (by rfl) (pu_loadS (ds := u8s (l.getD (k) d0).1) (by rfl) isAgg47 sizeOf47 (SrcE.src (by repeat constructor)) (encEs_key hk (by omega)) (u8s_len32 (hk.at_ _)) (by decide)) ?_
            refine rg_loud (by rfl) (lo_callFQ call22 (by rfl) (fun w hw => Find_c va A (l.getD k d0).1 (by omega) hkA (hk.at_ k) w ((SrcE.src (by repeat constructor)) w hw)) ?_)
            refine rg_pure (by rfl) (by rfl) (pu_move) ?_
            refine rg_pure (by rfl) (by rfl) (pu_extract (by rfl) (by rfl)) ?_
            refine rg_pure (by rfl) (by rfl) (pu_extract (by rfl) (by rfl)) ?_
            refine rg_pure (by rfl) (by rfl) (pu_assignE (v := .int .i64 _) (by rfl)) ?_
            refine rg_pure (by rfl) (by rfl) (pu_assignE (v := .bool _) (by rfl)) ?_
            refine rg_nil ?_
            refine t_seq_draw 25 25 _ mixed (Sub.refl _) (by rfl) (by decide +kernel) ?_
            refine ra_pure0 0 1 rfl (by rfl) (by decide +kernel) (by rfl) (pu_moveE (v := .bool _) (by rfl)) ?_
            refine ra_pure0 1 3 rfl (by rfl) (by decide +kernel) (by rfl) (pu_not (by rfl)) ?_
            refine ra_pure0 2 7 rfl (by rfl) (by decide +kernel) (by rfl) (pu_moveE (v := .bool _) (by rfl)) ?_
            refine ra_gpure0 3 15 rfl (by rfl) (by rfl) (by rfl) (by decide +kernel) (by rfl) (fun hg => pu_moveE (v := .int .i64 _) (by rfl)) ?_
            refine ra_gpure0 4 31 rfl (by rfl) (by rfl) (by rfl) (by decide +kernel) (by rfl) (fun hg => pu_lss (gvE hg (by rfl)) (by rfl)) ?_
            refine ra_pure0 5 63 rfl (by rfl) (by decide +kernel) (by rfl) (pu_pickOr (by rfl) (by rfl)) ?_
            refine ra_pure0 6 127 rfl (by rfl) (by decide +kernel) (by rfl) (pu_moveE (v := .bool _) (by rfl)) ?_
            refine ra_gpure0 7 255 rfl (by rfl) (by rfl) (by rfl) (by decide +kernel) (by rfl) (fun hg => pu_moveE (v := .int .i64 _) (by rfl)) ?_
            refine ra_gpure0 8 511 rfl (by rfl) (by rfl) (by rfl) (by decide +kernel) (by rfl) (fun hg => pu_moveE (v := va) (by rfl)) ?_
            refine ra_gpure 9 1023 rfl (by rfl) (by rfl) (by rfl) (by decide +kernel) (by rfl) (fun hg => pu_len (gvE hg (by rfl)) (SrcE.src (by repeat constructor)) (by rfl) underlying22) ?_
            refine ra_gpure0 10 2047 rfl (by rfl) (by rfl) (by rfl) (by decide +kernel) (by rfl) (fun hg => pu_geq (gvE hg (by rfl)) (gvE hg (by rfl))) ?_
            refine ra_pure0 11 4095 rfl (by rfl) (by decide +kernel) (by rfl) (pu_pickOr (by rfl) (by rfl)) ?_
            refine ra_pure0 12 8191 rfl (by rfl) (by decide +kernel) (by rfl) (pu_moveE (v := .bool _) (by rfl)) ?_
            refine ra_gpure0 13 16383 rfl (by rfl) (by rfl) (by rfl) (by decide +kernel) (by rfl) (fun hg => pu_moveE (v := va) (by rfl)) ?_
            refine ra_gpure0 14 32767 rfl (by rfl) (by rfl) (by rfl) (by decide +kernel) (by rfl) (fun hg => pu_moveE (v := .int .i64 _) (by rfl)) ?_
            refine ra_gpure 15 65535 rfl (by rfl) (by rfl) (by rfl) (by decide +kernel) (by rfl) (fun hg => pu_index (gvE hg (by rfl)) (gvE hg (by rfl)) (SrcE.src (by repeat constructor)) underlying22 sizeOf49 (by omega)) ?_
            refine ra_gpure 16 131071 rfl (by rfl) (by rfl) (by rfl) (by decide +kernel) (by rfl) (fun hg => pu_fieldP (gvE hg (by rfl)) underlying49 (by rfl) sizeOf47 (by decide) (src_some (SrcE.src (by repeat constructor)) (by omega))) ?_
            refine ra_gpure 17 262143 rfl (by rfl) (by rfl) (by rfl) (by decide +kernel) (by rfl) (fun hg => pu_loadS (ds := u8s (A.getD ((findS A (l.getD k d0).1).1) d0).1) (gvE hg (by rfl)) isAgg47 sizeOf47 (SrcE.src (by repeat constructor)) (encEs_key hkA hf2) (u8s_len32 (hkA.at_ _)) (by decide)) ?_
            refine ra_gpure0 18 524287 rfl (by rfl) (by rfl) (by rfl) (by decide +kernel) (by rfl) (fun hg => pu_moveE (v := v) (by rfl)) ?_
            refine ra_gpure0 19 1048575 rfl (by rfl) (by rfl) (by rfl) (by decide +kernel) (by rfl) (fun hg => pu_moveE (v := .int .i64 _) (by rfl)) ?_
            refine ra_gpure 20 2097151 rfl (by rfl) (by rfl) (by rfl) (by decide +kernel) (by rfl) (fun hg => pu_index (gvE hg (by rfl)) (gvE hg (by rfl)) (SrcE.src (by repeat constructor)) underlying22 sizeOf49 (by omega)) ?_
            refine ra_gpure 21 4194303 rfl (by rfl) (by rfl) (by rfl) (by decide +kernel) (by rfl) (fun hg => pu_fieldP (gvE hg (by rfl)) underlying49 (by rfl) sizeOf47 (by decide) (src_some (SrcE.src (by repeat constructor)) (by omega))) ?_
            refine ra_gpure 22 8388607 rfl (by rfl) (by rfl) (by rfl) (by decide +kernel) (by rfl) (fun hg => pu_loadS (ds := u8s (l.getD (k) d0).1) (gvE hg (by rfl)) isAgg47 sizeOf47 (SrcE.src (by repeat constructor)) (encEs_key hk (by omega)) (u8s_len32 (hk.at_ _)) (by decide)) ?_
            refine ra_gpure 23 16777215 rfl (by rfl) (by rfl) (by rfl) (by decide +kernel) (by rfl) (fun hg => pu_neqInts (xs := (A.getD (findS A (l.getD k d0).1).1 d0).1) (ys := (l.getD k d0).1) (gvE hg (by rfl)) (gvE hg (by rfl)) underlying47 underlying5 info5 (by kernel_rfl) (hkA.at_ _) (hk.at_ _) eqGuardType47) ?_
            refine ra_pure0 24 33554431 rfl (by rfl) (by decide +kernel) (by rfl) (pu_pickOr (by rfl) (by rfl)) ?_
            refine ra_end (by decide +kernel) ?_
            refine t_cond (by rfl) (fun hc9 => ?_) (fun hc9 => ?_)
            ·
              exfalso
              have h9 : (!(findS A (l.getD k d0).1).2 || decide (((findS A (l.getD k d0).1).1 : Int) < 0) || decide ((A.length : Int) ≤ ((findS A (l.getD k d0).1).1 : Int)) || !((A.getD (findS A (l.getD k d0).1).1 d0).1 == (l.getD k d0).1)) = true := hc9
              rw [hf1, hf3, decide_eq_false (by omega), decide_eq_false (by omega)] at h9
              simp at h9
            ·
              refine t_skip ?_
              refine t_region ?_
              refine rg_pure (by rfl) (by rfl) (pu_moveE (v := .int .i64 _) (by rfl)) ?_
              refine rg_pure (by rfl) (by rfl) (pu_add64 (by rfl) (by rfl) (by omega)) ?_
              refine rg_pure (by rfl) (by rfl) (pu_assignE (v := .int .i64 _) (by rfl)) ?_
              refine rg_nil ?_
              exact ⟨k + 1, hk1, by show l.length - (k + 1) < l.length - k; omega, (by repeat (first | exact agree_nil | refine agree_cons (by rfl) ?_)), by repeat constructor⟩
          ·
            refine t_exit ?_
            refine t_seq_region ?_
            refine rg_pure (by rfl) (by rfl) (pu_moveE (v := va) (by rfl)) ?_
            refine rg_pure (by rfl) (by rfl) (pu_len (by rfl) (SrcE.src (by repeat constructor)) (by rfl) underlying22) ?_
            refine rg_pure (by rfl) (by rfl) (pu_moveE (v := v) (by rfl)) ?_
            refine rg_pure (by rfl) (by rfl) (pu_len (by rfl) (SrcE.src (by repeat constructor)) (by rfl) underlying22) ?_
            refine rg_pure (by rfl) (by rfl) (pu_leq (by rfl) (by rfl)) ?_
            refine rg_pure (by rfl) (by rfl) (pu_moveE (v := .bool _) (by rfl)) ?_
            refine rg_gcall (by rfl) (by rfl) (by rfl) (by rfl) (fun hg => lo_callFP call7 (by rfl) (fun w hw => wakes_c w)) ?_
            refine rg_pure (by rfl) (by rfl) (pu_pickAnd (by rfl) (by rfl)) ?_
            refine rg_pure (by rfl) (by rfl) (pu_assignE (v := .bool _) (by rfl)) ?_
            refine rg_nil ?_
            refine t_ret ?_
            exact Fin.ret (res1 rfl .tmp) (by show Value.bool (decide ((A.length : Int) ≤ (l.length : Int)) && true) = Value.bool true; rw [decide_eq_true (by have := hcA.len; rw [List.length_take] at this; omega)]; rfl)
end Go.Proofs.Ytpoecjeknolnoaa
