/- Walks of functions that the statements of this seat reach: what each one hands back. Conditions: those that each theorem names. -/
import Derived.Test.YtpoecjeknolnoaaA9
import Derived.Test.YtpoecjeknolnoaaProg
import Derived.KernelRfl
namespace Go.Proofs.Ytpoecjeknolnoaa
open Go.RowKit Go.Proofs.HL Go.Proofs.Try
set_option maxRecDepth 10000
set_option linter.unusedSimpArgs false
set_option linter.unusedVariables false
attribute [local irreducible] T RG RA Pu Lo
/-! ### A leaf's entries -/
def part36 (bs : List Int) (k : Nat) : List Int := (bs.drop (36 * k)).take 36
def entC (c : List Int) : En := (c.take 32, IntKind.i64.wrap (c.getD 32 0), IntKind.i64.wrap (c.getD 33 0),
  bits .or .i64 (IntKind.i64.wrap (IntKind.i64.wrap (c.getD 34 0) * 2 ^ (min (Int.toNat 8) IntKind.i64.bits))) (IntKind.i64.wrap (c.getD 35 0)))
def entAt (bs : List Int) (k : Nat) : En := entC (part36 bs k)
theorem part36_len {bs : List Int} {m k : Nat} (hb : bs.length = 36 * m) (hk : k < m) : (part36 bs k).length = 36 := by simp [part36]; omega
theorem part36_src {es : List Ent} {v : Value} {bs : List Int} {m k : Nat} (h : Src es v 1 (36 * m) (u8s bs)) (hk : k < m) : Src es (slV3 1 v (36 * k) (min (36 * k + 36) (36 * m)) (min (36 * k + 36) (36 * m))) 1 36 (u8s (part36 bs k)) := by
  have e : min (36 * k + 36) (36 * m) = 36 * k + 36 := by omega
  rw [e]
  have := src_cut3 h (l := 36 * k) (h := 36 * k + 36) (m := 36 * k + 36) (by omega) (Nat.le_refl _) (by omega)
  refine this.to (by omega) ?_
  simp only [u8s, part36, List.map_drop, List.map_take, Nat.mul_one, show 36 * k + 36 - 36 * k = 36 by omega]
theorem list_split {α : Type} {l : List α} {n : Nat} (h : l.length = n + 1) : ∃ a r, l = a :: r ∧ r.length = n := by
  cases l with
  | nil => cases h
  | cons a r => exact ⟨a, r, rfl, by simpa using h⟩
theorem built_entry (key : List Int) (h0 : key.length = 32) (p b r : Int) : prog.built 49 [(0, .agg (u8s key).toArray), (1, .int .i64 p), (2, .int .i64 b), (3, .int .i64 r)] = some (encE (key, p, b, r)).toArray := by
  obtain ⟨a0, key, rfl, h1⟩ := list_split h0
  obtain ⟨a1, key, rfl, h2⟩ := list_split h1
  obtain ⟨a2, key, rfl, h3⟩ := list_split h2
  obtain ⟨a3, key, rfl, h4⟩ := list_split h3
  obtain ⟨a4, key, rfl, h5⟩ := list_split h4
  obtain ⟨a5, key, rfl, h6⟩ := list_split h5
  obtain ⟨a6, key, rfl, h7⟩ := list_split h6
  obtain ⟨a7, key, rfl, h8⟩ := list_split h7
  obtain ⟨a8, key, rfl, h9⟩ := list_split h8
  obtain ⟨a9, key, rfl, h10⟩ := list_split h9
  obtain ⟨a10, key, rfl, h11⟩ := list_split h10
  obtain ⟨a11, key, rfl, h12⟩ := list_split h11
  obtain ⟨a12, key, rfl, h13⟩ := list_split h12
  obtain ⟨a13, key, rfl, h14⟩ := list_split h13
  obtain ⟨a14, key, rfl, h15⟩ := list_split h14
  obtain ⟨a15, key, rfl, h16⟩ := list_split h15
  obtain ⟨a16, key, rfl, h17⟩ := list_split h16
  obtain ⟨a17, key, rfl, h18⟩ := list_split h17
  obtain ⟨a18, key, rfl, h19⟩ := list_split h18
  obtain ⟨a19, key, rfl, h20⟩ := list_split h19
  obtain ⟨a20, key, rfl, h21⟩ := list_split h20
  obtain ⟨a21, key, rfl, h22⟩ := list_split h21
  obtain ⟨a22, key, rfl, h23⟩ := list_split h22
  obtain ⟨a23, key, rfl, h24⟩ := list_split h23
  obtain ⟨a24, key, rfl, h25⟩ := list_split h24
  obtain ⟨a25, key, rfl, h26⟩ := list_split h25
  obtain ⟨a26, key, rfl, h27⟩ := list_split h26
  obtain ⟨a27, key, rfl, h28⟩ := list_split h27
  obtain ⟨a28, key, rfl, h29⟩ := list_split h28
  obtain ⟨a29, key, rfl, h30⟩ := list_split h29
  obtain ⟨a30, key, rfl, h31⟩ := list_split h30
  obtain ⟨a31, key, rfl, h32⟩ := list_split h31
  obtain rfl := List.eq_nil_of_length_eq_zero h32
  kernel_rfl
theorem entries_c (v : Value) (hv : IsSl v) (w : World) : Calls prog 47 [v].toArray w (Ret [] w fun u w' => ∃ i : Nat, True ∧ u = .func (.func 61) #[] #[.pointer (some ⟨i, 0, none⟩)] ∧ Fresh w.heap.size [Ent.own i 45 [v]] w') := by
  refine hands_of_T (V := fun i : Nat => .func (.func 61) #[] #[.pointer (some ⟨i, 0, none⟩)]) (E := fun i => [Ent.own i 45 [v]]) func47 rfl 4 rfl rfl rfl [] (holds0 w) (fun _ => rfl) ?_
  refine t_seq_region ?_
  refine rg_loud (by rfl) (lo_box1 (v := v) (by rfl) (by rfl) hv.one (fun b0 hb0 => ?_))
  refine rg_pure (by rfl) (by rfl) (pu_assign) ?_
  refine rg_nil ?_
  refine t_seq_region ?_
  refine rg_pure (by rfl) (by rfl) (pu_makeFuncL) ?_
  refine rg_pure (by rfl) (by rfl) (pu_assign) ?_
  refine rg_nil ?_
  refine t_ret ?_
  exact Fin.ret (res1 rfl .tmp) ⟨b0, trivial, rfl, by repeat constructor⟩
theorem entriesIt_c (v : Value) (hv : IsSl v) (m : Nat) (hm : m ≤ 1000) (bs : List Int) (hbs : bs.length = 36 * m) (bC : Nat) : IterC prog 61 [.pointer (some ⟨bC, 0, none⟩)] (fun (k : Nat) => [.agg (encE (entAt bs k)).toArray]) (List.range m) [.fix bC 45 [v], .sl v 1 (36 * m) (u8s bs)] := by
  intro w0 M G l J Jx es hY hJ w hw
  refine calls_of_T (PE := fun _ es' => ∃ e1, es' = .fix bC 45 [v] :: .sl v 1 (36 * m) (u8s bs) :: e1 ∧ (J (List.range m) e1 ∨ Jx e1)) func61 rfl 36 rfl (Nat.le_of_ble_eq_true rfl) (by decide) (.fix bC 45 [v] :: .sl v 1 (36 * m) (u8s bs) :: es) hw ?_ (fun v es' w' hw' hp => by
    obtain ⟨e1, rfl, hp⟩ := hp
    exact ⟨v, rfl, e1, hp, hw'⟩)
  refine t_seq_region ?_
  refine rg_loud (by rfl) (lo_box1 (v := .func (.yield l) #[] #[]) (by rfl) (by rfl) (by rfl) (fun b0 hb0 => ?_))
  refine rg_nil ?_
  refine t_seq_region ?_
  refine rg_pure (by rfl) (by rfl) (pu_load1 (v := v) (by rfl) isAgg45 (HasE.has (by repeat constructor)) (by rfl)) ?_
  refine rg_loud (by rfl) (lo_callF (fun _ : Nat × Nat => True) (fun i => .func (.func 68) #[] #[.pointer (some ⟨i.1, 0, none⟩), .pointer (some ⟨i.2, 0, none⟩)]) (fun i => [.own i.1 45 [v], .own i.2 3 [.int .i64 36]]) call62 (by rfl) (fun w hw => chunkB_c v hv w) (fun i _ => ?_))
  refine rg_nil ?_
  show T _ _ _ _ _ _ _ (.own i.1 45 [v] :: .own i.2 3 [.int .i64 36] :: .own b0 75 [.func (.yield l) #[] #[]] :: .fix bC 45 [v] :: .sl v 1 (36 * m) (u8s bs) :: es) _
  refine t_dup (v := v) (sz := 1) (m := 36 * m) (xs := u8s bs) (by repeat constructor) ?_
  refine t_sub (s := .own i.1 45 [v] :: .own i.2 3 [.int .i64 36] :: .sl v 1 (36 * m) (u8s bs) :: .own b0 75 [.func (.yield l) #[] #[]] :: .fix bC 45 [v] :: .sl v 1 (36 * m) (u8s bs) :: es) (by repeat (first | exact Sub.refl _ | constructor | refine sub_skip ?_)) ?_
  refine t_block ?_
  refine t_rangeFunc (ms := []) (cap := [.pointer (some ⟨i.1, 0, none⟩), .pointer (some ⟨i.2, 0, none⟩)]) (List.range m) (fun (k : Nat) => [slV3 1 v (36 * k) (min (36 * k + 36) (36 * m)) (min (36 * k + 36) (36 * m))])
    (fun pre e1 => ∃ eo, e1 = .own b0 75 [.func (.yield l) #[] #[]] :: .fix bC 45 [v] :: .sl v 1 (36 * m) (u8s bs) :: eo ∧ J pre eo) (fun c e1 => c = .ret ∧ ∃ eo, e1 = .own b0 75 [.func (.yield l) #[] #[]] :: .fix bC 45 [v] :: .sl v 1 (36 * m) (u8s bs) :: eo ∧ Jx eo)
    (by rfl) call68 (.cons (.cons (.cons .nil))) (chunkBIt_c v (36 * m) m (by omega) (by omega) (u8s bs) i.1 i.2) (fun _ => rfl) (by decide) (by rfl) ⟨es, rfl, hJ⟩ (fun l2 pre x es2 hJ2 hpre => ?_) (fun es2 mb hJ2 => ?_) (fun c es2 mb hj2 => ?_)
  ·
    obtain ⟨eo, rfl, hJo⟩ := hJ2
    have hx : x < m := List.mem_range.1 (hpre.subset (by simp))
    refine t_region ?_
    refine rg_pure (by rfl) (by rfl) (pu_assignE (v := slV3 1 v (36 * x) (min (36 * x + 36) (36 * m)) (min (36 * x + 36) (36 * m))) (by rfl)) ?_
    refine rg_nil ?_
    refine t_block ?_
    refine t_seq_region ?_
    refine rg_pure (by rfl) (by rfl) (pu_moveE (v := slV3 1 v (36 * x) (min (36 * x + 36) (36 * m)) (min (36 * x + 36) (36 * m))) (by rfl)) ?_
    refine rg_pure (by rfl) (by rfl) (pu_slice (l := 32) (h := 36) (by rfl) (part36_src (SrcE.src (by repeat constructor)) hx) underlying45 sizeOf5 (bv_some (by rfl)) bv_none (by decide) (by decide)) ?_
    refine rg_pure (by rfl) (by rfl) (pu_assign) ?_
    refine rg_nil ?_
    refine t_seq_draw 26 26 [.own b0 75 [.func (.yield l) #[] #[]], .fix bC 45 [v], .sl v 1 (36 * m) (u8s bs)] mixed (by repeat constructor) (by rfl) (by decide +kernel) ?_
    refine ra_pure 0 1 rfl (by rfl) (by decide +kernel) (by rfl) (pu_load1 (v := .func (.yield l) #[] #[]) (by rfl) isAgg75 (HasE.has (by repeat constructor)) (by rfl)) ?_
    refine ra_pure0 1 3 rfl (by rfl) (by decide +kernel) (by rfl) (pu_moveE (v := slV3 1 v (36 * x) (min (36 * x + 36) (36 * m)) (min (36 * x + 36) (36 * m))) (by rfl)) ?_
    refine ra_pure 2 7 rfl (by rfl) (by decide +kernel) (by rfl) (pu_slice (l := 0) (h := 32) (by rfl) (part36_src (SrcE.src (by repeat constructor)) hx) underlying45 sizeOf5 bv_none (bv_some (by rfl)) (by decide) (by decide)) ?_
    refine ra_pure 3 15 rfl (by rfl) (by decide +kernel) (by rfl) (pu_arrPtr (by rfl) (src_cut (part36_src (SrcE.src (by repeat constructor)) hx) (l := 0) (h := 32) (by decide) (by decide)) underlying47 (by decide)) ?_
    refine ra_pure 4 31 rfl (by rfl) (by decide +kernel) (by rfl) (pu_loadS (ds := u8s ((part36 bs x).take 32)) (by rfl) isAgg47 sizeOf47 (src_cut (part36_src (SrcE.src (by repeat constructor)) hx) (l := 0) (h := 32) (by decide) (by decide)) (by simp [u8s, List.map_take, List.take_take]) (by simp only [u8s_len, List.length_take, (part36_len hbs hx)]; decide) (by decide)) ?_
    refine ra_pure0 5 63 rfl (by rfl) (by decide +kernel) (by rfl) (pu_moveE (v := slV 1 (slV3 1 v (36 * x) (min (36 * x + 36) (36 * m)) (min (36 * x + 36) (36 * m))) 32 36) (by rfl)) ?_
    refine ra_pure 6 127 rfl (by rfl) (by decide +kernel) (by rfl) (pu_index1 (by rfl) (by rfl) (src_cut (part36_src (SrcE.src (by repeat constructor)) hx) (l := 32) (h := 36) (by decide) (by decide)) underlying45 sizeOf5 (by decide)) ?_
    refine ra_pure 7 255 rfl (by rfl) (by decide +kernel) (by rfl) (pu_load1S (u := .int .u8 ((part36 bs x).getD (32 + 0) 0)) (by rfl) isAgg5 (src_cut (part36_src (SrcE.src (by repeat constructor)) hx) (l := 32) (h := 36) (by decide) (by decide)) (u8s_cut (by decide) (by rw [(part36_len hbs hx)]; decide))) ?_
    refine ra_pure0 8 511 rfl (by rfl) (by decide +kernel) (by rfl) (pu_conv (by rfl) underlying5 underlying3 (by rfl)) ?_
    refine ra_pure0 9 1023 rfl (by rfl) (by decide +kernel) (by rfl) (pu_moveE (v := slV 1 (slV3 1 v (36 * x) (min (36 * x + 36) (36 * m)) (min (36 * x + 36) (36 * m))) 32 36) (by rfl)) ?_
    refine ra_pure 10 2047 rfl (by rfl) (by decide +kernel) (by rfl) (pu_index1 (by rfl) (by rfl) (src_cut (part36_src (SrcE.src (by repeat constructor)) hx) (l := 32) (h := 36) (by decide) (by decide)) underlying45 sizeOf5 (by decide)) ?_
    refine ra_pure 11 4095 rfl (by rfl) (by decide +kernel) (by rfl) (pu_load1S (u := .int .u8 ((part36 bs x).getD (32 + 1) 0)) (by rfl) isAgg5 (src_cut (part36_src (SrcE.src (by repeat constructor)) hx) (l := 32) (h := 36) (by decide) (by decide)) (u8s_cut (by decide) (by rw [(part36_len hbs hx)]; decide))) ?_
    refine ra_pure0 12 8191 rfl (by rfl) (by decide +kernel) (by rfl) (pu_conv (by rfl) underlying5 underlying3 (by rfl)) ?_
    refine ra_pure0 13 16383 rfl (by rfl) (by decide +kernel) (by rfl) (pu_moveE (v := slV 1 (slV3 1 v (36 * x) (min (36 * x + 36) (36 * m)) (min (36 * x + 36) (36 * m))) 32 36) (by rfl)) ?_
    refine ra_pure 14 32767 rfl (by rfl) (by decide +kernel) (by rfl) (pu_index1 (by rfl) (by rfl) (src_cut (part36_src (SrcE.src (by repeat constructor)) hx) (l := 32) (h := 36) (by decide) (by decide)) underlying45 sizeOf5 (by decide)) ?_
    refine ra_pure 15 65535 rfl (by rfl) (by decide +kernel) (by rfl) (pu_load1S (u := .int .u8 ((part36 bs x).getD (32 + 2) 0)) (by rfl) isAgg5 (src_cut (part36_src (SrcE.src (by repeat constructor)) hx) (l := 32) (h := 36) (by decide) (by decide)) (u8s_cut (by decide) (by rw [(part36_len hbs hx)]; decide))) ?_
    refine ra_pure0 16 131071 rfl (by rfl) (by decide +kernel) (by rfl) (pu_conv (by rfl) underlying5 underlying3 (by rfl)) ?_
    refine ra_pure0 17 262143 rfl (by rfl) (by decide +kernel) (by rfl) (pu_shl (by rfl) (by rfl) (by decide)) ?_
    refine ra_pure0 18 524287 rfl (by rfl) (by decide +kernel) (by rfl) (pu_moveE (v := slV 1 (slV3 1 v (36 * x) (min (36 * x + 36) (36 * m)) (min (36 * x + 36) (36 * m))) 32 36) (by rfl)) ?_
    refine ra_pure 19 1048575 rfl (by rfl) (by decide +kernel) (by rfl) (pu_index1 (by rfl) (by rfl) (src_cut (part36_src (SrcE.src (by repeat constructor)) hx) (l := 32) (h := 36) (by decide) (by decide)) underlying45 sizeOf5 (by decide)) ?_
    refine ra_pure 20 2097151 rfl (by rfl) (by decide +kernel) (by rfl) (pu_load1S (u := .int .u8 ((part36 bs x).getD (32 + 3) 0)) (by rfl) isAgg5 (src_cut (part36_src (SrcE.src (by repeat constructor)) hx) (l := 32) (h := 36) (by decide) (by decide)) (u8s_cut (by decide) (by rw [(part36_len hbs hx)]; decide))) ?_
    refine ra_pure0 21 4194303 rfl (by rfl) (by decide +kernel) (by rfl) (pu_conv (by rfl) underlying5 underlying3 (by rfl)) ?_
    refine ra_pure0 22 8388607 rfl (by rfl) (by decide +kernel) (by rfl) (pu_or (by rfl) (by rfl)) ?_
    refine ra_pure0 23 16777215 rfl (by rfl) (by decide +kernel) (by rfl) (pu_build (cells := (encE (entAt bs x)).toArray) (built_entry _ (by simp only [List.length_take, (part36_len hbs hx)]; decide) _ _ _)) ?_
    refine ra_next 24 33554431 (by decide +kernel) ?_
    refine next_loud rfl (by rfl) (lo_yield (I := [.own b0 75 [.func (.yield l) #[] #[]], .fix bC 45 [v], .sl v 1 (36 * m) (u8s bs)]) (by rfl) (by rfl) (.cons (.cons (.cons .nil))) (hY pre x eo hJo hpre) (fun yb e2 hyb => ⟨(fun _ => (by repeat constructor)), ?_⟩))
    refine ra_pure0 25 67108863 rfl (by rfl) (by decide +kernel) (by rfl) (pu_not (by rfl)) ?_
    refine ra_end (by decide +kernel) ?_
    refine t_cond (by rfl) (fun hc0 => ?_) (fun hc0 => ?_)
    ·
      have hj : Jx e2 := by
        rcases hyb with ⟨h, _⟩ | ⟨_, h⟩
        · rw [h] at hc0; cases hc0
        · exact h
      refine t_ret ?_
      exact ⟨rfl, e2, rfl, hj⟩
    ·
      have hj : J (pre ++ [x]) e2 := by
        rcases hyb with ⟨_, h⟩ | ⟨h, _⟩
        · exact h
        · rw [h] at hc0; cases hc0
      refine t_skip ?_
      exact ⟨e2, rfl, hj⟩
  ·
    obtain ⟨eo, rfl, hJo⟩ := hJ2
    exact Fin.normalM [mb] (es' := .fix bC 45 [v] :: .sl v 1 (36 * m) (u8s bs) :: eo) (res0 rfl) (by show Sub (.mk mb :: .own i.1 45 [v] :: .own i.2 3 [.int .i64 36] :: .sl v 1 (36 * m) (u8s bs) :: .own b0 75 [.func (.yield l) #[] #[]] :: .fix bC 45 [v] :: .sl v 1 (36 * m) (u8s bs) :: eo) (.mk mb :: .fix bC 45 [v] :: .sl v 1 (36 * m) (u8s bs) :: eo); repeat (first | exact Sub.refl _ | constructor | refine sub_skip ?_)) ⟨eo, rfl, .inl hJo⟩
  ·
    obtain ⟨rfl, eo, rfl, hJo⟩ := hj2
    refine t_ret ?_
    exact Fin.retM [mb] (es' := .fix bC 45 [v] :: .sl v 1 (36 * m) (u8s bs) :: eo) (res0 rfl) (by show Sub (.mk mb :: .own i.1 45 [v] :: .own i.2 3 [.int .i64 36] :: .sl v 1 (36 * m) (u8s bs) :: .own b0 75 [.func (.yield l) #[] #[]] :: .fix bC 45 [v] :: .sl v 1 (36 * m) (u8s bs) :: eo) (.mk mb :: .fix bC 45 [v] :: .sl v 1 (36 * m) (u8s bs) :: eo); repeat (first | exact Sub.refl _ | constructor | refine sub_skip ?_)) ⟨eo, rfl, .inr hJo⟩
def entsS (bs : List Int) (m : Nat) : List En := (List.range m).map (entAt bs)
theorem appendSeq_c (v : Value) (m : Nat) (hm : m ≤ 1000) (bs : List Int) (hbs : bs.length = 36 * m) (bC : Nat) (w : World) (hC : w.heap[bC]? = some (.cells #[v] 45 (0, 0))) (hv : Sl w v 1 (36 * m) (u8s bs)) :
    Calls prog 60 [.slice none 0 0, .func (.func 61) #[] #[.pointer (some ⟨bC, 0, none⟩)]].toArray w (Ret [] w fun u w' => ∃ i : Value, True ∧ u = i ∧ Fresh w.heap.size [Ent.row 49 35 i m (encEs (entsS bs m))] w') := by
  have hv1 := hv.isSl
  refine hands_of_T func60 rfl 13 rfl rfl rfl [.fix bC 45 [v], .sl v 1 (36 * m) (u8s bs)] (((holds0 w).addSl hv (by decide)).addFix (cs := [v]) hC) (fun _ => rfl) ?_
  refine t_seq_region ?_
  refine rg_loud (by rfl) (lo_box1 (v := .slice none 0 0) (by rfl) (by rfl) (by rfl) (fun b0 hb0 => ?_))
  refine rg_pure (by rfl) (by rfl) (pu_assign) ?_
  refine rg_nil ?_
  refine t_seq ?_
  refine t_row_nil 49 35 ?_
  refine t_seq_region ?_
  refine rg_pure (by rfl) (by rfl) (pu_moveE (v := .func (.func 61) #[] #[.pointer (some ⟨bC, 0, none⟩)]) (by rfl)) ?_
  refine rg_nil ?_
  refine t_sub (s := [.fix bC 45 [v], .sl v 1 (36 * m) (u8s bs), .own b0 22 [.slice none 0 0], .row 49 35 (.slice none 0 0) 0 []]) (by repeat constructor) ?_
  refine t_block ?_
  refine t_rangeFunc (ms := []) (cap := [.pointer (some ⟨bC, 0, none⟩)]) (List.range m) (fun (k : Nat) => [.agg (encE (entAt bs k)).toArray])
    (fun pre e1 => ∃ u, HL.Sub e1 [.own b0 22 [u], .row 49 35 u pre.length (encEs (pre.map (entAt bs)))]) (fun _ _ => False)
    (by rfl) call61 (.cons (.cons .nil)) (entriesIt_c v hv1 m hm bs hbs bC) (fun _ => rfl) (by decide) (by rfl) ⟨_, Sub.refl _⟩ (fun l2 pre x es2 hJ2 hpre => ?_) (fun es2 mb hJ2 => ?_) (fun c es2 mb hj2 => ?_)
  ·
    obtain ⟨u, hsub⟩ := hJ2
    refine t_sub hsub ?_
    have hx : x < m := List.mem_range.1 (hpre.subset (by simp))
    have hpl : pre.length < m := by have := hpre.length_le; simp at this; omega
    have hkx : (entAt bs x).1.length = 32 := by simp [entAt, entC, part36_len hbs hx]
    refine t_region ?_
    refine rg_loud (by rfl) (lo_alloc (cs := _) (by rfl) zeroValue49 (by rfl) (fun b1 hb1 => ?_))
    refine rg_loud (by rfl) (lo_storeV (vs := encE (entAt bs x)) (by rfl) (by rfl) (by rfl) (by repeat constructor) sizeOf49 (by first | (simp only [u8s_len, u32s_len, i64s_len, List.length_replicate, List.length_set, encE_len, sumS_len, checkS_len, *]; done) | rfl) (one_encE _) (by first | (simp only [u8s_len, u32s_len, i64s_len, List.length_replicate, List.length_set, encE_len, sumS_len, checkS_len, *]; done) | rfl) ?_)
    refine rg_nil ?_
    refine t_block ?_
    refine t_region ?_
    refine rg_pure (by rfl) (by rfl) (pu_load1 (v := u) (by rfl) isAgg22 (HasE.has (by repeat constructor)) (by rfl)) ?_
    refine rg_pure (by rfl) (by rfl) (pu_loadAll (by rfl) isAgg49 sizeOf49 (HasE.has (by repeat constructor)) (encE_len hkx)) ?_
    refine rg_loud (by rfl) (lo_buildOne (v := .agg (encE (entAt bs x)).toArray) (cs := encE (entAt bs x)) (by rfl) underlying22 sizeOf49 (by decide) zeroValue49 (by rfl) (by rfl) (by rfl) (encE_len hkx) (fun b2 hb2 => ?_))
    refine rg_loud (by rfl) (lo_appendE (xs' := encEs ((pre ++ [x]).map (entAt bs))) (k' := (pre ++ [x]).length) elemOk22 (by rfl) (by rfl) (by rfl) (by repeat constructor) (SrcE.src (by repeat constructor)) (one_encE _) (by omega) (by simp) (by simp [encEs]) (fun v3 => ?_))
    refine rg_isSl v3 (SrcE.src (by repeat constructor)) (fun hv3 => ?_)
    refine rg_loud (by rfl) (lo_store1 (v := v3) (by rfl) (by rfl) (by rfl) (by repeat constructor) sizeOf22 hv3.one Nat.zero_lt_one ?_)
    refine rg_nil ?_
    exact ⟨v3, by repeat constructor⟩
  ·
    obtain ⟨u, hsub⟩ := hJ2
    refine t_sub (s := [.mk mb, .own b0 22 [u], .row 49 35 u (List.range m).length (encEs ((List.range m).map (entAt bs)))]) (.cons .here (sub_skip (sub_skip hsub))) ?_
    refine t_seq_region ?_
    refine rg_pure (by rfl) (by rfl) (pu_load1 (v := u) (by rfl) isAgg22 (HasE.has (by repeat constructor)) (by rfl)) ?_
    refine rg_pure (by rfl) (by rfl) (pu_assign) ?_
    refine rg_nil ?_
    refine t_ret ?_
    exact Fin.retM [mb] (es' := [.row 49 35 u m (encEs (entsS bs m))]) (res1 rfl .tmp) (by simp only [List.length_range, entsS, List.map_cons, List.map_nil, List.cons_append, List.nil_append]; repeat (first | exact Sub.refl _ | constructor | refine sub_skip ?_)) ⟨u, trivial, rfl, Sub.refl _⟩
  ·
    exact hj2.elim
theorem collect_c (v : Value) (m : Nat) (hm : m ≤ 1000) (bs : List Int) (hbs : bs.length = 36 * m) (bC : Nat) (w : World) (hC : w.heap[bC]? = some (.cells #[v] 45 (0, 0))) (hv : Sl w v 1 (36 * m) (u8s bs)) :
    Calls prog 46 [.func (.func 61) #[] #[.pointer (some ⟨bC, 0, none⟩)]].toArray w (Ret [] w fun u w' => ∃ i : Value, True ∧ u = i ∧ Fresh w.heap.size [Ent.row 49 35 i m (encEs (entsS bs m))] w') := by
  refine hands_of_T func46 rfl 5 rfl rfl rfl [.fix bC 45 [v], .sl v 1 (36 * m) (u8s bs)] (((holds0 w).addSl hv (by decide)).addFix (cs := [v]) hC) (fun _ => rfl) ?_
  refine t_seq_region ?_
  refine rg_pure (by rfl) (by rfl) (pu_assign) ?_
  refine rg_nil ?_
  refine t_seq_region ?_
  refine rg_pure (by rfl) (by rfl) (pu_moveE (v := .func (.func 61) #[] #[.pointer (some ⟨bC, 0, none⟩)]) (by rfl)) ?_
  refine rg_loud (by rfl) (lo_callR (E := fun u => .row 49 35 u m (encEs (entsS bs m))) call60 (by rfl) (fun w hw => appendSeq_c v m hm bs hbs bC w (hw _ (.head _)) ((SrcE.src (by repeat constructor)) w hw)) (fun v1 => ?_))
  refine rg_pure (by rfl) (by rfl) (pu_assign) ?_
  refine rg_nil ?_
  refine t_ret ?_
  exact Fin.ret (res1 rfl .tmp) ⟨v1, trivial, rfl, by repeat constructor⟩
end Go.Proofs.Ytpoecjeknolnoaa
