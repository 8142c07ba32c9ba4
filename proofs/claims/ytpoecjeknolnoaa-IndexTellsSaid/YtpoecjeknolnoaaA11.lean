/- Walks of functions that the statements of this seat reach: what each one hands back. Conditions: those that each theorem names. -/
import Derived.Test.YtpoecjeknolnoaaA10
import Derived.Test.YtpoecjeknolnoaaProg
import Derived.KernelRfl
namespace Go.Proofs.Ytpoecjeknolnoaa
open Go.RowKit Go.Proofs.HL Go.Proofs.Try
set_option maxRecDepth 10000
set_option linter.unusedSimpArgs false
set_option linter.unusedVariables false
attribute [local irreducible] T RG RA Pu Lo
/-! ### Blocks -/
def z128 : List Int := List.replicate 128 0
def BOk (b : List Int) : Prop := b.length = 128 ∧ ∀ x ∈ b, 0 ≤ x ∧ x < 256
def BsOk (l : List (List Int)) : Prop := ∀ b ∈ l, BOk b
def encBs (l : List (List Int)) : List Value := l.flatMap u8s
theorem z128_ok : BOk z128 := ⟨by simp [z128], fun x hx => by rw [(List.mem_replicate.1 hx).2]; decide⟩
theorem BsOk.ok {l : List (List Int)} (h : BsOk l) (i : Nat) : BOk (l.getD i z128) := by
  rw [List.getD_eq_getElem?_getD]
  by_cases hi : i < l.length
  · rw [List.getElem?_eq_getElem hi]; exact h _ (List.getElem_mem hi)
  · rw [List.getElem?_eq_none (by omega)]; exact z128_ok
theorem flat_len {α : Type} (F : α → List Value) (c : Nat) : ∀ (l : List α), (∀ a ∈ l, (F a).length = c) → (l.flatMap F).length = l.length * c
  | [], _ => by simp
  | a :: l, h => by
    have ih := flat_len F c l (fun x hx => h x (by simp [hx]))
    have := h a (by simp)
    rw [List.flatMap_cons, List.length_append, ih, this, List.length_cons, Nat.add_mul, Nat.one_mul, Nat.add_comm]
theorem flat_drop {α : Type} (F : α → List Value) (c : Nat) : ∀ (l : List α) (i : Nat), (∀ a ∈ l, (F a).length = c) → (l.flatMap F).drop (i * c) = (l.drop i).flatMap F
  | [], i, _ => by simp
  | a :: l, 0, _ => by simp
  | a :: l, i + 1, h => by
    have ih := flat_drop F c l i (fun x hx => h x (by simp [hx]))
    have := h a (by simp)
    have e : (i + 1) * c = c + i * c := by rw [Nat.add_mul, Nat.one_mul, Nat.add_comm]
    rw [List.flatMap_cons, e, ← List.drop_drop, List.drop_left' this, ih]
    rfl
theorem flat_take {α : Type} (F : α → List Value) (c : Nat) : ∀ (l : List α) (i : Nat), (∀ a ∈ l, (F a).length = c) → (l.flatMap F).take (i * c) = (l.take i).flatMap F
  | [], i, _ => by simp
  | a :: l, 0, _ => by simp
  | a :: l, i + 1, h => by
    have ih := flat_take F c l i (fun x hx => h x (by simp [hx]))
    have := h a (by simp)
    rw [List.flatMap_cons, List.take_succ_cons, List.flatMap_cons, Nat.add_mul, Nat.one_mul, List.take_append, List.take_of_length_le (by omega), this, show i * c + c - c = i * c by omega, ih]
theorem flat_at {α : Type} (F : α → List Value) (c : Nat) (l : List α) (i : Nat) (d : α) (h : ∀ a ∈ l, (F a).length = c) (hi : i < l.length) : ((l.flatMap F).drop (i * c)).take c = F (l.getD i d) := by
  rw [flat_drop F c l i h, List.drop_eq_getElem_cons hi, List.flatMap_cons, List.take_append_of_le_length (by have := h _ (List.getElem_mem hi); omega), List.take_of_length_le (by have := h _ (List.getElem_mem hi); omega)]
  simp [hi]
theorem encBs_at {l : List (List Int)} {i : Nat} (h : BsOk l) (hi : i < l.length) : ((encBs l).drop (i * 128)).take 128 = u8s (l.getD i z128) :=
  flat_at u8s 128 l i z128 (fun a ha => by rw [u8s_len]; exact (h a ha).1) hi
theorem encBs_take {l : List (List Int)} (i : Nat) (h : BsOk l) : (encBs l).take (i * 128) = encBs (l.take i) := flat_take u8s 128 l i (fun a ha => by rw [u8s_len]; exact (h a ha).1)
theorem encBs_len {l : List (List Int)} (h : BsOk l) : (encBs l).length = l.length * 128 := flat_len u8s 128 l (fun a ha => by rw [u8s_len]; exact (h a ha).1)
theorem one_encBs (l : List (List Int)) : ∀ u ∈ encBs l, u.oneCell' = true := fun u hu => by
  obtain ⟨b, _, h⟩ := List.mem_flatMap.1 hu
  exact one_u8s b u h
theorem wrap64_R (x : Int) : R64 (IntKind.i64.wrap x) := by
  rw [IntKind.wrap_i64]; constructor <;> omega
theorem bits64_R (b : BinOp) (x y : Int) : R64 (bits b .i64 x y) := wrap64_R _
/-- How many entries a leaf says that it has. -/
def cntS (b : List Int) : Nat := (IntKind.i64.wrap (b.getD 1 0)).toNat
def leafOf (b : List Int) : List En := entsS ((b.drop 2).take (36 * cntS b)) (cntS b)
def decS (b : List Int) : List En × Int :=
  if 3 < cntS b then ([], 11) else if (encS (leafOf b)).2 != 0 || !((encS (leafOf b)).1 == b) then ([], 11) else (leafOf b, 0)
theorem cnt_eq {b : List Int} (h : BOk b) : IntKind.i64.wrap (b.getD 1 0) = (cntS b : Int) := by
  have hm : b.getD 1 0 ∈ b := by
    rw [List.getD_eq_getElem?_getD, List.getElem?_eq_getElem (by rw [h.1]; decide)]
    exact List.getElem_mem _
  have := h.2 _ hm
  unfold cntS
  rw [IntKind.wrap_i64]
  omega
theorem entC_ok {c : List Int} (hc : c.length = 36) (hb : ∀ x ∈ c, 0 ≤ x ∧ x < 256) : EOk (entC c) := by
  unfold entC
  refine ⟨?_, fun x hx => hb x (List.mem_of_mem_take hx), ?_, ?_, ?_⟩
  · show (c.take 32).length = 32
    rw [List.length_take]; omega
  · exact wrap64_R (c.getD 32 0)
  · exact wrap64_R (c.getD 33 0)
  · exact bits64_R .or _ _
theorem entsS_ok {bs : List Int} {m : Nat} (hl : bs.length = 36 * m) (hb : ∀ x ∈ bs, 0 ≤ x ∧ x < 256) : KeysOk (entsS bs m) := fun e he => by
  obtain ⟨k, hk, rfl⟩ := List.mem_map.1 he
  exact entC_ok (part36_len hl (List.mem_range.1 hk)) (fun x hx => hb x (List.mem_of_mem_drop (List.mem_of_mem_take hx)))
theorem leafOf_ok {b : List Int} (h : BOk b) (h3 : cntS b ≤ 3) : KeysOk (leafOf b) :=
  entsS_ok (by simp [h.1]; omega) (fun x hx => h.2 x (List.mem_of_mem_drop (List.mem_of_mem_take hx)))
theorem leafOf_len (b : List Int) : (leafOf b).length = cntS b := by simp [leafOf, entsS]
theorem encS_len {l : List En} (hk : KeysOk l) : (encS l).1.length = 128 := by
  rw [encS]
  split
  · rename_i h
    exact sealS_len (by rw [leafB_len hk _ (Nat.le_refl _)]; have := leafGood_len h; omega)
  · simp
theorem info5 : prog.info? 5 = some (prog.types[5]'(by decide +kernel)) := by kernel_rfl
theorem dec_c (b : List Int) (hb : BOk b) (w : World) : Calls prog 29 [.agg (u8s b).toArray].toArray w (Ret [] w fun u w' => ∃ i : Value, True ∧ u = .tuple #[i, .int .i64 (decS b).2] ∧ Fresh w.heap.size [Ent.row 49 35 i (decS b).1.length (encEs (decS b).1)] w') := by
  refine hands_of_T (V := fun i : Value => .tuple #[i, .int .i64 (decS b).2]) (E := fun i => [Ent.row 49 35 i (decS b).1.length (encEs (decS b).1)]) func29 rfl 32 rfl rfl rfl [] (holds0 w) (fun _ => rfl) ?_
  refine t_seq_region ?_
  refine rg_loud (by rfl) (lo_boxA (by rfl) (by rfl) (fun b0 hb0 => ?_))
  refine rg_pure (by rfl) (by rfl) (pu_assign) ?_
  refine rg_pure (by rfl) (by rfl) (pu_assignE (v := .int .i64 _) (by rfl)) ?_
  refine rg_nil ?_
  refine t_seq_region ?_
  refine rg_pure (by rfl) (by rfl) (pu_indexArr1 (by rfl) (by rfl) underlying43 sizeOf5 (by omega)) ?_
  refine rg_pure (by rfl) (by rfl) (pu_load1 (by rfl) isAgg5 (HasE.has (by repeat constructor)) (u8s_get (by rw [hb.1]; decide))) ?_
  refine rg_pure (by rfl) (by rfl) (pu_conv (by rfl) underlying5 underlying3 (cnt_eq hb)) ?_
  refine rg_pure (by rfl) (by rfl) (pu_assignE (v := .int .i64 _) (by rfl)) ?_
  refine rg_nil ?_
  refine t_seq ?_
  refine t_seq_region ?_
  refine rg_pure (by rfl) (by rfl) (pu_moveE (v := .int .i64 _) (by rfl)) ?_
  refine rg_pure (by rfl) (by rfl) (pu_gtr (by rfl) (by rfl)) ?_
  refine rg_nil ?_
  refine t_cond (by rfl) (fun hc0 => ?_) (fun hc0 => ?_)
  ·
    have hbad : decS b = ([], 11) := by rw [decS, if_pos (by simp at hc0; omega)]
    refine t_row_nil 49 35 ?_
    refine t_seq_region ?_
    refine rg_pure (by rfl) (by rfl) (pu_assign) ?_
    refine rg_pure (by rfl) (by rfl) (pu_assignE (v := .int .i64 _) (by rfl)) ?_
    refine rg_nil ?_
    refine t_ret ?_
    exact Fin.ret (res2 rfl .tmp .tmp) ⟨.slice none 0 0, trivial, by rw [hbad]; rfl, by rw [hbad]; repeat constructor⟩
  ·
    have h3 : cntS b ≤ 3 := by simp at hc0; omega
    have hlk := leafOf_ok hb h3
    have hll := leafOf_len b
    have hel := encS_len hlk
    refine t_skip ?_
    refine t_seq_region ?_
    refine rg_pure (by rfl) (by rfl) (pu_moveE (v := .int .i64 _) (by rfl)) ?_
    refine rg_pure (by rfl) (by rfl) (pu_mul64 (by rfl) (by rfl) (by omega)) ?_
    refine rg_pure (by rfl) (by rfl) (pu_add64 (by rfl) (by rfl) (by omega)) ?_
    refine rg_pure (by rfl) (by rfl) (pu_sliceArr (l := 2) (h := 2 + 36 * cntS b) (by rfl) underlying43 sizeOf5 (bv_some (by rfl)) (bv_some (by omega)) (by omega) (by omega) (by decide)) ?_
    refine rg_loud (by rfl) (lo_callF (fun _ : Nat => True) (fun i => .func (.func 61) #[] #[.pointer (some ⟨i, 0, none⟩)]) (fun i => [.own i 45 [(.slice (some ⟨b0, 2, none⟩) (2 + 36 * cntS b - 2) 126)]]) call47 (by rfl) (fun w hw => entries_c (.slice (some ⟨b0, 2, none⟩) (2 + 36 * cntS b - 2) 126) ⟨_, _, _, rfl⟩ w) (fun i _ => ?_))
    refine rg_loud (by rfl) (lo_callR (E := fun u => .row 49 35 u (cntS b) (encEs (leafOf b))) call46 (by rfl) (fun w hw => collect_c (.slice (some ⟨b0, 2, none⟩) (2 + 36 * cntS b - 2) 126) (cntS b) (by omega) ((b.drop 2).take (36 * cntS b)) (by simp [hb.1]; omega) i w (hw _ (.head _)) (((src_has (off := 2) (m := 2 + 36 * cntS b - 2) (c := 126) (sz := 1) (HasE.has (by repeat constructor)) (by rw [u8s_len, hb.1]; omega) (by omega) (by decide)).to (by omega) (by rw [show 2 + 36 * cntS b - 2 = 36 * cntS b by omega, Nat.mul_one]; simp only [u8s, List.map_drop, List.map_take])) w hw)) (fun v1 => ?_))
    refine rg_pure (by rfl) (by rfl) (pu_assignE (v := v1) (by rfl)) ?_
    refine rg_nil ?_
    refine t_sub (s := [.row 49 35 v1 (cntS b) (encEs (leafOf b)), .own b0 43 (u8s b)]) (by repeat constructor) ?_
    refine t_seq ?_
    refine t_seq_region ?_
    refine rg_pure (by rfl) (by rfl) (pu_moveE (v := v1) (by rfl)) ?_
    refine rg_loud (by rfl) (lo_callFQ call25 (by rfl) (fun w hw => enc_c v1 (leafOf b) hlk w (((SrcE.src (by repeat constructor)).to hll.symm rfl) w hw)) ?_)
    refine rg_pure (by rfl) (by rfl) (pu_move) ?_
    refine rg_pure (by rfl) (by rfl) (pu_extract (by rfl) (by rfl)) ?_
    refine rg_pure (by rfl) (by rfl) (pu_extract (by rfl) (by rfl)) ?_
    refine rg_loud (by rfl) (lo_alloc (cs := u8s (List.replicate 128 0)) (by rfl) zeroValue43 (by rfl) (fun b1 hb1 => ?_))
    refine rg_loud (by rfl) (lo_storeV (vs := u8s (encS (leafOf b)).1) (by rfl) (by rfl) (by rfl) (by repeat constructor) sizeOf43 (by first | (simp only [u8s_len, u32s_len, i64s_len, List.length_replicate, List.length_set, encE_len, sumS_len, checkS_len, *]; done) | rfl) (one_u8s _) (by first | (simp only [u8s_len, u32s_len, i64s_len, List.length_replicate, List.length_set, encE_len, sumS_len, checkS_len, *]; done) | rfl) ?_)
    refine rg_pure (by rfl) (by rfl) (pu_assignE (v := .int .i64 _) (by rfl)) ?_
    refine rg_nil ?_
    refine t_seq_region ?_
    refine rg_pure (by rfl) (by rfl) (pu_moveE (v := .int .i64 _) (by rfl)) ?_
    refine rg_pure (by rfl) (by rfl) (pu_neq (by rfl) (by rfl)) ?_
    refine rg_pure (by rfl) (by rfl) (pu_moveE (v := .bool _) (by rfl)) ?_
    refine rg_gpure (by rfl) (by rfl) (by rfl) (by rfl) (fun hg => pu_loadAll (by rfl) isAgg43 sizeOf43 (HasE.has (by repeat constructor)) (by rw [u8s_len, hel])) ?_
    refine rg_gpure (by rfl) (by rfl) (by rfl) (by rfl) (fun hg => pu_loadAll (by rfl) isAgg43 sizeOf43 (HasE.has (by repeat constructor)) (by rw [u8s_len, hb.1])) ?_
    refine rg_gpure (by rfl) (by rfl) (by rfl) (by rfl) (fun hg => pu_neqInts (xs := (encS (leafOf b)).1) (ys := b) (gvE hg (by rfl)) (gvE hg (by rfl)) underlying43 underlying5 info5 (by kernel_rfl) hel hb.1 eqGuardType43) ?_
    refine rg_pure (by rfl) (by rfl) (pu_pickOr (by rfl) (by rfl)) ?_
    refine rg_nil ?_
    refine t_cond (by rfl) (fun hc1 => ?_) (fun hc1 => ?_)
    ·
      have hbad : decS b = ([], 11) := by rw [decS, if_neg (by omega), if_pos hc1]
      refine t_row_nil 49 35 ?_
      refine t_seq_region ?_
      refine rg_pure (by rfl) (by rfl) (pu_assign) ?_
      refine rg_pure (by rfl) (by rfl) (pu_assignE (v := .int .i64 _) (by rfl)) ?_
      refine rg_nil ?_
      refine t_ret ?_
      exact Fin.ret (res2 rfl .tmp .tmp) ⟨.slice none 0 0, trivial, by rw [hbad]; rfl, by rw [hbad]; repeat constructor⟩
    ·
      have hgood : decS b = (leafOf b, 0) := by rw [decS, if_neg (by omega), if_neg (by rw [show ((encS (leafOf b)).2 != 0 || !((encS (leafOf b)).1 == b)) = false from hc1]; decide)]
      refine t_skip ?_
      refine t_seq_region ?_
      refine rg_pure (by rfl) (by rfl) (pu_moveE (v := v1) (by rfl)) ?_
      refine rg_pure (by rfl) (by rfl) (pu_assign) ?_
      refine rg_pure (by rfl) (by rfl) (pu_assignE (v := .int .i64 _) (by rfl)) ?_
      refine rg_nil ?_
      refine t_ret ?_
      exact Fin.ret (res2 rfl .tmp .tmp) ⟨v1, trivial, by rw [hgood]; rfl, by rw [hgood, ← hll]; repeat constructor⟩
end Go.Proofs.Ytpoecjeknolnoaa
