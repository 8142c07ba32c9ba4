/- Part of my layer of laws over any program of the model: what it shows stands at each theorem. Conditions: those that each theorem names. -/
import Derived.Test.YtpoecjeknolnoaaH2
/-
  THE LAYER "HL", part 3: operations that read memory.
-/
namespace Go.Proofs.HL
open Go.RowKit

/-- The address that lies k cells behind A. -/
def pptr (A : Option Addr) (k : Nat) : Value := .pointer (A.map (·.add k))
/-- v[l:h], elements of sz cells. -/
def slV (sz : Nat) (v : Value) (l h : Nat) : Value :=
  match v with
  | .slice a _ c => .slice (if c = l then a else a.map (·.add (l * sz))) (h - l) (c - l)
  | v => v
theorem add_of_add (a : Addr) (i j : Nat) : (a.add i).add j = a.add (i + j) := by
  unfold Addr.add
  by_cases hi : i = 0 <;> by_cases hj : j = 0 <;> simp [hi, hj, Nat.add_assoc]
theorem block_of_add (a : Addr) (n : Nat) : (a.add n).block = a.block := by unfold Addr.add; split <;> rfl

def Src (es : List Ent) (v : Value) (sz n : Nat) (xs : List Value) : Prop := ∀ w, Sat es w → Sl w v sz n xs
theorem Sl.cell {w : World} {v : Value} {sz n : Nat} {xs : List Value} (h : Sl w v sz n xs) {j : Nat} {u : Value} (hu : xs[j]? = some u) : ∃ a, base v = some a ∧ w.cell? (a.add j) = some u := by
  have hl : j < xs.length := (List.getElem?_eq_some_iff.1 hu).1
  have hn : 0 < n := by
    rcases Nat.eq_zero_or_pos n with h0 | h0
    · have := h.2.1; rw [h0] at this; omega
    · exact h0
  obtain ⟨a, ha, hc⟩ := h.2.2 hn
  exact ⟨a, ha, hc j u hu⟩
theorem row_sl {w : World} {B : Nat} {e : TypeId} {sz n : Nat} {v : Value} {xs : List Value} (h : w.ownsRow B e sz v n xs) : Sl w v sz n xs := by
  refine ⟨?_, h.1, fun hn => ?_⟩
  · rcases h.2 with ⟨rfl, rfl⟩ | ⟨g, cap, cur, rfl, _, _, hnc, hcm, _⟩
    · exact ⟨0, rfl, Nat.le_refl _, by simp [maxLen]⟩
    · exact ⟨cap, rfl, hnc, hcm⟩
  · rcases h.2 with ⟨rfl, rfl⟩ | ⟨g, cap, cur, rfl, _, _, hnc, hcm, _⟩
    · omega
    · exact ⟨_, rfl, h.cells (g := g) rfl⟩
section
variable {P : Program} {f : Fm} {es : List Ent} {x y z : Operand} {d : Option Nat} {ty t t' : TypeId} {pos : String} {af : Array Edge} {g : Option (Nat × Bool)} {v u : Value} {sz n : Nat} {xs cs : List Value}
theorem src_sl (h : Ent.sl v sz n xs ∈ es) : Src es v sz n xs := fun _ hw => hw _ h
theorem src_row {e : TypeId} (h : Ent.row e sz v n xs ∈ es) : Src es v sz n xs := fun _ hw => row_sl (hw _ h)
theorem src_nil : Src es (.slice none 0 0) sz 0 [] := fun _ _ => ⟨⟨0, rfl, Nat.le_refl _, by simp [maxLen]⟩, by simp, fun h => absurd h (by omega)⟩
theorem sl_cells {w : World} {b off c : Nat} (hc : w.heap[b]? = some (.cells cs.toArray t (0, 0))) (hl : off + n * sz ≤ cs.length) (hn : n ≤ c) (hm : c ≤ maxLen) : Sl w (.slice (some ⟨b, off, none⟩) n c) sz n ((cs.drop off).take (n * sz)) := by
  refine ⟨⟨c, rfl, hn, hm⟩, by simp; omega, fun _ => ⟨_, rfl, fun j u hu => ?_⟩⟩
  rw [Addr.add_mid, cell_of_row w b _ _ t (0, 0) hc]
  rw [List.getElem?_take] at hu
  split at hu
  · rw [List.getElem?_drop] at hu; simpa using hu
  · cases hu
theorem src_own {b off c : Nat} (h : Ent.own b t cs ∈ es) (hl : off + n * sz ≤ cs.length) (hn : n ≤ c) (hm : c ≤ maxLen) : Src es (.slice (some ⟨b, off, none⟩) n c) sz n ((cs.drop off).take (n * sz)) :=
  fun _ hw => sl_cells (hw _ h) hl hn hm
theorem src_fix {b off c : Nat} (h : Ent.fix b t cs ∈ es) (hl : off + n * sz ≤ cs.length) (hn : n ≤ c) (hm : c ≤ maxLen) : Src es (.slice (some ⟨b, off, none⟩) n c) sz n ((cs.drop off).take (n * sz)) :=
  fun _ hw => sl_cells (hw _ h) hl hn hm
theorem sl_cut {w : World} {l h : Nat} (hs : Sl w v sz n xs) (hlh : l ≤ h) (hn : h ≤ n) : Sl w (slV sz v l h) sz (h - l) ((xs.drop (l * sz)).take ((h - l) * sz)) := by
  obtain ⟨⟨c, hv, hnc, hcm⟩, hxl, hr⟩ := hs
  have hle : l * sz + (h - l) * sz ≤ n * sz := by rw [← Nat.add_mul]; exact Nat.mul_le_mul_right _ (by omega)
  rw [hv]
  refine ⟨⟨c - l, rfl, by omega, by simp only [maxLen] at hcm ⊢; omega⟩, by simp; omega, fun hp => ?_⟩
  obtain ⟨a, ha, hc⟩ := hr (by omega)
  refine ⟨a.add (l * sz), ?_, fun j u hu => ?_⟩
  · show (if c = l then base v else (base v).map (·.add (l * sz))) = _
    rw [if_neg (by omega), ha]
    rfl
  · rw [add_of_add]
    rw [List.getElem?_take] at hu
    split at hu
    · rw [List.getElem?_drop] at hu; exact hc _ u hu
    · cases hu
theorem src_cut {l h : Nat} (hs : Src es v sz n xs) (hlh : l ≤ h) (hn : h ≤ n) : Src es (slV sz v l h) sz (h - l) ((xs.drop (l * sz)).take ((h - l) * sz)) := fun w hw => sl_cut (hs w hw) hlh hn
theorem Src.to {xs' : List Value} {n' : Nat} (hs : Src es v sz n xs) (hn : n = n') (hx : xs = xs') : Src es v sz n' xs' := by subst hn hx; exact hs

/-- The entries found by walking the list: '(by repeat constructor)'. -/
inductive SrcE : List Ent → Value → Nat → Nat → List Value → Prop
  | sl {v sz n xs r} : SrcE (.sl v sz n xs :: r) v sz n xs
  | row {e v sz n xs r} : SrcE (.row e sz v n xs :: r) v sz n xs
  | there {q r v sz n xs} : SrcE r v sz n xs → SrcE (q :: r) v sz n xs
theorem SrcE.src (h : SrcE es v sz n xs) : Src es v sz n xs := by
  induction h with
  | sl => exact src_sl (.head _)
  | row => exact src_row (.head _)
  | there _ ih => exact fun w hw => ih w fun e he => hw e (.tail _ he)
/-! ### len, cap, nil -/
theorem pu_len {e : TypeId} {tt : Array TypeId} (hx : ev f x = v) (hs : Src es v sz n xs) (htt : tt[0]? = some t) (ht : P.underlying t = some (.slice e)) : Pu P ⟨d, .call ⟨.builtin .len, #[x], tt⟩, ty, pos, af, g⟩ f es (.int .i64 (n : Int)) := by
  intro w hw
  obtain ⟨⟨c, hv, _⟩, _⟩ := hs w hw
  rw [hv] at hx
  simp [execOp, resolve, invoke, builtin, Builtin.len_, hx, htt, run_underlying ht, goInt]
theorem pu_len_lit {e : TypeId} {tt : Array TypeId} {A : Option Addr} {c : Nat} (hx : ev f x = .slice A n c) (htt : tt[0]? = some t) (ht : P.underlying t = some (.slice e)) : Pu P ⟨d, .call ⟨.builtin .len, #[x], tt⟩, ty, pos, af, g⟩ f es (.int .i64 (n : Int)) := by
  intro w _
  simp [execOp, resolve, invoke, builtin, Builtin.len_, hx, htt, run_underlying ht, goInt]
theorem pu_len_arr {e : TypeId} {tt : Array TypeId} (htt : tt[0]? = some t) (ht : P.underlying t = some (.array n e)) : Pu P ⟨d, .call ⟨.builtin .len, #[x], tt⟩, ty, pos, af, g⟩ f es (.int .i64 (n : Int)) := by
  intro w _
  simp [execOp, resolve, invoke, builtin, Builtin.len_, htt, run_underlying ht, goInt]
theorem pu_len_str {s : ByteArray} {tt : Array TypeId} (hx : ev f x = .string s) (htt : tt[0]? = some t) (ht : P.underlying t = some .string) : Pu P ⟨d, .call ⟨.builtin .len, #[x], tt⟩, ty, pos, af, g⟩ f es (.int .i64 (s.size : Int)) := by
  intro w _
  simp [execOp, resolve, invoke, builtin, Builtin.len_, hx, htt, run_underlying ht, goInt]
theorem run_equalIn_nil (w : World) (q : Nat) {e : TypeId} (A : Option Addr) (k c : Nat) (ht : P.underlying t = some (.slice e)) : (Op.equalIn (q + 1) t (.slice A k c) (.slice none 0 0)).run P w = .ok A.isNone w := by
  cases A <;> simp [Op.equalIn, run_underlying ht]
theorem run_equal_nil (w : World) {e : TypeId} (A : Option Addr) (k c : Nat) (ht : P.underlying t = some (.slice e)) : (Op.equal t (.slice A k c) (.slice none 0 0)).run P w = .ok A.isNone w := run_equalIn_nil w 9999 A k c ht
theorem pu_isnil {e : TypeId} (hx : ev f x = v) (hy : ev f y = .slice none 0 0) (hs : Src es v sz n xs) (ht : P.underlying t = some (.slice e)) : Pu P ⟨d, .binOp .eql t x y t', ty, pos, af, g⟩ f es (.bool (base v).isNone) := by
  refine pu_of rfl fun w hw => ?_
  obtain ⟨⟨c, hv, _⟩, _⟩ := hs w hw
  rw [hx, hy]
  rw [hv]
  have h1 : ∀ A, (eqGuard .eql t x y (.slice A n c) (.slice none 0 0)).run P w = .ok () w := fun A => by unfold eqGuard; rfl
  have h2 : ∀ A, binOp .eql t (.slice A n c) (.slice none 0 0) = (do pure (.bool (← Op.equal t (.slice A n c) (.slice none 0 0)))) := fun _ => rfl
  rw [h2]
  simp [h1, run_equal_nil w _ n c ht, base]
theorem pu_notnil {e : TypeId} (hx : ev f x = v) (hy : ev f y = .slice none 0 0) (hs : Src es v sz n xs) (ht : P.underlying t = some (.slice e)) : Pu P ⟨d, .binOp .neq t x y t', ty, pos, af, g⟩ f es (.bool (!(base v).isNone)) := by
  refine pu_of rfl fun w hw => ?_
  obtain ⟨⟨c, hv, _⟩, _⟩ := hs w hw
  rw [hx, hy]
  rw [hv]
  have h1 : ∀ A, (eqGuard .neq t x y (.slice A n c) (.slice none 0 0)).run P w = .ok () w := fun A => by unfold eqGuard; rfl
  have h2 : ∀ A, binOp .neq t (.slice A n c) (.slice none 0 0) = (do pure (.bool (!(← Op.equal t (.slice A n c) (.slice none 0 0))))) := fun _ => rfl
  rw [h2]
  simp [h1, run_equal_nil w _ n c ht, base]

/-! ### Addresses -/
theorem pu_index {e : TypeId} {k : IntKind} {i : Int} (hx : ev f x = v) (hy : ev f y = .int k i) (hs : Src es v sz n xs) (ht : P.underlying t = some (.slice e)) (hz : ∀ w, (sizeOf e).run P w = .ok sz w) (hi : 0 ≤ i ∧ i < n) :
    Pu P ⟨d, .indexAddr t x y, ty, pos, af, g⟩ f es (pptr (base v) (i.toNat * sz)) := by
  refine pu_of rfl fun w hw => ?_
  obtain ⟨⟨c, hv, _⟩, _, hr⟩ := hs w hw
  obtain ⟨a, ha, _⟩ := hr (by omega)
  rw [hx, hy, hv, ha]
  simp [Instr.indexAt, asIntOf, run_underlying ht, hi.1, hi.2, hz, pptr, base]
theorem pu_indexArr {e : TypeId} {k : IntKind} {i : Int} {b o m : Nat} (hx : ev f x = .pointer (some ⟨b, o, none⟩)) (hy : ev f y = .int k i) (ht : P.underlying t = some (.array m e)) (hz : ∀ w, (sizeOf e).run P w = .ok sz w) (hi : 0 ≤ i ∧ i < m) :
    Pu P ⟨d, .indexAddr t x y, ty, pos, af, g⟩ f es (.pointer (some ⟨b, o + i.toNat * sz, none⟩)) := by
  refine pu_of rfl fun w _ => ?_
  rw [hx, hy]
  simp [Instr.indexAt, Instr.sureAddr, asIntOf, run_underlying ht, hi.1, hi.2, hz, Addr.add_mid]
/-- Elements of one cell. -/
theorem pu_index1 {e : TypeId} {k : IntKind} {i : Int} (hx : ev f x = v) (hy : ev f y = .int k i) (hs : Src es v 1 n xs) (ht : P.underlying t = some (.slice e)) (hz : ∀ w, (sizeOf e).run P w = .ok 1 w) (hi : 0 ≤ i ∧ i < n) :
    Pu P ⟨d, .indexAddr t x y, ty, pos, af, g⟩ f es (pptr (base v) i.toNat) := by
  have := pu_index (d := d) (ty := ty) (pos := pos) (af := af) (g := g) hx hy hs ht hz hi
  rwa [Nat.mul_one] at this
theorem pu_indexArr1 {e : TypeId} {k : IntKind} {i : Int} {b m : Nat} (hx : ev f x = .pointer (some ⟨b, 0, none⟩)) (hy : ev f y = .int k i) (ht : P.underlying t = some (.array m e)) (hz : ∀ w, (sizeOf e).run P w = .ok 1 w) (hi : 0 ≤ i ∧ i < m) :
    Pu P ⟨d, .indexAddr t x y, ty, pos, af, g⟩ f es (.pointer (some ⟨b, i.toNat, none⟩)) := by
  have := pu_indexArr (es := es) (d := d) (ty := ty) (pos := pos) (af := af) (g := g) hx hy ht hz hi
  rwa [Nat.mul_one, Nat.zero_add] at this
theorem pu_indexArrP {e : TypeId} {k : IntKind} {i : Int} {A : Option Addr} {q m : Nat} (hx : ev f x = pptr A q) (hy : ev f y = .int k i) (ht : P.underlying t = some (.array m e)) (hz : ∀ w, (sizeOf e).run P w = .ok sz w) (hi : 0 ≤ i ∧ i < m)
    (hA : ∀ w, Sat es w → ∃ a, A = some a) : Pu P ⟨d, .indexAddr t x y, ty, pos, af, g⟩ f es (pptr A (q + i.toNat * sz)) := by
  refine pu_of rfl fun w hw => ?_
  obtain ⟨a, rfl⟩ := hA w hw
  rw [hx, hy]
  simp [pptr, Instr.indexAt, Instr.sureAddr, asIntOf, run_underlying ht, hi.1, hi.2, hz, add_of_add]
theorem pu_field {fs : Array Field} {fd : Field} {i b o k : Nat} (hx : ev f x = .pointer (some ⟨b, o, none⟩)) (ht : P.underlying t = some (.struct fs)) (hf : fs[i]? = some fd) (hz : ∀ w, (sizeOf fd.type).run P w = .ok k w) (hk : k ≠ 0) :
    Pu P ⟨d, .fieldAddr t x i, ty, pos, af, g⟩ f es (.pointer (some ⟨b, o + fd.offset, none⟩)) := by
  refine pu_of rfl fun w _ => ?_
  rw [hx]
  simp [Instr.fieldAt, Instr.sureAddr, fieldPlace, run_underlying ht, hf, hz, hk, Addr.add_mid]
theorem pu_fieldP {fs : Array Field} {fd : Field} {i q k : Nat} {A : Option Addr} (hx : ev f x = pptr A q) (ht : P.underlying t = some (.struct fs)) (hf : fs[i]? = some fd) (hz : ∀ w, (sizeOf fd.type).run P w = .ok k w) (hk : k ≠ 0)
    (hA : ∀ w, Sat es w → ∃ a, A = some a) : Pu P ⟨d, .fieldAddr t x i, ty, pos, af, g⟩ f es (pptr A (q + fd.offset)) := by
  refine pu_of rfl fun w hw => ?_
  obtain ⟨a, rfl⟩ := hA w hw
  rw [hx]
  simp [pptr, Instr.fieldAt, Instr.sureAddr, fieldPlace, run_underlying ht, hf, hz, hk, add_of_add]
/-- A slice that has an element begins somewhere. -/
theorem src_some (hs : Src es v sz n xs) (hn : 0 < n) : ∀ w, Sat es w → ∃ a, base v = some a := fun w hw => by
  obtain ⟨a, ha, _⟩ := (hs w hw).2.2 hn
  exact ⟨a, ha⟩

/-! ### Loads -/
theorem run_loadVar_list {w : World} {a : Addr} {k : Nat} {ds : List Value} (hagg : ∀ w, (isAgg t).run P w = .ok true w) (hz : ∀ w, (sizeOf t).run P w = .ok k w) (hl : ds.length = k) (hc : ∀ j u, ds[j]? = some u → w.cell? (a.add j) = some u) :
    (loadVar t a).run P w = .ok (.agg ds.toArray) w := by
  have h := run_loadCells_list (P := P) w a ds hc
  rw [hl] at h
  simp [loadVar, hagg, hz, h]
theorem run_loadVar_one {w : World} {a : Addr} (hagg : ∀ w, (isAgg t).run P w = .ok false w) (hc : w.cell? a = some v) : (loadVar t a).run P w = .ok v w := by
  simp [loadVar, hagg, load, Sem.run, hc]
theorem pu_load1_of {a : Addr} (hx : ev f x = .pointer (some a)) (hagg : ∀ w, (isAgg t).run P w = .ok false w) (hc : ∀ w, Sat es w → w.cell? a = some v) : Pu P ⟨d, .load t x, ty, pos, af, g⟩ f es v := by
  refine pu_of rfl fun w hw => ?_
  rw [hx]
  simp [Instr.loadAt, Instr.sureAddr, run_loadVar_one hagg (hc w hw)]
theorem pu_load_of {a : Addr} {k : Nat} {ds : List Value} (hx : ev f x = .pointer (some a)) (hagg : ∀ w, (isAgg t).run P w = .ok true w) (hz : ∀ w, (sizeOf t).run P w = .ok k w) (hl : ds.length = k) (hc : ∀ w, Sat es w → ∀ j u, ds[j]? = some u → w.cell? (a.add j) = some u) :
    Pu P ⟨d, .load t x, ty, pos, af, g⟩ f es (.agg ds.toArray) := by
  refine pu_of rfl fun w hw => ?_
  rw [hx]
  simp [Instr.loadAt, Instr.sureAddr, run_loadVar_list hagg hz hl (hc w hw)]
/-- A block that is known whole. -/
def Has (es : List Ent) (b : Nat) (cs : List Value) : Prop := ∀ w, Sat es w → ∃ t, w.heap[b]? = some (.cells cs.toArray t (0, 0))
theorem has_own {b : Nat} (h : Ent.own b t cs ∈ es) : Has es b cs := fun _ hw => ⟨t, hw _ h⟩
theorem has_fix {b : Nat} (h : Ent.fix b t cs ∈ es) : Has es b cs := fun _ hw => ⟨t, hw _ h⟩
inductive HasE : List Ent → Nat → List Value → Prop
  | own {b t cs r} : HasE (.own b t cs :: r) b cs
  | fix {b t cs r} : HasE (.fix b t cs :: r) b cs
  | there {q r b cs} : HasE r b cs → HasE (q :: r) b cs
theorem HasE.has {b : Nat} (h : HasE es b cs) : Has es b cs := by
  induction h with
  | own => exact has_own (.head _)
  | fix => exact has_fix (.head _)
  | there _ ih => exact fun w hw => ih w fun e he => hw e (.tail _ he)
theorem pu_load1 {b o : Nat} (hx : ev f x = .pointer (some ⟨b, o, none⟩)) (hagg : ∀ w, (isAgg t).run P w = .ok false w) (h : Has es b cs) (hc : cs[o]? = some v) : Pu P ⟨d, .load t x, ty, pos, af, g⟩ f es v :=
  pu_load1_of hx hagg fun w hw => by
    obtain ⟨t', ht⟩ := h w hw
    rw [cell_of_row w b o _ t' (0, 0) ht]
    simpa using hc
theorem pu_load {b o k : Nat} {ds : List Value} (hx : ev f x = .pointer (some ⟨b, o, none⟩)) (hagg : ∀ w, (isAgg t).run P w = .ok true w) (hz : ∀ w, (sizeOf t).run P w = .ok k w) (h : Has es b cs) (hd : (cs.drop o).take k = ds) (hl : ds.length = k) :
    Pu P ⟨d, .load t x, ty, pos, af, g⟩ f es (.agg ds.toArray) :=
  pu_load_of hx hagg hz hl fun w hw j u hu => by
    obtain ⟨t', ht⟩ := h w hw
    rw [Addr.add_mid, cell_of_row w b _ _ t' (0, 0) ht]
    rw [← hd, List.getElem?_take] at hu
    split at hu
    · rw [List.getElem?_drop] at hu; simpa using hu
    · cases hu
/-- A whole variable that fills its block. -/
theorem pu_loadAll {b k : Nat} (hx : ev f x = .pointer (some ⟨b, 0, none⟩)) (hagg : ∀ w, (isAgg t).run P w = .ok true w) (hz : ∀ w, (sizeOf t).run P w = .ok k w) (h : Has es b cs) (hl : cs.length = k) :
    Pu P ⟨d, .load t x, ty, pos, af, g⟩ f es (.agg cs.toArray) := pu_load hx hagg hz h (by rw [List.drop_zero, ← hl, List.take_length]) hl
theorem pu_load1S {q : Nat} (hx : ev f x = pptr (base v) q) (hagg : ∀ w, (isAgg t).run P w = .ok false w) (hs : Src es v sz n xs) (hu : xs[q]? = some u) : Pu P ⟨d, .load t x, ty, pos, af, g⟩ f es u := by
  refine pu_of rfl fun w hw => ?_
  obtain ⟨a, ha, hc⟩ := (hs w hw).cell hu
  rw [hx, ha]
  simp [pptr, Instr.loadAt, Instr.sureAddr, run_loadVar_one hagg hc]
theorem pu_loadS {q k : Nat} {ds : List Value} (hx : ev f x = pptr (base v) q) (hagg : ∀ w, (isAgg t).run P w = .ok true w) (hz : ∀ w, (sizeOf t).run P w = .ok k w) (hs : Src es v sz n xs) (hd : (xs.drop q).take k = ds) (hl : ds.length = k) (hk : 0 < k) :
    Pu P ⟨d, .load t x, ty, pos, af, g⟩ f es (.agg ds.toArray) := by
  refine pu_of rfl fun w hw => ?_
  have hcell : ∀ j u, ds[j]? = some u → xs[q + j]? = some u := fun j u hu => by
    rw [← hd, List.getElem?_take] at hu
    split at hu
    · rwa [List.getElem?_drop] at hu
    · cases hu
  obtain ⟨a, ha, _⟩ := (hs w hw).cell (hcell 0 ds[0] (List.getElem?_eq_getElem (by omega)))
  have hc : ∀ j u, ds[j]? = some u → w.cell? ((a.add q).add j) = some u := fun j u hu => by
    obtain ⟨a', ha', hc'⟩ := (hs w hw).cell (hcell j u hu)
    rw [ha] at ha'
    obtain rfl := Option.some.inj ha'
    rw [add_of_add]; exact hc'
  rw [hx, ha]
  simp [pptr, Instr.loadAt, Instr.sureAddr, run_loadVar_list hagg hz hl hc]

/-! ### Slices -/
/-- What a bound that may be left out comes to. -/
def BV (o : Option Value) (dflt r : Nat) : Prop := (o = none ∧ r = dflt) ∨ ∃ k, o = some (.int k (r : Int))
theorem bv_none {n : Nat} : BV none n n := .inl ⟨rfl, rfl⟩
theorem bv_some {k : IntKind} {i : Int} {n r : Nat} (h : i = (r : Int)) : BV (some (.int k i)) n r := .inr ⟨k, by rw [h]⟩
theorem run_sliceBound {w : World} {k : IntKind} {r m : Nat} (h : r ≤ m) (c : BoundsCode) : (Instr.sliceBound (.int k (r : Int)) m c).run P w = .ok r w := by
  simp [Instr.sliceBound, asIntOf, h]
theorem run_sliceBounds {w : World} {isS : Bool} {len cap l h : Nat} {lo hi : Option Value} (hl : BV lo 0 l) (hh : BV hi len h) (h1 : l ≤ h) (h2 : h ≤ cap) :
    (Instr.sliceBounds isS len cap lo hi none).run P w = .ok (l, h, cap) w := by
  rcases hl with ⟨rfl, rfl⟩ | ⟨k, rfl⟩ <;> rcases hh with ⟨rfl, rfl⟩ | ⟨k', rfl⟩ <;> simp [Instr.sliceBounds, run_sliceBound, h1, h2]
theorem run_sliceBounds3 {w : World} {isS : Bool} {len cap l h m : Nat} {lo hi mx : Value} (hl : BV (some lo) 0 l) (hh : BV (some hi) len h) (hm : BV (some mx) cap m) (h1 : l ≤ h) (h2 : h ≤ m) (h3 : m ≤ cap) :
    (Instr.sliceBounds isS len cap (some lo) (some hi) (some mx)).run P w = .ok (l, h, m) w := by
  rcases hl with ⟨h', _⟩ | ⟨k, hk⟩
  · cases h'
  rcases hh with ⟨h', _⟩ | ⟨k', hk'⟩
  · cases h'
  rcases hm with ⟨h', _⟩ | ⟨k'', hk''⟩
  · cases h'
  cases hk
  cases hk'
  cases hk''
  simp [Instr.sliceBounds, run_sliceBound, h1, h2, h3]
/-- v[l:h] of a slice, read only as far as it is long. -/
theorem pu_slice {e : TypeId} {lo hi : Option Operand} {l h : Nat} (hx : ev f x = v) (hs : Src es v sz n xs) (ht : P.underlying t = some (.slice e)) (hz : ∀ w, (sizeOf e).run P w = .ok sz w)
    (hl : BV (lo.map (ev f)) 0 l) (hh : BV (hi.map (ev f)) n h) (h1 : l ≤ h) (h2 : h ≤ n) : Pu P ⟨d, .slice t x lo hi none, ty, pos, af, g⟩ f es (slV sz v l h) := by
  refine pu_of rfl fun w hw => ?_
  obtain ⟨⟨c, hv, hnc, _⟩, _⟩ := hs w hw
  have hb := run_sliceBounds (P := P) (w := w) (isS := true) (cap := c) hl hh h1 (by omega)
  rw [hx]
  rw [hv]
  simp only [Option.map_none, Instr.sliceAt, Sem.run_bind, run_underlying ht, Result.andThen_ok, Instr.slice, hb, hz, Sem.run_pure]
  rfl
/-- v[l:h:m]. -/
def slV3 (sz : Nat) (v : Value) (l h m : Nat) : Value :=
  match v with
  | .slice a _ _ => .slice (if m = l then a else a.map (·.add (l * sz))) (h - l) (m - l)
  | v => v
theorem pu_slice3 {e : TypeId} {lo hi mx : Operand} {l h m : Nat} (hx : ev f x = v) (hs : Src es v sz n xs) (ht : P.underlying t = some (.slice e)) (hz : ∀ w, (sizeOf e).run P w = .ok sz w)
    (hl : BV (some (ev f lo)) 0 l) (hh : BV (some (ev f hi)) n h) (hm : BV (some (ev f mx)) 0 m) (h1 : l ≤ h) (h2 : h ≤ m) (h3 : m ≤ n) : Pu P ⟨d, .slice t x (some lo) (some hi) (some mx), ty, pos, af, g⟩ f es (slV3 sz v l h m) := by
  refine pu_of rfl fun w hw => ?_
  obtain ⟨⟨c, hv, hnc, _⟩, _⟩ := hs w hw
  have hm' : BV (some (ev f mx)) c m := by
    rcases hm with ⟨h', _⟩ | hm
    · cases h'
    · exact .inr hm
  have hb := run_sliceBounds3 (P := P) (w := w) (isS := true) (cap := c) hl hh hm' h1 h2 (by omega)
  rw [hx]
  rw [hv]
  simp only [Option.map_some, Instr.sliceAt, Sem.run_bind, run_underlying ht, Result.andThen_ok, Instr.slice, hb, hz, Sem.run_pure]
  rfl
theorem sl_cut3 {w : World} {l h m : Nat} (hs : Sl w v sz n xs) (hlh : l ≤ h) (hm : h ≤ m) (hn : m ≤ n) : Sl w (slV3 sz v l h m) sz (h - l) ((xs.drop (l * sz)).take ((h - l) * sz)) := by
  obtain ⟨⟨c, hv, hnc, hcm⟩, hxl, hr⟩ := hs
  have hle : l * sz + (h - l) * sz ≤ n * sz := by rw [← Nat.add_mul]; exact Nat.mul_le_mul_right _ (by omega)
  rw [hv]
  refine ⟨⟨m - l, rfl, by omega, by simp only [maxLen] at hcm ⊢; omega⟩, by simp; omega, fun hp => ?_⟩
  obtain ⟨a, ha, hc⟩ := hr (by omega)
  refine ⟨a.add (l * sz), ?_, fun j u hu => ?_⟩
  · show (if m = l then base v else (base v).map (·.add (l * sz))) = _
    rw [if_neg (by omega), ha]
    rfl
  · rw [add_of_add]
    rw [List.getElem?_take] at hu
    split at hu
    · rw [List.getElem?_drop] at hu; exact hc _ u hu
    · cases hu
theorem src_cut3 {l h m : Nat} (hs : Src es v sz n xs) (hlh : l ≤ h) (hm : h ≤ m) (hn : m ≤ n) : Src es (slV3 sz v l h m) sz (h - l) ((xs.drop (l * sz)).take ((h - l) * sz)) := fun w hw => sl_cut3 (hs w hw) hlh hm hn
/-- A slice of an array behind an address. -/
theorem pu_sliceArr {e : TypeId} {lo hi : Option Operand} {l h b o m : Nat} (hx : ev f x = .pointer (some ⟨b, o, none⟩)) (ht : P.underlying t = some (.array m e)) (hz : ∀ w, (sizeOf e).run P w = .ok sz w)
    (hl : BV (lo.map (ev f)) 0 l) (hh : BV (hi.map (ev f)) m h) (h1 : l ≤ h) (h2 : h ≤ m) (h3 : l < m) : Pu P ⟨d, .slice t x lo hi none, ty, pos, af, g⟩ f es (.slice (some ⟨b, o + l * sz, none⟩) (h - l) (m - l)) := by
  refine pu_of rfl fun w _ => ?_
  have hb := run_sliceBounds (P := P) (w := w) (isS := false) (cap := m) hl hh h1 h2
  rw [hx]
  simp only [Option.map_none, Instr.sliceAt, Instr.sureAddr, Sem.run_bind, run_underlying ht, Result.andThen_ok, hb, hz, Sem.run_pure]
  rw [if_neg (by omega), Addr.add_mid]
/-- The same where the address is told from a slice's begin. -/
theorem pu_sliceArrP {e : TypeId} {A : Option Addr} {q m : Nat} (hx : ev f x = pptr A q) (ht : P.underlying t = some (.array m e)) (hz : ∀ w, (sizeOf e).run P w = .ok sz w) (hm : 0 < m)
    (hA : ∀ w, Sat es w → ∃ a, A = some a) : Pu P ⟨d, .slice t x none none none, ty, pos, af, g⟩ f es (.slice (A.map (·.add q)) m m) := by
  refine pu_of rfl fun w hw => ?_
  obtain ⟨a, rfl⟩ := hA w hw
  have hb := run_sliceBounds (P := P) (w := w) (isS := false) (len := m) (cap := m) (lo := none) (hi := none) bv_none bv_none (Nat.zero_le _) (Nat.le_refl _)
  rw [hx]
  simp only [pptr, Option.map_none, Option.map_some, Instr.sliceAt, Instr.sureAddr, Sem.run_bind, run_underlying ht, Result.andThen_ok, hb, hz, Sem.run_pure]
  rw [if_neg (by omega)]
  simp [Addr.add]
/-- .. and what such a slice reads as. -/
theorem src_inP {q m k : Nat} (hs : Src es v sz n xs) (hq : q + m * k ≤ xs.length) (hp : 0 < m * k) (hm : m ≤ maxLen) : Src es (.slice ((base v).map (·.add q)) m m) k m ((xs.drop q).take (m * k)) := fun w hw => by
  obtain ⟨⟨c, hv, hnc, hcm⟩, hxl, hr⟩ := hs w hw
  have hn : 0 < n := by
    rcases Nat.eq_zero_or_pos n with h0 | h0
    · rw [h0] at hxl; omega
    · exact h0
  obtain ⟨a, ha, hc⟩ := hr hn
  refine ⟨⟨m, rfl, Nat.le_refl _, hm⟩, by simp; omega, fun _ => ⟨a.add q, by show (base v).map _ = _; rw [ha]; rfl, fun j u hu => ?_⟩⟩
  rw [add_of_add]
  rw [List.getElem?_take] at hu
  split at hu
  · rw [List.getElem?_drop] at hu; exact hc _ u hu
  · cases hu
theorem pu_sliceStr {s : ByteArray} {lo hi : Option Operand} {l h : Nat} (hx : ev f x = .string s) (ht : P.underlying t = some .string) (hl : BV (lo.map (ev f)) 0 l) (hh : BV (hi.map (ev f)) s.size h) (h1 : l ≤ h) (h2 : h ≤ s.size) :
    Pu P ⟨d, .slice t x lo hi none, ty, pos, af, g⟩ f es (.string (s.extract l h)) := by
  refine pu_of rfl fun w _ => ?_
  have hb := run_sliceBounds (P := P) (w := w) (isS := false) (cap := s.size) hl hh h1 h2
  rw [hx]
  simp [Instr.sliceAt, run_underlying ht, Instr.slice, hb]
theorem pu_arrPtr {e : TypeId} {m : Nat} (hx : ev f x = v) (hs : Src es v sz n xs) (ht : P.underlying t = some (.array m e)) (hm : m ≤ n) : Pu P ⟨d, .sliceToArrayPointer t x, ty, pos, af, g⟩ f es (pptr (base v) 0) := by
  refine pu_of rfl fun w hw => ?_
  obtain ⟨⟨c, hv, _⟩, _⟩ := hs w hw
  rw [hx]
  rw [hv]
  have h0 : ∀ A : Option Addr, A.map (·.add 0) = A := fun A => by cases A <;> rfl
  simp [Instr.arrayAt, run_underlying ht, show ¬ n < m by omega, pptr, base, h0]
/-- An element of an array that is at hand as a value. -/
theorem pu_at1 {e : TypeId} {k : IntKind} {i : Int} {m : Nat} (hx : ev f x = .agg cs.toArray) (hy : ev f y = .int k i) (ht : P.underlying t = some (.array m e)) (hz : ∀ w, (sizeOf e).run P w = .ok 1 w) (hagg : ∀ w, (isAgg e).run P w = .ok false w)
    (hi : 0 ≤ i ∧ i < m) (hc : cs[i.toNat]? = some v) : Pu P ⟨d, .index t x y, ty, pos, af, g⟩ f es v := by
  refine pu_of rfl fun w _ => ?_
  rw [hx, hy]
  simp [Instr.index, asIntOf, run_underlying ht, hi.1, hi.2, hz, part, hagg, hc]
theorem pu_fieldV1 {fs : Array Field} {fd : Field} {i : Nat} (hx : ev f x = .agg cs.toArray) (ht : P.underlying t = some (.struct fs)) (hf : fs[i]? = some fd) (hagg : ∀ w, (isAgg fd.type).run P w = .ok false w) (hc : cs[fd.offset]? = some v) :
    Pu P ⟨d, .field t x i, ty, pos, af, g⟩ f es v := by
  refine pu_of rfl fun w _ => ?_
  rw [hx]
  simp [Instr.field, run_underlying ht, hf, asAgg, part, hagg, hc]
theorem pu_fieldV {fs : Array Field} {fd : Field} {i k : Nat} {ds : List Value} (hx : ev f x = .agg cs.toArray) (ht : P.underlying t = some (.struct fs)) (hf : fs[i]? = some fd) (hagg : ∀ w, (isAgg fd.type).run P w = .ok true w) (hz : ∀ w, (sizeOf fd.type).run P w = .ok k w)
    (hd : (cs.drop fd.offset).take k = ds) : Pu P ⟨d, .field t x i, ty, pos, af, g⟩ f es (.agg ds.toArray) := by
  refine pu_of rfl fun w _ => ?_
  rw [hx]
  simp [Instr.field, run_underlying ht, hf, asAgg, part, hagg, hz, ← hd, List.take_drop]
theorem pu_build0 {cs : Array Value} (hz : ∀ w, (zeroValue t).run P w = .ok (.agg cs) w) (ht : (∃ m e, P.underlying t = some (.array m e) ∧ ∀ w, ∃ k, (sizeOf e).run P w = .ok k w)) : Pu P ⟨d, .build t #[], ty, pos, af, g⟩ f es (.agg cs) := by
  refine pu_of rfl fun w _ => ?_
  obtain ⟨m, e, hu, hs⟩ := ht
  obtain ⟨k, hk⟩ := hs w
  simp [Instr.build, hz, run_underlying hu, hk, Instr.fill, Value.cells]
theorem pu_build {parts : Array (Nat × Operand)} {cells : Array Value} (h : P.built t (parts.toList.map fun p => (p.1, ev f p.2)) = some cells) : Pu P ⟨d, .build t parts, ty, pos, af, g⟩ f es (.agg cells) := by
  refine pu_of rfl fun w _ => ?_
  refine run_build w t _ cells ?_
  rw [← h]
  congr 1
  simp
/-- string(b). -/
theorem pu_bytesStr {e : TypeId} {bs : List Int} (hx : ev f x = v) (hs : Src es v 1 n (bs.map (Value.int .u8))) (ht : P.underlying t = some (.slice e)) (he : P.underlying e = some (.int .u8)) (ht' : P.underlying t' = some .string) :
    Pu P ⟨d, .convert t t' x, ty, pos, af, g⟩ f es (.string (strOfNums bs)) := by
  refine pu_of rfl fun w hw => ?_
  obtain ⟨⟨c, hv, _⟩, hxl, hr⟩ := hs w hw
  have hlen : bs.length = n := by simpa using hxl
  rw [hx]
  rw [hv]
  rcases Nat.eq_zero_or_pos n with h0 | h0
  · have hb : bs = [] := List.eq_nil_of_length_eq_zero (by omega)
    subst hb
    subst h0
    cases hA : base v with
    | none => exact run_convert_bytes_nil w t e ht he 0 c t' ht'
    | some a =>
      rw [run_convert_bytes_string w t t' e _ 0 c ht he ht', run_bytesToString w a 0 c [] (run_loadCells_list (P := P) w a [] (fun j u hu => by simp at hu))]
      rfl
  · obtain ⟨a, ha, hc⟩ := hr h0
    rw [ha]
    have hl := run_loadCells_list (P := P) w a (bs.map (Value.int .u8)) hc
    rw [List.length_map, hlen] at hl
    rw [run_convert_bytes_string w t t' e _ n c ht he ht', run_bytesToString w a n c bs hl, foldl_push_bytes]
    simp [strOfNums, ByteArray.empty, ByteArray.emptyWithCapacity]
    rfl
end
end Go.Proofs.HL
