/- Part of my layer of laws over any program of the model: what it shows stands at each theorem. Conditions: those that each theorem names. -/
import Derived.Test.YtpoecjeknolnoaaH7
import Derived.Lib.Bytealg
import Derived.Lib.BytesEntry
import Derived.ChangeKeysEq
import Derived.Laws.CopyRow
import Derived.Laws.Externs
/-
  THE LAYER "HL", part 8: entries of the model's own (Compare), strings' order, arrays that are compared, copy, cap, stores into rows.
-/
namespace Go.Proofs.HL
open Go.RowKit
section
variable {P : Program} {n : Nat} {w0 : World} {M : List Nat} {f : Fm} {es : List Ent} {x y z : Operand} {d : Option Nat} {ty t t' : TypeId} {pos : String} {af : Array Edge} {g : Option (Nat × Bool)} {v u : Value} {cs : List Value} {K : KK}
/-- A function that the model itself has. -/
theorem pu_ext {k : FuncId} {args : List Operand} {tt : Array TypeId} {ent : Array Value → Sem Value}
    (hcall : ∀ (as : Array Value) (w : World), (callFunc k as).run P w = ((ent as).run P w).andThen fun v w' => .ok (.value v) w')
    (h : ∀ w, Sat es w → (ent (args.map (ev f)).toArray).run P w = .ok v w) : Pu P ⟨d, .call ⟨.value (.func k), args.toArray, tt⟩, ty, pos, af, g⟩ f es v := by
  intro w hw
  have h' := h w hw
  have e : ev f (.func k) = .func (.func k) #[] #[] := rfl
  simp [execOp, resolve, e, Deferred.ofValue, invoke, hcall, h']
theorem run_bytesOf_sl {w : World} {m : Nat} {bs : List Int} (h : Sl w v 1 m (bs.map (Value.int .u8))) : (Extern.Bytes.bytesOf v).run P w = .ok ⟨(Go.Lib.bytesOf bs).toArray⟩ w := by
  obtain ⟨⟨c, hv, _⟩, hxl, hr⟩ := h
  have hlen : bs.length = m := by simpa using hxl
  rw [hv]
  cases hA : base v with
  | none =>
    have hm : m = 0 := by
      rcases Nat.eq_zero_or_pos m with h0 | h0
      · exact h0
      · obtain ⟨a, ha, _⟩ := hr h0
        rw [hA] at ha
        cases ha
    have hb : bs = [] := List.eq_nil_of_length_eq_zero (by omega)
    subst hb
    simp [Extern.Bytes.bytesOf, Go.Lib.bytesOf]
    rfl
  | some a =>
    have hc : ∀ j x, bs[j]? = some x → w.cell? (a.add j) = some (.int .u8 x) := by
      intro j x hj
      have hjl := (List.getElem?_eq_some_iff.1 hj).1
      obtain ⟨a', ha', hc'⟩ := hr (by omega)
      rw [hA] at ha'
      obtain rfl := Option.some.inj ha'
      exact hc' j _ (by rw [List.getElem?_map, hj]; rfl)
    have := Go.Lib.run_loadBytesX (P := P) w bs a .empty hc
    rw [hlen] at this
    simp only [Extern.Bytes.bytesOf]
    rw [this]
    simp [ByteArray.empty, ByteArray.emptyWithCapacity]
    rfl
/-- internal/bytealg.Compare. -/
theorem run_compareBytes {w : World} {m m' : Nat} {a b : List Int} (h : Sl w v 1 m (a.map (Value.int .u8))) (h' : Sl w u 1 m' (b.map (Value.int .u8))) :
    (Extern.BytealgCompare.compare #[v, u]).run P w = .ok (.int .i64 (Go.Lib.compareBytes (Go.Lib.bytesOf a) (Go.Lib.bytesOf b))) w := by
  change Sem.run P (do pure (goInt (Extern.BytealgCompare.cmp (← Extern.Bytes.bytesOf v) (← Extern.Bytes.bytesOf u)))) w = _
  simp only [Sem.run_bind, Sem.run_pure, run_bytesOf_sl h, run_bytesOf_sl h', Result.andThen_ok]
  rw [Go.Lib.cmp_eq]
  rfl
theorem pu_strLss {a b : ByteArray} (hx : ev f x = .string a) (hy : ev f y = .string b) : Pu P ⟨d, .binOp .lss t x y t', ty, pos, af, g⟩ f es (.bool (Op.bytesLess a.toList b.toList)) :=
  pu_strCmp hx hy fun w => by simp [Op.stringOp]
theorem pu_strEql {a b : ByteArray} (hx : ev f x = .string a) (hy : ev f y = .string b) : Pu P ⟨d, .binOp .eql t x y t', ty, pos, af, g⟩ f es (.bool (a.toList == b.toList)) :=
  pu_strCmp hx hy fun w => by simp [Op.stringOp]
theorem pu_strNeq {a b : ByteArray} (hx : ev f x = .string a) (hy : ev f y = .string b) : Pu P ⟨d, .binOp .neq t x y t', ty, pos, af, g⟩ f es (.bool !(a.toList == b.toList)) :=
  pu_strCmp hx hy fun w => by simp [Op.stringOp]

/-! ### Arrays of whole numbers, compared -/
theorem run_eqItems_int (w : World) (dd : Nat) {e : TypeId} {k : IntKind} (he : P.underlying e = some (.int k)) (xs ys : List Int) : ∀ (s c : Nat), s + c ≤ xs.length → s + c ≤ ys.length →
    (Op.eqItems (dd + 1) e 1 (xs.map (Value.int k)).toArray (ys.map (Value.int k)).toArray (List.range' s c)).run P w = .ok ((xs.drop s).take c == (ys.drop s).take c) w
  | s, 0, _, _ => by simp [Op.eqItems]
  | s, c + 1, h1, h2 => by
    have ih := run_eqItems_int w dd he xs ys (s + 1) c (by omega) (by omega)
    have hx : xs.drop s = xs[s] :: xs.drop (s + 1) := List.drop_eq_getElem_cons (by omega)
    have hy : ys.drop s = ys[s] :: ys.drop (s + 1) := List.drop_eq_getElem_cons (by omega)
    have p : ∀ (l : List Int) (hl : s < l.length), (part e (l.map (Value.int k)).toArray (s * 1)).run P w = .ok (.int k l[s]) w := fun l hl => by
      simp [part, isAgg, run_underlying he, hl]
    rw [List.range'_succ]
    simp only [Op.eqItems, Sem.run_bind, p xs (by omega), p ys (by omega), Result.andThen_ok, run_equalIn_int w dd e k k _ _ he]
    rw [hx, hy, List.take_succ_cons, List.take_succ_cons]
    by_cases hq : xs[s] = ys[s]
    · rw [hq]
      simp only [beq_self_eq_true, Bool.not_true, Bool.false_eq_true, if_false, ih, List.cons_beq_cons, Bool.true_and]
    · have : (xs[s] == ys[s]) = false := by simpa using hq
      simp [this, List.cons_beq_cons]
theorem run_equalIn_ints (w : World) (dd : Nat) {e : TypeId} {k : IntKind} {m : Nat} {i : TypeInfo} (ht : P.underlying t = some (.array m e)) (he : P.underlying e = some (.int k)) (hi : P.info? e = some i) (hs : i.size = 1) (xs ys : List Int) (hx : xs.length = m) (hy : ys.length = m) :
    (Op.equalIn (dd + 2) t (.agg (xs.map (Value.int k)).toArray) (.agg (ys.map (Value.int k)).toArray)).run P w = .ok (xs == ys) w := by
  have hc : P.cellsOf e = 1 := by simp [Program.cellsOf, hi, hs]
  rw [run_equalIn_array w (dd + 1) _ _ ht hi, hc, List.range_eq_range', run_eqItems_int w dd he xs ys 0 m (by omega) (by omega)]
  simp only [List.drop_zero]
  rw [List.take_of_length_le (by omega), List.take_of_length_le (by omega)]
theorem run_guard_agg (op : BinOp) (w : World) (a b : Array Value) (hgt : P.eqGuardType P.depth t = false) : (eqGuard op t x y (.agg a) (.agg b)).run P w = .ok () w := by
  unfold eqGuard
  cases op <;> simp [hgt]
theorem pu_eqlInts {e : TypeId} {k : IntKind} {m : Nat} {i : TypeInfo} {xs ys : List Int} (hx : ev f x = .agg (xs.map (Value.int k)).toArray) (hy : ev f y = .agg (ys.map (Value.int k)).toArray) (ht : P.underlying t = some (.array m e)) (he : P.underlying e = some (.int k)) (hi : P.info? e = some i) (hs : i.size = 1)
    (hlx : xs.length = m) (hly : ys.length = m) (hgt : P.eqGuardType P.depth t = false) : Pu P ⟨d, .binOp .eql t x y t', ty, pos, af, g⟩ f es (.bool (xs == ys)) := by
  refine pu_of rfl fun w _ => ?_
  rw [hx, hy]
  have h1 := fun a b => run_guard_agg (x := x) (y := y) .eql w a b hgt
  simp only [Sem.run_bind, h1, Result.andThen_ok, run_eql_struct, run_equalIn_ints w 9998 ht he hi hs xs ys hlx hly]
theorem pu_neqInts {e : TypeId} {k : IntKind} {m : Nat} {i : TypeInfo} {xs ys : List Int} (hx : ev f x = .agg (xs.map (Value.int k)).toArray) (hy : ev f y = .agg (ys.map (Value.int k)).toArray) (ht : P.underlying t = some (.array m e)) (he : P.underlying e = some (.int k)) (hi : P.info? e = some i) (hs : i.size = 1)
    (hlx : xs.length = m) (hly : ys.length = m) (hgt : P.eqGuardType P.depth t = false) : Pu P ⟨d, .binOp .neq t x y t', ty, pos, af, g⟩ f es (.bool !(xs == ys)) := by
  refine pu_of rfl fun w _ => ?_
  rw [hx, hy]
  have h1 := fun a b => run_guard_agg (x := x) (y := y) .neq w a b hgt
  simp only [Sem.run_bind, h1, Result.andThen_ok, run_neq_struct, run_equalIn_ints w 9998 ht he hi hs xs ys hlx hly]

/-! ### cap, copy -/
theorem run_firstCells {w : World} {sz m k : Nat} {xs : List Value} (h : Sl w v sz m xs) (hk : k ≤ m) : (Builtin.firstCells sz k v).run P w = .ok (xs.take (k * sz)).toArray w := by
  obtain ⟨⟨c, hv, _⟩, hxl, hr⟩ := h
  rw [hv]
  cases hA : base v with
  | none =>
    have hm : m = 0 := by
      rcases Nat.eq_zero_or_pos m with h0 | h0
      · exact h0
      · obtain ⟨a, ha, _⟩ := hr h0
        rw [hA] at ha
        cases ha
    have hk0 : k = 0 := by omega
    subst hk0
    simp [Builtin.firstCells]
  | some a =>
    have hle : k * sz ≤ m * sz := Nat.mul_le_mul_right _ hk
    have hl := run_loadCells_list (P := P) w a (xs.take (k * sz)) (fun j q hq => by
      rw [List.getElem?_take] at hq
      split at hq
      · have hjl := (List.getElem?_eq_some_iff.1 hq).1
        have hm : 0 < m := by
          rcases Nat.eq_zero_or_pos m with h0 | h0
          · subst h0; omega
          · exact h0
        obtain ⟨a', ha', hc'⟩ := hr hm
        rw [hA] at ha'
        obtain rfl := Option.some.inj ha'
        exact hc' j q hq
      · cases hq)
    rw [List.length_take, Nat.min_eq_left (by omega)] at hl
    simp only [Builtin.firstCells]
    exact hl
/-- copy into a block of the call's own. -/
theorem lo_copyOwnT {e : TypeId} {sz m o dn dc b kk : Nat} {xs cs' : List Value} {r : List Ent} (hd : dstOk d n = true) (hx : ev f x = .slice (some ⟨b, o, none⟩) dn dc) (hy : ev f y = u) (ht : P.underlying t = some (.slice e)) (hz : ∀ w, (sizeOf e).run P w = .ok sz w)
    (p : Pick es (.own b t' cs) r) (hs : Src es u sz m xs) (h1 : ∀ u ∈ xs.take (kk * sz), u.oneCell' = true) (hk : min m dn = kk) (hl : o + kk * sz ≤ cs.length) (hcs : putAt cs o (xs.take (kk * sz)) = cs')
    (next : K (updO f d (.int .i64 (kk : Int))) (.own b t' cs' :: r)) : Lo P n w0 M ⟨d, .call ⟨.builtin .copy, #[x, y], #[t, t]⟩, ty, pos, af, g⟩ f es K := by
  intro r' G a w hf hw Q
  have hsl := hs w hw.sat.left
  have hxl := hsl.2.1
  have hle : kk * sz ≤ m * sz := Nat.mul_le_mul_right _ (by omega)
  have hb : w.heap[b]? = some (.cells cs.toArray t' (0, 0)) := hw.sat _ (List.mem_append_left _ p.mem)
  have hst := run_storeCells_at P b o t' (xs.take (kk * sz)) 0 cs.toArray w hb (by simp; omega) h1
  have hrun : (Builtin.copy_ #[t, t] ty #[.slice (some ⟨b, o, none⟩) dn dc, u]).run P w = .ok (.int .i64 (kk : Int)) (w.setRow b cs'.toArray) := by
    obtain ⟨⟨c, hv, _⟩, _⟩ := hsl
    have hfc := run_firstCells (P := P) (k := kk) (hs w hw.sat.left) (by omega)
    have hlen : (Builtin.lenOf u).run P w = .ok m w := by rw [hv]; simp [Builtin.lenOf]
    have hk' : Nat.min m dn = kk := hk
    simp only [Nat.add_zero] at hst
    simp [Builtin.copy_, run_underlying ht, hlen, hz, hk', hfc, hst, goInt, ← hcs, putAt]
  refine wpIn_value (v := .int .i64 (kk : Int)) (w' := w.setRow b cs'.toArray) ?_ ⟨_, _, hf.put hd _, hw.putRow p, next⟩
  rw [hf.eval]
  simp only [execOp, resolve, Sem.run_bind, Sem.run_pure, Result.andThen_ok, invoke, builtin, List.map_toArray, List.map_cons, List.map_nil, hx, hy, hrun]
theorem bv_op {i : Int} {k : IntKind} {r m : Nat} (h : ev f x = .int k i) (hi : i = (r : Int)) : BV ((some x).map (ev f)) m r := .inr ⟨k, by rw [← hi, ← h]; rfl⟩
theorem Sl.one {w : World} {sz m : Nat} {xs : List Value} (h : Sl w v sz m xs) : v.oneCell' = true := by
  obtain ⟨⟨c, hv, _⟩, _⟩ := h
  rw [hv]; rfl
theorem argsA1 {a : Value} (h1 : ev f x = a) : (List.map (ev f) [x] ++ []).toArray = [a].toArray := by simp [h1]
theorem argsA2 {a b : Value} (h1 : ev f x = a) (h2 : ev f y = b) : (List.map (ev f) [x, y] ++ []).toArray = [a, b].toArray := by simp [h1, h2]
theorem args1 {a : Value} (h1 : ev f x = a) : (List.map (ev f) [x]).toArray = [a].toArray := by simp [h1]
theorem args2 {a b : Value} (h1 : ev f x = a) (h2 : ev f y = b) : (List.map (ev f) [x, y]).toArray = [a, b].toArray := by simp [h1, h2]
theorem args3 {a b c : Value} (h1 : ev f x = a) (h2 : ev f y = b) (h3 : ev f z = c) : (List.map (ev f) [x, y, z]).toArray = [a, b, c].toArray := by simp [h1, h2, h3]
theorem gives_eq {k : FuncId} {xs ys : Array Value} {w : World} (ha : xs = ys) (h : Gives P k ys w v) : Gives P k xs w v := by rw [ha]; exact h
theorem lo_copyOwn {e : TypeId} {sz m o dn dc b kk : Nat} {xs cs' : List Value} {r : List Ent} (hd : dstOk d n = true) (hx : ev f x = .slice (some ⟨b, o, none⟩) dn dc) (hy : ev f y = u) (ht : P.underlying t = some (.slice e)) (hz : ∀ w, (sizeOf e).run P w = .ok sz w)
    (p : Pick es (.own b t' cs) r) (hs : Src es u sz m xs) (h1 : ∀ u ∈ xs, u.oneCell' = true) (hk : min m dn = kk) (hl : o + kk * sz ≤ cs.length) (hcs : putAt cs o (xs.take (kk * sz)) = cs')
    (next : K (updO f d (.int .i64 (kk : Int))) (.own b t' cs' :: r)) : Lo P n w0 M ⟨d, .call ⟨.builtin .copy, #[x, y], #[t, t]⟩, ty, pos, af, g⟩ f es K :=
  lo_copyOwnT hd hx hy ht hz p hs (fun q hq => h1 q (List.mem_of_mem_take hq)) hk hl hcs next
theorem src_has {b off c sz m : Nat} (h : Has es b cs) (hl : off + m * sz ≤ cs.length) (hn : m ≤ c) (hm : c ≤ maxLen) : Src es (.slice (some ⟨b, off, none⟩) m c) sz m ((cs.drop off).take (m * sz)) := fun w hw => by
  obtain ⟨t, ht⟩ := h w hw
  exact sl_cells ht hl hn hm
/-- A whole array, as a slice. -/
theorem src_all {b sz m : Nat} (h : Has es b cs) (hl : cs.length = m * sz) (hm : m ≤ maxLen) : Src es (.slice (some ⟨b, 0, none⟩) m m) sz m cs :=
  (src_has (off := 0) (c := m) h (by omega) (Nat.le_refl _) hm).to rfl (by rw [List.drop_zero, ← hl, List.take_length])
/-! ### Building values whose parts are lists of a known length -/
theorem foldl_set (off : Nat) : ∀ (l : List Value) (k : Nat) (cells : Array Value), off + k + l.length ≤ cells.size →
    (l.zipIdx k).foldl (fun cs (x : Value × Nat) => cs.setIfInBounds (off + x.2) x.1) cells = (cells.toList.take (off + k) ++ l ++ cells.toList.drop (off + k + l.length)).toArray
  | [], k, cells, _ => by simp
  | a :: l, k, cells, h => by
    simp only [List.zipIdx_cons, List.foldl_cons]
    simp only [List.length_cons] at h
    rw [foldl_set off l (k + 1) _ (by simp; omega)]
    congr 1
    have e := list_seg_step cells.toList (off + k) a l (by simp; omega)
    have e1 : (cells.setIfInBounds (off + k) a).toList = cells.toList.set (off + k) a := by simp [Array.toList_setIfInBounds]
    rw [e1]
    exact e
theorem fill_step {place : Nat → Option (Nat × Nat)} {cells : List Value} {i off size : Nat} {rest : List (Nat × Value)} {ds cells' : List Value} (hp : place i = some (off, size)) (hv : v.cells = ds.toArray) (hs : ds.length = size) (hl : off + size ≤ cells.length) (hc : cells.take off ++ ds ++ cells.drop (off + size) = cells') :
    Instr.fill place cells.toArray ((i, v) :: rest) = Instr.fill place cells'.toArray rest := by
  rw [Instr.fill]
  simp only [hp]
  rw [if_neg (by simp [hv, hs]; omega)]
  congr 1
  have h1 := foldl_set off ds 0 cells.toArray (by simp; omega)
  rw [hv]
  rw [← Array.foldl_toList, Array.toList_zipIdx]
  simp only [Nat.add_zero] at h1
  rw [hs] at h1
  rw [← hc]
  exact h1
theorem fill_nil {place : Nat → Option (Nat × Nat)} {cells : Array Value} : Instr.fill place cells [] = some cells := by rw [Instr.fill]
theorem range_map_all {a : Array Value} : (Array.range (1 * a.size)).map (fun i => a[i % a.size]!) = a := by
  apply Array.ext
  · simp
  · intro i h1 h2
    have : i % a.size = i := Nat.mod_eq_of_lt h2
    simp [this, h2]
/-- A slice of one element. -/
theorem lo_buildOne {e : TypeId} {sz : Nat} {v0 : Value} (hd : dstOk d n = true) (ht : P.underlying t = some (.slice e)) (hz : ∀ w, (sizeOf e).run P w = .ok sz w) (hsz : 0 < sz ∧ sz ≤ 16777216) (hz0 : ∀ w, (zeroValue e).run P w = .ok v0 w) (hv0 : v0.cells.size = sz)
    (hx : ev f x = v) (hv : v.cells = cs.toArray) (hl : cs.length = sz) (next : ∀ b, w0.heap.size ≤ b → K (updO f d (.slice (some ⟨b, 0, none⟩) 1 1)) (.row e sz (.slice (some ⟨b, 0, none⟩) 1 1) 1 cs :: es)) :
    Lo P n w0 M ⟨d, .buildSlice t 1 #[(0, x)], ty, pos, af, g⟩ f es K := by
  refine lo_buildRow (z0 := v0.cells.toList) (cs := cs) (v := v0) hd ht hz (by omega) hz0 ?_ ?_ (by omega) hsz.1 next
  · have := range_map_all (a := v0.cells)
    rw [hv0] at this
    rw [hv0, this]
  · show Instr.fill _ _ [(0, ev f x)] = _
    rw [hx, fill_step (off := 0) (size := sz) (ds := cs) (cells' := cs) (by simp) hv hl (by simp; omega) (by simp [← hv0]), fill_nil]
/-! ### What the entries tell of a slice's value; entries told twice -/
def IsSl (v : Value) : Prop := ∃ A m c, v = .slice A m c
theorem IsSl.one (h : IsSl v) : v.oneCell' = true := by obtain ⟨A, m, c, rfl⟩ := h; rfl
theorem Sl.isSl {w : World} {sz m : Nat} {xs : List Value} (h : Sl w v sz m xs) : IsSl v := by
  obtain ⟨⟨c, hv, _⟩, _⟩ := h
  exact ⟨_, _, _, hv⟩
theorem rg_isSl {rr : Option Nat} {ops : Array Oper} {l : List Oper} {sz m : Nat} {xs : List Value} (v : Value) (h : Src es v sz m xs) (k : IsSl v → RG P n w0 M rr ops l f es K) : RG P n w0 M rr ops l f es K := fun G a w hf hw =>
  k (h w hw.sat.left).isSl G a w hf hw
theorem t_isSl {rr : Option Nat} {c : Code} {R : KR} {sz m : Nat} {xs : List Value} (v : Value) (h : Src es v sz m xs) (k : IsSl v → T P n w0 M rr c f es R) : T P n w0 M rr c f es R := fun G a w hf hw =>
  k (h w hw.sat.left).isSl G a w hf hw
theorem t_srcLen {rr : Option Nat} {c : Code} {R : KR} {sz m : Nat} {xs : List Value} (v : Value) (h : Src es v sz m xs) (k : m ≤ 9223372036854775807 → T P n w0 M rr c f es R) : T P n w0 M rr c f es R := fun G a w hf hw =>
  k (h w hw.sat.left).len G a w hf hw
theorem Holds.dup {w : World} {sz m : Nat} {xs : List Value} {G : List Ent} (h : Holds w0 M (es ++ G) w) (hm : Ent.sl v sz m xs ∈ es) : Holds w0 M ((.sl v sz m xs :: es) ++ G) w :=
  Holds.go (old := []) (new := [.sl v sz m xs]) (X := []) h (List.Perm.refl _) (Kept.refl _ _) (by simp) (by
    intro q hq
    simp only [List.mem_singleton] at hq
    subst hq
    exact h.sat _ (List.mem_append_left _ hm)) List.nodup_nil (fun b hb => by cases hb) (by
    intro q hq
    simp only [List.mem_singleton] at hq
    subst hq
    exact h.far _ (List.mem_append_left _ hm))
theorem t_dup {rr : Option Nat} {c : Code} {R : KR} {sz m : Nat} {xs : List Value} {r : List Ent} (p : Pick es (.sl v sz m xs) r) (h : T P n w0 M rr c f (.sl v sz m xs :: es) R) : T P n w0 M rr c f es R := fun G a w hf hw => h G a w hf (hw.dup p.mem)
theorem Fin.normalM {fn : Func} {Post : Value → List Ent → Prop} {es' : List Ent} (ms : List Nat) (hr : Res P n fn f es' v) (hs : Sub es (ms.map Ent.mk ++ es')) (h : Post v es') (hm : f mkS = marksV ms := by rfl) : Fin P n fn Post .normal f es := ⟨v, ms, es', hr, hm, hs, h⟩
theorem Fin.retM {fn : Func} {Post : Value → List Ent → Prop} {es' : List Ent} (ms : List Nat) (hr : Res P n fn f es' v) (hs : Sub es (ms.map Ent.mk ++ es')) (h : Post v es') (hm : f mkS = marksV ms := by rfl) : Fin P n fn Post .ret f es := ⟨v, ms, es', hr, hm, hs, h⟩
theorem pu_makeFuncL {k : Nat} {cap : List Operand} : Pu P ⟨d, .makeFunc (.func k) #[] cap.toArray, ty, pos, af, g⟩ f es (.func (.func k) #[] (cap.map (ev f)).toArray) := by
  have := pu_makeFunc (P := P) (f := f) (es := es) (d := d) (ty := ty) (pos := pos) (af := af) (g := g) (k := k) (cap := cap.toArray)
  simpa using this
theorem sub_skip {a : Ent} {l s : List Ent} (h : Sub l s) : Sub (a :: l) s := by
  induction h with
  | nil => exact .nil
  | cons p _ ih => exact .cons (.there p) ih
theorem range_prefix {k q : Nat} (h : k < q) : List.range k ++ [k] <+: List.range q := by
  rw [← List.range_succ]
  exact ⟨(List.range (q - (k + 1))).map (· + (k + 1)), by
    apply List.ext_getElem?
    intro i
    by_cases hi : i < k + 1
    · rw [List.getElem?_append_left (by simpa using hi), List.getElem?_range hi, List.getElem?_range (by omega)]
    · rw [List.getElem?_append_right (by simpa using hi)]
      by_cases hq : i < q
      · rw [List.getElem?_map, List.length_range, List.getElem?_range (by omega), List.getElem?_range hq]
        simp; omega
      · rw [List.getElem?_eq_none (by simp; omega), List.getElem?_eq_none (by simpa using hq)]⟩
end
end Go.Proofs.HL
