/- Part of my layer of laws over any program of the model: what it shows stands at each theorem. Conditions: those that each theorem names. -/
import Derived.Test.YtpoecjeknolnoaaH3
import Derived.Laws.BitsLemmas
/-
  THE LAYER "HL", part 4: operations that make memory or write it; calls.
-/
namespace Go.Proofs.HL
open Go.RowKit

section
variable {P : Program} {n : Nat} {w0 : World} {M : List Nat} {f : Fm} {es : List Ent} {x y z : Operand} {d : Option Nat} {ty t t' : TypeId} {pos : String} {af : Array Edge} {g : Option (Nat × Bool)} {v u : Value} {cs : List Value} {K : KK}

/-- An operation that is one run of a Sem that yields a value and leads to another world. -/
theorem lo_of {o : Oper} {s : Sem Value} (ho : execOp (ev f) o = (do pure (.value (← s)))) (hd : dstOk o.dst n = true)
    (h : ∀ G w, Holds w0 M (es ++ G) w → ∃ v w' es', s.run P w = .ok v w' ∧ Holds w0 M (es' ++ G) w' ∧ K (updO f o.dst v) es') : Lo P n w0 M o f es K := by
  intro r G a w hf hw Q
  obtain ⟨v, w', es', h1, h2, h3⟩ := h G w hw
  exact wpIn_value (by rw [hf.eval, ho]; simp [h1]) ⟨_, es', hf.put hd v, h2, h3⟩
theorem lo_ofU {o : Oper} {s : Sem Unit} (ho : execOp (ev f) o = (do s; pure .skip)) (hd : dstOk o.dst n = true)
    (h : ∀ G w, Holds w0 M (es ++ G) w → ∃ w' es', s.run P w = .ok () w' ∧ Holds w0 M (es' ++ G) w' ∧ K (updO f o.dst undef) es') : Lo P n w0 M o f es K := by
  intro r G a w hf hw Q
  obtain ⟨w', es', h1, h2, h3⟩ := h G w hw
  exact wpIn_skip' (by rw [hf.eval, ho]; simp [h1]) ⟨_, es', hf.put hd undef, h2, h3⟩
theorem Holds.new {w : World} (h : Holds w0 M es w) (t : TypeId) (cs : List Value) : Holds w0 M (.own w.heap.size t cs :: es) (w.alloc (.cells cs.toArray t)) :=
  Holds.go (old := []) (new := [.own w.heap.size t cs]) h (List.Perm.refl _) (Kept.alloc [] w _) (by simp) (by
    intro e he
    simp only [List.mem_singleton] at he
    subst he
    exact heap_alloc_new w _) (by simp [Ent.blk]) (by simp [Ent.blk]) (by
    intro e he
    simp only [List.mem_singleton] at he
    subst he
    trivial)
/-- A new block whose cells are cs; the value names it. -/
theorem lo_new {o : Oper} {s : Sem Value} (ho : execOp (ev f) o = (do pure (.value (← s)))) (hd : dstOk o.dst n = true) (V : Nat → Value) (hs : ∀ w, Sat es w → s.run P w = .ok (V w.heap.size) (w.alloc (.cells cs.toArray t)))
    (next : ∀ b, w0.heap.size ≤ b → K (updO f o.dst (V b)) (.own b t cs :: es)) : Lo P n w0 M o f es K :=
  lo_of ho hd fun G w hw => ⟨_, _, _, hs w hw.sat.left, Holds.new (es := es ++ G) hw t cs, next _ hw.kept.size⟩
theorem lo_box (hd : dstOk d n = true) (hx : ev f x = v) (hv : v.cells.toList = cs) (next : ∀ b, w0.heap.size ≤ b → K (updO f d (.pointer (some ⟨b, 0, none⟩))) (.own b t cs :: es)) : Lo P n w0 M ⟨d, .box t x, ty, pos, af, g⟩ f es K :=
  lo_new (t := t) (cs := cs) rfl hd (fun b => .pointer (some ⟨b, 0, none⟩)) (fun w _ => by
    rw [hx]
    have : v.cells = cs.toArray := by rw [← hv]
    simp [Instr.box, newVar, newRow, newObj, Sem.run, this]) next
/-- A parameter, or a value, that gets a variable of its own. -/
theorem lo_boxA (hd : dstOk d n = true) (hx : ev f x = .agg cs.toArray) (next : ∀ b, w0.heap.size ≤ b → K (updO f d (.pointer (some ⟨b, 0, none⟩))) (.own b t cs :: es)) : Lo P n w0 M ⟨d, .box t x, ty, pos, af, g⟩ f es K :=
  lo_box hd hx (by simp [Value.cells]) next
theorem cells_one (h : v.oneCell' = true) : v.cells.toList = [v] := by
  cases v <;> first | rfl | (simp [Value.oneCell'] at h)
theorem lo_box1 (hd : dstOk d n = true) (hx : ev f x = v) (h1 : v.oneCell' = true) (next : ∀ b, w0.heap.size ≤ b → K (updO f d (.pointer (some ⟨b, 0, none⟩))) (.own b t [v] :: es)) : Lo P n w0 M ⟨d, .box t x, ty, pos, af, g⟩ f es K :=
  lo_box hd hx (cells_one h1) next
theorem lo_allocA (hd : dstOk d n = true) (hz : ∀ w, (zeroValue t).run P w = .ok (.agg cs.toArray) w) (next : ∀ b, w0.heap.size ≤ b → K (updO f d (.pointer (some ⟨b, 0, none⟩))) (.own b t cs :: es)) : Lo P n w0 M ⟨d, .alloc t, ty, pos, af, g⟩ f es K :=
  lo_new (t := t) (cs := cs) rfl hd (fun b => .pointer (some ⟨b, 0, none⟩)) (fun w _ => by
    simp [Instr.alloc, hz, newVar, newRow, newObj, Sem.run, Value.cells]) next
theorem lo_alloc (hd : dstOk d n = true) (hz : ∀ w, (zeroValue t).run P w = .ok v w) (hv : v.cells.toList = cs) (next : ∀ b, w0.heap.size ≤ b → K (updO f d (.pointer (some ⟨b, 0, none⟩))) (.own b t cs :: es)) : Lo P n w0 M ⟨d, .alloc t, ty, pos, af, g⟩ f es K :=
  lo_new (t := t) (cs := cs) rfl hd (fun b => .pointer (some ⟨b, 0, none⟩)) (fun w _ => by
    have : v.cells = cs.toArray := by rw [← hv]
    simp [Instr.alloc, hz, newVar, newRow, newObj, Sem.run, this]) next
/-- A literal slice. -/
theorem lo_buildSlice {e : TypeId} {len sz : Nat} {parts : Array (Nat × Operand)} {z0 : List Value} (hd : dstOk d n = true) (ht : P.underlying t = some (.slice e)) (hz : ∀ w, (sizeOf e).run P w = .ok sz w) (hlen : 0 < len * sz ∧ len * sz ≤ 16777216)
    (hz0 : ∀ w, (zeroValue e).run P w = .ok v w) (hv : (Array.range (len * sz)).map (fun i => v.cells[i % v.cells.size]!) = z0.toArray)
    (hfill : Instr.fill (fun i => some (i * sz, sz)) z0.toArray (parts.toList.map fun p => (p.1, ev f p.2)) = some cs.toArray)
    (next : ∀ b, w0.heap.size ≤ b → K (updO f d (.slice (some ⟨b, 0, none⟩) len len)) (.own b e cs :: es)) : Lo P n w0 M ⟨d, .buildSlice t len parts, ty, pos, af, g⟩ f es K :=
  lo_new (t := e) (cs := cs) rfl hd (fun b => .slice (some ⟨b, 0, none⟩) len len) (fun w _ => by
    have h1 : ¬ (len * sz > 2 ^ 24) := by have : (2 : Nat) ^ 24 = 16777216 := by decide
                                          omega
    have h2 : ¬ (len * sz = 0) := by omega
    have h3 : (parts.map fun p => (p.1, ev f p.2)).toList = parts.toList.map fun p => (p.1, ev f p.2) := by simp
    simp only [Instr.buildSlice, Sem.run_bind, run_underlying ht, Result.andThen_ok, hz, h1, h2, if_false, hz0, Sem.run_pure, hv]
    have h4 := hfill
    rw [← h3] at h4
    simp only [h4]
    simp [newRow, newObj, Sem.run]) next
/-- The empty literal slice. -/
theorem lo_buildSlice0 {e : TypeId} {sz : Nat} (hd : dstOk d n = true) (ht : P.underlying t = some (.slice e)) (hz : ∀ w, (sizeOf e).run P w = .ok sz w)
    (next : ∀ b, w0.heap.size ≤ b → K (updO f d (.slice (some ⟨b, 0, none⟩) 0 0)) (.own b e [] :: es)) : Lo P n w0 M ⟨d, .buildSlice t 0 #[], ty, pos, af, g⟩ f es K :=
  lo_new (t := e) (cs := []) rfl hd (fun b => .slice (some ⟨b, 0, none⟩) 0 0) (fun w _ => by
    simp [Instr.buildSlice, run_underlying ht, hz, Instr.fill, newRow, newObj, Sem.run]
    congr 2
    exact Array.eq_empty_of_size_eq_zero (by simp)) next

/-! ### Stores -/
/-- The cells from off on are vs. -/
def putAt (cs : List Value) (off : Nat) (vs : List Value) : List Value := cs.take off ++ vs ++ cs.drop (off + vs.length)
theorem Holds.putRow {w : World} {b : Nat} {r G : List Ent} {cs' : List Value} (h : Holds w0 M (es ++ G) w) (p : Pick es (.own b t cs) r) : Holds w0 M ((.own b t cs' :: r) ++ G) (w.setRow b cs'.toArray) := by
  have hb : w.heap[b]? = some (.cells cs.toArray t (0, 0)) := h.sat _ (List.mem_append_left _ p.mem)
  refine Holds.goG (old := [.own b t cs]) (new := [.own b t cs']) (X := [b]) h p.perm ?_ (by simp [Ent.blk]) ?_ (by simp [Ent.blk]) (by simp [Ent.blk]) ?_
  · exact ⟨rfl, rfl, rfl, by simp, fun k _ hk => setRow_other w b k _ (by simpa using hk)⟩
  · intro e he
    simp only [List.mem_singleton] at he
    subst he
    exact setRow_heap w b _ _ t (0, 0) hb
  · intro e he
    simp only [List.mem_singleton] at he
    subst he
    trivial
theorem run_storeVar_at {w : World} {b o : Nat} {vs : List Value} (hb : w.heap[b]? = some (.cells cs.toArray t (0, 0))) (hz : ∀ w, (sizeOf t').run P w = .ok vs.length w) (hv : v.cells.toList = vs) (h1 : ∀ u ∈ vs, u.oneCell' = true) (hl : o + vs.length ≤ cs.length) :
    (storeVar t' ⟨b, o, none⟩ v).run P w = .ok () (w.setRow b (putAt cs o vs).toArray) := by
  have h := run_storeCells_at P b o t vs 0 cs.toArray w hb (by simpa using hl) h1
  simp only [Nat.add_zero] at h
  have hs : v.cells.size = vs.length := by rw [← hv]; simp
  simp [storeVar, hz, hs, hv, h, putAt]
theorem lo_store {r : List Ent} {b o : Nat} {vs : List Value} (hd : dstOk d n = true) (hx : ev f x = .pointer (some ⟨b, o, none⟩)) (hy : ev f y = v) (p : Pick es (.own b t cs) r) (hz : ∀ w, (sizeOf t').run P w = .ok vs.length w) (hv : v.cells.toList = vs)
    (h1 : ∀ u ∈ vs, u.oneCell' = true) (hl : o + vs.length ≤ cs.length) (next : K (updO f d undef) (.own b t (putAt cs o vs) :: r)) : Lo P n w0 M ⟨d, .store t' x y, ty, pos, af, g⟩ f es K :=
  lo_ofU rfl hd fun G w hw => ⟨_, _, by
    rw [hx, hy]
    simp only [Instr.storeAt, Instr.sureAddr, Sem.run_bind, Sem.run_pure, Result.andThen_ok]
    exact run_storeVar_at (hw.sat _ (List.mem_append_left _ p.mem)) hz hv h1 hl, hw.putRow p, next⟩
theorem one_cells (h : v.oneCell' = true) : v.cells.toList = [v] ∧ ∀ u ∈ [v], u.oneCell' = true := by
  refine ⟨?_, by simpa using h⟩
  cases v <;> first | rfl | (simp [Value.oneCell'] at h)
theorem putAt_one (cs : List Value) (o : Nat) (v : Value) (h : o < cs.length) : putAt cs o [v] = cs.set o v := by
  simp [putAt, List.set_eq_take_append_cons_drop, h]
/-- A store of one cell. -/
theorem lo_store1 {r : List Ent} {b o : Nat} (hd : dstOk d n = true) (hx : ev f x = .pointer (some ⟨b, o, none⟩)) (hy : ev f y = v) (p : Pick es (.own b t cs) r) (hz : ∀ w, (sizeOf t').run P w = .ok 1 w) (h1 : v.oneCell' = true) (hl : o < cs.length)
    (next : K (updO f d undef) (.own b t (cs.set o v) :: r)) : Lo P n w0 M ⟨d, .store t' x y, ty, pos, af, g⟩ f es K :=
  lo_store (vs := [v]) hd hx hy p hz (one_cells h1).1 (one_cells h1).2 (by simp; omega) (by rw [putAt_one cs o v hl]; exact next)
/-- A store of a whole variable that fills its block. -/
theorem lo_storeAll {r : List Ent} {b : Nat} {vs : List Value} (hd : dstOk d n = true) (hx : ev f x = .pointer (some ⟨b, 0, none⟩)) (hy : ev f y = .agg vs.toArray) (p : Pick es (.own b t cs) r) (hz : ∀ w, (sizeOf t').run P w = .ok vs.length w)
    (h1 : ∀ u ∈ vs, u.oneCell' = true) (hl : vs.length = cs.length) (next : K (updO f d undef) (.own b t vs :: r)) : Lo P n w0 M ⟨d, .store t' x y, ty, pos, af, g⟩ f es K :=
  lo_store (vs := vs) hd hx hy p hz (by simp [Value.cells]) h1 (by omega) (by
    have : putAt cs 0 vs = vs := by simp [putAt, hl]
    rw [this]; exact next)

/-! ### append -/
theorem run_append_of_nil (w : World) (B : Nat) (t ty e : TypeId) (i : TypeInfo) (size : Nat) (ht : P.underlying t = some (.slice e)) (hi : P.info? e = some i)
    (v : Value) (n : Nat) (xs : List Value) (hown : w.ownsRow B e size v n xs) (c : Nat) : (Builtin.append_ #[t, t] ty #[v, .slice none 0 c]).run P w = .ok v w := by
  rcases hown.2 with ⟨rfl, rfl⟩ | ⟨g, cap, cur, rfl, _, _, hnc, _⟩
  · simp [Builtin.append_, run_underlying ht, sizeOf, typeInfo, hi, Builtin.lenOf, Builtin.firstCells]
  · simp [Builtin.append_, run_underlying ht, sizeOf, typeInfo, hi, Builtin.lenOf, Builtin.firstCells, hnc, storeCells]
theorem run_append_any (w : World) (B : Nat) (t ty e : TypeId) (i : TypeInfo) (z : Value) (size bytes : Nat) (ht : P.underlying t = some (.slice e)) (hi : P.info? e = some i) (hz : i.zero = some z)
    (hsize : i.size = size) (hby : i.bytes = bytes) (hzs : z.cells.size = size) (hsz : 0 < size)
    (v : Value) (n : Nat) (xs : List Value) (hown : w.ownsRow B e size v n xs)
    (u : Value) (m : Nat) (news : List Value) (hr : Sl w u size m news) (h1 : ∀ u ∈ news, u.oneCell' = true)
    (h63 : n + m ≤ maxLen) (hbytes : (n + m) * bytes ≤ 140737488355328) (hbase : B ≤ w.heap.size) :
    ∃ v' w', (Builtin.append_ #[t, t] ty #[v, u]).run P w = .ok v' w' ∧ w'.ownsRow B e size v' (n + m) (xs ++ news) ∧ w.grownBy w' v.ownBlock ∧
      (v'.ownBlock = v.ownBlock ∨ v'.ownBlock = some w.heap.size) := by
  obtain ⟨⟨c, hu, _⟩, hrl, hrc⟩ := hr
  rw [hu]
  cases hA : base u with
  | none =>
    have hm : m = 0 := by
      rcases Nat.eq_zero_or_pos m with h0 | h0
      · exact h0
      · obtain ⟨ad, h, _⟩ := hrc h0
        rw [hA] at h
        cases h
    subst hm
    have hn : news = [] := List.eq_nil_of_length_eq_zero (by simpa using hrl)
    subst hn
    exact ⟨v, w, run_append_of_nil w B t ty e i size ht hi v n xs hown c, by simpa using hown, ⟨rfl, rfl, rfl, Nat.le_refl _, fun _ _ _ => rfl⟩, .inl rfl⟩
  | some ad =>
    have hcells : ∀ j q, news[j]? = some q → w.cell? (ad.add j) = some q := by
      intro j q hq
      rcases Nat.eq_zero_or_pos m with h0 | h0
      · subst h0
        have hn : news = [] := List.eq_nil_of_length_eq_zero (by simpa using hrl)
        subst hn
        simp at hq
      · obtain ⟨ad', h, hc⟩ := hrc h0
        rw [hA] at h
        obtain rfl := Option.some.inj h
        exact hc j q hq
    obtain ⟨v', w', hrun, h2, h3, _, h5⟩ := run_append_own_at (P := P) w B t ty e i z size bytes ht hi hz hsize hby hzs hsz v n xs hown ad m c news hrl hcells h1 h63 hbytes hbase
    exact ⟨v', w', hrun, h2, h3, h5⟩
/-- What append asks of the element's type. -/
structure ElemOk (P : Program) (t e : TypeId) (size bytes : Nat) : Prop where
  und : P.underlying t = some (.slice e)
  info : ∃ i z, P.info? e = some i ∧ i.zero = some z ∧ i.size = size ∧ i.bytes = bytes ∧ z.cells.size = size
  pos : 0 < size
theorem lo_append {e ty' : TypeId} {size bytes m k : Nat} {xs news : List Value} {r : List Ent} (he : ElemOk P t e size bytes) (hd : dstOk d n = true) (hx : ev f x = v) (hy : ev f y = u)
    (p : Pick es (.row e size v k xs) r) (hs : Src es u size m news) (h1 : ∀ u ∈ news, u.oneCell' = true) (hlen : (k + m) * bytes ≤ 140737488355328 ∧ k + m ≤ 140737488355328)
    (next : ∀ v', K (updO f d v') (.row e size v' (k + m) (xs ++ news) :: r)) : Lo P n w0 M ⟨d, .call ⟨.builtin .append, #[x, y], #[t, t]⟩, ty', pos, af, g⟩ f es K := by
  obtain ⟨ht, ⟨i, z, hi, hz, hsz, hby, hzs⟩, hpos⟩ := he
  intro r' G a w hf hw Q
  have hown : w.ownsRow 0 e size v k xs := hw.sat _ (List.mem_append_left _ p.mem)
  obtain ⟨v', w', hrun, h2, h3, h4⟩ := run_append_any (P := P) w 0 t ty' e i z size bytes ht hi hz hsz hby hzs hpos v k xs hown u m news (hs w hw.sat.left) h1 (by simp only [maxLen]; omega) hlen.1 (Nat.zero_le _)
  have hh : Holds w0 M ((.row e size v' (k + m) (xs ++ news) :: r) ++ G) w' := by
    refine Holds.goG (old := [.row e size v k xs]) (new := [.row e size v' (k + m) (xs ++ news)]) (X := v.ownBlock.toList) hw p.perm ?_ ?_ ?_ ?_ ?_ ?_
    · refine ⟨h3.os, h3.tape, h3.output, h3.size, fun q hq hqn => h3.block q hq ?_⟩
      intro hqe
      rw [← hqe] at hqn
      simp at hqn
    · intro b hb _
      cases hv : v.ownBlock with
      | none => rw [hv] at hb; simp at hb
      | some b' => rw [hv] at hb; simp at hb; subst hb; simp [Ent.blk, hv]
    · intro q hq
      simp only [List.mem_singleton] at hq
      subst hq
      exact h2
    · cases hv : v'.ownBlock <;> simp [Ent.blk, hv]
    · intro b hb
      cases hv : v'.ownBlock with
      | none => simp [Ent.blk, hv] at hb
      | some b' =>
        simp [Ent.blk, hv] at hb
        subst hb
        rcases h4 with h4 | h4
        · right; rw [hv] at h4; simp [Ent.blk, ← h4]
        · left; rw [hv] at h4; cases h4; exact Nat.le_refl _
    · intro q hq
      simp only [List.mem_singleton] at hq
      subst hq
      trivial
  refine wpIn_value (v := v') (w' := w') ?_ ⟨_, _, hf.put hd v', hh, next v'⟩
  rw [hf.eval]
  simp only [execOp, resolve, Sem.run_bind, Sem.run_pure, Result.andThen_ok, invoke, builtin, List.map_toArray, List.map_cons, List.map_nil, hx, hy, hrun]
/-- A nil slice is a row of the call's own; so is a block that was built whole. -/
theorem Holds.rowNil {w : World} {es : List Ent} (hw : Holds w0 M es w) (e : TypeId) (sz : Nat) : Holds w0 M (.row e sz (.slice none 0 0) 0 [] :: es) w :=
  Holds.go (old := []) (new := [.row e sz (.slice none 0 0) 0 []]) (X := []) hw (List.Perm.refl _) (Kept.refl _ _) (by simp) (by
    intro q hq
    simp only [List.mem_singleton] at hq
    subst hq
    exact World.ownsRow_nil w 0 e sz) (show ([] : List Nat).Nodup from List.nodup_nil) (fun b hb => by cases hb) (by
    intro q hq
    simp only [List.mem_singleton] at hq
    subst hq
    trivial)
theorem t_row_nil {r : Option Nat} {c : Code} {R : KR} (e : TypeId) (sz : Nat) (h : T P n w0 M r c f (.row e sz (.slice none 0 0) 0 [] :: es) R) : T P n w0 M r c f es R := fun G a w hf hw => h G a w hf (hw.rowNil e sz)
theorem rg_row_nil {r : Option Nat} {ops : Array Oper} {l : List Oper} (e : TypeId) (sz : Nat) (h : RG P n w0 M r ops l f (.row e sz (.slice none 0 0) 0 [] :: es) K) : RG P n w0 M r ops l f es K := fun G a w hf hw => h G a w hf (hw.rowNil e sz)
theorem own_row {w : World} {b e sz k : Nat} {cs : List Value} (h : w.heap[b]? = some (.cells cs.toArray e (0, 0))) (hl : cs.length = k * sz) (hk : k ≤ maxLen) : w.ownsRow 0 e sz (.slice (some ⟨b, 0, none⟩) k k) k cs :=
  ⟨hl, .inr ⟨b, k, cs.toArray, rfl, Nat.zero_le _, h, Nat.le_refl _, hk, by simpa using hl, by rw [← hl]; simp⟩⟩
theorem Holds.ownRow {w : World} {b sz k : Nat} {r G : List Ent} (h : Holds w0 M (es ++ G) w) (p : Pick es (.own b t cs) r) (hl : cs.length = k * sz) (hk : k ≤ maxLen) : Holds w0 M ((.row t sz (.slice (some ⟨b, 0, none⟩) k k) k cs :: r) ++ G) w :=
  Holds.goG (old := [.own b t cs]) (new := [.row t sz (.slice (some ⟨b, 0, none⟩) k k) k cs]) (X := []) h p.perm (Kept.refl _ _) (by simp) (by
    intro q hq
    simp only [List.mem_singleton] at hq
    subst hq
    exact own_row (h.sat _ (List.mem_append_left _ p.mem)) hl hk) (by simp [Ent.blk, Value.ownBlock]) (by simp [Ent.blk, Value.ownBlock]) (by
    intro q hq
    simp only [List.mem_singleton] at hq
    subst hq
    trivial)
theorem rg_own_row {rr : Option Nat} {ops : Array Oper} {l : List Oper} {b sz k : Nat} {r : List Ent} (p : Pick es (.own b t cs) r) (hl : cs.length = k * sz) (hk : k ≤ maxLen) (h : RG P n w0 M rr ops l f (.row t sz (.slice (some ⟨b, 0, none⟩) k k) k cs :: r) K) : RG P n w0 M rr ops l f es K := fun G a w hf hw =>
  h G a w hf (hw.ownRow p hl hk)
theorem t_own_row {rr : Option Nat} {c : Code} {R : KR} {b sz k : Nat} {r : List Ent} (p : Pick es (.own b t cs) r) (hl : cs.length = k * sz) (hk : k ≤ maxLen) (h : T P n w0 M rr c f (.row t sz (.slice (some ⟨b, 0, none⟩) k k) k cs :: r) R) : T P n w0 M rr c f es R := fun G a w hf hw =>
  h G a w hf (hw.ownRow p hl hk)

/-! ### Calls -/
/-- What a call hands over: new entries over new blocks. -/
structure Fresh (B : Nat) (es : List Ent) (w : World) : Prop where
  sat : Sat es w
  nodup : (es.filterMap Ent.blk).Nodup
  new : ∀ b ∈ es.filterMap Ent.blk, B ≤ b
  far : ∀ e ∈ es, ∀ (B' : Nat) (M' : List Nat), e.far B' M'
theorem Fresh.nil (B : Nat) (w : World) : Fresh B [] w := ⟨fun _ h => (by cases h), by simp, by simp, fun _ h => (by cases h)⟩
theorem run_call {k : FuncId} {fx : Operand} {cap : List Value} {args : List Operand} {tt : Array TypeId} (hfun : ev f fx = .func (.func k) #[] cap.toArray) (hcall : ∀ (as : Array Value) (w : World), (callFunc k as).run P w = .ok (.enter k as) w) (w : World) :
    (execOp (ev f) ⟨d, .call ⟨.value fx, args.toArray, tt⟩, ty, pos, af, g⟩).run P w = .ok (.enter k (args.map (ev f) ++ cap).toArray) w := by
  simp [execOp, resolve, hfun, Deferred.ofValue, invoke, hcall]
/-- The callee, by its contract: it hands over one of the values V i (i such that φ i) with the entries E i. -/
theorem lo_call {α : Type} {k : FuncId} {fx : Operand} {cap : List Value} {args : List Operand} {tt : Array TypeId} (φ : α → Prop) (V : α → Value) (E : α → List Ent)
    (hfun : ev f fx = .func (.func k) #[] cap.toArray) (hcall : ∀ (as : Array Value) (w : World), (callFunc k as).run P w = .ok (.enter k as) w) (hd : dstOk d n = true)
    (hC : ∀ w, Sat es w → Calls P k (args.map (ev f) ++ cap).toArray w (Ret [] w fun v w' => ∃ i, φ i ∧ v = V i ∧ Fresh w.heap.size (E i) w'))
    (next : ∀ i, φ i → K (updO f d (V i)) (E i ++ es)) : Lo P n w0 M ⟨d, .call ⟨.value fx, args.toArray, tt⟩, ty, pos, af, g⟩ f es K := by
  intro r G a w hf hw Q
  refine wpIn_enter (by rw [hf.eval]; exact run_call hfun hcall w) (hC w hw.sat.left) ?_
  rintro e w' ⟨v, rfl, hk, i, hi, rfl, hfr⟩
  refine ⟨_, rfl, _, E i ++ es, hf.put hd _, ?_, next i hi⟩
  exact Holds.goG (old := []) (new := E i) (X := []) hw (List.Perm.refl _) hk (by simp) hfr.sat hfr.nodup (fun b hb => .inl (hfr.new b hb)) (fun q hq => hfr.far q hq _ _)
/-- .. and writes into the blocks of some entries, which then read otherwise. -/
theorem lo_callX {α : Type} {k : FuncId} {fx : Operand} {cap : List Value} {args : List Operand} {tt : Array TypeId} (φ : α → Prop) (V : α → Value) (E : α → List Ent) {old r : List Ent} (X : List Nat)
    (hfun : ev f fx = .func (.func k) #[] cap.toArray) (hcall : ∀ (as : Array Value) (w : World), (callFunc k as).run P w = .ok (.enter k as) w) (hd : dstOk d n = true) (p : es.Perm (old ++ r)) (hX : ∀ b ∈ X, b ∈ old.filterMap Ent.blk)
    (hC : ∀ w, Sat es w → (es.filterMap Ent.blk).Nodup → Calls P k (args.map (ev f) ++ cap).toArray w (Ret X w fun v w' => ∃ i, φ i ∧ v = V i ∧ Sat (E i) w' ∧ ((E i).filterMap Ent.blk).Nodup ∧ (∀ b ∈ (E i).filterMap Ent.blk, w.heap.size ≤ b ∨ b ∈ old.filterMap Ent.blk) ∧ ∀ e ∈ E i, ∀ (B' : Nat) (M' : List Nat), e.far B' M'))
    (next : ∀ i, φ i → K (updO f d (V i)) (E i ++ r)) : Lo P n w0 M ⟨d, .call ⟨.value fx, args.toArray, tt⟩, ty, pos, af, g⟩ f es K := by
  intro rr G a w hf hw Q
  have hnd : (es.filterMap Ent.blk).Nodup := by
    have := hw.nodup
    rw [List.filterMap_append] at this
    exact (List.nodup_append.1 this).1
  refine wpIn_enter (by rw [hf.eval]; exact run_call hfun hcall w) (hC w hw.sat.left hnd) ?_
  rintro e w' ⟨v, rfl, hk, i, hi, rfl, h1, h2, h3, h4⟩
  refine ⟨_, rfl, _, E i ++ r, hf.put hd _, ?_, next i hi⟩
  exact Holds.goG (old := old) (new := E i) (X := X) hw p hk (fun b hb _ => hX b hb) h1 h2 h3 (fun q hq => h4 q hq _ _)
/-- A callee that hands back a plain value. -/
def Gives (P : Program) (k : FuncId) (args : Array Value) (w : World) (v : Value) : Prop := Calls P k args w (Ret [] w fun u _ => u = v)
theorem lo_callP {k : FuncId} {fx : Operand} {cap : List Value} {args : List Operand} {tt : Array TypeId} (hfun : ev f fx = .func (.func k) #[] cap.toArray) (hcall : ∀ (as : Array Value) (w : World), (callFunc k as).run P w = .ok (.enter k as) w) (hd : dstOk d n = true)
    (hC : ∀ w, Sat es w → Gives P k (args.map (ev f) ++ cap).toArray w v) : LoP P n w0 M ⟨d, .call ⟨.value fx, args.toArray, tt⟩, ty, pos, af, g⟩ f es v := fun _ hK =>
  lo_call (α := Unit) (fun _ => True) (fun _ => v) (fun _ => []) hfun hcall hd (fun w hw => (hC w hw).mono fun _ _ ⟨u, h1, h2, h3⟩ => ⟨u, h1, h2, (), trivial, h3, Fresh.nil _ _⟩) (fun _ _ => hK)
theorem lo_callQ {k : FuncId} {fx : Operand} {cap : List Value} {args : List Operand} {tt : Array TypeId} (hfun : ev f fx = .func (.func k) #[] cap.toArray) (hcall : ∀ (as : Array Value) (w : World), (callFunc k as).run P w = .ok (.enter k as) w) (hd : dstOk d n = true)
    (hC : ∀ w, Sat es w → Gives P k (args.map (ev f) ++ cap).toArray w v) (next : K (updO f d v) es) : Lo P n w0 M ⟨d, .call ⟨.value fx, args.toArray, tt⟩, ty, pos, af, g⟩ f es K := lo_callP hfun hcall hd hC K next
end
end Go.Proofs.HL
