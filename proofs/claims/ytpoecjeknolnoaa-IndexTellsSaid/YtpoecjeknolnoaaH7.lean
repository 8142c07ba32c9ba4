/- Part of my layer of laws over any program of the model: what it shows stands at each theorem. Conditions: those that each theorem names. -/
import Derived.Test.YtpoecjeknolnoaaH6
/-
  THE LAYER "HL", part 7: more of the same, shaped for the walks that a program prints.
-/
namespace Go.Proofs.HL
open Go.RowKit
section
variable {P : Program} {n : Nat} {w0 : World} {M : List Nat} {f : Fm} {es : List Ent} {x y z : Operand} {d : Option Nat} {ty t t' : TypeId} {pos : String} {af : Array Edge} {g : Option (Nat × Bool)} {v u : Value} {cs : List Value} {K : KK}
/-- A result that is a variable of the call's own. -/
theorem ResV.cellA {t : Nat} {ty : TypeId} {b k : Nat} (h : ev f (.tmp t) = .pointer (some ⟨b, 0, none⟩)) (hagg : ∀ w, (isAgg ty).run P w = .ok true w) (hz : ∀ w, (sizeOf ty).run P w = .ok k w) (hs : Has es b cs) (hl : cs.length = k) : ResV P es f (.cell t ty) (.agg cs.toArray) :=
  .cell h fun w hw => by
    obtain ⟨t', ht⟩ := hs w hw
    refine run_loadVar_list hagg hz hl fun j u hu => ?_
    rw [Addr.add_mid, cell_of_row w b _ _ t' (0, 0) ht]
    simpa using hu
theorem ResV.cell1 {t : Nat} {ty : TypeId} {b : Nat} (h : ev f (.tmp t) = .pointer (some ⟨b, 0, none⟩)) (hagg : ∀ w, (isAgg ty).run P w = .ok false w) (hs : Has es b cs) (hc : cs[0]? = some v) : ResV P es f (.cell t ty) v :=
  .cell h fun w hw => by
    obtain ⟨t', ht⟩ := hs w hw
    refine run_loadVar_one hagg ?_
    rw [cell_of_row w b _ _ t' (0, 0) ht]
    simpa using hc
theorem lo_store1E {r : List Ent} {b o : Nat} {cs' : List Value} (hd : dstOk d n = true) (hx : ev f x = .pointer (some ⟨b, o, none⟩)) (hy : ev f y = v) (p : Pick es (.own b t cs) r) (hz : ∀ w, (sizeOf t').run P w = .ok 1 w) (h1 : v.oneCell' = true) (hl : o < cs.length) (hcs : cs.set o v = cs')
    (next : K (updO f d undef) (.own b t cs' :: r)) : Lo P n w0 M ⟨d, .store t' x y, ty, pos, af, g⟩ f es K := lo_store1 hd hx hy p hz h1 hl (by rw [hcs]; exact next)
/-- A store of several cells somewhere in a block. -/
theorem lo_storeE {r : List Ent} {b o k : Nat} {vs cs' : List Value} (hd : dstOk d n = true) (hx : ev f x = .pointer (some ⟨b, o, none⟩)) (hy : ev f y = .agg vs.toArray) (p : Pick es (.own b t cs) r) (hz : ∀ w, (sizeOf t').run P w = .ok k w) (hk : vs.length = k)
    (h1 : ∀ u ∈ vs, u.oneCell' = true) (hl : o + k ≤ cs.length) (hcs : putAt cs o vs = cs') (next : K (updO f d undef) (.own b t cs' :: r)) : Lo P n w0 M ⟨d, .store t' x y, ty, pos, af, g⟩ f es K :=
  lo_store (vs := vs) hd hx hy p (by rw [hk]; exact hz) (by simp [Value.cells]) h1 (by omega) (by rw [hcs]; exact next)
/-- A store of a whole variable. -/
theorem lo_storeV {r : List Ent} {b k : Nat} {vs : List Value} (hd : dstOk d n = true) (hx : ev f x = .pointer (some ⟨b, 0, none⟩)) (hy : ev f y = .agg vs.toArray) (p : Pick es (.own b t cs) r) (hz : ∀ w, (sizeOf t').run P w = .ok k w) (hk : vs.length = k)
    (h1 : ∀ u ∈ vs, u.oneCell' = true) (hl : cs.length = k) (next : K (updO f d undef) (.own b t vs :: r)) : Lo P n w0 M ⟨d, .store t' x y, ty, pos, af, g⟩ f es K :=
  lo_storeAll (vs := vs) hd hx hy p (by rw [hk]; exact hz) h1 (by omega) next
theorem lo_rowOf {e sz len : Nat} {o : Oper} {KK' : Nat → KK} (h : Lo P n w0 M o f es (fun f' es' => ∃ b r, es' = .own b e cs :: r ∧ w0.heap.size ≤ b ∧ KK' b f' (.row e sz (.slice (some ⟨b, 0, none⟩) len len) len cs :: r))) (hl : cs.length = len * sz) (hk : len ≤ maxLen) :
    Lo P n w0 M o f es (fun f' es' => ∃ b, w0.heap.size ≤ b ∧ KK' b f' es') := by
  intro r G a w hf hw Q
  refine Oper.wpIn_mono ?_ (h r G a w hf hw Q)
  rintro a' w' ⟨f', es', h1, h2, b, r', rfl, h3, h4⟩
  exact ⟨f', _, h1, h2.ownRow .here hl hk, b, h3, h4⟩
theorem lo_mono {o : Oper} {K' : KK} (h : Lo P n w0 M o f es K) (hK : ∀ f es, K f es → K' f es) : Lo P n w0 M o f es K' := fun r G a w hf hw Q =>
  Oper.wpIn_mono (fun _ _ ⟨f', es', h1, h2, h3⟩ => ⟨f', es', h1, h2, hK _ _ h3⟩) (h r G a w hf hw Q)
/-- A literal slice, as a row of the call's own. -/
theorem lo_buildRow {e : TypeId} {len sz : Nat} {parts : Array (Nat × Operand)} {z0 : List Value} (hd : dstOk d n = true) (ht : P.underlying t = some (.slice e)) (hz : ∀ w, (sizeOf e).run P w = .ok sz w) (hlen : 0 < len * sz ∧ len * sz ≤ 16777216)
    (hz0 : ∀ w, (zeroValue e).run P w = .ok v w) (hv : (Array.range (len * sz)).map (fun i => v.cells[i % v.cells.size]!) = z0.toArray)
    (hfill : Instr.fill (fun i => some (i * sz, sz)) z0.toArray (parts.toList.map fun p => (p.1, ev f p.2)) = some cs.toArray) (hl : cs.length = len * sz) (hsz : 0 < sz)
    (next : ∀ b, w0.heap.size ≤ b → K (updO f d (.slice (some ⟨b, 0, none⟩) len len)) (.row e sz (.slice (some ⟨b, 0, none⟩) len len) len cs :: es)) : Lo P n w0 M ⟨d, .buildSlice t len parts, ty, pos, af, g⟩ f es K := by
  have hk : len ≤ maxLen := by
    have : len ≤ len * sz := Nat.le_mul_of_pos_right _ hsz
    simp only [maxLen]
    omega
  refine lo_mono (lo_rowOf (sz := sz) (len := len) (KK' := fun _ => K) (lo_buildSlice hd ht hz hlen hz0 hv hfill (fun b hb => ⟨b, es, rfl, hb, next b hb⟩)) hl hk) ?_
  rintro f' es' ⟨_, _, h⟩
  exact h
theorem range_map_one (k : Nat) (hv : v.oneCell' = true) : (Array.range (k * 1)).map (fun i => v.cells[i % v.cells.size]!) = (List.replicate k v).toArray := by
  have hc : v.cells = #[v] := by
    cases v <;> first | rfl | (simp [Value.oneCell'] at hv)
  apply Array.ext
  · simp
  · intro i h1 h2
    simp only [Array.getElem_map, hc, List.getElem_toArray, List.getElem_replicate]
    have : i % 1 = 0 := Nat.mod_one i
    simp [this]
/-- .. of elements of one cell. -/
theorem lo_buildRow1 {e : TypeId} {len : Nat} {parts : Array (Nat × Operand)} (hd : dstOk d n = true) (ht : P.underlying t = some (.slice e)) (hz : ∀ w, (sizeOf e).run P w = .ok 1 w) (hlen : 0 < len ∧ len ≤ 16777216)
    (hz0 : ∀ w, (zeroValue e).run P w = .ok v w) (hv : v.oneCell' = true)
    (hfill : Instr.fill (fun i => some (i * 1, 1)) (List.replicate len v).toArray (parts.toList.map fun p => (p.1, ev f p.2)) = some cs.toArray) (hl : cs.length = len)
    (next : ∀ b, w0.heap.size ≤ b → K (updO f d (.slice (some ⟨b, 0, none⟩) len len)) (.row e 1 (.slice (some ⟨b, 0, none⟩) len len) len cs :: es)) : Lo P n w0 M ⟨d, .buildSlice t len parts, ty, pos, af, g⟩ f es K :=
  lo_buildRow hd ht hz (by omega) hz0 (range_map_one len hv) hfill (by omega) (by decide) next
theorem lo_buildRow0 {e : TypeId} {sz : Nat} (hd : dstOk d n = true) (ht : P.underlying t = some (.slice e)) (hz : ∀ w, (sizeOf e).run P w = .ok sz w)
    (next : ∀ b, w0.heap.size ≤ b → K (updO f d (.slice (some ⟨b, 0, none⟩) 0 0)) (.row e sz (.slice (some ⟨b, 0, none⟩) 0 0) 0 [] :: es)) : Lo P n w0 M ⟨d, .buildSlice t 0 #[], ty, pos, af, g⟩ f es K := by
  refine lo_mono (lo_rowOf (sz := sz) (len := 0) (KK' := fun _ => K) (lo_buildSlice0 hd ht hz (fun b hb => ⟨b, es, rfl, hb, next b hb⟩)) (by simp) (by simp [maxLen])) ?_
  rintro f' es' ⟨_, _, h⟩
  exact h
/-- append, with what it comes to told in one's own words. -/
theorem lo_appendE {e ty' : TypeId} {size bytes m k : Nat} {xs news xs' : List Value} {k' : Nat} {r : List Ent} (he : ElemOk P t e size bytes) (hd : dstOk d n = true) (hx : ev f x = v) (hy : ev f y = u)
    (p : Pick es (.row e size v k xs) r) (hs : Src es u size m news) (h1 : ∀ u ∈ news, u.oneCell' = true) (hlen : (k + m) * bytes ≤ 140737488355328 ∧ k + m ≤ 140737488355328) (hk : k + m = k') (hxs : xs ++ news = xs')
    (next : ∀ v', K (updO f d v') (.row e size v' k' xs' :: r)) : Lo P n w0 M ⟨d, .call ⟨.builtin .append, #[x, y], #[t, t]⟩, ty', pos, af, g⟩ f es K := by
  subst hk hxs
  exact lo_append he hd hx hy p hs h1 hlen next
/-- A value in an appended list. -/
theorem one_map {α : Type} (F : α → Value) (hF : ∀ a, (F a).oneCell' = true) (l : List α) : ∀ u ∈ l.map F, u.oneCell' = true := fun u hu => by
  obtain ⟨a, _, rfl⟩ := List.mem_map.1 hu
  exact hF a
theorem one_rep {k : Nat} (hv : v.oneCell' = true) : ∀ u ∈ List.replicate k v, u.oneCell' = true := fun u hu => by
  rw [(List.mem_replicate.1 hu).2]; exact hv
/-! ### Calls of a function that is named -/
theorem lo_callF {α : Type} {k : FuncId} {args : List Operand} {tt : Array TypeId} (φ : α → Prop) (V : α → Value) (E : α → List Ent)
    (hcall : ∀ (as : Array Value) (w : World), (callFunc k as).run P w = .ok (.enter k as) w) (hd : dstOk d n = true)
    (hC : ∀ w, Sat es w → Calls P k (args.map (ev f)).toArray w (Ret [] w fun v w' => ∃ i, φ i ∧ v = V i ∧ Fresh w.heap.size (E i) w'))
    (next : ∀ i, φ i → K (updO f d (V i)) (E i ++ es)) : Lo P n w0 M ⟨d, .call ⟨.value (.func k), args.toArray, tt⟩, ty, pos, af, g⟩ f es K :=
  lo_call (cap := []) φ V E rfl hcall hd (by rw [List.append_nil]; exact hC) next
/-- .. that hands back one thing in memory of its own: the entry E of the value. -/
theorem lo_callR {k : FuncId} {args : List Operand} {tt : Array TypeId} {E : Value → Ent}
    (hcall : ∀ (as : Array Value) (w : World), (callFunc k as).run P w = .ok (.enter k as) w) (hd : dstOk d n = true)
    (hC : ∀ w, Sat es w → Calls P k (args.map (ev f)).toArray w (Ret [] w fun v w' => ∃ i : Value, True ∧ v = i ∧ Fresh w.heap.size [E i] w'))
    (next : ∀ v, K (updO f d v) (E v :: es)) : Lo P n w0 M ⟨d, .call ⟨.value (.func k), args.toArray, tt⟩, ty, pos, af, g⟩ f es K :=
  lo_callF (fun _ : Value => True) (fun v => v) (fun v => [E v]) hcall hd hC (fun v _ => next v)
theorem lo_callFP {k : FuncId} {args : List Operand} {tt : Array TypeId} (hcall : ∀ (as : Array Value) (w : World), (callFunc k as).run P w = .ok (.enter k as) w) (hd : dstOk d n = true)
    (hC : ∀ w, Sat es w → Gives P k (args.map (ev f)).toArray w v) : LoP P n w0 M ⟨d, .call ⟨.value (.func k), args.toArray, tt⟩, ty, pos, af, g⟩ f es v :=
  lo_callP (cap := []) rfl hcall hd (by rw [List.append_nil]; exact hC)
theorem lo_callFQ {k : FuncId} {args : List Operand} {tt : Array TypeId} (hcall : ∀ (as : Array Value) (w : World), (callFunc k as).run P w = .ok (.enter k as) w) (hd : dstOk d n = true)
    (hC : ∀ w, Sat es w → Gives P k (args.map (ev f)).toArray w v) (next : K (updO f d v) es) : Lo P n w0 M ⟨d, .call ⟨.value (.func k), args.toArray, tt⟩, ty, pos, af, g⟩ f es K := lo_callFP hcall hd hC K next
end
end Go.Proofs.HL
