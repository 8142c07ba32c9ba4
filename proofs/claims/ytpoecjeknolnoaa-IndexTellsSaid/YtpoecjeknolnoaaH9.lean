/- Part of my layer of laws over any program of the model: what it shows stands at each theorem. Conditions: those that each theorem names. -/
import Derived.Test.YtpoecjeknolnoaaH8
import Derived.Lib.AppendZerosOnto
import Derived.Lib.Overlaps
/-
  THE LAYER "HL", part 9: inside a row: its block, its cap; append of zeros; overlaps.
-/
namespace Go.Proofs.HL
open Go.RowKit
section
variable {P : Program} {n : Nat} {w0 : World} {M : List Nat} {f : Fm} {es : List Ent} {x y z : Operand} {d : Option Nat} {ty t t' : TypeId} {pos : String} {af : Array Edge} {g : Option (Nat × Bool)} {v u : Value} {cs : List Value} {K : KK}
theorem pu_cap {e : TypeId} {tt : Array TypeId} {A : Option Addr} {m c : Nat} (hx : ev f x = .slice A m c) (htt : tt[0]? = some t) (ht : P.underlying t = some (.slice e)) : Pu P ⟨d, .call ⟨.builtin .cap, #[x], tt⟩, ty, pos, af, g⟩ f es (.int .i64 (c : Int)) := by
  intro w _
  simp [execOp, resolve, invoke, builtin, Builtin.cap_, hx, htt, run_underlying ht, goInt]
/-- A slice of a slice over a block of the call's own; it may reach beyond its length, up to its cap. -/
theorem pu_sliceOwn {e : TypeId} {sz : Nat} {lo hi : Option Operand} {l h b o m c : Nat} (hx : ev f x = .slice (some ⟨b, o, none⟩) m c) (ht : P.underlying t = some (.slice e)) (hz : ∀ w, (sizeOf e).run P w = .ok sz w)
    (hl : BV (lo.map (ev f)) 0 l) (hh : BV (hi.map (ev f)) m h) (h1 : l ≤ h) (h2 : h ≤ c) (h3 : l < c) : Pu P ⟨d, .slice t x lo hi none, ty, pos, af, g⟩ f es (.slice (some ⟨b, o + l * sz, none⟩) (h - l) (c - l)) := by
  refine pu_of rfl fun w _ => ?_
  have hb := run_sliceBounds (P := P) (w := w) (isS := true) (cap := c) hl hh h1 h2
  rw [hx]
  simp only [Option.map_none, Instr.sliceAt, Sem.run_bind, run_underlying ht, Result.andThen_ok, Instr.slice, hb, hz, Sem.run_pure]
  rw [if_neg (by omega)]
  simp [Addr.add_mid]
/-- A row that is not nil is a block of its own. -/
theorem t_row_own {rr : Option Nat} {c : Code} {R : KR} {e : TypeId} {sz m : Nat} {xs : List Value} {r : List Ent} (p : Pick es (.row e sz v m xs) r) (hm : 0 < m)
    (h : ∀ b cap cs, v = .slice (some ⟨b, 0, none⟩) m cap → m ≤ cap → cap ≤ maxLen → cs.length = cap * sz → cs.take (m * sz) = xs → T P n w0 M rr c f (.own b e cs :: r) R) : T P n w0 M rr c f es R := fun G a w hf hw => by
  have hown : w.ownsRow 0 e sz v m xs := hw.sat _ (List.mem_append_left _ p.mem)
  rcases hown.2 with ⟨_, h0⟩ | ⟨b, cap, cur, rfl, _, hb, h1, h2, h3, h4⟩
  · omega
  · refine h b cap cur.toList rfl h1 h2 (by simpa using h3) h4 G a w hf ?_
    exact Holds.goG (old := [.row e sz (.slice (some ⟨b, 0, none⟩) m cap) m xs]) (new := [.own b e cur.toList]) (X := []) hw p.perm (Kept.refl _ _) (by simp) (by
      intro q hq
      simp only [List.mem_singleton] at hq
      subst hq
      exact hb) (by simp [Ent.blk]) (by simp [Ent.blk, Value.ownBlock]) (by
      intro q hq
      simp only [List.mem_singleton] at hq
      subst hq
      trivial)
/-- .. and back: a block whose first cells are the row's. -/
theorem Holds.ownRowC {w : World} {b sz m cap : Nat} {r G : List Ent} {e : TypeId} {xs : List Value} (h : Holds w0 M (es ++ G) w) (p : Pick es (.own b e cs) r) (hl : cs.length = cap * sz) (hm : m ≤ cap) (hc : cap ≤ maxLen) (hx : cs.take (m * sz) = xs) : Holds w0 M ((.row e sz (.slice (some ⟨b, 0, none⟩) m cap) m xs :: r) ++ G) w :=
  Holds.goG (old := [.own b e cs]) (new := [.row e sz (.slice (some ⟨b, 0, none⟩) m cap) m xs]) (X := []) h p.perm (Kept.refl _ _) (by simp) (by
    intro q hq
    simp only [List.mem_singleton] at hq
    subst hq
    have hb : w.heap[b]? = some (.cells cs.toArray e (0, 0)) := h.sat _ (List.mem_append_left _ p.mem)
    have hle : m * sz ≤ cap * sz := Nat.mul_le_mul_right _ hm
    exact ⟨by rw [← hx, List.length_take]; omega, .inr ⟨b, cap, cs.toArray, rfl, Nat.zero_le _, hb, hm, hc, by simpa using hl, by simpa using hx⟩⟩) (by simp [Ent.blk, Value.ownBlock]) (by simp [Ent.blk, Value.ownBlock]) (by
    intro q hq
    simp only [List.mem_singleton] at hq
    subst hq
    trivial)
theorem t_own_rowC {rr : Option Nat} {c : Code} {R : KR} {b sz m cap : Nat} {r : List Ent} {e : TypeId} {xs : List Value} (p : Pick es (.own b e cs) r) (hl : cs.length = cap * sz) (hm : m ≤ cap) (hc : cap ≤ maxLen) (hx : cs.take (m * sz) = xs) (h : T P n w0 M rr c f (.row e sz (.slice (some ⟨b, 0, none⟩) m cap) m xs :: r) R) : T P n w0 M rr c f es R := fun G a w hf hw =>
  h G a w hf (hw.ownRowC p hl hm hc hx)
/-- append(s, make(..)...), where s has no room: a new row. -/
theorem lo_appendZ {e tn ty' : TypeId} {i : TypeInfo} {zv : Value} {kn : IntKind} {A : Option Addr} {m c k : Nat} {xs : List Value} (hd : dstOk d n = true) (hx : ev f x = .slice A m c) (hy : ev f y = .int .i64 (k : Int)) (ht : P.underlying t = some (.slice e)) (htn : P.underlying tn = some (.int kn)) (hi : P.info? e = some i) (hz : i.zero = some zv)
    (hzs : zv.cells.size = i.size) (hs : 0 < i.size) (hsrc : Src es (.slice A m c) i.size m xs) (hk : 0 < k) (hg : c < m + k) (hsmall : m + k ≤ 1000000000) (hby : i.bytes ≤ 100000)
    (next : ∀ b cap rest, m + k ≤ cap → cap ≤ maxLen → (xs ++ rest).length = cap * i.size → K (updO f d (.slice (some ⟨b, 0, none⟩) (m + k) cap)) (.own b e (xs ++ rest) :: es)) : Lo P n w0 M ⟨d, .call ⟨.builtin .append, #[x, y], #[t, tn]⟩, ty', pos, af, g⟩ f es K := by
  intro r' G a w hf hw Q
  have hsl := hsrc w hw.sat.left
  have hsl' : Sl w.drew (.slice A m c) i.size m xs := ⟨hsl.1, hsl.2⟩
  have hold := run_firstCells (P := P) (k := m) hsl' (Nat.le_refl _)
  rw [← hsl.2.1, List.take_length] at hold
  have h2 := nextslicecap_le hg
  have hb : Builtin.nextslicecap (m + k) c * i.bytes ≤ 2000000000 * 100000 := Nat.mul_le_mul (by omega) hby
  have hkb : k * i.bytes ≤ 1000000000 * 100000 := Nat.mul_le_mul (by omega) hby
  have hrun := Go.Lib.run_append_grow_zeros (P := P) w t tn ty' e i zv .i64 kn ht htn hi hz A m c xs hold k hk hs hg (by omega) (by omega) (by omega)
  have hge := grownCap_ge w (m + k) c e
  have hcm := grownCap_le_maxLen w (m + k) c e (by simp only [maxLen]; omega)
  let rest := (Builtin.zeroCells zv.cells k ++ Builtin.zeroCells zv.cells (grownCap w (m + k) c e - (m + k))).toList
  have hcells : (xs.toArray ++ Builtin.zeroCells zv.cells k ++ Builtin.zeroCells zv.cells (grownCap w (m + k) c e - (m + k))) = (xs ++ rest).toArray := by
    apply Array.ext'
    simp [rest]
  rw [hcells] at hrun
  have hlen : (xs ++ rest).length = grownCap w (m + k) c e * i.size := by
    have e1 := size_zeroCells zv.cells k
    have e2 := size_zeroCells zv.cells (grownCap w (m + k) c e - (m + k))
    simp only [rest, List.length_append, Array.toList_append, Array.length_toList, e1, e2, hzs, hsl.2.1]
    rw [← Nat.add_mul, ← Nat.add_mul]
    congr 1
    omega
  refine wpIn_value (v := .slice (some ⟨w.heap.size, 0, none⟩) (m + k) (grownCap w (m + k) c e)) (w' := w.drew.alloc (.cells (xs ++ rest).toArray e)) ?_ ⟨_, _, hf.put hd _, ?_, next w.heap.size _ rest hge hcm hlen⟩
  · rw [hf.eval]
    simp only [execOp, resolve, Sem.run_bind, Sem.run_pure, Result.andThen_ok, invoke, builtin, List.map_toArray, List.map_cons, List.map_nil, hx, hy, hrun]
  · have hw' : Holds w0 M (es ++ G) w.drew := hw.drawn _
    exact Holds.new (es := es ++ G) hw' e (xs ++ rest)
theorem lo_appendZE {e tn ty' : TypeId} {size bytes : Nat} {kn : IntKind} {A : Option Addr} {m c k : Nat} {xs : List Value} (he : ElemOk P t e size bytes) (htn : P.underlying tn = some (.int kn)) (hd : dstOk d n = true) (hx : ev f x = .slice A m c) (hy : ev f y = .int .i64 (k : Int))
    (hsrc : Src es (.slice A m c) size m xs) (hk : 0 < k) (hg : c < m + k) (hsmall : m + k ≤ 1000000000) (hby : bytes ≤ 100000)
    (next : ∀ b cap rest, m + k ≤ cap → cap ≤ maxLen → (xs ++ rest).length = cap * size → K (updO f d (.slice (some ⟨b, 0, none⟩) (m + k) cap)) (.own b e (xs ++ rest) :: es)) : Lo P n w0 M ⟨d, .call ⟨.builtin .append, #[x, y], #[t, tn]⟩, ty', pos, af, g⟩ f es K := by
  obtain ⟨ht, ⟨i, zv, hi, hz, hsz, hby', hzs⟩, hpos⟩ := he
  subst hsz hby'
  exact lo_appendZ hd hx hy ht htn hi hz hzs hpos hsrc hk hg hsmall hby next
theorem row_block {w : World} {e : TypeId} {sz m b : Nat} {xs : List Value} (h : w.ownsRow 0 e sz (.slice (some ⟨b, 0, none⟩) m m) m xs) : w.heap[b]? = some (.cells xs.toArray e (0, 0)) := by
  rcases h.2 with ⟨h0, _⟩ | ⟨b', cap, cur, hv, _, hb, _, _, h3, h4⟩
  · cases h0
  · simp only [Value.slice.injEq, Option.some.injEq, Addr.mk.injEq, and_true] at hv
    obtain ⟨⟨rfl, _⟩, _, rfl⟩ := hv
    rw [hb]
    congr 2
    apply Array.ext'
    show cur.toList = xs
    rw [← h4, List.take_of_length_le (by simp [h3])]
theorem blk_ne {r r' : List Ent} {a b : Ent} {k : Nat} (hn : (es.filterMap Ent.blk).Nodup) (pa : Pick es a r) (pb : Pick r b r') (ha : a.blk = some k) (hb : b.blk = some k) : False := by
  have hp : es.Perm (a :: b :: r') := pa.perm.trans (pb.perm.cons a)
  have hq := (hp.filterMap Ent.blk).nodup_iff.1 hn
  rw [List.filterMap_cons, ha, List.filterMap_cons, hb] at hq
  simp at hq
/-- append into a block of the call's own that has room. -/
theorem lo_appendOwn {e ty' : TypeId} {size bytes b m c k : Nat} {xs cs' : List Value} {r : List Ent} (he : ElemOk P t e size bytes) (hd : dstOk d n = true) (hx : ev f x = .slice (some ⟨b, 0, none⟩) m c) (hy : ev f y = u)
    (p : Pick es (.own b e cs) r) (hs : Src es u size k xs) (h1 : ∀ u ∈ xs, u.oneCell' = true) (hroom : m + k ≤ c) (hl : (m + k) * size ≤ cs.length) (hcs : putAt cs (m * size) xs = cs')
    (next : K (updO f d (.slice (some ⟨b, 0, none⟩) (m + k) c)) (.own b e cs' :: r)) : Lo P n w0 M ⟨d, .call ⟨.builtin .append, #[x, y], #[t, t]⟩, ty', pos, af, g⟩ f es K := by
  obtain ⟨ht, ⟨i, zv, hi, hz, hsz, hby, hzs⟩, hpos⟩ := he
  subst hsz
  intro r' G a w hf hw Q
  have hsl := hs w hw.sat.left
  have hxl := hsl.2.1
  have hb : w.heap[b]? = some (.cells cs.toArray e (0, 0)) := hw.sat _ (List.mem_append_left _ p.mem)
  have hst := run_storeCells_at P b (m * i.size) e xs 0 cs.toArray w hb (by simp; rw [hxl, ← Nat.add_mul]; exact hl) h1
  have hfc := run_firstCells (P := P) (k := k) hsl (Nat.le_refl _)
  rw [← hxl, List.take_length] at hfc
  have hrun : (Builtin.append_ #[t, t] ty' #[.slice (some ⟨b, 0, none⟩) m c, u]).run P w = .ok (.slice (some ⟨b, 0, none⟩) (m + k) c) (w.setRow b cs'.toArray) := by
    obtain ⟨⟨c', hv, _⟩, _⟩ := hsl
    have hlen : (Builtin.lenOf u).run P w = .ok k w := by rw [hv]; simp [Builtin.lenOf]
    simp only [Nat.add_zero] at hst
    have hadd : (⟨b, 0, none⟩ : Addr).add (m * i.size) = ⟨b, m * i.size, none⟩ := by rw [Addr.add_mid, Nat.zero_add]
    simp [Builtin.append_, run_underlying ht, sizeOf, typeInfo, hi, hlen, hfc, hroom, hadd, hst, ← hcs, putAt]
  refine wpIn_value (v := .slice (some ⟨b, 0, none⟩) (m + k) c) (w' := w.setRow b cs'.toArray) ?_ ⟨_, _, hf.put hd _, hw.putRow p, next⟩
  rw [hf.eval]
  simp only [execOp, resolve, Sem.run_bind, Sem.run_pure, Result.andThen_ok, invoke, builtin, List.map_toArray, List.map_cons, List.map_nil, hx, hy, hrun]
/-- clear, inside a block of the call's own. -/
theorem lo_clearOwn {e ty' : TypeId} {zv : Value} {zs : List Value} {b o m c : Nat} {cs' : List Value} {r : List Ent} (hd : dstOk d n = true) (hx : ev f x = .slice (some ⟨b, o, none⟩) m c) (ht : P.underlying t = some (.slice e)) (hz : ∀ w, (zeroValue e).run P w = .ok zv w) (hzs : (Builtin.zeroCells zv.cells m).toList = zs) (hm : 0 < m)
    (p : Pick es (.own b e cs) r) (h1 : ∀ u ∈ zs, u.oneCell' = true) (hl : o + zs.length ≤ cs.length) (hcs : putAt cs o zs = cs')
    (next : K (updO f d (.tuple #[])) (.own b e cs' :: r)) : Lo P n w0 M ⟨d, .call ⟨.builtin .clear, #[x], #[t]⟩, ty', pos, af, g⟩ f es K := by
  intro r' G a w hf hw Q
  have hb : w.heap[b]? = some (.cells cs.toArray e (0, 0)) := hw.sat _ (List.mem_append_left _ p.mem)
  have hst := run_storeCells_at P b o e zs 0 cs.toArray w hb (by simpa using hl) h1
  obtain ⟨k, rfl⟩ : ∃ k, m = k + 1 := ⟨m - 1, by omega⟩
  have hrun : (Builtin.clear_ #[t] ty' #[.slice (some ⟨b, o, none⟩) (k + 1) c]).run P w = .ok (.tuple #[]) (w.setRow b cs'.toArray) := by
    simp only [Nat.add_zero] at hst
    simp [Builtin.clear_, run_underlying ht, hz, hzs, hst, ← hcs, putAt]
  refine wpIn_value (v := .tuple #[]) (w' := w.setRow b cs'.toArray) ?_ ⟨_, _, hf.put hd _, hw.putRow p, next⟩
  rw [hf.eval]
  simp only [execOp, resolve, Sem.run_bind, Sem.run_pure, Result.andThen_ok, invoke, builtin, List.map_toArray, List.map_cons, List.map_nil, hx, hrun]
end
end Go.Proofs.HL
