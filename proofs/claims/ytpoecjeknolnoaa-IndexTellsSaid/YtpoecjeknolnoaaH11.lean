/- Part of my layer of laws over any program of the model: what it shows stands at each theorem. Conditions: those that each theorem names. -/
import Derived.Test.YtpoecjeknolnoaaH10
import Derived.ProofKit
import Derived.Deep.Slices
import Derived.OpenShut
/-
  THE LAYER "HL", part 11: from a row's reading to entries, and back: a law that writes nothing that it was handed.
-/
namespace Go.Proofs.HL
open Go.RowKit Go.ChangeShapes Go.WideShapes
section
variable {H : Type} {enc : TypeId × Value → H} {P : Program} {W W' : World} {base : Nat} {spare : Nat → Bool} {held : Bool}
theorem fl_len {α : Type} (F : α → List Value) (c : Nat) : ∀ (l : List α), (∀ a ∈ l, (F a).length = c) → (l.flatMap F).length = l.length * c
  | [], _ => by simp
  | a :: l, h => by
    have ih := fl_len F c l (fun x hx => h x (by simp [hx]))
    have := h a (by simp)
    rw [List.flatMap_cons, List.length_append, ih, this, List.length_cons, Nat.add_mul, Nat.one_mul, Nat.add_comm]
theorem fl_get {α : Type} (F : α → List Value) (c : Nat) : ∀ (l : List α) (i q : Nat) (a : α), (∀ a ∈ l, (F a).length = c) → l[i]? = some a → q < c → (l.flatMap F)[i * c + q]? = (F a)[q]?
  | [], i, _, _, _, h, _ => by simp at h
  | b :: l, 0, q, a, h, hi, hq => by
    simp only [List.getElem?_cons_zero, Option.some.injEq] at hi
    subst hi
    have := h b (by simp)
    rw [List.flatMap_cons, Nat.zero_mul, Nat.zero_add, List.getElem?_append_left (by omega)]
  | b :: l, i + 1, q, a, h, hi, hq => by
    have ih := fl_get F c l i q a (fun x hx => h x (by simp [hx])) (by simpa using hi) hq
    have := h b (by simp)
    rw [List.flatMap_cons, List.getElem?_append_right (by rw [this, Nat.add_mul]; omega), this, show (i + 1) * c + q - c = i * c + q by rw [Nat.add_mul]; omega, ih]
theorem flat_single {k : IntKind} : ∀ l : List Int, l.flatMap (fun y => [Value.int k y]) = l.map (Value.int k)
  | [] => rfl
  | y :: l => by rw [List.flatMap_cons, flat_single l]; rfl
/-- An array of whole numbers. -/
theorem trod_nums {k : IntKind} {t e : TypeId} {n fuel : Nat} {cs : List Value} {x : DataW H × List MemPlace} (ht : P.underlying t = some (.array n e)) (he : P.underlying e = some (.int k)) (hc : P.cellsOf e = 1) (hct : P.cellsOf t = n)
    (h : DataW.trod enc P W base spare held fuel t cs = some x) : ∃ l : List Int, l.length = n ∧ cs = l.map (Value.int k) ∧ ∀ y ∈ l, (Lit.int k y).wf = true := by
  obtain ⟨xs, m, _, _, hl, hxl, hf⟩ := DataW.trod_array ht h
  rw [hct] at hl
  have h1 : ∀ i, i < n → ∃ y : Int, cs[i]? = some (.int k y) ∧ (Lit.int k y).wf = true := fun i hi => by
    have hi2 := hf i hi
    rw [List.getElem?_eq_getElem (by omega), hc, Nat.mul_one] at hi2
    obtain ⟨y, h2, _, h3⟩ := DataW.trod_int he hi2
    refine ⟨y, ?_, h3⟩
    have : (List.take 1 (List.drop i cs))[0]? = some (.int k y) := by rw [h2]; rfl
    rw [List.getElem?_take, if_pos (by decide), List.getElem?_drop] at this
    simpa using this
  obtain ⟨f, hf2⟩ := Go.Deep.choose_lt h1
  refine ⟨(List.range n).map f, by simp, ?_, ?_⟩
  · apply List.ext_getElem?
    intro i
    by_cases hi : i < n
    · rw [(hf2 i hi).1]; simp [hi]
    · rw [List.getElem?_eq_none (by omega), List.getElem?_eq_none (by simp; omega)]
  · intro y hy
    obtain ⟨i, hi, rfl⟩ := List.mem_map.1 hy
    exact (hf2 i (List.mem_range.1 hi)).2
/-- A slice that came in, its elements read one by one. -/
theorem open_sl {α : Type} [Inhabited α] {t e : TypeId} {sz : Nat} (Ok : α → Prop) (F : α → List Value) (ht : P.underlying t = some (.slice e)) (hc : P.cellsOf e = sz) (hsz : 0 < sz) (hlen : ∀ a, Ok a → (F a).length = sz)
    (hF : ∀ (n : Nat) (cs : List Value) (x : DataW H × List MemPlace), cs.length = sz → DataW.trod enc P W 0 (fun _ => true) true n e cs = some x → ∃ a, Ok a ∧ cs = F a)
    {v : Value} {d : DataW H} {p : List MemPlace} {b0 : Nat} (hv : Value.okWide P W .any b0 t v) (h : DataW.Trod enc P W 0 (fun _ => true) true t v d p) : ∃ l : List α, (∀ a ∈ l, Ok a) ∧ Sl W v sz l.length (l.flatMap F) := by
  obtain ⟨a0, len0, cap0, rfl⟩ := okWide_slice ht hv
  obtain ⟨fuel, hf⟩ := h
  rcases Go.Deep.open_slice ht hf with ⟨hn, _⟩ | ⟨a, len, cap, m, n, D, Pl, hcs, _, hl, hm, hmm, _, hx⟩
  · simp [Value.cells] at hn
    obtain ⟨rfl, rfl, rfl⟩ := hn
    exact ⟨[], (fun _ h => by cases h), ⟨⟨0, rfl, Nat.le_refl _, by simp [maxLen]⟩, (by simp), (fun h => absurd h (Nat.lt_irrefl 0))⟩⟩
  · simp [Value.cells] at hcs
    obtain ⟨rfl, rfl, rfl⟩ := hcs
    rw [if_pos rfl] at hmm
    subst hmm
    rw [hc] at hx
    have h1 : ∀ i, i < len0 → ∃ y : α, Ok y ∧ W.cells? 0 (a.add (i * sz)) sz = some (F y) := fun i hi => by
      obtain ⟨cs', h2, h3⟩ := hx i (by omega)
      obtain ⟨y, h4, rfl⟩ := hF _ _ _ (World.cells?_some h2).2.1 h3
      exact ⟨y, h4, h2⟩
    obtain ⟨f, hf2⟩ := Go.Deep.choose_lt h1
    have hok : ∀ y ∈ (List.range len0).map f, Ok y := fun y hy => by
      obtain ⟨i, hi, rfl⟩ := List.mem_map.1 hy
      exact (hf2 i (List.mem_range.1 hi)).1
    have hll : ((List.range len0).map f).length = len0 := by simp
    have hfl : (((List.range len0).map f).flatMap F).length = len0 * sz := by rw [fl_len F sz _ (fun y hy => hlen y (hok y hy)), hll]
    refine ⟨(List.range len0).map f, hok, ?_⟩
    rw [hll]
    refine ⟨⟨m, rfl, hl, hm⟩, hfl, fun _ => ⟨a, rfl, fun j u hu => ?_⟩⟩
    have hj : j < len0 * sz := by rw [← hfl]; exact (List.getElem?_eq_some_iff.1 hu).1
    have hi : j / sz < len0 := Nat.div_lt_of_lt_mul (by rw [Nat.mul_comm]; exact hj)
    have hq : j % sz < sz := Nat.mod_lt _ hsz
    have hjj : j = j / sz * sz + j % sz := by rw [Nat.mul_comm]; exact (Nat.div_add_mod j sz).symm
    obtain ⟨h5, h6⟩ := hf2 _ hi
    have h7 := (World.cells?_some h6).2.2 (j % sz) hq
    rw [add_of_add, ← hjj] at h7
    rw [h7, ← hu]
    conv => rhs; rw [hjj]
    exact (fl_get F sz _ _ _ _ (fun y hy => hlen y (hok y hy)) (by simp [hi]) hq).symm
/-- A slice of whole numbers. -/
theorem open_nums {k : IntKind} {t e : TypeId} (ht : P.underlying t = some (.slice e)) (he : P.underlying e = some (.int k)) (hc : P.cellsOf e = 1)
    {v : Value} {d : DataW H} {p : List MemPlace} {b0 : Nat} (hv : Value.okWide P W .any b0 t v) (h : DataW.Trod enc P W 0 (fun _ => true) true t v d p) : ∃ l : List Int, (∀ y ∈ l, (Lit.int k y).wf = true) ∧ Sl W v 1 l.length (l.map (Value.int k)) := by
  obtain ⟨l, h1, h2⟩ := open_sl (α := Int) (fun y => (Lit.int k y).wf = true) (fun y => [Value.int k y]) ht hc (by decide) (fun _ _ => rfl) (fun n cs x _ hx => by
    obtain ⟨y, rfl, _, hy⟩ := DataW.trod_int he hx
    exact ⟨y, hy, rfl⟩) hv h
  exact ⟨l, h1, by rw [← flat_single]; exact h2⟩
/-- An array argument of whole numbers. -/
theorem open_arrNums {k : IntKind} {t e : TypeId} {n : Nat} (ht : P.underlying t = some (.array n e)) (he : P.underlying e = some (.int k)) (hc : P.cellsOf e = 1) (hct : P.cellsOf t = n)
    {v : Value} {d : DataW H} {p : List MemPlace} {b0 : Nat} (hv : Value.okWide P W .any b0 t v) (h : DataW.Trod enc P W 0 (fun _ => true) true t v d p) : ∃ l : List Int, l.length = n ∧ v = .agg (l.map (Value.int k)).toArray ∧ ∀ y ∈ l, (Lit.int k y).wf = true := by
  unfold Value.okWide at hv
  rw [ht] at hv
  obtain ⟨cs, rfl, _, _⟩ := hv
  obtain ⟨fuel, hf⟩ := h
  obtain ⟨l, h1, h2, h3⟩ := trod_nums ht he hc hct hf
  refine ⟨l, h1, ?_, h3⟩
  rw [← h2]
  simp [Value.cells]
/-- The arguments read behind the call as they did. -/
theorem trodAll_kept (hl : laidOutB P = true) : ∀ {ts : List TypeId} {vs : List Value} {ds : List (DataW H)} {ps : List MemPlace}, (∀ t ∈ ts, P.readableRec t = true ∧ t < P.types.size) → DataW.TrodAll enc P W 0 (fun _ => true) true ts vs ds ps → Below W.heap.size W W' → (∀ x ∈ ps, x.block < W.heap.size) →
    DataW.TrodAll enc P W' 0 (fun b => decide (b < W.heap.size)) true ts vs ds ps
  | [], [], [], _, _, h, _, _ => h
  | [], _ :: _, _, _, _, h, _, _ => h.elim
  | [], [], _ :: _, _, _, h, _, _ => h.elim
  | _ :: _, [], _, _, _, h, _, _ => h.elim
  | _ :: _, _ :: _, [], _, _, h, _, _ => h.elim
  | t :: ts, v :: vs, d :: ds, ps, hr, ⟨p, q, h1, h2, h3⟩, hb, hlt => by
    have ht := hr t (by simp)
    refine ⟨p, q, Below.trod hl ht.1 ht.2 h1 hb (fun x hx => hlt x (by rw [h3]; simp [hx])), trodAll_kept hl (fun t' ht' => hr t' (by simp [ht'])) h2 hb (fun x hx => hlt x (by rw [h3]; simp [hx])), h3⟩
/-- **A law**: it says true, and all that was there is as it was. -/
theorem post_law {f : Func} {s : ChangeSpec} {args : Array Value} {ds gs : List (DataW H)} {before : List MemPlace} {tb : TypeId} (hl : laidOutB P = true) (hrec : f.params.toList.all (fun t => P.readableRec t && decide (t < P.types.size)) = true)
    (hW : DataW.Whole enc P f.params.toList s.vars false W args.toList ds gs before) (hk : Kept [] W W') (hres : f.resultTypes = #[tb]) (htb : P.underlying tb = some .bool) (hv : s.vars = [])
    (h1 : (s.fn H (ds ++ gs)).results = [.lit (.bool true)]) (h2 : (s.fn H (ds ++ gs)).args = ds) (h3 : (s.fn H (ds ++ gs)).vars = []) : s.post enc P f false true false false W args (.bool true) W' := by
  have hlt : ∀ x ∈ before, x.block < W.heap.size := fun x hx => by simpa using hW.lt x hx
  have hW' := hW
  obtain ⟨p, q, hA, hV, rfl, _, _⟩ := hW'
  rw [hv] at hV
  obtain ⟨rfl, rfl⟩ := trodVars_none hV
  have hb := hk.below
  refine ⟨ds, [], _, [] ++ [], p ++ [], [], hW, ?_, ?_, ?_, hb.frame _, fun h => by cases h⟩
  · rw [h1, hres]
    exact trodAll_mk1 (shut_bool htb true)
  · rw [h2, List.append_nil]
    exact trodAll_kept hl (fun t ht => by have := List.all_eq_true.1 hrec t ht; simpa using this) hA hb (fun x hx => hlt x (by simp [hx]))
  · rw [h3, hv]; rfl
end
end Go.Proofs.HL
