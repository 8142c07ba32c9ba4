/- Part of my layer of laws over any program of the model: what it shows stands at each theorem. Conditions: those that each theorem names. -/
import Derived.Test.YtpoecjeknolnoaaH4
/-
  THE LAYER "HL", part 5: a region whose order is drawn. It is walked in the order of the text: an operation that only reads is taken first (what it reads stays as it is till the operation m, if there is one, that writes there); any other one must be the only one that may come up.
-/
namespace Go.Proofs.HL
open Go.RowKit
section
variable {P : Program} {ops : Array Oper} {Q : Exit → Act → World → Prop} {md : Region.Mode} {S : World → Prop} {m : Nat} {r : Option Nat}
/-- In state a, in every world that meets S, operation o leaves v in its temporary and does nothing else. -/
theorem yields_wpOpIn {i : Nat} {o : Oper} {v : Value} {a : Act} (hi : ops[i]? = some o) (hy : YieldsIf P ops S o v a)
    {K : Act → World → Prop} {w : World} (hS : S w) (h : K (a.put o.dst v) w) : wpOpIn (FR r) 0 P ops Q i K a w := by
  unfold Go.wpOpIn
  simp only [hi]
  rcases hy with ⟨hw, hv⟩ | ⟨hw, rfl⟩
  · rw [if_pos hw]; exact wpIn_value (hv w hS) h
  · rw [if_neg (by simp [hw])]; exact ⟨fun _ _ => trivial, h⟩
/-- One operation 'oj', apart from oi: whether the value of oi is already in its temporary makes no difference to it, and it makes none to oi. -/
theorem wpOpIn_putIf {j : Nat} {oi oj : Oper} {v : Value} (hj : ops[j]? = some oj) (hap : oi.apart ops oj = true)
    (hsi : ∀ cs b, oi.op ≠ .select cs b) (hsj : ∀ cs b, oj.op ≠ .select cs b) (hdj : ∀ c, oj.op ≠ .defer c)
    (hQ : ∀ c a w, Q (.panic c) (a.put oi.dst v) w → Q (.panic c) a w) {K : Act → World → Prop} {a : Act} {w : World}
    (hy : YieldsIf P ops S oi v a) (h : wpOpIn (FR r) 0 P ops Q j K (a.put oi.dst v) w) :
    wpOpIn (FR r) 0 P ops Q j (fun a' w' => YieldsIf P ops S oi v a' ∧ K (a'.put oi.dst v) w') a w := by
  obtain ⟨h1, h2, h3⟩ := Oper.apart_spec hap
  have keep : ∀ (a : Act), YieldsIf P ops S oi v a → ∀ u, YieldsIf P ops S oi v (a.put oj.dst u) := fun a hy u =>
    hy.of_same (execOp_put oi hsi a oj.dst u h3) (wanted_put oi a oj.dst u h3)
  have keepD : ∀ d, YieldsIf P ops S oi v { a with defers := d :: a.defers } := fun d => hy.of_same rfl rfl
  unfold wpOpIn at *
  simp only [hj] at *
  rw [wanted_put oj a oi.dst v h1] at h
  split
  · rename_i hw
    simp only [hw, if_true] at h
    unfold Oper.wpIn at *
    refine ⟨fun _ _ => trivial, ?_⟩
    have h := h.2
    rw [Oper.semAt_eq _ _ _ hdj, execOp_put oj hsj a oi.dst v h1] at h
    rw [Oper.semAt_eq _ _ _ hdj]
    generalize (execOp a.eval oj).run P w = rr at *
    cases rr with
    | ok x w' =>
      cases x <;> simp only [Oper.uponIn] at h ⊢
      case value u => exact ⟨keep a hy u, by rw [← Act.put_comm a v u h2]; exact h⟩
      case skip => exact ⟨keep a hy _, by rw [← Act.put_comm a v undef h2]; exact h⟩
      case defer d =>
        refine ⟨keep _ (keepD d) _, ?_⟩
        rw [← Act.put_comm _ v undef h2, ← Act.put_defers]
        exact h
      case enter f args =>
        refine ⟨h.1, CallsIn.mono h.2 fun e w'' he => ?_⟩
        cases e with
        | returned u => exact ⟨keep a hy u, by rw [← Act.put_comm a v u h2]; exact he⟩
        | panicked c => exact hQ _ _ _ he
        | outgrown => exact he
      case row row args => exact ⟨h.1, RowsIn.mono h.2 fun u w'' he => ⟨keep a hy u, by rw [← Act.put_comm a v u h2]; exact he⟩⟩
      case round l f tmps assign body =>
        refine ⟨h.1, RoundIn.mono h.2 fun e w'' he => ?_⟩
        cases e with
        | returned u => exact ⟨keep a hy u, by rw [← Act.put_comm a v u h2]; exact he⟩
        | panicked c => exact hQ _ _ _ he
        | outgrown => exact he
    | halt x w' =>
      cases x <;> simp only [Oper.uponIn] at h ⊢
      case panic u => exact hQ _ _ _ h
  · rename_i hw
    simp only [hw] at h
    exact ⟨fun _ _ => trivial, keep a hy _, by rw [← Act.put_comm a v undef h2]; exact h.2⟩
/-- Whatever order is picked from here on; S holds behind every operation till m has come up. -/
def wpAnyT (P : Program) (r : Option Nat) (md : Region.Mode) (ops : Array Oper) (Q : Exit → Act → World → Prop) (S : World → Prop) (m : Nat) : Nat → Array Bool → Act → World → Prop
  | 0, listed, a, w => Region.ready md ops listed = [] ∧ Q .normal a w
  | fuel + 1, listed, a, w =>
    (Region.ready md ops listed = [] → Q .normal a w) ∧
    ∀ i ∈ Region.ready md ops listed, wpOpIn (FR r) 0 P ops Q i (fun a' w' => ((listed.setIfInBounds i true).getD m false = false → S w') ∧ wpAnyT P r md ops Q S m fuel (listed.setIfInBounds i true) a' w') a w
theorem wpAny_of_T : ∀ (fuel : Nat) (listed : Array Bool) (a : Act) (w : World), wpAnyT P r md ops Q S m fuel listed a w → wpAnyIn (FR r) 0 P md ops Q fuel listed a w
  | 0, _, _, _, h => h
  | fuel + 1, _, _, _, h => ⟨h.1, fun i hi => wpOpIn_mono (fun a' w' h' => wpAny_of_T fuel _ a' w' h'.2) (h.2 i hi)⟩
/-- An operation of the text that waits for i. -/
def waits (md : Region.Mode) (ops : Array Oper) (m i : Nat) : Bool :=
  match ops[m]? with
  | some o => o.after.any fun e => Region.binds md e && e.on == i
  | none => true
theorem getD_set_ne' {l : Array Bool} {i j : Nat} {b : Bool} (h : i ≠ j) (dflt : Bool) : (l.setIfInBounds i b).getD j dflt = l.getD j dflt := by
  simp [Array.getD_eq_getD_getElem?, Array.getElem?_setIfInBounds_ne h]
theorem not_ready_of_waits {listed : Array Bool} {i j : Nat} (hw : waits md ops j i = true) (hi : listed.getD i true = false) : j ∉ Region.ready md ops listed := by
  intro hj
  obtain ⟨hjun, oj, hoj, hall⟩ := mem_ready.1 hj
  have hw' : oj.after.any (fun e => Region.binds md e && e.on == i) = true := by simpa [waits, hoj] using hw
  obtain ⟨k, hk, hb⟩ := Array.any_eq_true.1 hw'
  simp only [Bool.and_eq_true, beq_iff_eq] at hb
  have h1 := hall _ (Array.getElem_mem hk) hb.1
  rw [hb.2] at h1
  rcases Nat.lt_or_ge i listed.size with h' | h'
  · simp [h'] at hi h1; rw [hi] at h1; cases h1
  · simp [Array.getElem?_eq_none h'] at h1
theorem wpAnyT_first {i : Nat} {oi : Oper} {v : Value} (hi : ops[i]? = some oi) (hsel : ∀ (j : Nat) (o : Oper) cs b, ops[j]? = some o → o.op ≠ .select cs b) (hdef : ∀ (j : Nat) (o : Oper) c, ops[j]? = some o → o.op ≠ .defer c)
    (hQ : ∀ c a w, Q (.panic c) (a.put oi.dst v) w → Q (.panic c) a w) (S' : World → Prop) (hS' : (∀ w, S' w) ∨ (S' = S ∧ waits md ops m i = true)) (him : i ≠ m) :
    ∀ (fuel : Nat) (listed : Array Bool) (a : Act) (w : World),
      (∀ j oj, ops[j]? = some oj → j ≠ i → listed.getD j true = false → (∀ e ∈ oj.after, Region.binds md e = true → e.on ≠ i) → oi.apart ops oj = true) →
      i ∈ Region.ready md ops listed → YieldsIf P ops S' oi v a → S' w → (listed.getD m false = false → S w) →
      ((¬ ∀ w, S' w) → listed.getD m false = false) →
      wpAnyT P r md ops Q S m fuel (listed.setIfInBounds i true) (a.put oi.dst v) w → wpAnyT P r md ops Q S m (fuel + 1) listed a w := by
  intro fuel
  induction fuel with
  | zero =>
    intro listed a w _ hr hy hS hSm _ H
    refine ⟨fun h => (by rw [h] at hr; cases hr), fun j hj => ?_⟩
    by_cases hji : j = i
    · subst hji
      exact yields_wpOpIn hi hy hS ⟨fun hm => hSm (by rwa [getD_set_ne' him] at hm), H⟩
    · have := ready_mono hj hji
      rw [H.1] at this
      cases this
  | succ fuel ih =>
    intro listed a w hfree hr hy hS hSm hlm H
    refine ⟨fun h => (by rw [h] at hr; cases hr), fun j hj => ?_⟩
    have hiun := (mem_ready.1 hr).1
    by_cases hji : j = i
    · subst hji
      exact yields_wpOpIn hi hy hS ⟨fun hm => hSm (by rwa [getD_set_ne' him] at hm), H⟩
    · have h1 := H.2 j (ready_mono hj hji)
      obtain ⟨hjun, oj, hoj, hall⟩ := mem_ready.1 hj
      have hnot : ∀ e ∈ oj.after, Region.binds md e = true → e.on ≠ i := fun e he hb heq => by
        have h1 := hall e he hb
        rw [heq] at h1
        rcases Nat.lt_or_ge i listed.size with h' | h'
        · simp [h'] at hiun h1; rw [hiun] at h1; cases h1
        · simp [Array.getElem?_eq_none h'] at h1
      have h2 := wpOpIn_putIf hoj (hfree j oj hoj hji hjun hnot) (fun cs b => hsel i oi cs b hi) (fun cs b => hsel j oj cs b hoj) (fun c => hdef j oj c hoj) hQ hy h1
      have hfree' : ∀ k ok, ops[k]? = some ok → k ≠ i → (listed.setIfInBounds j true).getD k true = false →
          (∀ e ∈ ok.after, Region.binds md e = true → e.on ≠ i) → oi.apart ops ok = true := fun k ok hk hki hun hno => by
        refine hfree k ok hk hki ?_ hno
        by_cases hjk : j = k
        · subst hjk; exact hjun
        · rw [getD_set_ne true hjk] at hun; exact hun
      refine wpOpIn_mono (fun a' w' h3 => ?_) h2
      have hswap : (listed.setIfInBounds i true).setIfInBounds j true = (listed.setIfInBounds j true).setIfInBounds i true := Array.setIfInBounds_comm _ _ (Ne.symm hji)
      obtain ⟨hy', hSj, hrest⟩ := h3
      rw [hswap] at hSj hrest
      have hSm' : (listed.setIfInBounds j true).getD m false = false → S w' := fun hm => hSj (by rw [getD_set_ne' him]; exact hm)
      have hlm' : (¬ ∀ w, S' w) → waits md ops m i = true → (listed.setIfInBounds j true).getD m false = false := fun he hw => by
        have hjm : j ≠ m := fun e => not_ready_of_waits hw hiun (e ▸ hj)
        rw [getD_set_ne' hjm]
        exact hlm he
      refine ⟨hSm', ih _ a' w' hfree' (ready_mono hr (Ne.symm hji)) hy' ?_ hSm' ?_ hrest⟩
      · rcases hS' with h | ⟨rfl, hw⟩
        · exact h w'
        · by_cases hall' : ∀ w, S' w
          · exact hall' w'
          · exact hSm' (hlm' hall' hw)
      · intro he
        rcases hS' with h | ⟨_, hw⟩
        · exact absurd h he
        · exact hlm' he hw

/-! ### The walk in the text's order -/
variable {n : Nat} {w0 : World} {M : List Nat} {f : Fm} {es hs : List Ent} {K : KK} {o : Oper} {v : Value} {i N : Nat}
/-- These of N have come up: the bits of a mask. -/
def lst (N mask : Nat) : Array Bool := ((List.range N).map fun i => mask.testBit i).toArray
theorem lst_at {N mask : Nat} (k : Nat) : (lst N mask)[k]? = if k < N then some (mask.testBit k) else none := by
  simp only [lst, List.getElem?_toArray, List.getElem?_map]
  by_cases h : k < N
  · rw [List.getElem?_range h, if_pos h]; rfl
  · rw [List.getElem?_eq_none (by simpa using h), if_neg h]; rfl
theorem lst_zero {N : Nat} : lst N 0 = Array.replicate N false := by
  apply Array.ext_getElem?
  intro j
  rw [lst_at, Array.getElem?_replicate]
  simp
theorem lst_set {N mask mask' i : Nat} (h : Nat.beq (mask ||| 1 <<< i) mask' = true) : (lst N mask).setIfInBounds i true = lst N mask' := by
  have h' := Nat.eq_of_beq_eq_true h
  subst h'
  apply Array.ext_getElem?
  intro j
  rw [Array.getElem?_setIfInBounds, lst_at, lst_at]
  by_cases h : i = j
  · subst h
    have : (lst N mask).size = N := by simp [lst]
    simp [this, Nat.one_shiftLeft]
  · rw [if_neg h]
    simp [Nat.one_shiftLeft, h]
theorem lst_getD {N mask k : Nat} {d : Bool} (hk : k < N) : (lst N mask).getD k d = mask.testBit k := by
  rw [Array.getD_eq_getD_getElem?, lst_at, if_pos hk]; rfl
def edgeOn (o : Oper) (i : Nat) : Bool := o.after.any fun e => Region.binds .any e && e.on == i
def noDefer (ops : Array Oper) : Bool := ops.all fun o => match o.op with | .defer _ => false | _ => true
theorem noDefer_spec (h : noDefer ops = true) (j : Nat) (o : Oper) (c : Call) (ho : ops[j]? = some o) : o.op ≠ .defer c := by
  intro hc
  obtain ⟨hj, rfl⟩ := Array.getElem?_eq_some_iff.1 ho
  have := Array.all_eq_true.1 h j hj
  rw [hc] at this
  cases this
/-- Two operations of the region wait for one another, or are apart. -/
def regOk (ops : Array Oper) : Bool := Region.noSelect ops && noDefer ops && (List.range ops.size).all fun j => match ops[j]? with
  | none => true
  | some oj => (List.range j).all fun i => match ops[i]? with
    | none => true
    | some oi => oi.apart ops oj || edgeOn oj i || edgeOn oi j
theorem apart_symm {x y : Oper} (h : x.apart ops y = true) : y.apart ops x = true := by
  obtain ⟨h1, h2, h3⟩ := Oper.apart_spec h
  unfold Oper.apart
  cases hx : x.dst with
  | none =>
    cases hy : y.dst with
    | none => rfl
    | some d => have := h3 d hy; simpa using this
  | some e =>
    cases hy : y.dst with
    | none => have := h1 e hx; simpa using this
    | some d =>
      have a := h1 e hx
      have b := h3 d hy
      have c := h2 e hx
      rw [hy] at c
      have c' : e ≠ d := fun h => c (by rw [h])
      simp [a, b, c']
theorem regOk_apart (h : regOk ops = true) {i j : Nat} {oi oj : Oper} (hi : ops[i]? = some oi) (hj : ops[j]? = some oj) (hne : i ≠ j) : oi.apart ops oj = true ∨ edgeOn oj i = true ∨ edgeOn oi j = true := by
  simp only [regOk, Bool.and_eq_true, List.all_eq_true, List.mem_range] at h
  have hil := (Array.getElem?_eq_some_iff.1 hi).1
  have hjl := (Array.getElem?_eq_some_iff.1 hj).1
  rcases Nat.lt_or_gt_of_ne hne with hlt | hlt
  · have h1 := h.2 j hjl
    rw [hj] at h1
    have h2 := List.all_eq_true.1 h1 i (List.mem_range.2 hlt)
    rw [hi] at h2
    simp only [Bool.or_eq_true] at h2
    rcases h2 with (h2 | h2) | h2
    · exact .inl h2
    · exact .inr (.inl h2)
    · exact .inr (.inr h2)
  · have h1 := h.2 i hil
    rw [hi] at h1
    have h2 := List.all_eq_true.1 h1 j (List.mem_range.2 hlt)
    rw [hj] at h2
    simp only [Bool.or_eq_true] at h2
    rcases h2 with (h2 | h2) | h2
    · exact .inl (apart_symm h2)
    · exact .inr (.inr h2)
    · exact .inr (.inl h2)
/-- All that o waits for has come up. -/
def rdy (N : Nat) (o : Oper) (mask : Nat) : Bool := o.after.all fun e => !Region.binds .any e || (mask.testBit e.on && Nat.blt e.on N)
/-- None but those of l may come up. -/
def only (ops : Array Oper) (mask : Nat) (l : List Nat) : Bool := (List.range ops.size).all fun j => mask.testBit j || l.contains j || match ops[j]? with
  | some o => !rdy ops.size o mask
  | none => true
theorem ready_of {i : Nat} {o : Oper} {mask : Nat} (hi : ops[i]? = some o) (hm : mask.testBit i = false) (hr : rdy ops.size o mask = true) : i ∈ Region.ready .any ops (lst ops.size mask) := by
  have hil := (Array.getElem?_eq_some_iff.1 hi).1
  refine mem_ready.2 ⟨by rw [lst_getD hil]; exact hm, o, hi, fun e he hb => ?_⟩
  have h1 := Array.all_eq_true'.1 hr e he
  simp only [hb, Bool.not_true, Bool.false_or, Bool.and_eq_true, Nat.blt_eq] at h1
  rw [lst_getD h1.2]
  exact h1.1
theorem ready_only {mask : Nat} {l : List Nat} (h : only ops mask l = true) {j : Nat} (hj : j ∈ Region.ready .any ops (lst ops.size mask)) : j ∈ l := by
  obtain ⟨h1, o, h2, h3⟩ := mem_ready.1 hj
  have hjl := (Array.getElem?_eq_some_iff.1 h2).1
  simp only [only, List.all_eq_true, List.mem_range] at h
  have h4 := h j hjl
  rw [lst_getD hjl] at h1
  rw [h1, h2] at h4
  simp only [Bool.false_or, Bool.or_eq_true] at h4
  rcases h4 with h4 | h4
  · simpa using h4
  · exfalso
    have : rdy ops.size o mask = true := by
      refine Array.all_eq_true'.2 fun e he => ?_
      cases hb : Region.binds .any e with
      | false => rfl
      | true =>
        have h5 := h3 e he hb
        rcases Nat.lt_or_ge e.on ops.size with h6 | h6
        · rw [lst_getD h6] at h5
          simp [h5, h6]
        · rw [Array.getD_eq_getD_getElem?, lst_at, if_neg (by omega)] at h5
          cases h5
    rw [this] at h4
    cases h4
/-- The operations of the mask have come up; till m has (if there is a m), hs holds. -/
def RA (P : Program) (n : Nat) (w0 : World) (M : List Nat) (r : Option Nat) (ops : Array Oper) (hs : List Ent) (m : Nat) (mask k : Nat) (f : Fm) (es : List Ent) (K : KK) : Prop :=
  regOk ops = true → ∀ G a w, Fits f n a → Holds w0 M (es ++ G) w → ((lst ops.size mask).getD m false = false → Sat hs w) → wpAnyT P r .any ops (RQ n w0 M G K) (Sat hs) m k (lst ops.size mask) a w
theorem Holds.drawn {w : World} (h : Holds w0 M es w) (k : Nat) : Holds w0 M es { w with drawn := k } :=
  Holds.go (old := []) (new := []) (X := []) h (List.Perm.refl _) (Kept.drawn [] w k) (by simp) (fun _ h => by cases h) (by simp) (by simp) (fun _ h => by cases h)
theorem t_region_draw {R : KR} {id : Nat} (m k : Nat) (hs : List Ent) (hm : P.follows .mixedOrders = true) (hsub : Sub es hs) (hk : ops.size = k) (hok : regOk ops = true) (h : RA P n w0 M r ops hs m 0 k f es (R .normal)) : T P n w0 M r (.region id ops true) f es R := fun G a w hf hw =>
  wpIn_mono (wpIn_region_any hm (wpAny_of_T (S := Sat hs) (m := m) _ _ _ _ (by
    have := h hok G a _ hf (hw.drawn (w.drawn + 1)) (fun _ e he => (hw.drawn (w.drawn + 1)).sat e (List.mem_append_left _ (hsub.mem he)))
    rw [lst_zero, ← hk] at this
    exact this))) rq_imp
theorem t_seq_draw {R : KR} {id : Nat} {y : Code} (m k : Nat) (hs : List Ent) (hm : P.follows .mixedOrders = true) (hsub : Sub es hs) (hk : ops.size = k) (hok : regOk ops = true) (h : RA P n w0 M r ops hs m 0 k f es (fun f' es' => T P n w0 M r y f' es' R)) : T P n w0 M r (.seq (.region id ops true) y) f es R :=
  t_seq (t_region_draw m k hs hm hsub hk hok h)
variable {mask k : Nat}
theorem ra_end (hr : only ops mask [] = true) (h : K f es) : RA P n w0 M r ops hs m mask k f es K := by
  intro _ G a w hf hw _
  have hr' : Region.ready .any ops (lst ops.size mask) = [] := by
    cases hc : Region.ready .any ops (lst ops.size mask) with
    | nil => rfl
    | cons x l => have := ready_only hr (j := x) (by rw [hc]; simp); cases this
  cases k with
  | zero => exact ⟨hr', f, es, hf, hw, h⟩
  | succ k => exact ⟨fun _ => ⟨f, es, hf, hw, h⟩, fun i hi => by rw [hr'] at hi; cases hi⟩
/-- May i be taken first? -/
def okFirst (N : Nat) (o : Oper) (m mask i mask' : Nat) : Bool := rdy N o mask && !mask.testBit i && i != m && Nat.beq (mask ||| 1 <<< i) mask'
theorem ra_first {mask' : Nat} {S' : World → Prop} (hi : ops[i]? = some o) (hok : okFirst ops.size o m mask i mask' = true) (hS : (∀ w, S' w) ∨ (S' = Sat hs ∧ waits .any ops m i = true ∧ (lst ops.size mask).getD m false = false)) (hd : dstOk o.dst n = true)
    (hy : ∀ a, Fits f n a → YieldsIf P ops S' o v a) (next : RA P n w0 M r ops hs m mask' k (updO f o.dst v) es K) : RA P n w0 M r ops hs m mask (k + 1) f es K := by
  intro hreg G a w hf hw hsat
  simp only [okFirst, Bool.and_eq_true, bne_iff_ne, ne_eq, Bool.not_eq_true'] at hok
  obtain ⟨⟨⟨h1, h2⟩, h4⟩, h5⟩ := hok
  have hrd := ready_of hi h2 h1
  have hreg' := hreg
  simp only [regOk, Bool.and_eq_true] at hreg'
  have hno : ∀ j, j < ops.size → mask.testBit j = false → edgeOn o j = false := by
    intro j hjl hj
    cases hc : edgeOn o j with
    | false => rfl
    | true =>
      exfalso
      obtain ⟨q, hq, hb⟩ := Array.any_eq_true.1 hc
      simp only [Bool.and_eq_true, beq_iff_eq] at hb
      have h6 := Array.all_eq_true'.1 h1 _ (Array.getElem_mem hq)
      simp only [hb.1, Bool.not_true, Bool.false_or, Bool.and_eq_true] at h6
      rw [hb.2, hj] at h6
      cases h6.1
  refine wpAnyT_first hi (Region.noSelect_spec hreg'.1.1) (noDefer_spec hreg'.1.2) (fun _ _ _ h => h) S' ?_ h4 _ _ a w ?_ hrd (hy a hf) ?_ ?_ ?_ ?_
  · rcases hS with h | ⟨h, h', _⟩
    · exact .inl h
    · exact .inr ⟨h, h'⟩
  · intro j oj hj hji hun hnot
    have hjl := (Array.getElem?_eq_some_iff.1 hj).1
    rw [lst_getD hjl] at hun
    rcases regOk_apart hreg hi hj (Ne.symm hji) with h | h | h
    · exact h
    · exfalso
      obtain ⟨q, hq, hb⟩ := Array.any_eq_true.1 h
      simp only [Bool.and_eq_true, beq_iff_eq] at hb
      exact hnot _ (Array.getElem_mem hq) hb.1 hb.2
    · rw [hno j hjl hun] at h; cases h
  · rcases hS with h | ⟨rfl, _, hle⟩
    · exact h w
    · exact hsat hle
  · exact hsat
  · intro hn
    rcases hS with h | ⟨_, _, hle⟩
    · exact absurd h hn
    · exact hle
  · rw [lst_set h5]
    refine next hreg G _ _ (hf.put hd v) hw (fun hle => hsat ?_)
    rw [← lst_set h5] at hle
    rwa [getD_set_ne' h4] at hle
/-- .. and does what it reads stay? -/
def okRead (ops : Array Oper) (o : Oper) (m mask i mask' : Nat) : Bool := okFirst ops.size o m mask i mask' && waits .any ops m i && (!mask.testBit m || !Nat.blt m ops.size)
theorem okRead_spec {mask' : Nat} (h : okRead ops o m mask i mask' = true) : okFirst ops.size o m mask i mask' = true ∧ waits .any ops m i = true ∧ (lst ops.size mask).getD m false = false := by
  simp only [okRead, Bool.and_eq_true, Bool.or_eq_true, Bool.not_eq_true'] at h
  refine ⟨h.1.1, h.1.2, ?_⟩
  rw [Array.getD_eq_getD_getElem?, lst_at]
  by_cases hm : m < ops.size
  · rw [if_pos hm]
    rcases h.2 with h | h
    · simpa using h
    · rw [show Nat.blt m ops.size = true from Nat.ble_eq_true_of_le hm] at h; cases h
  · rw [if_neg hm]; rfl
theorem toList_at {i : Nat} (hi : ops.toList[i]? = some o) : ops[i]? = some o := by rw [← Array.getElem?_toList]; exact hi
theorem ra_pure0 (i mask' : Nat) (hi : ops.toList[i]? = some o) (hg : o.guard = none) (hok : okFirst ops.size o m mask i mask' = true) (hd : dstOk o.dst n = true) (h : Pu P o f [] v) (next : RA P n w0 M r ops hs m mask' k (updO f o.dst v) es K) : RA P n w0 M r ops hs m mask (k + 1) f es K :=
  ra_first (S' := fun _ => True) (toList_at hi) hok (.inl fun _ => trivial) hd (fun a hf => .inl ⟨by simp [Region.wanted, hg], fun w _ => by rw [hf.eval]; exact h w (fun _ he => by cases he)⟩) next
theorem ra_pure (i mask' : Nat) (hi : ops.toList[i]? = some o) (hg : o.guard = none) (hok : okRead ops o m mask i mask' = true) (hd : dstOk o.dst n = true) (h : Pu P o f hs v) (next : RA P n w0 M r ops hs m mask' k (updO f o.dst v) es K) : RA P n w0 M r ops hs m mask (k + 1) f es K := by
  obtain ⟨h1, h2, h3⟩ := okRead_spec hok
  exact ra_first (S' := Sat hs) (toList_at hi) h1 (.inr ⟨rfl, h2, h3⟩) hd (fun a hf => .inl ⟨by simp [Region.wanted, hg], fun w hw => by rw [hf.eval]; exact h w hw⟩) next
theorem yields_guard {S' : World → Prop} {j : Nat} {want : Bool} {t : Nat} {c : Bool} {a : Act} (hg : o.guard = some (j, want)) (ht : (ops[j]?).bind (·.dst) = some t) (hc : ev f (.tmp t) = .bool c) (hf : Fits f n a)
    (h : (c == want) = true → ∀ w, S' w → (execOp a.eval o).run P w = .ok (.value v) w) : YieldsIf P ops S' o (gv (c == want) v) a := by
  have hw := wanted_of hg ht hf hc
  cases hcw : (c == want) with
  | true => rw [hcw] at hw; exact .inl ⟨hw, fun w hS => h hcw w hS⟩
  | false => rw [hcw] at hw; exact .inr ⟨hw, rfl⟩
theorem ra_gpure0 (i mask' : Nat) {j : Nat} {want : Bool} {t : Nat} {c : Bool} (hi : ops.toList[i]? = some o) (hg : o.guard = some (j, want)) (ht : (ops[j]?).bind (·.dst) = some t) (hc : ev f (.tmp t) = .bool c) (hok : okFirst ops.size o m mask i mask' = true) (hd : dstOk o.dst n = true)
    (h : (c == want) = true → Pu P o f [] v) (next : RA P n w0 M r ops hs m mask' k (updO f o.dst (gv (c == want) v)) es K) : RA P n w0 M r ops hs m mask (k + 1) f es K :=
  ra_first (S' := fun _ => True) (toList_at hi) hok (.inl fun _ => trivial) hd (fun a hf => yields_guard hg ht hc hf fun hcw w _ => by rw [hf.eval]; exact h hcw w (fun _ he => by cases he)) next
theorem ra_gpure (i mask' : Nat) {j : Nat} {want : Bool} {t : Nat} {c : Bool} (hi : ops.toList[i]? = some o) (hg : o.guard = some (j, want)) (ht : (ops[j]?).bind (·.dst) = some t) (hc : ev f (.tmp t) = .bool c) (hok : okRead ops o m mask i mask' = true) (hd : dstOk o.dst n = true)
    (h : (c == want) = true → Pu P o f hs v) (next : RA P n w0 M r ops hs m mask' k (updO f o.dst (gv (c == want) v)) es K) : RA P n w0 M r ops hs m mask (k + 1) f es K := by
  obtain ⟨h1, h2, h3⟩ := okRead_spec hok
  exact ra_first (S' := Sat hs) (toList_at hi) h1 (.inr ⟨rfl, h2, h3⟩) hd (fun a hf => yields_guard hg ht hc hf fun hcw w hw => by rw [hf.eval]; exact h hcw w hw) next
/-- One of the operations that may come up. -/
def Next1 (P : Program) (n : Nat) (w0 : World) (M : List Nat) (r : Option Nat) (ops : Array Oper) (hs : List Ent) (m : Nat) (mask' k : Nat) (f : Fm) (es : List Ent) (K : KK) (i : Nat) : Prop :=
  regOk ops = true → ∀ G a w, Fits f n a → Holds w0 M (es ++ G) w → wpOpIn (FR r) 0 P ops (RQ n w0 M G K) i (fun a' w' => ((lst ops.size mask').getD m false = false → Sat hs w') ∧ wpAnyT P r .any ops (RQ n w0 M G K) (Sat hs) m k (lst ops.size mask') a' w') a w
/-- i is ready, and none but those of l. -/
def okNext (ops : Array Oper) (mask i : Nat) (l : List Nat) : Bool := only ops mask l && !mask.testBit i && match ops[i]? with | some o => rdy ops.size o mask | none => false
theorem okNext_spec {l : List Nat} {i : Nat} (h : okNext ops mask i l = true) : Region.ready .any ops (lst ops.size mask) ≠ [] ∧ ∀ j ∈ Region.ready .any ops (lst ops.size mask), j ∈ l := by
  simp only [okNext, Bool.and_eq_true, Bool.not_eq_true'] at h
  obtain ⟨⟨h1, h2⟩, h3⟩ := h
  refine ⟨fun h0 => ?_, fun j hj => ready_only h1 hj⟩
  cases ho : ops[i]? with
  | none => rw [ho] at h3; cases h3
  | some o =>
    rw [ho] at h3
    have := ready_of ho h2 h3
    rw [h0] at this
    cases this
theorem ra_next (i mask' : Nat) (hr : (okNext ops mask i [i] && Nat.beq (mask ||| 1 <<< i) mask') = true) (h : Next1 P n w0 M r ops hs m mask' k f es K i) : RA P n w0 M r ops hs m mask (k + 1) f es K := by
  intro hreg G a w hf hw _
  simp only [Bool.and_eq_true] at hr
  obtain ⟨h0, h1⟩ := okNext_spec hr.1
  refine ⟨fun hc => absurd hc h0, fun j hj => ?_⟩
  have := h1 j hj
  simp only [List.mem_singleton] at this
  subst this
  rw [lst_set hr.2]
  exact h hreg G a w hf hw
theorem ra_next2 (i j mask1 mask2 : Nat) (hr : (okNext ops mask i [i, j] && Nat.beq (mask ||| 1 <<< i) mask1 && Nat.beq (mask ||| 1 <<< j) mask2) = true) (h1 : Next1 P n w0 M r ops hs m mask1 k f es K i) (h2 : Next1 P n w0 M r ops hs m mask2 k f es K j) : RA P n w0 M r ops hs m mask (k + 1) f es K := by
  intro hreg G a w hf hw _
  simp only [Bool.and_eq_true] at hr
  obtain ⟨h0, h3⟩ := okNext_spec hr.1.1
  refine ⟨fun hc => absurd hc h0, fun q hq => ?_⟩
  have := h3 q hq
  simp only [List.mem_cons, List.not_mem_nil, or_false] at this
  rcases this with rfl | rfl
  · rw [lst_set hr.1.2]; exact h1 hreg G a w hf hw
  · rw [lst_set hr.2]; exact h2 hreg G a w hf hw
theorem next_loud {mask' : Nat} (hi0 : ops.toList[i]? = some o) (hg : o.guard = none)
    (h : Lo P n w0 M o f es (fun f' es' => ((Nat.blt m ops.size && mask'.testBit m) = false → Sub es' hs) ∧ RA P n w0 M r ops hs m mask' k f' es' K)) : Next1 P n w0 M r ops hs m mask' k f es K i := by
  intro hreg G a w hf hw
  have hi := toList_at hi0
  unfold wpOpIn
  simp only [hi]
  rw [if_pos (by simp [Region.wanted, hg])]
  refine Oper.wpIn_mono ?_ (h r G a w hf hw _)
  rintro a' w' ⟨f', es', h1, h2, h3, h4⟩
  have hsat : (lst ops.size mask').getD m false = false → Sat hs w' := fun hle e he => h2.sat e (List.mem_append_left _ ((h3 (by
    by_cases hm : m < ops.size
    · rw [lst_getD hm] at hle
      rw [hle, Bool.and_false]
    · have : Nat.blt m ops.size = false := by
        cases hc : Nat.blt m ops.size with
        | false => rfl
        | true => exact absurd (Nat.le_of_ble_eq_true hc) hm
      rw [this, Bool.false_and])).mem he))
  exact ⟨hsat, h4 hreg G a' w' h1 h2 hsat⟩
/-- A guarded call that leaves all as it was. -/
theorem next_gcall {mask' : Nat} {j : Nat} {want : Bool} {t : Nat} {c : Bool} (hi0 : ops.toList[i]? = some o) (hg : o.guard = some (j, want)) (ht : (ops[j]?).bind (·.dst) = some t) (hc : ev f (.tmp t) = .bool c) (hd : dstOk o.dst n = true)
    (hsub : Sub es hs) (h : (c == want) = true → LoP P n w0 M o f es v) (next : RA P n w0 M r ops hs m mask' k (updO f o.dst (gv (c == want) v)) es K) : Next1 P n w0 M r ops hs m mask' k f es K i := by
  intro hreg G a w hf hw
  have hi := toList_at hi0
  unfold wpOpIn
  simp only [hi]
  rw [wanted_of hg ht hf hc]
  have fin : ∀ a' w', Fits (updO f o.dst (gv (c == want) v)) n a' → Holds w0 M (es ++ G) w' → ((lst ops.size mask').getD m false = false → Sat hs w') ∧ wpAnyT P r .any ops (RQ n w0 M G K) (Sat hs) m k (lst ops.size mask') a' w' := by
    intro a' w' h1 h2
    have hsat : (lst ops.size mask').getD m false = false → Sat hs w' := fun _ e he => h2.sat e (List.mem_append_left _ (hsub.mem he))
    exact ⟨hsat, next hreg G a' w' h1 h2 hsat⟩
  cases hcw : (c == want) with
  | true =>
    rw [if_pos rfl]
    rw [hcw] at fin
    refine Oper.wpIn_mono ?_ (h hcw (fun f' es' => f' = updO f o.dst v ∧ es' = es) ⟨rfl, rfl⟩ r G a w hf hw _)
    rintro a' w' ⟨f', es', h1, h2, rfl, rfl⟩
    exact fin a' w' h1 h2
  | false =>
    rw [if_neg (by simp)]
    rw [hcw] at fin
    exact ⟨fun _ _ => trivial, fin _ _ (hf.put hd undef) hw⟩
/-! ### A guard that is itself guarded -/
theorem and_l {a b : Bool} (h : (a && b) = true) : a = true := by cases a <;> simp_all
theorem and_r {a b : Bool} (h : (a && b) = true) : b = true := by cases a <;> simp_all
theorem gvAnd {f : Fm} {x : Operand} {a b : Bool} {v : Value} (ha : a = true) (h : ev f x = gv (a && b) v) : ev f x = gv b v := by rw [h, ha, Bool.true_and]
theorem wanted_of2 {j : Nat} {want : Bool} {t : Nat} {c g1 : Bool} {a : Act} (hg : o.guard = some (j, want)) (ht : (ops[j]?).bind (·.dst) = some t) (hf : Fits f n a) (hc : ev f (.tmp t) = gv g1 (.bool c)) :
    Region.wanted o (yielded ops a.tmps) = (g1 && (c == want)) := by
  cases g1 with
  | true => rw [wanted_of hg ht hf hc, Bool.true_and]
  | false =>
    have h1 : a.tmps.getD t undef = undef := by
      have : a.eval (.tmp t) = undef := by rw [hf.eval]; exact hc
      exact this
    have h2 : yielded ops a.tmps j = none := by
      simp only [yielded, ht, Option.bind_some]
      rw [Array.getD_eq_getD_getElem?] at h1
      cases hx : a.tmps[t]? with
      | none => rfl
      | some y => rw [hx] at h1; simp at h1; subst h1; rfl
    simp [Region.wanted, hg, h2]
theorem yields_guard2 {S' : World → Prop} {j : Nat} {want : Bool} {t : Nat} {c g1 : Bool} {a : Act} (hg : o.guard = some (j, want)) (ht : (ops[j]?).bind (·.dst) = some t) (hc : ev f (.tmp t) = gv g1 (.bool c)) (hf : Fits f n a)
    (h : (g1 && (c == want)) = true → ∀ w, S' w → (execOp a.eval o).run P w = .ok (.value v) w) : YieldsIf P ops S' o (gv (g1 && (c == want)) v) a := by
  have hw := wanted_of2 hg ht hf hc
  cases hcw : (g1 && (c == want)) with
  | true => rw [hcw] at hw; exact .inl ⟨hw, fun w hS => h hcw w hS⟩
  | false => rw [hcw] at hw; exact .inr ⟨hw, rfl⟩
theorem ra_gpure0N (i mask' : Nat) {j : Nat} {want : Bool} {t : Nat} {c g1 : Bool} (hi : ops.toList[i]? = some o) (hg : o.guard = some (j, want)) (ht : (ops[j]?).bind (·.dst) = some t) (hc : ev f (.tmp t) = gv g1 (.bool c)) (hok : okFirst ops.size o m mask i mask' = true) (hd : dstOk o.dst n = true)
    (h : (g1 && (c == want)) = true → Pu P o f [] v) (next : RA P n w0 M r ops hs m mask' k (updO f o.dst (gv (g1 && (c == want)) v)) es K) : RA P n w0 M r ops hs m mask (k + 1) f es K :=
  ra_first (S' := fun _ => True) (toList_at hi) hok (.inl fun _ => trivial) hd (fun a hf => yields_guard2 hg ht hc hf fun hcw w _ => by rw [hf.eval]; exact h hcw w (fun _ he => by cases he)) next
theorem ra_gpureN (i mask' : Nat) {j : Nat} {want : Bool} {t : Nat} {c g1 : Bool} (hi : ops.toList[i]? = some o) (hg : o.guard = some (j, want)) (ht : (ops[j]?).bind (·.dst) = some t) (hc : ev f (.tmp t) = gv g1 (.bool c)) (hok : okRead ops o m mask i mask' = true) (hd : dstOk o.dst n = true)
    (h : (g1 && (c == want)) = true → Pu P o f hs v) (next : RA P n w0 M r ops hs m mask' k (updO f o.dst (gv (g1 && (c == want)) v)) es K) : RA P n w0 M r ops hs m mask (k + 1) f es K := by
  obtain ⟨h1, h2, h3⟩ := okRead_spec hok
  exact ra_first (S' := Sat hs) (toList_at hi) h1 (.inr ⟨rfl, h2, h3⟩) hd (fun a hf => yields_guard2 hg ht hc hf fun hcw w hw => by rw [hf.eval]; exact h hcw w hw) next
theorem next_gcallN {mask' : Nat} {j : Nat} {want : Bool} {t : Nat} {c g1 : Bool} (hi0 : ops.toList[i]? = some o) (hg : o.guard = some (j, want)) (ht : (ops[j]?).bind (·.dst) = some t) (hc : ev f (.tmp t) = gv g1 (.bool c)) (hd : dstOk o.dst n = true)
    (hsub : Sub es hs) (h : (g1 && (c == want)) = true → LoP P n w0 M o f es v) (next : RA P n w0 M r ops hs m mask' k (updO f o.dst (gv (g1 && (c == want)) v)) es K) : Next1 P n w0 M r ops hs m mask' k f es K i := by
  intro hreg G a w hf hw
  have hi := toList_at hi0
  unfold wpOpIn
  simp only [hi]
  rw [wanted_of2 hg ht hf hc]
  have fin : ∀ a' w', Fits (updO f o.dst (gv (g1 && (c == want)) v)) n a' → Holds w0 M (es ++ G) w' → ((lst ops.size mask').getD m false = false → Sat hs w') ∧ wpAnyT P r .any ops (RQ n w0 M G K) (Sat hs) m k (lst ops.size mask') a' w' := by
    intro a' w' h1 h2
    have hsat : (lst ops.size mask').getD m false = false → Sat hs w' := fun _ e he => h2.sat e (List.mem_append_left _ (hsub.mem he))
    exact ⟨hsat, next hreg G a' w' h1 h2 hsat⟩
  cases hcw : (g1 && (c == want)) with
  | true =>
    rw [if_pos rfl]
    rw [hcw] at fin
    refine Oper.wpIn_mono ?_ (h hcw (fun f' es' => f' = updO f o.dst v ∧ es' = es) ⟨rfl, rfl⟩ r G a w hf hw _)
    rintro a' w' ⟨f', es', h1, h2, rfl, rfl⟩
    exact fin a' w' h1 h2
  | false =>
    rw [if_neg (by simp)]
    rw [hcw] at fin
    exact ⟨fun _ _ => trivial, fin _ _ (hf.put hd undef) hw⟩
theorem rg_gpureN {l : List Oper} {j : Nat} {want : Bool} {t : Nat} {c g1 : Bool} (hg : o.guard = some (j, want)) (ht : (ops[j]?).bind (·.dst) = some t) (hc : ev f (.tmp t) = gv g1 (.bool c)) (hd : dstOk o.dst n = true)
    (h : (g1 && (c == want)) = true → Pu P o f es v) (next : RG P n w0 M r ops l (updO f o.dst (gv (g1 && (c == want)) v)) es K) : RG P n w0 M r ops (o :: l) f es K := by
  intro G a w hf hw
  unfold wpListIn
  rw [wanted_of2 hg ht hf hc]
  cases hcw : (g1 && (c == want)) with
  | true =>
    rw [if_pos rfl]
    rw [hcw] at next
    exact wpIn_value (by rw [hf.eval]; exact h hcw w hw.sat.left) (next G _ _ (hf.put hd v) hw)
  | false =>
    rw [if_neg (by simp)]
    rw [hcw] at next
    exact ⟨fun _ _ => trivial, next G _ _ (hf.put hd undef) hw⟩
theorem rg_gcallN {l : List Oper} {j : Nat} {want : Bool} {t : Nat} {c g1 : Bool} (hg : o.guard = some (j, want)) (ht : (ops[j]?).bind (·.dst) = some t) (hc : ev f (.tmp t) = gv g1 (.bool c)) (hd : dstOk o.dst n = true)
    (h : (g1 && (c == want)) = true → LoP P n w0 M o f es v) (next : RG P n w0 M r ops l (updO f o.dst (gv (g1 && (c == want)) v)) es K) : RG P n w0 M r ops (o :: l) f es K := by
  intro G a w hf hw
  unfold wpListIn
  rw [wanted_of2 hg ht hf hc]
  cases hcw : (g1 && (c == want)) with
  | true =>
    rw [if_pos rfl]
    rw [hcw] at next
    exact Oper.wpIn_mono (fun a' w' ⟨f', es', h1, h2, h3⟩ => h3 G a' w' h1 h2) (h hcw (fun f' es' => RG P n w0 M r ops l f' es' K) next r G a w hf hw _)
  | false =>
    rw [if_neg (by simp)]
    rw [hcw] at next
    exact ⟨fun _ _ => trivial, next G _ _ (hf.put hd undef) hw⟩
theorem holds0 (w : World) : Holds w [] [] w := ⟨fun _ h => (by cases h), Kept.refl _ _, List.nodup_nil, fun _ h => (by cases h), fun _ h => (by cases h)⟩
/-- A slice that came in. -/
theorem Sl.far {w : World} {v : Value} {sz k : Nat} {xs : List Value} (h : Sl w v sz k xs) (hsz : 0 < sz) : (Ent.sl v sz k xs).far w.heap.size [] := fun hk a ha => by
  obtain ⟨a', ha', hc⟩ := h.2.2 hk
  rw [ha] at ha'
  obtain rfl := Option.some.inj ha'
  have hl : 0 < xs.length := by rw [h.2.1]; exact Nat.mul_pos hk hsz
  have := World.block_lt_of_cell? w _ (hc 0 xs[0] (List.getElem?_eq_getElem hl))
  rw [block_of_add] at this
  exact ⟨this, by simp⟩
theorem Holds.addSl {w0 w : World} {v : Value} {sz k : Nat} {xs : List Value} (h : Holds w0 [] es w) (hs : Sl w0 v sz k xs) (hsz : 0 < sz) : Holds w0 [] (.sl v sz k xs :: es) w := by
  have hf := hs.far hsz
  refine Holds.go (old := []) (new := [.sl v sz k xs]) (X := []) h (List.Perm.refl _) (Kept.refl _ _) (by simp) ?_ List.nodup_nil (fun _ h => (by cases h)) ?_
  · intro e he
    simp only [List.mem_singleton] at he
    subst he
    exact ⟨hs.1, Rd.move hs.2 fun hk a ha => h.kept.block _ (hf hk a ha).1 (by simp)⟩
  · intro e he
    simp only [List.mem_singleton] at he
    subst he
    exact hf
theorem Holds.addFix {w0 w : World} {b : Nat} {t : TypeId} {cs : List Value} (h : Holds w0 [] es w) (hb : w0.heap[b]? = some (.cells cs.toArray t (0, 0))) : Holds w0 [] (.fix b t cs :: es) w := by
  have hlt : b < w0.heap.size := (Array.getElem?_eq_some_iff.1 hb).1
  refine Holds.go (old := []) (new := [.fix b t cs]) (X := []) h (List.Perm.refl _) (Kept.refl _ _) (by simp) ?_ List.nodup_nil (fun _ h => (by cases h)) ?_
  · intro e he
    simp only [List.mem_singleton] at he
    subst he
    exact (h.kept.block _ hlt (by simp)).trans hb
  · intro e he
    simp only [List.mem_singleton] at he
    subst he
    exact ⟨hlt, by simp⟩
/-- Entries over blocks of the call's own are handed over. -/
def Ent.mineOnly : Ent → Bool
  | .own .. | .row .. => true
  | _ => false
theorem fresh_of {w0 w : World} {E : List Ent} (h : Holds w0 [] es w) (hs : Sub es E) (hm : E.all Ent.mineOnly = true) : Fresh w0.heap.size E w := by
  have h' := h.sub hs
  refine ⟨h'.sat, h'.nodup, fun b hb => ?_, fun e he B' M' => ?_⟩
  · rcases h'.mine b hb with h1 | h1
    · exact h1
    · cases h1
  · have := List.all_eq_true.1 hm e he
    cases e <;> first | trivial | (simp [Ent.mineOnly] at this)
/-- **A function that hands back a plain value.** -/
theorem gives_of_T {k : FuncId} {fn : Func} {c : Code} {args : List Value} {w : World} {v : Value} (hk : P.funcs[k]? = some fn) (hb : fn.body = some c) (n : Nat) (hn : fn.ntmps = n) (hlen : Nat.ble args.length n = true) (hsm : Nat.ble n 1000000 = true) (es : List Ent) (h0 : Holds w [] es w)
    (h : T P n w [] none c (fm0 args) es (Fin P n fn (fun u _ => u = v))) : Gives P k args.toArray w v :=
  calls_of_T (G := []) hk hb n hn (by simpa using hlen) (by simpa using hsm) es (by rw [List.append_nil]; exact h0) h (fun u _ _ hw h => ⟨u, rfl, hw.kept, h⟩)
/-- **A function that hands back something in memory of its own.** -/
theorem hands_of_T {α : Type} {φ : α → Prop} {V : α → Value} {E : α → List Ent} {k : FuncId} {fn : Func} {c : Code} {args : List Value} {w : World} (hk : P.funcs[k]? = some fn) (hb : fn.body = some c) (n : Nat) (hn : fn.ntmps = n) (hlen : Nat.ble args.length n = true) (hsm : Nat.ble n 1000000 = true) (es : List Ent) (h0 : Holds w [] es w)
    (hm : ∀ i, (E i).all Ent.mineOnly = true) (h : T P n w [] none c (fm0 args) es (Fin P n fn (fun u es' => ∃ i, φ i ∧ u = V i ∧ Sub es' (E i)))) : Calls P k args.toArray w (Ret [] w fun v w' => ∃ i, φ i ∧ v = V i ∧ Fresh w.heap.size (E i) w') :=
  calls_of_T (G := []) hk hb n hn (by simpa using hlen) (by simpa using hsm) es (by rw [List.append_nil]; exact h0) h (fun u es' _ hw ⟨i, h1, h2, h3⟩ => ⟨u, rfl, hw.kept, i, h1, h2, fresh_of (es := es') (by rw [List.append_nil] at hw; exact hw) h3 (hm i)⟩)
end
end Go.Proofs.HL
