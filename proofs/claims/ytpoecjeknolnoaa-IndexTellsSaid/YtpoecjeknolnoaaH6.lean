/- Part of my layer of laws over any program of the model: what it shows stands at each theorem. Conditions: those that each theorem names. -/
import Derived.Test.YtpoecjeknolnoaaH5
/-
  THE LAYER "HL", part 6: a range over a function, both sides. The iterator's contract (IterC) is told over whatever the caller's entries are between two rounds.
-/
namespace Go.Proofs.HL
open Go.RowKit

/-- A call of yield, in whatever world the entries es hold: it says b and leaves entries es' such that R b es'. -/
def YieldE (P : Program) (w0 : World) (M : List Nat) (l : Nat) (args : List Value) (es : List Ent) (R : Bool → List Ent → Prop) : Prop :=
  ∀ G w, Holds w0 M (es ++ G) w → ∃ fn tmps assign body, (Instr.yield l args.toArray).run P w = .ok (.round l fn tmps assign body) w ∧
    RoundIn (FR none) 0 P l fn tmps assign body w (fun e w' => ∃ b es', e = .returned (.bool b) ∧ R b es' ∧ Holds w0 M (es' ++ G) w')
/-- **What an iterator does**: function g (captured: cap; its own entries I0) calls yield with encs x for the x of xs, in their order, till there is no more or yield says no. J pre es: the caller's entries when pre has come; Jx es: when a round has said no. -/
def IterC {α : Type} (P : Program) (g : FuncId) (cap : List Value) (encs : α → List Value) (xs : List α) (I0 : List Ent) : Prop :=
  ∀ (w0 : World) (M : List Nat) (G : List Ent) (l : Nat) (J : List α → List Ent → Prop) (Jx : List Ent → Prop) (es : List Ent),
    (∀ pre x es', J pre es' → (pre ++ [x]) <+: xs → YieldE P w0 M l (encs x) es' (fun b es'' => (b = true ∧ J (pre ++ [x]) es'') ∨ (b = false ∧ Jx es''))) → J [] es →
    ∀ w, Holds w0 M ((I0 ++ es) ++ G) w → Calls P g (.func (.yield l) #[] #[] :: cap).toArray w
      (fun e w' => ∃ v, e = .returned v ∧ ∃ es', (J xs es' ∨ Jx es') ∧ Holds w0 M ((I0 ++ es') ++ G) w')
/-- es is I, then e2. -/
inductive AppT : List Ent → List Ent → List Ent → Prop
  | nil {e2} : AppT [] e2 e2
  | cons {i I e2 es} : AppT I e2 es → AppT (i :: I) e2 (i :: es)
theorem AppT.eq {I e2 es : List Ent} (h : AppT I e2 es) : es = I ++ e2 := by
  induction h with
  | nil => rfl
  | cons _ ih => rw [ih]; rfl
theorem sub_tail (e : Ent) (l : List Ent) : Sub (e :: l) l := by
  have key : ∀ (l : List Ent) (e : Ent), Sub (e :: l) l := fun l => by
    induction l with
    | nil => exact fun _ => .nil
    | cons x l ih => exact fun e => .cons (.there .here) (ih e)
  exact key l e
section
variable {P : Program} {n : Nat} {w0 : World} {M : List Nat} {r : Option Nat} {f : Fm} {es : List Ent} {K : KK} {d : Option Nat} {ty : TypeId} {pos : String} {af : Array Edge} {g : Option (Nat × Bool)}
theorem perm_mid (A B C : List Ent) : ((A ++ B) ++ C).Perm (B ++ (A ++ C)) := by
  rw [List.append_assoc, ← List.append_assoc B]
  exact (by
    have := (List.perm_append_comm (l₁ := A) (l₂ := B)).append_right C
    simpa [List.append_assoc] using this)
/-- The iterator's side. -/
theorem lo_yield {l : Nat} {fx : Operand} {args : List Operand} {tt : Array TypeId} {I e2 : List Ent} {RY : Bool → List Ent → Prop} (hfun : ev f fx = .func (.yield l) #[] #[]) (hd : dstOk d n = true) (ht : AppT I e2 es)
    (hY : YieldE P w0 M l (args.map (ev f)) e2 RY) (next : ∀ b e2', RY b e2' → K (updO f d (.bool b)) (I ++ e2')) : Lo P n w0 M ⟨d, .call ⟨.value fx, args.toArray, tt⟩, ty, pos, af, g⟩ f es K := by
  intro r G a w hf hw Q
  obtain rfl := ht.eq
  have hw' := hw.perm (perm_mid I e2 G)
  obtain ⟨fn, tmps, assign, body, hy, hR⟩ := hY (I ++ G) w hw'
  have hrun : (execOp a.eval ⟨d, .call ⟨.value fx, args.toArray, tt⟩, ty, pos, af, g⟩).run P w = .ok (.round l fn tmps assign body) w := by
    rw [hf.eval]
    have : (execOp (ev f) ⟨d, .call ⟨.value fx, args.toArray, tt⟩, ty, pos, af, g⟩).run P w = (Instr.yield l (args.map (ev f)).toArray).run P w := by
      simp [execOp, resolve, hfun, Deferred.ofValue, invoke]
    rw [this, hy]
  refine ⟨fun _ _ => trivial, ?_⟩
  rw [Oper.semAt_eq _ _ _ (no_defer_of_run hrun (by simp)), hrun]
  refine ⟨fun hd => (by cases hd), round_FR (hR.mono fun e w' he => ?_)⟩
  obtain ⟨b, es', rfl, hb, hh⟩ := he
  exact ⟨_, I ++ es', hf.put hd _, hh.perm (perm_mid I es' G).symm, next b es' hb⟩

/-! ### The caller's side -/
/-- How a round may end. -/
abbrev roundR (J : List Ent → Prop) (Jx : Code → List Ent → Prop) : KR
  | .normal, _, es => J es
  | .ret, _, es => Jx .ret es
  | .exit id, _, es => Jx (.exit id) es
  | .goto t, _, es => Jx (.goto t) es
  | _, _, _ => False
/-- yield's arguments in the loop's parameters. -/
def paramsF (f : Fm) : List Nat → List Value → Fm
  | p :: ps, a :: as => paramsF (upd f p a) ps as
  | _, _ => f
theorem fits_params : ∀ (ps : List Nat) (as : List Value) {f : Fm} {a : Act}, Fits f n a → ps.all (fun p => Nat.blt p n) = true →
    Fits (paramsF f ps as) n { tmps := ((ps.zip as).foldl (fun tmps (t, a) => tmps.setIfInBounds t a) a.tmps), defers := a.defers }
  | [], as, f, a, h, _ => by cases as <;> exact h
  | p :: ps, [], f, a, h, _ => h
  | p :: ps, x :: as, f, a, h, hp => by
    simp only [List.all_cons, Bool.and_eq_true] at hp
    have h1 := h.put (d := some p) (by simpa [dstOk] using hp.1) x
    have h2 := fits_params ps as h1 hp.2
    exact h2
theorem putObj_kept (w : World) (b : Nat) (o : Obj) : Kept [b] w (w.putObj b o) := ⟨rfl, rfl, rfl, by simp, fun k _ hk => World.putObj_heap_other (by simpa using hk)⟩
theorem Holds.putLp {w : World} {l : Nat} {q q' : Loop} {G : List Ent} (h : Holds w0 M (.lp l q :: G) w) : Holds w0 M (.lp l q' :: G) (w.putObj l (.loop q')) := by
  have hb : w.heap[l]? = some (.loop q) := h.sat (.lp l q) (by simp)
  refine Holds.go (X := [l]) (old := [.lp l q]) (new := [.lp l q']) h (List.Perm.refl _) (putObj_kept w l _) (by simp [Ent.blk]) ?_ (by simp [Ent.blk]) (by simp [Ent.blk]) ?_
  · intro e he
    simp only [List.mem_singleton] at he
    subst he
    exact World.putObj_heap_same (Array.getElem?_eq_some_iff.1 hb).1
  · intro e he
    simp only [List.mem_singleton] at he
    subst he
    trivial
theorem Holds.newObj {w : World} {e : Ent} {o : Obj} (h : Holds w0 M es w) (hs : e.sat (w.alloc o)) (hb : e.blk = some w.heap.size) (hf : e.far w0.heap.size M) : Holds w0 M (e :: es) (w.alloc o) :=
  Holds.go (old := []) (new := [e]) (X := []) h (List.Perm.refl _) (Kept.alloc [] w _) (by simp) (by
    intro e' he
    simp only [List.mem_singleton] at he
    subst he
    exact hs) (by simp [hb]) (by simp [hb]) (by
    intro e' he
    simp only [List.mem_singleton] at he
    subst he
    exact hf)
/-- **A range over a function.** J: the entries between two rounds; Jx: when a round has left by a jump. -/
theorem t_rangeFunc {α : Type} {gx : Operand} {k : FuncId} {cap : List Value} {ps : List Nat} {assign body : Code} {R : KR} {I0 e1 : List Ent} {ms : List Nat} (xs : List α) (encs : α → List Value) (J : List α → List Ent → Prop) (Jx : Code → List Ent → Prop)
    (hfun : ev f gx = .func (.func k) #[] cap.toArray) (hcall : ∀ (as : Array Value) (w : World), (callFunc k as).run P w = .ok (.enter k as) w) (ht : AppT I0 e1 es) (hit : IterC P k cap encs xs I0)
    (hps : ∀ x, (encs x).length = ps.length) (hdst : ps.all (fun p => Nat.blt p n) = true) (hmk : f mkS = marksV ms) (h0 : J [] e1)
    (hround : ∀ l pre x es', J pre es' → (pre ++ [x]) <+: xs → T P n w0 M (some l) assign (paramsF (upd f mkS (marksV [])) ps (encs x)) es' (thenR (fun f1 es1 => T P n w0 M (some l) body f1 es1 (roundR (J (pre ++ [x])) Jx)) (fun _ _ _ => False)))
    (hdone : ∀ es' mb, J xs es' → R .normal (upd f mkS (marksV (mb :: ms))) (.mk mb :: (I0 ++ es')))
    (hjump : ∀ c es' mb, Jx c es' → T P n w0 M none c (upd f mkS (marksV (mb :: ms))) (.mk mb :: (I0 ++ es')) R) : T P n w0 M none (.rangeFunc gx ps.toArray assign body) f es R := by
  obtain rfl := ht.eq
  intro G a w hf hw
  refine wpIn_rangeFunc fun fn _ => ?_
  -- the record
  let q0 : Loop := { state := .ready, pending := none, fn := fn, tmps := a.tmps, params := ps.toArray, assign := assign, body := body, defers := w.heap.size }
  let w1 := w.alloc (.deferred (some []))
  let w2 := w1.alloc (.loop q0)
  have hm : Holds w0 M (.mk w.heap.size :: ((I0 ++ e1) ++ G)) w1 := Holds.newObj hw (World.alloc_heap_new w _) rfl trivial
  have hl : Holds w0 M (.lp (w.heap.size + 1) q0 :: .mk w.heap.size :: ((I0 ++ e1) ++ G)) w2 := by
    have h1 : w1.heap.size = w.heap.size + 1 := by simp [w1]
    rw [← h1]
    exact Holds.newObj hm (World.alloc_heap_new w1 _) rfl trivial
  -- what is known of the record between two rounds
  let Like (q : Loop) : Prop := q.fn = fn ∧ q.tmps = a.tmps ∧ q.params = ps.toArray ∧ q.assign = assign ∧ q.body = body
  have hI := hit w0 M (.mk w.heap.size :: G) (w.heap.size + 1) (fun pre es' => ∃ q es1, es' = .lp (w.heap.size + 1) q :: es1 ∧ Like q ∧ q.state = .ready ∧ q.pending = none ∧ J pre es1)
    (fun es' => ∃ q es1 c, es' = .lp (w.heap.size + 1) q :: es1 ∧ Like q ∧ q.state = .done ∧ q.pending = some c ∧ Jx c es1) (.lp (w.heap.size + 1) q0 :: e1) ?_ ⟨q0, e1, rfl, ⟨rfl, rfl, rfl, rfl, rfl⟩, rfl, rfl, h0⟩ w2 ?_
  rotate_left
  · -- one round
    rintro pre x es' ⟨q, es1, rfl, ⟨hq1, hq2, hq3, hq4, hq5⟩, hqs, hqp, hJ⟩ hpre G' w3 hw3
    have hlq : w3.heap[w.heap.size + 1]? = some (.loop q) := hw3.sat (.lp _ q) (by simp)
    refine ⟨q.fn, _, q.assign, q.body, run_yield hlq (by rw [hq3]; simp [hps x]), ?_⟩
    have hperm : Holds w0 M (es1 ++ (.lp (w.heap.size + 1) q :: G')) w3 := hw3.perm (by
      have := (List.perm_append_comm (l₁ := [Ent.lp (w.heap.size + 1) q]) (l₂ := es1)).append_right G'
      simpa [List.append_assoc] using this)
    have hT := hround (w.heap.size + 1) pre x es1 hJ hpre (.lp (w.heap.size + 1) q :: G') { tmps := ((ps.zip (encs x)).foldl (fun tmps (t, a) => tmps.setIfInBounds t a) a.tmps), defers := [] } w3 (by
      have hf0 : Fits (upd f mkS (marksV [])) n { tmps := a.tmps, defers := [] } := by
        refine ⟨rfl, hf.size, hf.small, fun t ht => ?_⟩
        show a.tmps.getD t undef = bif Nat.beq t mkS then _ else f t
        rw [beq_false ht]
        exact hf.at_ t ht
      exact fits_params ps (encs x) hf0 hdst) hperm
    rw [hq1, hq4, hq5, hq2, hq3]
    have hz : (ps.toArray.zip (encs x).toArray).foldl (fun tmps (t, a) => tmps.setIfInBounds t a) a.tmps = (ps.zip (encs x)).foldl (fun tmps (t, a) => tmps.setIfInBounds t a) a.tmps := by
      simp
    rw [hz]
    refine roundIn_of_wpIn (F := FR none) trivial (wpIn_mono hT ?_)
    rintro e a4 w4 ⟨f4, es4, hf4, hw4, hn4⟩
    cases e
    case normal =>
      have hlq4 : w4.heap[w.heap.size + 1]? = some (.loop q) := hw4.sat (.lp _ q) (by simp)
      refine ⟨_, run_beginRound hlq4 hqs, ?_⟩
      let qb : Loop := { q with state := .busy }
      have hw5 : Holds w0 M (es4 ++ (.lp (w.heap.size + 1) qb :: G')) (w4.putObj (w.heap.size + 1) (.loop qb)) := by
        have h1 : Holds w0 M (.lp (w.heap.size + 1) q :: (es4 ++ G')) w4 := hw4.perm List.perm_middle
        exact (h1.putLp (q' := qb)).perm List.perm_middle.symm
      refine wpIn_mono (hn4 (.lp (w.heap.size + 1) qb :: G') a4 _ hf4 hw5) ?_
      -- the round's end
      have fin : ∀ (jump : Option Code) (w6 : World) (es6 : List Ent), Holds w0 M (es6 ++ (.lp (w.heap.size + 1) qb :: G')) w6 → (∀ c, jump = some c → Jx c es6) → (jump = none → J (pre ++ [x]) es6) →
          ∃ v w', (Instr.endRound (w.heap.size + 1) jump).run P w6 = .ok v w' ∧ ∃ b es', Ending.returned v = .returned (.bool b) ∧ ((b = true ∧ ∃ q es1, es' = .lp (w.heap.size + 1) q :: es1 ∧ Like q ∧ q.state = .ready ∧ q.pending = none ∧ J (pre ++ [x]) es1) ∨
            (b = false ∧ ∃ q es1 c, es' = .lp (w.heap.size + 1) q :: es1 ∧ Like q ∧ q.state = .done ∧ q.pending = some c ∧ Jx c es1)) ∧ Holds w0 M (es' ++ G') w' := by
        intro jump w6 es6 hw6 hjx hj
        have hlq6 : w6.heap[w.heap.size + 1]? = some (.loop qb) := hw6.sat (.lp _ qb) (by simp)
        let qe : Loop := { qb with state := if jump.isNone then .ready else .done, pending := jump }
        have hw7 : Holds w0 M (.lp (w.heap.size + 1) qe :: (es6 ++ G')) (w6.putObj (w.heap.size + 1) (.loop qe)) := by
          have h1 : Holds w0 M (.lp (w.heap.size + 1) qb :: (es6 ++ G')) w6 := hw6.perm List.perm_middle
          exact h1.putLp
        refine ⟨_, _, run_endRound jump hlq6, jump.isNone, .lp (w.heap.size + 1) qe :: es6, rfl, ?_, hw7⟩
        cases jump with
        | none => exact .inl ⟨rfl, qe, es6, rfl, ⟨hq1, hq2, hq3, hq4, hq5⟩, rfl, rfl, hj rfl⟩
        | some c => exact .inr ⟨rfl, qe, es6, c, rfl, ⟨hq1, hq2, hq3, hq4, hq5⟩, rfl, rfl, hjx c rfl⟩
      rintro e a6 w6 ⟨f6, es6, hf6, hw6, hn6⟩
      cases e
      case normal => exact fin none w6 es6 hw6 (fun c h => by cases h) (fun _ => hn6)
      case ret => exact fin (some .ret) w6 es6 hw6 (fun c h => by cases h; exact hn6) (fun h => by cases h)
      case exit id => exact fin (some (.exit id)) w6 es6 hw6 (fun c h => by cases h; exact hn6) (fun h => by cases h)
      case goto t => exact fin (some (.goto t)) w6 es6 hw6 (fun c h => by cases h; exact hn6) (fun h => by cases h)
      all_goals exact hn6.elim
    all_goals exact hn4.elim
  · -- the world in which the iterator is called
    refine hl.perm ?_
    have h1 : (Ent.lp (w.heap.size + 1) q0 :: Ent.mk w.heap.size :: ((I0 ++ e1) ++ G)) = [Ent.lp (w.heap.size + 1) q0] ++ ([Ent.mk w.heap.size] ++ (I0 ++ (e1 ++ G))) := by simp [List.append_assoc]
    have h2 : ((I0 ++ (Ent.lp (w.heap.size + 1) q0 :: e1)) ++ (Ent.mk w.heap.size :: G)) = I0 ++ ([Ent.lp (w.heap.size + 1) q0] ++ (e1 ++ ([Ent.mk w.heap.size] ++ G))) := by simp [List.append_assoc]
    rw [h1, h2]
    have p1 : ([Ent.lp (w.heap.size + 1) q0] ++ ([Ent.mk w.heap.size] ++ (I0 ++ (e1 ++ G)))).Perm ([Ent.lp (w.heap.size + 1) q0] ++ (I0 ++ (e1 ++ ([Ent.mk w.heap.size] ++ G)))) := by
      refine List.Perm.append_left _ ?_
      have q1 : ([Ent.mk w.heap.size] ++ (I0 ++ (e1 ++ G))).Perm (I0 ++ ([Ent.mk w.heap.size] ++ (e1 ++ G))) := by
        have := (List.perm_append_comm (l₁ := [Ent.mk w.heap.size]) (l₂ := I0)).append_right (e1 ++ G)
        simpa [List.append_assoc] using this
      have q2 : ([Ent.mk w.heap.size] ++ (e1 ++ G)).Perm (e1 ++ ([Ent.mk w.heap.size] ++ G)) := by
        have := (List.perm_append_comm (l₁ := [Ent.mk w.heap.size]) (l₂ := e1)).append_right G
        simpa [List.append_assoc] using this
      exact q1.trans (q2.append_left _)
    refine p1.trans ?_
    have := (List.perm_append_comm (l₁ := [Ent.lp (w.heap.size + 1) q0]) (l₂ := I0)).append_right (e1 ++ ([Ent.mk w.heap.size] ++ G))
    simpa [List.append_assoc] using this
  -- the statement
  have hf' : ∀ mb, Fits (upd f mkS (marksV (mb :: ms))) n { a with defers := { target := .collected mb, args := #[] } :: a.defers } := fun mb => by
    refine ⟨?_, hf.size, hf.small, fun t ht => ?_⟩
    · show _ = marksOf (bif Nat.beq mkS mkS then marksV (mb :: ms) else f mkS)
      rw [Nat.beq_refl, cond_true]
      show _ :: a.defers = _
      rw [hf.defers, hmk]
      simp [marksV, marksOf, markOf]
    · show a.tmps.getD t undef = bif Nat.beq t mkS then _ else f t
      rw [beq_false ht]
      exact hf.at_ t ht
  have hres : (resolve a.eval (rangeCall gx (w.heap.size + 1)) 0).run P w2 = .ok { target := .fn (.func k) cap.toArray, args := #[.func (.yield (w.heap.size + 1)) #[] #[]] } w2 := by
    rw [hf.eval]
    have h2 : ev f (.const (.func (.yield (w.heap.size + 1)) #[] #[])) = .func (.yield (w.heap.size + 1)) #[] #[] := rfl
    simp [resolve, hfun, Deferred.ofValue, h2]
  refine ⟨w.heap.size + 1, [{ target := .collected w.heap.size, args := #[] }], w2, _, w2, k, _, w2, run_enterLoop_outer fn a.tmps ps.toArray assign body, hres, fun _ _ => trivial, ?_, fun hd => (by cases hd), callsIn_FR (hI.mono ?_)⟩
  · simp [invoke, hcall]
  rintro e w3 ⟨v, rfl, es', hJ, hw3⟩
  have back : ∀ (q : Loop) (es1 : List Ent), es' = .lp (w.heap.size + 1) q :: es1 → Holds w0 M ((.mk w.heap.size :: (I0 ++ es1)) ++ G) (w3.putObj (w.heap.size + 1) (.loop { q with state := .exhausted })) := by
    rintro q es1 rfl
    have h1 : Holds w0 M (.lp (w.heap.size + 1) q :: (.mk w.heap.size :: ((I0 ++ es1) ++ G))) w3 := by
      refine hw3.perm ?_
      have h1 : ((I0 ++ (Ent.lp (w.heap.size + 1) q :: es1)) ++ (Ent.mk w.heap.size :: G)).Perm (Ent.lp (w.heap.size + 1) q :: ((I0 ++ es1) ++ (Ent.mk w.heap.size :: G))) := by
        simp
      exact h1.trans ((List.perm_middle (a := Ent.mk w.heap.size) (l₁ := I0 ++ es1) (l₂ := G)).cons _)
    have h2 := h1.putLp (q' := { q with state := .exhausted })
    refine h2.sub (s := (.mk w.heap.size :: (I0 ++ es1)) ++ G) ?_
    exact sub_tail _ _
  rcases hJ with ⟨q, es1, rfl, hq, hqs, hqp, hJ⟩ | ⟨q, es1, c, rfl, hq, hqs, hqp, hJ⟩
  · refine ⟨none, w3.putObj (w.heap.size + 1) (.loop { q with state := .exhausted }), ?_, ?_⟩
    · have hlq : w3.heap[w.heap.size + 1]? = some (.loop q) := hw3.sat (.lp _ q) (by simp)
      rw [← hqp]
      exact run_endLoop hlq (by rw [hqs]; simp)
    · exact ⟨_, _, hf' _, back q es1 rfl, hdone es1 w.heap.size hJ⟩
  · refine ⟨some c, w3.putObj (w.heap.size + 1) (.loop { q with state := .exhausted }), ?_, ?_⟩
    · have hlq : w3.heap[w.heap.size + 1]? = some (.loop q) := hw3.sat (.lp _ q) (by simp)
      rw [← hqp]
      exact run_endLoop hlq (by rw [hqs]; simp)
    · exact hjump c es1 w.heap.size hJ G _ _ (hf' _) (back q es1 rfl)
theorem agree_nil {f : Fm} : Agree f [] := trivial
theorem agree_cons {f : Fm} {d : Nat} {v : Value} {r : List (Nat × Value)} (h : f d = v) (hr : Agree f r) : Agree f ((d, v) :: r) := ⟨h, hr⟩
theorem Sl.len {w : World} {v : Value} {sz n : Nat} {xs : List Value} (h : Sl w v sz n xs) : n ≤ 9223372036854775807 := by
  obtain ⟨⟨c, _, h1, h2⟩, _⟩ := h
  simp only [maxLen] at h2
  omega
theorem wrap_range (k : IntKind) (hk : k.signed = false) (x : Int) : 0 ≤ k.wrap x ∧ k.wrap x < 2 ^ k.bits := by
  have h2 : (0 : Int) < 2 ^ k.bits := Int.pow_pos (by decide)
  simp only [IntKind.wrap, hk, Bool.false_and, Bool.false_eq_true, if_false]
  exact ⟨Int.emod_nonneg _ (by omega), Int.emod_lt_of_pos _ h2⟩
theorem bits_range (b : BinOp) (k : IntKind) (hk : k.signed = false) (x y : Int) : 0 ≤ bits b k x y ∧ bits b k x y < 2 ^ k.bits := wrap_range k hk _
theorem bits_nonneg (b : BinOp) (k : IntKind) (hk : k.signed = false) (x y : Int) : 0 ≤ bits b k x y := (bits_range b k hk x y).1
theorem u64_nonneg (x : Int) : 0 ≤ IntKind.u64.wrap x := by
  simp only [IntKind.wrap, IntKind.signed, IntKind.bits]
  simp
  omega
end
end Go.Proofs.HL
