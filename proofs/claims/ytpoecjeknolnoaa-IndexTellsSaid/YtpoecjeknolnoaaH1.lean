/- Part of my layer of laws over any program of the model: what it shows stands at each theorem. Conditions: those that each theorem names. -/
import Derived.Test.YtpoecjeknolnoaaH0
import Derived.Deep.LoopGhost
/-
  THE LAYER "HL", part 1: the judgements on a region's operations (RG), on code (T), on a call. r: the round in which the frame stands (none: no round).
  Every judgement bears, unseen, a frame G of further entries, which are as they were.
-/
namespace Go.Proofs.HL
open Go.RowKit

/-- The fence that lets all in, for a frame in round r. -/
def FR (r : Option Nat) : Fence := { fn := fun _ => True, depth := none, alive := false, round := r }
theorem callsIn_FR {r : Option Nat} {n : Nat} {P : Program} {f : FuncId} {args : Array Value} {w : World} {R : Ending → World → Prop} (h : Calls P f args w R) : CallsIn (FR r) n P f args w R := by
  have h1 : CallsIn Fence.wide n P f args w R := callsIn_wide.2 h
  exact ⟨trivial, fun cs hr => h1.2 cs (fun _ hd => by cases hd)⟩
theorem calls_FR {n : Nat} {P : Program} {f : FuncId} {args : Array Value} {w : World} {R : Ending → World → Prop} (h : CallsIn (FR none) n P f args w R) : Calls P f args w R := (callsIn_wide (n := n)).1 h
theorem round_FR {r r' : Option Nat} {n n' : Nat} {P : Program} {l : Nat} {f : FuncId} {tmps : Array Value} {assign body : Code} {w : World} {R : Ending → World → Prop} (h : RoundIn (FR r) n P l f tmps assign body w R) : RoundIn (FR r') n' P l f tmps assign body w R :=
  ⟨trivial, fun c cs _ => h.2 c cs (fun _ hd => by cases hd)⟩

abbrev KK := Fm → List Ent → Prop
abbrev KR := Exit → Fm → List Ent → Prop
section
variable {P : Program} {n : Nat} {w0 : World} {M : List Nat} {r : Option Nat}

/-- The state that K speaks of. -/
def In (n : Nat) (w0 : World) (M : List Nat) (G : List Ent) (K : KK) (a : Act) (w : World) : Prop := ∃ f es, Fits f n a ∧ Holds w0 M (es ++ G) w ∧ K f es
def RQ (n : Nat) (w0 : World) (M : List Nat) (G : List Ent) (K : KK) : Exit → Act → World → Prop
  | .normal, a, w => In n w0 M G K a w
  | _, _, _ => False
/-- The operations l are still to come. -/
def RG (P : Program) (n : Nat) (w0 : World) (M : List Nat) (r : Option Nat) (ops : Array Oper) (l : List Oper) (f : Fm) (es : List Ent) (K : KK) : Prop :=
  ∀ G a w, Fits f n a → Holds w0 M (es ++ G) w → wpListIn (FR r) 0 P ops (RQ n w0 M G K) l a w
/-- The operation leaves v in its temporary and does nothing else. -/
def Pu (P : Program) (o : Oper) (f : Fm) (es : List Ent) (v : Value) : Prop :=
  ∀ w, Sat es w → (execOp (ev f) o).run P w = .ok (.value v) w
/-- The operation leads to K. -/
def Lo (P : Program) (n : Nat) (w0 : World) (M : List Nat) (o : Oper) (f : Fm) (es : List Ent) (K : KK) : Prop :=
  ∀ r G a w, Fits f n a → Holds w0 M (es ++ G) w → ∀ Q, o.wpIn (FR r) 0 P a w (In n w0 M G K) Q
/-- The value of an operation that is guarded by g. -/
def gv (g : Bool) (v : Value) : Value := bif g then v else undef
theorem gvE {f : Fm} {x : Operand} {g : Bool} {v : Value} (hg : g = true) (h : ev f x = gv g v) : ev f x = v := by rw [h, hg]; rfl

variable {ops : Array Oper} {l : List Oper} {f : Fm} {es : List Ent} {K : KK} {o : Oper} {v : Value}

theorem no_defer_of_run {ρ : Operand → Value} {w w' : World} {x : Next} (h : (execOp ρ o).run P w = .ok x w') (hx : ∀ d, x ≠ .defer d) : ∀ c, o.op ≠ .defer c := by
  intro c hc
  have he : execOp ρ o = (do pure (.defer (← resolve ρ c o.type))) := by unfold execOp; rw [hc]
  rw [he] at h
  cases hr : (resolve ρ c o.type).run P w with
  | ok d w1 => simp [hr] at h; exact hx _ h.1.symm
  | halt x w1 => simp [hr] at h
theorem wpIn_value {a : Act} {w w' : World} {Q : Exit → Act → World → Prop} {N : Act → World → Prop} (h : (execOp a.eval o).run P w = .ok (.value v) w') (hN : N (a.put o.dst v) w') : o.wpIn (FR r) 0 P a w N Q := by
  refine ⟨fun _ _ => trivial, ?_⟩
  rw [Oper.semAt_eq _ _ _ (no_defer_of_run h (by simp)), h]
  exact hN
theorem wpIn_skip' {a : Act} {w w' : World} {Q : Exit → Act → World → Prop} {N : Act → World → Prop} (h : (execOp a.eval o).run P w = .ok .skip w') (hN : N (a.put o.dst undef) w') : o.wpIn (FR r) 0 P a w N Q := by
  refine ⟨fun _ _ => trivial, ?_⟩
  rw [Oper.semAt_eq _ _ _ (no_defer_of_run h (by simp)), h]
  exact hN
theorem wpIn_enter {a : Act} {w w' : World} {k : FuncId} {args : Array Value} {Q : Exit → Act → World → Prop} {N : Act → World → Prop} {RE : Ending → World → Prop} (h : (execOp a.eval o).run P w = .ok (.enter k args) w')
    (hC : Calls P k args w' RE) (hN : ∀ e w'', RE e w'' → ∃ v, e = .returned v ∧ N (a.put o.dst v) w'') : o.wpIn (FR r) 0 P a w N Q := by
  refine ⟨fun _ _ => trivial, ?_⟩
  rw [Oper.semAt_eq _ _ _ (no_defer_of_run h (by simp)), h]
  refine ⟨fun hd => (by cases hd), callsIn_FR (hC.mono fun e w'' he => ?_)⟩
  obtain ⟨v, rfl, hn⟩ := hN e w'' he
  exact hn
theorem rg_nil (h : K f es) : RG P n w0 M r ops [] f es K := fun _ _ _ hf hw => ⟨f, es, hf, hw, h⟩
theorem rg_pure (hg : o.guard = none) (hd : dstOk o.dst n = true) (h : Pu P o f es v) (next : RG P n w0 M r ops l (updO f o.dst v) es K) : RG P n w0 M r ops (o :: l) f es K := by
  intro G a w hf hw
  unfold wpListIn
  rw [if_pos (by simp [Region.wanted, hg])]
  exact wpIn_value (by rw [hf.eval]; exact h w hw.sat.left) (next G _ _ (hf.put hd v) hw)
theorem wanted_of {j : Nat} {want : Bool} {t : Nat} {c : Bool} {a : Act} (hg : o.guard = some (j, want)) (ht : (ops[j]?).bind (·.dst) = some t) (hf : Fits f n a) (hc : ev f (.tmp t) = .bool c) :
    Region.wanted o (yielded ops a.tmps) = (c == want) := by
  have h1 : a.tmps[t]? = some (.bool c) := by
    have : a.eval (.tmp t) = .bool c := by rw [hf.eval]; exact hc
    have h2 : a.tmps.getD t undef = .bool c := this
    rw [Array.getD_eq_getD_getElem?] at h2
    cases hx : a.tmps[t]? with
    | none => rw [hx] at h2; simp [undef] at h2
    | some y => rw [hx] at h2; simp at h2; rw [h2]
  simp only [Region.wanted, hg, yielded, ht, Option.bind_some, h1]
  cases c <;> cases want <;> rfl
theorem rg_gpure {j : Nat} {want : Bool} {t : Nat} {c : Bool} (hg : o.guard = some (j, want)) (ht : (ops[j]?).bind (·.dst) = some t) (hc : ev f (.tmp t) = .bool c) (hd : dstOk o.dst n = true)
    (h : (c == want) = true → Pu P o f es v) (next : RG P n w0 M r ops l (updO f o.dst (gv (c == want) v)) es K) : RG P n w0 M r ops (o :: l) f es K := by
  intro G a w hf hw
  unfold wpListIn
  rw [wanted_of hg ht hf hc]
  cases hcw : (c == want) with
  | true =>
    rw [if_pos rfl]
    rw [hcw] at next
    exact wpIn_value (by rw [hf.eval]; exact h hcw w hw.sat.left) (next G _ _ (hf.put hd v) hw)
  | false =>
    rw [if_neg (by simp)]
    rw [hcw] at next
    exact ⟨fun _ _ => trivial, next G _ _ (hf.put hd undef) hw⟩
theorem rg_loud (hg : o.guard = none) (h : Lo P n w0 M o f es (fun f' es' => RG P n w0 M r ops l f' es' K)) : RG P n w0 M r ops (o :: l) f es K := by
  intro G a w hf hw
  unfold wpListIn
  rw [if_pos (by simp [Region.wanted, hg])]
  exact Oper.wpIn_mono (fun a' w' ⟨f', es', h1, h2, h3⟩ => h3 G a' w' h1 h2) (h r G a w hf hw _)
/-- A guarded operation that is loud: two ways. -/
theorem rg_gloud {j : Nat} {want : Bool} {t : Nat} {c : Bool} (hg : o.guard = some (j, want)) (ht : (ops[j]?).bind (·.dst) = some t) (hc : ev f (.tmp t) = .bool c) (hd : dstOk o.dst n = true)
    (h1 : (c == want) = true → Lo P n w0 M o f es (fun f' es' => RG P n w0 M r ops l f' es' K)) (h0 : (c == want) = false → RG P n w0 M r ops l (updO f o.dst undef) es K) : RG P n w0 M r ops (o :: l) f es K := by
  intro G a w hf hw
  unfold wpListIn
  rw [wanted_of hg ht hf hc]
  cases hcw : (c == want) with
  | true =>
    rw [if_pos rfl]
    exact Oper.wpIn_mono (fun a' w' ⟨f', es', h1, h2, h3⟩ => h3 G a' w' h1 h2) (h1 hcw r G a w hf hw _)
  | false =>
    rw [if_neg (by simp)]
    exact ⟨fun _ _ => trivial, h0 hcw G _ _ (hf.put hd undef) hw⟩
/-- A loud operation that leaves v, and all entries as they were. -/
def LoP (P : Program) (n : Nat) (w0 : World) (M : List Nat) (o : Oper) (f : Fm) (es : List Ent) (v : Value) : Prop :=
  ∀ K : KK, K (updO f o.dst v) es → Lo P n w0 M o f es K
theorem rg_gcall {j : Nat} {want : Bool} {t : Nat} {c : Bool} (hg : o.guard = some (j, want)) (ht : (ops[j]?).bind (·.dst) = some t) (hc : ev f (.tmp t) = .bool c) (hd : dstOk o.dst n = true)
    (h : (c == want) = true → LoP P n w0 M o f es v) (next : RG P n w0 M r ops l (updO f o.dst (gv (c == want) v)) es K) : RG P n w0 M r ops (o :: l) f es K := by
  refine rg_gloud hg ht hc hd (fun hcw => h hcw _ ?_) (fun hcw => ?_)
  · rw [hcw] at next; exact next
  · rw [hcw] at next; exact next

/-! ### Code -/
def T (P : Program) (n : Nat) (w0 : World) (M : List Nat) (r : Option Nat) (c : Code) (f : Fm) (es : List Ent) (R : KR) : Prop :=
  ∀ G a w, Fits f n a → Holds w0 M (es ++ G) w → c.wpIn (FR r) 0 P (fun x => In n w0 M G (R x)) a w
abbrev thenR (N : KK) (R : KR) : KR
  | .normal, f, es => N f es
  | x, f, es => R x f es
abbrev blockR (id : Nat) (R : KR) : KR
  | .exit i, f, es => bif Nat.beq i id then R .normal f es else R (.exit i) f es
  | x, f, es => R x f es
variable {R : KR} {x y : Code}
theorem rq_imp {G : List Ent} : ∀ (e : Exit) (a : Act) (w : World), RQ n w0 M G (R .normal) e a w → In n w0 M G (R e) a w := fun e _ _ hq => by
  cases e
  case normal => exact hq
  all_goals exact (hq : False).elim
theorem t_region {id : Nat} (h : RG P n w0 M r ops ops.toList f es (R .normal)) : T P n w0 M r (.region id ops false) f es R := fun G a w hf hw =>
  wpIn_mono (wpIn_region_list (h G a w hf hw)) rq_imp
theorem t_seq (h : T P n w0 M r x f es (thenR (fun f' es' => T P n w0 M r y f' es' R) R)) : T P n w0 M r (.seq x y) f es R := fun G a w hf hw =>
  wpIn_seq (wpIn_mono (h G a w hf hw) (fun e a' w' hq => by
    obtain ⟨f', es', h1, h2, h3⟩ := hq
    cases e
    case normal => exact h3 G a' w' h1 h2
    all_goals exact ⟨f', es', h1, h2, h3⟩))
theorem t_seq_region {id : Nat} (h : RG P n w0 M r ops ops.toList f es (fun f' es' => T P n w0 M r y f' es' R)) : T P n w0 M r (.seq (.region id ops false) y) f es R := t_seq (t_region h)
theorem t_cond {c : Operand} {b : Bool} (hc : ev f c = .bool b) (h1 : b = true → T P n w0 M r x f es R) (h0 : b = false → T P n w0 M r y f es R) : T P n w0 M r (.cond c x y) f es R := fun G a w hf hw =>
  wpIn_cond_split (by rw [hf.eval]; exact hc) (fun h => h1 h G a w hf hw) (fun h => h0 h G a w hf hw)
theorem t_block {id : Nat} (h : T P n w0 M r x f es (blockR id R)) : T P n w0 M r (.block id x) f es R := fun G a w hf hw =>
  wpIn_block (wpIn_mono (h G a w hf hw) (fun e _ _ hq => by
    obtain ⟨f', es', h1, h2, h3⟩ := hq
    cases e
    case exit i =>
      simp only [Exit.inBlock]
      simp only [blockR] at h3
      by_cases hi : i = id
      · subst hi; rw [if_pos rfl]; simp only [Nat.beq_refl, cond_true] at h3; exact ⟨f', es', h1, h2, h3⟩
      · rw [if_neg hi]
        rw [beq_false hi] at h3; exact ⟨f', es', h1, h2, h3⟩
    all_goals exact ⟨f', es', h1, h2, h3⟩))
theorem t_ret (h : R .ret f es) : T P n w0 M r .ret f es R := fun _ _ _ hf hw => wpIn_ret ⟨f, es, hf, hw, h⟩
theorem t_skip (h : R .normal f es) : T P n w0 M r .skip f es R := fun _ _ _ hf hw => wpIn_skip ⟨f, es, hf, hw, h⟩
theorem t_exit {id : Nat} (h : R (.exit id) f es) : T P n w0 M r (.exit id) f es R := fun _ _ _ hf hw => wpIn_exit ⟨f, es, hf, hw, h⟩
theorem t_mono {R' : KR} (h : T P n w0 M r x f es R) (hR : ∀ e f es, R e f es → R' e f es) : T P n w0 M r x f es R' := fun G a w hf hw =>
  wpIn_mono (h G a w hf hw) (fun e _ _ ⟨f', es', h1, h2, h3⟩ => ⟨f', es', h1, h2, hR e f' es' h3⟩)
/-- Some entries are forgotten. -/
theorem t_sub {s : List Ent} (hs : Sub es s) (h : T P n w0 M r x f s R) : T P n w0 M r x f es R := fun G a w hf hw => h G a w hf (hw.subG hs)
theorem rg_sub {s : List Ent} (hs : Sub es s) (h : RG P n w0 M r ops l f s K) : RG P n w0 M r ops l f es K := fun G a w hf hw => h G a w hf (hw.subG hs)
/-- A loop with an invariant that bears a number (Derived/Deep/LoopGhost.lean's law, in the fence). -/
theorem wpIn_loop_ghost {F : Fence} {Q : Exit → Act → World → Prop} {a : Act} {w : World} {c : Code} (I : Nat → Act → World → Prop) (n₀ : Nat) (h₀ : I n₀ a w)
    (round : ∀ n a w, I n a w → c.wpIn F 0 P (Exit.then (fun a' w' => ∃ n', n' < n ∧ I n' a' w') Q) a w) : (Code.loop c).wpIn F 0 P Q a w := by
  refine wpIn_loop (fun a w => ∃ n, I n a w) (fun a w => leastOf (fun n => I n a w)) ⟨n₀, h₀⟩ ?_
  intro a w hI
  refine wpIn_mono (round _ a w (leastOf_spec hI).1) ?_
  intro e a' w' hq
  cases e with
  | normal =>
    obtain ⟨n', hlt, hI'⟩ := hq
    exact show (∃ n, I n a' w') ∧ leastOf (fun n => I n a' w') < leastOf (fun n => I n a w) from ⟨⟨n', hI'⟩, Nat.lt_of_le_of_lt ((leastOf_spec ⟨n', hI'⟩).2 n' hI') hlt⟩
  | exit id => exact hq
  | goto l => exact hq
  | ret => exact hq
  | panic ch => exact hq
  | outgrown => exact hq
/-- **A loop**: of each round's head some temporaries and entries are known, by a state s; a round comes to another such state, with a smaller measure. -/
theorem t_loop {σ : Type} (L : σ → List (Nat × Value)) (E : σ → List Ent) (Ok : σ → Prop) (μ : σ → Nat) (s : σ) (hs : Ok s) (hL : Agree f (L s)) (hE : Sub es (E s))
    (round : ∀ s g, Ok s → T P n w0 M r x (over g (L s)) (E s) (thenR (fun f' es' => ∃ s', Ok s' ∧ μ s' < μ s ∧ Agree f' (L s') ∧ Sub es' (E s')) R)) : T P n w0 M r (.loop x) f es R := by
  intro G a w hf hw
  refine wpIn_loop_ghost (fun m a w => ∃ s f, μ s = m ∧ Ok s ∧ Fits f n a ∧ Agree f (L s) ∧ Holds w0 M (E s ++ G) w) (μ s) ⟨s, f, rfl, hs, hf, hL, hw.subG hE⟩ ?_
  rintro m a w ⟨s, f, rfl, hs, hf, hL, hw⟩
  have h := round s f hs
  rw [over_self hL] at h
  refine wpIn_mono (h G a w hf hw) ?_
  rintro e a' w' ⟨f', es', h1, h2, h3⟩
  cases e
  case normal =>
    obtain ⟨s', hs', hlt, hL', hE'⟩ := h3
    exact ⟨μ s', hlt, s', f', rfl, hs', h1, hL', h2.subG hE'⟩
  all_goals exact ⟨f', es', h1, h2, h3⟩
/-- Where ways meet again: of the frame and of the entries only this much is known. -/
theorem t_join {σ : Type} (L : σ → List (Nat × Value)) (E : σ → List Ent) (Ok : σ → Prop) (h : T P n w0 M r x f es (thenR (fun f' es' => ∃ s, Ok s ∧ Agree f' (L s) ∧ Sub es' (E s)) R))
    (next : ∀ s g, Ok s → T P n w0 M r y (over g (L s)) (E s) R) : T P n w0 M r (.seq x y) f es R := by
  refine t_seq (t_mono h ?_)
  intro e f' es' hq
  cases e
  case normal =>
    obtain ⟨s, hs, hL, hE⟩ := hq
    have h := next s f' hs
    rw [over_self hL] at h
    exact t_sub hE h
  all_goals exact hq

/-! ### A call -/
/-- The call comes back with a value; but for the blocks X and new ones the world is as it was. -/
def Ret (X : List Nat) (w : World) (Post : Value → World → Prop) : Ending → World → Prop := fun e w' => ∃ v, e = .returned v ∧ Kept X w w' ∧ Post v w'
/-- One result: a temporary, or a variable of the call's own. -/
inductive ResV (P : Program) (es : List Ent) (f : Fm) : ResultVar → Value → Prop
  | tmp {t} : ResV P es f (.tmp t) (ev f (.tmp t))
  | cell {t ty b v} (h : ev f (.tmp t) = .pointer (some ⟨b, 0, none⟩)) (hl : ∀ w, Sat es w → (loadVar ty ⟨b, 0, none⟩).run P w = .ok v w) : ResV P es f (.cell t ty) v
/-- What one result is read as. -/
def resOne (tmps : Array Value) : ResultVar → Sem Value
  | .tmp t => pure (tmps.getD t undef)
  | .cell a t => do loadVar t (← asAddr (tmps.getD a undef))
theorem eval_tmp {a : Act} (hf : Fits f n a) (t : Nat) : a.tmps.getD t undef = ev f (.tmp t) := by rw [← hf.eval]; rfl
theorem run_resOne {a : Act} {w : World} {rv : ResultVar} (hf : Fits f n a) (hw : Sat es w) (h : ResV P es f rv v) : (resOne a.tmps rv).run P w = .ok v w := by
  cases h with
  | tmp => simp only [resOne, eval_tmp hf]; rfl
  | cell h hl => simp only [resOne, eval_tmp hf, h]; exact hl w hw
theorem results_eq (fn : Func) (tmps : Array Value) : results fn tmps = (do let vs ← fn.results.mapM (resOne tmps); pure (if h : vs.size = 1 then vs[0] else .tuple vs)) := by
  unfold results
  congr 1
theorem run_res0 {fn : Func} (h : fn.results = #[]) {a : Act} {w : World} : (results fn a.tmps).run P w = .ok (.tuple #[]) w := by
  simp [results, h]
theorem run_res1 {fn : Func} {r1 : ResultVar} (h : fn.results = #[r1]) {a : Act} {w : World} {v1 : Value} (hf : Fits f n a) (hw : Sat es w) (h1 : ResV P es f r1 v1) : (results fn a.tmps).run P w = .ok v1 w := by
  simp [results_eq, h, run_resOne hf hw h1]
theorem run_res2 {fn : Func} {r1 r2 : ResultVar} (h : fn.results = #[r1, r2]) {a : Act} {w : World} {v1 v2 : Value} (hf : Fits f n a) (hw : Sat es w) (h1 : ResV P es f r1 v1) (h2 : ResV P es f r2 v2) :
    (results fn a.tmps).run P w = .ok (.tuple #[v1, v2]) w := by
  simp [results_eq, h, run_resOne hf hw h1, run_resOne hf hw h2]
theorem run_res3 {fn : Func} {r1 r2 r3 : ResultVar} (h : fn.results = #[r1, r2, r3]) {a : Act} {w : World} {v1 v2 v3 : Value} (hf : Fits f n a) (hw : Sat es w) (h1 : ResV P es f r1 v1) (h2 : ResV P es f r2 v2) (h3 : ResV P es f r3 v3) :
    (results fn a.tmps).run P w = .ok (.tuple #[v1, v2, v3]) w := by
  simp [results_eq, h, run_resOne hf hw h1, run_resOne hf hw h2, run_resOne hf hw h3]
/-- The results of a function, read at its end. -/
def Res (P : Program) (n : Nat) (fn : Func) (f : Fm) (es : List Ent) (v : Value) : Prop := ∀ a w, Fits f n a → Sat es w → (results fn a.tmps).run P w = .ok v w
/-- Marks, as the frame tells them. -/
def marksV (ms : List Nat) : Value := .tuple (ms.map fun (b : Nat) => Value.int .u64 (b : Int)).toArray
/-- Some marks, and the entries of their blocks. -/
def MarksIn (f : Fm) (es : List Ent) (ms : List Nat) : Prop := f mkS = marksV ms ∧ ∀ b ∈ ms, Ent.mk b ∈ es
/-- What a function's code must come to. -/
abbrev Fin (P : Program) (n : Nat) (fn : Func) (Post : Value → List Ent → Prop) : KR
  | .normal, f, es | .ret, f, es => ∃ v ms es', Res P n fn f es' v ∧ f mkS = marksV ms ∧ Sub es (ms.map Ent.mk ++ es') ∧ Post v es'
  | _, _, _ => False
theorem Sub.refl : ∀ es : List Ent, Sub es es
  | [] => .nil
  | _ :: es => .cons .here (Sub.refl es)
theorem Fin.ret {fn : Func} {Post : Value → List Ent → Prop} (hr : Res P n fn f es v) (h : Post v es) (hm : f mkS = marksV [] := by rfl) : Fin P n fn Post .ret f es := ⟨v, [], es, hr, hm, Sub.refl _, h⟩
theorem Fin.normal {fn : Func} {Post : Value → List Ent → Prop} (hr : Res P n fn f es v) (h : Post v es) (hm : f mkS = marksV [] := by rfl) : Fin P n fn Post .normal f es := ⟨v, [], es, hr, hm, Sub.refl _, h⟩
/-- The frame at a call's beginning. -/
def fm0 (args : List Value) : Fm := fun t => args.getD t undef
theorem fits0 (args : List Value) (m : Nat) (hm : args.length + m ≤ mkS) : Fits (fm0 args) (args.length + m) { tmps := args.toArray ++ Array.replicate m undef, defers := [] } := by
  refine ⟨?_, by simp, hm, fun t _ => ?_⟩
  · simp only [fm0, List.getD_eq_getElem?_getD]
    rcases Nat.lt_or_ge mkS args.length with h | h
    · omega
    · rw [List.getElem?_eq_none h]; rfl
  simp only [fm0, Array.getD_eq_getD_getElem?, List.getD_eq_getElem?_getD]
  by_cases h : t < args.length
  · rw [Array.getElem?_append_left (by simpa using h)]
    simp
  · rw [Array.getElem?_append_right (by simpa using h)]
    rw [List.getElem?_eq_none (by omega)]
    simp only [Array.getElem?_replicate]
    split <;> rfl
theorem res0 {fn : Func} (h : fn.results = #[]) : Res P n fn f es (.tuple #[]) := fun _ _ _ _ => run_res0 h
theorem res1 {fn : Func} {r1 : ResultVar} {v1 : Value} (h : fn.results = #[r1]) (h1 : ResV P es f r1 v1) : Res P n fn f es v1 := fun _ _ hf hw => run_res1 h hf hw h1
theorem res2 {fn : Func} {r1 r2 : ResultVar} {v1 v2 : Value} (h : fn.results = #[r1, r2]) (h1 : ResV P es f r1 v1) (h2 : ResV P es f r2 v2) : Res P n fn f es (.tuple #[v1, v2]) := fun _ _ hf hw => run_res2 h hf hw h1 h2
theorem res3 {fn : Func} {r1 r2 r3 : ResultVar} {v1 v2 v3 : Value} (h : fn.results = #[r1, r2, r3]) (h1 : ResV P es f r1 v1) (h2 : ResV P es f r2 v2) (h3 : ResV P es f r3 v3) : Res P n fn f es (.tuple #[v1, v2, v3]) := fun _ _ hf hw => run_res3 h hf hw h1 h2 h3
theorem ResV.tmpE {t : Nat} (h : ev f (.tmp t) = v) : ResV P es f (.tmp t) v := by rw [← h]; exact .tmp
/-- The marks are taken up, one by one. -/
theorem leaves_marks {fn : Func} {a : Act} {RE : Ending → World → Prop} {G : List Ent} : ∀ (ms : List Nat) (w : World), Holds w0 M ((ms.map Ent.mk ++ es) ++ G) w →
    (∀ w', Holds w0 M (es ++ G) w' → ∃ v, (results fn a.tmps).run P w' = .ok v w' ∧ RE (.returned v) w') →
    LeavesInM (FR none) 0 P fn a.tmps RE (ms.map fun (b : Nat) => markOf (.int .u64 (b : Int))) .returning w
  | [], w, hw, h => h w hw
  | b :: ms, w, hw, h => by
    have hb : w.heap[b]? = some (.deferred (some [])) := hw.sat (.mk b) (by simp)
    refine ⟨by simp, .inl ⟨b, w.putObj b (.deferred none), ?_, run_takeDeferred hb, ?_⟩⟩
    · simp [markOf]
    · refine leaves_marks ms _ ?_ h
      have : Holds w0 M (([] ++ (ms.map Ent.mk ++ es)) ++ G) (w.putObj b (.deferred none)) := by
        refine Holds.goG (X := [b]) (old := [.mk b]) (new := []) hw (List.Perm.refl _) ?_ (by simp [Ent.blk]) (fun _ h => by cases h) List.nodup_nil (fun _ h => by cases h) (fun _ h => by cases h)
        exact ⟨rfl, rfl, rfl, by simp, fun k _ hk => World.putObj_heap_other (by simpa using hk)⟩
      exact this
theorem calls_of_T {k : FuncId} {fn : Func} {c : Code} {args : List Value} {w : World} {G : List Ent} {PE : Value → List Ent → Prop} {RE : Ending → World → Prop}
    (hk : P.funcs[k]? = some fn) (hb : fn.body = some c) (n : Nat) (hn : fn.ntmps = n) (hlen : args.length ≤ n) (hsm : n ≤ mkS) (es : List Ent) (h0 : Holds w0 M (es ++ G) w)
    (h : T P n w0 M none c (fm0 args) es (Fin P n fn PE)) (hp : ∀ v es' w', Holds w0 M (es' ++ G) w' → PE v es' → RE (.returned v) w') : Calls P k args.toArray w RE := by
  refine calls_FR (n := 0) (callsIn_of_wp_marks hk hb trivial ?_)
  obtain ⟨m, rfl⟩ : ∃ m, n = args.length + m := ⟨n - args.length, by omega⟩
  have hm : fn.ntmps - args.toArray.size = m := by simp [hn]
  rw [hm]
  refine wpIn_mono (h G _ w (fits0 args m hsm) h0) ?_
  rintro e a' w' ⟨f', es', h1, h2, h3⟩
  have fin : (∃ v ms es'', Res P (args.length + m) fn f' es'' v ∧ f' mkS = marksV ms ∧ Sub es' (ms.map Ent.mk ++ es'') ∧ PE v es'') → LeavesInM (FR none) 0 P fn a'.tmps RE a'.defers .returning w' := by
    rintro ⟨v, ms, es'', hr, hms, hsub, hq⟩
    have hd : a'.defers = ms.map fun (b : Nat) => markOf (.int .u64 (b : Int)) := by
      rw [h1.defers, hms]
      simp [marksV, marksOf]
    rw [hd]
    exact leaves_marks ms w' (h2.subG hsub) fun w'' hw => ⟨v, hr a' w'' h1 hw.sat.left, hp v es'' w'' hw hq⟩
  cases e
  case normal => exact fin h3
  case ret => exact fin h3
  all_goals exact h3.elim
end
end Go.Proofs.HL
