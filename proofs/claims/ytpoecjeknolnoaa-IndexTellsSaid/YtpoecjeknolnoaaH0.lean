/- Part of my layer of laws over any program of the model: what it shows stands at each theorem. Conditions: those that each theorem names. -/
import Derived.OrdersHeld
import Derived.OrdersIn
import Derived.TacticsIn
import Derived.RangeFuncLeaves
import Derived.RangeFuncRecord
import Derived.Below
import Derived.Laws.OwnMore
import Derived.Laws.Rows
import Derived.Maps.AppendAt
import Derived.Deep.AppendLies
import Derived.Deep.Draws
/-
  THE LAYER "HL", part 0: frames as functions, what is known of memory as a list of entries, the judgements on a region's operations and on code.
  No program is named here.
-/
namespace Go.Proofs.HL
open Go.RowKit

/-! ### 1. Frames -/
abbrev Fm := Nat → Value
def upd (f : Fm) (d : Nat) (v : Value) : Fm := fun t => bif Nat.beq t d then v else f t
def updO (f : Fm) : Option Nat → Value → Fm
  | some d, v => upd f d v
  | none, _ => f
/-- The slot in which a frame's marks are told (a range over a function leaves one: the block for its rounds' deferred calls). -/
abbrev mkS : Nat := 1000000
def ev (f : Fm) : Operand → Value
  | .tmp t => bif Nat.beq t 1000000 then undef else f t
  | .const v => v
  | .global g => .pointer (some ⟨g, 0, none⟩)
  | .func g => .func (.func g) #[] #[]
def markOf (v : Value) : Deferred := { target := .collected (match v with | .int _ k => k.toNat | _ => 0), args := #[] }
def marksOf : Value → List Deferred
  | .tuple vs => vs.toList.map markOf
  | _ => []
/-- A frame of n temporaries. -/
structure Fits (f : Fm) (n : Nat) (a : Act) : Prop where
  defers : a.defers = marksOf (f mkS)
  size : a.tmps.size = n
  small : n ≤ mkS
  at_ : ∀ t, t ≠ mkS → a.tmps.getD t undef = f t
theorem beq_false {t d : Nat} (e : t ≠ d) : Nat.beq t d = false := by
  cases hc : Nat.beq t d with
  | false => rfl
  | true => exact absurd (Nat.eq_of_beq_eq_true hc) e
theorem Fits.eval {f : Fm} {n : Nat} {a : Act} (h : Fits f n a) : a.eval = ev f := by
  funext x
  cases x with
  | tmp t =>
    by_cases e : t = mkS
    · subst e
      have hs := h.size
      have hn := h.small
      show a.tmps.getD mkS undef = bif Nat.beq mkS 1000000 then undef else f mkS
      have : Nat.beq mkS 1000000 = true := by decide
      rw [this]
      simp [Array.getD_eq_getD_getElem?, show a.tmps.size ≤ mkS by omega]
    · show a.tmps.getD t undef = bif Nat.beq t 1000000 then undef else f t
      rw [beq_false e]
      exact h.at_ t e
  | const v => rfl
  | global g => rfl
  | func g => rfl
def dstOk (d : Option Nat) (n : Nat) : Bool := match d with | some d => Nat.blt d n | none => true
theorem Fits.put {f : Fm} {n : Nat} {a : Act} (h : Fits f n a) {d : Option Nat} (hd : dstOk d n = true) (v : Value) : Fits (updO f d v) n (a.put d v) := by
  cases d with
  | none => exact h
  | some d =>
    have hd' : d < n := by simpa [dstOk, Nat.blt_eq] using hd
    have hsm := h.small
    have hne : mkS ≠ d := by omega
    refine ⟨?_, by simp [Act.put, h.size], h.small, fun t ht => ?_⟩
    · show a.defers = marksOf (bif Nat.beq mkS d then v else f mkS)
      rw [beq_false hne]
      exact h.defers
    simp only [Act.put, updO, upd]
    by_cases e : t = d
    · subst e
      have : t < a.tmps.size := by rw [h.size]; exact hd'
      simp [Array.getD_eq_getD_getElem?, this]
    · rw [beq_false e]
      have := h.at_ t ht
      simp only [Array.getD_eq_getD_getElem?] at this ⊢
      rw [Array.getElem?_setIfInBounds_ne (Ne.symm e)]
      exact this
theorem upd_self {f : Fm} {d : Nat} {v : Value} (h : f d = v) : upd f d v = f := by
  funext t
  simp only [upd]
  cases hc : Nat.beq t d with
  | false => rfl
  | true => have := Nat.eq_of_beq_eq_true hc; subst this; exact h.symm
/-- What is known of some temporaries. -/
def Agree (f : Fm) : List (Nat × Value) → Prop
  | [] => True
  | (d, v) :: r => f d = v ∧ Agree f r
def over (f : Fm) : List (Nat × Value) → Fm
  | [] => f
  | (d, v) :: r => upd (over f r) d v
theorem over_self {f : Fm} : ∀ {L : List (Nat × Value)}, Agree f L → over f L = f
  | [], _ => rfl
  | (d, v) :: r, h => by
    show upd (over f r) d v = f
    rw [over_self h.2]
    exact upd_self h.1

/-! ### 2. Memory -/
/-- Where a slice's value begins. -/
def base : Value → Option Addr
  | .slice a _ _ => a
  | _ => none
/-- n elements of sz cells each can be read from A on. -/
def Rd (w : World) (A : Option Addr) (sz n : Nat) (xs : List Value) : Prop :=
  xs.length = n * sz ∧ (0 < n → ∃ a, A = some a ∧ ∀ j u, xs[j]? = some u → w.cell? (a.add j) = some u)
/-- v is a slice of n elements (sz cells each) that reads as xs. -/
def Sl (w : World) (v : Value) (sz n : Nat) (xs : List Value) : Prop :=
  (∃ c, v = .slice (base v) n c ∧ n ≤ c ∧ c ≤ maxLen) ∧ Rd w (base v) sz n xs
inductive Ent where
  /-- block b is just these cells, none frozen; the call may write it. -/
  | own (b : Nat) (t : TypeId) (cs : List Value)
  /-- the slice value v owns a row of n elements of type e (sz cells each): nil, or at the head of a block of its own. -/
  | row (e : TypeId) (sz : Nat) (v : Value) (n : Nat) (xs : List Value)
  /-- a slice over older memory that can be read. -/
  | sl (v : Value) (sz n : Nat) (xs : List Value)
  /-- an older block, known whole. -/
  | fix (b : Nat) (t : TypeId) (cs : List Value)
  /-- the block for the deferred calls of a range over a function: there are none. -/
  | mk (b : Nat)
  /-- a loop's record. -/
  | lp (b : Nat) (q : Loop)
def Ent.sat (w : World) : Ent → Prop
  | .own b t cs => w.heap[b]? = some (.cells cs.toArray t (0, 0))
  | .row e sz v n xs => w.ownsRow 0 e sz v n xs
  | .sl v sz n xs => Sl w v sz n xs
  | .fix b t cs => w.heap[b]? = some (.cells cs.toArray t (0, 0))
  | .mk b => w.heap[b]? = some (.deferred (some []))
  | .lp b q => w.heap[b]? = some (.loop q)
def Ent.blk : Ent → Option Nat
  | .own b _ _ => some b
  | .row _ _ v _ _ => v.ownBlock
  | .mk b => some b
  | .lp b _ => some b
  | _ => none
/-- What older memory an entry leans on lies in older blocks that are not written. -/
def Ent.far (B : Nat) (M : List Nat) : Ent → Prop
  | .sl v _ n _ => 0 < n → ∀ a, base v = some a → a.block < B ∧ a.block ∉ M
  | .fix b _ _ => b < B ∧ b ∉ M
  | _ => True
def Sat (es : List Ent) (w : World) : Prop := ∀ e ∈ es, e.sat w
/-- w' is w but for the blocks X and new ones. -/
structure Kept (X : List Nat) (w w' : World) : Prop where
  os : w'.os = w.os
  tape : w'.tape = w.tape
  output : w'.output = w.output
  size : w.heap.size ≤ w'.heap.size
  block : ∀ k, k < w.heap.size → k ∉ X → w'.heap[k]? = w.heap[k]?
theorem Kept.refl (X : List Nat) (w : World) : Kept X w w := ⟨rfl, rfl, rfl, Nat.le_refl _, fun _ _ _ => rfl⟩
theorem Kept.trans {X : List Nat} {a b c : World} (h : Kept X a b) (k : Kept X b c) : Kept X a c :=
  ⟨k.os.trans h.os, k.tape.trans h.tape, k.output.trans h.output, Nat.le_trans h.size k.size, fun i hi hx => (k.block i (Nat.lt_of_lt_of_le hi h.size) hx).trans (h.block i hi hx)⟩
theorem Kept.mono {X Y : List Nat} {a b : World} (h : Kept X a b) (hx : ∀ k, k < a.heap.size → k ∈ X → k ∈ Y) : Kept Y a b :=
  ⟨h.os, h.tape, h.output, h.size, fun i hi hy => h.block i hi (fun hm => hy (hx i hi hm))⟩
theorem Kept.below {a b : World} (h : Kept [] a b) : Below a.heap.size a b := ⟨h.os, h.tape, h.output, h.size, fun k hk => h.block k hk (by simp)⟩
theorem Kept.of_below {a b : World} (h : Below a.heap.size a b) : Kept [] a b := ⟨h.os, h.tape, h.output, h.size, fun k hk _ => h.block k hk⟩
theorem Kept.drawn (X : List Nat) (w : World) (n : Nat) : Kept X w { w with drawn := n } := ⟨rfl, rfl, rfl, Nat.le_refl _, fun _ _ _ => rfl⟩
theorem Kept.alloc (X : List Nat) (w : World) (o : Obj) : Kept X w (w.alloc o) := ⟨rfl, rfl, rfl, by simp, fun k hk _ => Below.heap_alloc _ _ _ hk⟩
theorem Kept.set (w : World) (a : Addr) (u : Value) : Kept [a.block] w (w.setCell a u) :=
  ⟨rfl, rfl, rfl, by simp [World.setCell], fun k _ hk => Below.heap_setCell _ _ _ _ (by simpa using hk)⟩

structure Holds (w0 : World) (M : List Nat) (es : List Ent) (w : World) : Prop where
  sat : Sat es w
  kept : Kept M w0 w
  nodup : (es.filterMap Ent.blk).Nodup
  mine : ∀ b ∈ es.filterMap Ent.blk, w0.heap.size ≤ b ∨ b ∈ M
  far : ∀ e ∈ es, e.far w0.heap.size M
theorem Ent.sat_lt {e : Ent} {w : World} (h : e.sat w) {b : Nat} (hb : e.blk = some b) : b < w.heap.size := by
  cases e with
  | own b' t cs =>
    simp only [Ent.blk, Option.some.injEq] at hb
    subst hb
    exact (Array.getElem?_eq_some_iff.1 h).1
  | row e sz v n xs => exact (World.ownsRow.lt h b hb).2
  | sl v sz n xs => cases hb
  | fix b' t cs => cases hb
  | mk b' =>
    simp only [Ent.blk, Option.some.injEq] at hb
    subst hb
    exact (Array.getElem?_eq_some_iff.1 h).1
  | lp b' q =>
    simp only [Ent.blk, Option.some.injEq] at hb
    subst hb
    exact (Array.getElem?_eq_some_iff.1 h).1
theorem Rd.move {w w' : World} {A : Option Addr} {sz n : Nat} {xs : List Value} (h : Rd w A sz n xs) (hk : 0 < n → ∀ a, A = some a → w'.heap[a.block]? = w.heap[a.block]?) : Rd w' A sz n xs :=
  ⟨h.1, fun hn => by
    obtain ⟨a, rfl, hc⟩ := h.2 hn
    refine ⟨a, rfl, fun j u hu => ?_⟩
    have hb : (a.add j).block = a.block := by unfold Addr.add; split <;> rfl
    rw [World.cell?_of_block (w := w) (by rw [hb]; exact hk hn a rfl)]
    exact hc j u hu⟩
/-- An entry holds on, if the block that it owns, and the older ones it leans on, are as they were. -/
theorem Ent.move {w w' : World} {e : Ent} {B : Nat} {M : List Nat} (h : e.sat w) (hf : e.far B M) (ho : ∀ b, e.blk = some b → w'.heap[b]? = w.heap[b]?) (hB : ∀ b, b < B → b ∉ M → w'.heap[b]? = w.heap[b]?) : e.sat w' := by
  cases e with
  | own b t cs => exact (ho b rfl).trans h
  | row e sz v n xs =>
    refine ⟨h.1, ?_⟩
    rcases h.2 with hn | ⟨g, cap, cur, rfl, hb, hg, rest⟩
    · exact .inl hn
    · exact .inr ⟨g, cap, cur, rfl, hb, (ho g rfl).trans hg, rest⟩
  | sl v sz n xs => exact ⟨h.1, Rd.move h.2 fun hn a ha => hB _ (hf hn a ha).1 (hf hn a ha).2⟩
  | fix b t cs => exact (hB b hf.1 hf.2).trans h
  | mk b => exact (ho b rfl).trans h
  | lp b q => exact (ho b rfl).trans h

/-- e is picked out of es; r is what is left. -/
inductive Pick : List Ent → Ent → List Ent → Prop
  | here {e r} : Pick (e :: r) e r
  | there {x e l r} : Pick l e r → Pick (x :: l) e (x :: r)
theorem Pick.perm {l : List Ent} {e : Ent} {r : List Ent} (h : Pick l e r) : l.Perm (e :: r) := by
  induction h with
  | here => exact List.Perm.refl _
  | there _ ih => exact (ih.cons _).trans (List.Perm.swap _ _ _)
theorem Pick.mem {l : List Ent} {e : Ent} {r : List Ent} (h : Pick l e r) : e ∈ l := h.perm.mem_iff.2 (List.mem_cons_self ..)
theorem Pick.app {l : List Ent} {e : Ent} {r : List Ent} (h : Pick l e r) (G : List Ent) : Pick (l ++ G) e (r ++ G) := by
  induction h with
  | here => exact .here
  | there _ ih => exact .there ih
/-- es' is drawn out of es: some entries left out, in another order. -/
inductive Sub : List Ent → List Ent → Prop
  | nil {l} : Sub l []
  | cons {l e r s} : Pick l e r → Sub r s → Sub l (e :: s)
theorem Sub.perm {l s : List Ent} (h : Sub l s) : ∃ r, l.Perm (s ++ r) := by
  induction h with
  | nil => exact ⟨_, List.Perm.refl _⟩
  | cons p _ ih =>
    obtain ⟨r', hr⟩ := ih
    exact ⟨r', p.perm.trans (hr.cons _)⟩
theorem Sub.mem {l s : List Ent} (h : Sub l s) {e : Ent} (he : e ∈ s) : e ∈ l := by
  obtain ⟨r, hr⟩ := h.perm
  exact hr.mem_iff.2 (List.mem_append_left _ he)
theorem Sub.app {l s : List Ent} (h : Sub l s) (G : List Ent) : ∃ r, (l ++ G).Perm ((s ++ G) ++ r) := by
  obtain ⟨r, hr⟩ := h.perm
  refine ⟨r, ?_⟩
  have h1 : (l ++ G).Perm ((s ++ r) ++ G) := hr.append_right G
  refine h1.trans ?_
  rw [List.append_assoc, List.append_assoc]
  exact (List.perm_append_comm).append_left s
theorem Holds.sub {w0 : World} {M : List Nat} {es s : List Ent} {w : World} (h : Holds w0 M es w) (hs : Sub es s) : Holds w0 M s w := by
  obtain ⟨r, hr⟩ := hs.perm
  have hp : (es.filterMap Ent.blk).Perm (s.filterMap Ent.blk ++ r.filterMap Ent.blk) := by
    have := hr.filterMap Ent.blk
    rwa [List.filterMap_append] at this
  refine ⟨fun e he => h.sat e (hs.mem he), h.kept, ?_, fun b hb => h.mine b (hp.mem_iff.2 (List.mem_append_left _ hb)), fun e he => h.far e (hs.mem he)⟩
  exact (List.nodup_append.1 (hp.nodup_iff.1 h.nodup)).1
theorem Holds.subG {w0 : World} {M : List Nat} {es s G : List Ent} {w : World} (h : Holds w0 M (es ++ G) w) (hs : Sub es s) : Holds w0 M (s ++ G) w := by
  obtain ⟨r, hr⟩ := hs.app G
  have hp : ((es ++ G).filterMap Ent.blk).Perm ((s ++ G).filterMap Ent.blk ++ r.filterMap Ent.blk) := by
    have := hr.filterMap Ent.blk
    rwa [List.filterMap_append (l := s ++ G)] at this
  refine ⟨fun e he => h.sat e (hr.mem_iff.2 (List.mem_append_left _ he)), h.kept, ?_, fun b hb => h.mine b (hp.mem_iff.2 (List.mem_append_left _ hb)), fun e he => h.far e (hr.mem_iff.2 (List.mem_append_left _ he))⟩
  exact (List.nodup_append.1 (hp.nodup_iff.1 h.nodup)).1
theorem Holds.perm {w0 : World} {M : List Nat} {es s : List Ent} {w : World} (h : Holds w0 M es w) (hp : es.Perm s) : Holds w0 M s w := by
  have hq := hp.filterMap Ent.blk
  exact ⟨fun e he => h.sat e (hp.mem_iff.2 he), h.kept, hq.nodup_iff.1 h.nodup, fun b hb => h.mine b (hq.mem_iff.2 hb), fun e he => h.far e (hp.mem_iff.2 he)⟩
/-- **The one law of change**: the world goes on to w', in which only the blocks X have turned, which no entry that is kept owns; new entries own new blocks, or such of X. -/
theorem Holds.go {w0 : World} {M X : List Nat} {es old keep new : List Ent} {w w' : World} (h : Holds w0 M es w) (hp : es.Perm (old ++ keep)) (hk : Kept X w w')
    (hX : ∀ b, b ∈ X → b < w.heap.size → b ∈ old.filterMap Ent.blk)
    (hs : Sat new w') (hn : (new.filterMap Ent.blk).Nodup) (hb : ∀ b ∈ new.filterMap Ent.blk, w.heap.size ≤ b ∨ b ∈ old.filterMap Ent.blk)
    (hf : ∀ e ∈ new, e.far w0.heap.size M) : Holds w0 M (new ++ keep) w' := by
  have h1 := h.perm hp
  have hnd := h1.nodup
  rw [List.filterMap_append] at hnd
  obtain ⟨_, hkn, hdis⟩ := List.nodup_append.1 hnd
  have hmine := h1.mine
  rw [List.filterMap_append] at hmine
  have hsz := h.kept.size
  have hXm : ∀ b, b ∈ X → b < w.heap.size → w0.heap.size ≤ b ∨ b ∈ M := fun b hb hlt => hmine b (List.mem_append_left _ (hX b hb hlt))
  have hlt : ∀ b ∈ keep.filterMap Ent.blk, b < w.heap.size := fun b hb => by
    obtain ⟨e, he, heb⟩ := List.mem_filterMap.1 hb
    exact Ent.sat_lt (h1.sat e (List.mem_append_right _ he)) heb
  refine ⟨?_, ?_, ?_, ?_, ?_⟩
  · intro e he
    rcases List.mem_append.1 he with he | he
    · exact hs e he
    · refine Ent.move (h1.sat e (List.mem_append_right _ he)) (h1.far e (List.mem_append_right _ he)) ?_ ?_
      · intro b heb
        have hbk : b ∈ keep.filterMap Ent.blk := List.mem_filterMap.2 ⟨e, he, heb⟩
        exact hk.block b (hlt b hbk) (fun hbx => hdis b (hX b hbx (hlt b hbk)) b hbk rfl)
      · intro b hbB hbM
        refine hk.block b (Nat.lt_of_lt_of_le hbB hsz) (fun hbx => ?_)
        rcases hXm b hbx (Nat.lt_of_lt_of_le hbB hsz) with h' | h'
        · omega
        · exact hbM h'
  · refine ⟨hk.os.trans h.kept.os, hk.tape.trans h.kept.tape, hk.output.trans h.kept.output, Nat.le_trans hsz hk.size, fun k hkk hkM => ?_⟩
    refine (hk.block k (Nat.lt_of_lt_of_le hkk hsz) (fun hbx => ?_)).trans (h.kept.block k hkk hkM)
    rcases hXm k hbx (Nat.lt_of_lt_of_le hkk hsz) with h' | h'
    · omega
    · exact hkM h'
  · rw [List.filterMap_append]
    refine List.nodup_append.2 ⟨hn, hkn, fun b hbn c hbk hbc => ?_⟩
    subst hbc
    rcases hb b hbn with h' | h'
    · have := hlt b hbk; omega
    · exact hdis b h' b hbk rfl
  · intro b hbm
    rw [List.filterMap_append] at hbm
    rcases List.mem_append.1 hbm with h' | h'
    · rcases hb b h' with h'' | h''
      · left; omega
      · exact hmine b (List.mem_append_left _ h'')
    · exact hmine b (List.mem_append_right _ h')
  · intro e he
    rcases List.mem_append.1 he with he | he
    · exact hf e he
    · exact h1.far e (List.mem_append_right _ he)
/-- The law of change beside a frame of entries that nobody asks for. -/
theorem Holds.goG {w0 : World} {M X : List Nat} {es old keep new G : List Ent} {w w' : World} (h : Holds w0 M (es ++ G) w) (hp : es.Perm (old ++ keep)) (hk : Kept X w w')
    (hX : ∀ b, b ∈ X → b < w.heap.size → b ∈ old.filterMap Ent.blk)
    (hs : Sat new w') (hn : (new.filterMap Ent.blk).Nodup) (hb : ∀ b ∈ new.filterMap Ent.blk, w.heap.size ≤ b ∨ b ∈ old.filterMap Ent.blk)
    (hf : ∀ e ∈ new, e.far w0.heap.size M) : Holds w0 M ((new ++ keep) ++ G) w' := by
  rw [List.append_assoc]
  refine Holds.go h ?_ hk hX hs hn hb hf
  rw [← List.append_assoc]
  exact hp.append_right G
theorem Sat.left {es G : List Ent} {w : World} (h : Sat (es ++ G) w) : Sat es w := fun e he => h e (List.mem_append_left _ he)
end Go.Proofs.HL
