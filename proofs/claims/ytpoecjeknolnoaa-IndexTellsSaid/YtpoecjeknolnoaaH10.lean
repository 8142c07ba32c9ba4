/- Part of my layer of laws over any program of the model: what it shows stands at each theorem. Conditions: those that each theorem names. -/
import Derived.Test.YtpoecjeknolnoaaH9
/-
  THE LAYER "HL", part 10: inside a block whose slice is written out; more ways to read.
-/
namespace Go.Proofs.HL
open Go.RowKit
section
variable {P : Program} {n : Nat} {w0 : World} {M : List Nat} {f : Fm} {es : List Ent} {x y z : Operand} {d : Option Nat} {ty t t' : TypeId} {pos : String} {af : Array Edge} {g : Option (Nat × Bool)} {v u : Value} {cs : List Value} {K : KK}
/-- An element's address, of a slice that is written out: nothing is read. -/
theorem pu_indexLit {e : TypeId} {k : IntKind} {i : Int} {b o m c sz : Nat} (hx : ev f x = .slice (some ⟨b, o, none⟩) m c) (hy : ev f y = .int k i) (ht : P.underlying t = some (.slice e)) (hz : ∀ w, (sizeOf e).run P w = .ok sz w) (hi : 0 ≤ i ∧ i < m) :
    Pu P ⟨d, .indexAddr t x y, ty, pos, af, g⟩ f es (.pointer (some ⟨b, o + i.toNat * sz, none⟩)) := by
  refine pu_of rfl fun w _ => ?_
  rw [hx, hy]
  simp [Instr.indexAt, asIntOf, run_underlying ht, hi.1, hi.2, hz, Addr.add_mid]
/-- A slice over a block's first cells. -/
theorem src_pre {b m c sz : Nat} {xs rest : List Value} (h : Has es b (xs ++ rest)) (hl : xs.length = m * sz) (hn : m ≤ c) (hm : c ≤ maxLen) : Src es (.slice (some ⟨b, 0, none⟩) m c) sz m xs :=
  (src_has (off := 0) (c := c) h (by rw [List.length_append]; omega) hn hm).to rfl (by rw [List.drop_zero, ← hl, List.take_left' rfl])
end
end Go.Proofs.HL
