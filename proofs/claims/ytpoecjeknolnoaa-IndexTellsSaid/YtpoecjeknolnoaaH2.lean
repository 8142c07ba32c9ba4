/- Part of my layer of laws over any program of the model: what it shows stands at each theorem. Conditions: those that each theorem names. -/
import Derived.Test.YtpoecjeknolnoaaH1
import Derived.Laws.Entries
import Derived.Laws.Tables
import Derived.Laws.BytesArg
import Derived.Laws.StructEq
import Derived.Deep.MidRow
import Derived.IntWalk
/-
  THE LAYER "HL", part 2: operations that leave a value and do nothing else.
-/
namespace Go.Proofs.HL
open Go.RowKit

section
variable {P : Program} {f : Fm} {es : List Ent} {x y z : Operand} {d : Option Nat} {ty t t' : TypeId} {pos : String} {af : Array Edge} {g : Option (Nat × Bool)} {v u : Value}

/-- An operation that is one run of a Sem that yields a value. -/
theorem pu_of {o : Oper} {s : Sem Value} (ho : execOp (ev f) o = (do pure (.value (← s)))) (h : ∀ w, Sat es w → s.run P w = .ok v w) : Pu P o f es v := by
  intro w hw
  rw [ho]
  simp [h w hw]
theorem pu_move : Pu P ⟨d, .move x, ty, pos, af, g⟩ f es (ev f x) := fun _ _ => rfl
theorem pu_assign : Pu P ⟨d, .assign x, ty, pos, af, g⟩ f es (ev f x) := fun _ _ => rfl
theorem pu_moveE (h : ev f x = v) : Pu P ⟨d, .move x, ty, pos, af, g⟩ f es v := by rw [← h]; exact pu_move
theorem pu_assignE (h : ev f x = v) : Pu P ⟨d, .assign x, ty, pos, af, g⟩ f es v := by rw [← h]; exact pu_assign
theorem pu_pick {b : Bool} (hx : ev f x = .bool b) : Pu P ⟨d, .pick x y z, ty, pos, af, g⟩ f es (bif b then ev f y else ev f z) := by
  intro w _
  simp only [execOp, hx]
  cases b <;> rfl
theorem pu_pickOr {b c : Bool} (hx : ev f x = .bool b) (hz : ev f z = gv (b == false) (.bool c)) : Pu P ⟨d, .pick x (.const (.bool true)) z, ty, pos, af, g⟩ f es (.bool (b || c)) := by
  have := pu_pick (P := P) (es := es) (d := d) (ty := ty) (pos := pos) (af := af) (g := g) (y := .const (.bool true)) (z := z) hx
  cases b
  · rw [hz] at this; exact this
  · exact this
theorem pu_pickAnd {b c : Bool} (hx : ev f x = .bool b) (hy : ev f y = gv (b == true) (.bool c)) : Pu P ⟨d, .pick x y (.const (.bool false)), ty, pos, af, g⟩ f es (.bool (b && c)) := by
  have := pu_pick (P := P) (es := es) (d := d) (ty := ty) (pos := pos) (af := af) (g := g) (y := y) (z := .const (.bool false)) hx
  cases b
  · exact this
  · rw [hy] at this; exact this
theorem pu_not {b : Bool} (hx : ev f x = .bool b) : Pu P ⟨d, .unOp .not t x, ty, pos, af, g⟩ f es (.bool !b) := pu_of rfl fun w _ => by rw [hx]; rfl
theorem pu_neg {k : IntKind} {a : Int} (hx : ev f x = .int k a) : Pu P ⟨d, .unOp .neg t x, ty, pos, af, g⟩ f es (.int k (k.wrap (0 - a))) := pu_of rfl fun w _ => by rw [hx]; rfl
theorem pu_neg64 {a : Int} (hx : ev f x = .int .i64 a) (h : -9223372036854775807 ≤ a ∧ a ≤ 9223372036854775807) : Pu P ⟨d, .unOp .neg t x, ty, pos, af, g⟩ f es (.int .i64 (-a)) := by
  have := pu_neg (P := P) (es := es) (d := d) (ty := ty) (pos := pos) (af := af) (g := g) (t := t) hx
  rw [IntWalk.i64_in _ (by omega), Int.zero_sub] at this
  exact this
theorem pu_xor1 {k : IntKind} {a : Int} (hx : ev f x = .int k a) : Pu P ⟨d, .unOp .xor t x, ty, pos, af, g⟩ f es (.int k (bits .xor k (if k.signed then -1 else k.max) a)) := pu_of rfl fun w _ => by rw [hx]; rfl
theorem run_guard_int {op : BinOp} {k k' : IntKind} {a b : Int} (w : World) : (eqGuard op t x y (.int k a) (.int k' b)).run P w = .ok () w := by
  unfold eqGuard
  cases op <;> rfl
/-- An operation on two whole numbers. -/
theorem pu_int {op : BinOp} {k k' : IntKind} {a b : Int} (hx : ev f x = .int k a) (hy : ev f y = .int k' b) (h : ∀ w, (binOp op t (.int k a) (.int k' b)).run P w = .ok v w) :
    Pu P ⟨d, .binOp op t x y t', ty, pos, af, g⟩ f es v := by
  refine pu_of rfl fun w _ => ?_
  rw [hx, hy]
  simp [run_guard_int, h]
theorem pu_add {k : IntKind} {a b : Int} (hx : ev f x = .int k a) (hy : ev f y = .int k b) : Pu P ⟨d, .binOp .add t x y t', ty, pos, af, g⟩ f es (.int k (k.wrap (a + b))) := pu_int hx hy fun w => by simp [binOp, Op.intArith]
theorem pu_sub {k : IntKind} {a b : Int} (hx : ev f x = .int k a) (hy : ev f y = .int k b) : Pu P ⟨d, .binOp .sub t x y t', ty, pos, af, g⟩ f es (.int k (k.wrap (a - b))) := pu_int hx hy fun w => by simp [binOp, Op.intArith]
theorem pu_mul {k : IntKind} {a b : Int} (hx : ev f x = .int k a) (hy : ev f y = .int k b) : Pu P ⟨d, .binOp .mul t x y t', ty, pos, af, g⟩ f es (.int k (k.wrap (a * b))) := pu_int hx hy fun w => by simp [binOp, Op.intArith]
theorem pu_add64 {a b : Int} (hx : ev f x = .int .i64 a) (hy : ev f y = .int .i64 b) (h : -9223372036854775808 ≤ a + b ∧ a + b ≤ 9223372036854775807) : Pu P ⟨d, .binOp .add t x y t', ty, pos, af, g⟩ f es (.int .i64 (a + b)) := by
  have := pu_add (P := P) (es := es) (d := d) (ty := ty) (pos := pos) (af := af) (g := g) (t := t) (t' := t') hx hy
  rwa [IntWalk.i64_in _ h] at this
theorem pu_sub64 {a b : Int} (hx : ev f x = .int .i64 a) (hy : ev f y = .int .i64 b) (h : -9223372036854775808 ≤ a - b ∧ a - b ≤ 9223372036854775807) : Pu P ⟨d, .binOp .sub t x y t', ty, pos, af, g⟩ f es (.int .i64 (a - b)) := by
  have := pu_sub (P := P) (es := es) (d := d) (ty := ty) (pos := pos) (af := af) (g := g) (t := t) (t' := t') hx hy
  rwa [IntWalk.i64_in _ h] at this
theorem pu_mul64 {a b : Int} (hx : ev f x = .int .i64 a) (hy : ev f y = .int .i64 b) (h : -9223372036854775808 ≤ a * b ∧ a * b ≤ 9223372036854775807) : Pu P ⟨d, .binOp .mul t x y t', ty, pos, af, g⟩ f es (.int .i64 (a * b)) := by
  have := pu_mul (P := P) (es := es) (d := d) (ty := ty) (pos := pos) (af := af) (g := g) (t := t) (t' := t') hx hy
  rwa [IntWalk.i64_in _ h] at this
theorem pu_quo64 {a b : Int} (hx : ev f x = .int .i64 a) (hy : ev f y = .int .i64 b) (h : 0 ≤ a ∧ a ≤ 9223372036854775807 ∧ 1 ≤ b) : Pu P ⟨d, .binOp .quo t x y t', ty, pos, af, g⟩ f es (.int .i64 (a / b)) :=
  pu_int hx hy fun w => by simp [binOp, Op.intDiv, show b ≠ 0 by omega, IntWalk.i64_quo a b h]
theorem pu_rem64 {a b : Int} (hx : ev f x = .int .i64 a) (hy : ev f y = .int .i64 b) (h : 0 ≤ a ∧ 1 ≤ b) : Pu P ⟨d, .binOp .rem t x y t', ty, pos, af, g⟩ f es (.int .i64 (a % b)) :=
  pu_int hx hy fun w => by simp [binOp, Op.intDiv, show b ≠ 0 by omega, IntWalk.rem_in a b h.1]
theorem pu_tdiv64 {a b : Int} (hx : ev f x = .int .i64 a) (hy : ev f y = .int .i64 b) (h : b ≠ 0) : Pu P ⟨d, .binOp .quo t x y t', ty, pos, af, g⟩ f es (.int .i64 (IntKind.i64.wrap (a.tdiv b))) :=
  pu_int hx hy fun w => by simp [binOp, Op.intDiv, h]
theorem pu_tmod {k : IntKind} {a b : Int} (hx : ev f x = .int k a) (hy : ev f y = .int k b) (h : b ≠ 0) : Pu P ⟨d, .binOp .rem t x y t', ty, pos, af, g⟩ f es (.int k (a.tmod b)) :=
  pu_int hx hy fun w => by simp [binOp, Op.intDiv, h]
theorem pu_and {k : IntKind} {a b : Int} (hx : ev f x = .int k a) (hy : ev f y = .int k b) : Pu P ⟨d, .binOp .and t x y t', ty, pos, af, g⟩ f es (.int k (bits .and k a b)) := pu_int hx hy fun w => by simp [binOp, intBits_and]
theorem pu_or {k : IntKind} {a b : Int} (hx : ev f x = .int k a) (hy : ev f y = .int k b) : Pu P ⟨d, .binOp .or t x y t', ty, pos, af, g⟩ f es (.int k (bits .or k a b)) := pu_int hx hy fun w => by simp [binOp, intBits_or]
theorem pu_xor {k : IntKind} {a b : Int} (hx : ev f x = .int k a) (hy : ev f y = .int k b) : Pu P ⟨d, .binOp .xor t x y t', ty, pos, af, g⟩ f es (.int k (bits .xor k a b)) := pu_int hx hy fun w => by simp [binOp, intBits_xor]
theorem pu_shl {k k' : IntKind} {a b : Int} (hx : ev f x = .int k a) (hy : ev f y = .int k' b) (h : 0 ≤ b) : Pu P ⟨d, .binOp .shl t x y t', ty, pos, af, g⟩ f es (.int k (k.wrap (a * 2 ^ (min b.toNat k.bits)))) :=
  pu_int hx hy fun w => by simp [binOp, Op.shift, show ¬ b < 0 by omega]
theorem pu_shr {k k' : IntKind} {a b : Int} (hx : ev f x = .int k a) (hy : ev f y = .int k' b) (h : 0 ≤ b) : Pu P ⟨d, .binOp .shr t x y t', ty, pos, af, g⟩ f es (.int k (a.fdiv (2 ^ (min b.toNat k.bits)))) :=
  pu_int hx hy fun w => by simp [binOp, Op.shift, show ¬ b < 0 by omega]
theorem pu_lss {k : IntKind} {a b : Int} (hx : ev f x = .int k a) (hy : ev f y = .int k b) : Pu P ⟨d, .binOp .lss t x y t', ty, pos, af, g⟩ f es (.bool (decide (a < b))) := pu_int hx hy fun w => by simp [binOp, Op.intCmp]
theorem pu_leq {k : IntKind} {a b : Int} (hx : ev f x = .int k a) (hy : ev f y = .int k b) : Pu P ⟨d, .binOp .leq t x y t', ty, pos, af, g⟩ f es (.bool (decide (a ≤ b))) := pu_int hx hy fun w => by simp [binOp, Op.intCmp]
theorem pu_gtr {k : IntKind} {a b : Int} (hx : ev f x = .int k a) (hy : ev f y = .int k b) : Pu P ⟨d, .binOp .gtr t x y t', ty, pos, af, g⟩ f es (.bool (decide (b < a))) := pu_int hx hy fun w => by simp [binOp, Op.intCmp]
theorem pu_geq {k : IntKind} {a b : Int} (hx : ev f x = .int k a) (hy : ev f y = .int k b) : Pu P ⟨d, .binOp .geq t x y t', ty, pos, af, g⟩ f es (.bool (decide (b ≤ a))) := pu_int hx hy fun w => by simp [binOp, Op.intCmp]
theorem pu_eql {k : IntKind} {a b : Int} (hx : ev f x = .int k a) (hy : ev f y = .int k b) : Pu P ⟨d, .binOp .eql t x y t', ty, pos, af, g⟩ f es (.bool (a == b)) := pu_int hx hy fun w => by simp [binOp, Op.intCmp]
theorem pu_neq {k : IntKind} {a b : Int} (hx : ev f x = .int k a) (hy : ev f y = .int k b) : Pu P ⟨d, .binOp .neq t x y t', ty, pos, af, g⟩ f es (.bool (a != b)) := pu_int hx hy fun w => by simp [binOp, Op.intCmp]
theorem run_equal_bool (w : World) (a b : Bool) (ht : P.underlying t = some .bool) : (Op.equal t (.bool a) (.bool b)).run P w = .ok (a == b) w := run_equalIn_bool' w 9999 t a b ht
theorem pu_eqlB {a b : Bool} (hx : ev f x = .bool a) (hy : ev f y = .bool b) (ht : P.underlying t = some .bool) : Pu P ⟨d, .binOp .eql t x y t', ty, pos, af, g⟩ f es (.bool (a == b)) := by
  refine pu_of rfl fun w _ => ?_
  rw [hx, hy]
  have h1 : (eqGuard .eql t x y (.bool a) (.bool b)).run P w = .ok () w := by unfold eqGuard; rfl
  have h2 : binOp .eql t (.bool a) (.bool b) = (do pure (.bool (← Op.equal t (.bool a) (.bool b)))) := rfl
  rw [h2]
  simp [h1, run_equal_bool w a b ht]
theorem pu_neqB {a b : Bool} (hx : ev f x = .bool a) (hy : ev f y = .bool b) (ht : P.underlying t = some .bool) : Pu P ⟨d, .binOp .neq t x y t', ty, pos, af, g⟩ f es (.bool (a != b)) := by
  refine pu_of rfl fun w _ => ?_
  rw [hx, hy]
  have h1 : (eqGuard .neq t x y (.bool a) (.bool b)).run P w = .ok () w := by unfold eqGuard; rfl
  have h2 : binOp .neq t (.bool a) (.bool b) = (do pure (.bool (!(← Op.equal t (.bool a) (.bool b))))) := rfl
  rw [h2]
  simp [h1, run_equal_bool w a b ht]
  cases a <;> cases b <;> rfl
theorem pu_strCmp {op : BinOp} {a b : ByteArray} {r : Bool} (hx : ev f x = .string a) (hy : ev f y = .string b) (h : ∀ w, (Op.stringOp op a b).run P w = .ok (.bool r) w) : Pu P ⟨d, .binOp op t x y t', ty, pos, af, g⟩ f es (.bool r) := by
  refine pu_of rfl fun w _ => ?_
  rw [hx, hy]
  have h1 : (eqGuard op t x y (.string a) (.string b)).run P w = .ok () w := by unfold eqGuard; cases op <;> rfl
  have h2 : binOp op t (.string a) (.string b) = Op.stringOp op a b := by cases op <;> rfl
  simp [h1, h2, h]
/-- A conversion from a whole number to another kind. -/
theorem pu_conv {k k' : IntKind} {a b : Int} (hx : ev f x = .int k' a) (ht : P.underlying t = some (.int k')) (ht' : P.underlying t' = some (.int k)) (hb : k.wrap a = b) : Pu P ⟨d, .convert t t' x, ty, pos, af, g⟩ f es (.int k b) := by
  refine pu_of rfl fun w _ => ?_
  rw [hx, ← hb]
  simp [convert, run_underlying ht, run_underlying ht', Conv.intToInt]
theorem pu_extract {vs : Array Value} {i : Nat} (hx : ev f x = .tuple vs) (hi : vs[i]? = some v) : Pu P ⟨d, .extract x i, ty, pos, af, g⟩ f es v := by
  refine pu_of rfl fun w _ => ?_
  rw [hx]
  simp [Instr.extract, hi]
theorem pu_makeFunc {k : Nat} {cap : Array Operand} : Pu P ⟨d, .makeFunc (.func k) #[] cap, ty, pos, af, g⟩ f es (.func (.func k) #[] (cap.map (ev f))) := by
  refine pu_of rfl fun w _ => ?_
  simp [Instr.makeFunc]
theorem pu_min2 {k k' : IntKind} {a b : Int} {tt : Array TypeId} (hx : ev f x = .int k a) (hy : ev f y = .int k' b) : Pu P ⟨d, .call ⟨.builtin .min, #[x, y], tt⟩, ty, pos, af, g⟩ f es (.int k (if b < a then b else a)) := by
  intro w _
  simp [execOp, resolve, invoke, builtin, Builtin.min_, hx, hy, Builtin.min2]
theorem pu_max2 {k k' : IntKind} {a b : Int} {tt : Array TypeId} (hx : ev f x = .int k a) (hy : ev f y = .int k' b) : Pu P ⟨d, .call ⟨.builtin .max, #[x, y], tt⟩, ty, pos, af, g⟩ f es (.int k (if a < b then b else a)) := by
  intro w _
  simp [execOp, resolve, invoke, builtin, Builtin.max_, hx, hy, Builtin.max2]
end
end Go.Proofs.HL
