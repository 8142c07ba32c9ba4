/- Plain laws, no program in sight, for the statements of this seat. Conditions: those that each theorem names. -/
import Derived.Test.YtpoecjeknolnoaaP5
namespace Go.Proofs.Ytpoecjeknolnoaa
open Go.RowKit Go.Proofs.HL Go.Lib
set_option linter.unusedSimpArgs false
set_option linter.unusedVariables false
/-! ### Words of 32 bits -/
theorem wraps_u32 (n : Int) (h₀ : 0 ≤ n) (h₁ : n < 2 ^ 32) : IntKind.u32.wrap n = n := by rw [IntKind.wrap_u32]; omega
theorem wraps_u64 (n : Int) (h₀ : 0 ≤ n) (h₁ : n < 2 ^ 64) : IntKind.u64.wrap n = n := by
  simp only [IntKind.wrap, IntKind.signed, IntKind.bits, Bool.false_and, Bool.false_eq_true, if_false]
  exact Int.emod_eq_of_lt h₀ h₁
theorem wrap_toNat32 (b : BitVec 32) : IntKind.u32.wrap (b.toNat : Int) = (b.toNat : Int) := wraps_u32 _ (Int.natCast_nonneg _) (by have := b.isLt; omega)
theorem and32 (x y : Int) : bits .and .u32 x y = ((BitVec.ofInt 32 x &&& BitVec.ofInt 32 y).toNat : Int) := wrap_toNat32 _
theorem or32 (x y : Int) : bits .or .u32 x y = ((BitVec.ofInt 32 x ||| BitVec.ofInt 32 y).toNat : Int) := wrap_toNat32 _
theorem xor32 (x y : Int) : bits .xor .u32 x y = ((BitVec.ofInt 32 x ^^^ BitVec.ofInt 32 y).toNat : Int) := wrap_toNat32 _
theorem ofInt_toNat32 (b : BitVec 32) : BitVec.ofInt 32 (b.toNat : Int) = b := by rw [BitVec.ofInt_natCast, BitVec.ofNat_toNat, BitVec.setWidth_eq]
theorem or32_comm (x y : Int) : bits .or .u32 x y = bits .or .u32 y x := by rw [or32, or32, BitVec.or_comm]
theorem xor32_zero (b : BitVec 32) : bits .xor .u32 0 (b.toNat : Int) = (b.toNat : Int) := by
  rw [xor32, ofInt_toNat32, show BitVec.ofInt 32 0 = 0#32 from rfl, BitVec.zero_xor]
theorem choose_eq (e f g m : Int) (hm : BitVec.ofInt 32 m = BitVec.allOnes 32) : bits .or .u32 (bits .and .u32 e f) (bits .and .u32 (bits .xor .u32 m e) g) = bits .xor .u32 (bits .and .u32 e f) (bits .and .u32 (bits .xor .u32 m e) g) := by
  rw [or32, xor32, and32, and32, xor32, ofInt_toNat32, ofInt_toNat32, ofInt_toNat32, hm]
  congr 2
  apply BitVec.eq_of_getLsbD_eq
  intro i hi
  simp only [BitVec.getLsbD_or, BitVec.getLsbD_and, BitVec.getLsbD_xor, BitVec.getLsbD_allOnes, hi, decide_true]
  cases (BitVec.ofInt 32 e).getLsbD i <;> cases (BitVec.ofInt 32 f).getLsbD i <;> cases (BitVec.ofInt 32 g).getLsbD i <;> rfl
theorem most_eq (a b c : Int) : bits .or .u32 (bits .or .u32 (bits .and .u32 a b) (bits .and .u32 a c)) (bits .and .u32 b c) = bits .xor .u32 (bits .xor .u32 (bits .and .u32 a b) (bits .and .u32 a c)) (bits .and .u32 b c) := by
  rw [or32, or32, xor32, xor32, and32, and32, and32, ofInt_toNat32, ofInt_toNat32, ofInt_toNat32, ofInt_toNat32, ofInt_toNat32]
  congr 2
  apply BitVec.eq_of_getLsbD_eq
  intro i hi
  simp only [BitVec.getLsbD_or, BitVec.getLsbD_and, BitVec.getLsbD_xor]
  cases (BitVec.ofInt 32 a).getLsbD i <;> cases (BitVec.ofInt 32 b).getLsbD i <;> cases (BitVec.ofInt 32 c).getLsbD i <;> rfl
/-- A word turned right. -/
def rtS (x n : Int) : Int := rotS x (IntKind.i64.wrap (0 - n))
theorem rtS_eq (x n : Int) (h0 : 0 < n) (h1 : n < 32) : bits .or .u32 (x.fdiv (2 ^ (min n.toNat IntKind.u32.bits))) (IntKind.u32.wrap (x * 2 ^ (min (32 - n).toNat IntKind.u32.bits))) = rtS x n := by
  have e1 : IntKind.i64.wrap (0 - n) = -n := by rw [IntKind.wrap_i64]; omega
  have e2 : IntKind.u64.wrap (-n) = 18446744073709551616 - n := by
    simp only [IntKind.wrap, IntKind.signed, IntKind.bits, Bool.false_and, Bool.false_eq_true, if_false]
    omega
  have e3 : bits .and .u64 (18446744073709551616 - n) 31 = 32 - n := by
    have := bits_mask .u64 64 (by decide) wraps_u64 5 (by decide) (18446744073709551616 - n) (by omega) (by omega)
    rw [show (2 : Int) ^ 5 - 1 = 31 by decide] at this
    rw [this]
    omega
  have e4 : IntKind.u64.wrap (32 - (32 - n)) = n := by rw [show (32 : Int) - (32 - n) = n by omega]; exact wraps_u64 n (by omega) (by omega)
  rw [rtS, rotS, e1, e2]
  simp only [e3, e4]
  rw [or32_comm]
  rfl
theorem rtS_bv (x n : Int) : ∃ b : BitVec 32, rtS x n = (b.toNat : Int) := ⟨_, or32 _ _⟩
theorem turned2 (x a b : Int) : turnedS x [a, b] = bits .xor .u32 (rtS x a) (rtS x b) := by
  obtain ⟨r, hr⟩ := rtS_bv x a
  show bits .xor .u32 (bits .xor .u32 0 (rtS x a)) (rtS x b) = _
  rw [hr, xor32_zero]
theorem turned3 (x a b c : Int) : turnedS x [a, b, c] = bits .xor .u32 (bits .xor .u32 (rtS x a) (rtS x b)) (rtS x c) := by
  obtain ⟨r, hr⟩ := rtS_bv x a
  show bits .xor .u32 (bits .xor .u32 (bits .xor .u32 0 (rtS x a)) (rtS x b)) (rtS x c) = _
  rw [hr, xor32_zero]
theorem sched_hi (W : List Int) (k : Nat) :
    IntKind.u32.wrap (IntKind.u32.wrap (IntKind.u32.wrap (W.getD ((k : Int) - 16).toNat 0 + W.getD ((k : Int) - 7).toNat 0) +
      bits .xor .u32 (bits .xor .u32 (rtS (W.getD ((k : Int) - 15).toNat 0) 7) (rtS (W.getD ((k : Int) - 15).toNat 0) 18)) ((W.getD ((k : Int) - 15).toNat 0).fdiv (2 ^ (min (Int.toNat 3) IntKind.u32.bits)))) +
      bits .xor .u32 (bits .xor .u32 (rtS (W.getD ((k : Int) - 2).toNat 0) 17) (rtS (W.getD ((k : Int) - 2).toNat 0) 19)) ((W.getD ((k : Int) - 2).toNat 0).fdiv (2 ^ (min (Int.toNat 10) IntKind.u32.bits)))) = schedHi W k := by
  rw [schedHi]
  simp only [turned2]
  generalize bits .xor .u32 (bits .xor .u32 (rtS (W.getD ((k : Int) - 15).toNat 0) 7) (rtS (W.getD ((k : Int) - 15).toNat 0) 18)) ((W.getD ((k : Int) - 15).toNat 0).fdiv (2 ^ (min (Int.toNat 3) IntKind.u32.bits))) = X
  generalize bits .xor .u32 (bits .xor .u32 (rtS (W.getD ((k : Int) - 2).toNat 0) 17) (rtS (W.getD ((k : Int) - 2).toNat 0) 19)) ((W.getD ((k : Int) - 2).toNat 0).fdiv (2 ^ (min (Int.toNat 10) IntKind.u32.bits))) = Y
  generalize W.getD ((k : Int) - 16).toNat 0 = p
  generalize W.getD ((k : Int) - 7).toNat 0 = q
  simp only [IntKind.wrap_u32]
  omega
theorem lo_step (x c : Int) (hc : 0 ≤ c ∧ c < 256) : IntKind.u32.wrap (IntKind.u32.wrap (x * 2 ^ (min (Int.toNat 8) IntKind.u32.bits)) + c) = bits .or .u32 (IntKind.u32.wrap (x * 2 ^ (min (Int.toNat 8) IntKind.u32.bits))) (IntKind.u32.wrap c) := by
  have e8 : (2 : Int) ^ (min (Int.toNat 8) IntKind.u32.bits) = 256 := by decide
  rw [e8, wraps_u32 c hc.1 (by omega)]
  have h0 : 0 ≤ IntKind.u32.wrap (x * 256) ∧ IntKind.u32.wrap (x * 256) < 4294967296 ∧ IntKind.u32.wrap (x * 256) % 256 = 0 := by rw [IntKind.wrap_u32]; omega
  generalize IntKind.u32.wrap (x * 256) = y at h0
  rw [bits_join .u32 32 (by decide) wraps_u32 8 y c h0.1 (by omega) (by omega) hc.1 (by omega) (by omega), wraps_u32 _ (by omega) (by omega)]
theorem round_x (W s : List Int) (k : Nat) : IntKind.u32.wrap (IntKind.u32.wrap (IntKind.u32.wrap (IntKind.u32.wrap (s.getD 7 0 + bits .xor .u32 (bits .xor .u32 (rtS (s.getD 4 0) 6) (rtS (s.getD 4 0) 11)) (rtS (s.getD 4 0) 25)) +
    bits .or .u32 (bits .and .u32 (s.getD 4 0) (s.getD 5 0)) (bits .and .u32 (bits .xor .u32 (if IntKind.u32.signed then -1 else IntKind.u32.max) (s.getD 4 0)) (s.getD 6 0))) + constS.getD k 0) + W.getD k 0) = turnX W s k := by
  rw [turnX, turned3, choose_eq _ _ _ _ (by decide)]
theorem round_y (s : List Int) : IntKind.u32.wrap (bits .xor .u32 (bits .xor .u32 (rtS (s.getD 0 0) 2) (rtS (s.getD 0 0) 13)) (rtS (s.getD 0 0) 22) + bits .or .u32 (bits .or .u32 (bits .and .u32 (s.getD 0 0) (s.getD 1 0)) (bits .and .u32 (s.getD 0 0) (s.getD 2 0))) (bits .and .u32 (s.getD 1 0) (s.getD 2 0))) = turnY s := by
  rw [turnY, turned3, most_eq]
theorem addS8 {h r : List Int} (hr : r.length = 8) : addS h r 8 = [IntKind.u32.wrap (h.getD 0 0 + r.getD 0 0), IntKind.u32.wrap (h.getD 1 0 + r.getD 1 0), IntKind.u32.wrap (h.getD 2 0 + r.getD 2 0), IntKind.u32.wrap (h.getD 3 0 + r.getD 3 0), IntKind.u32.wrap (h.getD 4 0 + r.getD 4 0), IntKind.u32.wrap (h.getD 5 0 + r.getD 5 0), IntKind.u32.wrap (h.getD 6 0 + r.getD 6 0), IntKind.u32.wrap (h.getD 7 0 + r.getD 7 0)] := by
  match r, hr with
  | [a, b, c, d, e, f, g, i], _ =>
    simp only [Int.add_comm (h.getD _ 0)]
    rfl
end Go.Proofs.Ytpoecjeknolnoaa
