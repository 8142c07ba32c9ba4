/- Plain laws, no program in sight, for the statements of this seat. Conditions: those that each theorem names. -/
import Derived.Test.YtpoecjeknolnoaaP4
import Derived.Test.YtpoecjeknolnoaaA20
namespace Go.Proofs.Ytpoecjeknolnoaa
open Go.RowKit Go.Proofs.HL Go.Lib
set_option linter.unusedSimpArgs false
set_option linter.unusedVariables false
/-! ### Blocks are bytes -/
theorem wrap8_byte (x : Int) : 0 ≤ IntKind.u8.wrap x ∧ IntKind.u8.wrap x < 256 := by rw [IntKind.wrap_u8]; omega
theorem outS_byte (h : List Int) : ∀ (m : Nat), ∀ x ∈ outS h m, 0 ≤ x ∧ x < 256
  | 0, x, hx => by rw [outS_zero] at hx; rw [(List.mem_replicate.1 hx).2]; decide
  | m + 1, x, hx => by
    rw [outS_succ] at hx
    rcases List.mem_or_eq_of_mem_set hx with hx | rfl
    · exact outS_byte h m x hx
    · exact wrap8_byte _
theorem checkS_byte (l : List Int) : ∀ x ∈ checkS l, 0 ≤ x ∧ x < 256 := fun x hx => outS_byte _ _ x (List.mem_of_mem_take hx)
theorem sealS_byte {l : List Int} (h : ∀ x ∈ l, 0 ≤ x ∧ x < 256) : ∀ x ∈ sealS l, 0 ≤ x ∧ x < 256 := fun x hx => by
  rw [sealS, List.mem_append, List.mem_append] at hx
  rcases hx with (hx | hx) | hx
  · exact h x hx
  · exact checkS_byte l x hx
  · rw [(List.mem_replicate.1 hx).2]; decide
theorem entB_byte {e : En} (h : EOk e) : ∀ x ∈ entB e, 0 ≤ x ∧ x < 256 := fun x hx => by
  rw [entB, List.mem_append] at hx
  rcases hx with hx | hx
  · exact h.2.1 x hx
  · simp only [List.mem_cons, List.not_mem_nil, or_false] at hx
    rcases hx with rfl | rfl | rfl | rfl <;> exact wrap8_byte _
theorem headB_byte {c n : Int} (h0 : 0 ≤ c) (h1 : c < 256) : ∀ x ∈ headB c n, 0 ≤ x ∧ x < 256 := fun x hx => by
  simp only [headB, List.mem_cons, List.not_mem_nil, or_false] at hx
  rcases hx with rfl | rfl
  · exact ⟨h0, h1⟩
  · exact wrap8_byte _
theorem leafB_byte {l : List En} (h : KeysOk l) (k : Nat) : ∀ x ∈ leafB l k, 0 ≤ x ∧ x < 256 := fun x hx => by
  rw [leafB, List.mem_append] at hx
  rcases hx with hx | hx
  · exact headB_byte (by decide) (by decide) x hx
  · obtain ⟨e, he, hx⟩ := List.mem_flatMap.1 hx
    exact entB_byte (h e (List.mem_of_mem_take he)) x hx
theorem encS_ok {l : List En} (h : KeysOk l) : BOk (encS l).1 := ⟨encS_len h, fun x hx => by
  rw [encS] at hx
  split at hx
  · exact sealS_byte (leafB_byte h _) x hx
  · rw [(List.mem_replicate.1 hx).2]; decide⟩
theorem rootS_ok (p : List Int) : BOk (rootS p).1 := ⟨rootS_len p, fun x hx => by
  rw [rootS] at hx
  split at hx
  · refine sealS_byte (fun y hy => ?_) x hx
    rw [rootB, List.mem_append] at hy
    rcases hy with hy | hy
    · exact headB_byte (by decide) (by decide) y hy
    · obtain ⟨z, _, rfl⟩ := List.mem_map.1 hy
      exact wrap8_byte _
  · rw [(List.mem_replicate.1 hx).2]; decide⟩
theorem leavesS_ok {l : List En} (h : KeysOk l) : BsOk (leavesS l) := fun b hb => by
  obtain ⟨x, _, rfl⟩ := List.mem_map.1 hb
  exact encS_ok (part3_ok h x)
theorem leavesR_ok {l : List En} (h : KeysOk l) (p : List Int) : BsOk (leavesS l ++ [(rootS p).1]) := fun b hb => by
  rcases List.mem_append.1 hb with hb | hb
  · exact leavesS_ok h b hb
  · simp only [List.mem_singleton] at hb
    rw [hb]; exact rootS_ok p
theorem BsOk.nil : BsOk [] := fun _ h => nomatch h
theorem packS_ok {l : List En} (h : KeysOk l) (p : List Int) : BsOk (packS l p).1 := by
  rw [packS]
  split
  · exact BsOk.nil
  · split
    · exact BsOk.nil
    · split
      · exact BsOk.nil
      · split
        · exact BsOk.nil
        · exact leavesR_ok h _
/-! ### The entries of 'wakes' -/
def kw (b : Int) : List Int := b :: List.replicate 31 0
def lw : List En := [(kw 1, 9, 2, 0), (kw 3, 5, 1, 0)]
def ew : En := (kw 2, 30, 1, 0)
def nw : List En := [(kw 1, 9, 2, 0), (kw 2, 30, 1, 0), (kw 3, 5, 1, 0)]
theorem kw_len (b : Int) : (kw b).length = 32 := rfl
theorem kw_ok {b : Int} (h0 : 0 ≤ b) (h1 : b < 256) : KOk (kw b) := ⟨rfl, fun x hx => by
  rcases List.mem_cons.1 hx with rfl | hx
  · exact ⟨h0, h1⟩
  · rw [(List.mem_replicate.1 hx).2]; decide⟩
theorem R64_0 : R64 0 := by constructor <;> decide
theorem e_ok {b p n : Int} (h0 : 0 ≤ b) (h1 : b < 256) (hp : R64 p) (hn : R64 n) : EOk (kw b, p, n, 0) := ⟨rfl, (kw_ok h0 h1).2, hp, hn, R64_0⟩
theorem lw_ok : KeysOk lw := fun e he => by
  simp only [lw, List.mem_cons, List.not_mem_nil, or_false] at he
  rcases he with rfl | rfl <;> exact e_ok (by decide) (by decide) (by constructor <;> decide) (by constructor <;> decide)
theorem ew_ok : EOk ew := e_ok (by decide) (by decide) (by constructor <;> decide) (by constructor <;> decide)
theorem nw_ok : KeysOk nw := fun e he => by
  simp only [nw, List.mem_cons, List.not_mem_nil, or_false] at he
  rcases he with rfl | rfl | rfl <;> exact e_ok (by decide) (by decide) (by constructor <;> decide) (by constructor <;> decide)
theorem lw_good : goodI lw = true := by decide +kernel
theorem c32 : ¬ cmpK (lw.getD 1 d0) (kw 2) < 0 := by decide +kernel
theorem c12 : cmpK (lw.getD 0 d0) (kw 2) < 0 := by decide +kernel
theorem bs_lw : bsL lw (kw 2) 0 2 = 1 := by
  rw [bsL, if_pos (by decide), if_neg c32, bsL, if_pos (by decide), if_pos c12, bsL, if_neg (by decide)]
theorem find_lw : findS lw (kw 2) = (1, false) := by
  rw [findS, show lw.length = 2 from rfl, bs_lw]
  decide +kernel
theorem ins_lw : insertS lw ew = (nw, 0) := by
  rw [insertS, show ew.1 = kw 2 from rfl, find_lw]; rfl
theorem d21 : ¬ cmpK (nw.getD 1 d0) (kw 1) < 0 := by decide +kernel
theorem d11 : ¬ cmpK (nw.getD 0 d0) (kw 1) < 0 := by decide +kernel
theorem bs_nw : bsL nw (kw 1) 0 3 = 0 := by
  rw [bsL, if_pos (by decide), if_neg d21, bsL, if_pos (by decide), if_neg d11, bsL, if_neg (by decide)]
theorem find_nw : findS nw (kw 1) = (0, true) := by
  rw [findS, show nw.length = 3 from rfl, bs_nw]
  decide +kernel
theorem rem_nw : removeS nw (kw 1) = ([(kw 2, 30, 1, 0), (kw 3, 5, 1, 0)], 0) := by
  rw [removeS, find_nw]; rfl
theorem rem_lw : removeS lw (kw 2) = ([], 19) := by
  rw [removeS, find_lw]; rfl
def rw20 : List Int := (rootS [20]).1
theorem pack_lw : packS lw [20, 21] = (leavesS lw ++ [rw20], 0) := by
  have h1 : rootOk [20] = true := by decide +kernel
  have h2 : (rootS [20]).2 = 0 := by rw [rootS, if_pos h1]
  rw [packS, if_neg (by rw [lw_good]; decide), if_neg (by decide), if_neg (by decide), show cutP [20, 21] = [20] from rfl, if_neg (by rw [h2]; decide)]
  rfl
theorem len_lw : (leavesS lw ++ [rw20]).length = 2 := rfl
theorem unp_lw : unpackS (leavesS lw) = (lw, 0) := by
  have := unpack_leaves lw_ok lw_good (k := 1) (by decide)
  exact this
end Go.Proofs.Ytpoecjeknolnoaa
