/- Plain laws, no program in sight, for the statements of this seat. Conditions: those that each theorem names. -/
import Derived.Test.YtpoecjeknolnoaaP3
namespace Go.Proofs.Ytpoecjeknolnoaa
open Go.RowKit Go.Proofs.HL Go.Lib
set_option linter.unusedSimpArgs false
set_option linter.unusedVariables false
/-! ### A leaf, there and back -/
theorem wraps_i64 (n : Int) (h₀ : 0 ≤ n) (h₁ : n < 2 ^ 63) : IntKind.i64.wrap n = n := by rw [IntKind.wrap_i64]; omega
theorem badE_one {l : List En} {i : Nat} (h : badE l i = false) : oneS (l.getD i d0) = true := by
  simp [badE] at h
  simp [oneS]
  omega
theorem refs_back {r : Int} (h0 : 0 ≤ r) (h1 : r ≤ 1000) :
    bits .or .i64 (IntKind.i64.wrap (IntKind.i64.wrap (IntKind.u8.wrap (r.fdiv (2 ^ (min (Int.toNat 8) IntKind.i64.bits)))) * 2 ^ (min (Int.toNat 8) IntKind.i64.bits))) (IntKind.i64.wrap (IntKind.u8.wrap r)) = r := by
  have e8 : (2 : Int) ^ (min (Int.toNat 8) IntKind.i64.bits) = 256 := by decide
  rw [e8, Int.fdiv_eq_ediv_of_nonneg _ (by decide), wrap8_id (n := r / 256) (by omega) (by omega), IntKind.wrap_u8, wraps_i64 (r / 256) (by omega) (by omega), wraps_i64 (r / 256 * 256) (by omega) (by omega), wraps_i64 (r % 256) (by omega) (by omega)]
  rw [bits_join .i64 63 (by decide) wraps_i64 8 (r / 256 * 256) (r % 256) (by omega) (by omega) (by omega) (by omega) (by omega) (by omega)]
  omega
theorem entC_back {e : En} (h : e.1.length = 32) (h1 : oneS e = true) : entC (entB e) = e := by
  have hs := oneS_spec h1
  obtain ⟨k, p, n, r⟩ := e
  replace h : k.length = 32 := h
  simp only at hs
  have ht : (entB (k, p, n, r)).take 32 = k := by rw [entB, List.take_append_of_le_length (by show 32 ≤ k.length; omega), List.take_of_length_le (by show k.length ≤ 32; omega)]
  have hg : ∀ q, (entB (k, p, n, r)).getD (32 + q) 0 = ([IntKind.u8.wrap p, IntKind.u8.wrap n, IntKind.u8.wrap (r.fdiv (2 ^ (min (Int.toNat 8) IntKind.i64.bits))), IntKind.u8.wrap r] : List Int).getD q 0 := fun q => by
    rw [entB, List.getD_eq_getElem?_getD, List.getElem?_append_right (by simp only [h]; omega), List.getD_eq_getElem?_getD]
    simp only [h, Nat.add_sub_cancel_left]
  have g0 := hg 0
  have g1 := hg 1
  have g2 := hg 2
  have g3 := hg 3
  simp only [Nat.add_zero, Nat.reduceAdd, List.getD_cons_zero, List.getD_cons_succ] at g0 g1 g2 g3
  rw [entC, ht, g0, g1, g2, g3, refs_back (by omega) (by omega), wrap8_id (by omega) (by omega), wrap8_id (by omega) (by omega), wraps_i64 _ (by omega) (by omega), wraps_i64 _ (by omega) (by omega)]
theorem flat_part : ∀ {l : List En} (k : Nat), KeysOk l → k < l.length → ((l.flatMap entB).drop (36 * k)).take 36 = entB (l.getD k d0)
  | [], k, _, h => by simp at h
  | e :: l, 0, hk, _ => by
    have := entB_len (hk e (by simp)).1
    simp only [List.flatMap_cons, Nat.mul_zero, List.drop_zero, List.getD_cons_zero]
    rw [List.take_append_of_le_length (by omega), List.take_of_length_le (by omega)]
  | e :: l, k + 1, hk, h => by
    have he := entB_len (hk e (by simp)).1
    have ih := flat_part (l := l) k (fun x hx => hk x (by simp [hx])) (by simpa using h)
    simp only [List.flatMap_cons, List.getD_cons_succ]
    have h1 : (entB e ++ l.flatMap entB).drop 36 = l.flatMap entB := by
      rw [List.drop_append_of_le_length (by omega), List.drop_eq_nil_of_le (by omega), List.nil_append]
    rw [show 36 * (k + 1) = 36 + 36 * k by omega, ← List.drop_drop, h1, ih]
theorem flat_len36 : ∀ {l : List En}, KeysOk l → (l.flatMap entB).length = 36 * l.length
  | [], _ => rfl
  | e :: l, hk => by
    have he := entB_len (hk e (by simp)).1
    have ih := flat_len36 (l := l) (fun x hx => hk x (by simp [hx]))
    simp only [List.flatMap_cons, List.length_append, List.length_cons]
    omega
theorem dec_enc {l : List En} (hk : KeysOk l) (hg : leafGood l = true) : decS (encS l).1 = (l, 0) := by
  have hlen := leafGood_len hg
  have he : encS l = (sealS (leafB l l.length), 0) := by rw [encS, if_pos hg]
  have hb : (encS l).1 = [76, (l.length : Int)] ++ (l.flatMap entB ++ (checkS (leafB l l.length) ++ List.replicate (124 - (leafB l l.length).length) 0)) := by
    rw [he, sealS]
    simp only [leafB, headB, List.take_length]
    rw [wrap8_id (n := (l.length : Int)) (by omega) (by omega)]
    simp
  have hc : cntS (encS l).1 = l.length := by
    have hg1 : (encS l).1.getD 1 0 = (l.length : Int) := by rw [hb]; rfl
    rw [cntS, hg1]
    have := wraps_i64 (l.length : Int) (by omega) (by omega)
    rw [this]
    rfl
  have hbs : ((encS l).1.drop 2).take (36 * l.length) = l.flatMap entB := by
    have hf := flat_len36 hk
    rw [hb]
    simp only [List.cons_append, List.nil_append, List.drop_succ_cons, List.drop_zero]
    rw [List.take_append_of_le_length (by omega), List.take_of_length_le (by omega)]
  have hl : leafOf (encS l).1 = l := by
    rw [leafOf, hc, hbs, entsS]
    apply List.ext_getElem?
    intro i
    by_cases hi : i < l.length
    · rw [List.getElem?_map, List.getElem?_range hi, Option.map_some, entAt, part36, flat_part i hk hi]
      have h1 : badE l i = false := by
        rw [leafGood, Bool.and_eq_true] at hg
        exact all_iff.1 hg.2 i hi
      rw [entC_back (hk.at_ i) (badE_one h1), List.getElem?_eq_getElem hi, getD_at d0 hi]
    · rw [List.getElem?_eq_none (by simpa using hi), List.getElem?_eq_none (by omega)]
  rw [decS, hc, if_neg (by omega), hl, he]
  simp

/-! ### Leaves, there and back -/
theorem goodP_sub {l m : List En} (h : GoodP l) (hs : m.Sublist l) : GoodP m := ⟨fun e he => h.one e (hs.subset he), h.srt.sublist hs, h.apart.sublist hs⟩
theorem dec_blk {l : List En} (hk : KeysOk l) (hg : goodI l = true) {x : Nat} (hx : 3 * x < l.length) : decS (blkS l x) = (part3 l x, 0) :=
  dec_enc (part3_ok hk x) (part3_good hg hx)
theorem unpF_blks {l : List En} (hk : KeysOk l) (hg : goodI l = true) : ∀ (c s : Nat) (acc : List En), s + c ≤ (l.length + 2) / 3 → unpF ((List.range' s c).map (blkS l)) acc = some (acc ++ (l.drop (3 * s)).take (3 * c))
  | 0, s, acc, _ => by simp [unpF]
  | c + 1, s, acc, h => by
    have hx : 3 * s < l.length := by omega
    rw [List.range'_succ, List.map_cons, unpF, dec_blk hk hg hx]
    have hp := part3_len l s
    rw [if_neg ?_, unpF_blks hk hg c (s + 1) _ (by omega)]
    · rw [List.append_assoc, part3]
      congr 2
      rw [show 3 * (c + 1) = 3 + 3 * c by omega, List.take_add, List.drop_drop, show 3 * s + 3 = 3 * (s + 1) by omega]
    · simp only [List.length_map, List.length_range', Bool.or_eq_true, Bool.and_eq_true, decide_eq_true_eq, bne_iff_ne, ne_eq, not_true_eq_false, false_or, not_and]
      intro h1 h2
      omega
theorem unpack_leaves {l : List En} (hk : KeysOk l) (hg : goodI l = true) {k : Nat} (hk2 : k ≤ (l.length + 2) / 3) : unpackS ((leavesS l).take k) = (l.take (3 * k), 0) := by
  have h1 : (leavesS l).take k = (List.range' 0 k).map (blkS l) := by
    rw [leavesS, ← List.map_take, List.take_range, Nat.min_eq_left hk2, List.range_eq_range']
  have h2 := unpF_blks hk hg k 0 [] (by omega)
  rw [unpackS, h1, h2]
  simp only [Nat.mul_zero, List.drop_zero, List.nil_append]
  rw [if_pos ((goodI_iff _).2 (goodP_sub ((goodI_iff l).1 hg) (List.take_sublist _ _)))]
/-! ### How many entries there are at most -/
theorem pigeon : ∀ (N : Nat) (l : List Nat), l.Nodup → (∀ x ∈ l, x < N) → l.length ≤ N
  | 0, l, _, h => by
    cases l with
    | nil => simp
    | cons x l => have := h x (by simp); omega
  | N + 1, l, hn, h => by
    have h1 := pigeon N (l.erase N) (hn.erase N) (fun x hx => by
      have h2 := (hn.mem_erase_iff).1 hx
      have := h x h2.2
      omega)
    rw [List.length_erase] at h1
    split at h1 <;> omega
theorem goodP_len {l : List En} (h : GoodP l) : l.length ≤ 126 := by
  have h1 := pigeon 126 (l.map fun e => (e.2.1 - 2).toNat) ?_ ?_
  · simpa using h1
  · rw [List.Nodup, List.pairwise_map]
    refine h.apart.imp_of_mem fun {x y} hx hy hxy => ?_
    have h2 := oneS_spec (h.one x hx)
    have h3 := oneS_spec (h.one y hy)
    simp only [ov, Bool.and_eq_false_iff, decide_eq_false_iff_not] at hxy
    omega
  · intro x hx
    obtain ⟨e, he, rfl⟩ := List.mem_map.1 hx
    have h2 := oneS_spec (h.one e he)
    omega
/-! ### Places, roots -/
def plS (n0 : Int) (k : Nat) : List Int := (List.range k).map fun (i : Nat) => 2 + (n0 + (i : Int)) % 126
theorem plS_len (n0 : Int) (k : Nat) : (plS n0 k).length = k := by simp [plS]
theorem plS_succ (n0 : Int) (k : Nat) : plS n0 (k + 1) = plS n0 k ++ [2 + (n0 + (k : Int)) % 126] := by simp [plS, List.range_succ]
theorem plS_get {n0 : Int} {k i : Nat} (h : i < k) : (plS n0 k).getD i 0 = 2 + (n0 + (i : Int)) % 126 := by simp [plS, h]
theorem plS_take {n0 : Int} {k j : Nat} (h : j ≤ k) : (plS n0 k).take j = plS n0 j := by
  rw [plS, ← List.map_take, List.take_range, Nat.min_eq_left h]; rfl
theorem idxA_none : ∀ {p : List Int} {x : Int} {i : Int}, x ∉ p → idxA p x i = -1
  | [], _, _, _ => rfl
  | y :: r, x, i, h => by
    rw [idxA, if_neg (by intro hc; rw [beq_iff_eq] at hc; exact h (by simp [hc]))]
    exact idxA_none (fun hc => h (by simp [hc]))
theorem plS_root {n0 : Int} {k : Nat} (hk : 1 ≤ k ∧ k ≤ 100) : rootOk (plS n0 k) = true := by
  rw [rootOk, plS_len, Bool.and_eq_true, all_iff]
  refine ⟨by rw [decide_eq_false (by omega), decide_eq_false (by omega)]; rfl, fun i hi => ?_⟩
  rw [rootBad, plS_get hi, plS_take (by omega), idxA_none]
  · simp; omega
  · intro hm
    obtain ⟨j, hj, h⟩ := List.mem_map.1 hm
    have := List.mem_range.1 hj
    omega
theorem map_wrap_inj : ∀ {p q : List Int}, (∀ x ∈ p, 0 ≤ x ∧ x < 256) → (∀ x ∈ q, 0 ≤ x ∧ x < 256) → p.map IntKind.u8.wrap = q.map IntKind.u8.wrap → p = q
  | [], [], _, _, _ => rfl
  | [], _ :: _, _, _, h => by simp at h
  | _ :: _, [], _, _, h => by simp at h
  | x :: p, y :: q, hp, hq, h => by
    simp only [List.map_cons, List.cons.injEq] at h
    have hx := hp x (by simp)
    have hy := hq y (by simp)
    rw [wrap8_id hx.1 hx.2, wrap8_id hy.1 hy.2] at h
    rw [h.1, map_wrap_inj (fun z hz => hp z (by simp [hz])) (fun z hz => hq z (by simp [hz])) h.2]
theorem plS_byte {n0 : Int} {k : Nat} : ∀ x ∈ plS n0 k, 0 ≤ x ∧ x < 256 := fun x hx => by
  obtain ⟨j, _, rfl⟩ := List.mem_map.1 hx
  omega
theorem root_eq {n0 n1 : Int} {k : Nat} (hk : 1 ≤ k ∧ k ≤ 100) : ((rootS (plS n0 k)).1 == (rootS (plS n1 k)).1) = (plS n0 k == plS n1 k) := by
  rw [Bool.eq_iff_iff, beq_iff_eq, beq_iff_eq]
  constructor
  · intro h
    rw [rootS, rootS, if_pos (plS_root hk), if_pos (plS_root hk)] at h
    have h1 := congrArg (List.take (2 + k)) h
    have hl : ∀ n : Int, (rootB (plS n k) (plS n k).length).length = 2 + k := fun n => by rw [rootB_len _ _ (Nat.le_refl _), plS_len]
    have ht : ∀ n : Int, (sealS (rootB (plS n k) (plS n k).length)).take (2 + k) = rootB (plS n k) (plS n k).length := fun n => by
      rw [sealS, List.append_assoc, List.take_append_of_le_length (by rw [hl]; omega), List.take_of_length_le (by rw [hl]; omega)]
    simp only [ht] at h1
    rw [rootB, rootB, List.take_length, List.take_length, plS_len, plS_len] at h1
    exact map_wrap_inj plS_byte plS_byte (List.append_cancel_left h1)
  · intro h; rw [h]
theorem size_eq {n : Nat} (h : 0 < n) : sizeS (n : Int) = (((n + 2) / 3 + 1 : Nat) : Int) := by
  rw [sizeS, if_neg (by omega)]; omega
theorem leavesS_len (l : List En) : (leavesS l).length = (l.length + 2) / 3 := by simp [leavesS]
theorem pack_good {l : List En} (hg : goodI l = true) (h0 : 0 < l.length) {n0 : Int} : packS l (plS n0 ((l.length + 2) / 3 + 1)) = (leavesS l ++ [(rootS (plS n0 ((l.length + 2) / 3))).1], 0) := by
  have hl := goodP_len ((goodI_iff l).1 hg)
  have hc : cutP (plS n0 ((l.length + 2) / 3 + 1)) = plS n0 ((l.length + 2) / 3) := by rw [cutP, plS_len, plS_take (by omega)]; rfl
  rw [packS, if_neg (by rw [hg]; decide), if_neg (by rw [plS_len, size_eq h0]; simp), if_neg (by omega), hc, if_neg ?_]
  rw [rootS, if_pos (plS_root (by omega))]
  simp
end Go.Proofs.Ytpoecjeknolnoaa
