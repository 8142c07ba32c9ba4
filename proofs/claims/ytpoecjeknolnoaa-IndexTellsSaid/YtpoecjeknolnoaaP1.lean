/- Plain laws, no program in sight, for the statements of this seat. Conditions: those that each theorem names. -/
import Derived.Test.YtpoecjeknolnoaaA19
namespace Go.Proofs.Ytpoecjeknolnoaa
open Go.RowKit Go.Proofs.HL Go.Lib
set_option linter.unusedSimpArgs false
set_option linter.unusedVariables false
/-! ### The order of keys -/
theorem cb_self : ∀ a : List UInt8, compareBytes a a = 0
  | [] => rfl
  | x :: a => by simp [compareBytes, cb_self a]
theorem cb_zero : ∀ {a b : List UInt8}, compareBytes a b = 0 → a = b
  | [], [], _ => rfl
  | [], _ :: _, h => by simp [compareBytes] at h
  | _ :: _, [], h => by simp [compareBytes] at h
  | x :: a, y :: b, h => by
    unfold compareBytes at h
    split at h
    · cases h
    · split at h
      · cases h
      · rename_i h1 h2
        have h3 : x = y := UInt8.le_antisymm (UInt8.not_lt.1 h2) (UInt8.not_lt.1 h1)
        rw [h3, cb_zero h]
theorem cb_anti : ∀ a b : List UInt8, compareBytes b a = - compareBytes a b
  | [], [] => rfl
  | [], _ :: _ => rfl
  | _ :: _, [] => rfl
  | x :: a, y :: b => by
    have ih := cb_anti a b
    unfold compareBytes
    by_cases h1 : x < y
    · have h2 : ¬ y < x := fun h => absurd (UInt8.lt_trans h1 h) (UInt8.lt_irrefl _)
      simp [h1, h2]
    · by_cases h2 : y < x
      · simp [h1, h2]
      · simp [h1, h2, ih]
theorem cb_trans : ∀ {a b c : List UInt8}, compareBytes a b < 0 → compareBytes b c < 0 → compareBytes a c < 0
  | [], [], c, h, _ => by simp [compareBytes] at h
  | [], _ :: _, [], _, h => by simp [compareBytes] at h
  | [], _ :: _, _ :: _, _, _ => by simp [compareBytes]
  | _ :: _, [], _, h, _ => by simp [compareBytes] at h
  | _ :: _, _ :: _, [], _, h => by simp [compareBytes] at h
  | x :: a, y :: b, z :: c, h, h' => by
    unfold compareBytes at h h' ⊢
    by_cases h1 : x < y
    · by_cases h2 : y < z
      · simp [UInt8.lt_trans h1 h2]
      · by_cases h3 : z < y
        · simp [h2, h3] at h'
        · have h4 : y = z := UInt8.le_antisymm (UInt8.not_lt.1 h3) (UInt8.not_lt.1 h2)
          subst h4
          simp [h1]
    · by_cases h3 : y < x
      · simp [h1, h3] at h
      · have h4 : x = y := UInt8.le_antisymm (UInt8.not_lt.1 h3) (UInt8.not_lt.1 h1)
        subst h4
        simp only [h1, if_false] at h
        by_cases h2 : x < z
        · simp [h2]
        · by_cases h5 : z < x
          · simp [h2, h5] at h'
          · simp only [h2, h5, if_false] at h' ⊢
            exact cb_trans h h'
def KOk (k : List Int) : Prop := k.length = 32 ∧ ∀ x ∈ k, 0 ≤ x ∧ x < 256
theorem bytesOf_inj : ∀ {a b : List Int}, (∀ x ∈ a, 0 ≤ x ∧ x < 256) → (∀ x ∈ b, 0 ≤ x ∧ x < 256) → bytesOf a = bytesOf b → a = b
  | [], [], _, _, _ => rfl
  | [], _ :: _, _, _, h => by simp [bytesOf] at h
  | _ :: _, [], _, _, h => by simp [bytesOf] at h
  | x :: a, y :: b, ha, hb, h => by
    simp only [bytesOf, List.map_cons, List.cons.injEq] at h
    have hx := ha x (by simp)
    have hy := hb y (by simp)
    have h1 : x = y := by
      have := congrArg UInt8.toNat h.1
      simp only [UInt8.toNat_ofNat'] at this
      omega
    rw [h1, bytesOf_inj (fun z hz => ha z (by simp [hz])) (fun z hz => hb z (by simp [hz])) h.2]
theorem lessS_irrefl (a : List Int) : lessS a a = false := by simp [lessS, cmpS, cb_self]
theorem lessS_iff {a b : List Int} : lessS a b = true ↔ compareBytes (bytesOf a) (bytesOf b) < 0 := by unfold lessS cmpS; exact decide_eq_true_iff
theorem lessS_iff' {a b : List Int} : lessS a b = false ↔ ¬ compareBytes (bytesOf a) (bytesOf b) < 0 := by unfold lessS cmpS; exact decide_eq_false_iff_not
theorem lessS_trans {a b c : List Int} (h : lessS a b = true) (h' : lessS b c = true) : lessS a c = true :=
  lessS_iff.2 (cb_trans (lessS_iff.1 h) (lessS_iff.1 h'))
theorem lessS_anti {a b : List Int} (h : lessS a b = true) : lessS b a = false := by
  rw [lessS_iff] at h
  rw [lessS_iff', cb_anti]
  omega
theorem lessS_tri {a b : List Int} (ha : KOk a) (hb : KOk b) (h : lessS a b = false) (h' : lessS b a = false) : a = b := by
  rw [lessS_iff'] at h h'
  rw [cb_anti (bytesOf a)] at h'
  exact bytesOf_inj ha.2 hb.2 (cb_zero (by omega))
theorem EOk.key {e : En} (h : EOk e) : KOk e.1 := ⟨h.1, h.2.1⟩
def Lt (x y : En) : Prop := lessS x.1 y.1 = true
abbrev Srt (l : List En) : Prop := l.Pairwise Lt
theorem getD_mem {α : Type} {l : List α} {i : Nat} {d : α} (h : i < l.length) : l.getD i d ∈ l := by
  rw [List.getD_eq_getElem?_getD, List.getElem?_eq_getElem h]; exact List.getElem_mem h
theorem getD_at {α : Type} {l : List α} {i : Nat} (d : α) (h : i < l.length) : l.getD i d = l[i] := by
  rw [List.getD_eq_getElem?_getD, List.getElem?_eq_getElem h]; rfl
/-- Neighbours that rise: all rise. -/
theorem srt_of_adj {l : List En} (h : ∀ i, 0 < i → i < l.length → lessS (l.getD (i - 1) d0).1 (l.getD i d0).1 = true) : Srt l := by
  have key : ∀ k i, i + k + 1 < l.length → lessS (l.getD i d0).1 (l.getD (i + k + 1) d0).1 = true := by
    intro k
    induction k with
    | zero => intro i hi; exact h (i + 1) (by omega) hi
    | succ k ih => intro i hi; exact lessS_trans (ih i (by omega)) (h (i + k + 2) (by omega) (by omega))
  rw [Srt, List.pairwise_iff_getElem]
  intro i j hi hj hij
  have := key (j - i - 1) i (by omega)
  rw [show i + (j - i - 1) + 1 = j by omega, getD_at d0 hi, getD_at d0 hj] at this
  exact this
theorem Srt.at_ {l : List En} (h : Srt l) {i j : Nat} (hij : i < j) (hj : j < l.length) : lessS (l.getD i d0).1 (l.getD j d0).1 = true := by
  have := List.pairwise_iff_getElem.1 h i j (by omega) hj hij
  rw [getD_at d0 (by omega), getD_at d0 hj]
  exact this
theorem all_iff {p : Nat → Bool} {n : Nat} : ((List.range n).all fun i => !p i) = true ↔ ∀ i, i < n → p i = false := by
  rw [List.all_eq_true]
  constructor
  · intro h i hi; have := h i (List.mem_range.2 hi); simpa using this
  · intro h i hi; rw [h i (List.mem_range.1 hi)]; rfl
theorem rises_iff (l : List En) : risesS l = true ↔ Srt l := by
  rw [risesS, all_iff]
  constructor
  · intro h
    refine srt_of_adj fun i h0 hi => ?_
    have := h i hi
    rw [riseBad, decide_eq_true (by omega), Bool.true_and, show ((i : Int) - 1).toNat = i - 1 by omega] at this
    simpa using this
  · intro h i hi
    rw [riseBad]
    by_cases h0 : i = 0
    · subst h0; simp
    · rw [show ((i : Int) - 1).toNat = i - 1 by omega, h.at_ (by omega) hi]; simp
theorem ris_iff (l : List En) : risS l = true ↔ Srt l := by
  rw [risS, all_iff]
  constructor
  · intro h
    refine srt_of_adj fun i h0 hi => ?_
    have := h i hi
    rw [risBad, decide_eq_true (by omega), Bool.true_and, show ((i : Int) - 1).toNat = i - 1 by omega] at this
    simpa using this
  · intro h i hi
    rw [risBad]
    by_cases h0 : i = 0
    · subst h0; simp
    · rw [show ((i : Int) - 1).toNat = i - 1 by omega, h.at_ (by omega) hi]; simp

/-! ### Bitmaps -/
def BM (ms : List Int) : Prop := ms.length = 16 ∧ ∀ x ∈ ms, 0 ≤ x ∧ x < 256
theorem BM.at_ {ms : List Int} (h : BM ms) (i : Nat) : 0 ≤ ms.getD i 0 ∧ ms.getD i 0 < 256 := by
  by_cases hi : i < ms.length
  · exact h.2 _ (getD_mem hi)
  · rw [List.getD_eq_getElem?_getD, List.getElem?_eq_none (by omega)]; decide
theorem BM.zero : BM (List.replicate 16 0) := ⟨by simp, fun x hx => by rw [(List.mem_replicate.1 hx).2]; decide⟩
theorem wrap8_id {n : Int} (h0 : 0 ≤ n) (h1 : n < 256) : IntKind.u8.wrap n = n := wraps_u8 n h0 (by omega)
theorem hasS_eq {ms : List Int} (h : BM ms) {b : Int} (h0 : 0 ≤ b) (h1 : b < 128) : hasS ms b = (ms.getD (b / 8).toNat 0).toNat.testBit (b % 8).toNat := by
  obtain ⟨hx0, hx1⟩ := h.at_ (b / 8).toNat
  rw [hasS, decide_eq_false (by omega), decide_eq_false (by omega), Bool.false_or, Bool.false_or]
  generalize ms.getD (b / 8).toNat 0 = x at hx0 hx1
  obtain ⟨X, rfl⟩ := Int.eq_ofNat_of_zero_le hx0
  have hk : (b % 8).toNat < 8 := by omega
  generalize (b % 8).toNat = k at hk
  rw [show min k IntKind.u8.bits = k by show min k 8 = k; omega]
  have h2 : ((X : Int)).fdiv (2 ^ k) = ((X / 2 ^ k : Nat) : Int) := by
    rw [Int.fdiv_eq_ediv_of_nonneg _ (Int.pow_nonneg (by decide))]
    simp
  have h3 : X / 2 ^ k ≤ X := Nat.div_le_self _ _
  rw [h2, Int.toNat_natCast, Nat.testBit_eq_decide_div_mod_eq]
  generalize X / 2 ^ k = Q at h3
  have h4 := bits_mask .u8 8 (by decide) wraps_u8 1 (by decide) (Q : Int) (by omega) (by omega)
  rw [show (2 : Int) ^ 1 - 1 = 1 by decide] at h4
  rw [h4]
  rw [Bool.eq_iff_iff]
  simp only [beq_iff_eq, decide_eq_true_eq]
  omega
theorem setS_BM {ms : List Int} (h : BM ms) (b : Int) : BM (setS ms b) := by
  refine ⟨by rw [setS_len]; exact h.1, fun x hx => ?_⟩
  rcases List.mem_or_eq_of_mem_set hx with hx | rfl
  · exact h.2 x hx
  · have := bits_range .or .u8 rfl (ms.getD (b / 8).toNat 0) (IntKind.u8.wrap (1 * 2 ^ (min (b % 8).toNat IntKind.u8.bits)))
    exact ⟨this.1, Int.lt_of_lt_of_le this.2 (by decide)⟩
theorem setS_has {ms : List Int} (h : BM ms) {b c : Int} (hb0 : 0 ≤ b) (hb1 : b < 128) (h0 : 0 ≤ c) (h1 : c < 128) : hasS (setS ms b) c = (hasS ms c || decide (c = b)) := by
  rw [hasS_eq (setS_BM h b) h0 h1, hasS_eq h h0 h1]
  by_cases hj : (b / 8).toNat = (c / 8).toNat
  · obtain ⟨hx0, hx1⟩ := h.at_ (c / 8).toNat
    have hg : (setS ms b).getD (c / 8).toNat 0 = bits .or .u8 (ms.getD (c / 8).toNat 0) (IntKind.u8.wrap (1 * 2 ^ (min (b % 8).toNat IntKind.u8.bits))) := by
      rw [setS, ← hj, List.getD_eq_getElem?_getD, List.getElem?_set_self (by rw [h.1]; omega)]; rfl
    rw [hg]
    generalize ms.getD (c / 8).toNat 0 = x at hx0 hx1
    obtain ⟨X, rfl⟩ := Int.eq_ofNat_of_zero_le hx0
    have hk : (b % 8).toNat < 8 := by omega
    have hkb : (b % 8).toNat = (c % 8).toNat ↔ c = b := by omega
    generalize (b % 8).toNat = k at hk hkb
    generalize (c % 8).toNat = q at hkb
    have hp : (2 : Nat) ^ k < 2 ^ 8 := Nat.pow_lt_pow_right (by decide) hk
    have hp' : (2 : Nat) ^ k < 256 := hp
    have e2 : ((2 : Int) ^ k) = ((2 ^ k : Nat) : Int) := (Int.natCast_pow 2 k).symm
    have hp1 : (2 : Int) ^ k < 256 := by rw [e2]; omega
    rw [show min k IntKind.u8.bits = k by show min k 8 = k; omega, Int.one_mul, wrap8_id (Int.pow_nonneg (by decide)) hp1]
    have h2 := (bits_nat .u8 8 (by decide) wraps_u8 X (2 ^ k) (by omega) hp).2
    rw [show ((2 : Int) ^ k) = ((2 ^ k : Nat) : Int) from (Int.natCast_pow 2 k).symm, h2]
    simp only [Int.toNat_natCast, Nat.testBit_or, Nat.testBit_two_pow]
    congr 1
    exact decide_eq_decide.2 hkb
  · have hg : (setS ms b).getD (c / 8).toNat 0 = ms.getD (c / 8).toNat 0 := by
      rw [setS, List.getD_eq_getElem?_getD, List.getElem?_set_ne hj, ← List.getD_eq_getElem?_getD]
    rw [hg, decide_eq_false (by omega), Bool.or_false]
theorem withL_spec : ∀ (k : Nat) {ms : List Int} (_ : BM ms) {b : Int} (_ : 0 ≤ b) (_ : b + k ≤ 128),
    (∃ l, withL ms b k = some l ∧ (∀ c, b ≤ c → c < b + k → hasS ms c = false) ∧ BM l ∧ ∀ c, 0 ≤ c → c < 128 → hasS l c = (hasS ms c || decide (b ≤ c ∧ c < b + k))) ∨
    (withL ms b k = none ∧ ∃ c, b ≤ c ∧ c < b + k ∧ hasS ms c = true)
  | 0, ms, h, b, h0, h1 => .inl ⟨ms, rfl, fun c h2 h3 => by omega, h, fun c h2 h3 => by rw [decide_eq_false (by omega), Bool.or_false]⟩
  | k + 1, ms, h, b, h0, h1 => by
    rw [withL]
    cases hb : hasS ms b with
    | true => exact .inr ⟨by simp, b, Int.le_refl _, by omega, hb⟩
    | false =>
      simp only [Bool.false_eq_true, if_false]
      have hs := setS_BM h b
      rcases withL_spec k hs (b := b + 1) (by omega) (by omega) with ⟨l, h2, h3, h4, h5⟩ | ⟨h2, c, h3, h4, h5⟩
      · refine .inl ⟨l, h2, fun c hc hc' => ?_, h4, fun c hc hc' => ?_⟩
        · by_cases hcb : c = b
          · rw [hcb]; exact hb
          · have := h3 c (by omega) (by omega)
            rw [setS_has h h0 (by omega) (by omega) (by omega), Bool.or_eq_false_iff] at this
            exact this.1
        · rw [h5 c hc hc', setS_has h h0 (by omega) hc hc', Bool.or_assoc]
          congr 1
          rw [Bool.eq_iff_iff]
          simp only [Bool.or_eq_true, decide_eq_true_eq]
          omega
      · refine .inr ⟨h2, c, by omega, by omega, ?_⟩
        rw [setS_has h h0 (by omega) (by omega) (by omega), Bool.or_eq_true, decide_eq_true_eq] at h5
        rcases h5 with h5 | h5
        · exact h5
        · omega
theorem withS_spec {ms : List Int} (h : BM ms) {b n : Int} (h0 : 0 ≤ b) (hn : 1 ≤ n) (h1 : b + n ≤ 128) :
    ((withS ms b n).2 = 0 ∧ (∀ c, b ≤ c → c < b + n → hasS ms c = false) ∧ BM (withS ms b n).1 ∧ ∀ c, 0 ≤ c → c < 128 → hasS (withS ms b n).1 c = (hasS ms c || decide (b ≤ c ∧ c < b + n))) ∨
    ((withS ms b n).2 = 11 ∧ ∃ c, b ≤ c ∧ c < b + n ∧ hasS ms c = true) := by
  rw [withS, if_neg (by omega)]
  have hn' : ((n.toNat : Nat) : Int) = n := by omega
  rcases withL_spec n.toNat h h0 (by omega) with ⟨l, h2, h3, h4, h5⟩ | ⟨h2, c, h3, h4, h5⟩
  · rw [h2]; rw [hn'] at h3 h5; exact .inl ⟨rfl, h3, h4, h5⟩
  · rw [h2]; rw [hn'] at h4; exact .inr ⟨rfl, c, h3, h4, h5⟩

/-! ### What a good index is -/
def ov (x y : En) : Bool := decide (x.2.1 < y.2.1 + y.2.2.1) && decide (y.2.1 < x.2.1 + x.2.2.1)
structure GoodP (l : List En) : Prop where
  one : ∀ e ∈ l, oneS e = true
  srt : Srt l
  apart : l.Pairwise fun x y => ov x y = false
theorem leafGood_1 (e : En) : leafGood [e] = oneS e := by
  rw [Bool.eq_iff_iff]
  simp [leafGood, badE, oneS]
  omega
theorem ov_iff {x y : En} (hx : oneS x = true) (hy : oneS y = true) : ov x y = false ↔ ∀ c, x.2.1 ≤ c → c < x.2.1 + x.2.2.1 → y.2.1 ≤ c → c < y.2.1 + y.2.2.1 → False := by
  have h1 := oneS_spec hx
  have h2 := oneS_spec hy
  constructor
  · intro h c h3 h4 h5 h6
    simp only [ov, Bool.and_eq_false_iff, decide_eq_false_iff_not] at h
    omega
  · intro h
    simp only [ov, Bool.and_eq_false_iff, decide_eq_false_iff_not]
    by_cases hle : x.2.1 ≤ y.2.1
    · have := h y.2.1 hle
      right; intro hh; exact this (by omega) (by omega) (by omega)
    · have := h x.2.1 (by omega) (by omega) (by omega)
      left; intro hh; exact this (by omega)
theorem goodB_iff : ∀ (l : List En) {m : List Int} (_ : BM m), goodB l m = true ↔ (∀ e ∈ l, oneS e = true) ∧ (∀ e ∈ l, ∀ c, e.2.1 ≤ c → c < e.2.1 + e.2.2.1 → hasS m c = false) ∧ l.Pairwise (fun x y => ov x y = false)
  | [], m, hm => by simp [goodB]
  | e :: r, m, hm => by
    rw [goodB, leafGood_1]
    cases he : oneS e with
    | false => simp [he]
    | true =>
      have h1 := oneS_spec he
      rcases withS_spec hm (b := e.2.1) (n := e.2.2.1) (by omega) (by omega) (by omega) with ⟨h2, h3, h4, h5⟩ | ⟨h2, c, h3, h4, h5⟩
      · rw [if_neg (by rw [h2]; decide), goodB_iff r h4]
        constructor
        · rintro ⟨ha, hb, hc⟩
          refine ⟨fun x hx => ?_, fun x hx c hc1 hc2 => ?_, List.pairwise_cons.2 ⟨fun x hx => (ov_iff he (ha x hx)).2 fun c h6 h7 h8 h9 => ?_, hc⟩⟩
          · rcases List.mem_cons.1 hx with rfl | hx
            · exact he
            · exact ha x hx
          · rcases List.mem_cons.1 hx with rfl | hx
            · exact h3 c hc1 hc2
            · have h6 := hb x hx c hc1 hc2
              have h7 := oneS_spec (ha x hx)
              rw [h5 c (by omega) (by omega), Bool.or_eq_false_iff] at h6
              exact h6.1
          · have := hb x hx c h8 h9
            rw [h5 c (by omega) (by omega), decide_eq_true (by omega)] at this
            simp at this
        · rintro ⟨ha, hb, hc⟩
          obtain ⟨hc1, hc2⟩ := List.pairwise_cons.1 hc
          have ha' : ∀ x ∈ r, oneS x = true := fun x hx => ha x (List.mem_cons_of_mem _ hx)
          refine ⟨ha', fun x hx c h6 h7 => ?_, hc2⟩
          have h8 := oneS_spec (ha' x hx)
          rw [h5 c (by omega) (by omega), hb x (List.mem_cons_of_mem _ hx) c h6 h7, Bool.false_or, decide_eq_false]
          rintro ⟨h9, h10⟩
          exact (ov_iff he (ha' x hx)).1 (hc1 x hx) c h9 h10 h6 h7
      · rw [if_pos (by rw [h2]; decide)]
        constructor
        · intro h; cases h
        · rintro ⟨_, hb, _⟩
          have := hb e (by simp) c h3 h4
          rw [h5] at this; cases this
theorem goodI_iff (l : List En) : goodI l = true ↔ GoodP l := by
  rw [goodI, Bool.and_eq_true, rises_iff, goodB_iff l BM.zero]
  constructor
  · rintro ⟨h1, h2, _, h3⟩; exact ⟨h2, h1, h3⟩
  · rintro ⟨h1, h2, h3⟩
    refine ⟨h2, h1, fun e he c hc1 hc2 => ?_, h3⟩
    have h4 := oneS_spec (h1 e he)
    rw [hasS_eq BM.zero (by omega) (by omega)]
    have : (List.replicate 16 (0 : Int)).getD (c / 8).toNat 0 = 0 := by
      rw [List.getD_eq_getElem?_getD, List.getElem?_replicate]; split <;> rfl
    rw [this]; simp
theorem refGood_iff (l : List En) : refGood l = true ↔ GoodP l := by
  rw [refGood, all_iff]
  constructor
  · intro h
    have h1 : ∀ i, i < l.length → oneS (l.getD i d0) = true := fun i hi => oneS_of (rgAt_bad (h i hi))
    refine ⟨fun e he => ?_, srt_of_adj fun i h0 hi => ?_, List.pairwise_iff_getElem.2 fun i j hi hj hij => ?_⟩
    · obtain ⟨i, hi, rfl⟩ := List.getElem_of_mem he
      have := h1 i hi
      rwa [getD_at d0 hi] at this
    · have := rgAt_bad (h i hi)
      rw [rgBad, h1 i hi, decide_eq_true (by omega), show ((i : Int) - 1).toNat = i - 1 by omega] at this
      simpa using this
    · have := h j hj
      rw [rgAt, Bool.or_eq_false_iff] at this
      have h2 := this.2
      rw [Bool.not_eq_false'] at h2
      have h3 := all_iff.1 h2 i hij
      rw [rgOver, getD_at d0 hi, getD_at d0 hj] at h3
      exact h3
  · rintro ⟨h1, h2, h3⟩ i hi
    rw [rgAt, Bool.or_eq_false_iff, Bool.not_eq_false', all_iff]
    constructor
    · rw [rgBad, h1 _ (getD_mem hi)]
      by_cases h0 : i = 0
      · subst h0; simp
      · rw [show ((i : Int) - 1).toNat = i - 1 by omega, h2.at_ (by omega) hi]; simp
    · intro k hk
      have := List.pairwise_iff_getElem.1 h3 k i (by omega) hi hk
      rw [rgOver, getD_at d0 (by omega : k < l.length), getD_at d0 hi]
      exact this
theorem goodI_eq (l : List En) : goodI l = refGood l := by rw [Bool.eq_iff_iff, goodI_iff, refGood_iff]
end Go.Proofs.Ytpoecjeknolnoaa
