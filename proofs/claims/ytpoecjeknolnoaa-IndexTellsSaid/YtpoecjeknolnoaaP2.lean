/- Plain laws, no program in sight, for the statements of this seat. Conditions: those that each theorem names. -/
import Derived.Test.YtpoecjeknolnoaaP1
namespace Go.Proofs.Ytpoecjeknolnoaa
open Go.RowKit Go.Proofs.HL Go.Lib
set_option linter.unusedSimpArgs false
set_option linter.unusedVariables false
/-! ### Find in a list that rises -/
theorem cmpK_lt {e : En} {key : List Int} : cmpK e key < 0 ↔ lessS e.1 key = true := by
  unfold cmpK
  cases h1 : lessS e.1 key with
  | true => simp
  | false => cases h2 : lessS key e.1 <;> simp
theorem cmpK_eq {e : En} {key : List Int} : cmpK e key = 0 ↔ lessS e.1 key = false ∧ lessS key e.1 = false := by
  unfold cmpK
  cases h1 : lessS e.1 key with
  | true => simp
  | false => cases h2 : lessS key e.1 <;> simp
theorem bsL_spec (l : List En) (key : List Int) (hs : Srt l) (i j : Nat) (hij : i ≤ j) (hj : j ≤ l.length) (hi : ∀ q, q < i → lessS (l.getD q d0).1 key = true) (hh : ∀ q, j ≤ q → q < l.length → lessS (l.getD q d0).1 key = false) :
    (∀ q, q < bsL l key i j → lessS (l.getD q d0).1 key = true) ∧ (∀ q, bsL l key i j ≤ q → q < l.length → lessS (l.getD q d0).1 key = false) := by
  fun_induction bsL l key i j with
  | case1 i j hlt hc ih =>
    rw [cmpK_lt] at hc
    refine ih (by omega) hj (fun q hq => ?_) hh
    by_cases hq' : q = (i + j) / 2
    · rw [hq']; exact hc
    · exact lessS_trans (hs.at_ (by omega) (by omega)) hc
  | case2 i j hlt hc ih =>
    rw [cmpK_lt] at hc
    refine ih (by omega) (by omega) hi (fun q hq hq2 => ?_)
    by_cases hq' : q = (i + j) / 2
    · rw [hq']; simpa using hc
    · cases hx : lessS (l.getD q d0).1 key with
      | false => rfl
      | true => exact absurd (lessS_trans (hs.at_ (show (i + j) / 2 < q by omega) hq2) hx) hc
  | case3 i j hlt =>
    have : i = j := by omega
    subst this
    exact ⟨hi, hh⟩
theorem mem_getD {l : List En} {e : En} (h : e ∈ l) : ∃ i, i < l.length ∧ l.getD i d0 = e := by
  obtain ⟨i, hi, rfl⟩ := List.getElem_of_mem h
  exact ⟨i, hi, getD_at d0 hi⟩
structure FindP (l : List En) (key : List Int) : Prop where
  le : (findS l key).1 ≤ l.length
  lo : ∀ q, q < (findS l key).1 → lessS (l.getD q d0).1 key = true
  hi : ∀ q, (findS l key).1 ≤ q → q < l.length → lessS (l.getD q d0).1 key = false
  yes : (findS l key).2 = true → (findS l key).1 < l.length ∧ (l.getD (findS l key).1 d0).1 = key
  no : (findS l key).2 = false → ∀ e ∈ l, e.1 ≠ key
theorem findP {l : List En} {key : List Int} (hk : KeysOk l) (hs : Srt l) (hkey : KOk key) : FindP l key := by
  have hb := bsL_spec l key hs 0 l.length (Nat.zero_le _) (Nat.le_refl _) (fun q h => by omega) (fun q h h' => by omega)
  have hle := findS_le l key
  have e2 : (findS l key).2 = (decide ((bsL l key 0 l.length : Int) < l.length) && (cmpK (l.getD (bsL l key 0 l.length) d0) key == 0)) := rfl
  have e1 : (findS l key).1 = bsL l key 0 l.length := rfl
  refine ⟨hle, hb.1, hb.2, fun h => ?_, fun h e he => ?_⟩
  · rw [e2, Bool.and_eq_true, decide_eq_true_eq, beq_iff_eq, cmpK_eq] at h
    rw [e1]
    refine ⟨by omega, ?_⟩
    exact lessS_tri (hk.ok _).key hkey h.2.1 h.2.2
  · intro heq
    obtain ⟨i, hi, rfl⟩ := mem_getD he
    have h1 : ¬ i < bsL l key 0 l.length := fun hc => by
      have := hb.1 i hc
      rw [heq, lessS_irrefl] at this
      cases this
    have h2 : i = bsL l key 0 l.length := by
      by_cases hc : i = bsL l key 0 l.length
      · exact hc
      · have h3 := hb.2 (bsL l key 0 l.length) (Nat.le_refl _) (by omega)
        have h4 := hs.at_ (show bsL l key 0 l.length < i by omega) hi
        rw [heq, h3] at h4
        cases h4
    rw [e2, ← h2, decide_eq_true (by omega), Bool.true_and, beq_eq_false_iff_ne] at h
    exact h (cmpK_eq.2 ⟨by rw [heq, lessS_irrefl], by rw [heq, lessS_irrefl]⟩)
theorem mem_insL {l : List En} {i : Nat} {e x : En} : x ∈ insL l i e ↔ x = e ∨ x ∈ l := by
  have h : x ∈ l ↔ x ∈ l.take i ∨ x ∈ l.drop i := by
    rw [← List.mem_append, List.take_append_drop]
  rw [insL, List.mem_append, List.mem_cons, h]
  constructor
  · rintro (h | h | h)
    · exact .inr (.inl h)
    · exact .inl h
    · exact .inr (.inr h)
  · rintro (h | h | h)
    · exact .inr (.inl h)
    · exact .inl h
    · exact .inr (.inr h)
theorem mem_take_getD {l : List En} {r : Nat} {x : En} (h : x ∈ l.take r) : ∃ q, q < r ∧ q < l.length ∧ l.getD q d0 = x := by
  obtain ⟨q, hq, rfl⟩ := List.getElem_of_mem h
  rw [List.length_take] at hq
  refine ⟨q, by omega, by omega, ?_⟩
  rw [getD_at d0 (by omega), List.getElem_take]
theorem mem_drop_getD {l : List En} {r : Nat} {x : En} (h : x ∈ l.drop r) : ∃ q, r ≤ q ∧ q < l.length ∧ l.getD q d0 = x := by
  obtain ⟨q, hq, rfl⟩ := List.getElem_of_mem h
  rw [List.length_drop] at hq
  refine ⟨r + q, by omega, by omega, ?_⟩
  rw [getD_at d0 (by omega), List.getElem_drop]
theorem srt_insL {l : List En} {e : En} (hk : KeysOk l) (hs : Srt l) (he : EOk e) (hno : (findS l e.1).2 = false) : Srt (insL l (findS l e.1).1 e) := by
  have hf := findP hk hs he.key
  have hlo : ∀ x ∈ l.take (findS l e.1).1, Lt x e := fun x hx => by
    obtain ⟨q, h1, h2, rfl⟩ := mem_take_getD hx
    exact hf.lo q h1
  have hhi : ∀ y ∈ l.drop (findS l e.1).1, Lt e y := fun y hy => by
    obtain ⟨q, h1, h2, rfl⟩ := mem_drop_getD hy
    have h3 := hf.hi q h1 h2
    cases hx : lessS e.1 (l.getD q d0).1 with
    | true => exact hx
    | false => exact absurd (lessS_tri (hk.ok q).key he.key h3 hx) (hf.no hno _ (getD_mem h2))
  rw [Srt, insL, List.pairwise_append, List.pairwise_cons]
  refine ⟨hs.sublist (List.take_sublist _ _), ⟨hhi, hs.sublist (List.drop_sublist _ _)⟩, fun x hx y hy => ?_⟩
  rcases List.mem_cons.1 hy with rfl | hy
  · exact hlo x hx
  · exact lessS_trans (hlo x hx) (hhi y hy)
theorem srt_ext : ∀ {a b : List En}, Srt a → Srt b → (∀ x, x ∈ a ↔ x ∈ b) → a = b
  | [], [], _, _, _ => rfl
  | [], y :: b, _, _, h => by have := (h y).2 (by simp); cases this
  | x :: a, [], _, _, h => by have := (h x).1 (by simp); cases this
  | x :: a, y :: b, ha, hb, h => by
    obtain ⟨ha1, ha2⟩ := List.pairwise_cons.1 ha
    obtain ⟨hb1, hb2⟩ := List.pairwise_cons.1 hb
    have hxy : x = y := by
      rcases List.mem_cons.1 ((h x).1 (by simp)) with h1 | h1
      · exact h1
      · rcases List.mem_cons.1 ((h y).2 (by simp)) with h2 | h2
        · exact h2.symm
        · have h3 := hb1 x h1
          have h4 := ha1 y h2
          have := lessS_anti h3
          rw [show lessS x.1 y.1 = true from h4] at this
          cases this
    subst hxy
    rw [srt_ext ha2 hb2 fun z => ?_]
    constructor
    · intro hz
      rcases List.mem_cons.1 ((h z).1 (by simp [hz])) with rfl | h1
      · have := ha1 z hz
        rw [Lt, lessS_irrefl] at this
        cases this
      · exact h1
    · intro hz
      rcases List.mem_cons.1 ((h z).2 (by simp [hz])) with rfl | h1
      · have := hb1 z hz
        rw [Lt, lessS_irrefl] at this
        cases this
      · exact h1
theorem sameS_key : ∀ (l : List En) (e : En), (sameS l e).1 = e.1
  | [], e => rfl
  | x :: r, e => by
    rw [sameS]
    split
    · rename_i h; exact eq_of_beq h
    · exact sameS_key r e
theorem sameS_congr : ∀ {l : List En} {e e' : En}, e ∈ l → e' ∈ l → e.1 = e'.1 → sameS l e = sameS l e'
  | [], _, _, h, _, _ => nomatch h
  | x :: r, e, e', h, h', hk => by
    rw [sameS, sameS, hk]
    split
    · rfl
    · rename_i hx
      have h1 : e ∈ r := by
        rcases List.mem_cons.1 h with rfl | h
        · rw [hk] at hx; simp at hx
        · exact h
      have h2 : e' ∈ r := by
        rcases List.mem_cons.1 h' with rfl | h'
        · simp at hx
        · exact h'
      exact sameS_congr h1 h2 hk
theorem sameS_mem : ∀ {l : List En} {e : En}, e ∈ l → sameS l e ∈ l
  | [], _, h => nomatch h
  | x :: r, e, h => by
    rw [sameS]
    split
    · simp
    · rename_i hx
      rcases List.mem_cons.1 h with rfl | h
      · simp at hx
      · exact List.mem_cons_of_mem _ (sameS_mem h)
/-- a is what comes of the entries S of l, laid in one by one. -/
structure Coll (l S a : List En) : Prop where
  srt : Srt a
  mem : ∀ x, x ∈ a ↔ ∃ e ∈ S, x = sameS l e
  len : a.length ≤ S.length
theorem Coll.nil (l : List En) : Coll l [] [] := ⟨List.Pairwise.nil, fun x => by simp, Nat.le_refl _⟩
theorem Coll.ok {l S a : List En} (h : Coll l S a) (hk : KeysOk l) (hS : ∀ e ∈ S, e ∈ l) : KeysOk a := fun x hx => by
  obtain ⟨e, he, rfl⟩ := (h.mem x).1 hx
  exact hk _ (sameS_mem (hS e he))
theorem Coll.step {l S a : List En} (h : Coll l S a) (hk : KeysOk l) (hS : ∀ e ∈ S, e ∈ l) {e : En} (he : e ∈ l) :
    ((insertS a (sameS l e)).2 = 0 ∧ Coll l (S ++ [e]) (insertS a (sameS l e)).1) ∨ ((insertS a (sameS l e)).2 = 1 ∧ Coll l (S ++ [e]) a) := by
  have hka := h.ok hk hS
  have heo := hk _ (sameS_mem he)
  have hf := findP hka h.srt heo.key
  rw [insertS]
  cases hx : (findS a (sameS l e).1).2 with
  | true =>
    right
    refine ⟨rfl, h.srt, fun x => ?_, Nat.le_trans h.len (by simp)⟩
    obtain ⟨h1, h2⟩ := hf.yes hx
    obtain ⟨e', he', h3⟩ := (h.mem _).1 (getD_mem (d := d0) h1)
    have h4 : e'.1 = e.1 := by
      rw [h3, sameS_key, sameS_key] at h2
      exact h2
    rw [h.mem]
    constructor
    · rintro ⟨q, hq, rfl⟩; exact ⟨q, by simp [hq], rfl⟩
    · rintro ⟨q, hq, rfl⟩
      rcases List.mem_append.1 hq with hq | hq
      · exact ⟨q, hq, rfl⟩
      · simp only [List.mem_singleton] at hq
        subst hq
        exact ⟨e', he', sameS_congr he (hS e' he') h4.symm⟩
  | false =>
    left
    refine ⟨rfl, srt_insL hka h.srt heo hx, fun x => ?_, ?_⟩
    · show x ∈ insL a _ _ ↔ _
      rw [mem_insL, h.mem]
      constructor
      · rintro (rfl | ⟨q, hq, rfl⟩)
        · exact ⟨e, by simp, rfl⟩
        · exact ⟨q, by simp [hq], rfl⟩
      · rintro ⟨q, hq, rfl⟩
        rcases List.mem_append.1 hq with hq | hq
        · exact .inr ⟨q, hq, rfl⟩
        · simp only [List.mem_singleton] at hq
          subst hq
          exact .inl rfl
    · show (insL a _ _).length ≤ _
      rw [insL_len hf.le]
      have := h.len
      simp
      omega
theorem Coll.eq {l S T a b : List En} (h : Coll l S a) (h' : Coll l T b) (hST : ∀ e, e ∈ S ↔ e ∈ T) : a = b :=
  srt_ext h.srt h'.srt fun x => by rw [h.mem, h'.mem]; exact ⟨fun ⟨e, he, hx⟩ => ⟨e, (hST e).1 he, hx⟩, fun ⟨e, he, hx⟩ => ⟨e, (hST e).2 he, hx⟩⟩
/-- Each entry is found. -/
theorem Coll.find {l S a : List En} (h : Coll l S a) (hk : KeysOk l) (hS : ∀ e ∈ S, e ∈ l) {e : En} (he : e ∈ S) : (findS a e.1).2 = true ∧ (findS a e.1).1 < a.length ∧ (a.getD (findS a e.1).1 d0).1 = e.1 := by
  have hf := findP (h.ok hk hS) h.srt (hk e (hS e he)).key
  have hx : (findS a e.1).2 = true := by
    cases hx : (findS a e.1).2 with
    | true => rfl
    | false => exact absurd (sameS_key l e) (hf.no hx _ ((h.mem _).2 ⟨e, he, rfl⟩))
  exact ⟨hx, hf.yes hx⟩
end Go.Proofs.Ytpoecjeknolnoaa
