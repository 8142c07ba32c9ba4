/- Plain laws, no program in sight, for the statements of this seat. Conditions: those that each theorem names. -/
import Derived.Test.YtpoecjeknolnoaaP2
namespace Go.Proofs.Ytpoecjeknolnoaa
open Go.RowKit Go.Proofs.HL Go.Lib
set_option linter.unusedSimpArgs false
set_option linter.unusedVariables false
/-! ### One place, or one number of blocks, set anew -/
def setP (l : List En) (i : Nat) (p : Int) : List En := l.set i ((l.getD i d0).1, p, (l.getD i d0).2.2)
def setB (l : List En) (i : Nat) (b : Int) : List En := l.set i ((l.getD i d0).1, (l.getD i d0).2.1, b, (l.getD i d0).2.2.2)
theorem encE_set32 {e : En} (h : e.1.length = 32) (p : Int) : (encE e).set 32 (.int .i64 p) = encE (e.1, p, e.2.2) := by
  rw [encE, List.set_append_right _ _ (by rw [u8s_len, h]; decide), u8s_len, h]; rfl
theorem encE_set33 {e : En} (h : e.1.length = 32) (b : Int) : (encE e).set 33 (.int .i64 b) = encE (e.1, e.2.1, b, e.2.2.2) := by
  rw [encE, List.set_append_right _ _ (by rw [u8s_len, h]; decide), u8s_len, h]; rfl
theorem encEs_set {q : Nat} {v : Value} {F : En → En} (hq : q < 35) (hF : ∀ e : En, e.1.length = 32 → (encE e).set q v = encE (F e)) : ∀ {l : List En} {i : Nat}, KeysOk l → i < l.length → (encEs l).set (i * 35 + q) v = encEs (l.set i (F (l.getD i d0)))
  | [], i, _, h => by simp at h
  | e :: l, 0, hk, _ => by
    have h32 := (hk e (by simp)).1
    have := encE_len h32
    simp only [encEs, List.flatMap_cons, List.set_cons_zero, List.getD_cons_zero, Nat.zero_mul, Nat.zero_add]
    rw [List.set_append_left _ _ (by omega), hF e h32]
  | e :: l, i + 1, hk, h => by
    have h32 := (hk e (by simp)).1
    have hl := encE_len h32
    have ih := encEs_set (v := v) hq hF (l := l) (i := i) (fun x hx => hk x (by simp [hx])) (by simpa using h)
    simp only [encEs, List.flatMap_cons, List.set_cons_succ, List.getD_cons_succ] at ih ⊢
    rw [List.set_append_right _ _ (by omega), show (i + 1) * 35 + q - (encE e).length = i * 35 + q by omega, ih]
theorem encEs_setP {l : List En} {i : Nat} (hk : KeysOk l) (hi : i < l.length) (p : Int) : (encEs l).set (i * 35 + 32) (.int .i64 p) = encEs (setP l i p) :=
  encEs_set (F := fun e => (e.1, p, e.2.2)) (by decide) (fun e h => encE_set32 h p) hk hi
theorem encEs_setB {l : List En} {i : Nat} (hk : KeysOk l) (hi : i < l.length) (b : Int) : (encEs l).set (i * 35 + 33) (.int .i64 b) = encEs (setB l i b) :=
  encEs_set (F := fun e => (e.1, e.2.1, b, e.2.2.2)) (by decide) (fun e h => encE_set33 h b) hk hi
theorem setP_len (l : List En) (i : Nat) (p : Int) : (setP l i p).length = l.length := by simp [setP]
theorem setB_len (l : List En) (i : Nat) (p : Int) : (setB l i p).length = l.length := by simp [setB]
theorem setP_ok {l : List En} (hk : KeysOk l) {i : Nat} {p : Int} (hp : R64 p) : KeysOk (setP l i p) := fun e he => by
  rcases List.mem_or_eq_of_mem_set he with h | rfl
  · exact hk e h
  · have := hk.ok i
    exact ⟨this.1, this.2.1, hp, this.2.2.2.1, this.2.2.2.2⟩
theorem setB_ok {l : List En} (hk : KeysOk l) {i : Nat} {p : Int} (hp : R64 p) : KeysOk (setB l i p) := fun e he => by
  rcases List.mem_or_eq_of_mem_set he with h | rfl
  · exact hk e h
  · have := hk.ok i
    exact ⟨this.1, this.2.1, this.2.2.1, hp, this.2.2.2.2⟩
theorem set_getD {l : List En} {i j : Nat} {x : En} (hi : i < l.length) : (l.set i x).getD j d0 = if j = i then x else l.getD j d0 := by
  by_cases h : j = i
  · subst h
    rw [if_pos rfl, List.getD_eq_getElem?_getD, List.getElem?_set_self hi]; rfl
  · rw [if_neg h, List.getD_eq_getElem?_getD, List.getElem?_set_ne (Ne.symm h), ← List.getD_eq_getElem?_getD]
theorem setP_getD {l : List En} {i j : Nat} {p : Int} (hi : i < l.length) : (setP l i p).getD j d0 = if j = i then ((l.getD j d0).1, p, (l.getD j d0).2.2) else l.getD j d0 := by
  rw [setP, set_getD hi]
  by_cases h : j = i
  · subst h; rfl
  · rw [if_neg h, if_neg h]
theorem setB_getD {l : List En} {i j : Nat} {p : Int} (hi : i < l.length) : (setB l i p).getD j d0 = if j = i then ((l.getD j d0).1, (l.getD j d0).2.1, p, (l.getD j d0).2.2.2) else l.getD j d0 := by
  rw [setB, set_getD hi]
  by_cases h : j = i
  · subst h; rfl
  · rw [if_neg h, if_neg h]
/-- Two entries' blocks, exchanged. -/
def swS (l : List En) (a b : Nat) : List En :=
  setB (setB (setP (setP l a (l.getD b d0).2.1) b (l.getD a d0).2.1) a (l.getD b d0).2.2.1) b (l.getD a d0).2.2.1
def sg (a b i : Nat) : Nat := if i = a then b else if i = b then a else i
theorem swS_len (l : List En) (a b : Nat) : (swS l a b).length = l.length := by simp only [swS, setP_len, setB_len]
theorem swS_getD {l : List En} {a b : Nat} (ha : a < l.length) (hb : b < l.length) (j : Nat) : (swS l a b).getD j d0 = ((l.getD j d0).1, (l.getD (sg a b j) d0).2.1, (l.getD (sg a b j) d0).2.2.1, (l.getD j d0).2.2.2) := by
  rw [swS, setB_getD (by simp only [setP_len, setB_len]; exact hb), setB_getD (by simp only [setP_len, setB_len]; exact ha), setP_getD (by simp only [setP_len, setB_len]; exact hb), setP_getD ha, sg]
  by_cases h1 : j = a
  · subst h1
    by_cases h2 : j = b
    · subst h2; simp
    · simp [h2]
  · by_cases h2 : j = b
    · subst h2; simp [h1]
    · simp [h1, h2]
theorem swS_ok {l : List En} (hk : KeysOk l) (a b : Nat) : KeysOk (swS l a b) :=
  setB_ok (setB_ok (setP_ok (setP_ok hk (hk.ok b).2.2.1) (hk.ok a).2.2.1) (hk.ok b).2.2.2.1) (hk.ok a).2.2.2.1
theorem ov_symm (x y : En) : ov x y = ov y x := by rw [ov, ov, Bool.and_comm]
theorem GoodP.ne {l : List En} (h : GoodP l) {i j : Nat} (hi : i < l.length) (hj : j < l.length) (hij : i ≠ j) : ov (l.getD i d0) (l.getD j d0) = false := by
  have hp := List.pairwise_iff_getElem.1 h.apart
  rcases Nat.lt_or_gt_of_ne hij with hlt | hlt
  · rw [getD_at d0 hi, getD_at d0 hj]; exact hp i j hi hj hlt
  · rw [ov_symm, getD_at d0 hi, getD_at d0 hj]; exact hp j i hj hi hlt
theorem goodP_of {l : List En} (h1 : ∀ i, i < l.length → oneS (l.getD i d0) = true) (h2 : ∀ i j, i < j → j < l.length → lessS (l.getD i d0).1 (l.getD j d0).1 = true) (h3 : ∀ i j, i < j → j < l.length → ov (l.getD i d0) (l.getD j d0) = false) : GoodP l := by
  refine ⟨fun e he => ?_, List.pairwise_iff_getElem.2 fun i j hi hj hij => ?_, List.pairwise_iff_getElem.2 fun i j hi hj hij => ?_⟩
  · obtain ⟨i, hi, rfl⟩ := mem_getD he; exact h1 i hi
  · have := h2 i j hij hj
    rw [getD_at d0 hi, getD_at d0 hj] at this
    exact this
  · have := h3 i j hij hj
    rw [getD_at d0 hi, getD_at d0 hj] at this
    exact this
theorem sg_lt {a b i n : Nat} (ha : a < n) (hb : b < n) (hi : i < n) : sg a b i < n := by
  unfold sg; split
  · exact hb
  · split
    · exact ha
    · exact hi
theorem sg_ne {a b i j : Nat} (h : i ≠ j) : sg a b i ≠ sg a b j := by
  unfold sg; split <;> split <;> (try split) <;> (try split) <;> omega
theorem oneS_mix {x y : En} (hx : oneS x = true) (hy : oneS y = true) : oneS (x.1, y.2.1, y.2.2.1, x.2.2.2) = true := by
  have h1 := oneS_spec hx
  have h2 := oneS_spec hy
  simp [oneS]; omega
theorem sw_good {l : List En} (h : GoodP l) {a b : Nat} (ha : a < l.length) (hb : b < l.length) : GoodP (swS l a b) := by
  refine goodP_of (fun i hi => ?_) (fun i j hij hj => ?_) (fun i j hij hj => ?_)
  · rw [swS_len] at hi
    rw [swS_getD ha hb]
    exact oneS_mix (h.one _ (getD_mem hi)) (h.one _ (getD_mem (sg_lt ha hb hi)))
  · rw [swS_len] at hj
    rw [swS_getD ha hb, swS_getD ha hb]
    exact h.srt.at_ hij hj
  · rw [swS_len] at hj
    rw [swS_getD ha hb, swS_getD ha hb]
    exact h.ne (sg_lt ha hb (by omega)) (sg_lt ha hb hj) (sg_ne (by omega))
/-- .. and then one moved over the other. -/
def mvS (l : List En) (a b : Nat) : List En := setP (swS l a b) a ((swS l a b).getD b d0).2.1
theorem mvS_ok {l : List En} (hk : KeysOk l) (a b : Nat) : KeysOk (mvS l a b) := setP_ok (swS_ok hk a b) ((swS_ok hk a b).ok b).2.2.1
theorem mvS_len (l : List En) (a b : Nat) : (mvS l a b).length = l.length := by rw [mvS, setP_len, swS_len]
theorem mv_good {l : List En} (h : GoodP l) {a b : Nat} (ha : a < l.length) (hb : b < l.length) : goodI (mvS l a b) = decide (a = b) := by
  have hs := sw_good h ha hb
  by_cases hab : a = b
  · subst hab
    rw [decide_eq_true rfl, goodI_iff]
    have : mvS l a a = swS l a a := by
      rw [mvS, setP]
      apply List.ext_getElem?
      intro i
      rw [List.getElem?_set]
      split
      · rename_i hi
        subst hi
        rw [if_pos (by rw [swS_len]; exact ha), List.getElem?_eq_getElem (by rw [swS_len]; exact ha), ← getD_at d0 (by rw [swS_len]; exact ha)]
      · rfl
    rw [this]; exact hs
  · rw [decide_eq_false hab, ← Bool.not_eq_true, goodI_iff]
    intro hm
    have h1 := hm.ne (i := a) (j := b) (by rw [mvS_len]; exact ha) (by rw [mvS_len]; exact hb) hab
    have h2 := oneS_spec (hm.one _ (getD_mem (i := a) (d := d0) (by rw [mvS_len]; exact ha)))
    have h3 := oneS_spec (hm.one _ (getD_mem (i := b) (d := d0) (by rw [mvS_len]; exact hb)))
    have e1 : ((mvS l a b).getD a d0).2.1 = ((mvS l a b).getD b d0).2.1 := by
      rw [mvS, setP_getD (by rw [swS_len]; exact ha), setP_getD (by rw [swS_len]; exact ha), if_pos rfl, if_neg (Ne.symm hab)]
    simp only [ov, Bool.and_eq_false_iff, decide_eq_false_iff_not] at h1
    omega
end Go.Proofs.Ytpoecjeknolnoaa
