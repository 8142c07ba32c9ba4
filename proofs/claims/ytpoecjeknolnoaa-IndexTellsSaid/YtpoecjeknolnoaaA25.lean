/- Walks of functions that the statements of this seat reach: what each one hands back. Conditions: those that each theorem names. -/
import Derived.Test.YtpoecjeknolnoaaA24
import Derived.Test.YtpoecjeknolnoaaH11
import Derived.Test.YtpoecjeknolnoaaRows
namespace Go.Proofs.Ytpoecjeknolnoaa
open Go.RowKit Go.Proofs.HL Go.Proofs.Try Go.ChangeShapes Go.WideShapes
set_option linter.unusedSimpArgs false
set_option linter.unusedVariables false
set_option maxRecDepth 10000
theorem own_knob : ownKnob prog.godebug = none := by kernel_rfl
theorem laid_out : laidOutB prog = true := by kernel_rfl
theorem cells3 : prog.cellsOf 3 = 1 := by kernel_rfl
theorem cells5 : prog.cellsOf 5 = 1 := by kernel_rfl
theorem cells41 : prog.cellsOf 41 = 2 := by kernel_rfl
theorem cells43 : prog.cellsOf 43 = 128 := by kernel_rfl
theorem cells47 : prog.cellsOf 47 = 32 := by kernel_rfl
theorem cells49 : prog.cellsOf 49 = 35 := by kernel_rfl
section
variable {H : Type} {enc : TypeId × Value → H} {W : World}
theorem drop_take_one {l : List Value} {i : Nat} {u : Value} (h : (l.drop i).take 1 = [u]) : l[i]? = some u := by
  have : ((l.drop i).take 1)[0]? = some u := by rw [h]; rfl
  rw [List.getElem?_take, if_pos (by decide), List.getElem?_drop] at this
  simpa using this
/-- An entry, read. -/
theorem trod_entry (n : Nat) (cs : List Value) (x : DataW H × List MemPlace) (hl : cs.length = 35) (h : DataW.trod enc prog W 0 (fun _ => true) true n 49 cs = some x) : ∃ e : En, EOk e ∧ cs = encE e := by
  obtain ⟨xs, m, _, _, _, hxl, hf⟩ := DataW.trod_struct underlying49 h
  have hx4 : xs.length = 4 := hxl
  have f0 := hf 0 _ rfl
  have f1 := hf 1 _ rfl
  have f2 := hf 2 _ rfl
  have f3 := hf 3 _ rfl
  rw [List.getElem?_eq_getElem (by omega)] at f0 f1 f2 f3
  obtain ⟨key, hk1, hk2, hk3⟩ := trod_nums underlying47 underlying5 cells5 cells47 f0
  obtain ⟨p, hp1, _, hp2⟩ := DataW.trod_int underlying3 f1
  obtain ⟨b, hb1, _, hb2⟩ := DataW.trod_int underlying3 f2
  obtain ⟨r, hr1, _, hr2⟩ := DataW.trod_int underlying3 f3
  have hk2' : (cs.drop 0).take 32 = u8s key := by rw [← cells47]; exact hk2
  have hp1' : (cs.drop 32).take 1 = [.int .i64 p] := by rw [← cells3]; exact hp1
  have hb1' : (cs.drop 33).take 1 = [.int .i64 b] := by rw [← cells3]; exact hb1
  have hr1' : (cs.drop 34).take 1 = [.int .i64 r] := by rw [← cells3]; exact hr1
  have g32 := drop_take_one hp1'
  have g33 := drop_take_one hb1'
  have g34 := drop_take_one hr1'
  refine ⟨(key, p, b, r), ⟨hk1, fun y hy => by have := bounds_u8 (hk3 y hy); omega, bounds_i64 hp2, bounds_i64 hb2, bounds_i64 hr2⟩, ?_⟩
  have e1 : cs = cs.take 32 ++ cs.drop 32 := (List.take_append_drop 32 cs).symm
  rw [List.drop_zero] at hk2'
  have e2 : cs.drop 32 = [.int .i64 p, .int .i64 b, .int .i64 r] := by
    apply List.ext_getElem?
    intro i
    rw [List.getElem?_drop]
    match i with
    | 0 => exact g32
    | 1 => exact g33
    | 2 => exact g34
    | i + 3 => rw [List.getElem?_eq_none (by omega)]; rfl
  rw [e1, hk2', e2]
  rfl
theorem open_entries {v : Value} {d : DataW H} {p : List MemPlace} {b0 : Nat} (hv : Value.okWide prog W .any b0 22 v) (h : DataW.Trod enc prog W 0 (fun _ => true) true 22 v d p) : ∃ l : List En, KeysOk l ∧ Sl W v 35 l.length (encEs l) :=
  open_sl EOk encE underlying22 cells49 (by decide) (fun e he => encE_len he.1) trod_entry hv h
theorem open_ints {v : Value} {d : DataW H} {p : List MemPlace} {b0 : Nat} (hv : Value.okWide prog W .any b0 23 v) (h : DataW.Trod enc prog W 0 (fun _ => true) true 23 v d p) : ∃ l : List Int, (∀ x ∈ l, R64 x) ∧ Sl W v 1 l.length (i64s l) := by
  obtain ⟨l, h1, h2⟩ := open_nums underlying23 underlying3 cells3 hv h
  exact ⟨l, fun x hx => bounds_i64 (h1 x hx), h2⟩
theorem open_bytes {v : Value} {d : DataW H} {p : List MemPlace} {b0 : Nat} (hv : Value.okWide prog W .any b0 45 v) (h : DataW.Trod enc prog W 0 (fun _ => true) true 45 v d p) : ∃ l : List Int, (∀ x ∈ l, 0 ≤ x ∧ x < 256) ∧ Sl W v 1 l.length (u8s l) := by
  obtain ⟨l, h1, h2⟩ := open_nums underlying45 underlying5 cells5 hv h
  exact ⟨l, fun x hx => by have := bounds_u8 (h1 x hx); omega, h2⟩
theorem open_pair {v : Value} {d : DataW H} {p : List MemPlace} {b0 : Nat} (hv : Value.okWide prog W .any b0 41 v) (h : DataW.Trod enc prog W 0 (fun _ => true) true 41 v d p) : ∃ x y : Int, (0 ≤ x ∧ x < 256) ∧ (0 ≤ y ∧ y < 256) ∧ v = .agg (u8s [x, y]).toArray := by
  obtain ⟨l, h1, rfl, h3⟩ := open_arrNums underlying41 underlying5 cells5 cells41 hv h
  match l, h1 with
  | [x, y], _ =>
    have hx := bounds_u8 (h3 x (by simp))
    have hy := bounds_u8 (h3 y (by simp))
    exact ⟨x, y, by omega, by omega, rfl⟩
theorem open_blocks {v : Value} {d : DataW H} {p : List MemPlace} {b0 : Nat} (hv : Value.okWide prog W .any b0 24 v) (h : DataW.Trod enc prog W 0 (fun _ => true) true 24 v d p) : ∃ l : List (List Int), BsOk l ∧ Sl W v 128 l.length (encBs l) :=
  open_sl BOk u8s underlying24 cells43 (by decide) (fun b hb => by rw [u8s_len]; exact hb.1) (fun n cs x _ hx => by
    obtain ⟨l, h1, h2, h3⟩ := trod_nums underlying43 underlying5 cells5 cells43 hx
    exact ⟨l, ⟨h1, fun y hy => by have := bounds_u8 (h3 y hy); omega⟩, h2⟩) hv h
end
end Go.Proofs.Ytpoecjeknolnoaa
