/- The statement 'IndexOrderSaid' is proved: entries laid in one by one, in whatever order, come to the same. No condition. -/
import Derived.Test.YtpoecjeknolnoaaA25
namespace Go.Proofs.Ytpoecjeknolnoaa
open Go.RowKit Go.Proofs.HL Go.Proofs.Try Go.ChangeShapes Go.WideShapes
set_option linter.unusedSimpArgs false
set_option linter.unusedVariables false
set_option maxRecDepth 10000
set_option maxRecDepth 100000 in
theorem order_lifted (os : Os) (started : os.Started) (H : Type) (enc : TypeId × Value → H) :
    ReturnsInHanded {} checked os 5 .any (Rows.indexOrderSpec.pre6 enc prog f5 Rows.indexOrderRow.domain false) (Rows.indexOrderSpec.post enc prog f5 false true false false) := by
  refine returnsInHanded_of_change (C := checked) own_knob started (by kernel_rfl) func5
    (ChangeSpec.witness6 (enc := enc) (C := checked) false ⟨#[], #[.slice none 0 0, .slice none 0 0], []⟩ 8 (by kernel_rfl) (by kernel_rfl) (by kernel_rfl) (by kernel_rfl)) ?_
  intro W base args ds gs before hval0 hW hcnd _
  have hval : ∀ (j : Nat) t v, f5.params[j]? = some t → args[j]? = some v → Value.okWide prog W .any base t v := hval0
  have hW' := hW
  obtain ⟨p, q, hA0, hV, rfl, hfz, hnd⟩ := hW
  have hA : DataW.TrodAll enc prog W 0 (fun _ => true) true f5.params.toList args.toList ds p := hA0
  rw [params5] at hA hval
  obtain ⟨v0, v1, d0, d1, p0, p1, rfl, rfl, rfl, h0, h1⟩ := trodAll_two hA
  obtain ⟨rfl, rfl⟩ := trodVars_none hV
  obtain ⟨l, hk, hs⟩ := open_entries (hval 0 22 v0 rfl rfl) h0
  obtain ⟨ts, hts, hu1⟩ := open_bytes (hval 1 45 v1 rfl rfl) h1
  refine (order_c v0 v1 l ts hk hts W hs hu1).mono fun e W' ⟨u, he, hkept, hu⟩ => ?_
  subst he; subst hu
  exact ⟨_, rfl, post_law laid_out (by kernel_rfl) hW' hkept rfl underlying4 rfl rfl rfl rfl⟩
theorem order_holds : Rows.IndexOrderSaid :=
  OpenClaim.holds_of_wide 5 f5 rfl rfl rfl rfl rfl rfl rfl ⟨rfl, rfl, rfl, rfl, rfl⟩ rfl rfl rfl rfl rfl (by kernel_rfl) func5 (by kernel_rfl)
    (of_decide_eq_true (by kernel_rfl)) (by unfold Func.isWrapper; first | (rw [if_pos (by decide +kernel)]; kernel_rfl) | (rw [if_neg (by decide +kernel)]; exact ⟨rfl, rfl⟩))
    (fun os started H enc _ => order_lifted os started H enc)
end Go.Proofs.Ytpoecjeknolnoaa
