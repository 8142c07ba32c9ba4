/- The statement 'IndexTellsSaid' is proved: the index's functions answer as the document's do. No condition. -/
import Derived.Test.YtpoecjeknolnoaaA25
import Derived.Test.YtpoecjeknolnoaaA35
namespace Go.Proofs.Ytpoecjeknolnoaa
open Go.RowKit Go.Proofs.HL Go.Proofs.Try Go.ChangeShapes Go.WideShapes
set_option linter.unusedSimpArgs false
set_option linter.unusedVariables false
set_option maxRecDepth 10000
set_option maxRecDepth 100000 in
theorem tells_lifted (os : Os) (started : os.Started) (H : Type) (enc : TypeId × Value → H) :
    ReturnsInHanded {} checked os 3 .any (Rows.indexTellsSpec.pre6 enc prog f3 Rows.indexTellsRow.domain false) (Rows.indexTellsSpec.post enc prog f3 false true false false) := by
  refine returnsInHanded_of_change (C := checked) own_knob started (by kernel_rfl) func3
    (ChangeSpec.witness6 (enc := enc) (C := checked) false ⟨#[], #[.slice none 0 0, .slice none 0 0, .slice none 0 0], []⟩ 8 (by kernel_rfl) (by kernel_rfl) (by kernel_rfl) (by kernel_rfl)) ?_
  intro W base args ds gs before hval0 hW hcnd _
  have hval : ∀ (j : Nat) t v, f3.params[j]? = some t → args[j]? = some v → Value.okWide prog W .any base t v := hval0
  have hW' := hW
  obtain ⟨p, q, hA0, hV, rfl, hfz, hnd⟩ := hW
  have hA : DataW.TrodAll enc prog W 0 (fun _ => true) true f3.params.toList args.toList ds p := hA0
  rw [params3] at hA hval
  obtain ⟨v0, v1, v2, d0, d1, d2, p0, p1, p2, rfl, rfl, rfl, h0, h1, h2⟩ := trodAll_three hA
  obtain ⟨rfl, rfl⟩ := trodVars_none hV
  obtain ⟨l, hk, hs⟩ := open_entries (hval 0 22 v0 rfl rfl) h0
  obtain ⟨ps, hps, hs1⟩ := open_ints (hval 1 23 v1 rfl rfl) h1
  obtain ⟨bs, hbs, hs2⟩ := open_blocks (hval 2 24 v2 rfl rfl) h2
  refine (tells_c v0 v1 v2 l ps bs hk hps hbs W hs hs1 hs2).mono fun e W' ⟨u, he, hkept, hu⟩ => ?_
  subst he; subst hu
  exact ⟨_, rfl, post_law laid_out (by kernel_rfl) hW' hkept rfl underlying4 rfl rfl rfl rfl⟩
theorem tells_holds : Rows.IndexTellsSaid :=
  OpenClaim.holds_of_wide 3 f3 rfl rfl rfl rfl rfl rfl rfl ⟨rfl, rfl, rfl, rfl, rfl⟩ rfl rfl rfl rfl rfl (by kernel_rfl) func3 (by kernel_rfl)
    (of_decide_eq_true (by kernel_rfl)) (by unfold Func.isWrapper; first | (rw [if_pos (by decide +kernel)]; kernel_rfl) | (rw [if_neg (by decide +kernel)]; exact ⟨rfl, rfl⟩))
    (fun os started H enc _ => tells_lifted os started H enc)
end Go.Proofs.Ytpoecjeknolnoaa
