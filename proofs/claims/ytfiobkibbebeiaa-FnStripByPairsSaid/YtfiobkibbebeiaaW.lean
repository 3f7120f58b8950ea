/- The law FnStripByPairs returns true for every input and leaves it as it was. Conditions: none. -/
import Derived.Test.YtfiobkibbebeiaaX
import Derived.Test.YtfiobkibbebeiaaRows

set_option linter.unusedVariables false
set_option linter.unusedSimpArgs false
namespace Go.Proofs.Ytfiobkibbebeiaa
open Go Go.Mv Go.ChangeShapes Go.WideShapes Go.ChangeAt Go.RowKit
theorem Try.own : ownKnob Try.prog.godebug = none := by kernel_rfl
theorem Try.laidOut : laidOutB Try.prog = true := by kernel_rfl
theorem c3k {xs : List Int} (h : ∀ x ∈ xs, (Lit.int .u8 x).wf = true) : a4o xs := by
  intro x hx
  have := h x hx
  simp [Lit.wf, IntKind.min, IntKind.max, IntKind.signed, IntKind.bits] at this
  omega
set_option maxRecDepth 100000 in
theorem fnStripByPairs_lifted (os : Os) (started : os.Started) (H : Type) (enc : TypeId × Value → H) :
    ReturnsInHanded {} Try.checked os 4 .any (Rows.fnStripByPairsSpec.pre6 enc Try.prog Try.f4 Rows.fnStripByPairsRow.domain false) (Rows.fnStripByPairsSpec.post enc Try.prog Try.f4 false true false false) := by
  refine returnsInHanded_of_change (C := Try.checked) Try.own started (by kernel_rfl) Try.func4
    (ChangeSpec.witness6 (enc := enc) (C := Try.checked) false ⟨#[], #[.slice none 0 0], []⟩ 8 (by kernel_rfl) (by kernel_rfl) (by kernel_rfl) (by kernel_rfl)) ?_
  intro W base args ds gs before hval0 hW hcnd _
  have hval : ∀ (j : Nat) t v, Try.f4.params[j]? = some t → args[j]? = some v → Value.okWide Try.prog W .any base t v := hval0
  have hW' := hW
  obtain ⟨p, q, hA0, hV, rfl, hfz, hnd⟩ := hW
  have hA : DataW.TrodAll enc Try.prog W 0 (fun _ => true) true Try.f4.params.toList args.toList ds p := hA0
  rw [Try.params4] at hA hval
  obtain ⟨v0, vs0, d0, ds0, p0, q0, hargs, rfl, rfl, h0, r0⟩ := trodAll_cons hA
  obtain ⟨rfl, rfl, rfl⟩ := trodAll_nil r0
  obtain rfl : args = #[v0] := by cases args; simp_all
  obtain ⟨rfl, rfl⟩ := trodVars_none hV
  have hs0 : ∃ a n c, v0 = .slice a n c := okWide_slice Try.underlying30 (hval 0 30 v0 rfl rfl)
  obtain ⟨xs0, hrv0, hwf0⟩ := c7f Try.underlying30 Try.underlying5 (by kernel_rfl) hs0 h0
  refine (c2b cxT Try.sound (av := [.list (xs0.map uV)]) rfl (fun i a hi => ?_) (fun a ha => ?_) (a5d xs0 (c3k hwf0)) (fun _ h => h.elim) trivial).mono fun e W' ⟨he, hB⟩ => ⟨_, he, ?_⟩
  · match i, hi with
    | 0, hi => cases hi; exact hrv0
  · simp at ha; subst ha; rfl
  · exact c3r Try.laidOut (of_decide_eq_true (by kernel_rfl)) hW' hB rfl rfl Try.underlying4 rfl rfl rfl

theorem fnStripByPairs_holds : Rows.FnStripByPairsSaid :=
  OpenClaim.holds_of_wide 4 Try.f4 rfl rfl rfl rfl rfl rfl rfl ⟨rfl, rfl, rfl, rfl, rfl⟩ rfl rfl rfl rfl rfl (by kernel_rfl) Try.func4 (by kernel_rfl)
    (of_decide_eq_true (by kernel_rfl)) (by unfold Func.isWrapper; first | (rw [if_pos (by decide +kernel)]; kernel_rfl) | (rw [if_neg (by decide +kernel)]; exact ⟨rfl, rfl⟩))
    (fun os started H enc _ => fnStripByPairs_lifted os started H enc)
#print axioms fnStripByPairs_holds
end Go.Proofs.Ytfiobkibbebeiaa
