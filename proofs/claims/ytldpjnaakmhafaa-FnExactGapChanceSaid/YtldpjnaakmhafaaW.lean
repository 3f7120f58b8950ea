/- The law FnExactGapChance returns true for every input and leaves it as it was. Conditions: none. -/
import Derived.Test.YtldpjnaakmhafaaX
import Derived.Test.YtldpjnaakmhafaaRows

set_option linter.unusedVariables false
set_option linter.unusedSimpArgs false
namespace Go.Proofs.Ytldpjnaakmhafaa
open Go Go.Mv Go.ChangeShapes Go.WideShapes Go.ChangeAt Go.RowKit
theorem Try.own : ownKnob Try.prog.godebug = none := by kernel_rfl
theorem Try.laidOut : laidOutB Try.prog = true := by kernel_rfl
theorem b7m {xs : List Int} (h : ∀ x ∈ xs, (Lit.int .i64 x).wf = true) : c5e xs := by
  intro x hx
  have := h x hx
  simp [Lit.wf, IntKind.min, IntKind.max, IntKind.signed, IntKind.bits] at this
  omega
set_option maxRecDepth 100000 in
theorem fnExactGapChance_lifted (os : Os) (started : os.Started) (H : Type) (enc : TypeId × Value → H) :
    ReturnsInHanded {} Try.checked os 3 .any (Rows.fnExactGapChanceSpec.pre6 enc Try.prog Try.f3 Rows.fnExactGapChanceRow.domain false) (Rows.fnExactGapChanceSpec.post enc Try.prog Try.f3 false true false false) := by
  refine returnsInHanded_of_change (C := Try.checked) Try.own started (by kernel_rfl) Try.func3
    (ChangeSpec.witness6 (enc := enc) (C := Try.checked) false ⟨#[], #[.slice none 0 0, .slice none 0 0], []⟩ 8 (by kernel_rfl) (by kernel_rfl) (by kernel_rfl) (by kernel_rfl)) ?_
  intro W base args ds gs before hval0 hW hcnd _
  have hval : ∀ (j : Nat) t v, Try.f3.params[j]? = some t → args[j]? = some v → Value.okWide Try.prog W .any base t v := hval0
  have hW' := hW
  obtain ⟨p, q, hA0, hV, rfl, hfz, hnd⟩ := hW
  have hA : DataW.TrodAll enc Try.prog W 0 (fun _ => true) true Try.f3.params.toList args.toList ds p := hA0
  rw [Try.params3] at hA hval
  obtain ⟨v0, vs0, d0, ds0, p0, q0, hargs, rfl, rfl, h0, r0⟩ := trodAll_cons hA
  obtain ⟨v1, vs1, d1, ds1, p1, q1, rfl, rfl, rfl, h1, r1⟩ := trodAll_cons r0
  obtain ⟨rfl, rfl, rfl⟩ := trodAll_nil r1
  obtain rfl : args = #[v0, v1] := by cases args; simp_all
  obtain ⟨rfl, rfl⟩ := trodVars_none hV
  have hs0 : ∃ a n c, v0 = .slice a n c := okWide_slice Try.underlying22 (hval 0 22 v0 rfl rfl)
  obtain ⟨xs0, hrv0, hwf0⟩ := b7u Try.underlying22 Try.underlying3 (by kernel_rfl) hs0 h0
  have hs1 : ∃ a n c, v1 = .slice a n c := okWide_slice Try.underlying22 (hval 1 22 v1 rfl rfl)
  obtain ⟨xs1, hrv1, hwf1⟩ := b7u Try.underlying22 Try.underlying3 (by kernel_rfl) hs1 h1
  refine (b8e cxT Try.sound (av := [.list (xs0.map iV), .list (xs1.map iV)]) rfl (fun i a hi => ?_) (fun a ha => ?_) (a1u xs0 xs1 (b7m hwf0) (b7m hwf1)) (fun _ h => h.elim) trivial).mono fun e W' ⟨he, hB⟩ => ⟨_, he, ?_⟩
  · match i, hi with
    | 0, hi => cases hi; exact hrv0
    | 1, hi => cases hi; exact hrv1
  · simp at ha; rcases ha with rfl | rfl <;> rfl
  · exact c1x Try.laidOut (of_decide_eq_true (by kernel_rfl)) hW' hB rfl rfl Try.underlying4 rfl rfl rfl

theorem fnExactGapChance_holds : Rows.FnExactGapChanceSaid :=
  OpenClaim.holds_of_wide 3 Try.f3 rfl rfl rfl rfl rfl rfl rfl ⟨rfl, rfl, rfl, rfl, rfl⟩ rfl rfl rfl rfl rfl (by kernel_rfl) Try.func3 (by kernel_rfl)
    (of_decide_eq_true (by kernel_rfl)) (by unfold Func.isWrapper; first | (rw [if_pos (by decide +kernel)]; kernel_rfl) | (rw [if_neg (by decide +kernel)]; exact ⟨rfl, rfl⟩))
    (fun os started H enc _ => fnExactGapChance_lifted os started H enc)
#print axioms fnExactGapChance_holds
end Go.Proofs.Ytldpjnaakmhafaa
