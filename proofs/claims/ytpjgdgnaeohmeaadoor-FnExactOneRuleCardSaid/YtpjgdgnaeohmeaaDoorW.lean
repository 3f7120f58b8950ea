/- The law FnExactOneRule returns true for every input and leaves it as it was. Conditions: none. -/
import Derived.Test.YtpjgdgnaeohmeaaDoorX
import Derived.ChangeMaps5
import Derived.Test.YtpjgdgnaeohmeaaDoorRows
import Derived.Test.YtpjgdgnaeohmeaaDoorCards
import Derived.Test.YtpjgdgnaeohmeaaDoorTie

set_option linter.unusedVariables false
set_option linter.unusedSimpArgs false
namespace Go.Proofs.YtpjgdgnaeohmeaaDoor
open Go Go.Mv Go.ChangeShapes Go.WideShapes Go.ChangeAt Go.RowKit Go.ChangeMaps
theorem Tryd.own : ownKnob Tryd.prog.godebug = none := by kernel_rfl
theorem Tryd.laidOut : laidOutB Tryd.prog = true := by kernel_rfl
noncomputable abbrev fnExactOneRule_laid : List (String × DataW Unit) := Rows.fnExactOneRuleRow.laid
abbrev fnExactOneRule_great : List String := ["math/bits.deBruijn32tab", "math/bits.deBruijn64tab", "internal/strconv.uint64pow10", "unicode/utf8.acceptRanges", "strconv.ErrRange", "strconv.ErrSyntax", "unicode/utf8.first"]
theorem fnExactOneRule_env {W : World} (h : laidMetH Tryd.prog fnExactOneRule_laid W) (hs : W.ShapedOpen Tryd.prog) : ∃ rG, (Tryd.env rG).G W := by
  rw [MakeChecks.laidMetH_plain _ _ _ (by kernel_rfl)] at h
  obtain ⟨ps, hl, _, _⟩ := h
  obtain ⟨rG, hG1, hG2⟩ := c7c (i := 6) (n := "loop.example/countedchances/impl.gone") hl (by kernel_rfl) (by kernel_rfl) (by kernel_rfl) Tryd.underlying69 Tryd.underlying9 Tryd.underlying67 Tryd.underlying4 (by kernel_rfl) (by kernel_rfl)
  exact ⟨rG, ⟨cell_of_shapedOpen_int hs (of_decide_eq_true (by kernel_rfl)) (zero := #[.int .i64 0]) (by kernel_rfl) rfl (by kernel_rfl) (by kernel_rfl) Tryd.underlying3,
    d1g (i := 2) (g := 4) hl (by kernel_rfl) (by kernel_rfl) (by kernel_rfl) Tryd.underlying128 Tryd.underlying106 (by kernel_rfl) (by kernel_rfl),
    b3g (i := 5) hl rfl (by kernel_rfl) (by kernel_rfl) Tryd.underlying82, b3g (i := 4) hl rfl (by kernel_rfl) (by kernel_rfl) Tryd.underlying82⟩, hG1, hG2⟩
set_option maxRecDepth 100000 in
theorem fnExactOneRule_lifted (os : Os) (started : os.Started) (H : Type) (enc : TypeId × Value → H) :
    ReturnsInHanded {} Tryd.checked os 8 .any (fun w args => (Rows.fnExactOneRuleSpec.pre enc Tryd.prog Tryd.f8 Rows.fnExactOneRuleRow.domain false w args ∧ laidMetH Tryd.prog fnExactOneRule_laid w) ∧ sizedMet enc Tryd.prog Tryd.f8 (OpenSpec.ofChange Rows.fnExactOneRuleSpec) false w args)
      (Rows.fnExactOneRuleSpec.post enc Tryd.prog Tryd.f8 false true false false) := by
  refine b9c (C := Tryd.checked) (X := fun w _ => laidMetH Tryd.prog fnExactOneRule_laid w) (fun _ _ _ hh h => h.of_heap hh) Tryd.own started (by kernel_rfl) Tryd.func8
    (ChangeSpec.witness_shaped (enc := enc) (C := Tryd.checked) (os := os) (X := fun w _ => laidMetH Tryd.prog fnExactOneRule_laid w) false (a5i Tryd.prog os 0 (fnExactOneRule_laid.filter fun x => fnExactOneRule_great.contains x.1)) #[.string ByteArray.empty] 8 (c9i _ _ _ _)
      (World.shaped_of_ZipB (by kernel_rfl) (by kernel_rfl)) (by kernel_rfl) (by kernel_rfl) (by kernel_rfl)
      (by rw [MakeChecks.laidMetH_plain _ _ _ (by kernel_rfl)]; exact b7q _ fnExactOneRule_great 8 (by kernel_rfl) (by kernel_rfl) (by kernel_rfl) (by kernel_rfl) (by kernel_rfl) (by kernel_rfl))) ?_
  intro W base args ds gs before hval0 hW hsh hL
  obtain ⟨rG, hG⟩ := fnExactOneRule_env hL hsh
  have hval : ∀ (j : Nat) t v, Tryd.f8.params[j]? = some t → args[j]? = some v → Value.okWide Tryd.prog W .any base t v := hval0
  have hW' := hW
  obtain ⟨p, q, hA0, hV, rfl, hfz, hnd⟩ := hW
  have hA : DataW.TrodAll enc Tryd.prog W 0 (fun _ => true) true Tryd.f8.params.toList args.toList ds p := hA0
  rw [Tryd.params8] at hA hval
  obtain ⟨v0, vs0, d0, ds0, p0, q0, hargs, rfl, rfl, h0, r0⟩ := trodAll_cons hA
  obtain ⟨rfl, rfl, rfl⟩ := trodAll_nil r0
  obtain rfl : args = #[v0] := by cases args; simp_all
  obtain ⟨gd, rfl⟩ := c4c hV
  obtain ⟨xs0, rfl, rfl, rfl, hsz0⟩ := open_string Tryd.underlying9 (hval 0 9 v0 rfl rfl) h0
  refine (c8j (cxT rG) Tryd.sound (av := [tV xs0.data.toList]) rfl (fun i a hi => ?_) (fun a ha => ?_) (a7t xs0.data.toList) (c3i hG) hG).mono fun e W' ⟨he, hB⟩ => ⟨_, he, ?_⟩
  · match i, hi with
    | 0, hi => cases hi; exact (by rw [show tV xs0.data.toList = sV xs0 from congrArg sV (U2 xs0)]; exact .val _)
  · simp at ha; subst ha; rfl
  · exact c7t Tryd.laidOut (of_decide_eq_true (by kernel_rfl)) (by kernel_rfl) hW' hB rfl Tryd.underlying4 rfl rfl rfl

theorem fnExactOneRule_row : Rows.FnExactOneRuleSaid :=
  OpenClaim.holds_of_wide 8 Tryd.f8 rfl rfl rfl rfl rfl rfl rfl ⟨rfl, rfl, rfl, rfl, rfl⟩ rfl rfl rfl rfl rfl (by kernel_rfl) Tryd.func8 (by kernel_rfl)
    (of_decide_eq_true (by kernel_rfl)) (by unfold Func.isWrapper; first | (rw [if_pos (by decide +kernel)]; kernel_rfl) | (rw [if_neg (by decide +kernel)]; exact ⟨rfl, rfl⟩))
    (fun os started H enc _ => fnExactOneRule_lifted os started H enc)
theorem fnExactOneRule_holds : Rows.FnExactOneRuleCardSaid :=
  Claim7.holds_tied_plain_at .later [] [.data, .data, .data, .data, .sentinel, .sentinel, .mapped, .pinned] true (true, "d387691b8bc5ae048dbda609ad3bdb6324877d7d1372a19b0aaa3d4321cec1a2") true fnExactOneRule_row (fun _ h => by cases h) (by kernel_rfl) (fun _ h => by cases h) fnExactOneRule_row_tie rfl ⟨rfl, rfl⟩ (by kernel_rfl) rfl
    (fun f fn hf hfn => by
      obtain rfl : f = 8 := Option.some.inj ((show Tryd.prog.funcNamed "loop.example/countedchances/laws.FnExactOneRule" = some 8 by kernel_rfl).symm.trans hf) |>.symm
      obtain rfl : fn = Tryd.f8 := (Option.some.inj (Tryd.func8.symm.trans hfn)).symm
      exact ⟨by kernel_rfl, fun j t ht => by
        rw [Tryd.params8] at ht
        have hm : t ∈ [9] := by have := Array.mem_of_getElem? ht; simpa using this
        have hall : ([9].all fun u => !Tryd.prog.wantsStandIn u) = true := by kernel_rfl
        exact (show Tryd.prog.wantsStandIn t = false by simpa using List.all_eq_true.1 hall t hm)⟩)
    (by kernel_rfl)
#print axioms fnExactOneRule_holds
end Go.Proofs.YtpjgdgnaeohmeaaDoor
