/- The law FnNormalOf returns true for every input and leaves it as it was. Conditions: none. -/
import Derived.Test.YtpjgdgnaeohmeaaGreatDoorX
import Derived.ChangeMaps5
import Derived.Test.YtpjgdgnaeohmeaaGreatDoorRows
import Derived.Test.YtpjgdgnaeohmeaaGreatDoorCards
import Derived.Test.YtpjgdgnaeohmeaaGreatDoorTie

set_option linter.unusedVariables false
set_option linter.unusedSimpArgs false
namespace Go.Proofs.YtpjgdgnaeohmeaaGreatDoor
open Go Go.Mv Go.ChangeShapes Go.WideShapes Go.ChangeAt Go.RowKit Go.ChangeMaps
theorem Tryz.own : ownKnob Tryz.prog.godebug = none := by kernel_rfl
theorem Tryz.laidOut : laidOutB Tryz.prog = true := by kernel_rfl
theorem d2h {xs : List Int} (h : ∀ x ∈ xs, (Lit.int .u8 x).wf = true) : a3m xs := by
  intro x hx
  have := h x hx
  simp [Lit.wf, IntKind.min, IntKind.max, IntKind.signed, IntKind.bits] at this
  omega
noncomputable abbrev fnNormalOf_laid : List (String × DataW Unit) := Rows.fnNormalOfRow.laid
abbrev fnNormalOf_great : List String := ["math/bits.deBruijn32tab", "math/bits.deBruijn64tab", "internal/strconv.uint64pow10", "unicode/utf8.acceptRanges", "strconv.ErrRange", "strconv.ErrSyntax", "unicode/utf8.first"]
theorem fnNormalOf_env {W : World} (h : laidMetH Tryz.prog fnNormalOf_laid W) (hs : W.ShapedOpen Tryz.prog) : ∃ rG, (Tryz.env rG).G W := by
  rw [MakeChecks.laidMetH_plain _ _ _ (by kernel_rfl)] at h
  obtain ⟨ps, hl, _, _⟩ := h
  obtain ⟨rG, hG1, hG2⟩ := c9u (i := 6) (n := "loop.example/countedchances/impl.gone") hl (by kernel_rfl) (by kernel_rfl) (by kernel_rfl) Tryz.underlying86 Tryz.underlying9 Tryz.underlying84 Tryz.underlying4 (by kernel_rfl) (by kernel_rfl)
  exact ⟨rG, ⟨cell_of_shapedOpen_int hs (of_decide_eq_true (by kernel_rfl)) (zero := #[.int .i64 0]) (by kernel_rfl) rfl (by kernel_rfl) (by kernel_rfl) Tryz.underlying3,
    d3r (i := 2) (g := 4) hl (by kernel_rfl) (by kernel_rfl) (by kernel_rfl) Tryz.underlying146 Tryz.underlying124 (by kernel_rfl) (by kernel_rfl),
    b3t (i := 5) hl rfl (by kernel_rfl) (by kernel_rfl) Tryz.underlying100, b3t (i := 4) hl rfl (by kernel_rfl) (by kernel_rfl) Tryz.underlying100⟩, hG1, hG2⟩
set_option maxRecDepth 100000 in
theorem fnNormalOf_lifted (os : Os) (started : os.Started) (H : Type) (enc : TypeId × Value → H) :
    ReturnsInHanded {} Tryz.checked os 5 .any (fun w args => (Rows.fnNormalOfSpec.pre enc Tryz.prog Tryz.f5 Rows.fnNormalOfRow.domain false w args ∧ laidMetH Tryz.prog fnNormalOf_laid w) ∧ sizedMet enc Tryz.prog Tryz.f5 (OpenSpec.ofChange Rows.fnNormalOfSpec) false w args)
      (Rows.fnNormalOfSpec.post enc Tryz.prog Tryz.f5 false true false false) := by
  refine c3x (C := Tryz.checked) (X := fun w _ => laidMetH Tryz.prog fnNormalOf_laid w) (fun _ _ _ hh h => h.of_heap hh) Tryz.own started (by kernel_rfl) Tryz.func5
    (ChangeSpec.witness_shaped (enc := enc) (C := Tryz.checked) (os := os) (X := fun w _ => laidMetH Tryz.prog fnNormalOf_laid w) false (a6d Tryz.prog os 0 (fnNormalOf_laid.filter fun x => fnNormalOf_great.contains x.1)) #[.slice none 0 0] 8 (d3o _ _ _ _)
      (World.shaped_of_ZipB (by kernel_rfl) (by kernel_rfl)) (by kernel_rfl) (by kernel_rfl) (by kernel_rfl)
      (by rw [MakeChecks.laidMetH_plain _ _ _ (by kernel_rfl)]; exact b9q _ fnNormalOf_great 8 (by kernel_rfl) (by kernel_rfl) (by kernel_rfl) (by kernel_rfl) (by kernel_rfl) (by kernel_rfl))) ?_
  intro W base args ds gs before hval0 hW hsh hL
  obtain ⟨rG, hG⟩ := fnNormalOf_env hL hsh
  have hval : ∀ (j : Nat) t v, Tryz.f5.params[j]? = some t → args[j]? = some v → Value.okWide Tryz.prog W .any base t v := hval0
  have hW' := hW
  obtain ⟨p, q, hA0, hV, rfl, hfz, hnd⟩ := hW
  have hA : DataW.TrodAll enc Tryz.prog W 0 (fun _ => true) true Tryz.f5.params.toList args.toList ds p := hA0
  rw [Tryz.params5] at hA hval
  obtain ⟨v0, vs0, d0, ds0, p0, q0, hargs, rfl, rfl, h0, r0⟩ := trodAll_cons hA
  obtain ⟨rfl, rfl, rfl⟩ := trodAll_nil r0
  obtain rfl : args = #[v0] := by cases args; simp_all
  obtain ⟨gd, rfl⟩ := c4z hV
  have hs0 : ∃ a n c, v0 = .slice a n c := okWide_slice Tryz.underlying22 (hval 0 22 v0 rfl rfl)
  obtain ⟨xs0, hrv0, hwf0⟩ := d4n Tryz.underlying22 Tryz.underlying5 (by kernel_rfl) hs0 h0
  refine (d0n (cxT (some rG)) Tryz.sound (av := [.list (xs0.map uV)]) rfl (fun i a hi => ?_) (fun a ha => ?_) (b9j xs0 (d2h hwf0)) (c4s hG) hG).mono fun e W' ⟨he, hB⟩ => ⟨_, he, ?_⟩
  · match i, hi with
    | 0, hi => cases hi; exact hrv0
  · simp at ha; subst ha; rfl
  · exact c9v Tryz.laidOut (of_decide_eq_true (by kernel_rfl)) (by kernel_rfl) hW' hB rfl Tryz.underlying4 rfl rfl rfl

theorem fnNormalOf_row : Rows.FnNormalOfSaid :=
  OpenClaim.holds_of_wide 5 Tryz.f5 rfl rfl rfl rfl rfl rfl rfl ⟨rfl, rfl, rfl, rfl, rfl⟩ rfl rfl rfl rfl rfl (by kernel_rfl) Tryz.func5 (by kernel_rfl)
    (of_decide_eq_true (by kernel_rfl)) (by unfold Func.isWrapper; first | (rw [if_pos (by decide +kernel)]; kernel_rfl) | (rw [if_neg (by decide +kernel)]; exact ⟨rfl, rfl⟩))
    (fun os started H enc _ => fnNormalOf_lifted os started H enc)
theorem fnNormalOf_holds : Rows.FnNormalOfCardSaid :=
  Claim7.holds_tied_plain_at .later [] [.data, .data, .data, .data, .sentinel, .sentinel, .mapped, .pinned] true (true, "f19cf6484f882f7ccefc24dd4284a0a11a834f68bb52dd53a7d3e11edc8848eb") true fnNormalOf_row (fun _ h => by cases h) (by kernel_rfl) (fun _ h => by cases h) fnNormalOf_row_tie rfl ⟨rfl, rfl⟩ (by kernel_rfl) rfl
    (fun f fn hf hfn => by
      obtain rfl : f = 5 := Option.some.inj ((show Tryz.prog.funcNamed "loop.example/countedchances/laws.FnNormalOf" = some 5 by kernel_rfl).symm.trans hf) |>.symm
      obtain rfl : fn = Tryz.f5 := (Option.some.inj (Tryz.func5.symm.trans hfn)).symm
      exact ⟨by kernel_rfl, fun j t ht => by
        rw [Tryz.params5] at ht
        have hm : t ∈ [22] := by have := Array.mem_of_getElem? ht; simpa using this
        have hall : ([22].all fun u => !Tryz.prog.wantsStandIn u) = true := by kernel_rfl
        exact (show Tryz.prog.wantsStandIn t = false by simpa using List.all_eq_true.1 hall t hm)⟩)
    (by kernel_rfl)
#print axioms fnNormalOf_holds
end Go.Proofs.YtpjgdgnaeohmeaaGreatDoor
