/- The law FnExactBetterPlan returns true for every input and leaves it as it was. Conditions: none. -/
import Derived.Test.YtcpmbhfnapijaaaGreatDoorX
import Derived.ChangeMaps5
import Derived.Test.YtcpmbhfnapijaaaGreatDoorRows
import Derived.Test.YtcpmbhfnapijaaaGreatDoorCards
import Derived.Test.YtcpmbhfnapijaaaGreatDoorTie
import Derived.Test.YtcpmbhfnapijaaaGreatDoorKa
import Derived.Test.YtcpmbhfnapijaaaGreatDoorKb

set_option linter.unusedVariables false
set_option linter.unusedSimpArgs false
namespace Go.Proofs.YtcpmbhfnapijaaaGreatDoor
open Go Go.Mv Go.ChangeShapes Go.WideShapes Go.ChangeAt Go.RowKit Go.ChangeMaps
theorem Tryz.own : ownKnob Tryz.prog.godebug = none := by kernel_rfl
theorem Tryz.laidOut : laidOutB Tryz.prog = true := by kernel_rfl
noncomputable abbrev fnExactBetterPlan_laid : List (String × DataW Unit) := Rows.fnExactBetterPlanRow.laid
abbrev fnExactBetterPlan_great : List String := ["math/bits.deBruijn32tab", "math/bits.deBruijn64tab", "internal/strconv.uint64pow10", "unicode/utf8.acceptRanges", "strconv.ErrRange", "strconv.ErrSyntax", "unicode/utf8.first"]
theorem fnExactBetterPlan_env {W : World} (h : laidMetH Tryz.prog fnExactBetterPlan_laid W) (hs : W.ShapedOpen Tryz.prog) : ∃ rG, (Tryz.env rG).G W := by
  rw [MakeChecks.laidMetH_plain _ _ _ (by kernel_rfl)] at h
  obtain ⟨ps, hl, _, _⟩ := h
  obtain ⟨rG, hG1, hG2⟩ := d0m (i := 6) (n := "loop.example/countedchances/impl.gone") hl (by kernel_rfl) (by kernel_rfl) (by kernel_rfl) Tryz.underlying121 Tryz.underlying9 Tryz.underlying119 Tryz.underlying4 (by kernel_rfl) (by kernel_rfl)
  exact ⟨rG, ⟨cell_of_shapedOpen_int hs (of_decide_eq_true (by kernel_rfl)) (zero := #[.int .i64 0]) (by kernel_rfl) rfl (by kernel_rfl) (by kernel_rfl) Tryz.underlying3,
    d3r (i := 2) (g := 6) hl (by kernel_rfl) (by kernel_rfl) (by kernel_rfl) Tryz.underlying203 Tryz.underlying156 (by kernel_rfl) (by kernel_rfl),
    b5h (i := 5) hl rfl (by kernel_rfl) (by kernel_rfl) Tryz.underlying131, b5h (i := 4) hl rfl (by kernel_rfl) (by kernel_rfl) Tryz.underlying131⟩, hG1, hG2⟩
set_option maxRecDepth 100000 in
theorem fnExactBetterPlan_lifted (os : Os) (started : os.Started) (H : Type) (enc : TypeId × Value → H) :
    ReturnsInHanded {} Tryz.checked os 10 .any (fun w args => (Rows.fnExactBetterPlanSpec.pre enc Tryz.prog Tryz.f10 Rows.fnExactBetterPlanRow.domain false w args ∧ laidMetH Tryz.prog fnExactBetterPlan_laid w) ∧ sizedMet enc Tryz.prog Tryz.f10 (OpenSpec.ofChange Rows.fnExactBetterPlanSpec) false w args)
      (Rows.fnExactBetterPlanSpec.post enc Tryz.prog Tryz.f10 false true false false) := by
  refine c3l (C := Tryz.checked) (X := fun w _ => laidMetH Tryz.prog fnExactBetterPlan_laid w) (fun _ _ _ hh h => h.of_heap hh) Tryz.own started (by kernel_rfl) Tryz.func10
    (ChangeSpec.witness_shaped (enc := enc) (C := Tryz.checked) (os := os) (X := fun w _ => laidMetH Tryz.prog fnExactBetterPlan_laid w) false (a6k Tryz.prog os 0 (fnExactBetterPlan_laid.filter fun x => fnExactBetterPlan_great.contains x.1)) #[.string ByteArray.empty] 8 (d4v _ _ _ _)
      (World.shaped_of_ZipB (by kernel_rfl) (by kernel_rfl)) (by kernel_rfl) (by kernel_rfl) (by kernel_rfl)
      (by rw [MakeChecks.laidMetH_plain _ _ _ (by kernel_rfl)]; exact b9a _ fnExactBetterPlan_great 8 (by kernel_rfl) (by kernel_rfl) (by kernel_rfl) (by kernel_rfl) (by kernel_rfl) (by kernel_rfl))) ?_
  intro W base args ds gs before hval0 hW hsh hL
  obtain ⟨rG, hG⟩ := fnExactBetterPlan_env hL hsh
  have hval : ∀ (j : Nat) t v, Tryz.f10.params[j]? = some t → args[j]? = some v → Value.okWide Tryz.prog W .any base t v := hval0
  have hW' := hW
  obtain ⟨p, q, hA0, hV, rfl, hfz, hnd⟩ := hW
  have hA : DataW.TrodAll enc Tryz.prog W 0 (fun _ => true) true Tryz.f10.params.toList args.toList ds p := hA0
  rw [Tryz.params10] at hA hval
  obtain ⟨v0, vs0, d0, ds0, p0, q0, hargs, rfl, rfl, h0, r0⟩ := trodAll_cons hA
  obtain ⟨rfl, rfl, rfl⟩ := trodAll_nil r0
  obtain rfl : args = #[v0] := by cases args; simp_all
  obtain ⟨gd, rfl⟩ := c6y hV
  obtain ⟨xs0, rfl, rfl, rfl, hsz0⟩ := open_string Tryz.underlying9 (hval 0 9 v0 rfl rfl) h0
  refine (d0i (cxT (some rG)) Tryz.sound (av := [tV xs0.data.toList]) rfl (fun i a hi => ?_) (fun a ha => ?_) (a6d xs0.data.toList) (c6g hG) hG).mono fun e W' ⟨he, hB⟩ => ⟨_, he, ?_⟩
  · match i, hi with
    | 0, hi => cases hi; exact (by rw [show tV xs0.data.toList = sV xs0 from congrArg sV (X0 xs0)]; exact .val _)
  · simp at ha; subst ha; rfl
  · exact d1s Tryz.laidOut (of_decide_eq_true (by kernel_rfl)) (by kernel_rfl) hW' hB rfl Tryz.underlying4 rfl rfl rfl

theorem fnExactBetterPlan_k5 : joinedFacts Tryz.pinned.checked.prog 10 Tryz.f10 Rows.fnExactBetterPlanSpec Rows.fnExactBetterPlanRow = true := by
  unfold joinedFacts
  rw [fnExactBetterPlan_k1, fnExactBetterPlan_k2, fnExactBetterPlan_k3, fnExactBetterPlan_k4]
  kernel_rfl
theorem fnExactBetterPlan_row : Rows.FnExactBetterPlanSaid :=
  OpenClaim.holds_of_wide 10 Tryz.f10 rfl rfl rfl rfl rfl rfl rfl ⟨rfl, rfl, rfl, rfl, rfl⟩ rfl rfl rfl rfl rfl (by kernel_rfl) Tryz.func10 fnExactBetterPlan_k5
    (of_decide_eq_true (by kernel_rfl)) (by unfold Func.isWrapper; first | (rw [if_pos (by decide +kernel)]; kernel_rfl) | (rw [if_neg (by decide +kernel)]; exact ⟨rfl, rfl⟩))
    (fun os started H enc _ => fnExactBetterPlan_lifted os started H enc)
theorem fnExactBetterPlan_holds : Rows.FnExactBetterPlanCardSaid :=
  Claim7.holds_tied_plain_at .later [] [.data, .data, .data, .data, .sentinel, .sentinel, .mapped, .pinned] true (true, "09f11bc68134716a65fa63dd62439e46a2981186231944598669981704fbf200") true fnExactBetterPlan_row (fun _ h => by cases h) (by kernel_rfl) (fun _ h => by cases h) fnExactBetterPlan_row_tie rfl ⟨rfl, rfl⟩ (by kernel_rfl) rfl
    (fun f fn hf hfn => by
      obtain rfl : f = 10 := Option.some.inj ((show Tryz.prog.funcNamed "loop.example/countedchances/laws.FnExactBetterPlan" = some 10 by kernel_rfl).symm.trans hf) |>.symm
      obtain rfl : fn = Tryz.f10 := (Option.some.inj (Tryz.func10.symm.trans hfn)).symm
      exact ⟨fnExactBetterPlan_k6, fun j t ht => by
        rw [Tryz.params10] at ht
        have hm : t ∈ [9] := by have := Array.mem_of_getElem? ht; simpa using this
        have hall : ([9].all fun u => !Tryz.prog.wantsStandIn u) = true := by kernel_rfl
        exact (show Tryz.prog.wantsStandIn t = false by simpa using List.all_eq_true.1 hall t hm)⟩)
    fnExactBetterPlan_k7
#print axioms fnExactBetterPlan_holds
end Go.Proofs.YtcpmbhfnapijaaaGreatDoor
