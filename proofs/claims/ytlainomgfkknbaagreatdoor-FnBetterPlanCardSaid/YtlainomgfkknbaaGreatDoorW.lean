/- The law FnBetterPlan returns true for every input and leaves it as it was. Conditions: none. -/
import Derived.Test.YtlainomgfkknbaaGreatDoorX
import Derived.ChangeMaps5
import Derived.Test.YtlainomgfkknbaaGreatDoorRows
import Derived.Test.YtlainomgfkknbaaGreatDoorCards
import Derived.Test.YtlainomgfkknbaaGreatDoorTie
import Derived.Test.YtlainomgfkknbaaGreatDoorKa
import Derived.Test.YtlainomgfkknbaaGreatDoorKb

set_option linter.unusedVariables false
set_option linter.unusedSimpArgs false
namespace Go.Proofs.YtlainomgfkknbaaGreatDoor
open Go Go.Mv Go.ChangeShapes Go.WideShapes Go.ChangeAt Go.RowKit Go.ChangeMaps
theorem Tryz.own : ownKnob Tryz.prog.godebug = none := by kernel_rfl
theorem Tryz.laidOut : laidOutB Tryz.prog = true := by kernel_rfl
theorem d4t {xs : List Int} (h : ∀ x ∈ xs, (Lit.int .u8 x).wf = true) : a4i xs := by
  intro x hx
  have := h x hx
  simp [Lit.wf, IntKind.min, IntKind.max, IntKind.signed, IntKind.bits] at this
  omega
noncomputable abbrev fnBetterPlan_laid : List (String × DataW Unit) := Rows.fnBetterPlanRow.laid
abbrev fnBetterPlan_great : List String := ["math/bits.deBruijn32tab", "math/bits.deBruijn64tab", "internal/strconv.uint64pow10", "unicode/utf8.acceptRanges", "strconv.ErrRange", "strconv.ErrSyntax", "unicode/utf8.first"]
theorem fnBetterPlan_env {W : World} (h : laidMetH Tryz.prog fnBetterPlan_laid W) (hs : W.ShapedOpen Tryz.prog) : ∃ rG, (Tryz.env rG).G W := by
  rw [MakeChecks.laidMetH_plain _ _ _ (by kernel_rfl)] at h
  obtain ⟨ps, hl, _, _⟩ := h
  obtain ⟨rG, hG1, hG2⟩ := d2m (i := 6) (n := "loop.example/countedchances/impl.gone") hl (by kernel_rfl) (by kernel_rfl) (by kernel_rfl) Tryz.underlying68 Tryz.underlying9 Tryz.underlying66 Tryz.underlying4 (by kernel_rfl) (by kernel_rfl)
  exact ⟨rG, ⟨cell_of_shapedOpen_int hs (of_decide_eq_true (by kernel_rfl)) (zero := #[.int .i64 0]) (by kernel_rfl) rfl (by kernel_rfl) (by kernel_rfl) Tryz.underlying3,
    d7k (i := 2) (g := 6) hl (by kernel_rfl) (by kernel_rfl) (by kernel_rfl) Tryz.underlying157 Tryz.underlying123 (by kernel_rfl) (by kernel_rfl),
    b5z (i := 5) hl rfl (by kernel_rfl) (by kernel_rfl) Tryz.underlying87, b5z (i := 4) hl rfl (by kernel_rfl) (by kernel_rfl) Tryz.underlying87⟩, hG1, hG2⟩
set_option maxRecDepth 100000 in
theorem fnBetterPlan_lifted (os : Os) (started : os.Started) (H : Type) (enc : TypeId × Value → H) :
    ReturnsInHanded {} Tryz.checked os 3 .any (fun w args => (Rows.fnBetterPlanSpec.pre enc Tryz.prog Tryz.f3 Rows.fnBetterPlanRow.domain false w args ∧ laidMetH Tryz.prog fnBetterPlan_laid w) ∧ sizedMet enc Tryz.prog Tryz.f3 (OpenSpec.ofChange Rows.fnBetterPlanSpec) false w args)
      (Rows.fnBetterPlanSpec.post enc Tryz.prog Tryz.f3 false true false false) := by
  refine c7e (C := Tryz.checked) (X := fun w _ => laidMetH Tryz.prog fnBetterPlan_laid w) (fun _ _ _ hh h => h.of_heap hh) Tryz.own started (by kernel_rfl) Tryz.func3
    (ChangeSpec.witness_shaped (enc := enc) (C := Tryz.checked) (os := os) (X := fun w _ => laidMetH Tryz.prog fnBetterPlan_laid w) false (a7h Tryz.prog os 0 (fnBetterPlan_laid.filter fun x => fnBetterPlan_great.contains x.1)) #[.slice none 0 0] 8 (d7b _ _ _ _)
      (World.shaped_of_ZipB (by kernel_rfl) (by kernel_rfl)) (by kernel_rfl) (by kernel_rfl) (by kernel_rfl)
      (by rw [MakeChecks.laidMetH_plain _ _ _ (by kernel_rfl)]; exact c2y _ fnBetterPlan_great 8 (by kernel_rfl) (by kernel_rfl) (by kernel_rfl) (by kernel_rfl) (by kernel_rfl) (by kernel_rfl))) ?_
  intro W base args ds gs before hval0 hW hsh hL
  obtain ⟨rG, hG⟩ := fnBetterPlan_env hL hsh
  have hval : ∀ (j : Nat) t v, Tryz.f3.params[j]? = some t → args[j]? = some v → Value.okWide Tryz.prog W .any base t v := hval0
  have hW' := hW
  obtain ⟨p, q, hA0, hV, rfl, hfz, hnd⟩ := hW
  have hA : DataW.TrodAll enc Tryz.prog W 0 (fun _ => true) true Tryz.f3.params.toList args.toList ds p := hA0
  rw [Tryz.params3] at hA hval
  obtain ⟨v0, vs0, d0, ds0, p0, q0, hargs, rfl, rfl, h0, r0⟩ := trodAll_cons hA
  obtain ⟨rfl, rfl, rfl⟩ := trodAll_nil r0
  obtain rfl : args = #[v0] := by cases args; simp_all
  obtain ⟨gd, rfl⟩ := c9h hV
  have hs0 : ∃ a n c, v0 = .slice a n c := okWide_slice Tryz.underlying22 (hval 0 22 v0 rfl rfl)
  obtain ⟨xs0, hrv0, hwf0⟩ := d9i Tryz.underlying22 Tryz.underlying5 (by kernel_rfl) hs0 h0
  refine (d3w (cxT (some rG)) Tryz.sound (av := [.list (xs0.map uV)]) rfl (fun i a hi => ?_) (fun a ha => ?_) (b6w xs0 (d4t hwf0)) (d0a hG) hG).mono fun e W' ⟨he, hB⟩ => ⟨_, he, ?_⟩
  · match i, hi with
    | 0, hi => cases hi; exact hrv0
  · simp at ha; subst ha; rfl
  · exact d4k Tryz.laidOut (of_decide_eq_true (by kernel_rfl)) (by kernel_rfl) hW' hB rfl Tryz.underlying4 rfl rfl rfl

theorem fnBetterPlan_k5 : joinedFacts Tryz.pinned.checked.prog 3 Tryz.f3 Rows.fnBetterPlanSpec Rows.fnBetterPlanRow = true := by
  unfold joinedFacts
  rw [fnBetterPlan_k1, fnBetterPlan_k2, fnBetterPlan_k3, fnBetterPlan_k4]
  kernel_rfl
theorem fnBetterPlan_row : Rows.FnBetterPlanSaid :=
  OpenClaim.holds_of_wide 3 Tryz.f3 rfl rfl rfl rfl rfl rfl rfl ⟨rfl, rfl, rfl, rfl, rfl⟩ rfl rfl rfl rfl rfl (by kernel_rfl) Tryz.func3 fnBetterPlan_k5
    (of_decide_eq_true (by kernel_rfl)) (by unfold Func.isWrapper; first | (rw [if_pos (by decide +kernel)]; kernel_rfl) | (rw [if_neg (by decide +kernel)]; exact ⟨rfl, rfl⟩))
    (fun os started H enc _ => fnBetterPlan_lifted os started H enc)
theorem fnBetterPlan_holds : Rows.FnBetterPlanCardSaid :=
  Claim7.holds_tied_plain_at .later [] [.data, .data, .data, .data, .sentinel, .sentinel, .mapped, .pinned] true (true, "d9d488fcfa8f9f9e49e59d4e0573c7fe93836b195a8416cadba3d7893619c3f4") true fnBetterPlan_row (fun _ h => by cases h) (by kernel_rfl) (fun _ h => by cases h) fnBetterPlan_row_tie rfl ⟨rfl, rfl⟩ (by kernel_rfl) rfl
    (fun f fn hf hfn => by
      obtain rfl : f = 3 := Option.some.inj ((show Tryz.prog.funcNamed "loop.example/countedchances/laws.FnBetterPlan" = some 3 by kernel_rfl).symm.trans hf) |>.symm
      obtain rfl : fn = Tryz.f3 := (Option.some.inj (Tryz.func3.symm.trans hfn)).symm
      exact ⟨fnBetterPlan_k6, fun j t ht => by
        rw [Tryz.params3] at ht
        have hm : t ∈ [22] := by have := Array.mem_of_getElem? ht; simpa using this
        have hall : ([22].all fun u => !Tryz.prog.wantsStandIn u) = true := by kernel_rfl
        exact (show Tryz.prog.wantsStandIn t = false by simpa using List.all_eq_true.1 hall t hm)⟩)
    fnBetterPlan_k7
#print axioms fnBetterPlan_holds
end Go.Proofs.YtlainomgfkknbaaGreatDoor
