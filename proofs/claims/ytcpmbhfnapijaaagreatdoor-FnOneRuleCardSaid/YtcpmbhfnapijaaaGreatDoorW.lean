/- The law FnOneRule returns true for every input and leaves it as it was. Conditions: none. -/
import Derived.Test.YtcpmbhfnapijaaaGreatDoorX
import Derived.ChangeMaps5
import Derived.Test.YtcpmbhfnapijaaaGreatDoorRows
import Derived.Test.YtcpmbhfnapijaaaGreatDoorCards
import Derived.Test.YtcpmbhfnapijaaaGreatDoorTie
import Derived.Test.YtcpmbhfnapijaaaGreatDoorKa
import Derived.Test.YtcpmbhfnapijaaaGreatDoorKb

set_option linter.unusedVariables false
set_option linter.unusedSimpArgs false
namespace Go.Proofs.YtcpmbhfnapijaaaGreatDoor
open Go Go.Mv Go.ChangeShapes Go.WideShapes Go.ChangeAt Go.RowKit Go.ChangeMaps
theorem Tryz.own : ownKnob Tryz.prog.godebug = none := by kernel_rfl
theorem Tryz.laidOut : laidOutB Tryz.prog = true := by kernel_rfl
theorem d1j {xs : List Int} (h : ∀ x ∈ xs, (Lit.int .u8 x).wf = true) : a3e xs := by
  intro x hx
  have := h x hx
  simp [Lit.wf, IntKind.min, IntKind.max, IntKind.signed, IntKind.bits] at this
  omega
noncomputable abbrev fnOneRule_laid : List (String × DataW Unit) := Rows.fnOneRuleRow.laid
abbrev fnOneRule_great : List String := ["math/bits.deBruijn32tab", "math/bits.deBruijn64tab", "internal/strconv.uint64pow10", "unicode/utf8.acceptRanges", "strconv.ErrRange", "strconv.ErrSyntax", "unicode/utf8.first"]
theorem fnOneRule_env {W : World} (h : laidMetH Tryz.prog fnOneRule_laid W) (hs : W.ShapedOpen Tryz.prog) : ∃ rG, (Tryz.env rG).G W := by
  rw [MakeChecks.laidMetH_plain _ _ _ (by kernel_rfl)] at h
  obtain ⟨ps, hl, _, _⟩ := h
  obtain ⟨rG, hG1, hG2⟩ := c8e (i := 6) (n := "loop.example/countedchances/impl.gone") hl (by kernel_rfl) (by kernel_rfl) (by kernel_rfl) Tryz.underlying121 Tryz.underlying9 Tryz.underlying119 Tryz.underlying4 (by kernel_rfl) (by kernel_rfl)
  exact ⟨rG, ⟨cell_of_shapedOpen_int hs (of_decide_eq_true (by kernel_rfl)) (zero := #[.int .i64 0]) (by kernel_rfl) rfl (by kernel_rfl) (by kernel_rfl) Tryz.underlying3,
    c9u (i := 2) (g := 6) hl (by kernel_rfl) (by kernel_rfl) (by kernel_rfl) Tryz.underlying203 Tryz.underlying156 (by kernel_rfl) (by kernel_rfl),
    b1x (i := 5) hl rfl (by kernel_rfl) (by kernel_rfl) Tryz.underlying131, b1x (i := 4) hl rfl (by kernel_rfl) (by kernel_rfl) Tryz.underlying131⟩, hG1, hG2⟩
set_option maxRecDepth 100000 in
theorem fnOneRule_lifted (os : Os) (started : os.Started) (H : Type) (enc : TypeId × Value → H) :
    ReturnsInHanded {} Tryz.checked os 6 .any (fun w args => (Rows.fnOneRuleSpec.pre enc Tryz.prog Tryz.f6 Rows.fnOneRuleRow.domain false w args ∧ laidMetH Tryz.prog fnOneRule_laid w) ∧ sizedMet enc Tryz.prog Tryz.f6 (OpenSpec.ofChange Rows.fnOneRuleSpec) false w args)
      (Rows.fnOneRuleSpec.post enc Tryz.prog Tryz.f6 false true false false) := by
  refine c1y (C := Tryz.checked) (X := fun w _ => laidMetH Tryz.prog fnOneRule_laid w) (fun _ _ _ hh h => h.of_heap hh) Tryz.own started (by kernel_rfl) Tryz.func6
    (ChangeSpec.witness_shaped (enc := enc) (C := Tryz.checked) (os := os) (X := fun w _ => laidMetH Tryz.prog fnOneRule_laid w) false (a5p Tryz.prog os 0 (fnOneRule_laid.filter fun x => fnOneRule_great.contains x.1)) #[.slice none 0 0] 8 (c9f _ _ _ _)
      (World.shaped_of_ZipB (by kernel_rfl) (by kernel_rfl)) (by kernel_rfl) (by kernel_rfl) (by kernel_rfl)
      (by rw [MakeChecks.laidMetH_plain _ _ _ (by kernel_rfl)]; exact b7b _ fnOneRule_great 8 (by kernel_rfl) (by kernel_rfl) (by kernel_rfl) (by kernel_rfl) (by kernel_rfl) (by kernel_rfl))) ?_
  intro W base args ds gs before hval0 hW hsh hL
  obtain ⟨rG, hG⟩ := fnOneRule_env hL hsh
  have hval : ∀ (j : Nat) t v, Tryz.f6.params[j]? = some t → args[j]? = some v → Value.okWide Tryz.prog W .any base t v := hval0
  have hW' := hW
  obtain ⟨p, q, hA0, hV, rfl, hfz, hnd⟩ := hW
  have hA : DataW.TrodAll enc Tryz.prog W 0 (fun _ => true) true Tryz.f6.params.toList args.toList ds p := hA0
  rw [Tryz.params6] at hA hval
  obtain ⟨v0, vs0, d0, ds0, p0, q0, hargs, rfl, rfl, h0, r0⟩ := trodAll_cons hA
  obtain ⟨rfl, rfl, rfl⟩ := trodAll_nil r0
  obtain rfl : args = #[v0] := by cases args; simp_all
  obtain ⟨gd, rfl⟩ := c3h hV
  have hs0 : ∃ a n c, v0 = .slice a n c := okWide_slice Tryz.underlying22 (hval 0 22 v0 rfl rfl)
  obtain ⟨xs0, hrv0, hwf0⟩ := d2i Tryz.underlying22 Tryz.underlying5 (by kernel_rfl) hs0 h0
  refine (c6i (cxT (some rG)) Tryz.sound (av := [.list (xs0.map uV)]) rfl (fun i a hi => ?_) (fun a ha => ?_) (b9d xs0 (d1j hwf0)) (c2n hG) hG).mono fun e W' ⟨he, hB⟩ => ⟨_, he, ?_⟩
  · match i, hi with
    | 0, hi => cases hi; exact hrv0
  · simp at ha; subst ha; rfl
  · exact c7h Tryz.laidOut (of_decide_eq_true (by kernel_rfl)) (by kernel_rfl) hW' hB rfl Tryz.underlying4 rfl rfl rfl

theorem fnOneRule_k5 : joinedFacts Tryz.pinned.checked.prog 6 Tryz.f6 Rows.fnOneRuleSpec Rows.fnOneRuleRow = true := by
  unfold joinedFacts
  rw [fnOneRule_k1, fnOneRule_k2, fnOneRule_k3, fnOneRule_k4]
  kernel_rfl
theorem fnOneRule_row : Rows.FnOneRuleSaid :=
  OpenClaim.holds_of_wide 6 Tryz.f6 rfl rfl rfl rfl rfl rfl rfl ⟨rfl, rfl, rfl, rfl, rfl⟩ rfl rfl rfl rfl rfl (by kernel_rfl) Tryz.func6 fnOneRule_k5
    (of_decide_eq_true (by kernel_rfl)) (by unfold Func.isWrapper; first | (rw [if_pos (by decide +kernel)]; kernel_rfl) | (rw [if_neg (by decide +kernel)]; exact ⟨rfl, rfl⟩))
    (fun os started H enc _ => fnOneRule_lifted os started H enc)
theorem fnOneRule_holds : Rows.FnOneRuleCardSaid :=
  Claim7.holds_tied_plain_at .later [] [.data, .data, .data, .data, .sentinel, .sentinel, .mapped, .pinned] true (true, "09f11bc68134716a65fa63dd62439e46a2981186231944598669981704fbf200") true fnOneRule_row (fun _ h => by cases h) (by kernel_rfl) (fun _ h => by cases h) fnOneRule_row_tie rfl ⟨rfl, rfl⟩ (by kernel_rfl) rfl
    (fun f fn hf hfn => by
      obtain rfl : f = 6 := Option.some.inj ((show Tryz.prog.funcNamed "loop.example/countedchances/laws.FnOneRule" = some 6 by kernel_rfl).symm.trans hf) |>.symm
      obtain rfl : fn = Tryz.f6 := (Option.some.inj (Tryz.func6.symm.trans hfn)).symm
      exact ⟨fnOneRule_k6, fun j t ht => by
        rw [Tryz.params6] at ht
        have hm : t ∈ [22] := by have := Array.mem_of_getElem? ht; simpa using this
        have hall : ([22].all fun u => !Tryz.prog.wantsStandIn u) = true := by kernel_rfl
        exact (show Tryz.prog.wantsStandIn t = false by simpa using List.all_eq_true.1 hall t hm)⟩)
    fnOneRule_k7
#print axioms fnOneRule_holds
end Go.Proofs.YtcpmbhfnapijaaaGreatDoor
