/- The law FnFoldPlan returns true for every input and leaves it as it was. Conditions: none. -/
import Derived.Test.YtcpmbhfnapijaaaGreatDoorX
import Derived.LaidMore
import Derived.LaidLaws
import Derived.Lay
import Derived.Handed
import Derived.HandedShaped
import Derived.SevenTiedAt
import Derived.Stop.Joined
import Derived.Shelf.Vars
import Derived.Lib.LaidTab
import Derived.ChangeMaps5
import Derived.Test.YtcpmbhfnapijaaaGreatDoorRows
import Derived.Test.YtcpmbhfnapijaaaGreatDoorCards
import Derived.Test.YtcpmbhfnapijaaaGreatDoorTie
import Derived.Test.YtcpmbhfnapijaaaGreatDoorKa
import Derived.Test.YtcpmbhfnapijaaaGreatDoorKb

set_option linter.unusedVariables false
set_option linter.unusedSimpArgs false
section
/- Rows that list package variables: from their condition to what the text functions ask of the world. -/
namespace Go.Mv
open Go Go.RowKit Go.ChangeShapes Go.WideShapes Go.ChangeAt
section
variable {H : Type} {enc : TypeId × Value → H}
theorem c3z {a : Assume} {C : Checked} {os : Os} {f : FuncId} {fn : Func} {s : ChangeSpec} {conds : List PathCond} {apart fresh handsOn again : Bool} {X : World → Array Value → Prop}
    (hX : ∀ (w w' : World) (args : Array Value), w.heap = w'.heap → X w args → X w' args)
    (own : ownKnob C.prog.godebug = none) (started : os.Started) (noInit : C.prog.inits.idxOf? f = none) (hfn : C.prog.funcs[f]? = some fn)
    (witness : ∃ (w : World) (tape : Tape) (i : Input), w.os = os ∧ (w.forCall tape i).Shaped C.prog ∧ i.vars = [] ∧ Input.okWide C.prog (w.forCall tape i) .any w.heap.size f i ∧
      ((s.pre enc C.prog fn conds apart (w.forCall tape i).memory i.args ∧ X (w.forCall tape i).memory i.args) ∧ sizedMet enc C.prog fn (OpenSpec.ofChange s) apart (w.forCall tape i).memory i.args) ∧ a.holds C.prog (lone (Frame.enter C.prog f i.args .normal) [] (w.forCall tape i)))
    (contract : ∀ (W : World) (base : Nat) (args : Array Value) (ds gs : List (DataW H)) (before : List MemPlace),
      (∀ (j : Nat) t v, fn.params[j]? = some t → args[j]? = some v → Value.okWide C.prog W .any base t v) →
      DataW.Whole enc C.prog fn.params.toList s.vars apart W args.toList ds gs before → W.ShapedOpen C.prog → X W args →
      Calls C.prog f args W fun e W' => ∃ v, e = .returned v ∧ s.post enc C.prog fn apart fresh handsOn again W args v W') :
    ReturnsInHanded a C os f .any (fun w args => (s.pre enc C.prog fn conds apart w args ∧ X w args) ∧ sizedMet enc C.prog fn (OpenSpec.ofChange s) apart w args) (s.post enc C.prog fn apart fresh handsOn again) := by
  refine returnsInHanded_of_calls own started noInit witness ?_
  intro w tape i _ hsh _ hok hpre hholds
  obtain ⟨_, _, _, fn', hfn', _, _, _, _, hval⟩ := hok
  have e : fn' = fn := Option.some.inj (hfn'.symm.trans hfn)
  subst e
  obtain ⟨⟨⟨ds, gs, before, hw, hc⟩, hx⟩, hz⟩ := hpre
  have hw' := DataW.Whole.of_heap (w' := w.forCall tape i) (by rfl) hw
  refine (contract (w.forCall tape i) w.heap.size i.args ds gs before hval hw' hsh (hX _ _ _ (by rfl) hx)).mono fun e W' ⟨v, he, hp⟩ => ?_
  subst he
  exact ChangeSpec.post_blind hp
end
section
variable {P : Program} {W : World}
theorem b8q : ∀ {laid : List (String × DataW Unit)} {ps : List MemPlace} {i : Nat} {n : String} {d : DataW Unit}, DataW.LaidVars P W laid ps → laid[i]? = some (n, d) →
    ∃ g t cs fuel p, P.globalNamed n = some g ∧ (P.globals[g]?).map (·.type) = some t ∧ W.var? P n = some cs ∧ DataW.trod (fun _ => ()) P W 0 (fun _ => true) false fuel t cs.toList = some (d, p)
  | [], _, _, _, _, _, h => by simp at h
  | (n0, d0) :: r, _, 0, n, d, ⟨g, t, cs, fuel, p, q, h1, h2, h3, h4, _, _⟩, h => by
    simp only [List.getElem?_cons_zero, Option.some.injEq, Prod.mk.injEq] at h
    obtain ⟨rfl, rfl⟩ := h
    exact ⟨g, t, cs, fuel, p, h1, h2, h3, h4⟩
  | (n0, d0) :: r, _, i + 1, n, d, ⟨g, t, cs, fuel, p, q, _, _, _, _, h5, _⟩, h => b8q h5 (by simpa using h)
theorem b3r {laid : List (String × DataW Unit)} {ps : List MemPlace} {i g t : Nat} {n nm : String} {d : DataW Unit} {ms : Array (String × TypeId)} (hl : DataW.LaidVars P W laid ps) (hi : laid[i]? = some (n, .iface nm d))
    (hg : P.globalNamed n = some g) (ht : (P.globals[g]?).map (·.type) = some t) (hu : P.underlying t = some (.interface ms)) : ∃ ev, W.cell? ⟨g, 0, none⟩ = some ev ∧ (ev = .nilIface ∨ ∃ te pe, ev = .iface te pe) := by
  obtain ⟨g', t', cs, fuel, p, h1, h2, h3, h4⟩ := b8q hl hi
  obtain rfl := Option.some.inj (hg.symm.trans h1)
  obtain rfl := Option.some.inj (ht.symm.trans h2)
  obtain ⟨_, u, v, h5, _, _⟩ := iface_of_trod hu h4
  refine ⟨.iface u v, ?_, .inr ⟨u, v, rfl⟩⟩
  rw [World.var?_cell hg h3 0]
  have : cs = #[.iface u v] := by cases cs; simp at h5; subst h5; rfl
  subst this; rfl
theorem d2q {laid : List (String × DataW Unit)} {ps : List MemPlace} {i g t e m : Nat} {n : String} {k : IntKind} {zs : List Int} (hl : DataW.LaidVars P W laid ps) (hi : laid[i]? = some (n, Lib.tabData k zs))
    (hg : P.globalNamed n = some g) (ht : (P.globals[g]?).map (·.type) = some t) (hu : P.underlying t = some (.array m e)) (he : P.underlying e = some (.int k)) (hce : P.cellsOf e = 1) (hct : P.cellsOf t = m) : Lib.TabIs P W n k zs := by
  obtain ⟨g', t', cs, fuel, p, h1, h2, h3, h4⟩ := b8q hl hi
  obtain rfl := Option.some.inj (hg.symm.trans h1)
  obtain rfl := Option.some.inj (ht.symm.trans h2)
  unfold Lib.TabIs
  rw [h3, ← Lib.cells_of_tab hu he hce hct h4]
theorem d6j {n : String} {g : Nat} {cs : Array Value} (hg : P.globalNamed n = some g) (h : W.var? P n = some cs) : g < W.heap.size := by
  unfold World.var? at h
  rw [hg, Option.bind_some] at h
  split at h
  · rename_i hh
    exact (Array.getElem?_eq_some_iff.1 hh).1
  · cases h
theorem b9u {a : Addr} {v : Value} (h : W.cell? a = some v) : a.block < W.heap.size := by
  unfold World.cell? at h
  split at h
  · rename_i hh
    exact (Array.getElem?_eq_some_iff.1 hh).1
  · cases h
theorem c9s {gM gP gS gR : Nat} {hP : P.globalNamed "internal/strconv.uint64pow10" = some gP} (h : (txtEnv P gM gP gS gR hP).G W) : ∀ b, (txtEnv P gM gP gS gR hP).gb b → b < W.heap.size := by
  obtain ⟨⟨m, h1⟩, h2, ⟨e1, h3, _⟩, ⟨e2, h5, _⟩⟩ := h
  intro b hb
  rcases hb with rfl | rfl | rfl | rfl
  · exact b9u h1
  · exact d6j hP h2
  · exact b9u h3
  · exact b9u h5
end
end Go.Mv
end
namespace Go.Proofs.YtcpmbhfnapijaaaGreatDoor
open Go Go.Mv Go.ChangeShapes Go.WideShapes Go.ChangeAt Go.RowKit Go.ChangeMaps
theorem Tryz.own : ownKnob Tryz.prog.godebug = none := by kernel_rfl
theorem Tryz.laidOut : laidOutB Tryz.prog = true := by kernel_rfl
theorem d2w {xs : List Int} (h : ∀ x ∈ xs, (Lit.int .u8 x).wf = true) : a3r xs := by
  intro x hx
  have := h x hx
  simp [Lit.wf, IntKind.min, IntKind.max, IntKind.signed, IntKind.bits] at this
  omega
noncomputable abbrev fnFoldPlan_laid : List (String × DataW Unit) := Rows.fnFoldPlanRow.laid
theorem fnFoldPlan_env {W : World} (h : laidMetH Tryz.prog fnFoldPlan_laid W) (hs : W.ShapedOpen Tryz.prog) : Tryz.env.G W := by
  rw [MakeChecks.laidMetH_plain _ _ _ (by kernel_rfl)] at h
  obtain ⟨ps, hl, _, _⟩ := h
  exact ⟨cell_of_shapedOpen_int hs (of_decide_eq_true (by kernel_rfl)) (zero := #[.int .i64 0]) (by kernel_rfl) rfl (by kernel_rfl) (by kernel_rfl) Tryz.underlying3,
    d2q (i := 2) (g := 6) hl (by kernel_rfl) (by kernel_rfl) (by kernel_rfl) Tryz.underlying203 Tryz.underlying156 (by kernel_rfl) (by kernel_rfl),
    b3r (i := 5) hl rfl (by kernel_rfl) (by kernel_rfl) Tryz.underlying131, b3r (i := 4) hl rfl (by kernel_rfl) (by kernel_rfl) Tryz.underlying131⟩
set_option maxRecDepth 100000 in
theorem fnFoldPlan_lifted (os : Os) (started : os.Started) (H : Type) (enc : TypeId × Value → H) :
    ReturnsInHanded {} Tryz.checked os 12 .any (fun w args => (Rows.fnFoldPlanSpec.pre enc Tryz.prog Tryz.f12 Rows.fnFoldPlanRow.domain false w args ∧ laidMetH Tryz.prog fnFoldPlan_laid w) ∧ sizedMet enc Tryz.prog Tryz.f12 (OpenSpec.ofChange Rows.fnFoldPlanSpec) false w args)
      (Rows.fnFoldPlanSpec.post enc Tryz.prog Tryz.f12 false true false false) := by
  refine c3z (C := Tryz.checked) (X := fun w _ => laidMetH Tryz.prog fnFoldPlan_laid w) (fun _ _ _ hh h => h.of_heap hh) Tryz.own started (by kernel_rfl) Tryz.func12
    (ChangeSpec.witness_shaped (enc := enc) (C := Tryz.checked) (os := os) (X := fun w _ => laidMetH Tryz.prog fnFoldPlan_laid w) false (World.laidAll Tryz.prog os fnFoldPlan_laid) #[.slice none 0 0] 8 (World.laidAll_os _ _ _)
      (World.shaped_of_ZipB (by kernel_rfl) (by kernel_rfl)) (by kernel_rfl) (by kernel_rfl) (by kernel_rfl)
      (by rw [MakeChecks.laidMetH_plain _ _ _ (by kernel_rfl)]; exact laidMet_laidAll _ (by kernel_rfl) (by kernel_rfl))) ?_
  intro W base args ds gs before hval0 hW hsh hL
  have hG := fnFoldPlan_env hL hsh
  have hval : ∀ (j : Nat) t v, Tryz.f12.params[j]? = some t → args[j]? = some v → Value.okWide Tryz.prog W .any base t v := hval0
  have hW' := hW
  obtain ⟨p, q, hA0, hV, rfl, hfz, hnd⟩ := hW
  have hA : DataW.TrodAll enc Tryz.prog W 0 (fun _ => true) true Tryz.f12.params.toList args.toList ds p := hA0
  rw [Tryz.params12] at hA hval
  obtain ⟨v0, vs0, d0, ds0, p0, q0, hargs, rfl, rfl, h0, r0⟩ := trodAll_cons hA
  obtain ⟨rfl, rfl, rfl⟩ := trodAll_nil r0
  obtain rfl : args = #[v0] := by cases args; simp_all
  obtain ⟨rfl, rfl⟩ := trodVars_none hV
  have hs0 : ∃ a n c, v0 = .slice a n c := okWide_slice Tryz.underlying22 (hval 0 22 v0 rfl rfl)
  obtain ⟨xs0, hrv0, hwf0⟩ := d5t Tryz.underlying22 Tryz.underlying5 (by kernel_rfl) hs0 h0
  refine (c8t (cxT none) Tryz.sound (av := [.list (xs0.map uV)]) rfl (fun i a hi => ?_) (fun a ha => ?_) (b9j xs0 (d2w hwf0)) (c9s hG) hG).mono fun e W' ⟨he, hB⟩ => ⟨_, he, ?_⟩
  · match i, hi with
    | 0, hi => cases hi; exact hrv0
  · simp at ha; subst ha; rfl
  · exact d1t Tryz.laidOut (of_decide_eq_true (by kernel_rfl)) hW' hB rfl rfl Tryz.underlying4 rfl rfl rfl

theorem fnFoldPlan_k5 : joinedFacts Tryz.pinned.checked.prog 12 Tryz.f12 Rows.fnFoldPlanSpec Rows.fnFoldPlanRow = true := by
  unfold joinedFacts
  rw [fnFoldPlan_k1, fnFoldPlan_k2, fnFoldPlan_k3, fnFoldPlan_k4]
  kernel_rfl
theorem fnFoldPlan_row : Rows.FnFoldPlanSaid :=
  OpenClaim.holds_of_wide 12 Tryz.f12 rfl rfl rfl rfl rfl rfl rfl ⟨rfl, rfl, rfl, rfl, rfl⟩ rfl rfl rfl rfl rfl (by kernel_rfl) Tryz.func12 fnFoldPlan_k5
    (of_decide_eq_true (by kernel_rfl)) (by unfold Func.isWrapper; first | (rw [if_pos (by decide +kernel)]; kernel_rfl) | (rw [if_neg (by decide +kernel)]; exact ⟨rfl, rfl⟩))
    (fun os started H enc _ => fnFoldPlan_lifted os started H enc)
theorem fnFoldPlan_holds : Rows.FnFoldPlanCardSaid :=
  Claim7.holds_tied_plain_at .later [] [.data, .data, .data, .data, .sentinel, .sentinel, .pinned] true (true, "09f11bc68134716a65fa63dd62439e46a2981186231944598669981704fbf200") true fnFoldPlan_row (fun _ h => by cases h) (by kernel_rfl) (fun _ h => by cases h) fnFoldPlan_row_tie rfl ⟨rfl, rfl⟩ (by kernel_rfl) rfl
    (fun f fn hf hfn => by
      obtain rfl : f = 12 := Option.some.inj ((show Tryz.prog.funcNamed "loop.example/countedchances/laws.FnFoldPlan" = some 12 by kernel_rfl).symm.trans hf) |>.symm
      obtain rfl : fn = Tryz.f12 := (Option.some.inj (Tryz.func12.symm.trans hfn)).symm
      exact ⟨fnFoldPlan_k6, fun j t ht => by
        rw [Tryz.params12] at ht
        have hm : t ∈ [22] := by have := Array.mem_of_getElem? ht; simpa using this
        have hall : ([22].all fun u => !Tryz.prog.wantsStandIn u) = true := by kernel_rfl
        exact (show Tryz.prog.wantsStandIn t = false by simpa using List.all_eq_true.1 hall t hm)⟩)
    fnFoldPlan_k7
#print axioms fnFoldPlan_holds
end Go.Proofs.YtcpmbhfnapijaaaGreatDoor
