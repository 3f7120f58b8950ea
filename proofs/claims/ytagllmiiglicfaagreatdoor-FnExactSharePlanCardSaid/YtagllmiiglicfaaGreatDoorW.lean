/- The law FnExactSharePlan returns true for every input and leaves it as it was. Conditions: none. -/
import Derived.Test.YtagllmiiglicfaaGreatDoorX
import Derived.LaidMore
import Derived.LaidLaws
import Derived.Lay
import Derived.Handed
import Derived.HandedShaped
import Derived.SevenTiedAt
import Derived.Stop.Joined
import Derived.Shelf.Vars
import Derived.Lib.LaidTab
import Derived.ChangeMaps5
import Derived.Test.YtagllmiiglicfaaGreatDoorRows
import Derived.Test.YtagllmiiglicfaaGreatDoorCards
import Derived.Test.YtagllmiiglicfaaGreatDoorTie
import Derived.Test.YtagllmiiglicfaaGreatDoorKa
import Derived.Test.YtagllmiiglicfaaGreatDoorKb

set_option linter.unusedVariables false
set_option linter.unusedSimpArgs false
section
/- Rows that list package variables: from their condition to what the text functions ask of the world. -/
namespace Go.Mv
open Go Go.RowKit Go.ChangeShapes Go.WideShapes Go.ChangeAt
section
variable {H : Type} {enc : TypeId × Value → H}
theorem b9d {a : Assume} {C : Checked} {os : Os} {f : FuncId} {fn : Func} {s : ChangeSpec} {conds : List PathCond} {apart fresh handsOn again : Bool} {X : World → Array Value → Prop}
    (hX : ∀ (w w' : World) (args : Array Value), w.heap = w'.heap → X w args → X w' args)
    (own : ownKnob C.prog.godebug = none) (started : os.Started) (noInit : C.prog.inits.idxOf? f = none) (hfn : C.prog.funcs[f]? = some fn)
    (witness : ∃ (w : World) (tape : Tape) (i : Input), w.os = os ∧ (w.forCall tape i).Shaped C.prog ∧ i.vars = [] ∧ Input.okWide C.prog (w.forCall tape i) .any w.heap.size f i ∧
      ((s.pre enc C.prog fn conds apart (w.forCall tape i).memory i.args ∧ X (w.forCall tape i).memory i.args) ∧ sizedMet enc C.prog fn (OpenSpec.ofChange s) apart (w.forCall tape i).memory i.args) ∧ a.holds C.prog (lone (Frame.enter C.prog f i.args .normal) [] (w.forCall tape i)))
    (contract : ∀ (W : World) (base : Nat) (args : Array Value) (ds gs : List (DataW H)) (before : List MemPlace),
      (∀ (j : Nat) t v, fn.params[j]? = some t → args[j]? = some v → Value.okWide C.prog W .any base t v) →
      DataW.Whole enc C.prog fn.params.toList s.vars apart W args.toList ds gs before → W.ShapedOpen C.prog → X W args →
      Calls C.prog f args W fun e W' => ∃ v, e = .returned v ∧ s.post enc C.prog fn apart fresh handsOn again W args v W') :
    ReturnsInHanded a C os f .any (fun w args => (s.pre enc C.prog fn conds apart w args ∧ X w args) ∧ sizedMet enc C.prog fn (OpenSpec.ofChange s) apart w args) (s.post enc C.prog fn apart fresh handsOn again) := by
  refine returnsInHanded_of_calls own started noInit witness ?_
  intro w tape i _ hsh _ hok hpre hholds
  obtain ⟨_, _, _, fn', hfn', _, _, _, _, hval⟩ := hok
  have e : fn' = fn := Option.some.inj (hfn'.symm.trans hfn)
  subst e
  obtain ⟨⟨⟨ds, gs, before, hw, hc⟩, hx⟩, hz⟩ := hpre
  have hw' := DataW.Whole.of_heap (w' := w.forCall tape i) (by rfl) hw
  refine (contract (w.forCall tape i) w.heap.size i.args ds gs before hval hw' hsh (hX _ _ _ (by rfl) hx)).mono fun e W' ⟨v, he, hp⟩ => ?_
  subst he
  exact ChangeSpec.post_blind hp
end
section
variable {P : Program} {W : World}
theorem b8m : ∀ {laid : List (String × DataW Unit)} {ps : List MemPlace} {i : Nat} {n : String} {d : DataW Unit}, DataW.LaidVars P W laid ps → laid[i]? = some (n, d) →
    ∃ g t cs fuel p, P.globalNamed n = some g ∧ (P.globals[g]?).map (·.type) = some t ∧ W.var? P n = some cs ∧ DataW.trod (fun _ => ()) P W 0 (fun _ => true) false fuel t cs.toList = some (d, p)
  | [], _, _, _, _, _, h => by simp at h
  | (n0, d0) :: r, _, 0, n, d, ⟨g, t, cs, fuel, p, q, h1, h2, h3, h4, _, _⟩, h => by
    simp only [List.getElem?_cons_zero, Option.some.injEq, Prod.mk.injEq] at h
    obtain ⟨rfl, rfl⟩ := h
    exact ⟨g, t, cs, fuel, p, h1, h2, h3, h4⟩
  | (n0, d0) :: r, _, i + 1, n, d, ⟨g, t, cs, fuel, p, q, _, _, _, _, h5, _⟩, h => b8m h5 (by simpa using h)
theorem b2x {laid : List (String × DataW Unit)} {ps : List MemPlace} {i g t : Nat} {n nm : String} {d : DataW Unit} {ms : Array (String × TypeId)} (hl : DataW.LaidVars P W laid ps) (hi : laid[i]? = some (n, .iface nm d))
    (hg : P.globalNamed n = some g) (ht : (P.globals[g]?).map (·.type) = some t) (hu : P.underlying t = some (.interface ms)) : ∃ ev, W.cell? ⟨g, 0, none⟩ = some ev ∧ (ev = .nilIface ∨ ∃ te pe, ev = .iface te pe) := by
  obtain ⟨g', t', cs, fuel, p, h1, h2, h3, h4⟩ := b8m hl hi
  obtain rfl := Option.some.inj (hg.symm.trans h1)
  obtain rfl := Option.some.inj (ht.symm.trans h2)
  obtain ⟨_, u, v, h5, _, _⟩ := iface_of_trod hu h4
  refine ⟨.iface u v, ?_, .inr ⟨u, v, rfl⟩⟩
  rw [World.var?_cell hg h3 0]
  have : cs = #[.iface u v] := by cases cs; simp at h5; subst h5; rfl
  subst this; rfl
theorem d0d {laid : List (String × DataW Unit)} {ps : List MemPlace} {i g t e m : Nat} {n : String} {k : IntKind} {zs : List Int} (hl : DataW.LaidVars P W laid ps) (hi : laid[i]? = some (n, Lib.tabData k zs))
    (hg : P.globalNamed n = some g) (ht : (P.globals[g]?).map (·.type) = some t) (hu : P.underlying t = some (.array m e)) (he : P.underlying e = some (.int k)) (hce : P.cellsOf e = 1) (hct : P.cellsOf t = m) : Lib.TabIs P W n k zs := by
  obtain ⟨g', t', cs, fuel, p, h1, h2, h3, h4⟩ := b8m hl hi
  obtain rfl := Option.some.inj (hg.symm.trans h1)
  obtain rfl := Option.some.inj (ht.symm.trans h2)
  unfold Lib.TabIs
  rw [h3, ← Lib.cells_of_tab hu he hce hct h4]
theorem d2y {n : String} {g : Nat} {cs : Array Value} (hg : P.globalNamed n = some g) (h : W.var? P n = some cs) : g < W.heap.size := by
  unfold World.var? at h
  rw [hg, Option.bind_some] at h
  split at h
  · rename_i hh
    exact (Array.getElem?_eq_some_iff.1 hh).1
  · cases h
theorem b7j {a : Addr} {v : Value} (h : W.cell? a = some v) : a.block < W.heap.size := by
  unfold World.cell? at h
  split at h
  · rename_i hh
    exact (Array.getElem?_eq_some_iff.1 hh).1
  · cases h
theorem c6v {gM gP gS gR : Nat} {hP : P.globalNamed "internal/strconv.uint64pow10" = some gP} (h : (txtEnv P gM gP gS gR hP).G W) : ∀ b, (txtEnv P gM gP gS gR hP).gb b → b < W.heap.size := by
  obtain ⟨⟨m, h1⟩, h2, ⟨e1, h3, _⟩, ⟨e2, h5, _⟩⟩ := h
  intro b hb
  rcases hb with rfl | rfl | rfl | rfl
  · exact b7j h1
  · exact d2y hP h2
  · exact b7j h3
  · exact b7j h5
end
end Go.Mv
end
namespace Go.Proofs.YtagllmiiglicfaaGreatDoor
open Go Go.Mv Go.ChangeShapes Go.WideShapes Go.ChangeAt Go.RowKit Go.ChangeMaps
theorem Tryz.own : ownKnob Tryz.prog.godebug = none := by kernel_rfl
theorem Tryz.laidOut : laidOutB Tryz.prog = true := by kernel_rfl
noncomputable abbrev fnExactSharePlan_laid : List (String × DataW Unit) := Rows.fnExactSharePlanRow.laid
theorem fnExactSharePlan_env {W : World} (h : laidMetH Tryz.prog fnExactSharePlan_laid W) (hs : W.ShapedOpen Tryz.prog) : Tryz.env.G W := by
  rw [MakeChecks.laidMetH_plain _ _ _ (by kernel_rfl)] at h
  obtain ⟨ps, hl, _, _⟩ := h
  exact ⟨cell_of_shapedOpen_int hs (of_decide_eq_true (by kernel_rfl)) (zero := #[.int .i64 0]) (by kernel_rfl) rfl (by kernel_rfl) (by kernel_rfl) Tryz.underlying3,
    d0d (i := 2) (g := 5) hl (by kernel_rfl) (by kernel_rfl) (by kernel_rfl) Tryz.underlying131 Tryz.underlying103 (by kernel_rfl) (by kernel_rfl),
    b2x (i := 5) hl rfl (by kernel_rfl) (by kernel_rfl) Tryz.underlying78, b2x (i := 4) hl rfl (by kernel_rfl) (by kernel_rfl) Tryz.underlying78⟩
set_option maxRecDepth 100000 in
theorem fnExactSharePlan_lifted (os : Os) (started : os.Started) (H : Type) (enc : TypeId × Value → H) :
    ReturnsInHanded {} Tryz.checked os 3 .any (fun w args => (Rows.fnExactSharePlanSpec.pre enc Tryz.prog Tryz.f3 Rows.fnExactSharePlanRow.domain false w args ∧ laidMetH Tryz.prog fnExactSharePlan_laid w) ∧ sizedMet enc Tryz.prog Tryz.f3 (OpenSpec.ofChange Rows.fnExactSharePlanSpec) false w args)
      (Rows.fnExactSharePlanSpec.post enc Tryz.prog Tryz.f3 false true false false) := by
  refine b9d (C := Tryz.checked) (X := fun w _ => laidMetH Tryz.prog fnExactSharePlan_laid w) (fun _ _ _ hh h => h.of_heap hh) Tryz.own started (by kernel_rfl) Tryz.func3
    (ChangeSpec.witness_shaped (enc := enc) (C := Tryz.checked) (os := os) (X := fun w _ => laidMetH Tryz.prog fnExactSharePlan_laid w) false (World.laidAll Tryz.prog os fnExactSharePlan_laid) #[.string ByteArray.empty] 8 (World.laidAll_os _ _ _)
      (World.shaped_of_ZipB (by kernel_rfl) (by kernel_rfl)) (by kernel_rfl) (by kernel_rfl) (by kernel_rfl)
      (by rw [MakeChecks.laidMetH_plain _ _ _ (by kernel_rfl)]; exact laidMet_laidAll _ (by kernel_rfl) (by kernel_rfl))) ?_
  intro W base args ds gs before hval0 hW hsh hL
  have hG := fnExactSharePlan_env hL hsh
  have hval : ∀ (j : Nat) t v, Tryz.f3.params[j]? = some t → args[j]? = some v → Value.okWide Tryz.prog W .any base t v := hval0
  have hW' := hW
  obtain ⟨p, q, hA0, hV, rfl, hfz, hnd⟩ := hW
  have hA : DataW.TrodAll enc Tryz.prog W 0 (fun _ => true) true Tryz.f3.params.toList args.toList ds p := hA0
  rw [Tryz.params3] at hA hval
  obtain ⟨v0, vs0, d0, ds0, p0, q0, hargs, rfl, rfl, h0, r0⟩ := trodAll_cons hA
  obtain ⟨rfl, rfl, rfl⟩ := trodAll_nil r0
  obtain rfl : args = #[v0] := by cases args; simp_all
  obtain ⟨rfl, rfl⟩ := trodVars_none hV
  obtain ⟨xs0, rfl, rfl, rfl, hsz0⟩ := open_string Tryz.underlying9 (hval 0 9 v0 rfl rfl) h0
  refine (c6l cxT Tryz.sound (av := [tV xs0.data.toList]) rfl (fun i a hi => ?_) (fun a ha => ?_) (a5r xs0.data.toList) (c6v hG) hG).mono fun e W' ⟨he, hB⟩ => ⟨_, he, ?_⟩
  · match i, hi with
    | 0, hi => cases hi; exact (by rw [show tV xs0.data.toList = sV xs0 from congrArg sV (a5e xs0)]; exact .val _)
  · simp at ha; subst ha; rfl
  · exact d0e Tryz.laidOut (of_decide_eq_true (by kernel_rfl)) hW' hB rfl rfl Tryz.underlying4 rfl rfl rfl

theorem fnExactSharePlan_k5 : joinedFacts Tryz.pinned.checked.prog 3 Tryz.f3 Rows.fnExactSharePlanSpec Rows.fnExactSharePlanRow = true := by
  unfold joinedFacts
  rw [fnExactSharePlan_k1, fnExactSharePlan_k2, fnExactSharePlan_k3, fnExactSharePlan_k4]
  kernel_rfl
theorem fnExactSharePlan_row : Rows.FnExactSharePlanSaid :=
  OpenClaim.holds_of_wide 3 Tryz.f3 rfl rfl rfl rfl rfl rfl rfl ⟨rfl, rfl, rfl, rfl, rfl⟩ rfl rfl rfl rfl rfl (by kernel_rfl) Tryz.func3 fnExactSharePlan_k5
    (of_decide_eq_true (by kernel_rfl)) (by unfold Func.isWrapper; first | (rw [if_pos (by decide +kernel)]; kernel_rfl) | (rw [if_neg (by decide +kernel)]; exact ⟨rfl, rfl⟩))
    (fun os started H enc _ => fnExactSharePlan_lifted os started H enc)
theorem fnExactSharePlan_holds : Rows.FnExactSharePlanCardSaid :=
  Claim7.holds_tied_plain_at .later [] [.data, .data, .data, .data, .sentinel, .sentinel, .pinned] true (true, "5b78044bc8eae15654efa9ce01b1e76d5112e8ebba24b94d35f1a71cb47b8c1d") true fnExactSharePlan_row (fun _ h => by cases h) (by kernel_rfl) (fun _ h => by cases h) fnExactSharePlan_row_tie rfl ⟨rfl, rfl⟩ (by kernel_rfl) rfl
    (fun f fn hf hfn => by
      obtain rfl : f = 3 := Option.some.inj ((show Tryz.prog.funcNamed "loop.example/countedchances/laws.FnExactSharePlan" = some 3 by kernel_rfl).symm.trans hf) |>.symm
      obtain rfl : fn = Tryz.f3 := (Option.some.inj (Tryz.func3.symm.trans hfn)).symm
      exact ⟨fnExactSharePlan_k6, fun j t ht => by
        rw [Tryz.params3] at ht
        have hm : t ∈ [9] := by have := Array.mem_of_getElem? ht; simpa using this
        have hall : ([9].all fun u => !Tryz.prog.wantsStandIn u) = true := by kernel_rfl
        exact (show Tryz.prog.wantsStandIn t = false by simpa using List.all_eq_true.1 hall t hm)⟩)
    fnExactSharePlan_k7
#print axioms fnExactSharePlan_holds
end Go.Proofs.YtagllmiiglicfaaGreatDoor
