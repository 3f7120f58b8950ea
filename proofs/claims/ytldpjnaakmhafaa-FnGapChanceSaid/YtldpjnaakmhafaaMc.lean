/- The abstract machine, part 3 of 4: it runs the model's code on abstract values and is proved sound over any program. Conditions: none. -/
import Derived.Below
import Derived.Laws.AppendOwn
import Derived.LoopNIn
import Derived.OpenShut
import Derived.ProofKit
import Derived.RangeFuncLeaves
import Derived.RangeFuncNested
import Derived.Sort.Grow
import Derived.Test.YtldpjnaakmhafaaMb

set_option linter.unusedVariables false
set_option linter.unusedSimpArgs false
section
namespace Go.Mv
open Go
def b9z (F : Fl) (res : AV) : Prop := ∀ κ f, F κ = some f → D8 f.es = true ∧ (hasList res = false → C8 f.es = false)
def ArgOk (w : World) (D : Nat → Prop) : AV → Prop
 | .own _ es => D8 es = true
 | .ownp es _ _ => H9 es = true
 | .clo _ caps => ∀ c ∈ caps, (∃ es i j, c = .ownp es i j ∧ H9 es = true) ∨ ∃ v, RV w D c v
 | a => ∃ v, RV w D a v
def T3 (Γ : Env) (P : Program) (md : Nat → Nat) (f : Nat) (as : List AV) (res : AV) (outs : List (List AV)) : Prop :=
 ∀ (w : World) (A O0 : Nat → Prop) (ν0 : Nu) (D : Nat → Prop) (vals : Array Value), (∀ b, O0 b → A b) →
  Rel Γ w A O0 ν0 as.length Fl.emp D (initLoc md as) ν0 vals w → (∀ a ∈ as, ArgOk w D a) →
  Calls P f vals w fun e w' => ∃ v, e = .returned v ∧ ∃ F' D' st' ν', Rel Γ w A O0 ν0 0 F' D' st' ν' #[] w' ∧ outsOf st' (cidAll md 0 as) = some outs ∧ a1v F' D' w' res v ∧ b9z F' res
def Enters (P : Program) (f : Nat) : Prop := ∃ fn, P.funcs[f]? = some fn ∧ (fn.name == "runtime.NumGoroutine") = false ∧ fn.body.isNone = false
def SoundC (Γ : Env) (cx : Cx) (C : Caller) : Prop := GlOk Γ cx ∧ ∀ f as res outs, C f as = some (res, outs) → T3 Γ cx.P (cx.md f) f as res outs ∧ Enters cx.P f
theorem a4i {P : Program} {f : Nat} (h : Enters P f) (args : Array Value) (w : World) : (callFunc f args).run P w = .ok (.enter f args) w := by
 obtain ⟨fn, h1, h2, h3⟩ := h
 have h2' : fn.name ≠ "runtime.NumGoroutine" := by simpa using h2
 have h3' : fn.body ≠ none := by intro e; simp [e] at h3
 simp [callFunc, Sem.run_bind, h1, h2', h3']
section
variable {P : Program} {C : Caller} {Γ : Env} {w0 : World} {A O0 : Nat → Prop} {ν0 : Nu} {N : Nat} {F : Fl} {D : Nat → Prop} {st : St} {ν : Nu} {tm : Array Value} {w : World}
theorem PArg.ok {ids : List (Nat × Bool)} {i md : Nat} {v a : AV} {val : Value} (h : PArg F D st ν w ids i md v a val) : ArgOk w (DL D st F ν ids) a := by
 cases h with
 | data _ _ _ _ hr =>
  have hr' := hr
  cases hr with
  | clo f caps vs hs hl =>
   intro c hc
   obtain ⟨k, hk⟩ := List.mem_iff_getElem?.1 hc
   exact .inr ⟨_, hl k c hk⟩
  | _ => exact ⟨_, hr'⟩
 | moved id g n s es φ _ hmd hF hv hr hid => exact hr
 | lentS id g p m s es _ hmd hn hm hbx hi hid hv =>
  show D8 es = true
  unfold D8
  rw [List.all_eq_true]
  intro e he
  have hie : I1 e = true := List.all_eq_true.1 hi e he
  cases e <;> simp_all [I1, K1]
 | lentP _ _ _ hb =>
  obtain ⟨id, g, j, m, s, es, b, o, rfl, rfl, h3, h4, h5, h6, h7, h8⟩ := hb
  exact h5
 | clo f caps caps' cs M hmd hlc hs hM hsep hc =>
  intro c hmem
  obtain ⟨k, hk⟩ := List.mem_iff_getElem?.1 hmem
  have hkl : k < caps'.length := (List.getElem?_eq_some_iff.1 hk).1
  rcases hc k _ c (List.getElem?_eq_getElem (by omega)) hk with ⟨hr, _⟩ | ⟨id, g, j, m, s, es, b, o, _, rfl, h3, h4, h5, _⟩
  ·exact .inr ⟨_, hr⟩
  ·exact .inl ⟨es, 0, j, rfl, h5⟩
theorem ArgOk.wider {D2 : Nat → Prop} {a : AV} (h : ArgOk w D a) (hD : ∀ b, D b → D2 b) : ArgOk w D2 a := by
 cases a <;> first
  | exact h
  | (obtain ⟨v, hv⟩ := h; exact ⟨v, hv.wider hD⟩)
  | (intro c hc; rcases h c hc with h | ⟨v, hv⟩; exact .inl h; exact .inr ⟨v, hv.wider hD⟩)
theorem c3u (cx : Cx) (hS : SoundC Γ cx C) (hOA : ∀ b, O0 b → A b) (R : Rel Γ w0 A O0 ν0 N Fl.emp D st ν tm w) {ds : List Deferred} {k : Nat} {d : Option Nat} {args : List AV} {vals : List Value} {a : AV} {st' : St}
  (h : (b4s cx d k args).go C st = some (a, st')) (hr : RL st ν w D args vals) {next : Value → World → Prop} {Rq : Ending → World → Prop}
  (hn : ∀ v D' ν' w', Rel Γ w0 A O0 ν0 N Fl.emp D' st' ν' tm w' → RS st' ν' w' D' a v → Rq (.returned v) w') : Calls cx.P k vals.toArray w Rq ∧ Enters cx.P k := by
 unfold b4s at h
 simp only [RW.go_bind, RW.go_up, B3, c1p, Option.bind_eq_some_iff, Option.map_eq_some_iff] at h
 obtain ⟨⟨⟨as, ids⟩, st1⟩, h1, _, ⟨_, h2, rfl⟩, _, ⟨⟨res, outs⟩, h3, rfl⟩, _, ⟨_, h4, rfl⟩, ⟨u, st2⟩, h5, h6⟩ := h
 obtain ⟨hap, hnT, hnC, hlen, hcaps⟩ := B4 h2
 have h4 := B4 h4
 simp only at hap hnT hnC hlen hcaps h3 h4 h5
 obtain ⟨F1, D1, L, hD1, R1, E1, hF1, hf1, hlas, hL, hL', hS', hp⟩ := b0b hOA (cx.md k) args as ids vals 0 Fl.emp D st st1 (fun _ _ => rfl) R h1 hap hr
 have hlv : vals.length = args.length := hr.1
 obtain ⟨hzip, hsub⟩ := c1t (md := cx.md k) (as0 := as) (ids := ids) hcaps args as vals L 0 hlas hlv (by omega) hL (fun j a hj => by rw [Nat.zero_add]; exact hj) hp
 have H : Hand Γ w0 A O0 ν0 N F1 D1 st1 ν tm w (cx.md k) ids (T8 (cx.md k) 0 args) as vals := by
  refine ⟨R1, hap, hnT, hnC, hlen, by omega, hzip, fun j a ha => ?_, hcaps⟩
  have hj : j < as.length := (List.getElem?_eq_some_iff.1 ha).1
  have hv : args[j]? = some (args[j]'(by omega)) := List.getElem?_eq_getElem (by omega)
  have hx : vals[j]? = some (vals[j]'(by omega)) := List.getElem?_eq_getElem (by omega)
  refine ⟨L j, args[j]'(by omega), _, hx, hL j, ?_, ?_⟩
  ·have := hsub j _ a hv ha
   rwa [Nat.zero_add] at this
  ·have := hp j _ a _ hv ha hx
   rwa [Nat.zero_add] at this
 obtain ⟨hC, hE⟩ := hS.2 k as res outs h3
 refine ⟨(hC w _ _ _ _ vals.toArray (fun b hb => .inr hb) H.init (fun a ha => ?_)).mono ?_, hE⟩
 ·obtain ⟨j, hj⟩ := List.mem_iff_getElem?.1 ha
  obtain ⟨L', v', val', _, hL', _, hp'⟩ := H.args j a hj
  exact hp'.ok.wider fun b hb => hb.mono hL'
 rintro e w' ⟨v, rfl, Fc, Dc, stc, νc, Rc, ho, hres, hflo⟩
 obtain ⟨b1, b2, b3⟩ := b0d _ _ _ _ _ h5 hnT
 have hoz := c2l _ _ ho
 have M : Merge Γ F1 D1 st1 ν w (cx.md k) ids (T8 (cx.md k) 0 args) as Fc Dc stc νc w' st2 (ids.all (fun x => x.2) = true) := by
  refine ⟨Rc, b1, b2, fun t c hz => ?_, fun hq => List.all_eq_true.1 hq, fun κ f hf => ?_⟩
  ·obtain ⟨o, ⟨q1, q2⟩, q3, q4⟩ := b5x _ _ _ hoz t c hz
   refine ⟨o, q1, q2, b3 t o q3, h4.imp (fun h => h) fun h => ?_⟩
   have := List.any_eq_false.1 h.2 o q4
   simpa using this
  ·obtain ⟨q1, q2⟩ := hflo κ f hf
   exact ⟨q1, h4.imp (fun h => h) fun h => q2 h.1⟩
 have R2 := M.rel hOA H
 have hres' : a1v Fc (Dn D1 Dc (ids.all (fun x => x.2) = true)) w' res v := hres.conv (by
  rcases h4 with h4 | h4
  ·exact .inr fun b hb => .inr ⟨h4, hb⟩
  ·exact .inl h4.1)
 simp only at h6
 split at h6
 ·simp only [RW.go_pure, Option.some.injEq, Prod.mk.injEq] at h6
  obtain ⟨rfl, rfl⟩ := h6
  exact hn v _ ν w' (R2.dropF (by intro κ f h; cases h)) (.undef v)
 ·obtain ⟨ν', R3, hv⟩ := b6z R2 hres' h6
  exact hn v _ ν' w' R3 hv
theorem c6p (cx : Cx) (hS : SoundC Γ cx C) (hOA : ∀ b, O0 b → A b) (R : Rel Γ w0 A O0 ν0 N Fl.emp D st ν tm w) {ds : List Deferred} {o : Oper} {st' : St} (hc : Z7 o.op = true) (hd : ∀ d, o.dst = some d → d < N)
  (h : (aop cx o).go C st = some ((), st')) {next : Act → World → Prop} {Q : Exit → Act → World → Prop}
  (hn : ∀ D' ν' tm' w', Rel Γ w0 A O0 ν0 N Fl.emp D' st' ν' tm' w' → next ⟨tm', ds⟩ w') : o.wp cx.P ⟨tm, ds⟩ w next Q := by
 unfold aop at h
 simp only [RW.go_bind, RW.go_wr, Option.bind_eq_some_iff, Option.some.injEq] at h
 obtain ⟨⟨a, st1⟩, h1, h2⟩ := h
 cases h2
 unfold aopV at h1
 split at h1 <;> rename_i ho <;> (try (rw [ho] at hc; simp [Z7] at hc))
 case h_8 =>
  rename_i hno
  exfalso
  unfold Z7 at hc
  split at hc
  ·rename_i c' hc'
   exact hno _ hc'
  ·cases hc
 rename_i c
 split at h1 <;> rename_i hcal
 ·simp [hcal] at hc
 ·simp [hcal] at hc
 ·rename_i f
  simp only [RW.go_bind, RW.go_up, Option.bind_eq_some_iff, Option.map_eq_some_iff] at h1
  obtain ⟨_, ⟨fv, h3, rfl⟩, _, ⟨vs, h4, rfl⟩, h5⟩ := h1
  simp only at h5
  split at h5
  ·rename_i k caps
   have hf := C4 h3 R (ds := ds)
   obtain ⟨cs, hfe, hsz, hrc⟩ := hf.clo_list
   have hra := Z9 R (ds := ds) _ h4
   have hr := RL.append hra hrc
   obtain ⟨hC, hE⟩ := c3u cx hS hOA R (ds := ds) h5 hr (next := fun _ _ => True) (Rq := fun
    | .returned v, w'' => next ((Act.mk tm ds).put o.dst v) w''
    | .panicked chain, w'' => Q (.panic chain) (Act.mk tm ds) w''
    | .outgrown, _ => LetsOut Q) (fun v D' ν' w' R' hv => by
     have hsd := b0n o a [] st1
     simp only [List.nil_append, St.upds] at hsd
     rw [hsd] at hn
     unfold Act.put
     cases hdst : o.dst with
     | none => simp only [hdst] at hn ⊢; exact hn D' ν' tm w' R'
     | some d => simp only [hdst] at hn ⊢; exact hn D' ν' _ w' (R'.setT (hd d hdst) hv))
   have hrun : (execOp (Act.mk tm ds).eval o).run cx.P w = .ok (.enter k (c.args.map (Act.mk tm ds).eval ++ cs)) w := by
    simp only [execOp, ho, resolve, hcal, hfe, Deferred.ofValue, Sem.run_bind, Sem.run_pure, Result.andThen_ok, invoke]
    have := a4i hE (c.args.map (Act.mk tm ds).eval ++ cs) w
    simpa using this
   rw [Oper.wp, hrun, Oper.upon_enter]
   have : (c.args.toList.map (Act.mk tm ds).eval ++ cs.toList).toArray = c.args.map (Act.mk tm ds).eval ++ cs := by
    apply Array.ext'
    simp
   rw [this] at hC
   exact hC
  ·simp at h5
 ·exfalso
  split at hc
  ·rename_i f hf
   exact hcal _ hf
  ·cases hc
end
end Go.Mv
end

section
namespace Go.Mv
open Go Go.RowKit
section
variable {Γ : Env} {w0 : World} {A O0 : Nat → Prop} {ν0 : Nu} {N : Nat} {F : Fl} {D : Nat → Prop} {st : St} {ν : Nu} {tm : Array Value} {w : World}
theorem Rel.rebase (R : Rel Γ w0 A O0 ν0 N F D st ν tm w) : Rel Γ w (fun b => D b ∨ TB st ν F b) (TB st ν F) ν0 N F D st ν tm w := by
 refine ⟨R.size, R.slots, R.high, R.objs, R.frozen, R.flos, R.inj, R.dT, fun b hb => .inl (.inl hb), fun b hb => ⟨(R.dlt b hb).1, fun h => ?_⟩, fun b hb => .inl hb, Nat.le_refl _, rfl, rfl, rfl, fun _ => Nat.le_refl _,
  fun _ _ _ => rfl, fun _ _ => rfl, R.io, fun b hb => ?_, Γ.stable _ _ (fun b hb => R.fr b (R.gO b hb).2 (R.gO b hb).1) R.gi⟩
 ·rcases h with h | h
  ·have := (R.dlt b hb).1; omega
  ·exact (R.dT b hb h).elim
 ·obtain ⟨h1, h2⟩ := R.gO b hb
  refine ⟨fun ht => ?_, Nat.lt_of_lt_of_le h2 R.le⟩
  rcases R.tO b ht with h | h
  ·exact h1 h
  ·omega
theorem Rel.unbase (R : Rel Γ w0 A O0 ν0 N F D st ν tm w) (hOA : ∀ b, O0 b → A b) {N' : Nat} {F' : Fl} {D' : Nat → Prop} {st' : St} {ν' : Nu} {tm' : Array Value} {w' : World}
  (R' : Rel Γ w (fun b => D b ∨ TB st ν F b) (TB st ν F) ν0 N' F' D' st' ν' tm' w') : Rel Γ w0 A O0 ν0 N' F' D' st' ν' tm' w' := by
 have hle := R.le
 refine ⟨R'.size, R'.slots, R'.high, R'.objs, R'.frozen, R'.flos, R'.inj, R'.dT, fun b hb => ?_, fun b hb => ⟨(R'.dlt b hb).1, fun h => ?_⟩, fun b ht => ?_, Nat.le_trans R.le R'.le, R'.os.trans R.os, R'.tape.trans R.tape, R'.output.trans R.output,
  fun h => Nat.le_trans (R.dr h) (R'.dr h), fun b hb hO => ?_, fun b hb => (R'.cs b (by omega)).trans (R.cs b hb), R'.io, R.gO, R.gi⟩
 ·rcases R'.dA b hb with (h | h) | h
  ·exact R.dA b h
  ·exact (R.tO b h).imp (hOA b) id
  ·exact .inr (by omega)
 ·rcases R'.dA b hb with (h' | h') | h'
  ·rw [R'.fr b (R.dlt b h').1 (R.dT b h')]
   exact (R.dlt b h').2 h
  ·exact (R'.dlt b hb).2 (.inr h')
  ·exact (R'.dlt b hb).2 (.inl h')
 ·rcases R'.tO b ht with h | h
  ·exact R.tO b h
  ·exact .inr (by omega)
 ·rw [R'.fr b (by omega) (fun ht => (R.tO b ht).elim hO (by omega))]
  exact R.fr b hb hO
theorem Rel.others (R : Rel Γ w0 A O0 ν0 N F D st ν tm w) {N' : Nat} {F' : Fl} {D' : Nat → Prop} {st' : St} {ν' : Nu} {tm' : Array Value} {w' : World}
  (R' : Rel Γ w (fun b => D b ∨ TB st ν F b) (TB st ν F) ν0 N' F' D' st' ν' tm' w') : KeepsOthers w w' :=
 ⟨R'.le, fun k o hk ho => by
  rw [R'.fr k (Array.getElem?_eq_some_iff.1 hk).1 (fun ht => ?_)]
  ·exact hk
  ·obtain ⟨c, ety, h⟩ := R.TB_cells ht
   rw [hk] at h; cases h; cases ho⟩
end
def Fr (ro : Option Nat) : Fence := { Fence.wide with round := ro }
theorem c3l {ro : Option Nat} {n : Nat} {P : Program} {f : FuncId} {args : Array Value} {w : World} {R : Ending → World → Prop} (h : Calls P f args w R) : CallsIn (Fr ro) n P f args w R :=
 (callsIn_wide (n := n)).2 h
theorem c5d {ro : Option Nat} {n : Nat} {P : Program} {row : String} {args : Array Value} {w : World} {R : Value → World → Prop} (h : Rows P row args w R) : RowsIn (Fr ro) n P row args w R :=
 fun c cs _ => let ⟨v, w', r, s⟩ := h c cs; ⟨v, w', r, stepsIn_wide.2 s⟩
theorem c8u {ro : Option Nat} {n : Nat} {P : Program} {o : Oper} {a : Act} {w : World} {K : Act → World → Prop} {Q : Exit → Act → World → Prop} (hnd : ∀ c, o.op ≠ .defer c) (h : o.wp P a w K Q) : o.wpIn (Fr ro) n P a w K Q := by
 refine ⟨fun _ _ => trivial, ?_⟩
 rw [Oper.semAt_eq _ _ _ hnd]
 unfold Oper.wp at h
 generalize (execOp a.eval o).run P w = r at *
 cases r with
 | ok x w' =>
  cases x <;> simp only [Oper.upon, Oper.uponIn] at h ⊢ <;> first
   | exact h
   | exact ⟨fun h => by simp [Fr, Fence.wide] at h, c3l h⟩
   | exact ⟨fun h => by simp [Fr, Fence.wide] at h, c5d h⟩
   | exact h.elim
 | halt x w' => cases x <;> simp only [Oper.upon, Oper.uponIn] at h ⊢ <;> exact h
theorem c3s {P : Program} {o : Oper} {a : Act} {w : World} {K : Act → World → Prop} {Q : Exit → Act → World → Prop}
  (h : o.wp P a w (fun a' w' => (∀ i, o.dst ≠ some i → a'.tmps[i]? = a.tmps[i]?) → K a' w') Q) : o.wp P a w K Q := by
 have hput : ∀ (b : Act) (v : Value) (i : Nat), b.tmps = a.tmps → o.dst ≠ some i → (b.put o.dst v).tmps[i]? = a.tmps[i]? := by
  intro b v i hb hi
  unfold Act.put
  cases hd : o.dst with
  | none => exact congrArg (·[i]?) hb
  | some d =>
   simp only
   rw [hb, Array.getElem?_setIfInBounds_ne (fun e => hi (by rw [hd, e]))]
 unfold Oper.wp at *
 generalize (execOp a.eval o).run P w = r at *
 cases r with
 | ok x w' =>
  cases x <;> simp only [Oper.upon] at h ⊢ <;> first
   | exact h (fun i hi => hput _ _ i rfl hi)
   | exact Calls.mono h (fun e w'' he => by cases e <;> first | exact he (fun i hi => hput _ _ i rfl hi) | exact he)
   | exact Rows.mono h (fun _ _ he => he (fun i hi => hput _ _ i rfl hi))
   | exact h
 | halt x w' => cases x <;> simp only [Oper.upon] at h ⊢ <;> exact h
theorem b1w {C : Caller} {cx : Cx} {o : Oper} {st st' : St} (h : (aop cx o).go C st = some ((), st')) : ∀ c, o.op ≠ .defer c := by
 intro c hc
 unfold aop aopV at h
 simp [hc, opV] at h
section
variable {Γ : Env} {w0 : World} {A O0 : Nat → Prop} {ν0 : Nu} {N : Nat} {F : Fl} {D : Nat → Prop} {st : St} {ν : Nu} {tm : Array Value} {w : World}
theorem Rel.turn (R : Rel Γ w0 A O0 ν0 N F D st ν tm w) {w' : World} {row : Option Nat} (hg : w.grownBy w' row)
  (hr : ∀ r, row = some r → w0.heap.size ≤ r ∧ ∃ o : Obj, w.heap[r]? = some o ∧ o.isCells = false) (hdr : Γ.mo → w.drawn ≤ w'.drawn) : Rel Γ w0 A O0 ν0 N F D st ν tm w' := by
 have hT : ∀ b, TB st ν F b → w'.heap[b]? = w.heap[b]? := fun b hb => hg.block b (R.TB_lt hb) fun e => by
  obtain ⟨_, o, h1, h2⟩ := hr b e.symm
  obtain ⟨c, ety, h3⟩ := R.TB_cells hb
  rw [h1] at h3; cases h3; cases h2
 have hD : ∀ b, D b → w'.heap[b]? = w.heap[b]? := fun b hb => hg.block b (R.dlt b hb).1 fun e => by
  obtain ⟨h0, o, h1, h2⟩ := hr b e.symm
  obtain ⟨c, ety, h3⟩ := (R.dlt b hb).2 (.inl h0)
  rw [h1] at h3; cases h3; cases h2
 have hsame : ∀ id g m s es p b o, st (.h id) = .obj g m s es → livePath es p → ν id p = some (b, o) → w'.heap[b]? = w.heap[b]? := by
  intro id g m s es p b o h hp hb
  by_cases hm : m = 2
  ·subst hm
   obtain ⟨k1, k2⟩ := R.frozen id g s es h
   cases p with
   | none => exact hD b (k1 b o hb)
   | some q =>
    obtain ⟨s', es', h4⟩ := hp q rfl
    have := F3 k2 h4
    simp [immLeaf] at this
  ·exact hT b ⟨.nd id p, o, ⟨g, m, s, es, h, hm, hp⟩, hb⟩
 have hnone : ∀ (es : List AV), livePath es none := fun _ _ hq => by cases hq
 have E : Ext st ν w st ν w' :=
  ⟨fun _ => Nat.le_refl _, fun id g m' s' es' _ h => ⟨m', es', h, rfl, fun b o hb => H5 (hsame id g m' s' es' none b o h (hnone _) hb),
   fun i j => ⟨fun z => z, fun s2 es2 z => .inr ⟨es2, z, rfl, fun b o hb => H5 (hsame id g m' s' es' _ b o h (fun q hq => by cases hq; exact ⟨s2, es2, z⟩) hb)⟩⟩⟩⟩
 have hL : ∀ a v, RS st ν w D a v → RS st ν w' D a v := fun a v h => h.mono E (fun b hb _ => ⟨hD b hb, hb⟩) hg.size
 refine ⟨R.size, fun i hi => hL _ _ (R.slots i hi), R.high, fun id g m s es h => ?_, R.frozen, fun k f hf => ?_, R.inj, R.dT, R.dA, fun b hb => ⟨Nat.lt_of_lt_of_le (R.dlt b hb).1 hg.size, fun h => by rw [hD b hb]; exact (R.dlt b hb).2 h⟩, R.tO,
  Nat.le_trans R.le hg.size, hg.os.trans R.os, hg.tape.trans R.tape, hg.output.trans R.output, fun h => Nat.le_trans (R.dr h) (hdr h), fun b hb hO => ?_, fun b hb => ?_, R.io, R.gO, R.gi⟩
 ·exact (R.objs id g m s es h).mono rfl (fun _ _ _ _ _ => rfl) (fun b o hb => hsame id g m s es none b o h (hnone _) hb) (fun i j s' es' b o hl hb => hsame id g m s es (some (i, j)) b o h (fun q hq => by cases hq; exact ⟨s', es', hl⟩) hb) hL
 ·exact (R.flos k f hf).mono rfl (fun _ _ _ _ _ => rfl) (fun b o hb => hT b ⟨.fl k none, o, ⟨f, hf, hnone _⟩, by simp only [baseOf, hf]; exact hb⟩)
   (fun i j s' es' b o hl hb => hT b ⟨.fl k (some (i, j)), o, ⟨f, hf, fun q hq => by cases hq; exact ⟨s', es', hl⟩⟩, by simp only [baseOf, hf]; exact hb⟩) hL
 ·rw [hg.block b (Nat.lt_of_lt_of_le hb R.le) fun e => by have := (hr b e.symm).1; omega]
  exact R.fr b hb hO
 ·rw [H5 (hg.block b (Nat.lt_of_lt_of_le hb R.le) fun e => by have := (hr b e.symm).1; omega)]
  exact R.cs b hb
end
def mkD (k : Nat) : Deferred := { target := .collected k, args := #[] }
def X0 (B : Nat) (ds : List Deferred) (w : World) : Prop := ∃ ks : List Nat, ds = ks.map mkD ∧ ks.Nodup ∧ ∀ k ∈ ks, B ≤ k ∧ w.heap[k]? = some (.deferred (some []))
theorem X0.nil (B : Nat) (w : World) : X0 B [] w := ⟨[], rfl, List.nodup_nil, fun _ h => by cases h⟩
theorem X0.keeps {B : Nat} {ds : List Deferred} {w w' : World} (h : X0 B ds w) (hk : KeepsOthers w w') : X0 B ds w' := by
 obtain ⟨ks, h1, h2, h3⟩ := h
 exact ⟨ks, h1, h2, fun k hk' => ⟨(h3 k hk').1, hk.same k _ (h3 k hk').2 rfl⟩⟩
theorem X0.cons {B : Nat} {ds : List Deferred} {w w' : World} (h : X0 B ds w) (hk : KeepsOthers w w') {k : Nat} (hB : B ≤ k) (hlt : w.heap.size ≤ k) (hm : w'.heap[k]? = some (.deferred (some []))) : X0 B (mkD k :: ds) w' := by
 obtain ⟨ks, h1, h2, h3⟩ := h
 refine ⟨k :: ks, by rw [h1]; rfl, List.nodup_cons.2 ⟨fun hin => ?_, h2⟩, fun j hj => ?_⟩
 ·have := (Array.getElem?_eq_some_iff.1 (h3 k hin).2).1; omega
 ·rcases List.mem_cons.1 hj with rfl | hj
  ·exact ⟨hB, hm⟩
  ·exact ⟨(h3 j hj).1, hk.same j _ (h3 j hj).2 rfl⟩
theorem X0.same {B : Nat} {ds : List Deferred} {w w' : World} (h : X0 B ds w) (hh : w'.heap = w.heap) : X0 B ds w' := by
 obtain ⟨ks, h1, h2, h3⟩ := h
 exact ⟨ks, h1, h2, fun k hk => by rw [hh]; exact h3 k hk⟩
theorem a0h {P : Program} {fn : Func} {n : Nat} {Γ : Env} {w0 : World} {A O0 : Nat → Prop} {ν0 : Nu} {N : Nat} {st : St} {tm : Array Value} {R : Ending → World → Prop}
  (hfin : ∀ D ν w, Rel Γ w0 A O0 ν0 N Fl.emp D st ν tm w → ∃ v, (results fn tm).run P w = .ok v w ∧ R (.returned v) w) :
  ∀ (ks : List Nat) (D : Nat → Prop) (ν : Nu) (w : World), ks.Nodup → (∀ k ∈ ks, w0.heap.size ≤ k ∧ w.heap[k]? = some (.deferred (some []))) → Rel Γ w0 A O0 ν0 N Fl.emp D st ν tm w → LeavesInM Fence.wide n P fn tm R (ks.map mkD) .returning w
 | [], D, ν, w, _, _, hR => hfin D ν w hR
 | k :: ks, D, ν, w, hn, hk, hR => by
  obtain ⟨h1, h2⟩ := hk k (List.mem_cons_self ..)
  refine ⟨(by intro h; cases h), .inl ⟨k, _, rfl, run_takeDeferred h2, a0h hfin ks D ν _ (List.nodup_cons.1 hn).2 (fun j hj => ?_) (hR.turn (grownBy_putObj' w k _) (fun r e => by cases e; exact ⟨h1, _, h2, rfl⟩) (fun _ => Nat.le_refl _))⟩⟩
  obtain ⟨h3, h4⟩ := hk j (List.mem_cons_of_mem _ hj)
  refine ⟨h3, ?_⟩
  have hne : j ≠ k := fun e => by subst e; exact (List.nodup_cons.1 hn).1 hj
  have e := (grownBy_putObj' w k (.deferred none)).block j (Array.getElem?_eq_some_iff.1 h4).1 (fun e => hne (by cases e; rfl))
  rw [e]; exact h4
section
variable {P : Program} {C : Caller} {ro : Option Nat} {n : Nat} {T : (Nat → Prop) × Array Value} {Γ : Env} {w0 : World} {A O0 : Nat → Prop} {ν0 : Nu} {N : Nat} {F : Fl} {D : Nat → Prop} {st : St} {ν : Nu} {tm : Array Value} {w : World}
theorem Rel.drawn (R : Rel Γ w0 A O0 ν0 N F D st ν tm w) (n : Nat) (hn : w.drawn ≤ n) : Rel Γ w0 A O0 ν0 N F D st ν tm { w with drawn := n } := by
 have W : WStep Γ w { w with drawn := n } w.heap.size := (WStep.refl w _).drew n hn
 have E : Ext st ν w st ν { w with drawn := n } := R.extW W
 have hL : ∀ a v, RS st ν w D a v → RS st ν { w with drawn := n } D a v := fun a v h => h.mono E (fun b hb _ => ⟨rfl, hb⟩) (Nat.le_refl _)
 refine R.world W (.inr (Nat.le_refl _)) (fun _ => rfl) E ?_ R.frozen ?_ id (fun _ => False) (fun k b o hl hb => .inl ⟨fun h => h, o, hl, hb⟩) (fun _ _ _ _ _ _ h => h) (fun _ _ h => h.elim) R.io
 ·intro id g m s es h
  exact (R.objs id g m s es h).mono rfl (fun _ _ _ _ _ => rfl) (fun _ _ _ => rfl) (fun _ _ _ _ _ _ _ _ => rfl) hL
 ·intro k f hf
  exact (R.flos k f hf).mono rfl (fun _ _ _ _ _ => rfl) (fun _ _ _ => rfl) (fun _ _ _ _ _ _ _ _ => rfl) hL
def Rg (Γ : Env) (T : (Nat → Prop) × Array Value) (w0 : World) (A O0 : Nat → Prop) (ν0 : Nu) (N : Nat) (st : St) (a : Act) (w : World) : Prop :=
 X0 w0.heap.size a.defers w ∧ (∀ i, ¬ T.1 i → a.tmps[i]? = T.2[i]?) ∧ ∃ D ν, Rel Γ w0 A O0 ν0 N Fl.emp D st ν a.tmps w
theorem c0n {st : St} {x : RW Unit} {ws : Ws} {rs : List Mv.Loc} (h : Rd.run (α := Unit × Ws) C st x = some (((), ws), rs)) : x.go C st = some ((), st.upds ws) :=
 RW.go_of_ev (Rd.ev_of_run h)
theorem c6j (cx : Cx) (hS : SoundC Γ cx C) (hOA : ∀ b, O0 b → A b) {ops : Array Oper} (hd : ∀ (i : Nat) (o : Oper), ops[i]? = some o → ∀ d, o.dst = some d → d < N) (hz : ∀ (i : Nat) (o : Oper), ops[i]? = some o → ∀ d, o.dst = some d → T.1 d) :
  b7s (Fr ro) n cx.P C cx ops (Rg Γ T w0 A O0 ν0 N) := by
 intro i o st a w ws rs K Q ho hrun hR hK
 obtain ⟨tm, ds⟩ := a
 obtain ⟨hds, hT, D, ν, R⟩ := hR
 simp only at hds hT R
 have hgo := c0n hrun
 have main : (aop cx o).go C st = some ((), st.upds ws) → o.wpIn (Fr ro) n cx.P ⟨tm, ds⟩ w K Q := by
  intro h
  refine c8u (b1w h) (c3s ?_)
  by_cases hc : Z7 o.op = true
  ·exact c6p cx hS (fun b hb => .inr hb) R.rebase hc (hd i o ho) h fun D' ν' tm' w' R' htr => hK _ _ ⟨hds.keeps (R.others R'), fun j hj => (htr j (fun e => hj (hz i o ho j e))).trans (hT j hj), D', ν', R.unbase hOA R'⟩
  ·exact c8a cx hS.1 (fun b hb => .inr hb) R.rebase (by simpa using hc) (hd i o ho) h fun D' ν' tm' w' R' htr => hK _ _ ⟨hds.keeps (R.others R'), fun j hj => (htr j (fun e => hj (hz i o ho j e))).trans (hT j hj), D', ν', R.unbase hOA R'⟩
 have skip : (wr (setD o (.val Go.undef))).go C st = some ((), st.upds ws) → K ((Act.mk tm ds).put o.dst Go.undef) w := by
  intro h
  simp only [RW.go_wr, Option.some.injEq, Prod.mk.injEq, true_and] at h
  refine hK _ _ ?_
  rw [← h]
  unfold Act.put setD
  cases hdst : o.dst with
  | none => exact ⟨hds, hT, D, ν, R⟩
  | some d => exact ⟨hds, fun j hj => by rw [Array.getElem?_setIfInBounds_ne (fun e => hj (hz i o ho j (by rw [hdst, e])))]; exact hT j hj, D, ν, R.setT (hd i o ho d hdst) (.data _ _ (.val _))⟩
 unfold wpOpIn
 simp only [ho]
 unfold M2 at hgo
 split at hgo
 ·rename_i hg
  have : Region.wanted o (yielded ops tm) = true := by simp [Region.wanted, hg]
  simp only [this, if_true]
  exact main hgo
 ·rename_i g want hg
  split at hgo
  ·rename_i d hdst
   simp only [RW.go_bind, RW.go_up, N8, Option.map_some, Option.bind_some] at hgo
   have hval : ∀ v, st (.t d) = .val v → tm[d]? = some v := by
    intro v hv
    have hlt : d < N := by
     rcases Nat.lt_or_ge d N with h | h
     ·exact h
     ·rw [R.high d h] at hv; cases hv
    have := R.slots d hlt
    rw [hv] at this
    have := this.val_inv
    have hsz : tm.size = N := R.size
    have hlt' : d < tm.size := hsz ▸ hlt
    rw [Array.getD_eq_getD_getElem?] at this
    have hx : tm[d]? = some (tm[d]'hlt') := Array.getElem?_eq_getElem hlt'
    rw [hx] at this ⊢
    simpa using this
   split at hgo
   ·rename_i b hb
    have hy : yielded ops tm g = some b := by simp [yielded, hdst, hval _ hb]
    split at hgo
    ·rename_i hbw
     have : Region.wanted o (yielded ops tm) = true := by simp [Region.wanted, hg, hy, hbw]
     simp only [this, if_true]
     exact main hgo
    ·rename_i hbw
     have : Region.wanted o (yielded ops tm) = false := by simp [Region.wanted, hg, hy, hbw]
     simp only [this, Bool.false_eq_true, if_false]
     exact ⟨fun _ _ => trivial, skip hgo⟩
   ·rename_i t hb
    have hy : yielded ops tm g = none := by simp [yielded, hdst, hval _ hb]
    have : Region.wanted o (yielded ops tm) = false := by simp [Region.wanted, hg, hy]
    simp only [this, Bool.false_eq_true, if_false]
    exact ⟨fun _ _ => trivial, skip hgo⟩
   ·simp at hgo
  ·simp at hgo
theorem a9h {Fc : Fence} {cx : Cx} {ops : Array Oper} {R : St → Act → World → Prop} (hstep : b7s Fc n P C cx ops R) {st' : St} {Q : Exit → Act → World → Prop}
  (hQ : ∀ a w, R st' a w → Q .normal a w) : ∀ (L : List Nat) (lg : List Log) (st : St) (a : Act) (w : World), Runs C cx ops st L lg st' → R st a w → wpOpsIn Fc n P ops Q L a w := by
 intro L
 induction L with
 | nil =>
  intro lg st a w h hR
  cases h
  exact hQ a w hR
 | cons i L ih =>
  intro lg st a w h hR
  cases h with
  | @cons _ _ _ o ws rs _ _ ho h r =>
   rw [wpOpsIn_cons]
   exact hstep i o st a w ws rs _ Q ho h hR fun a' w' hR' => ih _ _ a' w' r hR'
theorem c1d (cx : Cx) (hS : SoundC Γ cx C) (hOA : ∀ b, O0 b → A b) (hm : cx.P.follows .mixedOrders = true) {ops : Array Oper} (hd : ∀ (i : Nat) (o : Oper), ops[i]? = some o → ∀ d, o.dst = some d → d < N) (hz : ∀ (i : Nat) (o : Oper), ops[i]? = some o → ∀ d, o.dst = some d → T.1 d)
  {draw : Bool} {id : Nat} {ws : Ws} {lg : List Log} {a : Act} (hr : J7 C cx ops ops.toList st = some (ws, lg)) (hc : draw = true → O4 ops.toList lg [] = true ∧ a1y ops = true)
  (hR : Rg Γ T w0 A O0 ν0 N st a w) {Q : Exit → Act → World → Prop} (hQ : ∀ a w, Rg Γ T w0 A O0 ν0 N (st.upds ws) a w → Q .normal a w) : (Code.region id ops draw).wpIn (Fr ro) n cx.P Q a w := by
 have hstep := c6j (ro := ro) (n := n) (w0 := w0) (A := A) (O0 := O0) (ν0 := ν0) cx hS hOA hd hz
 obtain ⟨hruns, hlen⟩ := a7k ops.toList 0 st ws lg (fun j => by simp) hr
 have hsz : ops.toList.length = ops.size := by simp
 cases draw with
 | false =>
  refine wpIn_region ?_
  rw [List.range_eq_range', ← hsz]
  exact a9h hstep hQ _ _ _ _ _ hruns hR
 | true =>
  obtain ⟨hrace, htopo⟩ := hc rfl
  refine wpIn_region_any hm ?_
  have hpw := (a8n (ops := ops) ops.toList lg [] 0 (fun j => by simp) rfl (fun i m x h => by simp at h) hlen hrace).2
  have hR' : Rg Γ T w0 A O0 ν0 N st a { w with drawn := w.drawn + 1 } := by
   obtain ⟨h1, h2, D, ν, R⟩ := hR
   exact ⟨h1.same rfl, h2, D, ν, R.drawn _ (Nat.le_succ _)⟩
  refine a9z hstep htopo hQ ops.size _ st a _ _ lg hruns (by simp [hlen]) hpw List.nodup_range' ?_ (by simp) ?_ (by simp) hR'
  ·intro i
   rw [List.mem_range']
   constructor
   ·rintro ⟨j, hj, rfl⟩
    have hj' : j < ops.size := by omega
    have : 0 + 1 * j = j := by omega
    rw [this]
    exact ⟨hj', by simp [Array.getD, hj']⟩
   ·rintro ⟨h1, _⟩
    exact ⟨i, by omega, by omega⟩
  ·intro j o hj hl
   have hlt : j < ops.size := (Array.getElem?_eq_some_iff.1 hj).1
   simp [Array.getD, hlt] at hl
end
def refOkV (keep : List Nat) (a : AV) : Bool := match a with
 | .obj _ m _ es => if m = 3 ∨ m = 4 then L9 keep es else D8 es || L9 keep es
 | .dead _ => true
 | a => refsOk keep a
structure KInv (keep : List Nat) (st : St) : Prop where
 gone : ∀ l, keepLoc keep l = false → st l = .undef
 refs : ∀ l, refOkV keep (st l) = true
theorem T7 {keep : List Nat} : ∀ (fs : List AV), L9 keep fs = true → ∀ l ∈ fs, refsOk keep l = true := by
 intro fs
 induction fs with
 | nil => intro _ l hl; cases hl
 | cons a r ih =>
  intro h l hl
  simp only [L9, Bool.and_eq_true] at h
  cases hl with
  | head => exact h.1
  | tail _ hl => exact ih h.2 l hl
theorem a9n {keep : List Nat} {e l : AV} (h : refsOk keep e = true) (hl : l ∈ leaves e) : refsOk keep l = true := by
 cases e with
 | agg fs => exact T7 fs (by simpa [refsOk] using h) l hl
 | _ => simp only [leaves, List.mem_singleton] at hl; subst hl; exact h
theorem a3u {keep : List Nat} {es : List AV} (h : L9 keep es = true) {i j : Nat} {l : AV} (hl : leafAt es i j = some l) : refsOk keep l = true := by
 unfold leafAt at hl
 cases he : es[i]? with
 | none => simp [he] at hl
 | some e =>
  simp only [he, Option.bind_some] at hl
  exact a9n (T7 es h e (List.mem_of_getElem? he)) (List.mem_of_getElem? hl)
section
variable {P : Program} {C : Caller} {Γ : Env} {w0 : World} {A O0 : Nat → Prop} {ν0 : Nu} {N : Nat} {F : Fl} {D : Nat → Prop} {st : St} {ν : Nu} {tm : Array Value} {w : World}
theorem RS.drop {keep : List Nat} {st2 : St} (hk : ∀ l, keepLoc keep l = true → st2 l = st l) {a : AV} {v : Value} (h : RS st ν w D a v) : refsOk keep a = true → RS st2 ν w D a v := by
 induction h with
 | undef v => exact fun _ => .undef v
 | data a v h => exact fun _ => .data a v h
 | sl id g p off n v hv hg hb h =>
  intro hr
  have e : st2 (.h id) = st (.h id) := hk _ (by simpa [refsOk, keepLoc] using hr)
  refine .sl id g p off n v hv (by rw [e]; exact hg) (fun m s es ho => hb m s es (by rw [← e]; exact ho)) fun m s es hn => h m s es (by rw [← V0 e]; exact hn)
 | ptr id g p i j v hv hg hb h =>
  intro hr
  have e : st2 (.h id) = st (.h id) := hk _ (by simpa [refsOk, keepLoc] using hr)
  refine .ptr id g p i j v hv (by rw [e]; exact hg) (fun m s es ho => hb m s es (by rw [← e]; exact ho)) fun m s es hn => h m s es (by rw [← V0 e]; exact hn)
 | asl id g i j n v hv hg h =>
  intro hr
  have e : st2 (.h id) = st (.h id) := hk _ (by simpa [refsOk, keepLoc] using hr)
  exact .asl id g i j n v hv (by rw [e]; exact hg) fun m s es hn => h m s es (by rw [← V0 e]; exact hn)
 | agg fs cs hs hl ih =>
  intro hr
  exact .agg fs cs hs fun i l hil => ih i l hil (T7 fs (by simpa [refsOk] using hr) l (List.mem_of_getElem? hil))
 | tup fs cs hs hl ih =>
  intro hr
  exact .tup fs cs hs fun i l hil => ih i l hil (T7 fs (by simpa [refsOk] using hr) l (List.mem_of_getElem? hil))
 | clo f caps vs hs hl ih =>
  intro hr
  exact .clo f caps vs hs fun i l hil => ih i l hil (T7 caps (by simpa [refsOk] using hr) l (List.mem_of_getElem? hil))
theorem Rel.dropLocs (R : Rel Γ w0 A O0 ν0 N Fl.emp D st ν tm w) {keep : List Nat} {st2 : St} (hk : ∀ l, keepLoc keep l = true → st2 l = st l) (hK : KInv keep st2) :
  Rel Γ w0 A O0 ν0 N Fl.emp D st2 ν tm w := by
 have hob : ∀ id g m s es, st2 (.h id) = .obj g m s es → st (.h id) = .obj g m s es := by
  intro id g m s es h
  by_cases hkp : keepLoc keep (.h id) = true
  ·rw [← hk _ hkp]; exact h
  ·rw [hK.gone _ (by simpa using hkp)] at h; cases h
 have hlive : ∀ k, live st2 Fl.emp k → live st Fl.emp k := by
  intro k hl
  cases k with
  | nd id p =>
   obtain ⟨g, m, s, es, h1, h2, h3⟩ := hl
   exact ⟨g, m, s, es, hob _ _ _ _ _ h1, h2, h3⟩
  | fl k p => exact hl
 refine ⟨R.size, fun i hi => ?_, fun i hi => ?_, ?_, fun id g s es h => R.frozen id g s es (hob _ _ _ _ _ h), (by intro k f h; cases h), fun k1 k2 b o1 o2 l1 l2 => R.inj k1 k2 b o1 o2 (hlive _ l1) (hlive _ l2),
  fun b hb ⟨k, o, hl, hbo⟩ => R.dT b hb ⟨k, o, hlive k hl, hbo⟩, R.dA, R.dlt, fun b ⟨k, o, hl, hbo⟩ => R.tO b ⟨k, o, hlive k hl, hbo⟩, R.le, R.os, R.tape, R.output, R.dr, R.fr, R.cs, fun id g m s es h => R.io id g m s es (hob _ _ _ _ _ h), R.gO, R.gi⟩
 ·by_cases hkp : keepLoc keep (.t i) = true
  ·have hr := hK.refs (.t i)
   rw [hk _ hkp] at hr ⊢
   have hs := R.slots i hi
   refine hs.drop hk ?_
   revert hr hs
   generalize st (.t i) = a
   intro hr hs
   cases a <;> first | exact hr | rfl
  ·rw [hK.gone _ (by simpa using hkp)]
   exact .undef _
 ·by_cases hkp : keepLoc keep (.t i) = true
  ·rw [hk _ hkp]; exact R.high i hi
  ·exact hK.gone _ (by simpa using hkp)
 ·intro id g m s es h
  have hr := hK.refs (.h id)
  rw [h] at hr
  have him : ∀ l v, immLeaf l = true → RS st ν w D l v → RS st2 ν w D l v := fun l v hi h => .data _ _ (h.imm hi)
  refine (R.objs id g m s es (hob _ _ _ _ _ h)).monoL rfl (fun _ _ _ _ _ => rfl) (fun _ _ _ => rfl) (fun _ _ _ _ _ _ _ _ => rfl) (fun i j l v hl ho hx => ?_) (fun _ _ _ _ _ _ l v _ _ => him l v)
  simp only [refOkV] at hr
  split at hr
  ·exact hx.drop hk (a3u hr hl)
  ·rw [Bool.or_eq_true] at hr
   rcases hr with hr | hr
   ·refine him l v ?_ hx
    rcases M9 hr hl with h | h
    ·rw [ho] at h; cases h
    ·exact h
   ·exact hx.drop hk (a3u hr hl)
end
theorem b0u {keep : List Nat} {l : Mv.Loc} (hl : keepLoc keep l = true) : ∀ (ws : Ws) (st : St), st.upds (keptWs keep ws) l = st.upds ws l := by
 intro ws
 induction ws with
 | nil => intro st; rfl
 | cons x ws ih =>
  intro st
  obtain ⟨k, a⟩ := x
  by_cases hk : keepLoc keep k = true
  ·simp only [keptWs, List.filter_cons, hk, if_true, St.upds]
   exact ih _
  ·simp only [keptWs, List.filter_cons, hk, St.upds]
   rw [if_neg (by simp)]
   rw [← ih (st.upd k a)]
   refine St.upds_congr _ _ ?_
   rw [St.upd_ne]
   rintro rfl
   exact hk hl
theorem c4p : ∀ (ws : Ws) (st : St) (l : Mv.Loc), st.upds ws l = st l ∨ ∃ x ∈ ws, x.1 = l ∧ st.upds ws l = x.2 := by
 intro ws
 induction ws with
 | nil => intro st l; exact .inl rfl
 | cons x ws ih =>
  intro st l
  obtain ⟨k, a⟩ := x
  rcases ih (st.upd k a) l with h | ⟨x, h1, h2, h3⟩
  ·by_cases e : l = k
   ·subst e
    exact .inr ⟨_, List.mem_cons_self .., rfl, by rw [St.upds, h, St.upd_eq]⟩
   ·exact .inl (by rw [St.upds, h, St.upd_ne _ _ e])
  ·exact .inr ⟨x, List.mem_cons_of_mem _ h1, h2, h3⟩
theorem KInv.upds {keep : List Nat} {st : St} (hK : KInv keep st) {ws : Ws} (h : tRefsOk keep (keptWs keep ws) = true) : KInv keep (st.upds (keptWs keep ws)) := by
 refine ⟨fun l hl => ?_, fun l => ?_⟩
 ·rw [St.upds_notin _ _ _ (fun w hw e => ?_)]
  ·exact hK.gone l hl
  ·have := (List.mem_filter.1 hw).2
   rw [e, hl] at this
   cases this
 ·rcases c4p (keptWs keep ws) st l with e | ⟨x, h1, h2, h3⟩
  ·rw [e]; exact hK.refs l
  ·rw [h3]
   have := List.all_eq_true.1 h x h1
   exact this
theorem a9s {ro : Option Nat} {n : Nat} {T : (Nat → Prop) × Array Value} {C : Caller} {Γ : Env} {w0 : World} {A O0 : Nat → Prop} {ν0 : Nu} {N : Nat} (cx : Cx) (hS : SoundC Γ cx C) (hOA : ∀ b, O0 b → A b) (hm : cx.P.follows .mixedOrders = true) {ops : Array Oper}
  (hd : ∀ (i : Nat) (o : Oper), ops[i]? = some o → ∀ d, o.dst = some d → d < N) (hz : ∀ (i : Nat) (o : Oper), ops[i]? = some o → ∀ d, o.dst = some d → T.1 d) {draw : Bool} {id : Nat} {keep : List Nat} {st st' : St} {a : Act} {w : World} (h : N6 C cx keep ops draw st = some st')
  (hK : KInv keep st) (hR : Rg Γ T w0 A O0 ν0 N st a w) {Q : Exit → Act → World → Prop} (hQ : ∀ a w, KInv keep st' → Rg Γ T w0 A O0 ν0 N st' a w → Q .normal a w) : (Code.region id ops draw).wpIn (Fr ro) n cx.P Q a w := by
 unfold N6 at h
 split at h
 ·rename_i ws lg hr
  split at h
  ·rename_i hc
   cases h
   have hK' := hK.upds hc.2
   refine c1d cx hS hOA hm hd hz hr hc.1 hR fun a w hR' => hQ a w hK' ?_
   obtain ⟨h1, h2, D, ν, R⟩ := hR'
   exact ⟨h1, h2, D, ν, R.dropLocs (fun l hl => b0u hl ws st) hK'⟩
  ·cases h
 ·cases h
end Go.Mv
end

section
namespace Go.Mv
open Go Go.RowKit
theorem b8e (zl : List Nat) (st : St) : maskS zl (maskS zl st) = maskS zl st := by
 funext l
 cases l with
 | t i => simp only [maskS]; split <;> rfl
 | h i => rfl
theorem b5e {keep ps : List Nat} {l : List (Nat × Nat)} {zl : List Nat} {vs : List Value} {st : St} : startS keep ps l zl vs (maskS zl st) = startS keep ps l zl vs st := by
 unfold startS; rw [b8e]
theorem a0a {run : St → Option (AExit × St)} {start : List Value → St → St} {msk : St → St} (hm : ∀ vs st, start vs (msk st) = start vs st) : ∀ (ys : List (List Value)) (v : List Value) (st : St),
  arounds run start msk (ys ++ [v]) st = (arounds run start msk ys st).bind fun s => match run (start v s) with
   | some (.normal, s') => some (msk s')
   | _ => none
 | [], v, st => by
  simp only [List.nil_append, arounds, Option.bind_some, hm]
  cases run (start v st) with
  | none => rfl
  | some r => obtain ⟨e, s⟩ := r; cases e <;> rfl
 | y :: ys, v, st => by
  simp only [List.cons_append, arounds]
  cases run (start y st) with
  | none => rfl
  | some r =>
   obtain ⟨e, s⟩ := r
   cases e with
   | normal => exact a0a hm ys v s
   | exit i => rfl
   | ret => rfl
section
variable {Γ : Env} {w0 : World} {A O0 : Nat → Prop} {ν0 : Nu} {N : Nat} {F : Fl} {D : Nat → Prop} {st : St} {ν : Nu} {tm : Array Value} {w : World}
theorem Rel.mask (R : Rel Γ w0 A O0 ν0 N F D st ν tm w) (zl : List Nat) {tm0 : Array Value} (hsz : tm0.size = N) (ht : ∀ i, zl.contains i = false → tm[i]? = tm0[i]?) : Rel Γ w0 A O0 ν0 N F D (maskS zl st) ν tm0 w := by
 refine R.slotsOnly (fun _ => rfl) hsz (fun i hi => ?_) (fun i hi => ?_)
 ·simp only [maskS]
  split
  ·exact .undef _
  ·rename_i h
   have h1 := R.slots i hi
   have e : tm0.getD i undef = tm.getD i undef := by rw [Array.getD_eq_getD_getElem?, Array.getD_eq_getD_getElem?, ht i (by simpa using h)]
   rw [e]; exact h1
 ·simp only [maskS]
  split
  ·rfl
  ·exact R.high i hi
theorem KInv.mask {keep : List Nat} (hK : KInv keep st) (zl : List Nat) : KInv keep (maskS zl st) := by
 refine ⟨fun l hl => ?_, fun l => ?_⟩
 ·cases l with
  | t i => simp only [maskS]; split <;> first | rfl | exact hK.gone _ hl
  | h i => exact hK.gone _ hl
 ·cases l with
  | t i => simp only [maskS]; split <;> first | rfl | exact hK.refs (.t i)
  | h i => exact hK.refs (.h i)
theorem Rel.setSlot (R : Rel Γ w0 A O0 ν0 N F D st ν tm w) {keep : List Nat} (hK : KInv keep st) {d : Nat} (hd : d < N) {a : AV} {v : Value} (h : RS st ν w D a v) (hr : refOkV keep a = true) :
  Rel Γ w0 A O0 ν0 N F D (if keep.contains d then st.upd (.t d) a else st) ν (tm.setIfInBounds d v) w ∧ KInv keep (if keep.contains d then st.upd (.t d) a else st) := by
 split
 ·rename_i hk
  refine ⟨R.setT hd h, fun l hl => ?_, fun l => ?_⟩
  ·rw [St.upd_ne]
   ·exact hK.gone l hl
   ·rintro rfl
    simp only [keepLoc] at hl
    rw [hk] at hl; cases hl
  ·by_cases e : l = .t d
   ·subst e; rw [St.upd_eq]; exact hr
   ·rw [St.upd_ne _ _ e]; exact hK.refs l
 ·rename_i hk
  have h1 := R.setT (a := .undef) (v := v) hd (.undef v)
  have e : st.upd (.t d) .undef = st := by
   funext l
   by_cases e : l = .t d
   ·subst e; rw [St.upd_eq]; exact (hK.gone _ (by simpa [keepLoc] using hk)).symm
   ·rw [St.upd_ne _ _ e]
  rw [e] at h1
  exact ⟨h1, hK⟩
end
section
variable {Γ : Env} {w0 : World} {A O0 : Nat → Prop} {ν0 : Nu} {N : Nat} {F : Fl} {D : Nat → Prop} {ν : Nu} {w : World}
theorem Rel.vals {keep : List Nat} : ∀ (L : List (Nat × Value)) (st : St) (tm : Array Value), (∀ x ∈ L, x.1 < N) → KInv keep st → Rel Γ w0 A O0 ν0 N F D st ν tm w →
  Rel Γ w0 A O0 ν0 N F D (st.upds (keptWs keep (L.map fun x => (.t x.1, .val x.2)))) ν (L.foldl (fun t x => t.setIfInBounds x.1 x.2) tm) w ∧ KInv keep (st.upds (keptWs keep (L.map fun x => (.t x.1, .val x.2))))
 | [], st, tm, _, hK, R => ⟨R, hK⟩
 | x :: L, st, tm, hL, hK, R => by
  obtain ⟨R1, hK1⟩ := R.setSlot hK (hL x (List.mem_cons_self ..)) (a := .val x.2) (v := x.2) (.data _ _ (.val _)) rfl
  have := Rel.vals L _ _ (fun y hy => hL y (List.mem_cons_of_mem _ hy)) hK1 R1
  simp only [List.map_cons, List.foldl_cons]
  by_cases hk : keep.contains x.1 = true
  ·rw [if_pos hk] at this
   have e : keptWs keep ((Mv.Loc.t x.1, AV.val x.2) :: L.map fun x => (.t x.1, .val x.2)) = (Mv.Loc.t x.1, AV.val x.2) :: keptWs keep (L.map fun x => (.t x.1, .val x.2)) := by
    unfold keptWs; rw [List.filter_cons, if_pos (by exact hk)]
   rw [e]
   exact this
  ·rw [if_neg hk] at this
   have e : keptWs keep ((Mv.Loc.t x.1, AV.val x.2) :: L.map fun x => (.t x.1, .val x.2)) = keptWs keep (L.map fun x => (.t x.1, .val x.2)) := by
    unfold keptWs; rw [List.filter_cons, if_neg (by exact hk)]
   rw [e]
   exact this
theorem Rel.asg {keep : List Nat} : ∀ (L : List (Nat × Nat)) (st : St) (tm : Array Value), (∀ x ∈ L, x.1 < N) → KInv keep st → Rel Γ w0 A O0 ν0 N F D st ν tm w →
  Rel Γ w0 A O0 ν0 N F D (c4u keep L st) ν (L.foldl (fun t x => t.setIfInBounds x.1 (t.getD x.2 undef)) tm) w ∧ KInv keep (c4u keep L st)
 | [], st, tm, _, hK, R => ⟨R, hK⟩
 | x :: L, st, tm, hL, hK, R => by
  have h0 : RS st ν w D (st (.t x.2)) (tm.getD x.2 undef) := by
   rcases Nat.lt_or_ge x.2 N with h | h
   ·exact R.slots _ h
   ·rw [R.high _ h]; exact .undef _
  obtain ⟨R1, hK1⟩ := R.setSlot hK (hL x (List.mem_cons_self ..)) h0 (hK.refs (.t x.2))
  exact Rel.asg L _ _ (fun y hy => hL y (List.mem_cons_of_mem _ hy)) hK1 R1
end
theorem b0i {ro : Option Nat} {n : Nat} {P : Program} {ops : Array Oper} {K : Act → World → Prop} {Fa : Exit → Act → World → Prop} {ds : List Deferred} {W : World} :
  ∀ (L : List Oper) (i0 : Nat) (l : List (Nat × Nat)) (t : Array Value), (∀ j, j < L.length → ops[i0 + j]? = L[j]?) → asgOps L = some l → K ⟨l.foldl (fun t x => t.setIfInBounds x.1 (t.getD x.2 undef)) t, ds⟩ W →
   wpOpsIn (Fr ro) n P ops (Exit.then K Fa) (List.range' i0 L.length) ⟨t, ds⟩ W
 | [], i0, l, t, _, hl, hK => by
  simp only [asgOps, Option.some.injEq] at hl
  subst hl
  exact hK
 | o :: L, i0, l, t, hL, hl, hK => by
  simp only [asgOps] at hl
  split at hl
  ·rename_i d p l' hd ho hg hl'
   cases hl
   have h0 := hL 0 (by simp)
   simp only [Nat.add_zero, List.getElem?_cons_zero] at h0
   rw [List.length_cons, List.range'_succ, wpOpsIn_cons]
   unfold wpOpIn
   simp only [h0]
   have hw : Region.wanted o (yielded ops t) = true := by simp [Region.wanted, hg]
   simp only [hw, if_true]
   refine ⟨fun _ _ => trivial, ?_⟩
   have hrun : (o.semAt (Fr ro).round (Act.mk t ds).eval).run P W = .ok (.value ((Act.mk t ds).eval (.tmp p))) W := by
    rw [Oper.semAt_eq _ _ _ (by rw [ho]; intro c hc; cases hc)]
    simp [execOp, ho, Sem.run]
   rw [hrun, Oper.uponIn_value]
   have hput : (Act.mk t ds).put o.dst ((Act.mk t ds).eval (.tmp p)) = ⟨t.setIfInBounds d (t.getD p undef), ds⟩ := by
    rw [hd]; rfl
   rw [hput]
   exact b0i L (i0 + 1) l' _ (fun j hj => by
    have := hL (j + 1) (by simp; omega)
    rw [show i0 + 1 + j = i0 + (j + 1) by omega]; simpa using this) hl' hK
  ·cases hl
theorem b6m {ro : Option Nat} {n : Nat} {P : Program} {ds : List Deferred} {c : Code} : ∀ {K : Act → World → Prop} {Fa : Exit → Act → World → Prop} {W : World} {l : List (Nat × Nat)} {t : Array Value} (_ : codeAsg c = some l)
  (_ : K ⟨l.foldl (fun t x => t.setIfInBounds x.1 (t.getD x.2 undef)) t, ds⟩ W), c.wpIn (Fr ro) n P (Exit.then K Fa) ⟨t, ds⟩ W := by
 induction c with
 | skip =>
  intro K Fa W l t hc hK
  cases hc
  exact wpIn_skip hK
 | region id ops dr =>
  intro K Fa W l t hc hK
  cases dr with
  | true => simp [codeAsg] at hc
  | false =>
   refine wpIn_region ?_
   rw [List.range_eq_range', ← Array.length_toList]
   exact b0i ops.toList 0 l t (fun j hj => by simp) hc hK
 | seq a b iha ihb =>
  intro K Fa W l t hc hK
  simp only [codeAsg] at hc
  split at hc
  ·rename_i l1 l2 h1 h2
   cases hc
   rw [List.foldl_append] at hK
   exact wpIn_seq (iha h1 (ihb h2 hK))
  ·cases hc
 | _ => intro K Fa W l t hc hK; simp [codeAsg] at hc
theorem a5u : ∀ (L : List Oper) (l : List (Nat × Nat)), asgOps L = some l → ∀ x ∈ l, x.1 ∈ L.flatMap fun o => o.dst.toList := by
 intro L
 induction L with
 | nil => intro l hl x hx; simp only [asgOps, Option.some.injEq] at hl; subst hl; cases hx
 | cons o L ih =>
  intro l hl x hx
  simp only [asgOps] at hl
  split at hl
  ·rename_i d p l' hd ho hg hl'
   cases hl
   rw [List.flatMap_cons]
   rcases List.mem_cons.1 hx with rfl | hx
   ·exact List.mem_append_left _ (by simp [hd])
   ·exact List.mem_append_right _ (ih l' hl' x hx)
  ·cases hl
theorem b2y {c : Code} : ∀ {l : List (Nat × Nat)} (_ : codeAsg c = some l), ∀ x ∈ l, x.1 ∈ codeDsts c := by
 induction c with
 | skip => intro l hc x hx; cases hc; cases hx
 | region id ops dr =>
  intro l hc x hx
  cases dr with
  | true => simp [codeAsg] at hc
  | false => exact a5u _ _ hc x hx
 | seq a b iha ihb =>
  intro l hc x hx
  simp only [codeAsg] at hc
  split at hc
  ·rename_i l1 l2 h1 h2
   cases hc
   rcases List.mem_append.1 hx with hx | hx
   ·exact List.mem_append_left _ (iha h1 x hx)
   ·exact List.mem_append_right _ (ihb h2 x hx)
  ·cases hc
 | _ => intro l hc; simp [codeAsg] at hc
def c8k (D : Nat → Prop) (W W' : World) : Prop := ∀ b, D b → W'.heap[b]? = W.heap[b]?
def c7u (Γ : Env) (P : Program) (k : Nat) (caps : List AV) (xs : List (List Value)) : Prop :=
 ¬ Γ.mo ∧ Enters P k ∧ ∀ (w : World) (D : Nat → Prop) (lb : Array Value), (∀ b, D b → b < w.heap.size) → lb.size = caps.length → (∀ i c, caps[i]? = some c → RV w D c (lb.getD i undef)) → ∀ n, 1 ≤ n →
  SeqStopsK Fence.wide n P k lb (fun x : { y // y ∈ xs } => x.1.toArray) (c8k D) (fun ys => ys.map (·.1) = xs) (fun _ => True) xs.length w
def a1m (Γ : Env) (cx : Cx) : Prop := ∀ k F caps xs, cx.it k = some F → F caps = some xs → c7u Γ cx.P k caps xs
end Go.Mv
end

section
namespace Go.Mv
open Go Go.RowKit
def exitOf : AExit → Exit
 | .normal => .normal
 | .exit i => .exit i
 | .ret => .ret
def dstsIn (Z : Nat → Prop) : Code → Prop
 | .region _ ops _ => ∀ (i : Nat) (o : Oper), ops[i]? = some o → ∀ d, o.dst = some d → Z d
 | .seq a b => dstsIn Z a ∧ dstsIn Z b
 | .cond _ a b => dstsIn Z a ∧ dstsIn Z b
 | .block _ b => dstsIn Z b
 | .loop b => dstsIn Z b
 | _ => True
theorem M4 : ∀ c : Code, dstsIn (fun _ => True) c
 | .region _ _ _ => fun _ _ _ _ _ => trivial
 | .seq a b => ⟨M4 a, M4 b⟩
 | .cond _ a b => ⟨M4 a, M4 b⟩
 | .block _ b => M4 b
 | .loop b => M4 b
 | .skip => trivial
 | .exit _ => trivial
 | .ret => trivial
 | .goto _ => trivial
 | .label _ => trivial
 | .scope _ => trivial
 | .refuse _ => trivial
 | .rangeFunc .. => trivial
theorem R9 {Z : Nat → Prop} : ∀ c : Code, (∀ d ∈ codeDsts c, Z d) → dstsIn Z c
 | .region _ ops _, h => fun i o ho d hd => h d (by
   simp only [codeDsts, List.mem_flatMap]
   exact ⟨o, Array.mem_toList_iff.2 (Array.mem_of_getElem? ho), by simp [hd]⟩)
 | .seq a b, h => ⟨R9 a fun d hd => h d (by simp [codeDsts, hd]), R9 b fun d hd => h d (by simp [codeDsts, hd])⟩
 | .cond _ a b, h => ⟨R9 a fun d hd => h d (by simp [codeDsts, hd]), R9 b fun d hd => h d (by simp [codeDsts, hd])⟩
 | .block _ b, h => R9 b fun d hd => h d (by simp [codeDsts, hd])
 | .loop b, h => R9 b fun d hd => h d (by simp [codeDsts, hd])
 | .skip, _ => trivial
 | .exit _, _ => trivial
 | .ret, _ => trivial
 | .goto _, _ => trivial
 | .label _, _ => trivial
 | .scope _, _ => trivial
 | .refuse _, _ => trivial
 | .rangeFunc .., _ => trivial
section
variable {C : Caller} {Γ : Env} {N : Nat}
theorem c6f {w0 : World} {A O0 : Nat → Prop} {ν0 : Nu} {st : St} {D : Nat → Prop} {ν : Nu} {tm : Array Value} {w : World} {ds : List Deferred} (R : Rel Γ w0 A O0 ν0 N Fl.emp D st ν tm w) {c : Operand} {x : AV} (h : opA st c = x) (hx : x ≠ .undef) : RS st ν w D x ((Act.mk tm ds).eval c) := by
 refine C4 (C := fun _ _ => none) (x := c) ?_ R
 cases c with
 | tmp t => simp only [rdO, N8]; exact congrArg some h
 | const v => simp only [rdO, Rd.ev_ret]; exact congrArg some h
 | func f => simp [opA] at h; exact (hx h.symm).elim
 | global g => simp [opA] at h; exact (hx h.symm).elim
theorem b4r {T : (Nat → Prop) × Array Value} {w0 : World} {A O0 : Nat → Prop} {ν0 : Nu} {st : St} {a : Act} {w : World} (hR : Rg Γ T w0 A O0 ν0 N st a w) {c : Operand} {b : Bool} (h : opA st c = .val (.bool b)) : a.eval c = .bool b := by
 obtain ⟨tm, ds⟩ := a
 obtain ⟨hd, hT, D, ν, R⟩ := hR
 have : RS st ν w D (.val (.bool b)) ((Act.mk tm ds).eval c) := by
  refine C4 (C := fun _ _ => none) (x := c) ?_ R
  cases c with
  | tmp t => simp only [rdO, N8]; exact congrArg some h
  | const v => simp only [rdO, Rd.ev_ret]; exact congrArg some h
  | func f => simp [opA] at h
  | global g => simp [opA] at h
 exact this.val_inv
theorem a5o {n : Nat} {id : Nat} {ops : Array Oper} {draw : Bool} (h : H2 n (.region id ops draw) = true) : ∀ (i : Nat) (o : Oper), ops[i]? = some o → ∀ d, o.dst = some d → d < n := by
 intro i o ho d hd
 simp only [H2, Array.all_eq_true] at h
 have hi := (Array.getElem?_eq_some_iff.1 ho)
 obtain ⟨hlt, he⟩ := hi
 have := h i hlt
 rw [he, hd] at this
 simpa using (of_decide_eq_true this).1
def c8y (cx : Cx) (Γ : Env) (C : Caller) (N : Nat) (keep : List Nat) (n : Nat) : Prop := ∀ (ro : Option Nat) (m : Nat) (T : (Nat → Prop) × Array Value) (w0 : World) (A O0 : Nat → Prop) (ν0 : Nu), (ro = none → 2 ≤ m) → (∀ b, O0 b → A b) →
  ∀ (c : Code) (st st' : St) (r : AExit) (a : Act) (w : World) (Q : Exit → Act → World → Prop), aexec C cx keep n c st = some (r, st') → H2 N c = true → dstsIn T.1 c → (ro = none ∨ L2 c = true) → KInv keep st → Rg Γ T w0 A O0 ν0 N st a w →
   (∀ a w, KInv keep st' → Rg Γ T w0 A O0 ν0 N st' a w → Q (exitOf r) a w) → c.wpIn (Fr ro) m cx.P Q a w
theorem a1d {β : Type} (f : Array Value → Nat × β → Value) (zl : List Nat) : ∀ (L : List (Nat × β)) (t : Array Value), (∀ x ∈ L, zl.contains x.1 = true) → ∀ i, zl.contains i = false → (L.foldl (fun t x => t.setIfInBounds x.1 (f t x)) t)[i]? = t[i]?
 | [], _, _, _, _ => rfl
 | x :: L, t, h, i, hi => by
  rw [List.foldl_cons, a1d f zl L _ (fun y hy => h y (List.mem_cons_of_mem _ hy)) i hi, Array.getElem?_setIfInBounds_ne]
  intro e
  have := h x (List.mem_cons_self ..)
  rw [e, hi] at this; cases this
theorem c4t (keep : List Nat) : ∀ (l : List (Nat × Nat)) (s : St) (id : Nat), c4u keep l s (.h id) = s (.h id)
 | [], _, _ => rfl
 | x :: l, s, id => by
  show c4u keep l _ (.h id) = _
  rw [c4t keep l]
  simp only
  split
  ·exact b8s _ _ _ _
  ·rfl
theorem c2o (keep ps : List Nat) (l : List (Nat × Nat)) (zl : List Nat) (vs : List Value) (s : St) (id : Nat) : startS keep ps l zl vs s (.h id) = s (.h id) := by
 unfold startS
 rw [c4t, St.upds_notin]
 ·rfl
 ·intro x hx
  have := (List.mem_filter.1 hx).1
  obtain ⟨y, _, rfl⟩ := List.mem_map.1 this
  intro e; cases e
theorem b6l {n : Nat} {c : Code} : ∀ {l : List (Nat × Nat)} (_ : codeAsg c = some l) (_ : H2 n c = true), ∀ x ∈ l, x.1 < n := by
 induction c with
 | skip => intro l hc _ x hx; cases hc; cases hx
 | region id ops dr =>
  intro l hc hd x hx
  cases dr with
  | true => simp [codeAsg] at hc
  | false =>
   have h1 := a5u _ _ hc x hx
   simp only [List.mem_flatMap] at h1
   obtain ⟨o, ho, hx⟩ := h1
   obtain ⟨i, hi⟩ := List.mem_iff_getElem?.1 ho
   exact a5o hd i o (by simpa using hi) x.1 (by simpa using hx)
 | seq a b iha ihb =>
  intro l hc hd x hx
  simp only [codeAsg] at hc
  simp only [H2, Bool.and_eq_true] at hd
  split at hc
  ·rename_i l1 l2 h1 h2
   cases hc
   rcases List.mem_append.1 hx with hx | hx
   ·exact iha h1 hd.1 x hx
   ·exact ihb h2 hd.2 x hx
  ·cases hc
 | _ => intro l hc; simp [codeAsg] at hc
theorem b7y (cx : Cx) (hI : a1m Γ cx) {keep : List Nat} {n : Nat} (hX : c8y cx Γ C N keep n) {ro : Option Nat} {m : Nat} {T : (Nat → Prop) × Array Value} {w0 : World} {A O0 : Nat → Prop} {ν0 : Nu} (hm1 : ro = none → 2 ≤ m) (hOA : ∀ b, O0 b → A b)
  {g : Operand} {ps : Array Tmp} {ac bc : Code} {st st' : St} {r : AExit} {a : Act} {w : World} {Q : Exit → Act → World → Prop} (h : aexec C cx keep (n + 1) (.rangeFunc g ps ac bc) st = some (r, st')) (hd : H2 N (.rangeFunc g ps ac bc) = true)
  (hn : ro = none ∨ L2 (.rangeFunc g ps ac bc) = true) (hK : KInv keep st) (hR : Rg Γ T w0 A O0 ν0 N st a w) (hQ : ∀ a w, KInv keep st' → Rg Γ T w0 A O0 ν0 N st' a w → Q (exitOf r) a w) : (Code.rangeFunc g ps ac bc).wpIn (Fr ro) m cx.P Q a w := by
 obtain rfl : ro = none := hn.resolve_right (by simp [L2])
 have hm2 := hm1 rfl
 simp only [aexec] at h
 split at h
 ·rename_i k caps l hg hl
  split at h
  ·rename_i xs hxs
   split at h
   ·rename_i hc
    obtain ⟨hnb, hip, hlen⟩ := hc
    unfold a0n at h
    split at h
    ·rename_i hall
     simp only [Option.map_eq_some_iff, Prod.mk.injEq] at h
     obtain ⟨sf, hsf, rfl, rfl⟩ := h
     obtain ⟨F, hF, hFc⟩ := Option.bind_eq_some_iff.1 hxs
     obtain ⟨hmo, hE, hseq0⟩ := hI k F caps xs hF hFc
     obtain ⟨tm, ds⟩ := a
     obtain ⟨hds, hT, D0, ν1, R⟩ := hR
     simp only at hds hT R
     have hgv := c6f R (ds := ds) hg (by simp)
     obtain ⟨lb, hlb, hlbs, hlbr⟩ := hgv.clo_list
     have hrv : ∀ i c, caps[i]? = some c → RV w D0 c (lb.getD i undef) := fun i c hi => by
      obtain ⟨v, h1, h2⟩ := hlbr.2 i c hi
      have e : lb.getD i undef = v := by
       rw [Array.getD_eq_getD_getElem?]
       rw [Array.getElem?_toList] at h1
       rw [h1]; rfl
      rw [e]
      have hci : W3 c = true := List.all_eq_true.1 hip c (List.mem_of_getElem? hi)
      cases c <;> simp [W3] at hci
      cases h2 with
      | data _ _ h => exact h
     obtain ⟨zl, hzl⟩ : ∃ zl, zl = codeDsts (.rangeFunc g ps ac bc) := ⟨_, rfl⟩
     rw [← hzl] at hall hsf
     simp only [H2, Bool.and_eq_true] at hd
     obtain ⟨⟨hdp, hda⟩, hdb⟩ := hd
     have hdp' : ∀ p ∈ ps.toList, p < N := fun p hp => (of_decide_eq_true (List.all_eq_true.1 hdp p hp)).1
     have hpz : ∀ p ∈ ps.toList, zl.contains p = true := fun p hp => by rw [hzl, List.contains_iff_mem]; simp [codeDsts, hp]
     have hlz : ∀ x ∈ l, zl.contains x.1 = true := fun x hx => by rw [hzl, List.contains_iff_mem]; simp [codeDsts, b2y hl x hx]
     have hln : ∀ x ∈ l, x.1 < N := fun x hx => by
      exact b6l hl hda x hx
     have hmk : ∀ vs s, startS keep ps.toList l zl vs (maskS zl s) = startS keep ps.toList l zl vs s := fun vs s => b5e
     obtain ⟨run, hrun0⟩ : ∃ run : St → Option (AExit × St), run = fun s => aexec C cx keep n bc s := ⟨_, rfl⟩
     rw [← hrun0] at hall hsf
     have hlt0 : ∀ b, D0 b → b < w.heap.size := fun b hb => (R.dlt b hb).1
     have hle0 := R.le
     refine wpIn_rangeFunc_ownG (F := Fr none) (n := m) rfl (by omega) (gf := k) (lb := lb) hlb trivial (fun args w => a4i hE args w) (w0 := w) (N := xs.length) (hseq0 w D0 lb hlt0 hlbs hrv (m - 1) (by omega))
      (fun h1 h2 b hb => (h2 b hb).trans (h1 b hb)) (fun W l' o o' hl' _ _ _ b hb => World.putObj_heap_other (by have := hlt0 b hb; omega)) (Below.refl _ w)
      (fun x => by simpa using List.all_eq_true.1 hlen x.1 x.2)
      (fun ys W => ∃ s, arounds run (startS keep ps.toList l zl) (maskS zl) (ys.map (·.1)) st = some s ∧ KInv keep s ∧ KeepsOthers w W ∧ (∀ b, D0 b → W.heap[b]? = w.heap[b]?) ∧ ∃ D ν, (∀ b, D0 b → ¬ TB s ν Fl.emp b) ∧ Rel Γ w0 A O0 ν0 N Fl.emp D s ν tm W)
      (fun _ _ _ => False) ?_ (fun c s X Y row h _ _ => h) ?_
      (fun x => ⟨l.foldl (fun t x => t.setIfInBounds x.1 (t.getD x.2 undef)) ((ps.toList.zip x.1).foldl (fun t x => t.setIfInBounds x.1 x.2) tm), []⟩) ?_ ?_ ?_ (fun _ _ _ _ _ _ h _ => h.elim)
     ·rintro ys X Y row ⟨s, h1, h2, h3, h4, D, ν, h5, R1⟩ hg' hr'
      refine ⟨s, h1, h2, ⟨Nat.le_trans h3.size hg'.size, fun k' o hk ho => ?_⟩, fun b hb => ?_, D, ν, h5, R1.turn hg' (fun r e => ⟨Nat.le_trans hle0 (hr' r e).1, (hr' r e).2⟩) (fun h => (hmo h).elim)⟩
      ·have h6 := h3.same k' o hk ho
       rw [hg'.block k' (Array.getElem?_eq_some_iff.1 h6).1 (fun e => by have := (hr' k' e.symm).1; have := (Array.getElem?_eq_some_iff.1 hk).1; omega)]
       exact h6
      ·have h6 := hlt0 b hb
       have h7 := h3.size
       rw [hg'.block b (by omega) (fun e => by have := (hr' b e.symm).1; omega)]
       exact h4 b hb
     ·exact ⟨maskS zl st, rfl, hK.mask zl, KeepsOthers.refl w, fun _ _ => rfl, D0, ν1, fun b hb ht => R.dT b hb ((a1l (fun _ => rfl) b).1 ht), R.mask zl R.size (fun _ _ => rfl)⟩
     ·intro l' x W K hK'
      have e : (ps.zip x.1.toArray).foldl (fun t (p, v) => t.setIfInBounds p v) tm = (ps.toList.zip x.1).foldl (fun t x => t.setIfInBounds x.1 x.2) tm := by
       rw [← Array.foldl_toList, Array.toList_zip]
      show ac.wpIn (Fr (some l')) _ _ _ ⟨(ps.zip x.1.toArray).foldl (fun t (p, v) => t.setIfInBounds p v) tm, []⟩ W
      rw [e]
      exact b6m hl hK'
     ·rintro l' pre x W ⟨s, h1, h2, h3, h4, D, ν, h5, R1⟩ hlt
      have hall' := hall (pre.map (·.1) ++ [x.1]) (fun y hy => by
       rcases List.mem_append.1 hy with hy | hy
       ·obtain ⟨z, _, rfl⟩ := List.mem_map.1 hy; exact z.2
       ·rw [List.mem_singleton.1 hy]; exact x.2) (by simp; omega)
      rw [a0a hmk, h1, Option.bind_some] at hall'
      cases hrun : run (startS keep ps.toList l zl x.1 s) with
      | none => simp [hrun] at hall'
      | some rr =>
       obtain ⟨e, s2⟩ := rr
       cases e with
       | exit i => simp [hrun] at hall'
       | ret => simp [hrun] at hall'
       | normal =>
        obtain ⟨Ra, hKa⟩ := Rel.vals (keep := keep) (ps.toList.zip x.1) (maskS zl s) tm (fun y hy => hdp' _ (List.of_mem_zip hy).1) (h2.mask zl) (R1.mask zl R1.size (fun _ _ => rfl))
        obtain ⟨Rb, hKb⟩ := Rel.asg l _ _ hln hKa Ra
        have hTB : ∀ b, TB (startS keep ps.toList l zl x.1 s) ν Fl.emp b → TB s ν Fl.emp b := fun b hb => (a1l (fun id => c2o _ _ _ _ _ _ id) b).1 hb
        have Rb' : Rel Γ w0 A O0 ν0 N Fl.emp D (startS keep ps.toList l zl x.1 s) ν _ W := Rb
        refine hX (some l') (m - 1 - 1) (fun i => zl.contains i = true, tm) W _ _ ν0 (by intro h; cases h) (fun b hb => .inr hb) bc (startS keep ps.toList l zl x.1 s) s2 .normal _ W _ (by rw [hrun0] at hrun; exact hrun) hdb
         (R9 bc fun d hd => by simp only [hzl, List.contains_iff_mem]; simp [codeDsts, hd]) (.inr hnb) hKb ⟨X0.nil _ _, fun i hi => ?_, D, ν, Rb'.rebase⟩ (fun a2 W2 hK2 hR2 => ?_)
        ·have hi' : zl.contains i = false := by simpa using hi
         rw [a1d (fun t x => t.getD x.2 undef) zl l _ hlz i hi', a1d (fun _ x => x.2) zl _ tm (fun y hy => hpz _ (List.of_mem_zip hy).1) i hi']
        ·obtain ⟨_, hT2, D2, ν2, R2⟩ := hR2
         have hko := Rb'.others R2
         have h7 := h3.size
         have hkp : ∀ b, D0 b → W2.heap[b]? = W.heap[b]? := fun b hb => R2.fr b (by have := hlt0 b hb; omega) (fun ht => h5 b hb (hTB b ht))
         refine ⟨hko.from _, hkp, maskS zl s2, ?_, hK2.mask zl, h3.trans hko, fun b hb => (hkp b hb).trans (h4 b hb), D2, ν2, fun b hb ht => ?_, (Rb'.unbase hOA R2).mask zl R.size (fun i hi => hT2 i (by simpa using hi))⟩
         ·rw [List.map_append, List.map_cons, List.map_nil, a0a hmk, h1, Option.bind_some, hrun]
         ·rcases R2.tO b ((a1l (fun _ => rfl) b).1 ht) with h8 | h8
          ·exact h5 b hb (hTB b h8)
          ·have := hlt0 b hb; omega
     ·rintro Dk ys W hle hS ⟨s, h1, h2, h3, h4, D, ν, h5, R1⟩ hmk'
      rw [hS, hsf] at h1
      cases h1
      exact hQ _ W h2 ⟨hds.cons h3 (by omega) hle hmk', hT, D, ν, R1⟩
    ·cases h
   ·cases h
  ·cases h
 ·cases h
theorem b5c (cx : Cx) (hS : SoundC Γ cx C) (hI : a1m Γ cx) (hm : cx.P.follows .mixedOrders = true) {keep : List Nat} : ∀ (n : Nat) (ro : Option Nat) (m : Nat) (T : (Nat → Prop) × Array Value) (w0 : World) (A O0 : Nat → Prop) (ν0 : Nu), (ro = none → 2 ≤ m) → (∀ b, O0 b → A b) →
  (∀ (c : Code) (st st' : St) (r : AExit) (a : Act) (w : World) (Q : Exit → Act → World → Prop), aexec C cx keep n c st = some (r, st') → H2 N c = true → dstsIn T.1 c → (ro = none ∨ L2 c = true) → KInv keep st → Rg Γ T w0 A O0 ν0 N st a w →
   (∀ a w, KInv keep st' → Rg Γ T w0 A O0 ν0 N st' a w → Q (exitOf r) a w) → c.wpIn (Fr ro) m cx.P Q a w) ∧
  (∀ (b : Code) (st st' : St) (r : AExit) (a : Act) (w : World) (Q : Exit → Act → World → Prop), aexec C cx keep n (.loop b) st = some (r, st') → H2 N b = true → dstsIn T.1 b → (ro = none ∨ L2 b = true) → KInv keep st → Rg Γ T w0 A O0 ν0 N st a w →
   (∀ a w, KInv keep st' → Rg Γ T w0 A O0 ν0 N st' a w → Q (exitOf r) a w) → Code.roundsIn (Fr ro) m cx.P b Q n a w) := by
 intro n
 induction n with
 | zero => exact fun ro m T w0 A O0 ν0 _ _ => ⟨fun c st st' r a w Q h => by simp [aexec] at h, fun b st st' r a w Q h => by simp [aexec] at h⟩
 | succ n ihAll =>
  intro ro m T w0 A O0 ν0 hm1 hOA
  obtain ⟨ih1, ih2⟩ := ihAll ro m T w0 A O0 ν0 hm1 hOA
  have hloop : ∀ (b : Code) (st st' : St) (r : AExit) (a : Act) (w : World) (Q : Exit → Act → World → Prop), aexec C cx keep (n + 1) (.loop b) st = some (r, st') → H2 N b = true → dstsIn T.1 b → (ro = none ∨ L2 b = true) → KInv keep st → Rg Γ T w0 A O0 ν0 N st a w →
    (∀ a w, KInv keep st' → Rg Γ T w0 A O0 ν0 N st' a w → Q (exitOf r) a w) → Code.roundsIn (Fr ro) m cx.P b Q (n + 1) a w := by
   intro b st st' r a w Q h hd hz hn hK hR hQ
   rw [roundsIn_succ]
   simp only [aexec] at h
   cases hb : aexec C cx keep n b st with
   | none => simp [hb] at h
   | some x =>
    obtain ⟨r1, st1⟩ := x
    refine ih1 b st st1 r1 a w _ hb hd hz hn hK hR fun a1 w1 hK1 hR1 => ?_
    cases r1 with
    | normal =>
     simp only [hb] at h
     exact ih2 b st1 st' r a1 w1 Q h hd hz hn hK1 hR1 hQ
    | exit i =>
     simp only [hb, Option.some.injEq, Prod.mk.injEq] at h
     obtain ⟨rfl, rfl⟩ := h
     exact hQ a1 w1 hK1 hR1
    | ret =>
     simp only [hb, Option.some.injEq, Prod.mk.injEq] at h
     obtain ⟨rfl, rfl⟩ := h
     exact hQ a1 w1 hK1 hR1
  refine ⟨fun c st st' r a w Q h hd hz hn hK hR hQ => ?_, hloop⟩
  cases c with
  | skip =>
   simp only [aexec, Option.some.injEq, Prod.mk.injEq] at h
   obtain ⟨rfl, rfl⟩ := h
   exact wpIn_skip (hQ a w hK hR)
  | region id ops draw =>
   simp only [aexec] at h
   cases hr : N6 C cx keep ops draw st with
   | none => simp [hr] at h
   | some st1 =>
    simp only [hr, Option.some.injEq, Prod.mk.injEq] at h
    obtain ⟨rfl, rfl⟩ := h
    exact a9s cx hS hOA hm (a5o hd) hz hr hK hR hQ
  | seq x y =>
   simp only [H2, Bool.and_eq_true] at hd
   simp only [L2, Bool.and_eq_true] at hn
   simp only [aexec] at h
   refine wpIn_seq ?_
   cases hx : aexec C cx keep n x st with
   | none => simp [hx] at h
   | some z =>
    obtain ⟨r1, st1⟩ := z
    refine ih1 x st st1 r1 a w _ hx hd.1 hz.1 (hn.imp id (·.1)) hK hR fun a1 w1 hK1 hR1 => ?_
    cases r1 with
    | normal =>
     simp only [hx] at h
     exact ih1 y st1 st' r a1 w1 Q h hd.2 hz.2 (hn.imp id (·.2)) hK1 hR1 hQ
    | exit i =>
     simp only [hx, Option.some.injEq, Prod.mk.injEq] at h
     obtain ⟨rfl, rfl⟩ := h
     exact hQ a1 w1 hK1 hR1
    | ret =>
     simp only [hx, Option.some.injEq, Prod.mk.injEq] at h
     obtain ⟨rfl, rfl⟩ := h
     exact hQ a1 w1 hK1 hR1
  | cond c x y =>
   simp only [H2, Bool.and_eq_true] at hd
   simp only [L2, Bool.and_eq_true] at hn
   simp only [aexec] at h
   split at h
   ·rename_i hc
    exact wpIn_cond_true (b4r hR hc) (ih1 x st st' r a w Q h hd.1 hz.1 (hn.imp id (·.1)) hK hR hQ)
   ·rename_i hc
    exact wpIn_cond_false (b4r hR hc) (ih1 y st st' r a w Q h hd.2 hz.2 (hn.imp id (·.2)) hK hR hQ)
   ·cases h
  | block id b =>
   simp only [H2] at hd
   simp only [aexec] at h
   refine wpIn_block ?_
   cases hb : aexec C cx keep n b st with
   | none => simp [hb] at h
   | some z =>
    obtain ⟨r1, st1⟩ := z
    refine ih1 b st st1 r1 a w _ hb hd hz hn hK hR fun a1 w1 hK1 hR1 => ?_
    cases r1 with
    | normal =>
     simp only [hb, Option.some.injEq, Prod.mk.injEq] at h
     obtain ⟨rfl, rfl⟩ := h
     exact hQ a1 w1 hK1 hR1
    | exit i =>
     simp only [hb] at h
     by_cases hi : i = id
     ·simp only [hi, if_true, Option.some.injEq, Prod.mk.injEq] at h
      obtain ⟨rfl, rfl⟩ := h
      simp only [exitOf, Exit.inBlock, hi, if_true]
      exact hQ a1 w1 hK1 hR1
     ·simp only [hi, if_false, Option.some.injEq, Prod.mk.injEq] at h
      obtain ⟨rfl, rfl⟩ := h
      simp only [exitOf, Exit.inBlock, hi, if_false]
      exact hQ a1 w1 hK1 hR1
    | ret =>
     simp only [hb, Option.some.injEq, Prod.mk.injEq] at h
     obtain ⟨rfl, rfl⟩ := h
     exact hQ a1 w1 hK1 hR1
  | loop b => exact wpIn_loop_rounds (n + 1) (hloop b st st' r a w Q h (by simpa [H2] using hd) hz hn hK hR hQ)
  | exit i =>
   simp only [aexec, Option.some.injEq, Prod.mk.injEq] at h
   obtain ⟨rfl, rfl⟩ := h
   exact wpIn_exit (hQ a w hK hR)
  | ret =>
   simp only [aexec, Option.some.injEq, Prod.mk.injEq] at h
   obtain ⟨rfl, rfl⟩ := h
   exact wpIn_ret (hQ a w hK hR)
  | rangeFunc g ps ac bc => exact b7y cx hI (fun ro m T w0 A O0 ν0 h1 h2 => (ihAll ro m T w0 A O0 ν0 h1 h2).1) hm1 hOA h hd hn hK hR hQ
  | _ => simp [aexec] at h
end
section
variable {P : Program} {C : Caller} {Γ : Env} {w0 : World} {A O0 : Nat → Prop} {ν0 : Nu} {N : Nat} {F : Fl} {D : Nat → Prop} {st : St} {ν : Nu} {tm : Array Value} {w : World}
theorem RO.ofBox {L : AV → Value → Prop} {φ : Path → Base} {bx : Prop} {s : Nat} {es : List AV} (h : RO w L φ bx s es) (hb : bx) : RO w L φ False (boxS es) es := by
 refine ⟨?_, h.sub⟩
 have ht := h.top
 cases hφ : φ none with
 | none =>
  rw [hφ] at ht
  exact ht
 | some q =>
  obtain ⟨b, o⟩ := q
  rw [hφ] at ht
  obtain ⟨c, ety, h1, h2, h3, h5, h4⟩ := ht
  have hle := h5 hb
  match es, hle, h2, h4 with
  | [], _, h2, _ => exact ⟨c, ety, h1, by simpa using h2, (fun _ e he => by cases he), (fun h => h.elim), (fun i j l hl => by simp [leafAt] at hl)⟩
  | [e], _, h2, h4 =>
   refine ⟨c, ety, h1, ?_, fun _ e' he => ?_, fun h => h.elim, fun i j l hl => ?_⟩
   ·simp only [boxS, List.length_cons, List.length_nil, Nat.zero_add, Nat.one_mul]
    cases hn : (leaves e).length with
    | zero => simp at h2; omega
    | succ n =>
     obtain ⟨v, hv, _⟩ := h4 0 n ((leaves e)[n]'(by omega)) (by simp [leafAt])
     have := (Array.getElem?_eq_some_iff.1 hv).1
     omega
   ·simp only [List.mem_singleton] at he
    subst he
    rfl
   ·have hi : i = 0 := by
     unfold leafAt at hl
     cases i with
     | zero => rfl
     | succ i => simp at hl
    subst hi
    obtain ⟨v, hv, hr⟩ := h4 0 j l hl
    exact ⟨v, by simpa using hv, hr⟩
  | _ :: _ :: _, hle, _, _ => simp at hle
theorem Rel.detachBox (R : Rel Γ w0 A O0 ν0 N F D st ν tm w) {id g s : Nat} {es : List AV} (h : st (.h id) = .obj g 3 s es) {κ : FK} (hκ : F κ = none) :
  Rel Γ w0 A O0 ν0 N (F.set κ (some ⟨ν id, boxS es, es⟩)) D (st.upd (.h id) (.dead g)) ν tm w := by
 have E : Ext st ν w (st.upd (.h id) (.dead g)) ν w := R.extUpd (by rw [h]; exact Nat.le_refl _) (by intro _ _ _ _ e; cases e) (fun _ _ => rfl) (fun _ _ => rfl)
 have hL : ∀ a v, RS st ν w D a v → RS (st.upd (.h id) (.dead g)) ν w D a v := fun a v h => h.same E (fun _ hb => hb)
 have hob : ∀ i g' m s' es', st.upd (.h id) (.dead g) (.h i) = .obj g' m s' es' → i ≠ id ∧ st (.h i) = .obj g' m s' es' := by
  intro i g' m s' es' hi
  by_cases e : i = id
  ·subst e; rw [St.upd_eq] at hi; cases hi
  ·rw [G3 _ _ _ e] at hi; exact ⟨e, hi⟩
 refine R.ghost (fun i => M0 _ _ _ _) E (fun _ hb => hb) ?_ ?_ ?_ (FrF κ id) ?_ ?_ (fun b hb hd => (hd hb).elim) ?_
 ·intro i g' m s' es' hi
  exact (R.objs i g' m s' es' (hob _ _ _ _ _ hi).2).mono rfl (fun _ _ _ _ _ => rfl) (fun _ _ _ => rfl) (fun _ _ _ _ _ _ _ _ => rfl) hL
 ·intro i g' s' es' hi
  exact R.frozen i g' s' es' (hob _ _ _ _ _ hi).2
 ·intro k f hf
  by_cases e : k = κ
  ·subst e
   rw [Fl.set_eq] at hf
   cases hf
   have := (R.objs id g 3 s es h).ofBox (.inl rfl)
   exact this.mono rfl (fun _ _ _ _ _ => rfl) (fun _ _ _ => rfl) (fun _ _ _ _ _ _ _ _ => rfl) hL
  ·rw [Fl.set_ne _ _ e] at hf
   exact (R.flos k f hf).mono rfl (fun _ _ _ _ _ => rfl) (fun _ _ _ => rfl) (fun _ _ _ _ _ _ _ _ => rfl) hL
 ·intro k b o hl hb
  cases k with
  | nd i p =>
   obtain ⟨g', m, s', es', h1, h2, h3⟩ := hl
   exact ⟨o, ⟨g', m, s', es', (hob _ _ _ _ _ h1).2, h2, h3⟩, hb⟩
  | fl k p =>
   obtain ⟨f, h1, h3⟩ := hl
   by_cases e : k = κ
   ·subst e
    rw [Fl.set_eq] at h1
    cases h1
    simp only [baseOf, Fl.set_eq] at hb
    simp only [FrF, if_true]
    exact ⟨o, ⟨g, 3, s, es, h, by decide, h3⟩, hb⟩
   ·rw [Fl.set_ne _ _ e] at h1
    simp only [baseOf, Fl.set_ne _ _ e] at hb
    simp only [FrF, e, if_false]
    exact ⟨o, ⟨f, h1, h3⟩, hb⟩
 ·intro k1 k2 l1 l2 he
  have hid : ∀ p, ¬ live (st.upd (.h id) (.dead g)) (F.set κ (some ⟨ν id, boxS es, es⟩)) (.nd id p) := by
   rintro p ⟨g', m, s', es', h1, _⟩
   exact (hob _ _ _ _ _ h1).1 rfl
  cases k1 with
  | nd i p => cases k2 with
   | nd j q => exact he
   | fl k q =>
    simp only [FrF] at he
    split at he
    ·cases he; exact (hid _ l1).elim
    ·cases he
  | fl k p => cases k2 with
   | nd j q =>
    simp only [FrF] at he
    split at he
    ·cases he; exact (hid _ l2).elim
    ·cases he
   | fl k' q =>
    simp only [FrF] at he
    split at he <;> split at he
    ·rename_i e1 e2; cases he; rw [e1, e2]
    ·cases he
    ·cases he
    ·exact he
 ·intro i g' m s' es' hi hm
  exact R.io i g' m s' es' (hob _ _ _ _ _ hi).2 hm
theorem X6 (hOA : ∀ b, O0 b → A b) {κ : FK} (hκ : F κ = none) (R : Rel Γ w0 A O0 ν0 N F D st ν tm w) {v a : AV} {st' : St} {x : Value} (h : (S6 v).go C st = some (a, st')) (hv : RS st ν w D v x) :
    ∃ F' D', (∀ b, D b → D' b) ∧ Rel Γ w0 A O0 ν0 N F' D' st' ν tm w ∧ Ext st ν w st' ν w ∧ (∀ κ', κ' ≠ κ → F' κ' = F κ') ∧ L3 F' D' w κ a x ∧
      (∀ f, F' κ = some f → D8 f.es = true ∧ C8 f.es = hasList a) := by
  have same : st' = st → immLeaf a = true → RV w D a x → ∃ F' D', (∀ b, D b → D' b) ∧ Rel Γ w0 A O0 ν0 N F' D' st' ν tm w ∧ Ext st ν w st' ν w ∧ (∀ κ', κ' ≠ κ → F' κ' = F κ') ∧ L3 F' D' w κ a x ∧
      (∀ f, F' κ = some f → D8 f.es = true ∧ C8 f.es = hasList a) := by
    rintro rfl hi hr
    exact ⟨F, D, fun _ h => h, R, Ext.refl _ _ _, fun _ _ => rfl, .inr ⟨b7q hi, hr⟩, fun f hf => by rw [hκ] at hf; cases hf⟩
  unfold S6 at h
  split at h
  · rename_i id g p off n
    simp only [RW.go_bind, RW.go_up, Option.bind_eq_some_iff, Option.map_eq_some_iff] at h
    obtain ⟨_, ⟨⟨m, s, es⟩, h1, rfl⟩, h⟩ := h
    rw [E3] at h1
    obtain ⟨_, _, _, hsl⟩ := hv.sl_inv
    have hsl := hsl _ _ _ h1
    simp only at h
    split at h
    · rename_i hc
      obtain ⟨rfl, rfl⟩ := hc
      simp only [RW.go_bind, RW.go_up, B3, Option.bind_eq_some_iff, Option.map_eq_some_iff] at h
      obtain ⟨_, ⟨_, h2, rfl⟩, h⟩ := h
      obtain ⟨hn, hnr⟩ := B4 h2
      have hlen : (es.take n).length = n := by rw [List.length_take]; omega
      cases p with
      | none =>
        simp only [RW.go_bind, RW.go_wr, RW.go_pure, Option.bind_some, Option.some.injEq, Prod.mk.injEq] at h
        obtain ⟨rfl, rfl⟩ := h
        obtain ⟨R', E⟩ := R.takeObj (I5 h1) hκ n
        refine ⟨_, D, fun _ h => h, R', E, fun κ' h => Fl.set_ne _ _ h, .inl ⟨s, _, ν id, rfl, Fl.set_eq _ _ _, M8 hnr n, by rw [hlen]; exact hsl⟩, fun f hf => ?_⟩
        rw [Fl.set_eq] at hf
        cases hf
        exact ⟨M8 hnr n, rfl⟩
      | some q =>
        obtain ⟨i, j⟩ := q
        obtain ⟨s0, ps, hst, hp⟩ := H0 h1
        rcases hp with ⟨hq, _⟩ | ⟨i', j', hq, hl⟩
        · cases hq
        · cases hq
          simp only [b6a, RW.go_bind, RW.go_up, N8, Option.map_some, Option.bind_some, hst] at h
          cases he : ps[i]? with
          | none => simp [he] at h
          | some e =>
            simp only [he, RW.go_wr, RW.go_pure, Option.bind_some, Option.some.injEq, Prod.mk.injEq] at h
            obtain ⟨rfl, rfl⟩ := h
            obtain ⟨hRN, hno⟩ := R.node h1
            have hno := hno (by simp)
            obtain ⟨R', E⟩ := R.outSub hst (by decide) hl (O8 (bx := (0 = 3 ∨ 0 = 4)) (s := s0) he hl (l := .undef) (by intro gs hh; cases hh)) κ hκ
              (.inl ⟨rfl, rfl, rfl⟩) hOA
            have R2 := R'.cut (κ := κ) (Fl.set_eq _ _ _) n
            rw [Fl.set_set] at R2
            refine ⟨_, D, fun _ h => h, R2, E, fun κ' h => Fl.set_ne _ _ h, .inl ⟨s, _, _, rfl, Fl.set_eq _ _ _, M8 hnr n, by rw [hlen]; exact hsl⟩, fun f hf => ?_⟩
            rw [Fl.set_eq] at hf
            cases hf
            exact ⟨M8 hnr n, rfl⟩
    · simp only [RW.go_bind, RW.go_pure, Option.bind_eq_some_iff] at h
      obtain ⟨⟨es', st1⟩, h2, h3⟩ := h
      cases h3
      obtain ⟨D', hD, R', E, hr⟩ := N4 hOA hκ R h2 hv
      exact ⟨F, D', hD, R', E, fun _ _ => rfl, .inr ⟨rfl, hr⟩, fun f hf => by rw [hκ] at hf; cases hf⟩
  all_goals first
    | (simp only [RW.go_pure, Option.some.injEq, Prod.mk.injEq] at h; obtain ⟨rfl, rfl⟩ := h; exact same rfl rfl (hv.imm rfl))
    | (simp only [RW.go_bind, RW.go_up, B3, RW.go_pure, Option.bind_eq_some_iff, Option.map_eq_some_iff] at h
       obtain ⟨_, ⟨_, h2, rfl⟩, h⟩ := h
       have hi := B4 h2
       simp only [Option.some.injEq, Prod.mk.injEq] at h
       obtain ⟨rfl, rfl⟩ := h
       exact same rfl hi (hv.imm hi))
    | simp at h
theorem a7g (hOA : ∀ b, O0 b → A b) {κ : FK} (hκ : F κ = none) (R : Rel Γ w0 A O0 ν0 N F D st ν tm w) {v a : AV} {st' : St} {x : Value} (h : (Y0 v).go C st = some (a, st')) (hv : RS st ν w D v x) :
  ∃ F' D', (∀ b, D b → D' b) ∧ Rel Γ w0 A O0 ν0 N F' D' st' ν tm w ∧ Ext st ν w st' ν w ∧ (∀ κ', κ' ≠ κ → F' κ' = F κ') ∧ L3 F' D' w κ a x ∧
   (∀ f, F' κ = some f → D8 f.es = true ∧ C8 f.es = hasList a) := by
 unfold Y0 at h
 split at h
 ·simp only [RW.go_bind, RW.go_pure, Option.bind_eq_some_iff] at h
  obtain ⟨⟨es', st1⟩, h2, h3⟩ := h
  cases h3
  obtain ⟨D', hD, R', E, hr⟩ := N4 hOA hκ R h2 hv
  exact ⟨F, D', hD, R', E, fun _ _ => rfl, .inr ⟨rfl, hr⟩, fun f hf => by rw [hκ] at hf; cases hf⟩
 ·simp only [RW.go_pure, Option.some.injEq, Prod.mk.injEq] at h
  obtain ⟨rfl, rfl⟩ := h
  obtain ⟨a, rfl⟩ := hv.nil_inv
  exact ⟨F, D, fun _ h => h, R, Ext.refl _ _ _, fun _ _ => rfl, .inr ⟨rfl, .list [] a 0 0 0 0 (fun _ _ => undef) (Nat.le_refl _) (fun h => (h rfl).elim) (fun _ h => by simp at h) (fun i j l h => by simp [leafAt] at h) (fun i j l h => by simp [leafAt] at h)⟩, fun f hf => by rw [hκ] at hf; cases hf⟩
 ·exact X6 hOA hκ R h hv
theorem b3l (hOA : ∀ b, O0 b → A b) {bz : Bool} {κ : FK} (hκ : F κ = none) (R : Rel Γ w0 A O0 ν0 N F D st ν tm w) {v a : AV} {st' : St} {x : Value} (h : (retLf bz v).go C st = some (a, st')) (hv : RS st ν w D v x) :
  ∃ F' D', (∀ b, D b → D' b) ∧ Rel Γ w0 A O0 ν0 N F' D' st' ν tm w ∧ Ext st ν w st' ν w ∧ (∀ κ', κ' ≠ κ → F' κ' = F κ') ∧ L3 F' D' w κ a x ∧
   (∀ f, F' κ = some f → D8 f.es = true ∧ C8 f.es = hasList a) := by
 unfold retLf at h
 split at h
 ·exact a7g hOA hκ R h hv
 ·exact X6 hOA hκ R h hv
theorem a6j (hOA : ∀ b, O0 b → A b) {bz : Bool} {k : Nat} : ∀ (fs us : List AV) (cs : List Value) (n : Nat) (F : Fl) (D : Nat → Prop) (st st' : St), (∀ j, n < j → F (5, k, j) = none) → Rel Γ w0 A O0 ν0 N F D st ν tm w →
  (retLeaves bz fs).go C st = some (us, st') → RL st ν w D fs cs →
  ∃ F' D', (∀ b, D b → D' b) ∧ Rel Γ w0 A O0 ν0 N F' D' st' ν tm w ∧ Ext st ν w st' ν w ∧ (∀ κ', (∀ j, n < j → κ' ≠ (5, k, j)) → F' κ' = F κ') ∧ us.length = fs.length ∧
   (∀ (j : Nat) (l : AV), us[j]? = some l → ∃ x : Value, cs[j]? = some x ∧ L3 F' D' w (5, k, n + j + 1) l x) ∧
   (∀ j f, n < j → F' (5, k, j) = some f → D8 f.es = true ∧ (C8 us = false → C8 f.es = false)) := by
 intro fs
 induction fs with
 | nil =>
  intro us cs n F D st st' hF R h hr
  simp only [retLeaves, RW.go_pure, Option.some.injEq, Prod.mk.injEq] at h
  obtain ⟨rfl, rfl⟩ := h
  exact ⟨F, D, fun _ h => h, R, Ext.refl _ _ _, fun _ _ => rfl, rfl, fun j l hl => (by simp at hl), fun j f hj hf => by rw [hF j hj] at hf; cases hf⟩
 | cons v fs ih =>
  intro us cs n F D st st' hF R h hr
  simp only [retLeaves, RW.go_bind, RW.go_pure, Option.bind_eq_some_iff] at h
  obtain ⟨⟨u, st1⟩, h1, ⟨us', st2⟩, h2, h3⟩ := h
  cases h3
  cases cs with
  | nil => have := hr.1; simp at this
  | cons c cs =>
   obtain ⟨c', hc', hrc⟩ := hr.2 0 v rfl
   cases hc'
   obtain ⟨F1, D1, hD1, R1, E1, hF1, hl1, hf1⟩ := b3l hOA (hF (n + 1) (Nat.lt_succ_self _)) R h1 hrc
   have hr1 : RL st1 ν w D1 fs cs := by
    have := hr.drop 1
    simp only [List.drop_succ_cons, List.drop_zero] at this
    exact ⟨this.1, fun i l hl => by obtain ⟨v, a, b⟩ := this.2 i l hl; exact ⟨v, a, b.same E1 hD1⟩⟩
   obtain ⟨F2, D2, hD2, R2, E2, hF2, hlen, hl2, hf2⟩ := ih us' cs (n + 1) F1 D1 st1 st2 (fun j hj => by
    rw [hF1 _ (by intro e; injection e with _ e; injection e with _ e; omega)]; exact hF j (by omega)) R1 h2 hr1
   have hk : F2 (5, k, n + 1) = F1 (5, k, n + 1) := hF2 _ fun j hj e => by injection e with _ e; injection e with _ e; omega
   refine ⟨F2, D2, fun b hb => hD2 b (hD1 b hb), R2, E1.trans E2, fun κ' hκ => ?_, by simp [hlen], fun j l hl => ?_, fun j f hj hf => ?_⟩
   ·rw [hF2 κ' (fun j hj => hκ j (by omega)), hF1 κ' (hκ _ (Nat.lt_succ_self _))]
   ·cases j with
    | zero =>
     simp only [List.getElem?_cons_zero, Option.some.injEq] at hl
     subst hl
     refine ⟨c, rfl, ?_⟩
     rcases hl1 with ⟨s, es, φ, q1, q2, q3⟩ | ⟨q1, q2⟩
     ·exact .inl ⟨s, es, φ, q1, hk.trans q2, q3⟩
     ·exact .inr ⟨q1, q2.wider hD2⟩
    | succ j =>
     simp only [List.getElem?_cons_succ] at hl ⊢
     obtain ⟨x, q1, q2⟩ := hl2 j l hl
     exact ⟨x, q1, by rw [show n + (j + 1) + 1 = n + 1 + j + 1 from by omega]; exact q2⟩
   ·by_cases e : j = n + 1
    ·subst e
     rw [hk] at hf
     obtain ⟨q1, q2⟩ := hf1 f hf
     refine ⟨q1, fun h => ?_⟩
     simp only [C8, Bool.or_eq_false_iff] at h
     rw [q2]; exact h.1
    ·obtain ⟨q1, q2⟩ := hf2 j f (by omega) hf
     refine ⟨q1, fun h => ?_⟩
     simp only [C8, Bool.or_eq_false_iff] at h
     exact q2 h.2
theorem a7i (hOA : ∀ b, O0 b → A b) {bz : Bool} {k : Nat} (hF : ∀ j, F (5, k, j) = none) (R : Rel Γ w0 A O0 ν0 N F D st ν tm w) {v a : AV} {st' : St} {x : Value} (h : (ret1 bz v).go C st = some (a, st')) (hv : RS st ν w D v x) :
  ∃ F' D', (∀ b, D b → D' b) ∧ Rel Γ w0 A O0 ν0 N F' D' st' ν tm w ∧ Ext st ν w st' ν w ∧ (∀ κ', (∀ j, κ' ≠ (5, k, j)) → F' κ' = F κ') ∧ S2 F' D' w k a x ∧
   (∀ j f, F' (5, k, j) = some f → D8 f.es = true ∧ (hasList a = false → C8 f.es = false)) := by
 unfold ret1 at h
 split at h
 ·rename_i fs
  obtain ⟨cs, rfl, hr⟩ := hv.agg_list
  simp only [RW.go_bind, RW.go_pure, Option.bind_eq_some_iff] at h
  obtain ⟨⟨us, st1⟩, h1, h2⟩ := h
  cases h2
  obtain ⟨F', D', hD, R', E, hF', hlen, hl, hf⟩ := a6j hOA (k := k) fs us cs.toList 0 F D st st1 (fun j _ => hF j) R h1 hr
  have hsz := hr.1
  refine ⟨F', D', hD, R', E, fun κ' hκ => hF' κ' fun j _ => hκ j, .inl ⟨us, cs, rfl, rfl, by rw [hlen]; simpa using hsz, fun j l hjl => ?_⟩, fun j f hjf => ?_⟩
  ·obtain ⟨x, q1, q2⟩ := hl j l hjl
   have q1 : cs[j]? = some x := by simpa using q1
   rw [Array.getD_eq_getD_getElem?, q1]
   rw [Nat.zero_add] at q2
   exact q2
  ·cases j with
   | zero =>
    rw [hF' _ (fun j hj e => by injection e with _ e; injection e with _ e; omega), hF] at hjf
    cases hjf
   | succ j =>
    obtain ⟨q1, q2⟩ := hf (j + 1) f (Nat.succ_pos _) hjf
    exact ⟨q1, fun h => q2 (by simpa [hasList] using h)⟩
 ·rename_i id g i j
  simp only [RW.go_bind, RW.go_up, RW.go_wr, RW.go_pure, B3, Option.bind_eq_some_iff, Option.map_eq_some_iff] at h
  obtain ⟨_, ⟨⟨m, s, es⟩, h1, rfl⟩, _, ⟨_, h2, rfl⟩, _, h3, h4⟩ := h
  rw [E3] at h1
  obtain ⟨rfl, hi, rfl⟩ := B4 h2
  cases h3
  cases h4
  obtain ⟨_, _, _, hp⟩ := hv.ptr_inv
  obtain ⟨b, o, hbo, rfl⟩ := hp _ _ _ h1
  have ho := I5 h1
  have R' := R.detachBox ho (hF 0)
  have E : Ext st ν w (st.upd (.h id) (.dead g)) ν w := R.extUpd (by rw [ho]; exact Nat.le_refl _) (by intro _ _ _ _ e; cases e) (fun _ _ => rfl) (fun _ _ => rfl)
  have hle : es.length ≤ 1 := by
   have ht := (R.objs _ _ _ _ _ ho).top
   rw [hbo] at ht
   obtain ⟨c, ety, k1, k2, k3, k5, k4⟩ := ht
   exact k5 (.inl rfl)
  refine ⟨_, D, fun _ h => h, R', E, fun κ' h => Fl.set_ne _ _ (h 0), .inr (.inl ⟨es, j, ν id, b, o, rfl, Fl.set_eq _ _ _, hi, hle, hbo, by simp⟩), fun j' f hf => ?_⟩
  by_cases e : j' = 0
  ·subst e
   rw [Fl.set_eq] at hf
   cases hf
   refine ⟨?_, fun h => by simpa [hasList] using h⟩
   have := T2 hi
   unfold D8
   rw [List.all_eq_true]
   intro e he
   have hie : I1 e = true := List.all_eq_true.1 hi e he
   cases e <;> simp_all [I1, K1]
  ·rw [Fl.set_ne _ _ (by intro e'; injection e' with _ e'; injection e' with _ e'; exact e e'), hF] at hf
   cases hf
 ·obtain ⟨F', D', hD, R', E, hF', hl, hf⟩ := X6 hOA (hF 0) R h hv
  refine ⟨F', D', hD, R', E, fun κ' hκ => hF' κ' (hκ 0), .inr (.inr hl), fun j f hjf => ?_⟩
  by_cases e : j = 0
  ·subst e
   obtain ⟨q1, q2⟩ := hf f hjf
   exact ⟨q1, fun h => by rw [q2]; exact h⟩
  ·rw [hF' _ (by intro e'; injection e' with _ e'; injection e' with _ e'; exact e e'), hF] at hjf
   cases hjf
end
section
variable {P : Program} {C : Caller} {Γ : Env} {w0 : World} {A O0 : Nat → Prop} {ν0 : Nu} {N : Nat} {F : Fl} {D : Nat → Prop} {st : St} {ν : Nu} {tm : Array Value} {w : World}
def resSem (tmps : Array Value) : ResultVar → Sem Value
 | .tmp t => pure (tmps.getD t undef)
 | .cell a t => do loadVar t (← asAddr (tmps.getD a undef))
theorem b6n (fn : Func) (tmps : Array Value) : results fn tmps = (do
  let vs ← fn.results.toList.mapM (resSem tmps)
  pure (if h : vs.toArray.size = 1 then vs.toArray[0] else .tuple vs.toArray)) := by
 have : fn.results.mapM (resSem tmps) = Functor.map List.toArray (fn.results.toList.mapM (resSem tmps)) := by
  rw [Array.mapM_eq_mapM_toList]
 have h2 : results fn tmps = (do
   let vs ← fn.results.mapM (resSem tmps)
   pure (if h : vs.size = 1 then vs[0] else .tuple vs)) := by
  unfold results
  congr 1
 rw [h2, this]
 simp only [map_eq_pure_bind, bind_assoc, pure_bind]
theorem b1l (hOA : ∀ b, O0 b → A b) {k : Nat} (hF : ∀ j, F (5, k, j) = none) (R : Rel Γ w0 A O0 ν0 N F D st ν tm w) {r : ResultVar} {a : AV} {st' : St} {bz : Bool} (h : (retVar P bz r).go C st = some (a, st')) :
  ∃ x F' D', (resSem tm r).run P w = .ok x w ∧ (∀ b, D b → D' b) ∧ Rel Γ w0 A O0 ν0 N F' D' st' ν tm w ∧ (∀ κ', (∀ j, κ' ≠ (5, k, j)) → F' κ' = F κ') ∧ S2 F' D' w k a x ∧
   (∀ j f, F' (5, k, j) = some f → D8 f.es = true ∧ (hasList a = false → C8 f.es = false)) := by
 have slot : ∀ t, RS st ν w D (st (.t t)) (tm.getD t Go.undef) := by
  intro t
  rcases Nat.lt_or_ge t N with h | h
  ·exact R.slots t h
  ·rw [R.high t h]; exact .undef _
 cases r with
 | tmp t =>
  simp only [retVar, RW.go_bind, RW.go_up, N8, Option.map_some, Option.bind_some] at h
  obtain ⟨F', D', hD, R', E, hF', h1, h2⟩ := a7i hOA hF R h (slot t)
  exact ⟨_, F', D', rfl, hD, R', hF', h1, h2⟩
 | cell c T =>
  simp only [retVar, RW.go_bind, RW.go_up, N8, Option.map_some, Option.bind_some] at h
  split at h
  ·rename_i id g q i j hp
   simp only [RW.go_bind, RW.go_up, Option.bind_eq_some_iff, Option.map_eq_some_iff] at h
   obtain ⟨_, ⟨v, h1, rfl⟩, h⟩ := h
   have hs := slot c
   rw [hp] at hs
   obtain ⟨x, k1, k2⟩ := a7f (P := P) R h1 hs
   obtain ⟨F', D', hD, R', E, hF', h3, h4⟩ := a7i hOA hF R h k2
   refine ⟨x, F', D', ?_, hD, R', hF', h3, h4⟩
   obtain ⟨⟨b, o, hv⟩, _⟩ := hs.ptr_inv
   rw [hv] at k1
   simp only [Instr.loadAt, Instr.sureAddr, Sem.run_bind, Sem.run_pure, Result.andThen_ok] at k1
   simp only [resSem, hv, asAddr, Sem.run_bind, Sem.run_pure, Result.andThen_ok, k1]
  ·simp at h
theorem b2g (hOA : ∀ b, O0 b → A b) {bz : Bool} : ∀ (rs : List ResultVar) (us : List AV) (k : Nat) (F : Fl) (D : Nat → Prop) (st st' : St), (∀ i j, k ≤ i → F (5, i, j) = none) → Rel Γ w0 A O0 ν0 N F D st ν tm w →
  (retAll P bz rs).go C st = some (us, st') →
  ∃ xs F' D', (rs.mapM (resSem tm)).run P w = .ok xs w ∧ xs.length = us.length ∧ us.length = rs.length ∧ (∀ b, D b → D' b) ∧ Rel Γ w0 A O0 ν0 N F' D' st' ν tm w ∧ (∀ κ', (∀ i j, k ≤ i → κ' ≠ (5, i, j)) → F' κ' = F κ') ∧
   (∀ (j : Nat) (a : AV), us[j]? = some a → ∃ x : Value, xs[j]? = some x ∧ S2 F' D' w (k + j) a x) ∧
   (∀ i j f, k ≤ i → F' (5, i, j) = some f → D8 f.es = true ∧ (C8 us = false → C8 f.es = false)) := by
 intro rs
 induction rs with
 | nil =>
  intro us k F D st st' hF R h
  simp only [retAll, RW.go_pure, Option.some.injEq, Prod.mk.injEq] at h
  obtain ⟨rfl, rfl⟩ := h
  exact ⟨[], F, D, rfl, rfl, rfl, fun _ h => h, R, fun _ _ => rfl, fun j a ha => (by simp at ha), fun i j f hi hf => by rw [hF i j hi] at hf; cases hf⟩
 | cons r rs ih =>
  intro us k F D st st' hF R h
  simp only [retAll, RW.go_bind, RW.go_pure, Option.bind_eq_some_iff] at h
  obtain ⟨⟨u, st1⟩, h1, ⟨us', st2⟩, h2, h3⟩ := h
  cases h3
  obtain ⟨x, F1, D1, hx, hD1, R1, hF1, ho1, hf1⟩ := b1l hOA (k := k) (fun j => hF k j (Nat.le_refl _)) R h1
  obtain ⟨xs, F2, D2, hxs, hl1, hl2, hD2, R2, hF2, ho2, hf2⟩ := ih us' (k + 1) F1 D1 st1 st2 (fun i j hi => by
   rw [hF1 _ (fun j' e => by injection e with _ e; injection e with e _; omega)]; exact hF i j (by omega)) R1 h2
  have hk : ∀ j, F2 (5, k, j) = F1 (5, k, j) := fun j => hF2 _ fun i' j' hi e => by injection e with _ e; injection e with e _; omega
  refine ⟨x :: xs, F2, D2, ?_, by simp [hl1], by simp [hl2], fun b hb => hD2 b (hD1 b hb), R2, fun κ' hκ => ?_, fun j a ha => ?_, fun i j f hi hf => ?_⟩
  ·simp only [List.mapM_cons, Sem.run_bind, hx, Result.andThen_ok, hxs, Sem.run_pure]
  ·rw [hF2 κ' (fun i j hi => hκ i j (by omega)), hF1 κ' (fun j => hκ k j (Nat.le_refl _))]
  ·cases j with
   | zero =>
    simp only [List.getElem?_cons_zero, Option.some.injEq] at ha
    subst ha
    exact ⟨x, rfl, (ho1.keep hk).conv (.inr hD2)⟩
   | succ j =>
    simp only [List.getElem?_cons_succ] at ha ⊢
    obtain ⟨y, q1, q2⟩ := ho2 j a ha
    exact ⟨y, q1, by rw [show k + (j + 1) = k + 1 + j from by omega]; exact q2⟩
  ·by_cases e : i = k
   ·subst e
    rw [hk] at hf
    obtain ⟨q1, q2⟩ := hf1 j f hf
    refine ⟨q1, fun h => q2 ?_⟩
    simp only [C8, Bool.or_eq_false_iff] at h
    exact h.1
   ·obtain ⟨q1, q2⟩ := hf2 i j f (by omega) hf
    refine ⟨q1, fun h => q2 ?_⟩
    simp only [C8, Bool.or_eq_false_iff] at h
    exact h.2
end
section
variable {P : Program} {C : Caller} {Γ : Env} {w0 : World} {A O0 : Nat → Prop} {ν0 : Nu} {N : Nat} {F : Fl} {D : Nat → Prop} {st : St} {ν : Nu} {tm : Array Value} {w : World}
theorem P2 {keep : List Nat} : ∀ (fs : List AV), (∀ l ∈ fs, refsOk keep l = true) → L9 keep fs = true := by
 intro fs
 induction fs with
 | nil => intro _; rfl
 | cons a r ih =>
  intro h
  simp only [L9, Bool.and_eq_true]
  exact ⟨h a (List.mem_cons_self ..), ih fun l hl => h l (List.mem_cons_of_mem _ hl)⟩
theorem RV.refsOk {keep : List Nat} {a : AV} {v : Value} (h : RV w D a v) : refsOk keep a = true := by
 induction h with
 | agg fs cs hs hl ih =>
  simp only [Mv.refsOk]
  refine P2 fs fun l hl => ?_
  obtain ⟨i, hi⟩ := List.mem_iff_getElem?.1 hl
  exact ih i l hi
 | tup fs cs hs hl ih =>
  simp only [Mv.refsOk]
  refine P2 fs fun l hl => ?_
  obtain ⟨i, hi⟩ := List.mem_iff_getElem?.1 hl
  exact ih i l hi
 | clo f caps vs hs hl ih =>
  simp only [Mv.refsOk]
  refine P2 caps fun l hl => ?_
  obtain ⟨i, hi⟩ := List.mem_iff_getElem?.1 hl
  exact ih i l hi
 | _ => rfl
theorem a4a {keep : List Nat} {l : AV} (h : immLeaf l = true) : refsOk keep l = true := by
 cases l with
 | clo f caps =>
  simp only [refsOk]
  refine P2 caps fun l hl => ?_
  have := List.all_eq_true.1 (show caps.all W3 = true from h) l hl
  cases l <;> simp [W3] at this
  rfl
 | _ => first | rfl | simp [immLeaf] at h
theorem a2e {keep : List Nat} {es : List AV} (h : H9 es = true) : L9 keep es = true := by
 refine P2 es fun e he => ?_
 have := List.all_eq_true.1 h e he
 cases e with
 | agg fs =>
  simp only [refsOk]
  refine P2 fs fun l hl => a4a ?_
  exact List.all_eq_true.1 (by simpa [I1] using this) l hl
 | _ => exact a4a this
theorem c1e {md : Nat → Nat} {as : List AV} {keep : List Nat} (hk : ∀ i, i < as.length → keep.contains i = true) (hlen : as.length ≤ 1000) (ha : ∀ a ∈ as, ArgOk w D a) : KInv keep (initLoc md as) := by
 refine ⟨fun l hl => ?_, fun l => ?_⟩
 ·cases l with
  | t i =>
   have : as[i]? = none := by
    rcases Nat.lt_or_ge i as.length with h | h
    ·have := hk i h
     simp only [keepLoc] at hl
     rw [this] at hl
     cases hl
    ·exact List.getElem?_eq_none h
   simp only [initLoc, this]
  | h i =>
   have : as[i % 100000]? = none := by
    rcases Nat.lt_or_ge (i % 100000) as.length with h | h
    ·have := hk _ h
     simp only [keepLoc] at hl
     rw [this] at hl
     cases hl
    ·exact List.getElem?_eq_none h
   simp only [initLoc]
   split
   ·rename_i hi
    rw [Nat.mod_eq_of_lt hi] at this
    simp only [this]
   ·simp only [this]
 ·cases l with
  | t i =>
   cases hi : as[i]? with
   | none => simp only [initLoc, hi]; rfl
   | some a =>
    have hlt : i < as.length := (List.getElem?_eq_some_iff.1 hi).1
    have hok := ha a (List.mem_of_getElem? hi)
    have hki : keep.contains (i % 100000) = true := by rw [Nat.mod_eq_of_lt (by omega)]; exact hk i hlt
    simp only [initLoc, hi]
    cases a with
    | own s es => simpa [refOkV, refsOk] using hki
    | ownp es a b => simpa [refOkV, refsOk] using hki
    | clo f caps =>
     simp only [refOkV, refsOk]
     refine P2 _ fun l hl => ?_
     obtain ⟨k, hkk⟩ := List.mem_iff_getElem?.1 hl
     rw [a0c] at hkk
     cases hc : caps[k]? with
     | none => simp [hc] at hkk
     | some c =>
      simp only [hc, Option.map_some, Option.some.injEq] at hkk
      subst hkk
      rcases hok c (List.mem_of_getElem? hc) with ⟨es, x, y, rfl, _⟩ | ⟨v, hv⟩
      ·simp only [refsOk, fid]
       rw [show (100000 * (0 + k + 1) + i) % 100000 = i from by omega]
       exact hk i hlt
      ·have := hv.refsOk (keep := keep)
       cases c <;> first | exact this | cases hv
    | _ => first
     | rfl
     | (obtain ⟨v, hv⟩ := hok; exact hv.refsOk)
     | (obtain ⟨v, hv⟩ := hok; cases hv)
  | h i =>
   cases ho : initLoc md as (.h i) with
   | obj g m s es =>
    simp only [initLoc] at ho
    simp only [refOkV]
    split at ho
    ·split at ho
     ·rename_i hi
      cases ho
      have hok : D8 es = true := ha _ (List.mem_of_getElem? hi)
      by_cases hmd : md i = 2 <;> simp [hmd, hok]
     ·rename_i hi
      cases ho
      have hok : H9 es = true := ha _ (List.mem_of_getElem? hi)
      simp only [Nat.reduceEqDiff, or_true, if_true]
      exact a2e hok
     ·cases ho
    ·split at ho
     ·rename_i hi
      split at ho
      ·split at ho
       ·rename_i hc
        cases ho
        have hok := ha _ (List.mem_of_getElem? hi)
        rcases hok _ (List.mem_of_getElem? hc) with ⟨es', x, y, he, hi'⟩ | ⟨v, hv⟩
        ·cases he
         simp only [Nat.reduceEqDiff, or_true, if_true]
         exact a2e hi'
        ·cases hv
       ·cases ho
      ·cases ho
     ·cases ho
   | _ =>
    simp only [initLoc] at ho
    split at ho
    ·split at ho
     ·cases ho
     ·cases ho
     ·first | (cases ho; rfl) | cases ho
    ·split at ho
     ·split at ho
      ·split at ho
       ·cases ho
       ·first | (cases ho; rfl) | cases ho
      ·first | (cases ho; rfl) | cases ho
     ·first | (cases ho; rfl) | cases ho
theorem Rel.slotsUp (R : Rel Γ w0 A O0 ν0 N F D st ν tm w) {N' : Nat} (hN : N ≤ N') : Rel Γ w0 A O0 ν0 N' F D st ν (tm ++ Array.replicate (N' - tm.size) Go.undef) w := by
 have hsz := R.size
 refine ⟨by simp; omega, fun i hi => ?_, fun i hi => R.high i (by omega), R.objs, R.frozen, R.flos, R.inj, R.dT, R.dA, R.dlt, R.tO, R.le, R.os, R.tape, R.output, R.dr, R.fr, R.cs, R.io, R.gO, R.gi⟩
 rcases Nat.lt_or_ge i N with h | h
 ·have : (tm ++ Array.replicate (N' - tm.size) Go.undef).getD i Go.undef = tm.getD i Go.undef := by
   rw [Array.getD_eq_getD_getElem?, Array.getD_eq_getD_getElem?, Array.getElem?_append_left (by omega)]
  rw [this]
  exact R.slots i h
 ·rw [R.high i h]
  exact .undef _
def noSlots (st : St) : St := fun l => match l with
 | .t _ => .undef
 | .h i => st (.h i)
theorem Rel.noSlots (R : Rel Γ w0 A O0 ν0 N F D st ν tm w) : Rel Γ w0 A O0 ν0 0 F D (noSlots st) ν #[] w := by
 have E : Ext st ν w (Mv.noSlots st) ν w := Ext.of_same (fun _ => rfl) fun _ => rfl
 have hL : ∀ a v, RS st ν w D a v → RS (Mv.noSlots st) ν w D a v := fun a v h => h.mono E (fun b hb _ => ⟨rfl, hb⟩) (Nat.le_refl _)
 have hlv := a0k (st := st) (st' := Mv.noSlots st) (F := F) (fun _ => rfl)
 refine ⟨rfl, fun i hi => by omega, fun i hi => rfl, ?_, fun id g s es h => R.frozen id g s es h, ?_, ?_, ?_, R.dA, R.dlt, ?_, R.le, R.os, R.tape, R.output, R.dr, R.fr, R.cs, fun id g m s es h => R.io id g m s es h, R.gO, R.gi⟩
 ·intro id g m s es h
  exact (R.objs id g m s es h).mono rfl (fun _ _ _ _ _ => rfl) (fun _ _ _ => rfl) (fun _ _ _ _ _ _ _ _ => rfl) hL
 ·intro k f h
  exact (R.flos k f h).mono rfl (fun _ _ _ _ _ => rfl) (fun _ _ _ => rfl) (fun _ _ _ _ _ _ _ _ => rfl) hL
 ·intro k1 k2 b o1 o2 l1 l2
  exact R.inj k1 k2 b o1 o2 ((hlv _).1 l1) ((hlv _).1 l2)
 ·rintro b hb ⟨k, o, hl, hbo⟩
  exact R.dT b hb ⟨k, o, (hlv _).1 hl, hbo⟩
 ·rintro b ⟨k, o, hl, hbo⟩
  exact R.tO b ⟨k, o, (hlv _).1 hl, hbo⟩
theorem b1z {st st' : St} (h : ∀ i, st' (.h i) = st (.h i)) : ∀ (l : List Cid), outsOf st' l = outsOf st l := by
 intro l
 induction l with
 | nil => rfl
 | cons c l ih =>
  obtain ⟨cid, m, s⟩ := c
  simp only [outsOf, h, ih]
theorem b5s {fn : Func} {c : Code} (hb : fn.body = some c) {i : Nat} (hi : i < fn.params.size + fn.nfree) : (E5 fn).contains i = true := by
 simp only [E5, hb]
 rw [List.contains_iff_mem, List.mem_eraseDups]
 exact List.mem_append_left _ (List.mem_append_left _ (List.mem_append_left _ (List.mem_range.2 hi)))
def b8k (Γ : Env) (cx : Cx) : Prop := ∀ f F as res outs, cx.ext f = some F → F as = some (res, outs) → T3 Γ cx.P (cx.md f) f as res outs ∧ Enters cx.P f
theorem b3h (cx : Cx) (hgl : GlOk Γ cx) (hX : b8k Γ cx) (hI : a1m Γ cx) (hm : cx.P.follows .mixedOrders = true) : ∀ n, SoundC Γ cx (acall cx n) := by
 intro n
 induction n with
 | zero => exact ⟨hgl, fun f as res outs h => by simp [acall] at h⟩
 | succ n ih =>
  refine ⟨hgl, ?_⟩
  intro f as res outs h
  simp only [acall] at h
  split at h
  ·rename_i F hF
   exact hX f F as res outs hF h
  ·split at h
   ·cases h
   ·rename_i fn hf
    split at h
    ·cases h
    ·rename_i c hb
     split at h
     ·rename_i hc
      obtain ⟨hd, hlen, hle, hle2, hnm⟩ := hc
      refine ⟨?_, fn, hf, hnm, by rw [hb]; rfl⟩
      intro w A O0 ν0 D vals hOA R hargs
      refine (callsIn_wide (n := 2)).1 (callsIn_of_wp_marks hf hb trivial ?_)
      have hsz := R.size
      have R0 := R.slotsUp (N' := fn.ntmps) hle
      have hK : KInv (E5 fn) (initLoc (cx.md f) as) := c1e (fun i hi => b5s hb (by omega)) hle2 hargs
      cases hx : aexec (acall cx n) cx (E5 fn) n c (initLoc (cx.md f) as) with
      | none => simp [hx] at h
      | some r =>
       obtain ⟨r, st⟩ := r
       have hfin : ∀ st, (match Rd.run (α := List AV × Ws) (acall cx n) st (retAll cx.P (cx.fz f) fn.results.toList) with
         | some ((vs, ws), _) => match outsOf (st.upds ws) (cidAll (cx.md f) 0 as) with
          | some outs => some (L8 vs, outs)
          | none => none
         | none => none) = some (res, outs) → ∀ D1 ν1 tm w', Rel Γ w A O0 ν0 fn.ntmps Fl.emp D1 st ν1 tm w' → ∃ v, (results fn tm).run cx.P w' = .ok v w' ∧
          ∃ v', Ending.returned v = .returned v' ∧ ∃ F' D' st' ν', Rel Γ w A O0 ν0 0 F' D' st' ν' #[] w' ∧ outsOf st' (cidAll (cx.md f) 0 as) = some outs ∧ a1v F' D' w' res v' ∧ b9z F' res := by
        intro st h D1 ν1 tm w' R1
        cases hr : Rd.run (α := List AV × Ws) (acall cx n) st (retAll cx.P (cx.fz f) fn.results.toList) with
        | none => simp [hr] at h
        | some z =>
         obtain ⟨⟨us, ws⟩, ls⟩ := z
         simp only [hr] at h
         cases ho : outsOf (st.upds ws) (cidAll (cx.md f) 0 as) with
         | none => simp [ho] at h
         | some os =>
          simp only [ho, Option.some.injEq, Prod.mk.injEq] at h
          obtain ⟨rfl, rfl⟩ := h
          have hgo : (retAll cx.P (cx.fz f) fn.results.toList).go (acall cx n) st = some (us, st.upds ws) := RW.go_of_ev (Rd.ev_of_run hr)
          obtain ⟨xs, F', D', k1, k2, k3, k4, k5, k6, k7, k8⟩ := b2g (P := cx.P) hOA fn.results.toList us 0 Fl.emp D1 st _ (fun _ _ _ => rfl) R1 hgo
          have hflo : b9z F' (L8 us) := by
           intro κ f hf
           by_cases hex : ∃ i j, κ = (5, i, j)
           ·obtain ⟨i, j, rfl⟩ := hex
            obtain ⟨q1, q2⟩ := k8 i j f (Nat.zero_le _) hf
            refine ⟨q1, fun h => q2 ?_⟩
            match us, h with
            | [v], h => simpa [L8, C8] using h
            | [], _ => rfl
            | v :: v2 :: r, h => simpa [L8, hasList] using h
           ·rw [k6 κ fun i j _ e => hex ⟨i, j, e⟩] at hf
            cases hf
          refine ⟨if h : xs.toArray.size = 1 then xs.toArray[0] else .tuple xs.toArray, ?_, _, rfl, F', D', noSlots (st.upds ws), ν1, k5.noSlots, (b1z (st := st.upds ws) (st' := Mv.noSlots (st.upds ws)) (fun _ => rfl) _).trans ho, ?_, hflo⟩
          ·rw [b6n]
           simp only [Sem.run_bind, k1, Result.andThen_ok, Sem.run_pure]
          ·by_cases h1 : xs.length = 1
           ·match xs, us, k2, h1, k7 with
            | [x], [u], _, _, k7 =>
             obtain ⟨y, q1, q2⟩ := k7 0 u rfl
             simp only [List.getElem?_cons_zero, Option.some.injEq] at q1
             subst q1
             exact .inr q2
           ·have hw : L8 us = .tup us := by
             match us, k2 with
             | [], _ => rfl
             | [u], k2 => exact (h1 (by simpa using k2)).elim
             | _ :: _ :: _, _ => rfl
            rw [hw]
            simp only [List.size_toArray, h1, dif_neg, not_false_eq_true]
            refine .inl ⟨us, xs.toArray, rfl, rfl, by simpa using k2, fun j a ha => ?_⟩
            obtain ⟨y, q1, q2⟩ := k7 j a ha
            rw [Array.getD_eq_getD_getElem?]
            simp only [List.getElem?_toArray, q1, Option.getD_some]
            rw [Nat.zero_add] at q2
            exact q2
       have hR0 : Rg Γ (fun _ => True, #[]) w A O0 ν0 fn.ntmps (initLoc (cx.md f) as) { tmps := vals ++ Array.replicate (fn.ntmps - vals.size) undef, defers := [] } w := ⟨X0.nil _ _, fun i hi => (hi trivial).elim, D, ν0, R0⟩
       refine (b5c cx ih hI hm n none 2 (fun _ => True, #[]) w A O0 ν0 (fun _ => Nat.le_refl 2) hOA).1 c _ st r _ w _ hx hd (M4 c) (.inl rfl) hK hR0 fun a1 w1 hK1 hR1 => ?_
       obtain ⟨tm1, ds1⟩ := a1
       obtain ⟨⟨ks, hks1, hks2, hks3⟩, _, D1, ν1, R1⟩ := hR1
       simp only at hks1 R1
       subst hks1
       cases r with
       | normal => simp only [hx] at h; exact a0h (fun D ν w R => hfin st h D ν tm1 w R) ks D1 ν1 w1 hks2 hks3 R1
       | ret => simp only [hx] at h; exact a0h (fun D ν w R => hfin st h D ν tm1 w R) ks D1 ν1 w1 hks2 hks3 R1
       | exit i => simp [hx] at h
     ·cases h
end
def CLe (C C' : Caller) : Prop := ∀ f as r, C f as = some r → C' f as = some r
theorem a1o {C C' : Caller} (h : CLe C C') {α : Type} {st : St} : ∀ (x : Rd α) {r : α × List Mv.Loc}, x.run C st = some r → x.run C' st = some r := by
 intro x
 induction x with
 | ret a => exact fun h => h
 | fail => exact fun h => h
 | read l k ih =>
  intro r hr
  simp only [Rd.run] at hr ⊢
  cases hk : (k (st l)).run C st with
  | none => simp [hk] at hr
  | some z => rw [ih _ hk]; simpa [hk] using hr
 | need p d k ih =>
  intro r hr
  cases d with
  | isTrue _ => exact ih hr
  | isFalse _ => exact hr
 | call f as k ih =>
  intro r hr
  simp only [Rd.run] at hr ⊢
  cases hc : C f as with
  | none => simp [hc] at hr
  | some z =>
   rw [h f as z hc]
   simp only [hc] at hr
   exact ih _ _ hr
theorem a5r {C C' : Caller} (h : CLe C C') {cx : Cx} {ops : Array Oper} : ∀ (l : List Oper) (st : St) {r : Ws × List Log}, J7 C cx ops l st = some r → J7 C' cx ops l st = some r := by
 intro l
 induction l with
 | nil => exact fun st r h => h
 | cons o l ih =>
  intro st r hr
  simp only [J7] at hr ⊢
  cases ho : Rd.run (α := Unit × Ws) C st (M2 cx ops o) with
  | none => simp [ho] at hr
  | some z =>
   obtain ⟨⟨u, ws⟩, rs⟩ := z
   rw [a1o h _ ho]
   simp only [ho] at hr ⊢
   cases h2 : J7 C cx ops l (st.upds ws) with
   | none => simp [h2] at hr
   | some z2 => rw [ih _ h2]; simpa [h2] using hr
theorem b1m {C C' : Caller} (h : CLe C C') {cx : Cx} {keep : List Nat} {ops : Array Oper} {draw : Bool} {st st' : St} (hr : N6 C cx keep ops draw st = some st') : N6 C' cx keep ops draw st = some st' := by
 unfold N6 at hr ⊢
 cases ho : J7 C cx ops ops.toList st with
 | none => simp [ho] at hr
 | some z => rw [a5r h _ _ ho]; simpa [ho] using hr
theorem J3 {run run' : St → Option (AExit × St)} (h : ∀ s r, run s = some r → run' s = some r) {start : List Value → St → St} {msk : St → St} : ∀ (xs : List (List Value)) (st : St) {s : St}, arounds run start msk xs st = some s → arounds run' start msk xs st = some s
 | [], st, s, hs => hs
 | v :: xs, st, s, hs => by
  simp only [arounds] at hs ⊢
  cases hr : run (start v st) with
  | none => simp [hr] at hs
  | some z =>
   obtain ⟨e, s1⟩ := z
   rw [h _ _ hr]
   cases e with
   | normal => simp only [hr] at hs ⊢; exact J3 h xs s1 hs
   | exit i => simp [hr] at hs
   | ret => simp [hr] at hs
theorem b4b {run run' : St → Option (AExit × St)} (h : ∀ s r, run s = some r → run' s = some r) {start : List Value → St → St} {msk : St → St} {xs : List (List Value)} {st : St} {r : AExit × St} (hr : a0n run start msk xs st = some r) : a0n run' start msk xs st = some r := by
 unfold a0n at hr ⊢
 split at hr
 ·rename_i hc
  rw [if_pos fun ys h1 h2 => by
   obtain ⟨s, hs⟩ := Option.isSome_iff_exists.1 (hc ys h1 h2)
   rw [J3 h ys st hs]; rfl]
  simp only [Option.map_eq_some_iff] at hr ⊢
  obtain ⟨s, hs, e⟩ := hr
  exact ⟨s, J3 h xs st hs, e⟩
 ·cases hr
theorem U1 {runW : St → Option (AExit × St)} {run : Nat → St → Option (AExit × St)} (hm : ∀ m k, m ≤ k → ∀ s r, run m s = some r → run k s = some r) (hc : ∀ s r, runW s = some r → ∃ m, run m s = some r) {start : List Value → St → St} {msk : St → St} :
  ∀ (xs : List (List Value)) (st : St) {s : St}, arounds runW start msk xs st = some s → ∃ m, arounds (run m) start msk xs st = some s
 | [], st, s, hs => ⟨0, hs⟩
 | v :: xs, st, s, hs => by
  simp only [arounds] at hs
  cases hr : runW (start v st) with
  | none => simp [hr] at hs
  | some z =>
   obtain ⟨e, s1⟩ := z
   obtain ⟨m1, h1⟩ := hc _ _ hr
   cases e with
   | normal =>
    simp only [hr] at hs
    obtain ⟨m2, h2⟩ := U1 hm hc xs s1 hs
    refine ⟨max m1 m2, ?_⟩
    simp only [arounds, hm _ _ (Nat.le_max_left m1 m2) _ _ h1]
    exact J3 (hm _ _ (Nat.le_max_right m1 m2)) xs s1 h2
   | exit i => simp [hr] at hs
   | ret => simp [hr] at hs
def listsTo (xs : List (List Value)) : Nat → List (List (List Value))
 | 0 => [[]]
 | n + 1 => [] :: xs.flatMap fun x => (listsTo xs n).map (x :: ·)
theorem a5x {xs : List (List Value)} : ∀ {n : Nat} {ys : List (List Value)}, (∀ y ∈ ys, y ∈ xs) → ys.length ≤ n → ys ∈ listsTo xs n
 | 0, [], _, _ => by simp [listsTo]
 | 0, _ :: _, _, h => by simp at h
 | n + 1, [], _, _ => by simp [listsTo]
 | n + 1, y :: ys, hy, h => by
  simp only [listsTo, List.mem_cons, List.mem_flatMap, List.mem_map]
  exact .inr ⟨y, hy y (List.mem_cons_self ..), ys, a5x (fun z hz => hy z (List.mem_cons_of_mem _ hz)) (by simpa using h), rfl⟩
theorem a8m {runW : St → Option (AExit × St)} {run : Nat → St → Option (AExit × St)} (hm : ∀ m k, m ≤ k → ∀ s r, run m s = some r → run k s = some r) (hc : ∀ s r, runW s = some r → ∃ m, run m s = some r) {start : List Value → St → St} {msk : St → St}
  {xs : List (List Value)} {st : St} {r : AExit × St} (hr : a0n runW start msk xs st = some r) : ∃ m, a0n (run m) start msk xs st = some r := by
 unfold a0n at hr
 split at hr
 ·rename_i hall
  simp only [Option.map_eq_some_iff] at hr
  obtain ⟨s, hs, e⟩ := hr
  have key : ∀ L : List (List (List Value)), (∀ ys ∈ L, (arounds runW start msk ys st).isSome = true) → ∃ m, ∀ ys ∈ L, (arounds (run m) start msk ys st).isSome = true := by
   intro L
   induction L with
   | nil => exact fun _ => ⟨0, fun _ h => by cases h⟩
   | cons y L ih =>
    intro h
    obtain ⟨m1, h1⟩ := ih fun ys hy => h ys (List.mem_cons_of_mem _ hy)
    obtain ⟨s1, hs1⟩ := Option.isSome_iff_exists.1 (h y (List.mem_cons_self ..))
    obtain ⟨m2, h2⟩ := U1 hm hc y st hs1
    refine ⟨max m1 m2, fun ys hy => ?_⟩
    rcases List.mem_cons.1 hy with rfl | hy
    ·rw [J3 (hm _ _ (Nat.le_max_right m1 m2)) _ st h2]; rfl
    ·obtain ⟨s3, hs3⟩ := Option.isSome_iff_exists.1 (h1 ys hy)
     rw [J3 (hm _ _ (Nat.le_max_left m1 m2)) _ st hs3]; rfl
  obtain ⟨m1, h1⟩ := key ((listsTo xs xs.length).filter fun ys => (arounds runW start msk ys st).isSome) (fun ys hy => (List.mem_filter.1 hy).2)
  obtain ⟨m2, h2⟩ := U1 hm hc xs st hs
  refine ⟨max m1 m2, ?_⟩
  unfold a0n
  rw [if_pos fun ys k1 k2 => by
   obtain ⟨s3, hs3⟩ := Option.isSome_iff_exists.1 (h1 ys (List.mem_filter.2 ⟨a5x k1 k2, hall ys k1 k2⟩))
   rw [J3 (hm _ _ (Nat.le_max_left m1 m2)) ys st hs3]; rfl]
  rw [J3 (hm _ _ (Nat.le_max_right m1 m2)) xs st h2]
  rw [← e]; rfl
 ·cases hr
theorem L0 {C C' : Caller} (h : CLe C C') {cx : Cx} {keep : List Nat} : ∀ (n m : Nat) (c : Code) (st : St) {r : AExit × St}, n ≤ m → aexec C cx keep n c st = some r → aexec C' cx keep m c st = some r := by
 intro n
 induction n with
 | zero => intro m c st r _ hr; simp [aexec] at hr
 | succ n ih =>
  intro m c st r hm hr
  obtain ⟨m, rfl⟩ : ∃ k, m = k + 1 := ⟨m - 1, by omega⟩
  have hm : n ≤ m := by omega
  cases c with
  | region id ops draw =>
   simp only [aexec] at hr ⊢
   cases ho : N6 C cx keep ops draw st with
   | none => simp [ho] at hr
   | some z => rw [b1m h ho]; simpa [ho] using hr
  | seq a b =>
   simp only [aexec] at hr ⊢
   cases ha : aexec C cx keep n a st with
   | none => simp [ha] at hr
   | some z =>
    rw [ih m a st hm ha]
    obtain ⟨e, st1⟩ := z
    cases e with
    | normal => simp only [ha] at hr ⊢; exact ih m b st1 hm hr
    | exit i => simpa [ha] using hr
    | ret => simpa [ha] using hr
  | cond x a b =>
   simp only [aexec] at hr ⊢
   split at hr
   ·exact ih m a st hm hr
   ·exact ih m b st hm hr
   ·cases hr
  | block i b =>
   simp only [aexec] at hr ⊢
   cases ha : aexec C cx keep n b st with
   | none => simp [ha] at hr
   | some z => rw [ih m b st hm ha]; simpa [ha] using hr
  | loop b =>
   simp only [aexec] at hr ⊢
   cases ha : aexec C cx keep n b st with
   | none => simp [ha] at hr
   | some z =>
    rw [ih m b st hm ha]
    obtain ⟨e, st1⟩ := z
    cases e with
    | normal => simp only [ha] at hr ⊢; exact ih m (.loop b) st1 hm hr
    | exit i => simpa [ha] using hr
    | ret => simpa [ha] using hr
  | rangeFunc g ps a b =>
   simp only [aexec] at hr ⊢
   split at hr
   ·split at hr
    ·rename_i xs hxs
     split at hr
     ·rename_i hc
      simp only [hxs, if_pos hc]
      exact b4b (fun s r hs => ih m b s hm hs) hr
     ·cases hr
    ·cases hr
   ·cases hr
  | _ => first | (simp [aexec] at hr; done) | simpa [aexec] using hr
noncomputable def U3 (C : Caller) (cx : Cx) (n : Nat) : Caller := fun f args =>
 match cx.ext f with
  | some F => F args
  | none => match cx.P.funcs[f]? with
   | none => none
   | some fn => match fn.body with
    | none => none
    | some c =>
     if H2 fn.ntmps c = true ∧ args.length = fn.params.size + fn.nfree ∧ args.length ≤ fn.ntmps ∧ args.length ≤ 1000 ∧ (fn.name == "runtime.NumGoroutine") = false then
      match aexec C cx (E5 fn) n c (initLoc (cx.md f) args) with
      | some (.exit _, _) => none
      | some (_, st) => match Rd.run (α := List AV × Ws) C st (retAll cx.P (cx.fz f) fn.results.toList) with
       | some ((vs, ws), _) => match outsOf (st.upds ws) (cidAll (cx.md f) 0 args) with
        | some outs => some (L8 vs, outs)
        | none => none
       | none => none
      | none => none
     else none
theorem a2y (cx : Cx) (n : Nat) : acall cx (n + 1) = U3 (acall cx n) cx n := by
 funext f args
 simp only [acall, U3]
 rfl
theorem a5t {C C' : Caller} (h : CLe C C') {cx : Cx} {n m : Nat} (hm : n ≤ m) : CLe (U3 C cx n) (U3 C' cx m) := by
 intro f as r hr
 unfold U3 at hr ⊢
 split at hr
 ·exact hr
 ·split at hr
  ·exact hr
  ·rename_i fn hf
   split at hr
   ·exact hr
   ·rename_i c hb
    split at hr
    ·rename_i hc
     rw [if_pos hc]
     cases hx : aexec C cx (E5 fn) n c (initLoc (cx.md f) as) with
     | none => simp [hx] at hr
     | some z =>
      rw [L0 h n m _ _ hm hx]
      obtain ⟨e, st⟩ := z
      have key : ∀ st, (match Rd.run (α := List AV × Ws) C st (retAll cx.P (cx.fz f) fn.results.toList) with
       | some ((vs, ws), _) => match outsOf (st.upds ws) (cidAll (cx.md f) 0 as) with
        | some outs => some (L8 vs, outs)
        | none => none
       | none => none) = some r → (match Rd.run (α := List AV × Ws) C' st (retAll cx.P (cx.fz f) fn.results.toList) with
       | some ((vs, ws), _) => match outsOf (st.upds ws) (cidAll (cx.md f) 0 as) with
        | some outs => some (L8 vs, outs)
        | none => none
       | none => none) = some r := by
       intro st h2
       cases hr2 : Rd.run (α := List AV × Ws) C st (retAll cx.P (cx.fz f) fn.results.toList) with
       | none => simp [hr2] at h2
       | some z2 => rw [a1o h _ hr2]; simpa [hr2] using h2
      cases e with
      | exit i => simp [hx] at hr
      | normal => simp only [hx] at hr ⊢; exact key st hr
      | ret => simp only [hx] at hr ⊢; exact key st hr
    ·cases hr
theorem a9q (cx : Cx) : ∀ n, CLe (acall cx n) (acall cx (n + 1)) := by
 intro n
 induction n with
 | zero => intro f as r h; simp [acall] at h
 | succ n ih => rw [a2y cx n, a2y cx (n + 1)]; exact a5t ih (Nat.le_succ n)
theorem G1 (cx : Cx) {n m : Nat} (h : n ≤ m) : CLe (acall cx n) (acall cx m) := by
 induction h with
 | refl => exact fun _ _ _ h => h
 | step _ ih => exact fun f as r hr => a9q cx _ f as r (ih f as r hr)
open Classical in
noncomputable def CW (cx : Cx) : Caller := fun f as => if h : ∃ n r, acall cx n f as = some r then some (Classical.choose (Classical.choose_spec h)) else none
theorem b7k (cx : Cx) (f : Nat) (as : List AV) (r : AV × List (List AV)) : CW cx f as = some r ↔ ∃ n, acall cx n f as = some r := by
 unfold CW
 constructor
 ·intro h
  split at h
  ·rename_i hx
   have := Classical.choose_spec (Classical.choose_spec hx)
   simp only [Option.some.injEq] at h
   rw [h] at this
   exact ⟨_, this⟩
  ·cases h
 ·rintro ⟨n, hn⟩
  have hx : ∃ n r, acall cx n f as = some r := ⟨n, r, hn⟩
  rw [dif_pos hx]
  have := Classical.choose_spec (Classical.choose_spec hx)
  have h1 := G1 cx (Nat.le_max_left n (Classical.choose hx)) f as _ hn
  have h2 := G1 cx (Nat.le_max_right n (Classical.choose hx)) f as _ this
  rw [h1] at h2
  exact h2.symm
theorem a5q {cx : Cx} {α : Type} {st : St} : ∀ (x : Rd α) {r : α × List Mv.Loc}, x.run (CW cx) st = some r → ∃ n, x.run (acall cx n) st = some r := by
 intro x
 induction x with
 | ret a => exact fun h => ⟨0, h⟩
 | fail => intro r h; simp [Rd.run] at h
 | read l k ih =>
  intro r hr
  simp only [Rd.run] at hr ⊢
  cases hk : (k (st l)).run (CW cx) st with
  | none => simp [hk] at hr
  | some z =>
   obtain ⟨n, hn⟩ := ih _ hk
   exact ⟨n, by rw [hn]; simpa [hk] using hr⟩
 | need p d k ih =>
  intro r hr
  cases d with
  | isTrue _ => exact ih hr
  | isFalse _ => simp [Rd.run] at hr
 | call f as k ih =>
  intro r hr
  simp only [Rd.run] at hr ⊢
  cases hc : CW cx f as with
  | none => simp [hc] at hr
  | some z =>
   simp only [hc] at hr
   obtain ⟨n, hn⟩ := ih _ _ hr
   obtain ⟨m, hm⟩ := (b7k cx f as z).1 hc
   refine ⟨max n m, ?_⟩
   rw [G1 cx (Nat.le_max_right n m) f as z hm]
   exact a1o (G1 cx (Nat.le_max_left n m)) _ hn
theorem a8w {cx : Cx} {ops : Array Oper} : ∀ (l : List Oper) (st : St) {r : Ws × List Log}, J7 (CW cx) cx ops l st = some r → ∃ n, J7 (acall cx n) cx ops l st = some r := by
 intro l
 induction l with
 | nil => exact fun st r h => ⟨0, h⟩
 | cons o l ih =>
  intro st r hr
  simp only [J7] at hr ⊢
  cases ho : Rd.run (α := Unit × Ws) (CW cx) st (M2 cx ops o) with
  | none => simp [ho] at hr
  | some z =>
   obtain ⟨⟨u, ws⟩, rs⟩ := z
   simp only [ho] at hr
   obtain ⟨n, hn⟩ := a5q _ ho
   cases h2 : J7 (CW cx) cx ops l (st.upds ws) with
   | none => simp [h2] at hr
   | some z2 =>
    obtain ⟨m, hm⟩ := ih _ h2
    refine ⟨max n m, ?_⟩
    rw [a1o (G1 cx (Nat.le_max_left n m)) _ hn]
    simp only
    rw [a5r (G1 cx (Nat.le_max_right n m)) _ _ hm]
    simpa [h2] using hr
theorem a6n {cx : Cx} {keep : List Nat} {ops : Array Oper} {draw : Bool} {st st' : St} (hr : N6 (CW cx) cx keep ops draw st = some st') : ∃ n, N6 (acall cx n) cx keep ops draw st = some st' := by
 unfold N6 at hr ⊢
 cases ho : J7 (CW cx) cx ops ops.toList st with
 | none => simp [ho] at hr
 | some z =>
  obtain ⟨n, hn⟩ := a8w _ _ ho
  exact ⟨n, by rw [hn]; simpa [ho] using hr⟩
theorem b0h {cx : Cx} {keep : List Nat} : ∀ (n : Nat) (c : Code) (st : St) {r : AExit × St}, aexec (CW cx) cx keep n c st = some r → ∃ m, aexec (acall cx m) cx keep n c st = some r := by
 intro n
 induction n with
 | zero => intro c st r hr; simp [aexec] at hr
 | succ n ih =>
  intro c st r hr
  cases c with
  | region id ops draw =>
   simp only [aexec] at hr ⊢
   cases ho : N6 (CW cx) cx keep ops draw st with
   | none => simp [ho] at hr
   | some z =>
    obtain ⟨m, hm⟩ := a6n ho
    exact ⟨m, by rw [hm]; simpa [ho] using hr⟩
  | seq a b =>
   simp only [aexec] at hr ⊢
   cases ha : aexec (CW cx) cx keep n a st with
   | none => simp [ha] at hr
   | some z =>
    obtain ⟨m, hm⟩ := ih a st ha
    obtain ⟨e, st1⟩ := z
    cases e with
    | normal =>
     simp only [ha] at hr
     obtain ⟨m2, hm2⟩ := ih b st1 hr
     refine ⟨max m m2, ?_⟩
     rw [L0 (G1 cx (Nat.le_max_left m m2)) n n _ _ (Nat.le_refl _) hm]
     exact L0 (G1 cx (Nat.le_max_right m m2)) n n _ _ (Nat.le_refl _) hm2
    | exit i => exact ⟨m, by rw [hm]; simpa [ha] using hr⟩
    | ret => exact ⟨m, by rw [hm]; simpa [ha] using hr⟩
  | cond x a b =>
   simp only [aexec] at hr ⊢
   split at hr
   ·exact ih a st hr
   ·exact ih b st hr
   ·cases hr
  | block i b =>
   simp only [aexec] at hr ⊢
   cases ha : aexec (CW cx) cx keep n b st with
   | none => simp [ha] at hr
   | some z =>
    obtain ⟨m, hm⟩ := ih b st ha
    exact ⟨m, by rw [hm]; simpa [ha] using hr⟩
  | loop b =>
   simp only [aexec] at hr ⊢
   cases ha : aexec (CW cx) cx keep n b st with
   | none => simp [ha] at hr
   | some z =>
    obtain ⟨m, hm⟩ := ih b st ha
    obtain ⟨e, st1⟩ := z
    cases e with
    | normal =>
     simp only [ha] at hr
     obtain ⟨m2, hm2⟩ := ih (.loop b) st1 hr
     refine ⟨max m m2, ?_⟩
     rw [L0 (G1 cx (Nat.le_max_left m m2)) n n _ _ (Nat.le_refl _) hm]
     exact L0 (G1 cx (Nat.le_max_right m m2)) n n _ _ (Nat.le_refl _) hm2
    | exit i => exact ⟨m, by rw [hm]; simpa [ha] using hr⟩
    | ret => exact ⟨m, by rw [hm]; simpa [ha] using hr⟩
  | rangeFunc g ps a b =>
   simp only [aexec] at hr ⊢
   split at hr
   ·split at hr
    ·rename_i xs hxs
     split at hr
     ·rename_i hc
      simp only [hxs, if_pos hc]
      exact a8m (runW := fun s => aexec (CW cx) cx keep n b s) (run := fun m s => aexec (acall cx m) cx keep n b s) (fun m k hmk s r hs => L0 (G1 cx hmk) n n _ _ (Nat.le_refl _) hs) (fun s r hs => ih b s hs) hr
     ·cases hr
    ·cases hr
   ·cases hr
  | _ => exact ⟨0, by first | (simp [aexec] at hr; done) | simpa [aexec] using hr⟩
theorem a3y (cx : Cx) {n f : Nat} {as : List AV} {r : AV × List (List AV)} (h : U3 (CW cx) cx n f as = some r) : CW cx f as = some r := by
 have hm : ∃ m, U3 (acall cx m) cx n f as = some r := by
  unfold U3 at h ⊢
  split at h
  ·exact ⟨0, h⟩
  ·split at h
   ·cases h
   ·rename_i fn hf
    split at h
    ·cases h
    ·rename_i c hb
     split at h
     ·rename_i hc
      simp only [if_pos hc]
      cases hx : aexec (CW cx) cx (E5 fn) n c (initLoc (cx.md f) as) with
      | none => simp [hx] at h
      | some z =>
       obtain ⟨m, hm⟩ := b0h n _ _ hx
       obtain ⟨e, st⟩ := z
       have key : ∀ st, (match Rd.run (α := List AV × Ws) (CW cx) st (retAll cx.P (cx.fz f) fn.results.toList) with
        | some ((vs, ws), _) => match outsOf (st.upds ws) (cidAll (cx.md f) 0 as) with
         | some outs => some (L8 vs, outs)
         | none => none
        | none => none) = some r → ∃ m2, ∀ k, m2 ≤ k → (match Rd.run (α := List AV × Ws) (acall cx k) st (retAll cx.P (cx.fz f) fn.results.toList) with
        | some ((vs, ws), _) => match outsOf (st.upds ws) (cidAll (cx.md f) 0 as) with
         | some outs => some (L8 vs, outs)
         | none => none
        | none => none) = some r := by
        intro st h2
        cases hr2 : Rd.run (α := List AV × Ws) (CW cx) st (retAll cx.P (cx.fz f) fn.results.toList) with
        | none => simp [hr2] at h2
        | some z2 =>
         obtain ⟨m2, hm2⟩ := a5q _ hr2
         refine ⟨m2, fun k hk => ?_⟩
         rw [a1o (G1 cx hk) _ hm2]
         simpa [hr2] using h2
       cases e with
       | exit i => simp [hx] at h
       | normal =>
        simp only [hx] at h
        obtain ⟨m2, hm2⟩ := key st h
        refine ⟨max m m2, ?_⟩
        rw [L0 (G1 cx (Nat.le_max_left m m2)) n n _ _ (Nat.le_refl _) hm]
        exact hm2 _ (Nat.le_max_right m m2)
       | ret =>
        simp only [hx] at h
        obtain ⟨m2, hm2⟩ := key st h
        refine ⟨max m m2, ?_⟩
        rw [L0 (G1 cx (Nat.le_max_left m m2)) n n _ _ (Nat.le_refl _) hm]
        exact hm2 _ (Nat.le_max_right m m2)
     ·cases h
 obtain ⟨m, hm⟩ := hm
 refine (b7k cx f as r).2 ⟨max n m + 1, ?_⟩
 rw [a2y]
 exact a5t (G1 cx (Nat.le_max_right n m)) (Nat.le_max_left n m) f as r hm
theorem a1m.none {Γ : Env} {cx : Cx} (h : cx.it = fun _ => none) : a1m Γ cx := fun k F caps xs hF => by rw [h] at hF; cases hF
theorem b7l (cx : Cx) {f : Nat} {F : List AV → Option (AV × List (List AV))} (hx : cx.ext f = some F) {as : List AV} {r : AV × List (List AV)} (h : F as = some r) : CW cx f as = some r := by
 refine a3y cx (n := 0) ?_
 unfold U3
 simp only [hx]
 exact h
theorem c3q {Γ : Env} (cx : Cx) (hgl : GlOk Γ cx) (hX : b8k Γ cx) (hI : a1m Γ cx) (hm : cx.P.follows .mixedOrders = true) : SoundC Γ cx (CW cx) := by
 refine ⟨hgl, fun f as res outs h => ?_⟩
 obtain ⟨n, hn⟩ := (b7k cx f as _).1 h
 exact (b3h cx hgl hX hI hm n).2 f as res outs hn
abbrev Asr := List (Mv.Loc × AV)
def look : Asr → Mv.Loc → Option AV
 | [], _ => none
 | (k, a) :: r, l => match Loc.beq l k with
  | true => some a
  | false => look r l
def put : Asr → Mv.Loc → AV → Asr
 | [], l, a => [(l, a)]
 | (k, b) :: r, l, a => match Loc.beq l k with
  | true => (k, a) :: r
  | false => (k, b) :: put r l a
def puts : Asr → Ws → Asr
 | A, [] => A
 | A, (l, a) :: r => puts (put A l a) r
def Sat (st : St) (A : Asr) : Prop := ∀ l a, look A l = some a → st l = a
theorem J5 (A : Asr) (l k : Mv.Loc) (a : AV) : look (put A l a) k = if Loc.beq k l then some a else look A k := by
 induction A with
 | nil => simp only [put, look]; cases Loc.beq k l <;> rfl
 | cons x A ih =>
  obtain ⟨m, b⟩ := x
  simp only [put]
  cases hlm : Loc.beq l m with
  | true =>
   have := (Loc.beq_iff _ _).1 hlm
   subst this
   simp only [look]
   cases Loc.beq k l <;> rfl
  | false =>
   simp only [look, ih]
   cases hkm : Loc.beq k m with
   | true =>
    have := (Loc.beq_iff _ _).1 hkm
    subst this
    have : Loc.beq k l = false := by
     rw [Loc.beq_false] at hlm ⊢
     exact fun e => hlm e.symm
    simp [this]
   | false => rfl
theorem Sat.put {st : St} {A : Asr} (h : Sat st A) (l : Mv.Loc) (a : AV) : Sat (st.upd l a) (put A l a) := by
 intro k b hk
 rw [J5] at hk
 unfold St.upd
 cases hb : Loc.beq k l with
 | true => simp only [hb, if_true, Option.some.injEq] at hk ⊢; exact hk
 | false => simp only [hb, Bool.false_eq_true, if_false] at hk ⊢; exact h k b hk
theorem Sat.puts : ∀ (ws : Ws) {st : St} {A : Asr}, Sat st A → Sat (st.upds ws) (puts A ws) := by
 intro ws
 induction ws with
 | nil => exact fun h => h
 | cons x ws ih => obtain ⟨l, a⟩ := x; exact fun h => ih (h.put l a)
def wpA {α : Type} (C : Caller) (A : Asr) : Rd α → (α → List Mv.Loc → Prop) → Prop
 | .ret a, Q => Q a []
 | .fail, _ => False
 | .read l k, Q => match look A l with
  | some v => wpA C A (k v) fun a ls => Q a (l :: ls)
  | none => ∀ v, wpA C A (k v) fun a ls => Q a (l :: ls)
 | .need p _ k, Q => p ∧ wpA C A k Q
 | .call f as k, Q => ∃ r o, C f as = some (r, o) ∧ wpA C A (k r o) Q
theorem c0w {α : Type} {C : Caller} {A : Asr} {st : St} (hs : Sat st A) : ∀ (x : Rd α) (Q : α → List Mv.Loc → Prop), wpA C A x Q → ∃ a ls, x.run C st = some (a, ls) ∧ Q a ls := by
 intro x
 induction x with
 | ret a => exact fun Q h => ⟨a, [], rfl, h⟩
 | fail => exact fun Q h => h.elim
 | read l k ih =>
  intro Q h
  simp only [wpA] at h
  have : wpA C A (k (st l)) fun a ls => Q a (l :: ls) := by
   cases hl : look A l with
   | none => simp only [hl] at h; exact h _
   | some v => simp only [hl] at h; rw [hs l v hl]; exact h
  obtain ⟨a, ls, h1, h2⟩ := ih _ _ this
  exact ⟨a, l :: ls, by simp only [Rd.run, h1], h2⟩
 | need p d k ih =>
  intro Q h
  obtain ⟨a, ls, h1, h2⟩ := ih Q h.2
  refine ⟨a, ls, ?_, h2⟩
  cases d with
  | isTrue _ => exact h1
  | isFalse hn => exact (hn h.1).elim
 | call f as k ih =>
  intro Q h
  obtain ⟨r, o, hc, h⟩ := h
  obtain ⟨a, ls, h1, h2⟩ := ih _ _ Q h
  exact ⟨a, ls, by simp only [Rd.run, hc, h1], h2⟩
theorem c1b {α β : Type} {C : Caller} {A : Asr} : ∀ (x : Rd α) (f : α → Rd β) (Q : β → List Mv.Loc → Prop),
  wpA C A (x.bind f) Q = wpA C A x fun a ls => wpA C A (f a) fun b ms => Q b (ls ++ ms) := by
 intro x
 induction x with
 | ret a => intro f Q; rfl
 | fail => intro f Q; rfl
 | read l k ih =>
  intro f Q
  simp only [Rd.bind, wpA, ih]
  rfl
 | need p d k ih =>
  intro f Q
  simp only [Rd.bind, wpA, ih]
 | call g as k ih =>
  intro f Q
  simp only [Rd.bind, wpA, ih]
theorem T9 {α : Type} {C : Caller} {A : Asr} {x : Rd α} : ∀ {Q Q' : α → List Mv.Loc → Prop}, (∀ a ls, Q a ls → Q' a ls) → wpA C A x Q → wpA C A x Q' := by
 induction x with
 | ret a => exact fun hq h => hq _ _ h
 | fail => exact fun _ h => h
 | read l k ih =>
  intro Q Q' hq h
  simp only [wpA] at h ⊢
  cases hl : look A l with
  | none => simp only [hl] at h ⊢; exact fun v => ih v (fun a ls h => hq a _ h) (h v)
  | some v => simp only [hl] at h ⊢; exact ih v (fun a ls h => hq a _ h) h
 | need p d k ih => exact fun hq h => ⟨h.1, ih hq h.2⟩
 | call f as k ih =>
  intro Q Q' hq h
  obtain ⟨r, o, hc, h⟩ := h
  exact ⟨r, o, hc, ih _ _ hq h⟩
def a4r (ws : Ws) : List Mv.Loc := ws.map (·.1)
theorem c3d {α : Type} {C : Caller} {st : St} (ws : Ws) : ∀ (y : Rd α) {b : α} {ms : List Mv.Loc}, y.run C (st.upds ws) = some (b, ms) → ∃ ms', (y.over ws).run C st = some (b, ms') ∧ ∀ l ∈ ms', l ∈ ms := by
 intro y
 induction y with
 | ret a => intro b ms h; simp only [Rd.run, Option.some.injEq, Prod.mk.injEq] at h; obtain ⟨rfl, rfl⟩ := h; exact ⟨[], rfl, fun _ h => h⟩
 | fail => intro b ms h; simp [Rd.run] at h
 | read l k ih =>
  intro b ms h
  simp only [Rd.run] at h
  cases hk : (k (st.upds ws l)).run C (st.upds ws) with
  | none => simp [hk] at h
  | some z =>
   obtain ⟨b', ms1⟩ := z
   simp only [hk, Option.some.injEq, Prod.mk.injEq] at h
   obtain ⟨rfl, rfl⟩ := h
   obtain ⟨ms', h1, h2⟩ := ih _ hk
   rw [b0v] at h1
   simp only [Rd.over]
   cases hl : Ws.look ws l with
   | some v =>
    simp only [hl, Option.getD_some] at h1
    exact ⟨ms', h1, fun m hm => List.mem_cons_of_mem _ (h2 m hm)⟩
   | none =>
    simp only [hl, Option.getD_none] at h1
    refine ⟨l :: ms', by simp only [Rd.run, h1], fun m hm => ?_⟩
    cases hm with
    | head => exact List.mem_cons_self ..
    | tail _ hm => exact List.mem_cons_of_mem _ (h2 m hm)
 | need p d k ih =>
  intro b ms h
  cases d with
  | isTrue _ => exact ih h
  | isFalse _ => simp [Rd.run] at h
 | call f as k ih =>
  intro b ms h
  simp only [Rd.run] at h
  simp only [Rd.over, Rd.run]
  cases hc : C f as with
  | none => simp [hc] at h
  | some z => simp only [hc] at h ⊢; exact ih _ _ h
def wpW {α : Type} (C : Caller) (A : Asr) (x : RW α) (R : α → Ws → List Mv.Loc → Prop) : Prop :=
 ∀ st, Sat st A → ∃ a ws ls ls', Rd.run (α := α × Ws) C st x = some ((a, ws), ls) ∧ (∀ l ∈ ls, l ∈ ls') ∧ R a ws ls'
theorem A7 {α : Type} {C : Caller} {A : Asr} {a : α} {R : α → Ws → List Mv.Loc → Prop} (h : R a [] []) : wpW C A (pure a) R :=
 fun st _ => ⟨a, [], [], [], rfl, fun _ h => h, h⟩
theorem H1 {C : Caller} {A : Asr} {ws : Ws} {R : Unit → Ws → List Mv.Loc → Prop} (h : R () ws []) : wpW C A (wr ws) R :=
 fun st _ => ⟨(), ws, [], [], rfl, fun _ h => h, h⟩
theorem c2u {α : Type} {C : Caller} {st : St} (x : Rd α) {a : α} {ls : List Mv.Loc} (h : x.run C st = some (a, ls)) : Rd.run (α := α × Ws) C st (up x) = some ((a, []), ls) := by
 show Rd.run (α := α × Ws) C st (Rd.bind x fun a => .ret (a, [])) = _
 induction x generalizing ls with
 | ret b => simp only [Rd.run, Option.some.injEq, Prod.mk.injEq] at h; obtain ⟨rfl, rfl⟩ := h; rfl
 | fail => simp [Rd.run] at h
 | read l k ih =>
  simp only [Rd.run] at h
  cases hk : (k (st l)).run C st with
  | none => simp [hk] at h
  | some z =>
   obtain ⟨b', ms1⟩ := z
   simp only [hk, Option.some.injEq, Prod.mk.injEq] at h
   obtain ⟨rfl, rfl⟩ := h
   have := ih _ hk
   simp only [Rd.bind, Rd.run, this]
 | need p d k ih =>
  cases d with
  | isTrue _ => exact ih h
  | isFalse _ => simp [Rd.run] at h
 | call f as k ih =>
  simp only [Rd.run] at h
  simp only [Rd.bind, Rd.run]
  cases hc : C f as with
  | none => simp [hc] at h
  | some z => simp only [hc] at h ⊢; exact ih _ _ h
theorem F5 {α : Type} {C : Caller} {A : Asr} {x : Rd α} {R : α → Ws → List Mv.Loc → Prop} (h : wpA C A x fun a ls => R a [] ls) : wpW C A (up x) R := by
 intro st hs
 obtain ⟨a, ls, h1, h2⟩ := c0w hs _ _ h
 exact ⟨a, [], ls, ls, c2u x h1, fun _ h => h, h2⟩
theorem a2j {α β : Type} {C : Caller} {st : St} (x : Rd α) (f : α → Rd β) {a : α} {ls ms : List Mv.Loc} {b : β} (h : x.run C st = some (a, ls)) (h2 : (f a).run C st = some (b, ms)) : (x.bind f).run C st = some (b, ls ++ ms) := by
 induction x generalizing ls with
 | ret c => simp only [Rd.run, Option.some.injEq, Prod.mk.injEq] at h; obtain ⟨rfl, rfl⟩ := h; exact h2
 | fail => simp [Rd.run] at h
 | read l k ih =>
  simp only [Rd.run] at h
  cases hk : (k (st l)).run C st with
  | none => simp [hk] at h
  | some z =>
   obtain ⟨b', ms1⟩ := z
   simp only [hk, Option.some.injEq, Prod.mk.injEq] at h
   obtain ⟨rfl, rfl⟩ := h
   have := ih _ hk
   simp only [Rd.bind, Rd.run, this, List.cons_append]
 | need p d k ih =>
  cases d with
  | isTrue _ => exact ih h
  | isFalse _ => simp [Rd.run] at h
 | call f as k ih =>
  simp only [Rd.run] at h
  simp only [Rd.bind, Rd.run]
  cases hc : C f as with
  | none => simp [hc] at h
  | some z => simp only [hc] at h ⊢; exact ih _ _ h
theorem A4 {α β : Type} {C : Caller} {A : Asr} {x : RW α} {f : α → RW β} {R : β → Ws → List Mv.Loc → Prop}
  (h : wpW C A x fun a ws ls => wpW C (puts A ws) (f a) fun b ws' ls' => R b (ws ++ ws') (ls ++ ls')) : wpW C A (x >>= f) R := by
 intro st hs
 obtain ⟨a, ws, ls, ls', h1, h2, h3⟩ := h st hs
 obtain ⟨b, ws', ms, ms', k1, k2, k3⟩ := h3 _ (hs.puts ws)
 obtain ⟨ms2, k4, k5⟩ := c3d ws _ k1
 refine ⟨b, ws ++ ws', ls ++ ms2, ls' ++ ms', ?_, fun l hl => ?_, k3⟩
 ·show Rd.run (α := β × Ws) C st (Rd.bind (α := α × Ws) x fun a => Rd.bind (α := β × Ws) (Rd.over a.2 (f a.1)) fun b => .ret (b.1, a.2 ++ b.2)) = _
  refine a2j _ _ h1 ?_
  have := a2j (α := β × Ws) (β := β × Ws) _ (fun b => .ret (b.1, ws ++ b.2)) k4 (b := (b, ws ++ ws')) (ms := []) rfl
  simpa using this
 ·rcases List.mem_append.1 hl with hl | hl
  ·exact List.mem_append_left _ (h2 l hl)
  ·exact List.mem_append_right _ (k2 l (k5 l hl))
theorem F8 {α : Type} {C : Caller} {A : Asr} {x : RW α} {R R' : α → Ws → List Mv.Loc → Prop} (h : wpW C A x R) (hr : ∀ a ws ls, R a ws ls → R' a ws ls) : wpW C A x R' := by
 intro st hs
 obtain ⟨a, ws, ls, ls', h1, h2, h3⟩ := h st hs
 exact ⟨a, ws, ls, ls', h1, h2, hr _ _ _ h3⟩
def c2p : List Log → List Log → Prop
 | [], [] => True
 | a :: x, b :: y => (∀ l ∈ a.1, l ∈ b.1) ∧ a.2 = b.2 ∧ c2p x y
 | _, _ => False
theorem b8n {a a' b b' : Log} (ha : ∀ l ∈ a.1, l ∈ a'.1) (ha2 : a.2 = a'.2) (hb : ∀ l ∈ b.1, l ∈ b'.1) (hb2 : b.2 = b'.2) (h : clash a' b' = false) : clash a b = false := by
 simp only [clash, Bool.or_eq_false_iff, List.any_eq_false, Bool.or_eq_true, not_or, Bool.not_eq_true] at h ⊢
 obtain ⟨h1, h2⟩ := h
 have hm : ∀ (x y : List Mv.Loc) l, (∀ l ∈ x, l ∈ y) → hasLoc y l = false → hasLoc x l = false := by
  intro x y l hxy hy
  rw [← Bool.not_eq_true] at hy ⊢
  exact fun hx => hy ((Z6 _ _).2 (hxy l ((Z6 _ _).1 hx)))
 refine ⟨fun l hl => ?_, fun l hl => ?_⟩
 ·rw [ha2] at hl
  have := h1 l hl
  exact ⟨hm _ _ _ hb this.1, by rw [hb2]; exact this.2⟩
 ·rw [hb2]; exact h2 l (ha l hl)
theorem a9a : ∀ (os : List Oper) (lg lg' : List Log) (prev prev' : List (Log × Nat)), c2p lg lg' → prev.length = prev'.length → (∀ (i : Nat) x x', prev[i]? = some x → prev'[i]? = some x' → (∀ l ∈ x.1.1, l ∈ x'.1.1) ∧ x.1.2 = x'.1.2 ∧ x.2 = x'.2) →
  O4 os lg' prev' = true → O4 os lg prev = true := by
 intro os
 induction os with
 | nil => intro lg lg' prev prev' _ _ _ _; rfl
 | cons o os ih =>
  intro lg lg' prev prev' hl hlen hp h
  cases lg with
  | nil => rfl
  | cons a lg => cases lg' with
   | nil => exact hl.elim
   | cons b lg' =>
    obtain ⟨q1, q2, q3⟩ := hl
    simp only [O4, Bool.and_eq_true] at h ⊢
    have hmap : prev.map (·.2) = prev'.map (·.2) := by
     apply List.ext_getElem?
     intro i
     rw [List.getElem?_map, List.getElem?_map]
     rcases Nat.lt_or_ge i prev.length with hi | hi
     ·have e1 : prev[i]? = some prev[i] := List.getElem?_eq_getElem hi
      have e2 : prev'[i]? = some (prev'[i]'(by omega)) := List.getElem?_eq_getElem (by omega)
      rw [e1, e2]
      simp [(hp i _ _ e1 e2).2.2]
     ·rw [List.getElem?_eq_none hi, List.getElem?_eq_none (by omega)]
    rw [hmap]
    refine ⟨?_, ih lg lg' _ _ q3 (by simp [hlen]) (fun i x x' hx hx' => ?_) h.2⟩
    ·rw [List.all_eq_true]
     rintro ⟨x, i⟩ hx
     obtain ⟨k, hk⟩ := List.mem_iff_getElem?.1 hx
     rw [List.getElem?_zipIdx] at hk
     cases hpk : prev[k]? with
     | none => simp [hpk] at hk
     | some y =>
      simp only [hpk, Option.map_some, Option.some.injEq, Prod.mk.injEq] at hk
      obtain ⟨rfl, rfl⟩ := hk
      have hkl : k < prev.length := (List.getElem?_eq_some_iff.1 hpk).1
      have e2 : prev'[k]? = some (prev'[k]'(by omega)) := List.getElem?_eq_getElem (by omega)
      obtain ⟨r1, r2, r3⟩ := hp k _ _ hpk e2
      have := List.all_eq_true.1 h.1 (prev'[k]'(by omega), 0 + k) (by
       rw [List.mem_iff_getElem?]
       exact ⟨k, by rw [List.getElem?_zipIdx, e2]; rfl⟩)
      simp only [Bool.or_eq_true, Bool.not_eq_true'] at this ⊢
      exact this.imp (fun h => b8n r1 r2 q1 q2 h) fun h => h
    ·by_cases hi : i < prev.length
     ·rw [List.getElem?_append_left hi] at hx
      rw [List.getElem?_append_left (by omega)] at hx'
      exact hp i x x' hx hx'
     ·rw [List.getElem?_append_right (by omega)] at hx
      rw [List.getElem?_append_right (by omega), ← hlen] at hx'
      cases hii : i - prev.length with
      | zero =>
       simp only [hii, List.getElem?_cons_zero, Option.some.injEq] at hx hx'
       subst hx hx'
       exact ⟨q1, q2, rfl⟩
      | succ n => simp [hii] at hx
def XR (cx : Cx) (keep : List Nat) (ops0 : Array Oper) (rest : List Oper) (A : Asr) (Q : Asr → List Log → Prop) : Prop :=
 ∀ st, Sat st A → ∃ ws lg lg', J7 (CW cx) cx ops0 rest st = some (ws, lg) ∧ c2p lg lg' ∧ tRefsOk keep (keptWs keep ws) = true ∧ ∃ A', Sat (st.upds ws) A' ∧ Q A' lg'
theorem a1h {keep : List Nat} (a b : Ws) : tRefsOk keep (keptWs keep (a ++ b)) = (tRefsOk keep (keptWs keep a) && tRefsOk keep (keptWs keep b)) := by
 simp only [tRefsOk, keptWs, List.filter_append, List.all_append]
theorem P4 {cx : Cx} {keep : List Nat} {ops0 : Array Oper} {A : Asr} {Q : Asr → List Log → Prop} (h : Q A []) : XR cx keep ops0 [] A Q :=
 fun st hs => ⟨[], [], [], rfl, trivial, rfl, A, hs, h⟩
theorem a4j {cx : Cx} {keep : List Nat} {ops0 : Array Oper} {o : Oper} {r : List Oper} {A : Asr} {Q : Asr → List Log → Prop}
  (h : wpW (CW cx) A (M2 cx ops0 o) fun _ ws ls => tRefsOk keep (keptWs keep ws) = true ∧ XR cx keep ops0 r (puts A ws) fun A' lg => Q A' ((ls, a4r ws) :: lg)) :
  XR cx keep ops0 (o :: r) A Q := by
 intro st hs
 obtain ⟨⟨⟩, ws, ls, ls', h1, h1', h2, h3⟩ := h st hs
 obtain ⟨ws', lg, lg', k1, kl, k2, A', k3, k4⟩ := h3 _ (hs.puts ws)
 refine ⟨ws ++ ws', (ls, a4r ws) :: lg, (ls', a4r ws) :: lg', ?_, ⟨h1', rfl, kl⟩, ?_, A', ?_, k4⟩
 ·simp only [J7, h1, k1]; rfl
 ·rw [a1h, h2, k2]; rfl
 ·rw [St.upds_append]; exact k3
def opd (A : Asr) : Operand → Option AV
 | .tmp t => look A (.t t)
 | .const v => some (ofConst v)
 | .func f => some (.clo f [])
 | .global g => some (.val (.pointer (some ⟨g, 0, none⟩)))
def rds : Operand → List Mv.Loc
 | .tmp t => [.t t]
 | _ => []
def slotOk (keep : List Nat) (l : Mv.Loc) (v : AV) : Bool := !keepLoc keep l || refOkV keep v
section
variable {C : Caller} {A : Asr}
theorem C3 {α β : Type} (x : Rd α) (f : α → Rd β) (Q : β → List Mv.Loc → Prop) :
  wpA C A (x >>= f) Q = wpA C A x fun a ls => wpA C A (f a) fun b ms => Q b (ls ++ ms) := c1b x f Q
theorem C9 {α : Type} (a : α) (Q : α → List Mv.Loc → Prop) : wpA C A (.ret a) Q = Q a [] := rfl
theorem D3 (p : Prop) [Decidable p] (Q : Unit → List Mv.Loc → Prop) : wpA C A (need p) Q = (p ∧ Q () []) := rfl
theorem O6 {α : Type} {l : Mv.Loc} {v : AV} (h : look A l = some v) (k : AV → Rd α) (Q : α → List Mv.Loc → Prop) : wpA C A (.read l k) Q = wpA C A (k v) fun a ls => Q a (l :: ls) := by
 simp only [wpA, h]
theorem b7u {l : Mv.Loc} {v : AV} (h : look A l = some v) (Q : AV → List Mv.Loc → Prop) : wpA C A (rd l) Q = Q v [l] := O6 h _ Q
theorem B7 {x : Operand} {v : AV} (h : opd A x = some v) (Q : AV → List Mv.Loc → Prop) : wpA C A (rdO x) Q = Q v (rds x) := by
 cases x with
 | tmp t => exact b7u h Q
 | const c => simp only [opd, Option.some.injEq] at h; subst h; rfl
 | func f => simp only [opd, Option.some.injEq] at h; subst h; rfl
 | global g => simp only [opd, Option.some.injEq] at h; subst h; rfl
end
section
variable {cx : Cx} {keep : List Nat} {ops0 : Array Oper} {r : List Oper} {A : Asr} {Q : Asr → List Log → Prop}
def Wk (A B : Asr) : Prop := ∀ l a, look B l = some a → look A l = some a
theorem XR.wk {A B : Asr} (h : Wk A B) (hx : XR cx keep ops0 r B Q) : XR cx keep ops0 r A Q :=
 fun st hs => hx st fun l a hl => hs l a (h l a hl)
theorem a4e (A : Asr) (l : Mv.Loc) (a : AV) : ∀ k, look ((l, a) :: A) k = look (put A l a) k := by
 intro k
 rw [J5]
 simp only [look]
 cases Loc.beq k l <;> rfl
theorem H7 {keep : List Nat} {l : Mv.Loc} {v : AV} (h : slotOk keep l v = true) : tRefsOk keep (keptWs keep [(l, v)]) = true := by
 unfold slotOk at h
 unfold keptWs tRefsOk
 cases hk : keepLoc keep l with
 | false => simp [List.filter, hk]
 | true =>
  simp only [hk, Bool.not_true, Bool.false_or] at h
  simp only [List.filter, hk, List.all_cons, List.all_nil, Bool.and_true]
  exact h
theorem F4 {keep : List Nat} {l : Mv.Loc} {v : AV} {ws : Ws} (h : slotOk keep l v = true) (h' : tRefsOk keep (keptWs keep ws) = true) : tRefsOk keep (keptWs keep ((l, v) :: ws)) = true := by
 have := a1h (keep := keep) [(l, v)] ws
 simp only [List.singleton_append] at this
 rw [this, H7 h, h']
 rfl
theorem G7 {d : Nat} {op : Op} {ty : Nat} {pos : String} {aft : Array Edge} {v : AV} {l : List Mv.Loc} (hv : ∀ o : Oper, o.op = op → aopV cx o = up (opV cx op)) (hop : wpA (CW cx) A (opV cx op) fun a ls => a = v ∧ ls = l)
  (hk : slotOk keep (.t d) v = true) (h : XR cx keep ops0 r ((.t d, v) :: A) fun A' lg => Q A' ((l, [.t d]) :: lg)) : XR cx keep ops0 (⟨some d, op, ty, pos, aft, none⟩ :: r) A Q := by
 refine a4j ?_
 have : M2 cx ops0 ⟨some d, op, ty, pos, aft, none⟩ = aop cx ⟨some d, op, ty, pos, aft, none⟩ := rfl
 rw [this]
 unfold aop
 refine A4 ?_
 rw [hv _ rfl]
 refine F5 (T9 ?_ hop)
 rintro a ls ⟨rfl, rfl⟩
 refine H1 ?_
 refine ⟨H7 hk, ?_⟩
 simp only [List.append_nil]
 exact XR.wk (fun k b hb => by
  show look (put A (.t d) a) k = some b
  rw [← a4e]; exact hb) h
end
abbrev iV (n : Int) : AV := .val (.int .i64 n)
abbrev bV (b : Bool) : AV := .val (.bool b)
abbrev uV (n : Int) : AV := .val (.int .u8 n)
theorem B1 {x : Int} (h : -9223372036854775808 ≤ x ∧ x ≤ 9223372036854775807) : inI .i64 x := h
section
variable {cx : Cx} {keep : List Nat} {ops0 : Array Oper} {r : List Oper} {A : Asr} {Q : Asr → List Log → Prop} {d : Nat} {ty : Nat} {pos : String} {aft : Array Edge}
theorem c7m {x : Operand} {v : AV} (hx : opd A x = some v) (hk : slotOk keep (.t d) v = true) (h : XR cx keep ops0 r ((.t d, v) :: A) fun A' lg => Q A' ((rds x, [.t d]) :: lg)) :
  XR cx keep ops0 (⟨some d, .move x, ty, pos, aft, none⟩ :: r) A Q :=
 G7 (fun o ho => by simp only [aopV, ho]) (by simp only [opV, B7 hx, and_self]) hk h
theorem D4 {T z : Nat} {a b : Operand} {k : IntKind} {x y : Int} (ha : opd A a = some (.val (.int k x))) (hb : opd A b = some (.val (.int k y))) (hi : inI k (x + y))
  (h : XR cx keep ops0 r ((.t d, .val (.int k (x + y))) :: A) fun A' lg => Q A' ((rds a ++ rds b, [.t d]) :: lg)) : XR cx keep ops0 (⟨some d, .binOp .add T a b z, ty, pos, aft, none⟩ :: r) A Q :=
 G7 (fun o ho => by simp only [aopV, ho]) (by simp only [opV, C3, B7 ha, B7 hb, D3, C9, a0q, intBin, X7, List.append_nil, List.nil_append, true_and, and_self, and_true]; exact hi) (by simp [slotOk, refOkV, refsOk]) h
theorem N1 {T z : Nat} {a b : Operand} {k : IntKind} {x y : Int} (ha : opd A a = some (.val (.int k x))) (hb : opd A b = some (.val (.int k y))) (hi : inI k (x - y))
  (h : XR cx keep ops0 r ((.t d, .val (.int k (x - y))) :: A) fun A' lg => Q A' ((rds a ++ rds b, [.t d]) :: lg)) : XR cx keep ops0 (⟨some d, .binOp .sub T a b z, ty, pos, aft, none⟩ :: r) A Q :=
 G7 (fun o ho => by simp only [aopV, ho]) (by simp only [opV, C3, B7 ha, B7 hb, D3, C9, a0q, intBin, X7, List.append_nil, List.nil_append, true_and, and_self, and_true]; exact hi) (by simp [slotOk, refOkV, refsOk]) h
theorem W6 {T z : Nat} {a b : Operand} {k : IntKind} {x y : Int} (ha : opd A a = some (.val (.int k x))) (hb : opd A b = some (.val (.int k y))) (hi : inI k (x * y))
  (h : XR cx keep ops0 r ((.t d, .val (.int k (x * y))) :: A) fun A' lg => Q A' ((rds a ++ rds b, [.t d]) :: lg)) : XR cx keep ops0 (⟨some d, .binOp .mul T a b z, ty, pos, aft, none⟩ :: r) A Q :=
 G7 (fun o ho => by simp only [aopV, ho]) (by simp only [opV, C3, B7 ha, B7 hb, D3, C9, a0q, intBin, X7, List.append_nil, List.nil_append, true_and, and_self, and_true]; exact hi) (by simp [slotOk, refOkV, refsOk]) h
theorem b9t {T z : Nat} {a b : Operand} {k : IntKind} {x y : Int} (ha : opd A a = some (.val (.int k x))) (hb : opd A b = some (.val (.int k y))) (hi : y ≠ 0 ∧ inI k (x.tdiv y))
  (h : XR cx keep ops0 r ((.t d, .val (.int k (x.tdiv y))) :: A) fun A' lg => Q A' ((rds a ++ rds b, [.t d]) :: lg)) : XR cx keep ops0 (⟨some d, .binOp .quo T a b z, ty, pos, aft, none⟩ :: r) A Q :=
 G7 (fun o ho => by simp only [aopV, ho]) (by simp only [opV, C3, B7 ha, B7 hb, D3, C9, a0q, intBin, X7, List.append_nil, List.nil_append, true_and, and_self, and_true]; exact hi) (by simp [slotOk, refOkV, refsOk]) h
theorem b4m {T z : Nat} {a b : Operand} {k : IntKind} {x y : Int} (ha : opd A a = some (.val (.int k x))) (hb : opd A b = some (.val (.int k y))) (hi : y ≠ 0)
  (h : XR cx keep ops0 r ((.t d, .val (.int k (x.tmod y))) :: A) fun A' lg => Q A' ((rds a ++ rds b, [.t d]) :: lg)) : XR cx keep ops0 (⟨some d, .binOp .rem T a b z, ty, pos, aft, none⟩ :: r) A Q :=
 G7 (fun o ho => by simp only [aopV, ho]) (by simp only [opV, C3, B7 ha, B7 hb, D3, C9, a0q, intBin, X7, List.append_nil, List.nil_append, true_and, and_self, and_true]; exact hi) (by simp [slotOk, refOkV, refsOk]) h
theorem M6 {T z : Nat} {a b : Operand} {k : IntKind} {x y : Int} (ha : opd A a = some (.val (.int k x))) (hb : opd A b = some (.val (.int k y)))
  (h : XR cx keep ops0 r ((.t d, .val (.bool (x == y))) :: A) fun A' lg => Q A' ((rds a ++ rds b, [.t d]) :: lg)) : XR cx keep ops0 (⟨some d, .binOp .eql T a b z, ty, pos, aft, none⟩ :: r) A Q :=
 G7 (fun o ho => by simp only [aopV, ho]) (by simp only [opV, C3, B7 ha, B7 hb, D3, C9, a0q, intBin, X7, List.append_nil, List.nil_append, true_and, and_self, and_true]) (by simp [slotOk, refOkV, refsOk]) h
theorem c6u {T z : Nat} {a b : Operand} {k : IntKind} {x y : Int} (ha : opd A a = some (.val (.int k x))) (hb : opd A b = some (.val (.int k y)))
  (h : XR cx keep ops0 r ((.t d, .val (.bool (x != y))) :: A) fun A' lg => Q A' ((rds a ++ rds b, [.t d]) :: lg)) : XR cx keep ops0 (⟨some d, .binOp .neq T a b z, ty, pos, aft, none⟩ :: r) A Q :=
 G7 (fun o ho => by simp only [aopV, ho]) (by simp only [opV, C3, B7 ha, B7 hb, D3, C9, a0q, intBin, X7, List.append_nil, List.nil_append, true_and, and_self, and_true]) (by simp [slotOk, refOkV, refsOk]) h
theorem I9 {T z : Nat} {a b : Operand} {k : IntKind} {x y : Int} (ha : opd A a = some (.val (.int k x))) (hb : opd A b = some (.val (.int k y)))
  (h : XR cx keep ops0 r ((.t d, .val (.bool (decide (x < y)))) :: A) fun A' lg => Q A' ((rds a ++ rds b, [.t d]) :: lg)) : XR cx keep ops0 (⟨some d, .binOp .lss T a b z, ty, pos, aft, none⟩ :: r) A Q :=
 G7 (fun o ho => by simp only [aopV, ho]) (by simp only [opV, C3, B7 ha, B7 hb, D3, C9, a0q, intBin, X7, List.append_nil, List.nil_append, true_and, and_self, and_true]) (by simp [slotOk, refOkV, refsOk]) h
theorem Z3 {T z : Nat} {a b : Operand} {k : IntKind} {x y : Int} (ha : opd A a = some (.val (.int k x))) (hb : opd A b = some (.val (.int k y)))
  (h : XR cx keep ops0 r ((.t d, .val (.bool (decide (x ≤ y)))) :: A) fun A' lg => Q A' ((rds a ++ rds b, [.t d]) :: lg)) : XR cx keep ops0 (⟨some d, .binOp .leq T a b z, ty, pos, aft, none⟩ :: r) A Q :=
 G7 (fun o ho => by simp only [aopV, ho]) (by simp only [opV, C3, B7 ha, B7 hb, D3, C9, a0q, intBin, X7, List.append_nil, List.nil_append, true_and, and_self, and_true]) (by simp [slotOk, refOkV, refsOk]) h
theorem J0 {T z : Nat} {a b : Operand} {k : IntKind} {x y : Int} (ha : opd A a = some (.val (.int k x))) (hb : opd A b = some (.val (.int k y)))
  (h : XR cx keep ops0 r ((.t d, .val (.bool (decide (y < x)))) :: A) fun A' lg => Q A' ((rds a ++ rds b, [.t d]) :: lg)) : XR cx keep ops0 (⟨some d, .binOp .gtr T a b z, ty, pos, aft, none⟩ :: r) A Q :=
 G7 (fun o ho => by simp only [aopV, ho]) (by simp only [opV, C3, B7 ha, B7 hb, D3, C9, a0q, intBin, X7, List.append_nil, List.nil_append, true_and, and_self, and_true]) (by simp [slotOk, refOkV, refsOk]) h
theorem b8z {T z : Nat} {a b : Operand} {k : IntKind} {x y : Int} (ha : opd A a = some (.val (.int k x))) (hb : opd A b = some (.val (.int k y)))
  (h : XR cx keep ops0 r ((.t d, .val (.bool (decide (y ≤ x)))) :: A) fun A' lg => Q A' ((rds a ++ rds b, [.t d]) :: lg)) : XR cx keep ops0 (⟨some d, .binOp .geq T a b z, ty, pos, aft, none⟩ :: r) A Q :=
 G7 (fun o ho => by simp only [aopV, ho]) (by simp only [opV, C3, B7 ha, B7 hb, D3, C9, a0q, intBin, X7, List.append_nil, List.nil_append, true_and, and_self, and_true]) (by simp [slotOk, refOkV, refsOk]) h
theorem c8s {T z : Nat} {a b : Operand} {k : IntKind} {x y : Int} (ha : opd A a = some (.val (.int k x))) (hb : opd A b = some (.val (.int k y)))
  (h : XR cx keep ops0 r ((.t d, .val (.int k (k.wrap ((BitVec.ofInt k.bits x &&& BitVec.ofInt k.bits y).toNat)))) :: A) fun A' lg => Q A' ((rds a ++ rds b, [.t d]) :: lg)) : XR cx keep ops0 (⟨some d, .binOp .and T a b z, ty, pos, aft, none⟩ :: r) A Q :=
 G7 (fun o ho => by simp only [aopV, ho]) (by simp only [opV, C3, B7 ha, B7 hb, D3, C9, a0q, intBin, X7, List.append_nil, List.nil_append, true_and, and_self, and_true]) (by simp [slotOk, refOkV, refsOk]) h
theorem c8m {T z : Nat} {a b : Operand} {k : IntKind} {x y : Int} (ha : opd A a = some (.val (.int k x))) (hb : opd A b = some (.val (.int k y)))
  (h : XR cx keep ops0 r ((.t d, .val (.int k (k.wrap ((BitVec.ofInt k.bits x ^^^ BitVec.ofInt k.bits y).toNat)))) :: A) fun A' lg => Q A' ((rds a ++ rds b, [.t d]) :: lg)) : XR cx keep ops0 (⟨some d, .binOp .xor T a b z, ty, pos, aft, none⟩ :: r) A Q :=
 G7 (fun o ho => by simp only [aopV, ho]) (by simp only [opV, C3, B7 ha, B7 hb, D3, C9, a0q, intBin, X7, List.append_nil, List.nil_append, true_and, and_self, and_true]) (by simp [slotOk, refOkV, refsOk]) h
theorem c9c {T z : Nat} {a b : Operand} {k k' : IntKind} {x y : Int} (ha : opd A a = some (.val (.int k x))) (hb : opd A b = some (.val (.int k' y))) (hi : 0 ≤ y ∧ y < k.bits ∧ inI k (x * 2 ^ y.toNat))
  (h : XR cx keep ops0 r ((.t d, .val (.int k (x * 2 ^ y.toNat))) :: A) fun A' lg => Q A' ((rds a ++ rds b, [.t d]) :: lg)) : XR cx keep ops0 (⟨some d, .binOp .shl T a b z, ty, pos, aft, none⟩ :: r) A Q :=
 G7 (fun o ho => by simp only [aopV, ho]) (by simp only [opV, C3, B7 ha, B7 hb, D3, C9, a0q, intBin, X7, List.append_nil, List.nil_append, true_and, and_self, and_true]; exact hi) (by simp [slotOk, refOkV, refsOk]) h
theorem c8n {T z : Nat} {a b : Operand} {k k' : IntKind} {x y : Int} (ha : opd A a = some (.val (.int k x))) (hb : opd A b = some (.val (.int k' y))) (hi : 0 ≤ y ∧ y < k.bits)
  (h : XR cx keep ops0 r ((.t d, .val (.int k (x.fdiv (2 ^ y.toNat)))) :: A) fun A' lg => Q A' ((rds a ++ rds b, [.t d]) :: lg)) : XR cx keep ops0 (⟨some d, .binOp .shr T a b z, ty, pos, aft, none⟩ :: r) A Q :=
 G7 (fun o ho => by simp only [aopV, ho]) (by simp only [opV, C3, B7 ha, B7 hb, D3, C9, a0q, intBin, X7, List.append_nil, List.nil_append, true_and, and_self, and_true]; exact hi) (by simp [slotOk, refOkV, refsOk]) h
theorem c3t {T : Nat} {a : Operand} {k : IntKind} {x : Int} (ha : opd A a = some (.val (.int k x))) (hi : inI k (0 - x))
  (h : XR cx keep ops0 r ((.t d, .val (.int k (-x))) :: A) fun A' lg => Q A' ((rds a, [.t d]) :: lg)) : XR cx keep ops0 (⟨some d, .unOp .neg T a, ty, pos, aft, none⟩ :: r) A Q :=
 G7 (fun o ho => by simp only [aopV, ho]) (by simp only [opV, C3, B7 ha, D3, C9, unA, List.append_nil, List.nil_append, and_self, and_true]; exact hi) (by simp [slotOk, refOkV, refsOk]) h
theorem a2o {T : Nat} {a : Operand} {x : Bool} (ha : opd A a = some (.val (.bool x)))
  (h : XR cx keep ops0 r ((.t d, bV (!x)) :: A) fun A' lg => Q A' ((rds a, [.t d]) :: lg)) : XR cx keep ops0 (⟨some d, .unOp .not T a, ty, pos, aft, none⟩ :: r) A Q :=
 G7 (fun o ho => by simp only [aopV, ho]) (by simp only [opV, C3, B7 ha, C9, unA, List.append_nil, and_self]) (by simp [slotOk, refOkV, refsOk]) h
theorem b7d {x : Operand} {T : Nat} {es : List AV} (hx : opd A x = some (.list es)) (hT : K7 (tyS cx.P T).k = true)
  (h : XR cx keep ops0 r ((.t d, iV es.length) :: A) fun A' lg => Q A' ((rds x, [.t d]) :: lg)) : XR cx keep ops0 (⟨some d, .call ⟨.builtin .len, #[x], #[T]⟩, ty, pos, aft, none⟩ :: r) A Q := by
 refine G7 (fun o ho => by simp only [aopV, ho]) ?_ (by simp [slotOk, refOkV, refsOk]) h
 simp only [opV, C3, B7 hx, D3, C9, lenA, List.append_nil, List.nil_append, and_self, and_true]
 unfold K7 at hT
 unfold lenOk
 split at hT
 ·rename_i e he; rw [he]; trivial
 ·cases hT
theorem B9 {α : Type} {f : α → AV} {xs : List α} {x : Operand} {T : Nat} (hx : opd A x = some (.list (xs.map f))) (hT : K7 (tyS cx.P T).k = true)
  (h : XR cx keep ops0 r ((.t d, iV xs.length) :: A) fun A' lg => Q A' ((rds x, [.t d]) :: lg)) : XR cx keep ops0 (⟨some d, .call ⟨.builtin .len, #[x], #[T]⟩, ty, pos, aft, none⟩ :: r) A Q :=
 b7d hx hT (by rw [List.length_map]; exact h)
theorem G9 {x : Operand} {T id g off n : Nat} {p : Option (Nat × Nat)} (hx : opd A x = some (.sl id g p off n)) (hT : K7 (tyS cx.P T).k = true)
  (h : XR cx keep ops0 r ((.t d, iV n) :: A) fun A' lg => Q A' ((rds x, [.t d]) :: lg)) : XR cx keep ops0 (⟨some d, .call ⟨.builtin .len, #[x], #[T]⟩, ty, pos, aft, none⟩ :: r) A Q := by
 refine G7 (fun o ho => by simp only [aopV, ho]) ?_ (by simp [slotOk, refOkV, refsOk]) h
 simp only [opV, C3, B7 hx, D3, C9, lenA, List.append_nil, List.nil_append, and_self, and_true]
 unfold K7 at hT
 unfold lenOk
 split at hT
 ·rename_i e he; rw [he]; trivial
 ·cases hT
theorem b9a {a b : Operand} {Ts : Array Nat} {k : IntKind} {x y : Int} (ha : opd A a = some (.val (.int k x))) (hb : opd A b = some (.val (.int k y)))
  (h : XR cx keep ops0 r ((.t d, .val (.int k (max x y))) :: A) fun A' lg => Q A' ((rds a ++ rds b, [.t d]) :: lg)) : XR cx keep ops0 (⟨some d, .call ⟨.builtin .max, #[a, b], Ts⟩, ty, pos, aft, none⟩ :: r) A Q :=
 G7 (fun o ho => by simp only [aopV, ho]) (by simp only [opV, rdOs, C3, B7 ha, B7 hb, D3, C9, foldA, max2, List.append_nil, List.nil_append, true_and, and_self, List.append_assoc]) (by simp [slotOk, refOkV, refsOk]) h
def U6 (P : Program) (T : Nat) : Option (Nat × Nat) := match (tyS P T).k with
 | .slice e => if J4 (tyS P e).k = false then some (e, (tyS P e).size) else none
 | _ => none
theorem S3 {C : Caller} {P : Program} {T E s : Nat} (hT : U6 P T = some (E, s)) (Q : Nat → List Mv.Loc → Prop) : wpA C A (elemOf P T) Q = Q E [] ∧ (tyS P E).size = s := by
 unfold U6 at hT
 unfold elemOf
 split at hT
 ·rename_i e he
  split at hT
  ·rename_i hb
   cases hT
   simp only [he, C3, D3, hb, C9, true_and, List.append_nil, and_self]
  ·cases hT
 ·cases hT
theorem P6 {C : Caller} {k : IntKind} {n : Int} (h : 0 ≤ n) (Q : Nat → List Mv.Loc → Prop) : wpA C A (asNat (.val (.int k n))) Q = Q n.toNat [] := by
 simp only [asNat, C3, D3, h, C9, true_and, List.append_nil]
theorem I2 {α : Type} [Inhabited α] {x i : Operand} {T E s : Nat} {f : α → AV} {xs : List α} {k : IntKind} {n : Int} (hx : opd A x = some (.list (xs.map f))) (hi : opd A i = some (.val (.int k n)))
  (hT : U6 cx.P T = some (E, s)) (hs : ∀ a, (leaves (f a)).length = s) (hn : 0 ≤ n ∧ n < xs.length)
  (h : XR cx keep ops0 r ((.t d, .ipt (f (xs.getD n.toNat default)) 0) :: A) fun A' lg => Q A' ((rds x ++ rds i, [.t d]) :: lg)) : XR cx keep ops0 (⟨some d, .indexAddr T x i, ty, pos, aft, none⟩ :: r) A Q := by
 refine G7 (fun o ho => by simp only [aopV, ho]) ?_ (by simp [slotOk, refOkV, refsOk]) h
 have hlt : n.toNat < xs.length := by omega
 have hg : (xs.map f)[n.toNat]? = some (f (xs.getD n.toNat default)) := by
  rw [List.getElem?_map, List.getElem?_eq_getElem hlt, List.getD_eq_getElem?_getD, List.getElem?_eq_getElem hlt]; rfl
 simp only [opV, C3, B7 hx, B7 hi, indexAddrA, P6 hn.1, (S3 hT _).1, hg, D3, C9, hs, List.append_nil, List.nil_append, and_self, and_true]
 exact (S3 (C := fun _ _ => none) (A := A) hT fun _ _ => True).2.symm
theorem b6k {x i : Operand} {T E s id g m off ln : Nat} {es : List AV} {k : IntKind} {n : Int} (hx : opd A x = some (.sl id g none off ln)) (hi : opd A i = some (.val (.int k n))) (ho : look A (.h id) = some (.obj g m s es))
  (hT : U6 cx.P T = some (E, s)) (hn : 0 ≤ n ∧ n < ln) (hl : off + ln ≤ es.length) (hk : slotOk keep (.t d) (.ptr id g none (off + n.toNat) 0) = true)
  (h : XR cx keep ops0 r ((.t d, .ptr id g none (off + n.toNat) 0) :: A) fun A' lg => Q A' ((rds x ++ (rds i ++ [.h id]), [.t d]) :: lg)) : XR cx keep ops0 (⟨some d, .indexAddr T x i, ty, pos, aft, none⟩ :: r) A Q := by
 refine G7 (fun o ho => by simp only [aopV, ho]) ?_ hk h
 have hs := (S3 (C := fun _ _ => none) (A := A) hT fun _ _ => True).2
 have h2 : n.toNat < ln := by omega
 simp only [opV, C3, B7 hx, B7 hi, indexAddrA, P6 hn.1, (S3 hT _).1, rdNode, O6 ho, D3, C9, List.append_nil, List.nil_append, true_and, h2, hl, hs, and_self, List.append_assoc, List.singleton_append]
def partF (P : Program) (T : Nat) (ls : List AV) : Option AV :=
 if V9 (tyS P T).k = true then (if (tyS P T).size ≤ ls.length then some (.agg (ls.take (tyS P T).size)) else none)
 else if (tyS P T).size = 1 ∧ J4 (tyS P T).k = false then ls.head? else none
theorem a8t {C : Caller} {P : Program} {T : Nat} {ls : List AV} {v : AV} (h : partF P T ls = some v) (Q : AV → List Mv.Loc → Prop) : wpA C A (W5 P T ls) Q = Q v [] := by
 unfold partF at h
 unfold W5
 split at h
 ·rename_i ha
  split at h
  ·rename_i hl
   cases h
   simp only [ha, if_true, C3, D3, hl, C9, true_and, List.append_nil]
  ·cases h
 ·rename_i ha
  split at h
  ·rename_i hl
   cases ls with
   | nil => simp at h
   | cons l ls =>
    simp only [List.head?_cons, Option.some.injEq] at h
    subst h
    simp only [ha, C3, D3, hl, C9, true_and, List.append_nil, Bool.false_eq_true, if_false, and_self]
  ·cases h
theorem b6w {a : Operand} {T j : Nat} {e v : AV} (ha : opd A a = some (.ipt e j)) (hp : partF cx.P T ((leaves e).drop j) = some v) (hk : slotOk keep (.t d) v = true)
  (h : XR cx keep ops0 r ((.t d, v) :: A) fun A' lg => Q A' ((rds a, [.t d]) :: lg)) : XR cx keep ops0 (⟨some d, .load T a, ty, pos, aft, none⟩ :: r) A Q :=
 G7 (fun o ho => by simp only [aopV, ho]) (by simp only [opV, C3, B7 ha, loadG, loadA, a8t hp, List.append_nil, and_self]) hk h
theorem b7r {a : Operand} {T id g m s i j : Nat} {es : List AV} {e v : AV} (ha : opd A a = some (.ptr id g none i j)) (ho : look A (.h id) = some (.obj g m s es)) (he : es[i]? = some e)
  (hp : partF cx.P T (viewLeaves id g none i j ((leaves e).drop j)) = some v) (hk : slotOk keep (.t d) v = true)
  (h : XR cx keep ops0 r ((.t d, v) :: A) fun A' lg => Q A' ((rds a ++ [.h id], [.t d]) :: lg)) : XR cx keep ops0 (⟨some d, .load T a, ty, pos, aft, none⟩ :: r) A Q :=
 G7 (fun o ho => by simp only [aopV, ho]) (by simp only [opV, C3, B7 ha, loadG, loadA, rdNode, O6 ho, D3, C9, he, a8t hp, List.append_nil, List.nil_append, true_and, and_self]) hk h
theorem b6b {x : Operand} {S f o ft : Nat} {v v' : AV} (hx : opd A x = some v) (hT : (match (tyS cx.P S).k with | .struct fs => fs[f]? | _ => none) = some (o, ft)) (hs : (tyS cx.P ft).size ≠ 0)
  (hv : (match v with | .ptr id g p i j => some (.ptr id g p i (j + o)) | .ipt e j => some (.ipt e (j + o)) | _ => none) = some v') (hk : slotOk keep (.t d) v' = true)
  (h : XR cx keep ops0 r ((.t d, v') :: A) fun A' lg => Q A' ((rds x, [.t d]) :: lg)) : XR cx keep ops0 (⟨some d, .fieldAddr S x f, ty, pos, aft, none⟩ :: r) A Q := by
 refine G7 (fun o ho => by simp only [aopV, ho]) ?_ hk h
 simp only [opV, C3, B7 hx, fieldAddrA]
 split at hT
 ·rename_i fs hfs
  simp only [hfs, hT, C3, D3]
  refine ⟨hs, ?_⟩
  split at hv
  ·cases hv; simp only [C9, List.append_nil, and_self]
  ·cases hv; simp only [C9, List.append_nil, and_self]
  ·cases hv
 ·cases hT
theorem c0f {x : Operand} {i : Nat} {vs : List AV} {v : AV} (hx : opd A x = some (.tup vs)) (hv : vs[i]? = some v) (hk : slotOk keep (.t d) v = true)
  (h : XR cx keep ops0 r ((.t d, v) :: A) fun A' lg => Q A' ((rds x, [.t d]) :: lg)) : XR cx keep ops0 (⟨some d, .extract x i, ty, pos, aft, none⟩ :: r) A Q :=
 G7 (fun o ho => by simp only [aopV, ho]) (by simp only [opV, C3, B7 hx, hv, C9, List.append_nil, and_self]) hk h
theorem I6 {x : Operand} {v : AV} (hx : opd A x = some v) (hv : (match v with | .ptr .. => true | .ipt .. => true | _ => false) = true) (hk : slotOk keep (.t d) v = true)
  (h : XR cx keep ops0 r ((.t d, v) :: A) fun A' lg => Q A' ((rds x, [.t d]) :: lg)) : XR cx keep ops0 (⟨some d, .nilCheck x, ty, pos, aft, none⟩ :: r) A Q := by
 refine G7 (fun o ho => by simp only [aopV, ho]) ?_ hk h
 simp only [opV, C3, B7 hx]
 cases v <;> first | (cases hv; done) | simp [C9]
theorem b8d {S T : Nat} {x : Operand} {k k0 k' : IntKind} {n : Int} (hS : (tyS cx.P S).k = .int k0) (hT : (tyS cx.P T).k = .int k) (hx : opd A x = some (.val (.int k' n))) (hi : inI k n)
  (h : XR cx keep ops0 r ((.t d, .val (.int k n)) :: A) fun A' lg => Q A' ((rds x, [.t d]) :: lg)) : XR cx keep ops0 (⟨some d, .convert S T x, ty, pos, aft, none⟩ :: r) A Q :=
 G7 (fun o ho => by simp only [aopV, ho]) (by simp only [opV, C3, B7 hx, b9b, hS, hT, D3, C9, List.append_nil, List.nil_append, and_self, and_true]; exact hi) (by simp [slotOk, refOkV, refsOk]) h
theorem b2l {x : Operand} {T E : Nat} {lo hi : Option Operand} {es : List AV} {l m : Nat} {ls1 ls2 : List Mv.Loc} (hx : opd A x = some (.list es)) (hT : (tyS cx.P T).k = .slice E) (hb : J4 (tyS cx.P E).k = false)
  (hz : Z8 (tyS cx.P E).size es = true) (hh : wpA (CW cx) A (optNat hi es.length) fun n ls => n = m ∧ ls = ls1) (hl : wpA (CW cx) A (optNat lo 0) fun n ls => n = l ∧ ls = ls2) (hc : l ≤ m ∧ m ≤ es.length)
  (h : XR cx keep ops0 r ((.t d, .list ((es.drop l).take (m - l))) :: A) fun A' lg => Q A' ((rds x ++ (ls1 ++ ls2), [.t d]) :: lg)) : XR cx keep ops0 (⟨some d, .slice T x lo hi none, ty, pos, aft, none⟩ :: r) A Q := by
 refine G7 (fun o ho => by simp only [aopV, ho]) ?_ (by simp [slotOk, refOkV, refsOk]) h
 simp only [opV, C3, B7 hx, sliceA, hT, optNat, C9, List.nil_append]
 refine T9 ?_ hh
 rintro _ _ ⟨rfl, rfl⟩
 refine T9 ?_ hl
 rintro _ _ ⟨rfl, rfl⟩
 simp only [D3, hb, hz, C9, ne_eq, not_true_eq_false, false_and, if_false, List.append_nil, List.nil_append, and_self, and_true, true_and, true_or, Nat.le_refl, hc]
end
theorem c0i {α : Type} (x : Rd α) : x.over [] = x := by
 induction x with
 | ret a => rfl
 | fail => rfl
 | read l k ih => simp only [Rd.over, Ws.look, ih]
 | need p d k ih => simp only [Rd.over, ih]
 | call f as k ih => simp only [Rd.over, ih]
section
variable {cx : Cx} {keep : List Nat} {ops0 : Array Oper} {r : List Oper} {A : Asr} {Q : Asr → List Log → Prop} {d : Nat} {ty : Nat} {pos : String} {aft : Array Edge}
theorem c8z {o : Oper} (hg : o.guard = none) {v : AV} {ws : Ws} {ls : List Mv.Loc} {A1 : Asr} (h : wpW (CW cx) A (aopV cx o) fun a w l => a = v ∧ w = ws ∧ l = ls)
  (hk : tRefsOk keep (keptWs keep (ws ++ setD o v)) = true) (hA : Wk (puts A (ws ++ setD o v)) A1) (hx : XR cx keep ops0 r A1 fun A' lg => Q A' ((ls, a4r (ws ++ setD o v)) :: lg)) : XR cx keep ops0 (o :: r) A Q := by
 refine a4j ?_
 have : M2 cx ops0 o = aop cx o := by unfold M2; simp only [hg]
 rw [this]
 unfold aop
 refine A4 (F8 h ?_)
 rintro _ _ _ ⟨rfl, rfl, rfl⟩
 refine H1 ?_
 simp only [List.append_nil]
 exact ⟨hk, XR.wk hA hx⟩
theorem a4g {o : Oper} (hg : o.guard = none) {v : Nat → AV} {ws : Nat → Ws} {ls : List Mv.Loc} {lw : List Mv.Loc} {A1 : Nat → Asr} (h : wpW (CW cx) A (aopV cx o) fun a w l => ∃ g, a = v g ∧ w = ws g ∧ l = ls)
  (hk : ∀ g, tRefsOk keep (keptWs keep (ws g ++ setD o (v g))) = true) (hw : ∀ g, a4r (ws g ++ setD o (v g)) = lw) (hA : ∀ g, Wk (puts A (ws g ++ setD o (v g))) (A1 g))
  (hx : ∀ g, XR cx keep ops0 r (A1 g) fun A' lg => Q A' ((ls, lw) :: lg)) : XR cx keep ops0 (o :: r) A Q := by
 refine a4j ?_
 have : M2 cx ops0 o = aop cx o := by unfold M2; simp only [hg]
 rw [this]
 unfold aop
 refine A4 (F8 h ?_)
 rintro _ _ _ ⟨g, rfl, rfl, rfl⟩
 refine H1 ?_
 simp only [List.append_nil]
 refine ⟨hk g, XR.wk (hA g) ?_⟩
 rw [hw g]
 exact hx g
theorem K2 {C : Caller} {x : Operand} {v : AV} (h : opd A x = some v) {R : AV → Ws → List Mv.Loc → Prop} (hr : R v [] (rds x)) : wpW C A (up (rdO x)) R :=
 F5 (by rw [B7 h]; exact hr)
theorem D9 {C : Caller} {p : Prop} [Decidable p] (h : p) {R : Unit → Ws → List Mv.Loc → Prop} (hr : R () [] []) : wpW C A (up (need p)) R :=
 F5 (by rw [D3]; exact ⟨h, hr⟩)
theorem J2 {C : Caller} {id g m s : Nat} {es : List AV} (ho : look A (.h id) = some (.obj g m s es)) {R : Nat × Nat × List AV → Ws → List Mv.Loc → Prop} (hr : R (m, s, es) [] [.h id]) : wpW C A (up (rdNode id g none)) R :=
 F5 (by simp only [rdNode, O6 ho, C3, D3, C9, true_and, List.append_nil]; exact hr)
theorem a0x {C : Caller} {P : Program} {T E s : Nat} (hT : U6 P T = some (E, s)) {R : Nat → Ws → List Mv.Loc → Prop} (hr : R E [] []) : wpW C A (up (elemOf P T)) R :=
 F5 (by rw [(S3 hT _).1]; exact hr)
theorem K6 {C : Caller} {l : Mv.Loc} {R : AV → Ws → List Mv.Loc → Prop} (hr : ∀ v, R v [] [l]) : wpW C A (up (rd l)) R := by
 refine F5 ?_
 unfold rd
 simp only [wpA]
 cases look A l with
 | some v => exact hr v
 | none => exact hr
theorem b6s {P : Program} {T E s : Nat} (hT : U6 P T = some (E, s)) : (tyS P E).size = s :=
 (S3 (C := fun _ _ => none) (A := []) hT fun _ _ => True).2
def Y8 : AV → Bool
 | .nil => false
 | .sl _ _ none 0 _ => false
 | .ptr _ _ none _ _ => false
 | _ => true
theorem b4v {P : Program} {T X : Nat} {v : AV} (h : Y8 v = true) : X2 P T X v = pure v := by
 unfold X2
 split
 ·simp [Y8] at h
 ·simp [Y8] at h
 ·simp [Y8] at h
 ·rfl
theorem a4h (A : Asr) (l k : Mv.Loc) (a b : AV) : Wk (put (put A l a) k b) ((k, b) :: (l, a) :: A) := by
 intro m c h
 rw [J5, J5]
 simp only [look] at h
 cases h1 : Loc.beq m k <;> cases h2 : Loc.beq m l <;> simp_all
theorem b2u (A : Asr) (l : Mv.Loc) (a : AV) : Wk (put A l a) ((l, a) :: A) := by
 intro m c h
 rw [← a4e]; exact h
theorem b2k (A : Asr) (l k n : Mv.Loc) (a b e : AV) : Wk (put (put (put A l a) k b) n e) ((n, e) :: (k, b) :: (l, a) :: A) := by
 intro m c h
 rw [J5, J5, J5]
 simp only [look] at h
 cases h1 : Loc.beq m n <;> cases h2 : Loc.beq m k <;> cases h3 : Loc.beq m l <;> simp_all
theorem c4z (A : Asr) (l k n q : Mv.Loc) (a b e f : AV) : Wk (put (put (put (put A l a) k b) n e) q f) ((q, f) :: (n, e) :: (k, b) :: (l, a) :: A) := by
 intro m c h
 rw [J5, J5, J5, J5]
 simp only [look] at h
 cases h1 : Loc.beq m n <;> cases h2 : Loc.beq m k <;> cases h3 : Loc.beq m l <;> cases h4 : Loc.beq m q <;> simp_all
theorem c2v {x : Operand} {v : AV} (hx : opd A x = some v) (hp : Y8 v = true) (hk : slotOk keep (.t d) v = true) (h : XR cx keep ops0 r ((.t d, v) :: A) fun A' lg => Q A' ((rds x, [.t d]) :: lg)) :
  XR cx keep ops0 (⟨some d, .assign x, ty, pos, aft, none⟩ :: r) A Q := by
 refine c8z (v := v) (ws := []) (ls := rds x) rfl ?_ (H7 hk) (b2u _ _ _) h
 simp only [aopV]
 refine A4 (K2 hx ?_)
 simp only [b4v hp]
 exact A7 (by simp)
theorem G0 {x : Operand} {E s : Nat} (hx : opd A x = some .nil) (hT : U6 cx.P ty = some (E, s)) (hk : ∀ g, slotOk keep (.t d) (.sl d g none 0 0) = true)
  (h : ∀ g, XR cx keep ops0 r ((.t d, .sl d g none 0 0) :: (.h d, .obj g 0 s []) :: A) fun A' lg => Q A' ((rds x ++ [.h d], [.h d, .t d]) :: lg)) :
  XR cx keep ops0 (⟨some d, .assign x, ty, pos, aft, none⟩ :: r) A Q := by
 refine a4g (v := fun g => .sl d g none 0 0) (ws := fun g => [(.h d, .obj g 0 s [])]) (ls := rds x ++ [.h d]) rfl ?_ (fun g => F4 (by simp [slotOk, refOkV, D8]) (H7 (hk g))) (fun g => rfl) (fun g => a4h _ _ _ _ _) h
 have hs := b6s hT
 simp only [aopV]
 refine A4 (K2 hx ?_)
 simp only [X2]
 refine A4 (a0x hT (A4 (K6 fun o => ?_)))
 refine A4 (H1 (A7 ?_))
 exact ⟨_, rfl, by simp [hs], by simp⟩
theorem b2f {x : Operand} {id g s n : Nat} {es : List AV} (hx : opd A x = some (.sl id g none 0 n)) (ho : look A (.h id) = some (.obj g 0 s es)) (hn : n = es.length) (hne : Loc.beq (.h d) (.h id) = false)
  (hko : ∀ g, slotOk keep (.h d) (.obj g 0 s es) = true) (hk : ∀ g, slotOk keep (.t d) (.sl d g none 0 n) = true)
  (h : ∀ g', XR cx keep ops0 r ((.t d, .sl d g' none 0 n) :: (.h d, .obj g' 0 s es) :: (.h id, .dead g) :: A) fun A' lg => Q A' ((rds x ++ [.h id, .h d], [.h id, .h d, .t d]) :: lg)) :
  XR cx keep ops0 (⟨some d, .assign x, ty, pos, aft, none⟩ :: r) A Q := by
 have hid : ¬ id = d := fun e => by rw [e] at hne; simp [Loc.beq] at hne
 refine a4g (v := fun g => .sl d g none 0 n) (ws := fun g' => [(.h id, .dead g), (.h d, .obj g' 0 s es)]) (ls := rds x ++ [.h id, .h d]) rfl ?_
  (fun g => F4 (by simp [slotOk, refOkV]) (F4 (hko g) (H7 (hk g)))) (fun g => rfl) (fun g => b2k _ _ _ _ _ _ _) h
 subst hn
 simp only [aopV]
 refine A4 (K2 hx ?_)
 simp only [X2]
 refine A4 (J2 ho ?_)
 simp only [if_true]
 refine A4 (D9 (Nat.le_refl _) ?_)
 simp only [hid, if_false]
 refine A4 (H1 (A4 (K6 fun o => A4 (H1 (A7 ?_)))))
 exact ⟨_, rfl, by simp, by simp⟩
theorem a0g {x : Operand} {id g s i j : Nat} {es : List AV} (hx : opd A x = some (.ptr id g none i j)) (ho : look A (.h id) = some (.obj g 3 s es)) (hi : H9 es = true) (hne : Loc.beq (.h d) (.h id) = false)
  (hko : ∀ g, slotOk keep (.h d) (.obj g 3 s es) = true) (hk : ∀ g, slotOk keep (.t d) (.ptr d g none i j) = true)
  (h : ∀ g', XR cx keep ops0 r ((.t d, .ptr d g' none i j) :: (.h d, .obj g' 3 s es) :: (.h id, .dead g) :: A) fun A' lg => Q A' ((rds x ++ [.h id, .h d], [.h id, .h d, .t d]) :: lg)) :
  XR cx keep ops0 (⟨some d, .assign x, ty, pos, aft, none⟩ :: r) A Q := by
 have hid : id ≠ d := fun e => by rw [e] at hne; simp [Loc.beq] at hne
 refine a4g (v := fun g => .ptr d g none i j) (ws := fun g' => [(.h id, .dead g), (.h d, .obj g' 3 s es)]) (ls := rds x ++ [.h id, .h d]) rfl ?_
  (fun g => F4 (by simp [slotOk, refOkV]) (F4 (hko g) (H7 (hk g)))) (fun g => rfl) (fun g => b2k _ _ _ _ _ _ _) h
 simp only [aopV]
 refine A4 (K2 hx ?_)
 simp only [X2]
 refine A4 (J2 ho ?_)
 simp only [hid, hi, ne_eq, not_false_eq_true, and_self, if_true]
 refine A4 (H1 (A4 (K6 fun o => A4 (H1 (A7 ?_)))))
 exact ⟨_, rfl, by simp, by simp⟩
def b9h (l : Mv.Loc) : List Log → List Log
 | (r, w) :: lg => (l :: r, w) :: lg
 | [] => []
theorem a5z {o : Oper} {g : Nat} {want : Bool} {dg : Nat} (hg : o.guard = some (g, want)) (hd : (ops0[g]?).bind (·.dst) = some dg) :
  M2 cx ops0 o = (do
   let v ← up (rd (.t dg))
   match v with
   | .val (.bool b) => if b = want then aop cx o else wr (setD o (.val Go.undef))
   | .val (.tuple _) => wr (setD o (.val Go.undef))
   | _ => RW.fail) := by
 unfold M2
 simp only [hg, hd]
 rfl
theorem S0 {op : Op} {dst : Option Nat} {g dg : Nat} {want b : Bool} (hd : (ops0[g]?).bind (·.dst) = some dg) (hb : look A (.t dg) = some (.val (.bool b))) (hw : b = want)
  (h : XR cx keep ops0 (⟨dst, op, ty, pos, aft, none⟩ :: r) A fun A' lg => Q A' (b9h (.t dg) lg)) : XR cx keep ops0 (⟨dst, op, ty, pos, aft, some (g, want)⟩ :: r) A Q := by
 intro st hs
 obtain ⟨ws, lg, lg', h1, hl, h2, h3⟩ := h st hs
 have hst := hs _ _ hb
 simp only [J7] at h1 ⊢
 cases ho : Rd.run (α := Unit × Ws) (CW cx) st (M2 cx ops0 ⟨dst, op, ty, pos, aft, none⟩) with
 | none => simp [ho] at h1
 | some z =>
  obtain ⟨⟨⟨⟩, ws1⟩, rs⟩ := z
  have haop : aop cx ⟨dst, op, ty, pos, aft, some (g, want)⟩ = aop cx ⟨dst, op, ty, pos, aft, none⟩ := by
   unfold aop aopV
   cases op <;> rfl
  have hrun : Rd.run (α := Unit × Ws) (CW cx) st (M2 cx ops0 ⟨dst, op, ty, pos, aft, some (g, want)⟩) = some (((), ws1), Mv.Loc.t dg :: rs) := by
   rw [a5z rfl hd]
   have ho' : Rd.run (α := Unit × Ws) (CW cx) st (aop cx ⟨dst, op, ty, pos, aft, none⟩) = some (((), ws1), rs) := ho
   refine a2j (α := AV × Ws) (β := Unit × Ws) (up (rd (.t dg))) _ (a := (.val (.bool b), [])) (ls := [.t dg]) (ms := rs) ?_ ?_
   ·refine c2u (rd (.t dg)) ?_
    simp only [rd, Rd.run, hst]
   ·simp only [hw, if_true, haop]
    have e := c0i (α := Unit × Ws) (aop cx ⟨dst, op, ty, pos, aft, none⟩)
    have ho2 : Rd.run (α := Unit × Ws) (CW cx) st (Rd.over (α := Unit × Ws) [] (aop cx ⟨dst, op, ty, pos, aft, none⟩)) = some (((), ws1), rs) :=
     (congrArg (fun y => Rd.run (α := Unit × Ws) (CW cx) st y) e).trans ho'
    have := a2j (α := Unit × Ws) (β := Unit × Ws) _ (fun b => .ret (b.1, [] ++ b.2)) ho2 (b := ((), ws1)) (ms := []) rfl
    simpa using this
  rw [hrun]
  simp only [ho] at h1 ⊢
  cases h5 : J7 (CW cx) cx ops0 r (st.upds ws1) with
  | none => simp [h5] at h1
  | some z2 =>
   obtain ⟨ws2, lg2⟩ := z2
   simp only [h5, Option.some.injEq, Prod.mk.injEq] at h1 ⊢
   obtain ⟨rfl, rfl⟩ := h1
   cases lg' with
   | nil => exact hl.elim
   | cons a lg' =>
    obtain ⟨q1, q2, q3⟩ := hl
    refine ⟨_, _, b9h (.t dg) (a :: lg'), ⟨rfl, rfl⟩, ⟨fun l hl => ?_, q2, q3⟩, h2, h3⟩
    cases hl with
    | head => exact List.mem_cons_self ..
    | tail _ hl => exact List.mem_cons_of_mem _ (q1 l hl)
theorem A8 {op : Op} {g dg : Nat} {want b : Bool} (hd : (ops0[g]?).bind (·.dst) = some dg) (hb : look A (.t dg) = some (.val (.bool b))) (hw : b = !want)
  (h : XR cx keep ops0 r ((.t d, .val (.tuple #[])) :: A) fun A' lg => Q A' (([.t dg], [.t d]) :: lg)) : XR cx keep ops0 (⟨some d, op, ty, pos, aft, some (g, want)⟩ :: r) A Q := by
 refine a4j ?_
 rw [a5z rfl hd]
 refine A4 (F5 ?_)
 rw [b7u hb]
 have : ¬ b = want := by subst hw; cases want <;> decide
 simp only [this, if_false]
 exact H1 ⟨H7 (by simp [slotOk, refOkV, refsOk, Go.undef]), XR.wk (b2u _ _ _) h⟩
theorem B2 {op : Op} {g dg : Nat} {want b : Bool} (hd : (ops0[g]?).bind (·.dst) = some dg) (hb : look A (.t dg) = some (.val (.bool b)))
  (h1 : b = want → XR cx keep ops0 (⟨some d, op, ty, pos, aft, none⟩ :: r) A fun A' lg => Q A' (b9h (.t dg) lg))
  (h2 : b = !want → XR cx keep ops0 r ((.t d, .val (.tuple #[])) :: A) fun A' lg => Q A' (([.t dg], [.t d]) :: lg)) : XR cx keep ops0 (⟨some d, op, ty, pos, aft, some (g, want)⟩ :: r) A Q := by
 by_cases h : b = want
 ·exact S0 hd hb h (h1 h)
 ·have : b = !want := by cases b <;> cases want <;> simp_all
  exact A8 hd hb this (h2 this)
theorem C7 {c a b : Operand} {t : Bool} {va : AV} (hc : opd A c = some (.val (.bool t))) (ht : t = true) (ha : opd A a = some va) (hk : slotOk keep (.t d) va = true)
  (h : XR cx keep ops0 r ((.t d, va) :: A) fun A' lg => Q A' ((rds c ++ rds a, [.t d]) :: lg)) : XR cx keep ops0 (⟨some d, .pick c a b, ty, pos, aft, none⟩ :: r) A Q :=
 G7 (fun o ho => by simp only [aopV, ho]) (by subst ht; simp [opV, C3, B7 hc, B7 ha]) hk h
theorem B5 {c a b : Operand} {t : Bool} {vb : AV} (hc : opd A c = some (.val (.bool t))) (ht : t = false) (hb : opd A b = some vb) (hk : slotOk keep (.t d) vb = true)
  (h : XR cx keep ops0 r ((.t d, vb) :: A) fun A' lg => Q A' ((rds c ++ rds b, [.t d]) :: lg)) : XR cx keep ops0 (⟨some d, .pick c a b, ty, pos, aft, none⟩ :: r) A Q :=
 G7 (fun o ho => by simp only [aopV, ho]) (by subst ht; simp [opV, C3, B7 hc, B7 hb]) hk h
theorem E7 {g s : Nat} {es : List AV} (h : D8 es = true) : slotOk keep (.h d) (.obj g 0 s es) = true := by simp [slotOk, refOkV, h]
theorem L4 {g s : Nat} {es : List AV} (h : H9 es = true) : slotOk keep (.h d) (.obj g 3 s es) = true := by simp [slotOk, refOkV, a2e h]
theorem a4t {g s : Nat} {es : List AV} (h : H9 es = true) : slotOk keep (.h d) (.obj g 4 s es) = true := by simp [slotOk, refOkV, a2e h]
end
theorem B8 {α : Type} {f : α → AV} {xs : List α} (h : ∀ a, K1 (f a) = true) : D8 (xs.map f) = true := by
 unfold D8
 rw [List.all_map, List.all_eq_true]
 exact fun a _ => h a
theorem a1z {α : Type} {f : α → AV} {xs : List α} (h : ∀ a, I1 (f a) = true) : H9 (xs.map f) = true := by
 unfold H9
 rw [List.all_map, List.all_eq_true]
 exact fun a _ => h a
theorem b3q {α : Type} {f : α → AV} {xs : List α} (h : ∀ a, I1 (f a) = true) : frzL (xs.map f) = xs.map f := T2 (a1z h)
def XA (cx : Cx) (keep : List Nat) (c : Code) (A : Asr) (Q : AExit → Asr → Prop) : Prop :=
 ∀ st, Sat st A → ∃ n r st', aexec (CW cx) cx keep n c st = some (r, st') ∧ ∃ A', Sat st' A' ∧ Q r A'
def HasL (A : Asr) : Asr → Prop
 | [] => True
 | (l, a) :: r => look A l = some a ∧ HasL A r
def KeepL (keep : List Nat) (A : Asr) : Asr → Prop
 | [] => True
 | (l, a) :: r => keepLoc keep l = true ∧ look A l = some a ∧ KeepL keep A r
theorem a8z {l : Mv.Loc} {a : AV} : ∀ {B : Asr}, look B l = some a → (l, a) ∈ B := by
 intro B
 induction B with
 | nil => intro h; cases h
 | cons x B ih =>
  intro h
  obtain ⟨k, b⟩ := x
  simp only [look] at h
  cases hb : Loc.beq l k with
  | true =>
   simp only [hb, Option.some.injEq] at h
   have := (Loc.beq_iff _ _).1 hb
   subst this h
   exact List.mem_cons_self ..
  | false =>
   simp only [hb] at h
   exact List.mem_cons_of_mem _ (ih h)
theorem HasL.mem {A : Asr} : ∀ {B : Asr}, HasL A B → ∀ {l a}, (l, a) ∈ B → look A l = some a := by
 intro B
 induction B with
 | nil => intro _ l a h; cases h
 | cons x B ih =>
  intro h l a hm
  cases hm with
  | head => exact h.1
  | tail _ hm => exact ih h.2 hm
theorem KeepL.mem {keep : List Nat} {A : Asr} : ∀ {B : Asr}, KeepL keep A B → ∀ {l a}, (l, a) ∈ B → keepLoc keep l = true ∧ look A l = some a := by
 intro B
 induction B with
 | nil => intro _ l a h; cases h
 | cons x B ih =>
  intro h l a hm
  cases hm with
  | head => exact ⟨h.1, h.2.1⟩
  | tail _ hm => exact ih h.2.2 hm
theorem HasL.sat {A B : Asr} {st : St} (h : HasL A B) (hs : Sat st A) : Sat st B := fun l a hl => hs l a (h.mem (a8z hl))
section
variable {cx : Cx} {keep : List Nat} {A : Asr} {Q : AExit → Asr → Prop}
theorem XA.wk {c : Code} {B : Asr} (h : HasL A B) (hx : XA cx keep c B Q) : XA cx keep c A Q := fun st hs => hx st (h.sat hs)
theorem XA.mono {c : Code} {Q' : AExit → Asr → Prop} (h : XA cx keep c A Q) (hq : ∀ r A, Q r A → Q' r A) : XA cx keep c A Q' := by
 intro st hs
 obtain ⟨n, r, st', h1, A', h2, h3⟩ := h st hs
 exact ⟨n, r, st', h1, A', h2, hq r A' h3⟩
theorem C0 (h : Q .normal A) : XA cx keep .skip A Q := fun st hs => ⟨1, .normal, st, rfl, A, hs, h⟩
theorem G6 {i : Nat} (h : Q (.exit i) A) : XA cx keep (.exit i) A Q := fun st hs => ⟨1, .exit i, st, rfl, A, hs, h⟩
theorem B6 (h : Q .ret A) : XA cx keep .ret A Q := fun st hs => ⟨1, .ret, st, rfl, A, hs, h⟩
theorem A0 {id : Nat} {ops : Array Oper} {draw : Bool}
  (h : XR cx keep ops ops.toList A fun A' lg => (draw = true → O4 ops.toList lg [] = true ∧ a1y ops = true) ∧ ∃ B, KeepL keep A' B ∧ Q .normal B) : XA cx keep (.region id ops draw) A Q := by
 intro st hs
 obtain ⟨ws, lg, lg', h1, h2, h3, A', h4, h5, B, h6, h7⟩ := h st hs
 refine ⟨1, .normal, st.upds (keptWs keep ws), ?_, B, fun l a hl => ?_, h7⟩
 ·simp only [aexec, N6, h1]
  have : (draw = true → O4 ops.toList lg [] = true ∧ a1y ops = true) ∧ tRefsOk keep (keptWs keep ws) = true :=
   ⟨fun hd => ⟨a9a _ _ _ _ _ h2 rfl (fun i x x' hx => by simp at hx) (h5 hd).1, (h5 hd).2⟩, h3⟩
  rw [if_pos this]
 ·obtain ⟨k1, k2⟩ := h6.mem (a8z hl)
  rw [b0u k1]
  exact h4 l a k2
theorem Y9 (cx : Cx) {keep : List Nat} {n m : Nat} {c : Code} {st : St} {r : AExit × St} (h : aexec (CW cx) cx keep n c st = some r) (hm : n ≤ m) : aexec (CW cx) cx keep m c st = some r :=
 L0 (fun _ _ _ h => h) n m c st hm h
theorem A3 {a b : Code} (h : XA cx keep a A fun r A' => match r with
  | .normal => XA cx keep b A' Q
  | r => Q r A') : XA cx keep (.seq a b) A Q := by
 intro st hs
 obtain ⟨n, r, st1, h1, A', h2, h3⟩ := h st hs
 cases r with
 | normal =>
  obtain ⟨m, r2, st2, k1, A2, k2, k3⟩ := h3 st1 h2
  refine ⟨max n m + 1, r2, st2, ?_, A2, k2, k3⟩
  simp only [aexec, Y9 cx h1 (Nat.le_max_left n m), Y9 cx k1 (Nat.le_max_right n m)]
 | exit i => exact ⟨n + 1, _, st1, by simp only [aexec, h1], A', h2, h3⟩
 | ret => exact ⟨n + 1, _, st1, by simp only [aexec, h1], A', h2, h3⟩
theorem A9 {c : Operand} {a b : Code} {t : Bool} (hc : opd A c = some (.val (.bool t))) (h1 : t = true → XA cx keep a A Q) (h2 : t = false → XA cx keep b A Q) : XA cx keep (.cond c a b) A Q := by
 intro st hs
 have hv : opA st c = .val (.bool t) := by
  cases c with
  | tmp x => exact hs _ _ hc
  | const v => simpa [opd, opA] using hc
  | func f => simp [opd] at hc
  | global g => simp [opd] at hc
 cases t with
 | true =>
  obtain ⟨n, r, st', k1, k2⟩ := h1 rfl st hs
  exact ⟨n + 1, r, st', by simp only [aexec, hv, k1], k2⟩
 | false =>
  obtain ⟨n, r, st', k1, k2⟩ := h2 rfl st hs
  exact ⟨n + 1, r, st', by simp only [aexec, hv, k1], k2⟩
theorem C5 {id : Nat} {b : Code} (h : XA cx keep b A fun r A' => match r with
  | .exit i => if i = id then Q .normal A' else Q (.exit i) A'
  | r => Q r A') : XA cx keep (.block id b) A Q := by
 intro st hs
 obtain ⟨n, r, st1, h1, A', h2, h3⟩ := h st hs
 cases r with
 | normal => exact ⟨n + 1, _, st1, by simp only [aexec, h1], A', h2, h3⟩
 | ret => exact ⟨n + 1, _, st1, by simp only [aexec, h1], A', h2, h3⟩
 | exit i =>
  by_cases hi : i = id
  ·simp only [hi, if_true] at h3
   exact ⟨n + 1, .normal, st1, by simp only [aexec, h1, hi, if_true], A', h2, h3⟩
  ·simp only [hi, if_false] at h3
   exact ⟨n + 1, .exit i, st1, by simp only [aexec, h1, hi, if_false], A', h2, h3⟩
theorem c5h {β : Type} {body : Code} (I : β → Asr) (P : β → Prop) (m : β → Nat) (b0 : β) (hA : HasL A (I b0)) (h0 : P b0)
  (hs : ∀ b, P b → XA cx keep body (I b) fun r A' => match r with
   | .normal => ∃ b', P b' ∧ m b' < m b ∧ HasL A' (I b')
   | r => Q r A') : XA cx keep (.loop body) A Q := by
 have key : ∀ n b, m b = n → P b → XA cx keep (.loop body) (I b) Q := by
  intro n
  induction n using Nat.strongRecOn with
  | _ n ih =>
   intro b hb hP st hst
   obtain ⟨k, r, st1, h1, A', h2, h3⟩ := hs b hP st hst
   cases r with
   | normal =>
    obtain ⟨b', hP', hlt, hL⟩ := h3
    obtain ⟨k2, r2, st2, g1, A2, g2, g3⟩ := ih (m b') (hb ▸ hlt) b' rfl hP' st1 (hL.sat h2)
    refine ⟨max k k2 + 1, r2, st2, ?_, A2, g2, g3⟩
    simp only [aexec, Y9 cx h1 (Nat.le_max_left k k2), Y9 cx g1 (Nat.le_max_right k k2)]
   | exit i => exact ⟨k + 1, _, st1, by simp only [aexec, h1], A', h2, h3⟩
   | ret => exact ⟨k + 1, _, st1, by simp only [aexec, h1], A', h2, h3⟩
 exact XA.wk hA (key _ b0 rfl h0)
end
def a7y (md : Nat → Nat) : Nat → List AV → Asr
 | _, [] => []
 | i, a :: r => (match a with
  | .own s es => [(.t i, .sl i 1 none 0 es.length), (.h i, .obj 1 (if md i = 2 then 0 else 1) s es)]
  | .ownp es x y => [(.t i, .ptr i 1 none x y), (.h i, .obj 1 4 0 es)]
  | .clo f caps => [(.t i, .clo f (initCaps i 0 caps))]
  | a => [(.t i, a)]) ++ a7y md (i + 1) r
theorem c0r {md : Nat → Nat} {l : Mv.Loc} {v : AV} : ∀ (as : List AV) (k : Nat), (l, v) ∈ a7y md k as → ∃ (j : Nat) (a : AV), as[j]? = some a ∧
  (match a with
  | .own s es => (l = .t (k + j) ∧ v = .sl (k + j) 1 none 0 es.length) ∨ (l = .h (k + j) ∧ v = .obj 1 (if md (k + j) = 2 then 0 else 1) s es)
  | .ownp es x y => (l = .t (k + j) ∧ v = .ptr (k + j) 1 none x y) ∨ (l = .h (k + j) ∧ v = .obj 1 4 0 es)
  | .clo f caps => l = .t (k + j) ∧ v = .clo f (initCaps (k + j) 0 caps)
  | a => l = .t (k + j) ∧ v = a) := by
 intro as
 induction as with
 | nil => intro k h; cases h
 | cons x as ih =>
  intro k h
  simp only [a7y] at h
  rcases List.mem_append.1 h with h | h
  ·refine ⟨0, x, rfl, ?_⟩
   cases x <;> simp only [List.mem_cons, List.mem_singleton, Prod.mk.injEq, List.not_mem_nil, or_false] at h ⊢ <;> exact h
  ·obtain ⟨j, a, h1, h2⟩ := ih (k + 1) h
   refine ⟨j + 1, a, h1, ?_⟩
   rw [show k + (j + 1) = k + 1 + j from by omega]
   exact h2
theorem a8o {md : Nat → Nat} {as : List AV} (hlen : as.length ≤ 1000) : Sat (initLoc md as) (a7y md 0 as) := by
 intro l v hl
 obtain ⟨j, a, h1, h2⟩ := c0r as 0 (a8z hl)
 have hj : j < as.length := (List.getElem?_eq_some_iff.1 h1).1
 simp only [Nat.zero_add] at h2
 cases a with
 | own s es =>
  rcases h2 with ⟨rfl, rfl⟩ | ⟨rfl, rfl⟩
  ·simp only [initLoc, h1]
  ·exact a3m h1 (by omega)
 | ownp es x y =>
  rcases h2 with ⟨rfl, rfl⟩ | ⟨rfl, rfl⟩
  ·simp only [initLoc, h1]
  ·exact a4p h1 (by omega)
 | _ => obtain ⟨rfl, rfl⟩ := h2; simp only [initLoc, h1]
def RetA (cx : Cx) (b : Bool) (rs : List ResultVar) (cids : List Cid) (A : Asr) (res : AV) (outs : List (List AV)) : Prop :=
 ∀ st, Sat st A → ∃ us ws ls, Rd.run (α := List AV × Ws) (CW cx) st (retAll cx.P b rs) = some ((us, ws), ls) ∧ outsOf (st.upds ws) cids = some outs ∧ L8 us = res
def FnQ (cx : Cx) (b : Bool) (rs : List ResultVar) (cids : List Cid) (res : AV) (outs : List (List AV)) : AExit → Asr → Prop := fun r A =>
 match r with
 | .exit _ => False
 | _ => RetA cx b rs cids A res outs
theorem F0 {cx : Cx} {f : Nat} {fn : Func} {c : Code} {as : List AV} {res : AV} {outs : List (List AV)} {keep : List Nat} (hx : cx.ext f = none) (hf : cx.P.funcs[f]? = some fn) (hb : fn.body = some c)
  (hc : H2 fn.ntmps c = true ∧ as.length = fn.params.size + fn.nfree ∧ as.length ≤ fn.ntmps ∧ as.length ≤ 1000 ∧ (fn.name == "runtime.NumGoroutine") = false) (hk : E5 fn = keep)
  (h : XA cx keep c (a7y (cx.md f) 0 as) (FnQ cx (cx.fz f) fn.results.toList (cidAll (cx.md f) 0 as) res outs)) : CW cx f as = some (res, outs) := by
 subst hk
 obtain ⟨n, r, st', h1, A', h2, h3⟩ := h _ (a8o hc.2.2.2.1)
 refine a3y cx (n := n) ?_
 unfold U3
 simp only [hx, hf, hb]
 rw [if_pos hc, h1]
 cases r with
 | exit i => exact h3.elim
 | normal =>
  obtain ⟨us, ws, ls, k1, k2, rfl⟩ := h3 _ h2
  simp only [k1, k2]
 | ret =>
  obtain ⟨us, ws, ls, k1, k2, rfl⟩ := h3 _ h2
  simp only [k1, k2]
def U7 (A : Asr) : List Cid → List (List AV) → Prop
 | [], [] => True
 | (cid, m, s) :: r, o :: os => look A (.h cid) = some (.obj 1 m s o) ∧ H9 o = true ∧ U7 A r os
 | _, _ => False
theorem U7.run {A : Asr} {st : St} (hs : Sat st A) : ∀ (cids : List Cid) (outs : List (List AV)), U7 A cids outs → outsOf st cids = some outs := by
 intro cids
 induction cids with
 | nil =>
  intro outs h
  cases outs with
  | nil => rfl
  | cons => exact h.elim
 | cons c cids ih =>
  intro outs h
  obtain ⟨cid, m, s⟩ := c
  cases outs with
  | nil => exact h.elim
  | cons o os =>
   obtain ⟨h1, h2, h3⟩ := h
   simp only [outsOf, hs _ _ h1, h2, and_self, if_true, ih os h3, Option.map_some]
theorem a8c {cx : Cx} {b : Bool} {A : Asr} {rs : List ResultVar} {cids : List Cid} {res : AV} {outs : List (List AV)}
  (h : wpW (CW cx) A (retAll cx.P b rs) fun us ws _ => L8 us = res ∧ U7 (puts A ws) cids outs) : RetA cx b rs cids A res outs := by
 intro st hs
 obtain ⟨us, ws, ls, _, h1, _, h2, h3⟩ := h st hs
 exact ⟨us, ws, ls, h1, h3.run (hs.puts ws) cids outs, h2⟩
section
variable {C : Caller} {A : Asr}
theorem a1c {v : AV} (hv : immLeaf v = true) {R : AV → Ws → List Mv.Loc → Prop} (hr : R v [] []) : wpW C A (S6 v) R := by
 cases v with
 | clo f caps =>
  refine A4 (D9 hv (A7 ?_))
  simpa using hr
 | _ => first | exact A7 hr | simp [immLeaf] at hv
theorem b6u {id g s n : Nat} {es : List AV} (ho : look A (.h id) = some (.obj g 0 s es)) (hn : n = es.length) (hi : D8 es = true) {R : AV → Ws → List Mv.Loc → Prop} (hr : R (.own s es) [(.h id, .dead g)] [.h id]) :
  wpW C A (S6 (.sl id g none 0 n)) R := by
 subst hn
 unfold S6
 refine A4 (J2 ho ?_)
 simp only [and_self, if_true]
 refine A4 (D9 ⟨Nat.le_refl _, hi⟩ (A4 (H1 (A7 ?_))))
 simpa using hr
theorem b2a {v : AV} (hv : (immLeaf v && !F7 v) = true) {R : AV → Ws → List Mv.Loc → Prop} (hr : R v [] []) : wpW C A (Y0 v) R := by
 simp only [Bool.and_eq_true, Bool.not_eq_true'] at hv
 have e : Y0 v = S6 v := by
  unfold Y0
  split
  ·simp [immLeaf] at hv
  ·simp [F7] at hv
  ·rfl
 rw [e]
 exact a1c hv.1 hr
theorem c1s {b : Bool} {v : AV} (hv : (immLeaf v && !F7 v) = true) {R : AV → Ws → List Mv.Loc → Prop} (hr : R v [] []) : wpW C A (retLf b v) R := by
 unfold retLf
 split
 ·exact b2a hv hr
 ·rw [Bool.and_eq_true] at hv
  exact a1c hv.1 hr
theorem a9v {b : Bool} {R : List AV → Ws → List Mv.Loc → Prop} : ∀ (fs : List AV), (fs.all fun l => immLeaf l && !F7 l) = true → R fs [] [] → wpW C A (retLeaves b fs) R := by
 intro fs
 induction fs generalizing R with
 | nil => exact fun _ hr => A7 hr
 | cons v fs ih =>
  intro h hr
  rw [List.all_cons, Bool.and_eq_true] at h
  exact A4 (c1s h.1 (A4 (ih h.2 (A7 (by simpa using hr)))))
theorem c0u {b : Bool} {v : AV} (h1 : ∀ fs, v ≠ .agg fs) (h2 : ∀ id g i j, v ≠ .ptr id g none i j) : ret1 b v = S6 v := by
 unfold ret1
 split
 ·exact (h1 _ rfl).elim
 ·exact (h2 _ _ _ _ rfl).elim
 ·rfl
theorem b7i {v : AV} (h1 : ∀ fs, v ≠ .agg fs) (h : I1 v = true) : immLeaf v = true := by
 unfold I1 at h
 split at h
 ·exact (h1 _ rfl).elim
 ·exact h
theorem c1n {v : AV} (h1 : ∀ fs, v ≠ .agg fs) (h : c0m v = true) : immLeaf v = true := by
 unfold c0m at h
 split at h
 ·exact (h1 _ rfl).elim
 ·exact h
theorem b4l {b : Bool} {v : AV} (hv : c0m v = true) {R : AV → Ws → List Mv.Loc → Prop} (hr : R v [] []) : wpW C A (ret1 b v) R := by
 by_cases h : ∃ fs, v = .agg fs
 ·obtain ⟨fs, rfl⟩ := h
  exact A4 (a9v fs hv (A7 (by simpa using hr)))
 ·have h1 : ∀ fs, v ≠ .agg fs := fun fs e => h ⟨fs, e⟩
  have hl := c1n h1 hv
  rw [c0u h1 (fun id g i j e => by subst e; simp [immLeaf] at hl)]
  exact a1c hl hr
theorem a5v {b : Bool} {id g s n : Nat} {es : List AV} (ho : look A (.h id) = some (.obj g 0 s es)) (hn : n = es.length) (hi : D8 es = true) {R : AV → Ws → List Mv.Loc → Prop} (hr : R (.own s es) [(.h id, .dead g)] [.h id]) :
  wpW C A (ret1 b (.sl id g none 0 n)) R := b6u ho hn hi hr
theorem b5y {b : Bool} {id g s j : Nat} {es : List AV} (ho : look A (.h id) = some (.obj g 3 s es)) (hi : H9 es = true) {R : AV → Ws → List Mv.Loc → Prop} (hr : R (.ownp es 0 j) [(.h id, .dead g)] [.h id]) :
  wpW C A (ret1 b (.ptr id g none 0 j)) R := by
 unfold ret1
 refine A4 (J2 ho (A4 (D9 ⟨rfl, hi, rfl⟩ (A4 (H1 (A7 ?_))))))
 simpa using hr
theorem W0 {P : Program} {b : Bool} {t : Nat} {v : AV} (hv : look A (.t t) = some v) {R : AV → Ws → List Mv.Loc → Prop} (h : wpW C A (ret1 b v) fun a ws ls => R a ws (.t t :: ls)) : wpW C A (retVar P b (.tmp t)) R := by
 unfold retVar
 refine A4 (F5 ?_)
 rw [b7u hv]
 refine F8 h fun a ws ls h => ?_
 simpa using h
theorem a3d {P : Program} {b : Bool} {r : ResultVar} {rs : List ResultVar} {R : List AV → Ws → List Mv.Loc → Prop} (h : wpW C A (retVar P b r) fun a ws ls => wpW C (puts A ws) (retAll P b rs) fun us ws' ls' => R (a :: us) (ws ++ ws') (ls ++ ls')) :
  wpW C A (retAll P b (r :: rs)) R := by
 refine A4 (F8 h fun a ws ls h => A4 (F8 h fun us ws' ls' h => A7 ?_))
 simpa using h
end
theorem X1 {cx : Cx} {b : Bool} {A : Asr} {t : Nat} {v : AV} (hv : look A (.t t) = some v) (hi : c0m v = true) {cids : List Cid} {outs : List (List AV)} (ho : U7 A cids outs) : RetA cx b [.tmp t] cids A v outs :=
 a8c (a3d (W0 hv (b4l hi (A7 ⟨rfl, ho⟩))))
theorem a1x {cx : Cx} {b : Bool} {A : Asr} {t id g s n : Nat} {es : List AV} (hv : look A (.t t) = some (.sl id g none 0 n)) (hob : look A (.h id) = some (.obj g 0 s es)) (hn : n = es.length) (hi : D8 es = true)
  {cids : List Cid} {outs : List (List AV)} (ho : U7 (put A (.h id) (.dead g)) cids outs) : RetA cx b [.tmp t] cids A (.own s es) outs :=
 a8c (a3d (W0 hv (a5v hob hn hi (A7 ⟨rfl, ho⟩))))
theorem a8s {cx : Cx} {b : Bool} {A : Asr} {cids : List Cid} {outs : List (List AV)} (ho : U7 A cids outs) : RetA cx b [] cids A (.tup []) outs :=
 a8c (A7 ⟨rfl, ho⟩)
theorem C1 {cx : Cx} {b : Bool} {A : Asr} {t : Nat} {v res : AV} (hv : look A (.t t) = some v) (hi : c0m v = true) {cids : List Cid} {outs : List (List AV)} (ho : U7 A cids outs) (he : v = res) : RetA cx b [.tmp t] cids A res outs := by
 subst he; exact X1 hv hi ho
theorem a3c {cx : Cx} {b : Bool} {A : Asr} {t id g s n : Nat} {es : List AV} {res : AV} (hv : look A (.t t) = some (.sl id g none 0 n)) (hob : look A (.h id) = some (.obj g 0 s es)) (hn : n = es.length) (hi : D8 es = true)
  {cids : List Cid} {outs : List (List AV)} (ho : U7 (put A (.h id) (.dead g)) cids outs) (he : .own s es = res) : RetA cx b [.tmp t] cids A res outs := by
 subst he; exact a1x hv hob hn hi ho
def a0z : Asr → Ws → Asr
 | A, [] => A
 | A, x :: r => a0z (x :: A) r
theorem c5g {A B : Asr} (h : ∀ k, look A k = look B k) (l : Mv.Loc) (a : AV) : ∀ k, look (put A l a) k = look ((l, a) :: B) k := by
 intro k
 rw [J5]
 simp only [look, ← h k]
 cases Loc.beq k l <;> rfl
theorem b7o (ws : Ws) : ∀ (A B : Asr), (∀ k, look A k = look B k) → ∀ k, look (puts A ws) k = look (a0z B ws) k := by
 induction ws with
 | nil => exact fun A B h => h
 | cons x ws ih =>
  intro A B h
  obtain ⟨l, a⟩ := x
  exact ih _ _ (c5g h l a)
theorem b5k (A : Asr) (ws : Ws) : Wk (puts A ws) (a0z A ws) := fun k a h => by rw [b7o ws A A fun _ => rfl]; exact h
def opds (A : Asr) : List Operand → Option (List AV)
 | [] => some []
 | x :: r => match opd A x with
  | some v => (opds A r).map (v :: ·)
  | none => none
def a0p (l : List Operand) : List Mv.Loc := l.flatMap rds
section
variable {cx : Cx} {keep : List Nat} {ops0 : Array Oper} {r : List Oper} {A : Asr} {Q : Asr → List Log → Prop} {d : Nat} {ty : Nat} {pos : String} {aft : Array Edge}
theorem a7w {C : Caller} : ∀ (xs : List Operand) {vs : List AV}, opds A xs = some vs → ∀ (R : List AV → List Mv.Loc → Prop), R vs (a0p xs) → wpA C A (rdOs xs) R := by
 intro xs
 induction xs with
 | nil => intro vs h R hr; simp only [opds, Option.some.injEq] at h; subst h; exact hr
 | cons x xs ih =>
  intro vs h R hr
  simp only [opds] at h
  split at h
  ·rename_i v hv
   simp only [Option.map_eq_some_iff] at h
   obtain ⟨us, h1, rfl⟩ := h
   simp only [rdOs, C3, B7 hv]
   refine ih h1 _ ?_
   simp only [C9, List.append_nil]
   exact hr
  ·cases h
def H4 (C : Caller) (A : Asr) (md : Nat) (v a : AV) (ids : List (Nat × Bool)) (ws : Ws) (ls : List Mv.Loc) : Prop :=
 wpW C A (Y7 md v) fun x w l => x = (a, ids) ∧ w = ws ∧ l = ls
def a2a (C : Caller) (A : Asr) (md : Nat → Nat) (i : Nat) (vs as : List AV) (ids : List (Nat × Bool)) (ws : Ws) (ls : List Mv.Loc) : Prop :=
 wpW C A (passAll md i vs) fun x w l => x = (as, ids) ∧ w = ws ∧ l = ls
theorem E6 {C : Caller} {md : Nat → Nat} {i : Nat} : a2a C A md i [] [] [] [] [] := A7 ⟨rfl, rfl, rfl⟩
theorem A6 {C : Caller} {md : Nat → Nat} {i : Nat} {v a : AV} {vs as : List AV} {ids ids' : List (Nat × Bool)} {ws ws' : Ws} {ls ls' : List Mv.Loc} (h : H4 C A (md i) v a ids ws ls)
  (t : a2a C (puts A ws) md (i + 1) vs as ids' ws' ls') : a2a C A md i (v :: vs) (a :: as) (ids ++ ids') (ws ++ ws') (ls ++ ls') := by
 refine A4 (F8 h ?_)
 rintro _ _ _ ⟨rfl, rfl, rfl⟩
 refine A4 (F8 t ?_)
 rintro _ _ _ ⟨rfl, rfl, rfl⟩
 exact A7 ⟨rfl, by simp, by simp⟩
def O9 : AV → Bool
 | .val _ => true
 | .list _ => true
 | .ifc => true
 | .ipt _ _ => true
 | .clo _ [] => true
 | .agg fs => fs.all fun l => match l with
  | .val _ => true
  | .list _ => true
  | .clo _ [] => true
  | .ifc => true
  | _ => false
 | _ => false
theorem a5h {C : Caller} : ∀ (fs : List AV), (fs.all fun l => match l with
  | .val _ => true
  | .list _ => true
  | .clo _ [] => true
  | .ifc => true
  | _ => false) = true → ∀ (R : List AV → List Mv.Loc → Prop), R fs [] → wpA C A (passLeaves fs) R := by
 intro fs
 induction fs with
 | nil => intro _ R hr; exact hr
 | cons f fs ih =>
  intro h R hr
  simp only [List.all_cons, Bool.and_eq_true] at h
  simp only [passLeaves, C3]
  have hf : ∀ (R : AV → List Mv.Loc → Prop), R f [] → wpA C A (passLeaf f) R := by
   intro R hr
   have := h.1
   cases f with
   | clo k caps => cases caps with
    | nil => exact hr
    | cons => simp at this
   | _ => first | exact hr | simp at this
  refine hf _ (ih h.2 _ ?_)
  simp only [C9, List.append_nil]
  exact hr
theorem a5n {b : Bool} : ∀ (fs : List AV), (fs.all fun l => match l with
  | .val _ => true
  | .list _ => true
  | .clo _ [] => true
  | .ifc => true
  | _ => false) = true → slIds b fs = [] := by
 intro fs
 induction fs with
 | nil => intro _; rfl
 | cons f fs ih =>
  intro h
  simp only [List.all_cons, Bool.and_eq_true] at h
  have := ih h.2
  unfold slIds at this ⊢
  rw [List.filterMap_cons]
  cases f <;> simp at h <;> exact this
theorem a4n {C : Caller} : ∀ (fs : List AV), (fs.all fun l => match l with
  | .val _ => true
  | .list _ => true
  | .clo _ [] => true
  | .ifc => true
  | _ => false) = true → ∀ {A : Asr} (R : List AV → Ws → List Mv.Loc → Prop), R fs [] [] → wpW C A (keepLeaves fs) R := by
 intro fs
 induction fs with
 | nil => intro _ A R hr; exact A7 hr
 | cons f fs ih =>
  intro h A R hr
  simp only [List.all_cons, Bool.and_eq_true] at h
  have hf : ∀ {A : Asr} (R : AV → Ws → List Mv.Loc → Prop), R f [] [] → wpW C A (keepLeaf f) R := by
   intro A R hr
   have := h.1
   cases f with
   | clo k caps => cases caps with
    | nil => exact F5 hr
    | cons => simp at this
   | _ => first | exact F5 hr | simp at this
  refine A4 (hf _ (A4 (ih h.2 _ (A7 ?_))))
  simpa using hr
theorem B0 {C : Caller} {md : Nat} {v : AV} (h : O9 v = true) : H4 C A md v v [] [] [] := by
 unfold H4 Y7
 cases v with
 | val v =>
  refine A4 (F5 ?_)
  show wpW C (puts A []) (pure (AV.val v, ([] : List (Nat × Bool)))) _
  exact A7 ⟨rfl, rfl, rfl⟩
 | list es =>
  refine A4 (F5 ?_)
  show wpW C (puts A []) (pure (AV.list es, ([] : List (Nat × Bool)))) _
  exact A7 ⟨rfl, rfl, rfl⟩
 | ifc =>
  refine A4 (F5 ?_)
  show wpW C (puts A []) (pure (AV.ifc, ([] : List (Nat × Bool)))) _
  exact A7 ⟨rfl, rfl, rfl⟩
 | ipt e j => exact A7 ⟨rfl, rfl, rfl⟩
 | clo f caps =>
  cases caps with
  | nil =>
   simp only
   split
   ·exact A4 (A7 (A7 ⟨rfl, rfl, rfl⟩))
   ·split
    ·refine A4 (F5 ?_)
     show wpW C (puts A []) (pure (AV.clo f [], ([] : List (Nat × Bool)))) _
     exact A7 ⟨rfl, rfl, rfl⟩
    ·refine A4 (F5 ?_)
     show wpW C (puts A []) (pure (AV.clo f [], ([] : List (Nat × Bool)))) _
     exact A7 ⟨rfl, rfl, rfl⟩
  | cons => simp [O9] at h
 | agg fs =>
  simp only [O9] at h
  simp only
  split
  ·exact A4 (a4n fs h _ (A7 ⟨by rw [a5n fs h], rfl, rfl⟩))
  ·exact A4 (F5 (a5h fs h _ (A7 ⟨by rw [a5n fs h], rfl, rfl⟩)))
 | _ => simp [O9] at h
theorem c5l {C : Caller} {md id g m s n : Nat} {es : List AV} (hmd : md = 0) (ho : look A (.h id) = some (.obj g m s es)) (hb : bxB m none = false) (hn : n = es.length) (hr : D8 es = true) :
  H4 C A md (.sl id g none 0 n) (.list (frzL es)) [(id, false)] [] [.h id] := by
 subst hmd hn
 unfold H4 Y7
 simp only [if_true]
 refine A4 (F5 ?_)
 simp only [passLeaf, slc, rdNode, C3, O6 ho, D3, C9, hb, List.append_nil, List.nil_append, List.drop_zero, List.take_length, hr, Nat.zero_add, Nat.le_refl, and_self, true_and]
 exact A7 ⟨rfl, rfl, by simp⟩
theorem G8 {α : Type} {f : α → AV} {xs : List α} {C : Caller} {md id g m s n : Nat} (hmd : md = 0) (ho : look A (.h id) = some (.obj g m s (xs.map f))) (hb : bxB m none = false) (hn : n = (xs.map f).length) (hf : ∀ a, I1 (f a) = true) :
  H4 C A md (.sl id g none 0 n) (.list (xs.map f)) [(id, false)] [] [.h id] := by
 have hr : D8 (xs.map f) = true := B8 fun a => by
  have := hf a
  cases hfa : f a <;> rw [hfa] at this <;> simp_all [I1, K1]
 have := c5l (C := C) hmd ho hb hn hr
 rwa [b3q hf] at this
theorem b4h {C : Caller} {md id g m s n : Nat} {es : List AV} (hmd : md = 1) (ho : look A (.h id) = some (.obj g m s es)) (hm : m ≠ 2 ∧ bxB m none = false) (hn : n = es.length) (hi : H9 es = true) :
  H4 C A md (.sl id g none 0 n) (.own s es) [(id, true)] [] [.h id] := by
 subst hmd hn
 unfold H4 Y7
 simp only [show ¬ ((1 : Nat) = 0) from by decide, if_false, if_true]
 refine A4 (J2 ho ?_)
 simp only [hi, Bool.true_eq_false, and_false, if_false]
 refine A4 (D9 (by simp [hm.1, hm.2]) (A7 ⟨rfl, rfl, by simp⟩))
theorem c5y {C : Caller} {md id g s n : Nat} {es : List AV} (hmd : md = 2) (ho : look A (.h id) = some (.obj g 0 s es)) (hn : n = es.length) (hi : D8 es = true) :
  H4 C A md (.sl id g none 0 n) (.own s es) [(id, true)] [(.h id, .dead g)] [.h id] := by
 subst hmd hn
 unfold H4 Y7
 simp only [show ¬ ((2 : Nat) = 0) from by decide, show ¬ ((2 : Nat) = 1) from by decide, if_false, if_true]
 refine A4 (J2 ho (A4 (D9 (by simp [hi]) (A4 (H1 (A7 ⟨?_, by simp, by simp⟩))))))
 simp
theorem c6d {C : Caller} {md id g s n : Nat} {es : List AV} (hmd : md = 3) (ho : look A (.h id) = some (.obj g 0 s es)) (hn : n = es.length) (hi : D8 es = true) :
  H4 C A md (.sl id g none 0 n) (.list (frzL es)) [(id, true)] [(.h id, .obj g 2 s (frzL es))] [.h id] := by
 subst hmd hn
 unfold H4 Y7
 simp only [show ¬ ((3 : Nat) = 0) from by decide, show ¬ ((3 : Nat) = 1) from by decide, show ¬ ((3 : Nat) = 2) from by decide, if_false, freeze]
 refine A4 (A4 (J2 ho (A4 (D9 (by simp [bxB]) ?_))))
 simp only [show ¬ ((0 : Nat) = 2) from by decide, if_false]
 refine A4 (D9 (by simp [hi]) (A4 (H1 (A7 (A7 ⟨?_, by simp, by simp⟩)))))
 have : (frzL es).take es.length = frzL es := by rw [← P8 es, List.take_length]
 simp [this]
theorem L7 {C : Caller} {md id g m s j : Nat} {es : List AV} (ho : look A (.h id) = some (.obj g m s es)) (hm : m = 3 ∨ m = 4) (hi : H9 es = true) : H4 C A md (.ptr id g none 0 j) (.ownp es 0 j) [(id, true)] [] [.h id] := by
 unfold H4 Y7
 exact A4 (J2 ho (A4 (D9 ⟨hm, hi, rfl⟩ (A7 ⟨rfl, by simp, by simp⟩))))
def b8c (C : Caller) (A : Asr) (T : List Tg) (outs : List (List AV)) (ws : Ws) (ls : List Mv.Loc) : Prop := wpW C A (U9 T outs) fun _ w l => w = ws ∧ l = ls
theorem C6 {C : Caller} : b8c C A [] [] [] [] := A7 ⟨rfl, rfl⟩
theorem E8 {C : Caller} {id g m s : Nat} {es o : List AV} {T : List Tg} {outs : List (List AV)} {ws : Ws} {ls : List Mv.Loc} (ho : look A (.h id) = some (.obj g m s es)) (hl : o.length = es.length) (hn : nilFit es o = true)
  (h : b8c C (puts A [(.h id, .obj g m s o)]) T outs ws ls) : b8c C A ((id, g, none) :: T) (o :: outs) ((.h id, .obj g m s o) :: ws) (.h id :: .h id :: ls) := by
 unfold b8c U9
 refine A4 ?_
 unfold a3r
 refine A4 (J2 ho (A4 (D9 ⟨hl, hn⟩ (A4 (F5 ?_)))))
 simp only [wrNode, O6 ho, C9]
 have ho' : look (puts (puts A []) []) (.h id) = some (.obj g m s es) := ho
 rw [O6 ho']
 simp only [C9]
 refine H1 (F8 h ?_)
 rintro _ _ _ ⟨rfl, rfl⟩
 exact ⟨by simp, by simp⟩
def a0y (C : Caller) (A : Asr) (d : Nat) (res : AV) {G : Type} (v : G → AV) (ws : G → Ws) (ls : List Mv.Loc) : Prop := wpW C A (b8o d res) fun a w l => ∃ g, a = v g ∧ w = ws g ∧ l = ls
theorem a4k {C : Caller} {id : Nat} {v : AV} (h : immLeaf v = true) {R : AV → Ws → List Mv.Loc → Prop} (hr : R v [] []) : wpW C A (Q0 id v) R := by
 cases v with
 | clo f caps => cases caps with
  | nil => exact A7 hr
  | cons c cs =>
   refine A4 (D9 h (A7 ?_))
   simpa using hr
 | _ => first | exact A7 hr | simp [immLeaf] at h
theorem a8g {C : Caller} {d : Nat} : ∀ (fs : List AV) (k : Nat) {A : Asr}, fs.all immLeaf = true → ∀ {R : List AV → Ws → List Mv.Loc → Prop}, R fs [] [] → wpW C A (R8 d k fs) R := by
 intro fs
 induction fs with
 | nil => intro k A _ R hr; exact A7 hr
 | cons f fs ih =>
  intro k A h R hr
  simp only [List.all_cons, Bool.and_eq_true] at h
  refine A4 (a4k h.1 (A4 (ih (k + 1) h.2 (A7 ?_))))
  simpa using hr
theorem b6y {d k : Nat} {v : AV} (h1 : ∀ fs, v ≠ .agg fs) (h2 : ∀ es i j, v ≠ .ownp es i j) : inst1 d k v = Q0 (tid d k) v := by
 unfold inst1
 split
 ·exact (h1 _ rfl).elim
 ·exact (h2 _ _ _ rfl).elim
 ·rfl
theorem b1e {C : Caller} {d k : Nat} {v : AV} (h : I1 v = true) {R : AV → Ws → List Mv.Loc → Prop} (hr : R v [] []) : wpW C A (inst1 d k v) R := by
 by_cases he : ∃ fs, v = .agg fs
 ·obtain ⟨fs, rfl⟩ := he
  refine A4 (a8g fs _ (by simpa [I1] using h) (A7 ?_))
  simpa using hr
 ·have h1 : ∀ fs, v ≠ .agg fs := fun fs e => he ⟨fs, e⟩
  have hl := b7i h1 h
  rw [b6y h1 (fun es i j e => by subst e; simp [immLeaf] at hl)]
  exact a4k hl hr
theorem a4c {C : Caller} {d k s : Nat} {es : List AV} {R : AV → Ws → List Mv.Loc → Prop} (hr : ∀ g, R (.sl (tid d k) g none 0 es.length) [(.h (tid d k), .obj g 0 s es)] [.h (tid d k)]) : wpW C A (inst1 d k (.own s es)) R := by
 show wpW C A (Q0 (tid d k) (.own s es)) R
 refine A4 (K6 fun o => A4 (H1 (A7 ?_)))
 have := hr (E4 o + 1)
 simpa using this
theorem a7s {d : Nat} {v : AV} (h : ∀ vs, v ≠ .tup vs) : b8o d v = inst1 d 0 v := by
 unfold b8o
 split
 ·exact (h _ rfl).elim
 ·rfl
theorem D5 {C : Caller} {d : Nat} {v : AV} (h : I1 v = true) : a0y C A d v (fun _ : Unit => v) (fun _ => []) [] := by
 unfold a0y
 rw [a7s (fun vs e => by subst e; simp [I1, immLeaf] at h)]
 exact b1e h ⟨(), rfl, rfl, rfl⟩
theorem O3 {C : Caller} {d s : Nat} {es : List AV} : a0y C A d (.own s es) (fun g : Nat => .sl (tid d 0) g none 0 es.length) (fun g => [(.h (tid d 0), .obj g 0 s es)]) [.h (tid d 0)] := by
 unfold a0y
 rw [a7s (fun vs e => by cases e)]
 exact a4c fun g => ⟨g, rfl, rfl, rfl⟩
theorem c2y {C : Caller} {d i j : Nat} {es : List AV} : a0y C A d (.ownp es i j) (fun g : Nat => .ptr (tid d 0) g none i j) (fun g => [(.h (tid d 0), .obj g 3 (boxS es) es)]) [.h (tid d 0)] := by
 unfold a0y
 rw [a7s (fun vs e => by cases e)]
 refine A4 (K6 fun o => A4 (H1 (A7 ?_)))
 exact ⟨_, rfl, by simp, by simp⟩
theorem a4b {C : Caller} {d : Nat} : ∀ (vs : List AV) (k : Nat) {A : Asr}, vs.all I1 = true → ∀ {R : List AV → Ws → List Mv.Loc → Prop}, R vs [] [] → wpW C A (instAll d k vs) R := by
 intro vs
 induction vs with
 | nil => intro k A _ R hr; exact A7 hr
 | cons f fs ih =>
  intro k A h R hr
  simp only [List.all_cons, Bool.and_eq_true] at h
  refine A4 (b1e h.1 (A4 (ih (k + 16) h.2 (A7 ?_))))
  simpa using hr
theorem Y1 {C : Caller} {d : Nat} {vs : List AV} (h : vs.all I1 = true) : a0y C A d (.tup vs) (fun _ : Unit => .tup vs) (fun _ => []) [] := by
 refine A4 (a4b vs 16 h (A7 ⟨(), rfl, rfl, rfl⟩))
theorem c6x {G : Type} {o : Oper} (hg : o.guard = none) {v : G → AV} {ws : G → Ws} {ls : List Mv.Loc} {A1 : G → Asr} (h : wpW (CW cx) A (aopV cx o) fun a w l => ∃ g, a = v g ∧ w = ws g ∧ l = ls)
  (hk : ∀ g, tRefsOk keep (keptWs keep (ws g ++ setD o (v g))) = true) (hA : ∀ g, Wk (puts A (ws g ++ setD o (v g))) (A1 g))
  (hx : ∀ g, XR cx keep ops0 r (A1 g) fun A' lg => Q A' ((ls, a4r (ws g ++ setD o (v g))) :: lg)) : XR cx keep ops0 (o :: r) A Q := by
 refine a4j ?_
 have : M2 cx ops0 o = aop cx o := by unfold M2; simp only [hg]
 rw [this]
 unfold aop
 refine A4 (F8 h ?_)
 rintro _ _ _ ⟨g, rfl, rfl, rfl⟩
 refine H1 ?_
 simp only [List.append_nil]
 exact ⟨hk g, XR.wk (hA g) (hx g)⟩
theorem a5g {G : Type} {k : Nat} {args : Array Operand} {Ts : Array Nat} {vs as : List AV} {ids : List (Nat × Bool)} {wp wb : Ws} {lp lb li : List Mv.Loc} {res : AV} {outs : List (List AV)} {v : G → AV} {wi : G → Ws}
  (hv : opds A args.toList = some vs) (hp : a2a (CW cx) A (cx.md k) 0 vs as ids wp lp) (hC : CW cx k as = some (res, outs))
  (hc : apartIds ids = true ∧ J6 ((T8 (cx.md k) 0 vs).map (·.1)) = true ∧ J6 ((cidAll (cx.md k) 0 as).map (·.1)) = true ∧ as.length ≤ 1000 ∧ W4 as = true)
  (hl : ids.all (fun x => x.2) = true ∨ (hasList res = false ∧ outs.any C8 = false))
  (hb : b8c (CW cx) (puts A wp) (T8 (cx.md k) 0 vs) outs wb lb) (hi : a0y (CW cx) (puts (puts A wp) wb) d res v wi li)
  (hk : ∀ g, tRefsOk keep (keptWs keep (wp ++ (wb ++ (wi g ++ [(.t d, v g)])))) = true)
  (h : ∀ g, XR cx keep ops0 r (a0z A (wp ++ (wb ++ (wi g ++ [(.t d, v g)])))) fun A' lg => Q A' ((a0p args.toList ++ (lp ++ (lb ++ li)), a4r (wp ++ (wb ++ (wi g ++ [(.t d, v g)])))) :: lg)) :
  XR cx keep ops0 (⟨some d, .call ⟨.value (.func k), args, Ts⟩, ty, pos, aft, none⟩ :: r) A Q := by
 refine c6x (G := G) (v := v) (ws := fun g => wp ++ (wb ++ wi g)) (ls := a0p args.toList ++ (lp ++ (lb ++ li))) rfl ?_ (fun g => ?_) (fun g => ?_) (fun g => ?_) (A1 := fun g => a0z A (wp ++ (wb ++ (wi g ++ [(.t d, v g)]))))
 ·simp only [aopV]
  refine A4 (K2 (v := .clo k []) rfl (A4 (F5 (a7w _ hv _ ?_))))
  simp only [b4s, List.append_nil]
  refine A4 (F8 hp ?_)
  rintro _ _ _ ⟨rfl, rfl, rfl⟩
  refine A4 (D9 hc (A4 (F5 ?_)))
  refine ⟨res, outs, hC, ?_⟩
  refine A4 (D9 hl (A4 (F8 hb ?_)))
  rintro _ _ _ ⟨rfl, rfl⟩
  refine F8 hi ?_
  rintro _ _ _ ⟨g, rfl, rfl, rfl⟩
  exact ⟨g, rfl, by simp, by simp [rds]⟩
 ·have := hk g
  simpa [setD] using this
 ·have := b5k A (wp ++ (wb ++ (wi g ++ [(.t d, v g)])))
  simpa [setD] using this
 ·have := h g
  simpa [setD] using this
end
section
variable {cx : Cx} {keep : List Nat} {ops0 : Array Oper} {r : List Oper} {A : Asr} {Q : Asr → List Log → Prop} {d : Nat} {ty : Nat} {pos : String} {aft : Array Edge}
def a0f (cur v : AV) : Bool := match v with
 | .val v => a7v v
 | .clo _ cs => cs.all W3
 | .list _ => true
 | .nil => F7 cur
 | _ => false
def a2b : List AV → List AV → Bool
 | _, [] => true
 | cs, v :: vs => a0f (cs.headD .undef) v && a2b cs.tail vs
def a4o (cs : List AV) (v : AV) : Bool := match v with
 | .agg fs => a2b cs fs
 | v => a0f (cs.headD .undef) v
theorem a5s {C : Caller} {m f : Nat} {cur v : AV} (hm : m ≠ 2) (h : a0f cur v = true) {R : AV → Ws → List Mv.Loc → Prop} (hr : R v [] []) : wpW C A (P3 m cur f v) R := by
 unfold P3
 cases v with
 | val v => exact A4 (D9 h (A7 hr))
 | clo k caps =>
  refine A4 (D9 h (A7 ?_))
  simpa using hr
 | list es => exact A7 hr
 | nil =>
  cases cur <;> simp [a0f, F7] at h
  simp only [hm, if_false]
  exact A7 hr
 | _ => simp [a0f] at h
theorem a9x {C : Caller} {m f : Nat} (hm : m ≠ 2) : ∀ (vs cs : List AV) (j : Nat) {A : Asr}, a2b cs vs = true → ∀ {R : List AV → Ws → List Mv.Loc → Prop}, R vs [] [] → wpW C A (absorbLeaves m f j cs vs) R := by
 intro vs
 induction vs with
 | nil => intro cs j A _ R hr; exact A7 hr
 | cons v vs ih =>
  intro cs j A h R hr
  simp only [a2b, Bool.and_eq_true] at h
  refine A4 (a5s hm h.1 (A4 (ih cs.tail (j + 1) h.2 (A7 ?_))))
  simpa using hr
theorem b1k {C : Caller} {m f j : Nat} {cs : List AV} {v : AV} (hm : m ≠ 2) (h : a4o cs v = true) {R : AV → Ws → List Mv.Loc → Prop} (hr : R v [] []) : wpW C A (absorb m f j cs v) R := by
 by_cases he : ∃ fs, v = .agg fs
 ·obtain ⟨fs, rfl⟩ := he
  refine A4 (a9x hm fs cs j h (A7 ?_))
  simpa using hr
 ·have h1 : ∀ fs, v ≠ .agg fs := fun fs e => he ⟨fs, e⟩
  have e1 : absorb m f j cs v = P3 m (cs.headD .undef) (fid f j) v := by
   unfold absorb
   split
   ·exact (h1 _ rfl).elim
   ·rfl
  have e2 : a4o cs v = a0f (cs.headD .undef) v := by
   unfold a4o
   split
   ·exact (h1 _ rfl).elim
   ·rfl
  rw [e1]
  rw [e2] at h
  exact a5s hm h hr
def a1s (P : Program) (T : Nat) : Option (AV × Nat) :=
 if (leaves (tyS P T).zero).length = (tyS P T).size ∧ H8 (tyS P T).zero = true then some ((tyS P T).zero, (tyS P T).size) else none
theorem a1q {P : Program} {T s : Nat} {z : AV} (h : a1s P T = some (z, s)) : (tyS P T).zero = z ∧ (tyS P T).size = s ∧ (leaves (tyS P T).zero).length = (tyS P T).size ∧ H8 (tyS P T).zero = true := by
 unfold a1s at h
 split at h
 ·rename_i hc
  cases h
  exact ⟨rfl, rfl, hc.1, hc.2⟩
 ·cases h
theorem c6g {T s : Nat} {z : AV} (hT : a1s cx.P T = some (z, s)) (hko : ∀ g, slotOk keep (.h d) (.obj g 3 s [z]) = true) (hk : ∀ g, slotOk keep (.t d) (.ptr d g none 0 0) = true)
  (h : ∀ g, XR cx keep ops0 r ((.t d, .ptr d g none 0 0) :: (.h d, .obj g 3 s [z]) :: A) fun A' lg => Q A' (([.h d], [.h d, .t d]) :: lg)) : XR cx keep ops0 (⟨some d, .alloc T, ty, pos, aft, none⟩ :: r) A Q := by
 obtain ⟨h1, h2, h3, h4⟩ := a1q hT
 refine a4g (v := fun g => .ptr d g none 0 0) (ws := fun g => [(.h d, .obj g 3 s [z])]) (ls := [.h d]) rfl ?_ (fun g => F4 (hko g) (H7 (hk g))) (fun g => rfl) (fun g => a4h _ _ _ _ _) h
 simp only [aopV, dstOf]
 refine A4 (F5 (show wpA (CW cx) A (.ret d) _ from ?_))
 show wpW (CW cx) (puts A []) _ _
 refine A4 (K6 fun o => A4 (D9 ⟨h3, h4⟩ (A4 (H1 (A7 ?_)))))
 exact ⟨E4 o + 1, rfl, by simp [h1, h2], by simp⟩
theorem b1f {T s : Nat} {x : Operand} {v : AV} (hx : opd A x = some v) (hl : a4o ((leaves v).map fun _ => AV.nil) v = true) (hs : (leaves v).length = s) (hko : ∀ g, slotOk keep (.h d) (.obj g 3 s [v]) = true) (hk : ∀ g, slotOk keep (.t d) (.ptr d g none 0 0) = true)
  (h : ∀ g, XR cx keep ops0 r ((.t d, .ptr d g none 0 0) :: (.h d, .obj g 3 s [v]) :: A) fun A' lg => Q A' ((rds x ++ [.h d], [.h d, .t d]) :: lg)) : XR cx keep ops0 (⟨some d, .box T x, ty, pos, aft, none⟩ :: r) A Q := by
 refine a4g (v := fun g => .ptr d g none 0 0) (ws := fun g => [(.h d, .obj g 3 s [v])]) (ls := rds x ++ [.h d]) rfl ?_ (fun g => F4 (hko g) (H7 (hk g))) (fun g => rfl) (fun g => a4h _ _ _ _ _) h
 simp only [aopV, dstOf]
 refine A4 (F5 (show wpA (CW cx) A (.ret d) _ from ?_))
 show wpW (CW cx) (puts A []) _ _
 refine A4 (K2 hx (A4 (b1k (by decide) hl (A4 (K6 fun o => A4 (H1 (A7 ?_)))))))
 exact ⟨E4 o + 1, rfl, by simp [hs], by simp⟩
def fillF (A : Asr) (s : Nat) (es : List AV) : List (Nat × Operand) → Option (List AV)
 | [] => some es
 | (i, x) :: r => match opd A x with
  | some v => if (leaves v).length = s ∧ i < es.length ∧ a4o (List.replicate s .nil) v = true then fillF A s (es.set i v) r else none
  | none => none
theorem c1w {C : Caller} {mk s : Nat} (hm : mk ≠ 2) : ∀ (ps : List (Nat × Operand)) (es : List AV) {es' : List AV}, fillF A s es ps = some es' → ∀ {R : List AV → Ws → List Mv.Loc → Prop}, R es' [] (a0p (ps.map (·.2))) → wpW C A (a0d mk s es ps) R := by
 intro ps
 induction ps with
 | nil => intro es es' h R hr; simp only [fillF, Option.some.injEq] at h; subst h; exact A7 hr
 | cons p ps ih =>
  intro es es' h R hr
  obtain ⟨i, x⟩ := p
  simp only [fillF] at h
  split at h
  ·rename_i v hv
   split at h
   ·rename_i hc
    refine A4 (K2 hv (A4 (D9 ⟨hc.1, hc.2.1⟩ (A4 (b1k hm hc.2.2 ?_)))))
    refine F8 (ih _ h (R := fun a w l => a = es' ∧ w = [] ∧ l = a0p (ps.map (·.2))) ⟨rfl, rfl, rfl⟩) ?_
    rintro _ _ _ ⟨rfl, rfl, rfl⟩
    simpa [a0p] using hr
   ·cases h
  ·cases h
theorem D6 {T n E s : Nat} {ps : Array (Nat × Operand)} {z : AV} {es : List AV} (hT : U6 cx.P T = some (E, s)) (hz : a1s cx.P E = some (z, s)) (hn : n * s ≤ 16777216 ∧ 0 < s) (hf : fillF A s (List.replicate n z) ps.toList = some es) (hl : es.length = n)
  (hko : ∀ g, slotOk keep (.h (tid d 0)) (.obj g 0 s es) = true) (hk : ∀ g, slotOk keep (.t d) (.sl (tid d 0) g none 0 n) = true)
  (h : ∀ g, XR cx keep ops0 r ((.t d, .sl (tid d 0) g none 0 n) :: (.h (tid d 0), .obj g 0 s es) :: A) fun A' lg => Q A' ((a0p (ps.toList.map (·.2)) ++ [.h (tid d 0)], [.h (tid d 0), .t d]) :: lg))
  (hfz : cx.fzB T d = false := by rfl) :
  XR cx keep ops0 (⟨some d, .buildSlice T n ps, ty, pos, aft, none⟩ :: r) A Q := by
 obtain ⟨h1, h2, h3, h4⟩ := a1q hz
 refine a4g (v := fun g => .sl (tid d 0) g none 0 n) (ws := fun g => [(.h (tid d 0), .obj g 0 s es)]) (ls := a0p (ps.toList.map (·.2)) ++ [.h (tid d 0)]) rfl ?_ (fun g => F4 (hko g) (H7 (hk g))) (fun g => rfl) (fun g => a4h _ _ _ _ _) h
 simp only [aopV, dstOf]
 refine A4 (F5 (show wpA (CW cx) A (.ret d) _ from ?_))
 show wpW (CW cx) (puts A []) _ _
 refine A4 (a0x hT (A4 (D9 ⟨by rw [h2]; exact hn.1, h3, h4, by rw [h2]; exact hn.2⟩ ?_)))
 simp only [h1, h2, hfz, Bool.false_eq_true, if_false]
 refine A4 (c1w (by decide) ps.toList _ hf (A4 (K6 fun o => A4 (H1 (A7 ?_)))))
 exact ⟨E4 o + 1, rfl, by simp, by simp⟩
theorem b5m {α : Type} {f : α → AV} {x0 : α} {T E s : Nat} {l c : Operand} {k k' : IntKind} {n : Int} {z : AV} (hl : opd A l = some (.val (.int k n))) (hc : opd A c = some (.val (.int k' n))) (hT : U6 cx.P T = some (E, s)) (hz : a1s cx.P E = some (z, s)) (hf : z = f x0)
  (hn : 0 ≤ n ∧ n.toNat ≤ M1) (hb : (tyS cx.P E).bytes ≤ 4096 ∧ 0 < s) (hko : ∀ g, slotOk keep (.h (tid d 0)) (.obj g 0 s ((List.replicate n.toNat x0).map f)) = true) (hk : ∀ g, slotOk keep (.t d) (.sl (tid d 0) g none 0 n.toNat) = true)
  (h : ∀ g, XR cx keep ops0 r ((.t d, .sl (tid d 0) g none 0 n.toNat) :: (.h (tid d 0), .obj g 0 s ((List.replicate n.toNat x0).map f)) :: A) fun A' lg => Q A' ((rds l ++ (rds c ++ [.h (tid d 0)]), [.h (tid d 0), .t d]) :: lg)) :
  XR cx keep ops0 (⟨some d, .makeSlice T l c, ty, pos, aft, none⟩ :: r) A Q := by
 obtain ⟨h1, h2, h3, h4⟩ := a1q hz
 refine a4g (v := fun g => .sl (tid d 0) g none 0 n.toNat) (ws := fun g => [(.h (tid d 0), .obj g 0 s ((List.replicate n.toNat x0).map f))]) (ls := rds l ++ (rds c ++ [.h (tid d 0)])) rfl ?_ (fun g => F4 (hko g) (H7 (hk g))) (fun g => rfl) (fun g => a4h _ _ _ _ _) h
 simp only [aopV, dstOf]
 refine A4 (F5 (show wpA (CW cx) A (.ret d) _ from ?_))
 show wpW (CW cx) (puts A []) _ _
 refine A4 (K2 hl (A4 (K2 hc (A4 (F5 ?_)))))
 rw [P6 hn.1]
 refine A4 (F5 ?_)
 rw [P6 hn.1]
 refine A4 (a0x hT (A4 (D9 ⟨rfl, hn.2, hb.1, h3, h4, by rw [h2]; exact hb.2⟩ (A4 (K6 fun o => A4 (H1 (A7 ?_)))))))
 exact ⟨E4 o + 1, rfl, by simp [h1, h2, hf], by simp⟩
theorem b1c {α : Type} {f : α → AV} {xs : List α} (h : ∀ a, (leaves (f a)).all cellLeaf = true) : a7r (xs.map f) = true := by
 unfold a7r
 rw [List.all_map, List.all_eq_true]
 exact fun a _ => h a
theorem b2i {T T' E s id g n id2 g2 n2 : Nat} {x y : Operand} {es ys : List AV} {z : AV} (hx : opd A x = some (.sl id g none 0 n)) (hy : opd A y = some (.sl id2 g2 none 0 n2)) (ho : look A (.h id) = some (.obj g 0 s es)) (ho2 : look A (.h id2) = some (.obj g2 0 s ys))
  (hn : n = es.length) (hn2 : n2 = ys.length) (hid : 1000000 ≤ id2) (hne : Loc.beq (.h id) (.h id2) = false) (hT : U6 cx.P T = some (E, s)) (hT' : K7 (tyS cx.P T').k = true) (hz : a1s cx.P E = some (z, s)) (hb : (tyS cx.P E).bytes ≤ 4096) (hc : a7r ys = true)
  (hle : n + ys.length ≤ M1) (hko : ∀ g, slotOk keep (.h (tid d 0)) (.obj g 0 s (es ++ ys)) = true) (hk : ∀ g, slotOk keep (.t d) (.sl (tid d 0) g none 0 (n + ys.length)) = true)
  (h : ∀ g', XR cx keep ops0 r ((.t d, .sl (tid d 0) g' none 0 (n + ys.length)) :: (.h (tid d 0), .obj g' 0 s (es ++ ys)) :: (.h id, .dead g) :: (.h id2, .dead g2) :: A) fun A' lg => Q A' ((rds x ++ (rds y ++ [.h id2, .h id, .h (tid d 0)]), [.h id2, .h id, .h (tid d 0), .t d]) :: lg)) :
  XR cx keep ops0 (⟨some d, .call ⟨.builtin .append, #[x, y], #[T, T']⟩, ty, pos, aft, none⟩ :: r) A Q := by
 obtain ⟨h1, h2, h3, h4⟩ := a1q hz
 subst hn hn2
 refine a4g (v := fun g' => .sl (tid d 0) g' none 0 (es.length + ys.length)) (ws := fun g' => [(.h id2, .dead g2), (.h id, .dead g), (.h (tid d 0), .obj g' 0 s (es ++ ys))]) (ls := rds x ++ (rds y ++ [.h id2, .h id, .h (tid d 0)])) rfl ?_
  (fun g => F4 (by simp [slotOk, refOkV]) (F4 (by simp [slotOk, refOkV]) (F4 (hko g) (H7 (hk g))))) (fun g => rfl) (fun g => c4z _ _ _ _ _ _ _ _ _) h
 simp only [aopV, dstOf]
 refine A4 (F5 (show wpA (CW cx) A (.ret d) _ from ?_))
 show wpW (CW cx) (puts A []) _ _
 refine A4 (D9 hT' (A4 (K2 hx (A4 (K2 hy ?_)))))
 unfold a3w
 refine A4 (a0x hT (A4 (D9 ⟨hb, h3, h4⟩ (A4 ?_))))
 simp only [c3o]
 refine A4 (J2 ho2 (A4 (D9 h2.symm ?_)))
 rw [if_pos (by simp [hid])]
 refine A4 (H1 (A7 ?_))
 refine A4 (D9 hc ?_)
 have ho' : look (puts (puts A ([] ++ ([] ++ ([] ++ [(Mv.Loc.h id2, AV.dead g2)] ++ [])))) []) (.h id) = some (.obj g 0 s es) := by
  show look (put A (.h id2) (.dead g2)) (.h id) = _
  rw [J5, hne]
  simpa using ho
 simp only
 refine A4 (J2 (by
  show look (put A (.h id2) (.dead g2)) (.h id) = _
  rw [J5, hne]
  simpa using ho) (A4 (D9 ⟨rfl, Nat.le_refl _, h2.symm, hle⟩ (A4 (H1 (A4 (K6 fun o => A4 (H1 (A7 ?_)))))))))
 exact ⟨E4 o + 1, rfl, by simp, by simp⟩
theorem b0a {T T' E s id g n : Nat} {x y : Operand} {es ys : List AV} {z : AV} (hx : opd A x = some (.sl id g none 0 n)) (hy : opd A y = some (.list ys)) (ho : look A (.h id) = some (.obj g 0 s es))
  (hn : n = es.length) (hT : U6 cx.P T = some (E, s)) (hT' : K7 (tyS cx.P T').k = true) (hz : a1s cx.P E = some (z, s)) (hb : (tyS cx.P E).bytes ≤ 4096) (hc : a7r ys = true) (hsz : Z8 s ys = true)
  (hle : n + ys.length ≤ M1) (hko : ∀ g, slotOk keep (.h (tid d 0)) (.obj g 0 s (es ++ ys)) = true) (hk : ∀ g, slotOk keep (.t d) (.sl (tid d 0) g none 0 (n + ys.length)) = true)
  (h : ∀ g', XR cx keep ops0 r ((.t d, .sl (tid d 0) g' none 0 (n + ys.length)) :: (.h (tid d 0), .obj g' 0 s (es ++ ys)) :: (.h id, .dead g) :: A) fun A' lg => Q A' ((rds x ++ (rds y ++ [.h id, .h (tid d 0)]), [.h id, .h (tid d 0), .t d]) :: lg)) :
  XR cx keep ops0 (⟨some d, .call ⟨.builtin .append, #[x, y], #[T, T']⟩, ty, pos, aft, none⟩ :: r) A Q := by
 obtain ⟨h1, h2, h3, h4⟩ := a1q hz
 subst hn
 refine a4g (v := fun g' => .sl (tid d 0) g' none 0 (es.length + ys.length)) (ws := fun g' => [(.h id, .dead g), (.h (tid d 0), .obj g' 0 s (es ++ ys))]) (ls := rds x ++ (rds y ++ [.h id, .h (tid d 0)])) rfl ?_
  (fun g => F4 (by simp [slotOk, refOkV]) (F4 (hko g) (H7 (hk g)))) (fun g => rfl) (fun g => b2k _ _ _ _ _ _ _) h
 simp only [aopV, dstOf]
 refine A4 (F5 (show wpA (CW cx) A (.ret d) _ from ?_))
 show wpW (CW cx) (puts A []) _ _
 refine A4 (D9 hT' (A4 (K2 hx (A4 (K2 hy ?_)))))
 unfold a3w
 refine A4 (a0x hT (A4 (D9 ⟨hb, h3, h4⟩ (A4 ?_))))
 simp only [c3o]
 refine A4 (F5 (show wpA (CW cx) _ (.ret ys) _ from ?_))
 show wpW (CW cx) _ _ _
 refine A4 (D9 (by rw [h2]; exact hsz) (A7 ?_))
 refine A4 (D9 hc ?_)
 refine A4 (J2 ho (A4 (D9 ⟨rfl, Nat.le_refl _, h2.symm, hle⟩ (A4 (H1 (A4 (K6 fun o => A4 (H1 (A7 ?_)))))))))
 exact ⟨E4 o + 1, rfl, by simp, by simp⟩
theorem a6x {T id g m s i j : Nat} {a x : Operand} {es : List AV} {e v : AV} (ha : opd A a = some (.ptr id g none i j)) (hx : opd A x = some v) (ho : look A (.h id) = some (.obj g m s es)) (he : es[i]? = some e)
  (hl : a4o ((leaves e).drop j) v = true) (hc : m ≠ 2 ∧ (leaves v).length = (tyS cx.P T).size ∧ 0 < (leaves v).length ∧ j + (leaves v).length ≤ (leaves e).length ∧ Q5 (leaves v) ((leaves e).drop j) = true)
  (hko : slotOk keep (.h id) (.obj g m s (es.set i (putAt e j v))) = true)
  (h : XR cx keep ops0 r ((.h id, .obj g m s (es.set i (putAt e j v))) :: A) fun A' lg => Q A' ((rds a ++ (rds x ++ [.h id, .h id, .h id]), [.h id]) :: lg)) :
  XR cx keep ops0 (⟨none, .store T a x, ty, pos, aft, none⟩ :: r) A Q := by
 have hns : b4j v = false := by
  cases v with
  | sl => simp [a4o, a0f] at hl
  | _ => rfl
 refine c8z (v := .undef) (ws := [(.h id, .obj g m s (es.set i (putAt e j v)))]) (ls := rds a ++ (rds x ++ [.h id, .h id, .h id])) rfl ?_ (H7 hko) (b2u _ _ _) h
 simp only [aopV]
 refine A4 (D9 (by simp) (A4 (K2 ha (A4 (K2 hx (A4 ?_))))))
 unfold b7h
 rw [if_neg (by rw [hns]; decide)]
 unfold a4u
 refine A4 (J2 ho ?_)
 simp only [he, if_true]
 refine A4 (b1k (by simp [hc.1]) hl (A4 (J2 ho ?_)))
 simp only [he]
 refine A4 (D9 (by simp [hc.1, hc.2.1, hc.2.2.2.1, hc.2.2.2.2]; have := hc.2.2.1; omega) (A4 (F5 ?_)))
 simp only [wrNode]
 have e0 : puts (puts (puts (puts (puts (puts (puts A []) []) []) []) []) []) [] = A := rfl
 rw [e0, O6 ho]
 simp only [C9]
 refine H1 (A7 ?_)
 exact ⟨rfl, by simp, by simp⟩
theorem b3i {α : Type} [Inhabited α] {f : α → AV} {xs : List α} {y : α} {T id g m s i : Nat} {a x : Operand} (ha : opd A a = some (.ptr id g none i 0)) (hx : opd A x = some (f y)) (ho : look A (.h id) = some (.obj g m s (xs.map f))) (hi : i < xs.length)
  (hf : ∀ a b, a4o (leaves (f b)) (f a) = true ∧ (leaves (f a)).length = (tyS cx.P T).size ∧ 0 < (leaves (f a)).length ∧ (leaves (f a)).length ≤ (leaves (f b)).length ∧ Q5 (leaves (f a)) (leaves (f b)) = true ∧ putAt (f b) 0 (f a) = f a) (hm : m ≠ 2)
  (hko : slotOk keep (.h id) (.obj g m s ((xs.set i y).map f)) = true)
  (h : XR cx keep ops0 r ((.h id, .obj g m s ((xs.set i y).map f)) :: A) fun A' lg => Q A' ((rds a ++ (rds x ++ [.h id, .h id, .h id]), [.h id]) :: lg)) :
  XR cx keep ops0 (⟨none, .store T a x, ty, pos, aft, none⟩ :: r) A Q := by
 obtain ⟨q1, q2, q3, q4, q5, q6⟩ := hf y (xs[i]'hi)
 have he : (xs.map f)[i]? = some (f (xs[i]'hi)) := by rw [List.getElem?_map, List.getElem?_eq_getElem hi]; rfl
 have hs : (xs.map f).set i (putAt (f (xs[i]'hi)) 0 (f y)) = (xs.set i y).map f := by rw [q6, List.map_set]
 refine a6x ha hx ho he (by simpa using q1) ⟨hm, q2, q3, by simpa using q4, by simpa using q5⟩ (by rw [hs]; exact hko) ?_
 rw [hs]
 exact h
theorem a8d {k : Nat} {caps : Array Operand} {vs : List AV} (hv : opds A caps.toList = some vs) (hk : slotOk keep (.t d) (.clo k vs) = true)
  (h : XR cx keep ops0 r ((.t d, .clo k vs) :: A) fun A' lg => Q A' ((a0p caps.toList, [.t d]) :: lg)) : XR cx keep ops0 (⟨some d, .makeFunc (.func k) #[] caps, ty, pos, aft, none⟩ :: r) A Q :=
 G7 (fun o ho => by simp only [aopV, ho]) (by
  simp only [opV, C3, D3]
  refine ⟨rfl, a7w _ hv _ ?_⟩
  simp only [C9, List.append_nil, List.nil_append, and_self]) hk h
def partsF (A : Asr) (place : Nat → Option (Nat × Nat)) (fs : List AV) : List (Nat × Operand) → Option (List AV)
 | [] => some fs
 | (i, x) :: r => match opd A x, place i with
  | some v, some (off, size) => if H8 v = true ∧ (leaves v).length = size ∧ off + size ≤ fs.length then partsF A place (fs.take off ++ leaves v ++ fs.drop (off + size)) r else none
  | _, _ => none
theorem c0c {C : Caller} {place : Nat → Option (Nat × Nat)} : ∀ (ps : List (Nat × Operand)) (fs : List AV) {fs' : List AV}, partsF A place fs ps = some fs' → ∀ {R : List AV → List Mv.Loc → Prop}, R fs' (a0p (ps.map (·.2))) → wpA C A (P5 place fs ps) R := by
 intro ps
 induction ps with
 | nil => intro fs fs' h R hr; simp only [partsF, Option.some.injEq] at h; subst h; exact hr
 | cons p ps ih =>
  intro fs fs' h R hr
  obtain ⟨i, x⟩ := p
  simp only [partsF] at h
  split at h
  ·rename_i v off size hv hp
   split at h
   ·rename_i hc
    simp only [P5, C3, B7 hv, hp, D3]
    refine ⟨hc, ih _ h ?_⟩
    simpa [a0p] using hr
   ·cases h
  ·cases h
theorem c0a {T : Nat} {ps : Array (Nat × Operand)} {fl : List (Nat × Nat)} {zs fs : List AV} (hT : (tyS cx.P T).k = .struct fl) (hz : (tyS cx.P T).zero = .agg zs) (hb : (fl.all fun f => !J4 (tyS cx.P f.2).k) = true)
  (hf : partsF A (fun i => (fl[i]?).map fun f => (f.1, (tyS cx.P f.2).size)) zs ps.toList = some fs) (hk : slotOk keep (.t d) (.agg fs) = true)
  (h : XR cx keep ops0 r ((.t d, .agg fs) :: A) fun A' lg => Q A' ((a0p (ps.toList.map (·.2)), [.t d]) :: lg)) : XR cx keep ops0 (⟨some d, .build T ps, ty, pos, aft, none⟩ :: r) A Q :=
 G7 (fun o ho => by simp only [aopV, ho]) (by
  simp only [opV, b1n, hT, hz, C3, D3]
  refine ⟨hb, c0c _ _ hf ?_⟩
  simp only [C9, List.append_nil, List.nil_append, and_self]) hk h
end
abbrev oI (xs : List Int) : AV := .own 1 (xs.map iV)
section
variable {cx : Cx} {keep : List Nat} {ops0 : Array Oper} {r : List Oper} {A : Asr} {Q : Asr → List Log → Prop} {d : Nat} {ty : Nat} {pos : String} {aft : Array Edge}
theorem b5t {C : Caller} {n : Nat} : wpA C A (optNat none n) fun m ls => m = n ∧ ls = [] := ⟨rfl, rfl⟩
theorem b6d {C : Caller} {x : Operand} {k : IntKind} {n : Int} {dflt : Nat} (h : opd A x = some (.val (.int k n))) (hn : 0 ≤ n) : wpA C A (optNat (some x) dflt) fun m ls => m = n.toNat ∧ ls = rds x := by
 simp only [optNat, C3, B7 h, P6 hn, List.append_nil, and_self]
theorem O2 {α : Type} [Inhabited α] {x i : Operand} {T E s : Nat} {f : α → AV} {xs : List α} {k : IntKind} {n : Nat} (hx : opd A x = some (.list (xs.map f))) (hi : opd A i = some (.val (.int k (n : Int))))
  (hT : U6 cx.P T = some (E, s)) (hs : ∀ a, (leaves (f a)).length = s) (hn : n < xs.length)
  (h : XR cx keep ops0 r ((.t d, .ipt (f (xs.getD n default)) 0) :: A) fun A' lg => Q A' ((rds x ++ rds i, [.t d]) :: lg)) : XR cx keep ops0 (⟨some d, .indexAddr T x i, ty, pos, aft, none⟩ :: r) A Q :=
 I2 hx hi hT hs (by omega) (by rw [Int.toNat_natCast]; exact h)
theorem K8 {x i : Operand} {T E s id g m ln n : Nat} {es : List AV} {k : IntKind} (hx : opd A x = some (.sl id g none 0 ln)) (hi : opd A i = some (.val (.int k (n : Int)))) (ho : look A (.h id) = some (.obj g m s es))
  (hT : U6 cx.P T = some (E, s)) (hn : n < ln) (hl : ln ≤ es.length) (hk : slotOk keep (.t d) (.ptr id g none n 0) = true)
  (h : XR cx keep ops0 r ((.t d, .ptr id g none n 0) :: A) fun A' lg => Q A' ((rds x ++ (rds i ++ [.h id]), [.t d]) :: lg)) : XR cx keep ops0 (⟨some d, .indexAddr T x i, ty, pos, aft, none⟩ :: r) A Q := by
 have e : 0 + (n : Int).toNat = n := by simp
 exact b6k hx hi ho hT (by omega) (by omega) (by rw [e]; exact hk) (by rw [e]; exact h)
theorem getElem?_map_getD {α : Type} [Inhabited α] {f : α → AV} {xs : List α} {i : Nat} (hi : i < xs.length) : (xs.map f)[i]? = some (f (xs.getD i default)) := by
 rw [List.getElem?_map, List.getElem?_eq_getElem hi, List.getD_eq_getElem?_getD, List.getElem?_eq_getElem hi]; rfl
end
theorem F9 {A : Asr} : U7 A [] [] := trivial
theorem Q1 {A : Asr} {cid m s : Nat} {o : List AV} (h : look A (.h cid) = some (.obj 1 m s o)) (hi : H9 o = true) : U7 A [(cid, m, s)] [o] := ⟨h, hi, trivial⟩
def FnP (cx : Cx) (b : Bool) (rs : List ResultVar) (cids : List Cid) (P : AV → List (List AV) → Prop) : AExit → Asr → Prop := fun r A =>
 match r with
 | .exit _ => False
 | _ => ∃ res outs, P res outs ∧ RetA cx b rs cids A res outs
theorem L6 {cx : Cx} {f : Nat} {fn : Func} {c : Code} {as : List AV} {P : AV → List (List AV) → Prop} {keep : List Nat} (hx : cx.ext f = none) (hf : cx.P.funcs[f]? = some fn) (hb : fn.body = some c)
  (hc : H2 fn.ntmps c = true ∧ as.length = fn.params.size + fn.nfree ∧ as.length ≤ fn.ntmps ∧ as.length ≤ 1000 ∧ (fn.name == "runtime.NumGoroutine") = false) (hk : E5 fn = keep)
  (h : XA cx keep c (a7y (cx.md f) 0 as) (FnP cx (cx.fz f) fn.results.toList (cidAll (cx.md f) 0 as) P)) : ∃ res outs, P res outs ∧ CW cx f as = some (res, outs) := by
 subst hk
 obtain ⟨n, r, st', h1, A', h2, h3⟩ := h _ (a8o hc.2.2.2.1)
 have key : (∃ res outs, P res outs ∧ RetA cx (cx.fz f) fn.results.toList (cidAll (cx.md f) 0 as) A' res outs) → (∀ i, r ≠ .exit i) → ∃ res outs, P res outs ∧ CW cx f as = some (res, outs) := by
  rintro ⟨res, outs, hP, hR⟩ hr
  refine ⟨res, outs, hP, a3y cx (n := n) ?_⟩
  obtain ⟨us, ws, ls, k1, k2, rfl⟩ := hR _ h2
  unfold U3
  simp only [hx, hf, hb]
  rw [if_pos hc, h1]
  cases r with
  | exit i => exact (hr i rfl).elim
  | normal => simp only [k1, k2]
  | ret => simp only [k1, k2]
 cases r with
 | exit i => exact h3.elim
 | normal => exact key h3 (by intro i e; cases e)
 | ret => exact key h3 (by intro i e; cases e)
theorem b9d {cx : Cx} {b : Bool} {A : Asr} {t id g s j : Nat} {es : List AV} (hv : look A (.t t) = some (.ptr id g none 0 j)) (hob : look A (.h id) = some (.obj g 3 s es)) (hi : H9 es = true)
  {cids : List Cid} {outs : List (List AV)} (ho : U7 (put A (.h id) (.dead g)) cids outs) : RetA cx b [.tmp t] cids A (.ownp es 0 j) outs :=
 a8c (a3d (W0 hv (b5y hob hi (A7 ⟨rfl, ho⟩))))
section
variable {cx : Cx} {keep : List Nat} {ops0 : Array Oper} {r : List Oper} {A : Asr} {Q : Asr → List Log → Prop} {d : Nat} {ty : Nat} {pos : String} {aft : Array Edge}
theorem b2p {α : Type} {f : α → AV} {xs ys : List α} {T T' E s id g n id2 g2 n2 : Nat} {x y : Operand} {z : AV} (hx : opd A x = some (.sl id g none 0 n)) (hy : opd A y = some (.sl id2 g2 none 0 n2)) (ho : look A (.h id) = some (.obj g 0 s (xs.map f))) (ho2 : look A (.h id2) = some (.obj g2 0 s (ys.map f)))
  (hn : n = (xs.map f).length) (hn2 : n2 = (ys.map f).length) (hid : 1000000 ≤ id2) (hne : Loc.beq (.h id) (.h id2) = false) (hT : U6 cx.P T = some (E, s)) (hT' : K7 (tyS cx.P T').k = true) (hz : a1s cx.P E = some (z, s)) (hb : (tyS cx.P E).bytes ≤ 4096) (hf : ∀ a, (leaves (f a)).all cellLeaf = true ∧ K1 (f a) = true)
  (hle : xs.length + ys.length ≤ M1) (hk : ∀ g, slotOk keep (.t d) (.sl (tid d 0) g none 0 (xs ++ ys).length) = true)
  (h : ∀ g', XR cx keep ops0 r ((.t d, .sl (tid d 0) g' none 0 (xs ++ ys).length) :: (.h (tid d 0), .obj g' 0 s ((xs ++ ys).map f)) :: (.h id, .dead g) :: (.h id2, .dead g2) :: A) fun A' lg => Q A' ((rds x ++ (rds y ++ [.h id2, .h id, .h (tid d 0)]), [.h id2, .h id, .h (tid d 0), .t d]) :: lg)) :
  XR cx keep ops0 (⟨some d, .call ⟨.builtin .append, #[x, y], #[T, T']⟩, ty, pos, aft, none⟩ :: r) A Q := by
 have e1 : n + (ys.map f).length = (xs ++ ys).length := by rw [hn, List.length_map, List.length_map, List.length_append]
 refine b2i hx hy ho ho2 hn hn2 hid hne hT hT' hz hb (b1c fun a => (hf a).1) (by rw [hn, List.length_map, List.length_map]; exact hle) (fun g => E7 ?_) (fun g => by rw [e1]; exact hk g) ?_
 ·rw [← List.map_append]; exact B8 fun a => (hf a).2
 ·intro g'
  rw [e1, ← List.map_append]
  exact h g'
theorem K3 {α : Type} {f : α → AV} {xs ys : List α} {T T' E s id g n : Nat} {x y : Operand} {z : AV} (hx : opd A x = some (.sl id g none 0 n)) (hy : opd A y = some (.list (ys.map f))) (ho : look A (.h id) = some (.obj g 0 s (xs.map f)))
  (hn : n = (xs.map f).length) (hT : U6 cx.P T = some (E, s)) (hT' : K7 (tyS cx.P T').k = true) (hz : a1s cx.P E = some (z, s)) (hb : (tyS cx.P E).bytes ≤ 4096) (hf : ∀ a, (leaves (f a)).all cellLeaf = true ∧ K1 (f a) = true ∧ (leaves (f a)).length = s)
  (hle : xs.length + ys.length ≤ M1) (hk : ∀ g, slotOk keep (.t d) (.sl (tid d 0) g none 0 (xs ++ ys).length) = true)
  (h : ∀ g', XR cx keep ops0 r ((.t d, .sl (tid d 0) g' none 0 (xs ++ ys).length) :: (.h (tid d 0), .obj g' 0 s ((xs ++ ys).map f)) :: (.h id, .dead g) :: A) fun A' lg => Q A' ((rds x ++ (rds y ++ [.h id, .h (tid d 0)]), [.h id, .h (tid d 0), .t d]) :: lg)) :
  XR cx keep ops0 (⟨some d, .call ⟨.builtin .append, #[x, y], #[T, T']⟩, ty, pos, aft, none⟩ :: r) A Q := by
 have e1 : n + (ys.map f).length = (xs ++ ys).length := by rw [hn, List.length_map, List.length_map, List.length_append]
 refine b0a hx hy ho hn hT hT' hz hb (b1c fun a => (hf a).1) ?_ (by rw [hn, List.length_map, List.length_map]; exact hle) (fun g => E7 ?_) (fun g => by rw [e1]; exact hk g) ?_
 ·unfold Z8
  rw [List.all_map, List.all_eq_true]
  intro a _
  simpa using (hf a).2.2
 ·rw [← List.map_append]; exact B8 fun a => (hf a).2.1
 ·intro g'
  rw [e1, ← List.map_append]
  exact h g'
end
theorem T6 {A : Asr} {α : Type} {f : α → AV} {xs : List α} {C : Caller} {md id g s n : Nat} (hmd : md = 3) (ho : look A (.h id) = some (.obj g 0 s (xs.map f))) (hn : n = (xs.map f).length) (hf : ∀ a, I1 (f a) = true) :
  H4 C A md (.sl id g none 0 n) (.list (xs.map f)) [(id, true)] [(.h id, .obj g 2 s (xs.map f))] [.h id] := by
 have hr : D8 (xs.map f) = true := B8 fun a => by
  have := hf a
  cases hfa : f a <;> rw [hfa] at this <;> simp_all [I1, K1]
 have := c6d (C := C) hmd ho hn hr
 rwa [b3q hf] at this
def c8p (tb : List (Nat × List Nat)) (f i : Nat) : Nat := match tb.find? (fun x => x.1 == f) with
 | some x => x.2.getD i 0
 | none => 0
def b9p (tb : List (Nat × (List AV → Option (AV × List (List AV))))) (f : Nat) : Option (List AV → Option (AV × List (List AV))) := match tb.find? (fun x => x.1 == f) with
 | some x => some x.2
 | none => none
def unI : List AV → Option (List Int)
 | [] => some []
 | .val (.int .i64 n) :: r => (unI r).map (n :: ·)
 | _ => none
theorem b9q (xs : List Int) : unI (xs.map iV) = some xs := by
 induction xs with
 | nil => rfl
 | cons x xs ih => simp [unI, ih]
def a4y (x : Int) : List Int → List Int
 | [] => [x]
 | y :: r => if x ≤ y then x :: y :: r else y :: a4y x r
def sortI : List Int → List Int
 | [] => []
 | x :: r => a4y x (sortI r)
theorem b3n (x : Int) (r : List Int) : (a4y x r).length = r.length + 1 := by
 induction r with
 | nil => rfl
 | cons y r ih => simp only [a4y]; split <;> simp [ih]
@[simp] theorem b1y (xs : List Int) : (sortI xs).length = xs.length := by
 induction xs with
 | nil => rfl
 | cons x r ih => simp [sortI, b3n, ih]
def a3f : List AV → Option (AV × List (List AV))
 | [.list es] => if es.length ≤ M1 then (unI es).map fun xs => (.own 1 (xs.map iV), []) else none
 | _ => none
def a6y : List AV → Option (AV × List (List AV))
 | [.own 1 es] => if es.length ≤ M1 then (unI es).map fun xs => (.tup [], [(sortI xs).map iV]) else none
 | _ => none
abbrev L (xs : List Int) : AV := .list (xs.map iV)
abbrev M (xs : List (List Int)) : AV := .list (xs.map L)
theorem K0 {α : Type} {d : α} {xs ys : List α} (hl : xs.length = ys.length) (h : ∀ j, j < xs.length → xs.getD j d = ys.getD j d) : xs = ys := by
 apply List.ext_getElem hl
 intro i h1 h2
 have := h i h1
 simpa [List.getD_eq_getElem?_getD, List.getElem?_eq_getElem h1, List.getElem?_eq_getElem h2] using this
theorem sized_map {α : Type} {f : α → AV} {s : Nat} {xs : List α} (h : ∀ a, (leaves (f a)).length = s) : Z8 s (xs.map f) = true := by
 unfold Z8
 rw [List.all_map, List.all_eq_true]
 intro a _
 simpa using h a
abbrev rdr (bs : List Int) (p : Int) : AV := .agg [.list (bs.map uV), iV p]
def a2q (bs : List Int) : Prop := ∀ b ∈ bs, 0 ≤ b ∧ b < 256
theorem a2q.getD {bs : List Int} (h : a2q bs) (i : Nat) : 0 ≤ bs.getD i default ∧ bs.getD i default < 256 := by
 rw [List.getD_eq_getElem?_getD]
 cases hx : bs[i]? with
 | none => exact ⟨by decide, by decide⟩
 | some x => exact h x (List.mem_of_getElem? hx)
theorem a3o {a b : Int} (ha : 0 ≤ a) (hb : 0 < b) : 0 ≤ a.tmod b ∧ a.tmod b < b := ⟨Int.tmod_nonneg _ ha, Int.tmod_lt_of_pos _ hb⟩
theorem b9s {a b : Int} (ha : 0 ≤ a) (hb : 0 ≤ b) : 0 ≤ a.tdiv b ∧ a.tdiv b ≤ a := ⟨Int.tdiv_nonneg ha hb, Int.tdiv_le_self b ha⟩
theorem c7y {x y : Int} (hx : 0 ≤ x ∧ x < 9223372036854775808) (hy : 0 ≤ y ∧ y < 9223372036854775808) :
  0 ≤ IntKind.i64.wrap ((BitVec.ofInt IntKind.i64.bits x ^^^ BitVec.ofInt IntKind.i64.bits y).toNat) ∧ IntKind.i64.wrap ((BitVec.ofInt IntKind.i64.bits x ^^^ BitVec.ofInt IntKind.i64.bits y).toNat) < 9223372036854775808 := by
 have h1 : (BitVec.ofInt IntKind.i64.bits x ^^^ BitVec.ofInt IntKind.i64.bits y).toNat < 2 ^ 63 := by
  rw [BitVec.toNat_xor]
  refine Nat.xor_lt_two_pow ?_ ?_
  ·rw [BitVec.toNat_ofInt]; simp only [IntKind.bits]; omega
  ·rw [BitVec.toNat_ofInt]; simp only [IntKind.bits]; omega
 generalize (BitVec.ofInt IntKind.i64.bits x ^^^ BitVec.ofInt IntKind.i64.bits y).toNat = n at h1
 have : IntKind.i64.wrap (n : Int) = n := V3 (B1 (by omega))
 rw [this]
 omega
theorem a3z {xs : List Int} {i : Nat} (h : i < xs.length) : xs.getD i default ∈ xs := by
 rw [List.getD_eq_getElem?_getD, List.getElem?_eq_getElem h]
 exact List.getElem_mem h
@[simp] theorem hasListL_iV (xs : List Int) : C8 (xs.map iV) = false := by
 induction xs with
 | nil => rfl
 | cons x xs ih => simp [C8, hasList, ih]
@[simp] theorem hasListL_oI (xs : List (List Int)) : C8 (xs.map oI) = false := by
 induction xs with
 | nil => rfl
 | cons x xs ih => simp [C8, hasList, ih]
def G (gs : List (List Int)) (i j : Nat) : Int := (gs.getD i default).getD j default
def CellOk (gs : List (List Int)) (a b : Nat) : Prop := 1 ≤ G gs a b ∧ G gs a b ≤ 40 ∧ G gs b a = G gs a b
def RowOk (gs : List (List Int)) (a : Nat) : Prop := (gs.getD a default).length = gs.length ∧ G gs a a = 0 ∧ ∀ b, b < a → CellOk gs a b
def VG (gs : List (List Int)) : Prop := (∀ a, a < gs.length → RowOk gs a) ∧ 1 ≤ gs.length ∧ gs.length ≤ 6
theorem VG.sym {gs : List (List Int)} (h : VG gs) {a b : Nat} (ha : a < gs.length) (hb : b < gs.length) : G gs a b = G gs b a := by
 rcases Nat.lt_trichotomy a b with hlt | rfl | hlt
 ·exact ((h.1 b hb).2.2 a hlt).2.2
 ·rfl
 ·exact (((h.1 a ha).2.2 b hlt).2.2).symm
theorem VG.pos {gs : List (List Int)} (h : VG gs) {a b : Nat} (ha : a < gs.length) (hb : b < gs.length) : 0 ≤ G gs a b ∧ G gs a b ≤ 40 := by
 rcases Nat.lt_trichotomy a b with hlt | rfl | hlt
 ·have := (h.1 b hb).2.2 a hlt
  obtain ⟨h1, h2, h3⟩ := this
  omega
 ·have := (h.1 a ha).2.1
  omega
 ·have := (h.1 a ha).2.2 b hlt
  obtain ⟨h1, h2, h3⟩ := this
  omega
theorem VG.row {gs : List (List Int)} (h : VG gs) {a : Nat} (ha : a < gs.length) : (gs.getD a default).length = gs.length := (h.1 a ha).1
theorem a5y {cs : List AV} {n : Int} : Q2 cs [iV n] = true := by cases cs <;> simp [Q2, F7]
theorem b6p (ys : List Int) : ∀ es, nilFit es (ys.map iV) = true := by
 induction ys with
 | nil => intro es; cases es <;> rfl
 | cons y ys ih =>
  intro es
  cases es with
  | nil => simp only [List.map_cons, nilFit, leaves, Bool.and_eq_true]; exact ⟨a5y, ih []⟩
  | cons e es => simp only [List.map_cons, nilFit, Bool.and_eq_true]; exact ⟨a5y, ih es⟩
theorem J1 {α : Type} {d : α} (l : List α) (i : Nat) (x : α) (j : Nat) (hi : i < l.length) : (l.set i x).getD j d = if j = i then x else l.getD j d := by
 rw [List.getD_eq_getElem?_getD, List.getD_eq_getElem?_getD]
 by_cases h : j = i
 ·subst h; simp [List.getElem?_set_self hi]
 ·simp [h, List.getElem?_set_ne (Ne.symm h)]
def Sq (n : Nat) (m : List (List Int)) : Prop := m.length = n ∧ ∀ a, a < n → (m.getD a default).length = n
def b0k (m : List (List Int)) (v i k : Nat) : List (List Int) :=
 m.set i ((m.getD i default).set k (min ((m.getD i default).getD k default) (max ((m.getD i default).getD v default) ((m.getD v default).getD k default))))
def fwIn (m : List (List Int)) (v i : Nat) : Nat → List (List Int)
 | 0 => m
 | k + 1 => b0k (fwIn m v i k) v i k
def fwMid (n : Nat) (m : List (List Int)) (v : Nat) : Nat → List (List Int)
 | 0 => m
 | i + 1 => fwIn (fwMid n m v i) v i n
def fwOut (n : Nat) (m : List (List Int)) : Nat → List (List Int)
 | 0 => m
 | v + 1 => fwMid n (fwOut n m v) v n
def fw (m : List (List Int)) : List (List Int) := fwOut m.length m m.length
theorem c2d {n : Nat} {m : List (List Int)} (h : Sq n m) {i : Nat} (hi : i < n) {row : List Int} (hr : row.length = n) : Sq n (m.set i row) := by
 refine ⟨by simp [h.1], fun a ha => ?_⟩
 rw [J1 _ _ _ _ (by rw [h.1]; exact hi)]
 split
 ·exact hr
 ·exact h.2 a ha
theorem c3p {n : Nat} {m : List (List Int)} (h : Sq n m) {v i k : Nat} (hi : i < n) : Sq n (b0k m v i k) := c2d h hi (by rw [List.length_set]; exact h.2 i hi)
theorem a6t {n : Nat} {m : List (List Int)} (h : Sq n m) {v i : Nat} (hi : i < n) : ∀ k, Sq n (fwIn m v i k)
 | 0 => h
 | k + 1 => c3p (a6t h hi k) hi
theorem a3j {n : Nat} {m : List (List Int)} (h : Sq n m) {v : Nat} : ∀ i, i ≤ n → Sq n (fwMid n m v i)
 | 0, _ => h
 | i + 1, hi => a6t (a3j h i (by omega)) (by omega) n
theorem a3l {n : Nat} {m : List (List Int)} (h : Sq n m) : ∀ v, Sq n (fwOut n m v)
 | 0 => h
 | v + 1 => a3j (a3l h v) n (Nat.le_refl _)
theorem VG.sq {gs : List (List Int)} (h : VG gs) : Sq gs.length gs := ⟨rfl, fun a ha => h.row ha⟩
theorem c8x {n : Nat} {m : List (List Int)} (h : Sq n m) : Sq n (fw m) := by
 have e := h.1
 subst e
 exact a3l h _
theorem Sq.le {n k : Nat} {m : List (List Int)} (h : Sq n m) (hk : n ≤ k) (a : Nat) : (m.getD a default).length ≤ k := by
 rcases Nat.lt_or_ge a n with h1 | h1
 ·rw [h.2 a h1]; exact hk
 ·rw [List.getD_eq_getElem?_getD, List.getElem?_eq_none (by rw [h.1]; exact h1)]
  exact Nat.zero_le _
theorem b4d {n : Nat} {m : List (List Int)} (h : Sq n m) {i k : Nat} (hi : i < n) {x : Int} : Sq n (m.set i ((m.getD i default).set k x)) := c2d h hi (by rw [List.length_set]; exact h.2 i hi)
end Go.Mv
end

section
namespace Go.Mv
theorem b8q {n : Nat} {m : List (List Int)} (h : Sq n m) {v i k : Nat} (hi : i < n) (hk : k < n) (a b : Nat) :
  G (b0k m v i k) a b = if a = i ∧ b = k then min (G m i k) (max (G m i v) (G m v k)) else G m a b := by
 unfold b0k G
 rw [J1 _ _ _ _ (by rw [h.1]; exact hi)]
 by_cases h1 : a = i
 ·subst h1
  rw [if_pos rfl, J1 _ _ _ _ (by rw [h.2 a hi]; exact hk)]
  by_cases h2 : b = k
  ·subst h2; simp
  ·simp [h2]
 ·rw [if_neg h1, if_neg (by intro h2; exact h1 h2.1)]
def LeG (m m' : List (List Int)) : Prop := ∀ a b, G m a b ≤ G m' a b
theorem LeG.trans {x y z : List (List Int)} (h : LeG x y) (h2 : LeG y z) : LeG x z := fun a b => Int.le_trans (h a b) (h2 a b)
theorem LeG.refl (x : List (List Int)) : LeG x x := fun _ _ => Int.le_refl _
theorem c3b {n : Nat} {m : List (List Int)} (h : Sq n m) {v i k : Nat} (hi : i < n) (hk : k < n) : LeG (b0k m v i k) m := by
 intro a b
 rw [b8q h hi hk]
 split
 ·rename_i h1
  rw [h1.1, h1.2]
  exact Int.min_le_left _ _
 ·exact Int.le_refl _
theorem b8x {n : Nat} {m : List (List Int)} (h : Sq n m) {v i : Nat} (hi : i < n) : ∀ k' k, k ≤ k' → k' ≤ n → LeG (fwIn m v i k') (fwIn m v i k)
 | 0, k, h1, _ => by
  have : k = 0 := by omega
  subst this
  exact LeG.refl _
 | k' + 1, k, h1, h2 => by
  rcases Nat.lt_or_ge k' k with h3 | h3
  ·have : k = k' + 1 := by omega
   subst this
   exact LeG.refl _
  ·exact (c3b (a6t h hi k') hi (by omega)).trans (b8x h hi k' k h3 (by omega))
theorem b5n {n : Nat} {m : List (List Int)} (h : Sq n m) {v : Nat} : ∀ k' k, k ≤ k' → k' ≤ n → LeG (fwMid n m v k') (fwMid n m v k)
 | 0, k, h1, _ => by
  have : k = 0 := by omega
  subst this
  exact LeG.refl _
 | k' + 1, k, h1, h2 => by
  rcases Nat.lt_or_ge k' k with h3 | h3
  ·have : k = k' + 1 := by omega
   subst this
   exact LeG.refl _
  ·exact (b8x (a3j h k' (by omega)) (by omega) n 0 (by omega) (by omega)).trans (b5n h k' k h3 (by omega))
theorem b4w {n : Nat} {m : List (List Int)} (h : Sq n m) : ∀ k' k, k ≤ k' → LeG (fwOut n m k') (fwOut n m k)
 | 0, k, h1 => by
  have : k = 0 := by omega
  subst this
  exact LeG.refl _
 | k' + 1, k, h1 => by
  rcases Nat.lt_or_ge k' k with h3 | h3
  ·have : k = k' + 1 := by omega
   subst this
   exact LeG.refl _
  ·exact (b5n (a3l h k') n 0 (by omega) (by omega)).trans (b4w h k' k h3)
theorem c8q {n : Nat} {m : List (List Int)} (h : Sq n m) : LeG (fw m) m := by
 have e := h.1
 subst e
 exact b4w h _ 0 (by omega)
end Go.Mv
end

section
namespace Go.Mv
open Go Go.RowKit
section
variable {P : Program} {Γ : Env} {w0 : World} {A O0 : Nat → Prop} {ν0 : Nu} {N : Nat} {F : Fl} {D : Nat → Prop} {st : St} {ν : Nu} {tm : Array Value} {w : World}
theorem V8 {xs : List Int} {i j : Nat} {l : AV} (h : leafAt (xs.map iV) i j = some l) : ∃ x, xs[i]? = some x ∧ j = 0 ∧ l = iV x := by
 unfold leafAt at h
 rw [List.getElem?_map] at h
 cases hx : xs[i]? with
 | none => simp [hx] at h
 | some x =>
  simp only [hx, Option.map_some] at h
  cases j with
  | zero => simp [leaves] at h; exact ⟨x, rfl, rfl, h.symm⟩
  | succ j => simp [leaves] at h
theorem a1i {w' : World} (hmo : Γ.mo → w.drawn ≤ w'.drawn) (h : Below w.heap.size w w') {bt : Nat} : WStep Γ w w' bt :=
 ⟨h.size, h.os, h.tape, h.output, hmo, fun b hb _ => h.block b hb, fun b hb => H5 (h.block b hb)⟩
theorem Rel.ownEmpty (R : Rel Γ w0 A O0 ν0 N Fl.emp D st ν tm w) (κ : FK) (s : Nat) : Rel Γ w0 A O0 ν0 N (Fl.emp.set κ (some ⟨fun _ => none, s, []⟩)) D st ν tm w := by
 refine R.ghost (fun _ => rfl) (Ext.refl _ _ _) (fun _ h => h) R.objs R.frozen (fun k f hf => ?_) id ?_ (fun _ _ _ _ h => h) (fun b hb hd => (hd hb).elim) R.io
 ·by_cases e : k = κ
  ·subst e
   rw [Fl.set_eq] at hf
   cases hf
   exact ⟨rfl, fun i j s' es' h => by simp [leafAt] at h⟩
  ·rw [Fl.set_ne _ _ e] at hf; cases hf
 ·intro k b o hl hb
  cases k with
  | nd i p => exact ⟨o, hl, hb⟩
  | fl k p =>
   obtain ⟨f, h1, _⟩ := hl
   by_cases e : k = κ
   ·subst e
    rw [Fl.set_eq] at h1
    cases h1
    simp [baseOf, Fl.set_eq] at hb
   ·rw [Fl.set_ne _ _ e] at h1; cases h1
theorem Rel.ownNew (R : Rel Γ w0 A O0 ν0 N Fl.emp D st ν tm w) {w' : World} {g : Nat} (W : WStep Γ w w' g) (hg : w.heap.size ≤ g) {c : Array Value} {ety : TypeId}
  (hc : w'.heap[g]? = some (.cells c ety (0, 0))) {xs : List Int} (hsz : xs.length ≤ c.size) (hv : ∀ (i : Nat) (x : Int), xs[i]? = some x → c[i]? = some (Value.int .i64 x)) (κ : FK) :
  Rel Γ w0 A O0 ν0 N (Fl.emp.set κ (some ⟨fun q => match q with | none => some (g, 0) | some _ => none, 1, xs.map iV⟩)) D st ν tm w' := by
 refine R.compose W (fun _ => False) κ (.inl rfl) ⟨fun q => match q with | none => some (g, 0) | some _ => none, 1, xs.map iV⟩ none (fun _ _ => (κ, none)) ⟨0, rfl⟩ (.inl ⟨rfl, hg⟩)
  ?_ ?_ ?_ (fun _ h => by cases h) (Fl.set_eq _ _ _) (fun _ _ h => h.elim) (fun k hk _ => Fl.set_ne _ _ hk)
 ·refine ⟨c, ety, hc, by simpa using hsz, fun _ e he => ?_, fun h => h.elim, fun i j l hl => ?_⟩
  ·obtain ⟨x, _, rfl⟩ := List.mem_map.1 he
   rfl
  ·obtain ⟨x, hx, rfl, rfl⟩ := V8 hl
   exact ⟨_, by simpa using hv i x hx, RS.data _ _ (.val _)⟩
 ·intro i j s' es' hl
  obtain ⟨x, _, _, h⟩ := V8 hl
  cases h
 ·intro i j i' j' s1 e1 s2 e2 hl
  obtain ⟨x, _, _, h⟩ := V8 hl
  cases h
theorem a5i {κ : FK} {f : Flo} {res : AV} (h1 : D8 f.es = true) (h2 : C8 f.es = false) : b9z (Fl.emp.set κ (some f)) res := by
 intro k f' hf
 by_cases e : k = κ
 ·subst e
  rw [Fl.set_eq] at hf
  cases hf
  exact ⟨h1, fun _ => h2⟩
 ·rw [Fl.set_ne _ _ e] at hf; cases hf
theorem a6m (xs : List Int) : C8 (xs.map iV) = false := by
 induction xs with
 | nil => rfl
 | cons x xs ih => simp [C8, hasList]
theorem Rel.stay (R : Rel Γ w0 A O0 ν0 N F D st ν tm w) {w' : World} {bt : Nat} (W : WStep Γ w w' bt) (hbt : w.heap.size ≤ bt) : Rel Γ w0 A O0 ν0 N F D st ν tm w' := by
 have E := R.extW W
 refine R.world W (.inr hbt) (fun _ => rfl) E (fun id g m s es h => R.objW W (.inr hbt) E h rfl fun p b o hp hb => ?_) R.frozen (fun k f hf => R.floW W (.inr hbt) E hf fun p b o hp hb => ?_) id (fun _ => False)
  (fun k b o hl hb => .inl ⟨fun h => h, o, hl, hb⟩) (fun _ _ _ _ _ _ h => h) (fun _ _ h => h.elim) R.io
 ·have := R.hlt h hp hb; omega
 ·have := R.live_lt (k := .fl k p) ⟨f, hf, hp⟩ (by simp only [baseOf, hf]; exact hb); omega
theorem a7t (hmo : ¬ Γ.mo) {f : Nat} {md : Nat → Nat} (xs : List Int) (hx : xs.length ≤ M1) {E : TypeId}
  (hcl : ∀ (w : World) (a : Option Addr) (n c : Nat) (news : List Value), news.length = n → n ≤ M1 → (n ≠ 0 → ∃ b o, a = some ⟨b, o, none⟩ ∧ ∀ (j : Nat) u, news[j]? = some u → w.cell? ⟨b, o + j, none⟩ = some u) →
   (∀ u ∈ news, ∃ x, u = Value.int .i64 x) →
   Calls P f #[.slice a n c] w fun e w' => ∃ v', e = .returned v' ∧ w'.ownsRow w.heap.size E 1 v' n news ∧ Below w.heap.size w w') :
  T3 Γ P md f [.list (xs.map iV)] (.own 1 (xs.map iV)) [] := by
 intro w A O0 ν0 D vals hOA R hA
 have h0 := R.slots 0 (by simp)
 have hsz : vals.size = 1 := by simpa using R.size
 obtain ⟨v, rfl⟩ : ∃ v, vals = #[v] := by
  match vals, hsz with
  | ⟨[v]⟩, _ => exact ⟨v, rfl⟩
 have hv : RV w D (.list (xs.map iV)) v := RS.list_inv h0
 cases hv with
 | list _ a cap b o s c hcap ha hs hc hl =>
  have R0 := R.noSlots
  rw [List.length_map] at hcap ⊢
  refine (hcl w a xs.length cap (xs.map (Value.int .i64)) (by simp) hx (fun hne => ?_) (fun u hu => ?_)).mono ?_
  ·have hne' : xs.map iV ≠ [] := by
    intro h
    exact hne (by simpa using congrArg List.length h)
   obtain ⟨rfl, _, _⟩ := ha hne'
   refine ⟨b, o, rfl, fun j u hj => ?_⟩
   rw [List.getElem?_map] at hj
   cases hxj : xs[j]? with
   | none => simp [hxj] at hj
   | some x =>
    simp only [hxj, Option.map_some, Option.some.injEq] at hj
    subst hj
    have hlf : leafAt (xs.map iV) j 0 = some (iV x) := by
     unfold leafAt
     rw [List.getElem?_map, hxj]
     rfl
    have h1 := hc j 0 _ hlf
    have h2 := hl j 0 _ hlf
    have hs1 : s = 1 := (hs (iV x) (List.mem_map.2 ⟨x, List.mem_of_getElem? hxj, rfl⟩)).symm
    subst hs1
    have h3 : c j 0 = Value.int .i64 x := by
     generalize c j 0 = u at h2
     cases h2
     rfl
    rw [h3] at h1
    simpa using h1
  ·obtain ⟨x, _, rfl⟩ := List.mem_map.1 hu
   exact ⟨x, rfl⟩
  ·rintro e w' ⟨v', rfl, ⟨hlen, hown⟩, hB⟩
   have hn1 : D8 (xs.map iV) = true := B8 fun _ => rfl
   rcases hown with ⟨rfl, hn⟩ | ⟨g, cap', cur, rfl, hg, hcell, hcap', _, hcs, htk⟩
   ·have hxs : xs = [] := List.length_eq_zero_iff.1 hn
    subst hxs
    refine ⟨_, rfl, _, D, _, ν0, (R0.stay (a1i (fun h => (hmo h).elim) hB (bt := w.heap.size)) (Nat.le_refl _)).ownEmpty (5, 0, 0) 1, rfl, .inr (.inr (.inr (.inl ⟨1, [], fun _ => none, rfl, Fl.set_eq _ _ _, rfl, ?_⟩))), a5i rfl rfl⟩
    exact ⟨none, 0, rfl, Nat.le_refl _, .inl rfl⟩
   ·have hv' : ∀ (i : Nat) (x : Int), xs[i]? = some x → cur[i]? = some (Value.int .i64 x) := by
     intro i x hi
     have h1 : (cur.toList.take (xs.length * 1))[i]? = some (Value.int .i64 x) := by rw [htk, List.getElem?_map, hi]; rfl
     have hlt : i < xs.length := (List.getElem?_eq_some_iff.1 hi).1
     rw [List.getElem?_take, if_pos (by omega)] at h1
     simpa using h1
    refine ⟨_, rfl, _, D, _, ν0, R0.ownNew (a1i (fun h => (hmo h).elim) hB) hg hcell (by omega) hv' (5, 0, 0), rfl, .inr (.inr (.inr (.inl ⟨1, xs.map iV, _, rfl, Fl.set_eq _ _ _, hn1, ?_⟩))), a5i hn1 (a6m xs)⟩
    refine ⟨_, cap', by rw [List.length_map], by rw [List.length_map]; exact hcap', .inr ⟨g, 0, rfl, by simp, ?_⟩⟩
    have : csize w' g = cur.size := by unfold csize; rw [hcell]
    rw [this, hcs]
    simp
theorem RN.ints {L : AV → Value → Prop} {φ : Path → Base} {b o : Nat} {xs : List Int} {w : World} {bx : Prop} (h : RN w L φ (some (b, o)) bx 1 (xs.map iV)) (hL : ∀ x v, L (iV x) v → v = Value.int .i64 x) :
  ∃ c ety, w.heap[b]? = some (.cells c ety (0, 0)) ∧ o + xs.length ≤ c.size ∧ ∀ (i : Nat) (x : Int), xs[i]? = some x → c[o + i]? = some (Value.int .i64 x) := by
 obtain ⟨c, ety, h1, h2, _, _, h3⟩ := h
 refine ⟨c, ety, h1, by simpa using h2, fun i x hi => ?_⟩
 have hlf : leafAt (xs.map iV) i 0 = some (iV x) := by
  unfold leafAt
  rw [List.getElem?_map, hi]
  rfl
 obtain ⟨v, hv, hr⟩ := h3 i 0 _ hlf
 rw [hL x v hr] at hv
 simpa using hv
theorem a2l {α : Type} [Inhabited α] (enc : α → Value) (off : Nat) (d : Array α) (c : Array Value) : (Sort.putCells enc off d c).size = c.size := by simp [Sort.putCells]
theorem a9f {f : Nat} {md : Nat → Nat} (xs ys : List Int) (hx : xs.length ≤ M1) (hy : ys.length = xs.length) (hmd : md 0 = 1)
  (hnil : ∀ (w : World) (a : Option Addr) (c : Nat), Calls P f #[.slice a 0 c] w fun e w' => e = .returned (.tuple #[]) ∧ w' = w)
  (hrow : ∀ (w : World) (b o c : Nat), Sort.Holds (Value.int .i64) w b o xs.toArray → b < w.heap.size → xs.length ≤ M1 →
   Calls P f #[.slice (some ⟨b, o, none⟩) xs.length c] w fun e w' => e = .returned (.tuple #[]) ∧ ∃ n os, w' = Sort.grow (Sort.putRow (Value.int .i64) (Sort.ahead w n) b o ys.toArray) os) :
  T3 Γ P md f [.own 1 (xs.map iV)] (.tup []) [ys.map iV] := by
 intro w A O0 ν0 D vals hOA R hA
 have h0 := R.slots 0 (by simp)
 have hsz : vals.size = 1 := by simpa using R.size
 obtain ⟨v, rfl⟩ : ∃ v, vals = #[v] := by
  match vals, hsz with
  | ⟨[v]⟩, _ => exact ⟨v, rfl⟩
 have h0' : RS (initLoc md [.own 1 (xs.map iV)]) ν0 w D (.sl 0 1 none 0 (xs.map iV).length) v := h0
 have hob : initLoc md [.own 1 (xs.map iV)] (.h 0) = .obj 1 1 1 (xs.map iV) := by simp [initLoc, hmd]
 have hob2 : noSlots (initLoc md [.own 1 (xs.map iV)]) (.h 0) = .obj 1 1 1 (xs.map iV) := hob
 have hcid : cidAll md 0 [.own 1 (xs.map iV)] = [(0, 1, 1)] := by simp [cidAll, J9, hmd]
 have hres : ∀ {F : Fl} {D : Nat → Prop} {w : World}, a1v F D w (.tup []) (.tuple #[]) := .inl ⟨[], #[], rfl, rfl, rfl, fun k l h => by simp at h⟩
 obtain ⟨⟨a, cap, rfl, hcap⟩, _, _, hS⟩ := h0'.sl_inv
 have hS := hS 1 1 (xs.map iV) (by unfold nodeAt; rw [hob]; simp)
 have R0 := R.noSlots
 rw [List.length_map] at hcap hS ⊢
 by_cases hn : xs = []
 ·subst hn
  have hy0 : ys = [] := List.length_eq_zero_iff.1 hy
  subst hy0
  refine (hnil w a cap).mono ?_
  rintro e w' ⟨rfl, rfl⟩
  refine ⟨_, rfl, Fl.emp, D, _, ν0, R0, ?_, hres, fun _ _ h => by cases h⟩
  rw [hcid]
  unfold outsOf
  rw [hob2]
  simp [outsOf, H9]
 ·obtain ⟨a', cap', he, _, hb⟩ := hS
  cases he
  have hpos : 0 < xs.length := List.length_pos_iff.2 hn
  rcases hb with hb | ⟨b, o, hν, ha, hbd⟩
  ·omega
  ·rw [Nat.zero_mul, Nat.add_zero] at ha
   subst ha
   have hRO := R0.objs 0 1 1 1 (xs.map iV) hob2
   have hT := hRO.top
   rw [hν] at hT
   obtain ⟨c, ety, hc1, hc2, hc3⟩ := RN.ints hT (fun x v h => by cases h with | data _ _ h => cases h; rfl)
   have hblt : b < w.heap.size := (Array.getElem?_eq_some_iff.1 hc1).1
   refine (hrow w b o cap (fun j hj => ?_) hblt hx).mono ?_
   ·have hj' : j < xs.length := by simpa using hj
    have hget := hc3 j (xs[j]'hj') (List.getElem?_eq_getElem hj')
    refine ⟨?_, ?_⟩
    ·unfold World.cell?
     simp only [hc1]
     simp [hget, hj']
    ·unfold World.frozen?
     simp only [hc1]
     simp
   ·rintro e w' ⟨rfl, n, os, rfl⟩
    have hheap : ∀ k, k < w.heap.size → (Sort.grow (Sort.putRow (Value.int .i64) (Sort.ahead w n) b o ys.toArray) os).heap[k]? =
      if k = b then some (.cells (Sort.putCells (Value.int .i64) o ys.toArray c) ety (0, 0)) else w.heap[k]? := by
     intro k hk
     have h1 : k < (Sort.putRow (Value.int .i64) (Sort.ahead w n) b o ys.toArray).heap.size := by simpa [Sort.ahead] using hk
     simp only [Sort.grow]
     rw [Array.getElem?_append_left h1]
     simp only [Sort.putRow, Sort.mapBlock, Sort.ahead, Array.getElem?_modify]
     by_cases e : b = k
     ·subst e
      simp [hc1, Sort.onCells]
     ·rw [if_neg e, if_neg (fun h => e h.symm)]
    have W : WStep Γ w (Sort.grow (Sort.putRow (Value.int .i64) (Sort.ahead w n) b o ys.toArray) os) b := by
     refine ⟨by simp [Sort.grow, Sort.ahead], rfl, rfl, rfl, fun _ => by simp [Sort.grow, Sort.putRow, Sort.mapBlock, Sort.ahead], fun k hk hne => ?_, fun k hk => ?_⟩
     ·rw [hheap k hk, if_neg hne]
     ·unfold csize
      rw [hheap k hk]
      by_cases e : k = b
      ·subst e
       rw [if_pos rfl, hc1]
       exact a2l _ _ _ _
      ·rw [if_neg e]
    have hRN : RN (Sort.grow (Sort.putRow (Value.int .i64) (Sort.ahead w n) b o ys.toArray) os) (RS (noSlots (initLoc md [.own 1 (xs.map iV)])) ν0 w D) (ν0 0) (ν0 0 none) (1 = 3 ∨ 1 = 4) 1 (ys.map iV) := by
     rw [hν]
     refine ⟨_, ety, by rw [hheap b hblt, if_pos rfl], ?_, fun _ e he => ?_, fun h => by simp at h, fun i j l hl => ?_⟩
     ·rw [a2l, List.length_map, hy]; omega
     ·obtain ⟨x, _, rfl⟩ := List.mem_map.1 he
      rfl
     ·obtain ⟨x, hx', rfl, rfl⟩ := V8 hl
      have hi : i < ys.length := (List.getElem?_eq_some_iff.1 hx').1
      refine ⟨.int .i64 x, ?_, RS.data _ _ (.val _)⟩
      have hxi : ys[i] = x := by rw [List.getElem?_eq_getElem hi] at hx'; exact Option.some.inj hx'
      have hlt : o + i < c.size := by omega
      simp only [Sort.putCells, Nat.mul_one, Nat.add_zero, Array.getElem?_mapIdx]
      rw [Array.getElem?_eq_getElem hlt]
      simp [hi, hxi]
    obtain ⟨R1, _⟩ := R0.storeTop W hob2 (by decide) ⟨o, hν⟩ (ν0 0) rfl hRN (fun i j h => by obtain ⟨x, _, _, h⟩ := V8 h; cases h) (fun _ _ => False) (fun _ _ => (0, 0, 0)) (fun _ => False)
     (fun i j s' es2 h => by obtain ⟨x, _, _, h⟩ := V8 h; cases h) (fun i j i' j' s1 e1 s2 e2 _ _ h => h.elim) (fun _ => rfl) (F' := Fl.emp) (fun k h => h.elim) (fun k _ => rfl)
    refine ⟨_, rfl, Fl.emp, D, _, _, R1, ?_, hres, fun _ _ h => by cases h⟩
    rw [hcid]
    have hi : H9 (ys.map iV) = true := a1z fun _ => rfl
    simp [outsOf, St.upd_eq, hi]
end
end Go.Mv
end

section
namespace Go.Mv
open Go Go.RowKit Go.ChangeShapes Go.WideShapes Go.ChangeAt
def dataArg : AV → Bool
 | .val _ => true
 | .nil => true
 | .list _ => true
 | .agg _ => true
 | _ => false
theorem b2s {md : Nat → Nat} {av : List AV} (hk : ∀ a ∈ av, dataArg a = true) :
  (∀ i, initLoc md av (.t i) = av.getD i .undef) ∧ ∀ i, initLoc md av (.h i) = .undef := by
 have hk' : ∀ i a, av[i]? = some a → dataArg a = true := fun i a h => hk a (List.mem_of_getElem? h)
 refine ⟨fun i => ?_, fun i => ?_⟩
 ·rw [List.getD_eq_getElem?_getD]
  have := hk' i
  unfold initLoc
  show (match av[i]? with
   | some (AV.own s es) => AV.sl i 1 none 0 es.length
   | some (AV.ownp es a b) => AV.ptr i 1 none a b
   | some (AV.clo f caps) => AV.clo f (initCaps i 0 caps)
   | some a => a
   | none => AV.undef) = _
  split <;> rename_i h
  ·rw [h] at this; simp [dataArg] at this
  ·rw [h] at this; simp [dataArg] at this
  ·rw [h] at this; simp [dataArg] at this
  ·rw [h]; rfl
  ·rw [h]; rfl
 ·have h1 := hk' i
  have h2 := hk' (i % 100000)
  unfold initLoc
  simp only
  split
  ·split
   ·rename_i h; rw [h] at h1; simp [dataArg] at h1
   ·rename_i h; rw [h] at h1; simp [dataArg] at h1
   ·rfl
  ·split
   ·rename_i h; rw [h] at h2; simp [dataArg] at h2
   ·rfl
theorem b8f {Γ : Env} (cx : Cx) (hS : SoundC Γ cx (CW cx)) {f : Nat} {av : List AV} {vals : Array Value} {w : World} {v : Value} (hsz : vals.size = av.length)
  (hd : ∀ i a, av[i]? = some a → RV w (fun b => b < w.heap.size) a (vals.getD i undef)) (hk : ∀ a ∈ av, dataArg a = true) (h : CW cx f av = some (.val v, [])) (hg : ∀ b, Γ.gb b → b < w.heap.size) (hG : Γ.G w) :
  Calls cx.P f vals w fun e w' => e = .returned v ∧ Below w.heap.size w w' ∧ (Γ.mo → w.drawn ≤ w'.drawn) := by
 obtain ⟨hT, hH⟩ := b2s (md := cx.md f) hk
 have nolive : ∀ k, ¬ live (initLoc (cx.md f) av) Fl.emp k := by
  intro k hl
  cases k with
  | nd i p => obtain ⟨g, m, s, es, h1, _⟩ := hl; rw [hH] at h1; cases h1
  | fl k p => obtain ⟨f, h1, _⟩ := hl; cases h1
 have R : Rel Γ w (fun _ => True) (fun _ => False) (fun _ _ => none) av.length Fl.emp (fun b => b < w.heap.size) (initLoc (cx.md f) av) (fun _ _ => none) vals w := by
  refine ⟨hsz, fun i hi => ?_, fun i hi => ?_, fun id g m s es h1 => ?_, fun id g s es h1 => ?_, fun k f h1 => ?_, fun k1 k2 b o1 o2 h1 => (nolive _ h1).elim, fun b hb ⟨k, o, h1, _⟩ => nolive _ h1, fun b hb => .inl trivial, fun b hb => ⟨hb, fun h => by rcases h with h | h; (· have : b < w.heap.size := hb; omega); (· exact h.elim)⟩,
   fun b ⟨k, o, h1, _⟩ => (nolive _ h1).elim, Nat.le_refl _, rfl, rfl, rfl, fun _ => Nat.le_refl _, fun b _ _ => rfl, fun b _ => rfl, fun id g m s es h1 => ?_, fun b hb => ⟨fun h => h, hg b hb⟩, hG⟩
  ·rw [hT, List.getD_eq_getElem?_getD, List.getElem?_eq_getElem hi]
   exact .data _ _ (hd i _ (List.getElem?_eq_getElem hi))
  ·rw [hT, List.getD_eq_getElem?_getD, List.getElem?_eq_none hi]; rfl
  ·rw [hH] at h1; cases h1
  ·rw [hH] at h1; cases h1
  ·cases h1
  ·rw [hH] at h1; cases h1
 obtain ⟨hC, _⟩ := hS.2 f av _ _ h
 refine (hC w _ _ _ _ vals (fun _ h => h.elim) R (fun a ha => ?_)).mono ?_
 ·obtain ⟨i, hi⟩ := List.mem_iff_getElem?.1 ha
  have h1 := hd i a hi
  have h2 := hk a ha
  cases a <;> first
   | exact ⟨_, h1⟩
   | simp [dataArg] at h2
 ·rintro e w' ⟨v', rfl, F', D', st', ν', R', _, hres, _⟩
  refine ⟨?_, ⟨R'.os, R'.tape, R'.output, R'.le, fun k hk => R'.fr k hk (fun h => h)⟩, R'.dr⟩
  rcases hres with ⟨vs, cs, h1, _⟩ | ⟨fs, cs, h1, _⟩ | ⟨es, j, φ, b, o, h1, _⟩ | ⟨s, es, φ, h1, _⟩ | ⟨_, h1⟩
  ·cases h1
  ·cases h1
  ·cases h1
  ·cases h1
  ·cases h1; rfl
theorem c1m {Γ : Env} (cx : Cx) (hS : SoundC Γ cx (CW cx)) {f : Nat} {av : List AV} {vals : Array Value} {w : World} {v : Value} (hsz : vals.size = av.length)
  (hd : ∀ i a, av[i]? = some a → RV w (fun b => b < w.heap.size) a (vals.getD i undef)) (hk : ∀ a ∈ av, dataArg a = true) (h : CW cx f av = some (.val v, [])) (hg : ∀ b, Γ.gb b → b < w.heap.size) (hG : Γ.G w) :
  Calls cx.P f vals w fun e w' => e = .returned v ∧ Below w.heap.size w w' :=
 (b8f cx hS hsz hd hk h hg hG).mono fun _ _ h => ⟨h.1, h.2.1⟩
def Env.none (mo : Prop) : Env := ⟨mo, fun _ => False, fun _ => True, fun _ _ _ h => h⟩
section
variable {H : Type} {enc : TypeId × Value → H} {P : Program} {W W' : World}
theorem a2p (hl : laidOutB P = true) (hB : Below W.heap.size W W') : ∀ {ts : List TypeId} {vs : List Value} {ds : List (DataW H)} {ps : List MemPlace},
  (∀ t ∈ ts, P.readableRec t = true ∧ t < P.types.size) → DataW.TrodAll enc P W 0 (fun _ => true) true ts vs ds ps → (∀ x ∈ ps, x.block < W.heap.size) →
  DataW.TrodAll enc P W' 0 (fun b => decide (b < W.heap.size)) true ts vs ds ps
 | [], [], [], _, _, h, _ => h
 | [], [], _ :: _, _, _, h, _ => h.elim
 | [], _ :: _, _, _, _, h, _ => h.elim
 | _ :: _, [], _, _, _, h, _ => h.elim
 | _ :: _, _ :: _, [], _, _, h, _ => h.elim
 | t :: ts, v :: vs, d :: ds, ps, hr, h, hlt => by
  obtain ⟨p, q, h1, h2, rfl⟩ := h
  obtain ⟨hr1, hr2⟩ := hr t (List.mem_cons_self ..)
  exact ⟨p, q, Below.trod hl hr1 hr2 h1 hB (fun x hx => hlt x (List.mem_append_left _ hx)), a2p hl hB (fun t ht => hr t (List.mem_cons_of_mem _ ht)) h2 (fun x hx => hlt x (List.mem_append_right _ hx)), rfl⟩
theorem c2s {f : Func} {s : ChangeSpec} {apart fresh : Bool} {args : Array Value} {ds gs : List (DataW H)} {before : List MemPlace} {tb : TypeId} (hl : laidOutB P = true)
  (hr : ∀ t ∈ f.params.toList, P.readableRec t = true ∧ t < P.types.size) (hW : DataW.Whole enc P f.params.toList s.vars apart W args.toList ds gs before) (hB : Below W.heap.size W W')
  (hv : s.vars = []) (hres : f.resultTypes = #[tb]) (hb : P.underlying tb = some .bool) (h1 : (s.fn H ds).results = [.lit (.bool true)]) (h2 : (s.fn H ds).args = ds) (h3 : (s.fn H ds).vars = []) :
  s.post enc P f apart fresh false false W args (.bool true) W' := by
 have hW0 := hW
 obtain ⟨p, q, hA, hV, rfl, hz, hn⟩ := hW
 rw [hv] at hV
 obtain ⟨rfl, rfl⟩ := trodVars_none hV
 have e : ds ++ [] = ds := List.append_nil _
 refine ⟨ds, [], p ++ [], [], p, [], hW0, ?_, ?_, ?_, hB.frame _, fun h => by cases h⟩
 ·rw [e, h1, hres]
  exact trodAll_mk1 (shut_bool hb _)
 ·rw [e, h2]
  exact a2p hl hB hr hA fun x hx => hW0.lt x (List.mem_append_left _ hx)
 ·rw [e, h3, hv]
  rfl
theorem c6a {t e : TypeId} {k : IntKind} {v : Value} {d : DataW H} {p : List MemPlace} (ht : P.underlying t = some (.slice e)) (he : P.underlying e = some (.int k)) (hc : P.cellsOf e = 1)
  (hv : ∃ a n c, v = .slice a n c) (h : DataW.Trod enc P W 0 (fun _ => true) true t v d p) :
  ∃ xs : List Int, RV W (fun b => b < W.heap.size) (.list (xs.map fun x => .val (.int k x))) v ∧ ∀ x ∈ xs, (Lit.int k x).wf = true := by
 obtain ⟨a1, n, c, rfl⟩ := hv
 obtain ⟨fuel, hf⟩ := h
 rcases open_ints ht he hc hf with ⟨hcs, _⟩ | ⟨a, len, cap, zs, hcs, _, hl, _, hz, _, hcell, hwf⟩
 ·cases (show [Value.slice a1 n c] = [.slice none 0 0] from hcs)
  exact ⟨[], .list [] none 0 0 0 1 (fun _ _ => undef) (Nat.le_refl _) (fun h => (h rfl).elim) (fun _ h => by simp at h) (fun i j l h => by simp [leafAt] at h) (fun i j l h => by simp [leafAt] at h), fun _ h => by simp at h⟩
 ·cases (show [Value.slice a1 n c] = [.slice (some a) len cap] from hcs)
  simp at hz
  refine ⟨zs.take n, ?_, fun x hx => hwf x (List.mem_of_mem_take hx)⟩
  have hlen : (zs.take n).length = n := by simp; omega
  have hleaf : ∀ i j l, leafAt ((zs.take n).map fun x => AV.val (.int k x)) i j = some l → i < n ∧ j = 0 ∧ l = .val (.int k (zs.getD i 0)) := by
   intro i j l h
   unfold leafAt at h
   rw [List.getElem?_map] at h
   cases hx : (zs.take n)[i]? with
   | none => simp [hx] at h
   | some x =>
    have hi : i < n := by have := (List.getElem?_eq_some_iff.1 hx).1; omega
    rw [List.getElem?_take, if_pos hi] at hx
    have hx' : (zs.take n)[i]? = some x := by rw [List.getElem?_take, if_pos hi]; exact hx
    simp only [hx', Option.map_some] at h
    cases j with
    | zero => simp [leaves] at h; exact ⟨hi, rfl, by rw [List.getD_eq_getElem?_getD, hx]; exact h.symm⟩
    | succ j => simp [leaves] at h
  have hsp : 0 < n → a = ⟨a.block, a.off, none⟩ ∧ a.block < W.heap.size := by
   intro hn
   have h0 := hcell 0 (by omega)
   have ea : a.add 0 = a := rfl
   rw [ea] at h0
   unfold World.cell? at h0
   split at h0
   ·rename_i cc _ _ hh
    split at h0
    ·cases h0
    ·rename_i hs
     refine ⟨?_, (Array.getElem?_eq_some_iff.1 hh).1⟩
     obtain ⟨b, o, s⟩ := a
     cases s
     ·rfl
     ·simp at hs
   ·cases h0
  have := RV.list (w := W) (D := fun b => b < W.heap.size) ((zs.take n).map fun x => AV.val (.int k x)) (some a) c a.block a.off 1 (fun i _ => .int k (zs.getD i 0)) (by simp; omega) (fun hne => ?_) (fun e he => ?_) (fun i j l h => ?_) (fun i j l h => ?_)
  ·rw [List.length_map, hlen] at this
   exact this
  ·have hn : 0 < n := by
    rcases Nat.eq_zero_or_pos n with h | h
    ·subst h; simp at hne
    ·exact h
   obtain ⟨h1, h2⟩ := hsp hn
   exact ⟨congrArg some h1, h2, h2⟩
  ·obtain ⟨x, _, rfl⟩ := List.mem_map.1 he
   rfl
  ·obtain ⟨hi, rfl, rfl⟩ := hleaf i j l h
   have h1 := hcell i (by omega)
   have ea := (hsp (by omega)).1
   rw [ea] at h1
   rw [U0] at h1
   simpa using h1
  ·obtain ⟨hi, rfl, rfl⟩ := hleaf i j l h
   exact .val _
end
end Go.Mv
end
