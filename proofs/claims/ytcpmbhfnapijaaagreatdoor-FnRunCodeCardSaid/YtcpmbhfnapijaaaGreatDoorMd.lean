/- The abstract machine, part 4 of 4: it runs the model's code on abstract values and is proved sound over any program. Conditions: none. -/
import Derived.Lib.AtoiAll
import Derived.OpenShut
import Derived.ProofKit
import Derived.Test.YtcpmbhfnapijaaaGreatDoorMc

set_option linter.unusedVariables false
set_option linter.unusedSimpArgs false
section
namespace Go.Mv
open Go Go.RowKit Go.ChangeShapes Go.WideShapes Go.ChangeAt
def dataArg : AV → Bool
 | .val _ => true
 | .nil => true
 | .list _ => true
 | .agg _ => true
 | _ => false
theorem b7p {md : Nat → Nat} {av : List AV} (hk : ∀ a ∈ av, dataArg a = true) :
  (∀ i, initLoc md av (.t i) = av.getD i .undef) ∧ ∀ i, initLoc md av (.h i) = .undef := by
 have hk' : ∀ i a, av[i]? = some a → dataArg a = true := fun i a h => hk a (List.mem_of_getElem? h)
 refine ⟨fun i => ?_, fun i => ?_⟩
 ·rw [List.getD_eq_getElem?_getD]
  have := hk' i
  unfold initLoc
  show (match av[i]? with
   | some (AV.own s es) => AV.sl i 1 none 0 es.length
   | some (AV.ownp es a b) => AV.ptr i 1 none a b
   | some (AV.clo f caps) => AV.clo f (initCaps i 0 caps)
   | some a => a
   | none => AV.undef) = _
  split <;> rename_i h
  ·rw [h] at this; simp [dataArg] at this
  ·rw [h] at this; simp [dataArg] at this
  ·rw [h] at this; simp [dataArg] at this
  ·rw [h]; rfl
  ·rw [h]; rfl
 ·have h1 := hk' i
  have h2 := hk' (i % 100000)
  unfold initLoc
  simp only
  split
  ·split
   ·rename_i h; rw [h] at h1; simp [dataArg] at h1
   ·rename_i h; rw [h] at h1; simp [dataArg] at h1
   ·rfl
  ·split
   ·rename_i h; rw [h] at h2; simp [dataArg] at h2
   ·rfl
theorem c3n {Γ : Env} (cx : Cx) (hS : SoundC Γ cx (CW cx)) {f : Nat} {av : List AV} {vals : Array Value} {w : World} {v : Value} (hsz : vals.size = av.length)
  (hd : ∀ i a, av[i]? = some a → RV w (fun b => b < w.heap.size) a (vals.getD i undef)) (hk : ∀ a ∈ av, dataArg a = true) (h : CW cx f av = some (.val v, [])) (hg : ∀ b, Γ.gb b → b < w.heap.size) (hG : Γ.G w) :
  Calls cx.P f vals w fun e w' => e = .returned v ∧ Below w.heap.size w w' ∧ (Γ.mo → w.drawn ≤ w'.drawn) := by
 obtain ⟨hT, hH⟩ := b7p (md := cx.md f) hk
 have nolive : ∀ k, ¬ live (initLoc (cx.md f) av) Fl.emp k := by
  intro k hl
  cases k with
  | nd i p => obtain ⟨g, m, s, es, h1, _⟩ := hl; rw [hH] at h1; cases h1
  | fl k p => obtain ⟨f, h1, _⟩ := hl; cases h1
 have R : Rel Γ w (fun _ => True) (fun _ => False) (fun _ _ => none) av.length Fl.emp (fun b => b < w.heap.size) (initLoc (cx.md f) av) (fun _ _ => none) vals w := by
  refine ⟨hsz, fun i hi => ?_, fun i hi => ?_, fun id g m s es h1 => ?_, fun id g s es h1 => ?_, fun k f h1 => ?_, fun k1 k2 b o1 o2 h1 => (nolive _ h1).elim, fun b hb ⟨k, o, h1, _⟩ => nolive _ h1, fun b hb => .inl trivial, fun b hb => ⟨hb, fun h => by rcases h with h | h; (· have : b < w.heap.size := hb; omega); (· exact h.elim)⟩,
   fun b ⟨k, o, h1, _⟩ => (nolive _ h1).elim, Nat.le_refl _, rfl, rfl, rfl, fun _ => Nat.le_refl _, fun b _ _ => rfl, fun b _ => rfl, fun id g m s es h1 => ?_, fun b hb => ⟨fun h => h, hg b hb⟩, hG⟩
  ·rw [hT, List.getD_eq_getElem?_getD, List.getElem?_eq_getElem hi]
   exact .data _ _ (hd i _ (List.getElem?_eq_getElem hi))
  ·rw [hT, List.getD_eq_getElem?_getD, List.getElem?_eq_none hi]; rfl
  ·rw [hH] at h1; cases h1
  ·rw [hH] at h1; cases h1
  ·cases h1
  ·rw [hH] at h1; cases h1
 obtain ⟨hC, _⟩ := hS.2 f av _ _ h
 refine (hC w _ _ _ _ vals (fun _ h => h.elim) R (fun a ha => ?_)).mono ?_
 ·obtain ⟨i, hi⟩ := List.mem_iff_getElem?.1 ha
  have h1 := hd i a hi
  have h2 := hk a ha
  cases a <;> first
   | exact ⟨_, h1⟩
   | simp [dataArg] at h2
 ·rintro e w' ⟨v', rfl, F', D', st', ν', R', _, hres, _⟩
  refine ⟨?_, ⟨R'.os, R'.tape, R'.output, R'.le, fun k hk => R'.fr k hk (fun h => h)⟩, R'.dr⟩
  rcases hres with ⟨vs, cs, h1, _⟩ | ⟨fs, cs, h1, _⟩ | ⟨es, j, φ, b, o, h1, _⟩ | ⟨s, es, φ, h1, _⟩ | ⟨_, h1⟩
  ·cases h1
  ·cases h1
  ·cases h1
  ·cases h1
  ·cases h1; rfl
theorem c7l {Γ : Env} (cx : Cx) (hS : SoundC Γ cx (CW cx)) {f : Nat} {av : List AV} {vals : Array Value} {w : World} {v : Value} (hsz : vals.size = av.length)
  (hd : ∀ i a, av[i]? = some a → RV w (fun b => b < w.heap.size) a (vals.getD i undef)) (hk : ∀ a ∈ av, dataArg a = true) (h : CW cx f av = some (.val v, [])) (hg : ∀ b, Γ.gb b → b < w.heap.size) (hG : Γ.G w) :
  Calls cx.P f vals w fun e w' => e = .returned v ∧ Below w.heap.size w w' :=
 (c3n cx hS hsz hd hk h hg hG).mono fun _ _ h => ⟨h.1, h.2.1⟩
def Env.none (mo : Prop) : Env := ⟨mo, fun _ => False, fun _ => True, fun _ _ _ h => h⟩
section
variable {H : Type} {enc : TypeId × Value → H} {P : Program} {W W' : World}
theorem a5r (hl : laidOutB P = true) (hB : Below W.heap.size W W') : ∀ {ts : List TypeId} {vs : List Value} {ds : List (DataW H)} {ps : List MemPlace},
  (∀ t ∈ ts, P.readableRec t = true ∧ t < P.types.size) → DataW.TrodAll enc P W 0 (fun _ => true) true ts vs ds ps → (∀ x ∈ ps, x.block < W.heap.size) →
  DataW.TrodAll enc P W' 0 (fun b => decide (b < W.heap.size)) true ts vs ds ps
 | [], [], [], _, _, h, _ => h
 | [], [], _ :: _, _, _, h, _ => h.elim
 | [], _ :: _, _, _, _, h, _ => h.elim
 | _ :: _, [], _, _, _, h, _ => h.elim
 | _ :: _, _ :: _, [], _, _, h, _ => h.elim
 | t :: ts, v :: vs, d :: ds, ps, hr, h, hlt => by
  obtain ⟨p, q, h1, h2, rfl⟩ := h
  obtain ⟨hr1, hr2⟩ := hr t (List.mem_cons_self ..)
  exact ⟨p, q, Below.trod hl hr1 hr2 h1 hB (fun x hx => hlt x (List.mem_append_left _ hx)), a5r hl hB (fun t ht => hr t (List.mem_cons_of_mem _ ht)) h2 (fun x hx => hlt x (List.mem_append_right _ hx)), rfl⟩
theorem d0o {f : Func} {s : ChangeSpec} {apart fresh : Bool} {args : Array Value} {ds gs : List (DataW H)} {before : List MemPlace} {tb : TypeId} (hl : laidOutB P = true)
  (hr : ∀ t ∈ f.params.toList, P.readableRec t = true ∧ t < P.types.size) (hW : DataW.Whole enc P f.params.toList s.vars apart W args.toList ds gs before) (hB : Below W.heap.size W W')
  (hv : s.vars = []) (hres : f.resultTypes = #[tb]) (hb : P.underlying tb = some .bool) (h1 : (s.fn H ds).results = [.lit (.bool true)]) (h2 : (s.fn H ds).args = ds) (h3 : (s.fn H ds).vars = []) :
  s.post enc P f apart fresh false false W args (.bool true) W' := by
 have hW0 := hW
 obtain ⟨p, q, hA, hV, rfl, hz, hn⟩ := hW
 rw [hv] at hV
 obtain ⟨rfl, rfl⟩ := trodVars_none hV
 have e : ds ++ [] = ds := List.append_nil _
 refine ⟨ds, [], p ++ [], [], p, [], hW0, ?_, ?_, ?_, hB.frame _, fun h => by cases h⟩
 ·rw [e, h1, hres]
  exact trodAll_mk1 (shut_bool hb _)
 ·rw [e, h2]
  exact a5r hl hB hr hA fun x hx => hW0.lt x (List.mem_append_left _ hx)
 ·rw [e, h3, hv]
  rfl
theorem d3n {t e : TypeId} {k : IntKind} {v : Value} {d : DataW H} {p : List MemPlace} (ht : P.underlying t = some (.slice e)) (he : P.underlying e = some (.int k)) (hc : P.cellsOf e = 1)
  (hv : ∃ a n c, v = .slice a n c) (h : DataW.Trod enc P W 0 (fun _ => true) true t v d p) :
  ∃ xs : List Int, RV W (fun b => b < W.heap.size) (.list (xs.map fun x => .val (.int k x))) v ∧ ∀ x ∈ xs, (Lit.int k x).wf = true := by
 obtain ⟨a1, n, c, rfl⟩ := hv
 obtain ⟨fuel, hf⟩ := h
 rcases open_ints ht he hc hf with ⟨hcs, _⟩ | ⟨a, len, cap, zs, hcs, _, hl, _, hz, _, hcell, hwf⟩
 ·cases (show [Value.slice a1 n c] = [.slice none 0 0] from hcs)
  exact ⟨[], .list [] none 0 0 0 1 (fun _ _ => undef) (Nat.le_refl _) (fun h => (h rfl).elim) (fun _ h => by simp at h) (fun i j l h => by simp [leafAt] at h) (fun i j l h => by simp [leafAt] at h), fun _ h => by simp at h⟩
 ·cases (show [Value.slice a1 n c] = [.slice (some a) len cap] from hcs)
  simp at hz
  refine ⟨zs.take n, ?_, fun x hx => hwf x (List.mem_of_mem_take hx)⟩
  have hlen : (zs.take n).length = n := by simp; omega
  have hleaf : ∀ i j l, leafAt ((zs.take n).map fun x => AV.val (.int k x)) i j = some l → i < n ∧ j = 0 ∧ l = .val (.int k (zs.getD i 0)) := by
   intro i j l h
   unfold leafAt at h
   rw [List.getElem?_map] at h
   cases hx : (zs.take n)[i]? with
   | none => simp [hx] at h
   | some x =>
    have hi : i < n := by have := (List.getElem?_eq_some_iff.1 hx).1; omega
    rw [List.getElem?_take, if_pos hi] at hx
    have hx' : (zs.take n)[i]? = some x := by rw [List.getElem?_take, if_pos hi]; exact hx
    simp only [hx', Option.map_some] at h
    cases j with
    | zero => simp [leaves] at h; exact ⟨hi, rfl, by rw [List.getD_eq_getElem?_getD, hx]; exact h.symm⟩
    | succ j => simp [leaves] at h
  have hsp : 0 < n → a = ⟨a.block, a.off, none⟩ ∧ a.block < W.heap.size := by
   intro hn
   have h0 := hcell 0 (by omega)
   have ea : a.add 0 = a := rfl
   rw [ea] at h0
   unfold World.cell? at h0
   split at h0
   ·rename_i cc _ _ hh
    split at h0
    ·cases h0
    ·rename_i hs
     refine ⟨?_, (Array.getElem?_eq_some_iff.1 hh).1⟩
     obtain ⟨b, o, s⟩ := a
     cases s
     ·rfl
     ·simp at hs
   ·cases h0
  have := RV.list (w := W) (D := fun b => b < W.heap.size) ((zs.take n).map fun x => AV.val (.int k x)) (some a) c a.block a.off 1 (fun i _ => .int k (zs.getD i 0)) (by simp; omega) (fun hne => ?_) (fun e he => ?_) (fun i j l h => ?_) (fun i j l h => ?_)
  ·rw [List.length_map, hlen] at this
   exact this
  ·have hn : 0 < n := by
    rcases Nat.eq_zero_or_pos n with h | h
    ·subst h; simp at hne
    ·exact h
   obtain ⟨h1, h2⟩ := hsp hn
   exact ⟨congrArg some h1, h2, h2⟩
  ·obtain ⟨x, _, rfl⟩ := List.mem_map.1 he
   rfl
  ·obtain ⟨hi, rfl, rfl⟩ := hleaf i j l h
   have h1 := hcell i (by omega)
   have ea := (hsp (by omega)).1
   rw [ea] at h1
   rw [a0a] at h1
   simpa using h1
  ·obtain ⟨hi, rfl, rfl⟩ := hleaf i j l h
   exact .val _
end
section
variable {cx : Cx} {keep : List Nat} {ops0 : Array Oper} {A : Asr} {d : Nat} {ty : Nat} {pos : String} {aft : Array Edge} {r : List Oper} {Q : Asr → List Log → Prop}
theorem c5l {G : Type} {k : Nat} {c : Operand} {caps : List AV} {args : Array Operand} {Ts : Array Nat} {vs as : List AV} {ids : List (Nat × Bool)} {wp wb : Ws} {lp lb li : List Mv.Loc} {res : AV} {outs : List (List AV)} {v : G → AV} {wi : G → Ws}
  (hcl : opd A c = some (.clo k caps))
  (hv : opds A args.toList = some vs) (hp : a5g (CW cx) A (cx.md k) 0 (vs ++ caps) as ids wp lp) (hC : CW cx k as = some (res, outs))
  (hc : apartIds ids = true ∧ N4 ((Z0 (cx.md k) 0 (vs ++ caps)).map (·.1)) = true ∧ N4 ((cidAll (cx.md k) 0 as).map (·.1)) = true ∧ as.length ≤ 1000 ∧ a0s as = true)
  (hl : ids.all (fun x => x.2) = true ∨ (hasList res = false ∧ outs.any E9 = false))
  (hb : c2o (CW cx) (puts A wp) (Z0 (cx.md k) 0 (vs ++ caps)) outs wb lb) (hi : a4d (CW cx) (puts (puts A wp) wb) d res v wi li)
  (hk : ∀ g, tRefsOk keep (keptWs keep (wp ++ (wb ++ (wi g ++ [(.t d, v g)])))) = true)
  (h : ∀ g, XR cx keep ops0 r (a0b A (wp ++ (wb ++ (wi g ++ [(.t d, v g)])))) fun A' lg => Q A' ((rds c ++ (a0v args.toList ++ (lp ++ (lb ++ li))), a2z (wp ++ (wb ++ (wi g ++ [(.t d, v g)])))) :: lg)) :
  XR cx keep ops0 (⟨some d, .call ⟨.value c, args, Ts⟩, ty, pos, aft, none⟩ :: r) A Q := by
 refine d1h (G := G) (v := v) (ws := fun g => wp ++ (wb ++ wi g)) (ls := rds c ++ (a0v args.toList ++ (lp ++ (lb ++ li)))) rfl ?_ (fun g => ?_) (fun g => ?_) (fun g => ?_) (A1 := fun g => a0b A (wp ++ (wb ++ (wi g ++ [(.t d, v g)]))))
 ·simp only [aopV]
  refine A4 (I3 hcl (A4 (H0 (b2x _ hv _ ?_))))
  simp only [c2i]
  refine A4 (G5 hp ?_)
  rintro _ _ _ ⟨rfl, rfl, rfl⟩
  refine A4 (C4 hc (A4 (H0 ?_)))
  refine ⟨res, outs, hC, ?_⟩
  refine A4 (C4 hl (A4 (G5 hb ?_)))
  rintro _ _ _ ⟨rfl, rfl⟩
  refine G5 hi ?_
  rintro _ _ _ ⟨g, rfl, rfl, rfl⟩
  exact ⟨g, rfl, by simp, by simp⟩
 ·have := hk g
  simpa [setD] using this
 ·have := b1q A (wp ++ (wb ++ (wi g ++ [(.t d, v g)])))
  simpa [setD] using this
 ·have := h g
  simpa [setD] using this
def V2 (C : Caller) (A : Asr) (vs as : List AV) (ids : List (Nat × Bool)) (ls : List Mv.Loc) : Prop :=
 wpA C A (passCaps vs) fun x l => x = (as, ids) ∧ l = ls
theorem d2t {C : Caller} : V2 C A [] [] [] [] := ⟨rfl, rfl⟩
def c2m : AV → Bool
 | .val _ => true
 | .list _ => true
 | _ => false
theorem d2s {C : Caller} {id g m s j : Nat} {e : AV} {vs as : List AV} {ids : List (Nat × Bool)} {ls : List Mv.Loc} (ho : look A (.h id) = some (.obj g m s [e])) (he : c2m e = true) (h : V2 C A vs as ids ls) :
    V2 C A (.ptr id g none 0 j :: vs) (.ipt e j :: as) ((id, false) :: ids) (.h id :: ls) := by
  unfold V2 at h ⊢
  cases e <;> first
    | (simp [c2m] at he; done)
    | (simp only [passCaps, passCap, C5, rdNode, M6 ho, D8, D6, List.getElem?_cons_zero, passLeaf, slIds, List.filterMap_nil, List.filterMap_cons, and_true, true_and]
       refine O4 ?_ h
       rintro x l ⟨rfl, rfl⟩
       simp)
theorem d2e {C : Caller} {j : Nat} {e : AV} {vs as : List AV} {ids : List (Nat × Bool)} {ls : List Mv.Loc} (h : V2 C A vs as ids ls) : V2 C A (.ipt e j :: vs) (.ipt e j :: as) ids ls := by
 unfold V2 at h ⊢
 simp only [passCaps, passCap, C5, D6]
 refine O4 ?_ h
 rintro x l ⟨rfl, rfl⟩
 simp
theorem d0l {C : Caller} {md k : Nat} {vs as : List AV} {ids : List (Nat × Bool)} {ls : List Mv.Loc} (hmd : md = 0) (h : V2 C A vs as ids ls) : L2 C A md (.clo k vs) (.clo k as) ids [] ls := by
 subst hmd
 unfold L2 a3g
 unfold V2 at h
 simp only [Nat.zero_ne_one, if_false, show ¬ (0 = 3) by decide]
 refine A4 (H0 (O4 ?_ h))
 rintro x l ⟨rfl, rfl⟩
 exact B4 ⟨rfl, by simp, by simp⟩
end
section
variable {cx : Cx} {keep : List Nat} {A : Asr} {Q : AExit → Asr → Prop}
theorem F5 {β : Type} {body : Code} (K : Asr) (I : β → Asr) (P : β → Prop) (m : β → Nat) (b0 : β) (hA : HasL A (K ++ I b0)) (h0 : P b0)
  (hs : ∀ b, P b → XA cx keep body (K ++ I b) fun r A' => match r with
   | .normal => ∃ b', P b' ∧ m b' < m b ∧ HasL A' (K ++ I b')
   | r => Q r A') : XA cx keep (.loop body) A Q := d3x (fun b => K ++ I b) P m b0 hA h0 hs
end
theorem a5u {id g i : Nat} {p : Option (Nat × Nat)} : ∀ (ls : List AV) (j : Nat), (ls.all fun l => !isOwn l) = true → viewLeaves id g p i j ls = ls := by
 intro ls
 induction ls with
 | nil => intro j _; rfl
 | cons l ls ih =>
  intro j h
  simp only [List.all_cons, Bool.and_eq_true] at h
  simp only [viewLeaves, ih _ h.2]
  have : a4i id g p i j l = l := by
   unfold a4i
   split
   ·simp [isOwn] at h
   ·rfl
  rw [this]
theorem d0i {ls : List AV} (h : (ls.all fun l => !isOwn l) = true) (j : Nat) : ((ls.drop j).all fun l => !isOwn l) = true := by
 rw [List.all_eq_true] at h ⊢
 exact fun l hl => h l (List.mem_of_mem_drop hl)
section
variable {cx : Cx} {b : Bool} {cids : List Cid} {outs : List (List AV)}
def b5d (cx : Cx) (b : Bool) (cids : List Cid) (outs : List (List AV)) (rs : List ResultVar) (A : Asr) (vs : List AV) : Prop :=
 wpW (CW cx) A (retAll cx.P b rs) fun us ws _ => us = vs ∧ a0p (puts A ws) cids outs
theorem E3 {A : Asr} (ho : a0p A cids outs) : b5d cx b cids outs [] A [] := B4 ⟨rfl, ho⟩
theorem D7 {A : Asr} {t : Nat} {v : AV} {rs : List ResultVar} {vs : List AV} (hv : look A (.t t) = some v) (hi : c7b v = true) (h : b5d cx b cids outs rs A vs) : b5d cx b cids outs (.tmp t :: rs) A (v :: vs) := by
 refine a2w (Y2 hv (c0z hi ?_))
 refine G5 h ?_
 rintro us ws ls ⟨rfl, h2⟩
 exact ⟨rfl, h2⟩
theorem a3o (A : Asr) : ∀ (a b : Ws), puts A (a ++ b) = puts (puts A a) b := by
 intro a
 induction a generalizing A with
 | nil => intro b; rfl
 | cons x a ih => intro b; obtain ⟨l, v⟩ := x; exact ih _ b
theorem E7 {A : Asr} {t id g s n : Nat} {es : List AV} {rs : List ResultVar} {vs : List AV} (hv : look A (.t t) = some (.sl id g none 0 n)) (hob : look A (.h id) = some (.obj g 0 s es)) (hn : n = es.length) (hi : F7 es = true)
  (h : b5d cx b cids outs rs (put A (.h id) (.dead g)) vs) : b5d cx b cids outs (.tmp t :: rs) A (.own s es :: vs) := by
 refine a2w (Y2 hv (a9j hob hn hi ?_))
 refine G5 h ?_
 rintro us ws ls ⟨rfl, h2⟩
 refine ⟨rfl, ?_⟩
 rw [a3o]
 exact h2
theorem C7 {A : Asr} {rs : List ResultVar} {us : List AV} {res : AV} (h : b5d cx b cids outs rs A us) (he : P6 us = res) : RetA cx b rs cids A res outs := by
 refine b3b (G5 h ?_)
 rintro us' ws _ ⟨rfl, h2⟩
 exact ⟨he, h2⟩
def b6m (C : Caller) (A : Asr) (d k : Nat) (vs : List AV) {G : Type} (us : G → List AV) (ws : G → Ws) (ls : List Mv.Loc) : Prop := wpW C A (instAll d k vs) fun a w l => ∃ g, a = us g ∧ w = ws g ∧ l = ls
variable {C : Caller} {A : Asr} {d k : Nat}
theorem K2 : b6m C A d k [] (fun _ : Unit => []) (fun _ => []) [] := B4 ⟨(), rfl, rfl, rfl⟩
theorem I4 {G : Type} {v : AV} {vs : List AV} {us : G → List AV} {ws : G → Ws} {ls : List Mv.Loc} (h : J3 v = true) (t : b6m C A d (k + 16) vs us ws ls) : b6m C A d k (v :: vs) (fun g => v :: us g) ws ls := by
 refine A4 (a7w h (A4 (G5 t ?_)))
 rintro _ _ _ ⟨g, rfl, rfl, rfl⟩
 exact B4 ⟨g, rfl, by simp, by simp⟩
theorem J8 {G : Type} {s : Nat} {es : List AV} {vs : List AV} {us : G → List AV} {ws : G → Ws} {ls : List Mv.Loc} (t : ∀ g0, b6m C (put A (.h (tid d k)) (.obj g0 0 s es)) d (k + 16) vs us ws ls) :
  b6m C A d k (.own s es :: vs) (fun g : Nat × G => .sl (tid d k) g.1 none 0 es.length :: us g.2) (fun g => (.h (tid d k), .obj g.1 0 s es) :: ws g.2) (.h (tid d k) :: ls) := by
 refine A4 (a7q fun g0 => A4 (G5 (t g0) ?_))
 rintro _ _ _ ⟨g, rfl, rfl, rfl⟩
 exact B4 ⟨(g0, g), rfl, by simp, by simp⟩
theorem G7 {G : Type} {vs : List AV} {us : G → List AV} {ws : G → Ws} {ls : List Mv.Loc} (h : b6m C A d 16 vs us ws ls) : a4d C A d (.tup vs) (fun g => .tup (us g)) ws ls := by
 refine A4 (G5 h ?_)
 rintro _ _ _ ⟨g, rfl, rfl, rfl⟩
 exact B4 ⟨g, rfl, by simp, by simp⟩
end
section
variable {cx : Cx} {keep : List Nat} {ops0 : Array Oper} {r : List Oper} {A : Asr} {Q : Asr → List Log → Prop} {d : Nat} {ty : Nat} {pos : String} {aft : Array Edge}
theorem a4k {a : Operand} {T id g m s i j : Nat} {es : List AV} {e v : AV} (ha : opd A a = some (.ptr id g none i j)) (ho : look A (.h id) = some (.obj g m s es)) (he : es[i]? = some e) (hn : ((leaves e).all fun l => !isOwn l) = true)
  (hp : partF cx.P T ((leaves e).drop j) = some v) (hk : slotOk keep (.t d) v = true)
  (h : XR cx keep ops0 r ((.t d, v) :: A) fun A' lg => Q A' ((rds a ++ [.h id], [.t d]) :: lg)) : XR cx keep ops0 (⟨some d, .load T a, ty, pos, aft, none⟩ :: r) A Q :=
 b3y ha ho he (by rw [a5u _ _ (d0i hn j)]; exact hp) hk h
theorem c1t {α : Type} [Inhabited α] {f : α → AV} {xs : List α} {a : Operand} {T id g m s i j : Nat} {v : AV} (ha : opd A a = some (.ptr id g none i j)) (ho : look A (.h id) = some (.obj g m s (xs.map f))) (hi : i < xs.length)
  (hn : ∀ a, ((leaves (f a)).all fun l => !isOwn l) = true) (hp : partF cx.P T ((leaves (f (xs.getD i default))).drop j) = some v) (hk : slotOk keep (.t d) v = true)
  (h : XR cx keep ops0 r ((.t d, v) :: A) fun A' lg => Q A' ((rds a ++ [.h id], [.t d]) :: lg)) : XR cx keep ops0 (⟨some d, .load T a, ty, pos, aft, none⟩ :: r) A Q :=
 a4k (e := f (xs.getD i default)) ha ho (by rw [List.getElem?_map, List.getElem?_eq_getElem hi, List.getD_eq_getElem?_getD, List.getElem?_eq_getElem hi]; rfl) (hn _) hp hk h
theorem G3 {α : Type} [Inhabited α] {f : α → AV} {xs : List α} {a : Operand} {T id g m s i : Nat} (ha : opd A a = some (.ptr id g none i 0)) (ho : look A (.h id) = some (.obj g m s (xs.map f))) (hi : i < xs.length)
  (hn : ∀ a, ((leaves (f a)).all fun l => !isOwn l) = true) (hp : ∀ a, partF cx.P T (leaves (f a)) = some (f a)) (hk : slotOk keep (.t d) (f (xs.getD i default)) = true)
  (h : XR cx keep ops0 r ((.t d, f (xs.getD i default)) :: A) fun A' lg => Q A' ((rds a ++ [.h id], [.t d]) :: lg)) : XR cx keep ops0 (⟨some d, .load T a, ty, pos, aft, none⟩ :: r) A Q :=
 c1t ha ho hi hn (hp _) hk h
theorem c0v {a : Operand} {T id g m s : Nat} {e : AV} (ha : opd A a = some (.ptr id g none 0 0)) (ho : look A (.h id) = some (.obj g m s [e])) (hn : ((leaves e).all fun l => !isOwn l) = true)
  (hp : partF cx.P T (leaves e) = some e) (hk : slotOk keep (.t d) e = true)
  (h : XR cx keep ops0 r ((.t d, e) :: A) fun A' lg => Q A' ((rds a ++ [.h id], [.t d]) :: lg)) : XR cx keep ops0 (⟨some d, .load T a, ty, pos, aft, none⟩ :: r) A Q :=
 a4k ha ho rfl hn hp hk h
theorem c1k {a : Operand} {T : Nat} {e : AV} (ha : opd A a = some (.ipt e 0)) (hp : partF cx.P T (leaves e) = some e) (hk : slotOk keep (.t d) e = true)
  (h : XR cx keep ops0 r ((.t d, e) :: A) fun A' lg => Q A' ((rds a, [.t d]) :: lg)) : XR cx keep ops0 (⟨some d, .load T a, ty, pos, aft, none⟩ :: r) A Q :=
 c5b ha hp hk h
theorem K5 {α : Type} [Inhabited α] {f : α → AV} {xs : List α} {y : α} {T id g m s i : Nat} {a x : Operand} (ha : opd A a = some (.ptr id g none i 0)) (ho : look A (.h id) = some (.obj g m s (xs.map f))) (hx : opd A x = some (f y)) (hi : i < xs.length)
  (hl : ∀ a b, b0r (leaves (f b)) (f a) = true ∧ (leaves (f a)).length = (tyS cx.P T).size ∧ 0 < (leaves (f a)).length ∧ (leaves (f a)).length ≤ (leaves (f b)).length ∧ T7 (leaves (f a)) (leaves (f b)) = true ∧ putAt (f b) 0 (f a) = f a) (hm : m ≠ 2)
  (hko : slotOk keep (.h id) (.obj g m s ((xs.set i y).map f)) = true)
  (h : XR cx keep ops0 r ((.h id, .obj g m s ((xs.set i y).map f)) :: A) fun A' lg => Q A' ((rds a ++ (rds x ++ [.h id, .h id, .h id]), [.h id]) :: lg)) :
  XR cx keep ops0 (⟨none, .store T a x, ty, pos, aft, none⟩ :: r) A Q := c0w ha hx ho hi hl hm hko h
theorem b7r {T id g m s : Nat} {a x : Operand} {e v : AV} (ha : opd A a = some (.ptr id g none 0 0)) (hx : opd A x = some v) (ho : look A (.h id) = some (.obj g m s [e]))
  (hl : b0r (leaves e) v = true) (hc : m ≠ 2 ∧ (leaves v).length = (tyS cx.P T).size ∧ 0 < (leaves v).length ∧ (leaves v).length ≤ (leaves e).length ∧ T7 (leaves v) (leaves e) = true) (hp : putAt e 0 v = v)
  (hko : slotOk keep (.h id) (.obj g m s [v]) = true)
  (h : XR cx keep ops0 r ((.h id, .obj g m s [v]) :: A) fun A' lg => Q A' ((rds a ++ (rds x ++ [.h id, .h id, .h id]), [.h id]) :: lg)) :
  XR cx keep ops0 (⟨none, .store T a x, ty, pos, aft, none⟩ :: r) A Q :=
 b1a (i := 0) (j := 0) ha hx ho rfl hl ⟨hc.1, hc.2.1, hc.2.2.1, by have := hc.2.2.2.1; omega, hc.2.2.2.2⟩ (by rw [hp]; exact hko) (by rw [hp]; exact h)
theorem N0 {α : Type} {f : α → AV} {xs ys : List α} {T T' E s id g n id2 g2 m2 off n2 : Nat} {x y : Operand} {z : AV} (hx : opd A x = some (.sl id g none 0 n)) (hy : opd A y = some (.sl id2 g2 none off n2)) (ho : look A (.h id) = some (.obj g 0 s (xs.map f))) (ho2 : look A (.h id2) = some (.obj g2 m2 s (ys.map f)))
  (hid : id2 < 1000000) (hb2 : bxB m2 none = false) (hn : n = (xs.map f).length) (hn2 : off + n2 ≤ ys.length) (hT : N6 cx.P T = some (E, s)) (hT' : K8 (tyS cx.P T').k = true) (hz : V1 cx.P E = some (z, s)) (hb : (tyS cx.P E).bytes ≤ 4096)
  (hf : ∀ a, (leaves (f a)).all cellLeaf = true ∧ J7 (f a) = true ∧ J3 (f a) = true)
  (hle : xs.length + n2 ≤ G9) (hk : ∀ g, slotOk keep (.t d) (.sl (tid d 0) g none 0 (xs ++ (ys.drop off).take n2).length) = true)
  (h : ∀ g', XR cx keep ops0 r ((.t d, .sl (tid d 0) g' none 0 (xs ++ (ys.drop off).take n2).length) :: (.h (tid d 0), .obj g' 0 s ((xs ++ (ys.drop off).take n2).map f)) :: (.h id, .dead g) :: A) fun A' lg => Q A' ((rds x ++ (rds y ++ [.h id2, .h id2, .h id, .h (tid d 0)]), [.h id, .h (tid d 0), .t d]) :: lg)) :
  XR cx keep ops0 (⟨some d, .call ⟨.builtin .append, #[x, y], #[T, T']⟩, ty, pos, aft, none⟩ :: r) A Q := by
 obtain ⟨h1, h2, h3, h4⟩ := Q5 hz
 have hl2 : ((ys.drop off).take n2).length = n2 := by simp; omega
 have el : (xs ++ (ys.drop off).take n2).length = xs.length + n2 := by rw [List.length_append, hl2]
 have em : (((ys.map f).drop off).take n2) = ((ys.drop off).take n2).map f := by rw [List.map_take, List.map_drop]
 subst hn
 refine a0r (v := fun g' => .sl (tid d 0) g' none 0 (xs ++ (ys.drop off).take n2).length) (ws := fun g' => [(.h id, .dead g), (.h (tid d 0), .obj g' 0 s ((xs ++ (ys.drop off).take n2).map f))]) (ls := rds x ++ (rds y ++ [.h id2, .h id2, .h id, .h (tid d 0)])) rfl ?_
  (fun g => C3 (by simp [slotOk, refOkV]) (C3 (B2 (A7 fun a => (hf a).2.1)) (H7 (hk g)))) (fun g => rfl) (fun g => a2s _ _ _ _ _ _ _) h
 simp only [aopV, dstOf]
 refine A4 (H0 (show wpA (CW cx) A (.ret d) _ from ?_))
 show wpW (CW cx) (puts A []) _ _
 refine A4 (C4 hT' (A4 (I3 hx (A4 (I3 hy ?_)))))
 unfold a1h
 refine A4 (R4 hT (A4 (C4 ⟨hb, h3, h4⟩ (A4 ?_))))
 simp only [c0m]
 refine A4 (I0 ho2 (A4 (C4 h2.symm ?_)))
 rw [if_neg (by omega)]
 refine A4 (H0 ?_)
 simp only [slc, rdNode, C5]
 rw [M6 (by exact ho2)]
 simp only [C5, D8, D6, hb2, List.length_map, hn2, true_and, and_true, List.append_nil, List.nil_append]
 rw [em, if_pos (a3f fun a => (hf a).2.2)]
 refine B4 ?_
 refine A4 (C4 (a2g fun a => (hf a).1) ?_)
 refine A4 (I0 ho (A4 (C4 ⟨rfl, by simp, h2.symm, by simp only [List.length_map, hl2]; exact hle⟩ (A4 (H2 (A4 (I9 fun o => A4 (H2 (B4 ?_)))))))))
 have e3 : xs.length + (((ys.drop off).take n2).map f).length = (xs ++ (ys.drop off).take n2).length := by rw [el, List.length_map, hl2]
 have e4 : List.take xs.length (xs.map f) = xs.map f := by rw [← List.length_map (f := f), List.take_length]
 exact ⟨G1 o + 1, by rw [e3], by simp only [e4, List.map_append]; simp, by simp⟩
theorem X0 {x : Operand} {T E id g n m : Nat} {p : Option (Nat × Nat)} {off : Nat} {hi : Option Operand} {ls1 : List Mv.Loc} (hx : opd A x = some (.sl id g p off n)) (hT : (tyS cx.P T).k = .slice E) (hb : N7 (tyS cx.P E).k = false)
  (hh : wpA (CW cx) A (optNat hi n) fun k ls => k = m ∧ ls = ls1) (hc : m ≤ n) (hk : slotOk keep (.t d) (.sl id g p off m) = true)
  (h : XR cx keep ops0 r ((.t d, .sl id g p off m) :: A) fun A' lg => Q A' ((rds x ++ ls1, [.t d]) :: lg)) : XR cx keep ops0 (⟨some d, .slice T x none hi none, ty, pos, aft, none⟩ :: r) A Q := by
 refine I7 (fun o ho => by simp only [aopV, ho]) ?_ hk h
 simp only [opV, C5, C8 hx, sliceA, hT, optNat, D6, List.nil_append]
 refine O4 ?_ hh
 rintro _ _ ⟨rfl, rfl⟩
 simp only [D8, hb, D6, ne_eq, not_true_eq_false, false_and, if_false, if_true, List.append_nil, List.nil_append, and_self, and_true, true_and, true_or, Nat.le_refl, Nat.zero_le, hc]
theorem b9u {x : Operand} {T E id g n m l k0 s : Nat} {off : Nat} {lo hi : Option Operand} {es : List AV} {ls1 ls2 : List Mv.Loc} (hx : opd A x = some (.sl id g none off n)) (ho : look A (.h id) = some (.obj g k0 s es)) (hT : N6 cx.P T = some (E, s))
  (hh : wpA (CW cx) A (optNat hi n) fun k ls => k = m ∧ ls = ls1) (hl : wpA (CW cx) A (optNat lo 0) fun k ls => k = l ∧ ls = ls2) (hc : l ≤ m ∧ m ≤ n) (hl0 : l ≠ 0) (hk : slotOk keep (.t d) (.sl id g none (off + l) (m - l)) = true)
  (h : XR cx keep ops0 r ((.t d, .sl id g none (off + l) (m - l)) :: A) fun A' lg => Q A' ((rds x ++ (ls1 ++ (ls2 ++ [.h id])), [.t d]) :: lg)) : XR cx keep ops0 (⟨some d, .slice T x lo hi none, ty, pos, aft, none⟩ :: r) A Q := by
 refine I7 (fun o ho => by simp only [aopV, ho]) ?_ hk h
 unfold N6 at hT
 split at hT
 ·rename_i E' hE
  split at hT
  ·rename_i hbad'
   simp only [Option.some.injEq, Prod.mk.injEq] at hT
   obtain ⟨rfl, hs⟩ := hT
   simp only [opV, C5, C8 hx, sliceA, hE, optNat, D6, List.nil_append]
   refine O4 ?_ hh
   rintro _ _ ⟨rfl, rfl⟩
   refine O4 ?_ hl
   rintro _ _ ⟨rfl, rfl⟩
   simp only [D8, hbad', ne_eq, not_true_eq_false, false_and, if_false, and_self, and_true, true_and, true_or, Nat.le_refl, hc, hl0, C5, rdNode, M6 ho, D6, hs, List.nil_append, List.append_nil, List.append_assoc, List.singleton_append]
  ·cases hT
 ·cases hT
theorem G0 {C : Caller} {A : Asr} {x : Operand} {k : IntKind} {n : Nat} {dflt : Nat} (h : opd A x = some (.val (.int k (n : Int)))) : wpA C A (optNat (some x) dflt) fun m ls => m = n ∧ ls = rds x := by
 have := O6 (C := C) (dflt := dflt) h (Int.natCast_nonneg n)
 simpa using this
theorem d4d {α : Type} {C : Caller} {A : Asr} {x : Rd α} {R : α → Ws → List Mv.Loc → Prop} {ls0 : List Mv.Loc} (h : wpA C A x fun a ls => (∀ l ∈ ls, l ∈ ls0) ∧ R a [] ls0) : wpW C A (up x) R := by
 intro st hs
 obtain ⟨a, ls, h1, h2, h3⟩ := b6p hs _ _ h
 exact ⟨a, [], ls, ls0, c3u x h1, h2, h3⟩
theorem a1d {x : Operand} {T E id g n m l k0 s : Nat} {off : Nat} {lo hi : Option Operand} {es : List AV} {ls1 ls2 : List Mv.Loc} (hx : opd A x = some (.sl id g none off n)) (ho : look A (.h id) = some (.obj g k0 s es)) (hT : N6 cx.P T = some (E, s))
  (hh : wpA (CW cx) A (optNat hi n) fun k ls => k = m ∧ ls = ls1) (hl : wpA (CW cx) A (optNat lo 0) fun k ls => k = l ∧ ls = ls2) (hc : l ≤ m ∧ m ≤ n) (hk : slotOk keep (.t d) (.sl id g none (off + l) (m - l)) = true)
  (h : XR cx keep ops0 r ((.t d, .sl id g none (off + l) (m - l)) :: A) fun A' lg => Q A' ((rds x ++ (ls1 ++ (ls2 ++ [.h id])), [.t d]) :: lg)) : XR cx keep ops0 (⟨some d, .slice T x lo hi none, ty, pos, aft, none⟩ :: r) A Q := by
 by_cases hl0 : l = 0
 ·refine d4g (v := .sl id g none (off + l) (m - l)) (ws := []) (ls := rds x ++ (ls1 ++ (ls2 ++ [.h id]))) rfl ?_ (H7 hk) (fun k b hb => by rw [← hb]; exact (a3e A _ _ k).symm) h
  show wpW (CW cx) A (up (opV cx (.slice T x lo hi none))) _
  refine d4d (ls0 := rds x ++ (ls1 ++ (ls2 ++ [.h id]))) ?_
  unfold N6 at hT
  split at hT
  ·rename_i E' hE
   split at hT
   ·rename_i hbad'
    simp only [opV, C5, C8 hx, sliceA, hE, optNat, D6, List.nil_append]
    refine O4 ?_ hh
    rintro _ _ ⟨rfl, rfl⟩
    refine O4 ?_ hl
    rintro _ _ ⟨rfl, rfl⟩
    simp only [D8, hbad', ne_eq, not_true_eq_false, false_and, if_false, and_self, and_true, true_and, true_or, Nat.le_refl, hc, hl0, if_true, D6, Nat.add_zero, Nat.sub_zero, List.append_nil]
    refine ⟨Nat.zero_le _, fun q hq => ?_⟩
    simp only [List.mem_append] at hq ⊢
    rcases hq with hq | hq | hq
    ·exact .inl hq
    ·exact .inr (.inl hq)
    ·exact .inr (.inr (.inl hq))
   ·cases hT
  ·cases hT
 ·exact b9u hx ho hT hh hl hc hl0 hk h
theorem d5d {x : Operand} {T E id g n : Nat} {hi mx : Operand} {k k' : IntKind} (hx : opd A x = some (.sl id g none 0 n)) (hT : (tyS cx.P T).k = .slice E) (hb : N7 (tyS cx.P E).k = false)
  (hh : opd A hi = some (.val (.int k n))) (hm : opd A mx = some (.val (.int k' n))) (hk : slotOk keep (.t d) (.sl id g none 0 n) = true)
  (h0 : n = 0 → XR cx keep ops0 r ((.t d, .nil) :: A) fun A' lg => Q A' ((rds x ++ (rds mx ++ rds hi), [.t d]) :: lg))
  (h : n ≠ 0 → XR cx keep ops0 r ((.t d, .sl id g none 0 n) :: A) fun A' lg => Q A' ((rds x ++ (rds mx ++ rds hi), [.t d]) :: lg)) : XR cx keep ops0 (⟨some d, .slice T x none (some hi) (some mx), ty, pos, aft, none⟩ :: r) A Q := by
 have e : (n : Int).toNat = n := by simp
 by_cases hn : n = 0
 ·refine I7 (v := .nil) (fun o ho => by simp only [aopV, ho]) ?_ (by simp [slotOk, refOkV, refsOk]) (h0 hn)
  simp only [opV, C5, C8 hx, sliceA, hT, optNat, C8 hh, C8 hm, U3 (Int.natCast_nonneg n), e, D6, D8, hb]
  simp [hn, wpA]
 ·refine I7 (v := .sl id g none 0 n) (fun o ho => by simp only [aopV, ho]) ?_ hk (h hn)
  simp only [opV, C5, C8 hx, sliceA, hT, optNat, C8 hh, C8 hm, U3 (Int.natCast_nonneg n), e, D6, D8, hb]
  simp [hn, wpA]
end
theorem Y6 {α : Type} {f : α → AV} {xs : List α} (h : ∀ a, hasList (f a) = false) : E9 (xs.map f) = false := by
 induction xs with
 | nil => rfl
 | cons x xs ih => simp [E9, h, ih]
theorem a5a (x : Int) (r : List Int) : (a6i x r).Perm (x :: r) := by
 induction r with
 | nil => exact .refl _
 | cons y r ih =>
  simp only [a6i]
  split
  ·exact .refl _
  ·exact (List.Perm.cons y ih).trans (List.Perm.swap x y r)
theorem a6f (xs : List Int) : (S6 xs).Perm xs := by
 induction xs with
 | nil => exact .refl _
 | cons x r ih => exact (a5a x (S6 r)).trans (List.Perm.cons x ih)
theorem a1j (x : Int) (r : List Int) (h : r.Pairwise (· ≤ ·)) : (a6i x r).Pairwise (· ≤ ·) := by
 induction r with
 | nil => simp [a6i]
 | cons y r ih =>
  simp only [a6i]
  have h2 := List.pairwise_cons.1 h
  split
  ·rename_i hxy
   refine List.pairwise_cons.2 ⟨fun z hz => ?_, h⟩
   rcases List.mem_cons.1 hz with rfl | hz
   ·exact hxy
   ·have := h2.1 z hz; omega
  ·rename_i hxy
   refine List.pairwise_cons.2 ⟨fun z hz => ?_, ih h2.2⟩
   rcases List.mem_cons.1 ((a5a x r).mem_iff.1 hz) with rfl | hz
   ·omega
   ·exact h2.1 z hz
theorem V7 (xs : List Int) : (S6 xs).Pairwise (· ≤ ·) := by
 induction xs with
 | nil => exact .nil
 | cons x r ih => exact a1j x _ ih
theorem b9s {xs ys : List Int} (hp : ys.Perm xs) (hs : ys.Pairwise (· ≤ ·)) : ys = S6 xs :=
 List.Perm.eq_of_pairwise (le := (· ≤ ·)) (fun a b _ _ h1 h2 => by omega) hs (V7 xs) (hp.trans (a6f xs).symm)
theorem a9n {s : List Int} (h : s.Pairwise (· ≤ ·)) {i j : Nat} (hij : i ≤ j) (hj : j < s.length) : s.getD i default ≤ s.getD j default := by
 rw [List.getD_eq_getElem?_getD, List.getD_eq_getElem?_getD, List.getElem?_eq_getElem (by omega), List.getElem?_eq_getElem hj]
 rcases Nat.lt_or_ge i j with h1 | h1
 ·exact List.pairwise_iff_getElem.1 h i j (by omega) hj h1
 ·have : i = j := by omega
  subst this
  exact Int.le_refl _
theorem a3v {xs : List Int} {x : Int} (h : x ∈ xs) : ∃ i, i < xs.length ∧ xs.getD i default = x := by
 obtain ⟨i, hi, rfl⟩ := List.getElem_of_mem h
 exact ⟨i, hi, by rw [List.getD_eq_getElem?_getD, List.getElem?_eq_getElem hi]; rfl⟩
theorem a5v {out : List Int} {x : Int} {k : Nat} (hs : out.Pairwise (· ≤ ·)) (hk : k ≤ out.length) (h1 : ∀ j, j < k → out.getD j default ≤ x) (h2 : k < out.length → x ≤ out.getD k default) :
  out.take k ++ [x] ++ out.drop k = a6i x out := by
 have hp : (out.take k ++ [x] ++ out.drop k).Perm (x :: out) := by
  have := (List.perm_middle (l₁ := out.take k) (l₂ := out.drop k) (a := x))
  rw [List.take_append_drop] at this
  rw [List.append_assoc]; exact this
 have hsrt : (out.take k ++ [x] ++ out.drop k).Pairwise (· ≤ ·) := by
  rw [List.append_assoc, List.pairwise_append]
  refine ⟨hs.take, ?_, ?_⟩
  ·rw [List.singleton_append, List.pairwise_cons]
   refine ⟨fun b hb => ?_, hs.drop⟩
   obtain ⟨i, hi, rfl⟩ := a3v hb
   rw [List.length_drop] at hi
   have e : (out.drop k).getD i default = out.getD (k + i) default := by rw [List.getD_eq_getElem?_getD, List.getD_eq_getElem?_getD, List.getElem?_drop]
   rw [e]
   exact Int.le_trans (h2 (by omega)) (a9n hs (by omega) (by omega))
  ·intro a ha b hb
   obtain ⟨i, hi, rfl⟩ := a3v ha
   rw [List.length_take] at hi
   have e : (out.take k).getD i default = out.getD i default := by rw [List.getD_eq_getElem?_getD, List.getD_eq_getElem?_getD, List.getElem?_take, if_pos (by omega)]
   rw [e]
   rw [List.singleton_append, List.mem_cons] at hb
   rcases hb with rfl | hb
   ·exact h1 i (by omega)
   ·obtain ⟨j, hj, rfl⟩ := a3v hb
    rw [List.length_drop] at hj
    have e2 : (out.drop k).getD j default = out.getD (k + j) default := by rw [List.getD_eq_getElem?_getD, List.getD_eq_getElem?_getD, List.getElem?_drop]
    rw [e2]
    exact a9n hs (by omega) (by omega)
 exact List.Perm.eq_of_pairwise (le := (· ≤ ·)) (fun a b _ _ h1 h2 => by omega) hsrt (a1j x out hs) (hp.trans (a5a x out).symm)
theorem a8z {out : List Int} {x : Int} {k : Nat} (hs : out.Pairwise (· ≤ ·)) (hk : k ≤ out.length) (h1 : ∀ j, j < k → out.getD j default ≤ x) (h2 : k < out.length → x ≤ out.getD k default) :
  (([] ++ (out.drop 0).take k) ++ [x]) ++ (out.drop (0 + k)).take (out.length - k) = a6i x out := by
 rw [← a5v hs hk h1 h2]
 simp
 exact List.take_of_length_le (by simp)
theorem b3p {xs : List Int} {i : Nat} (h : i < xs.length) : S6 (xs.take (i + 1)) = a6i (xs.getD i default) (S6 (xs.take i)) := by
 refine (b9s ?_ (a1j _ _ (V7 _))).symm
 have e : xs.take (i + 1) = xs.take i ++ [xs.getD i default] := by
  rw [List.take_add_one, List.getD_eq_getElem?_getD, List.getElem?_eq_getElem h]; rfl
 rw [e]
 exact ((a5a _ _).trans (List.Perm.cons _ (a6f _))).trans (List.perm_append_comm (l₁ := [xs.getD i default]) (l₂ := xs.take i))
def bitN (s i : Nat) : Nat := s / 2 ^ i % 2
theorem c6y (s i : Nat) : bitN s i = 1 ↔ s.testBit i = true := by
 unfold bitN
 rw [Nat.testBit_eq_decide_div_mod_eq, decide_eq_true_eq]
theorem d3h (s i : Nat) : bitN s i = 0 ∨ bitN s i = 1 := by unfold bitN; omega
theorem b3l (i j : Nat) : bitN (2 ^ i) j = 1 ↔ j = i := by
 rw [c6y, Nat.testBit_two_pow]
 simp [eq_comm]
section
variable {cx : Cx} {keep : List Nat} {ops0 : Array Oper} {r : List Oper} {A : Asr} {Q : Asr → List Log → Prop} {d : Nat} {ty : Nat} {pos : String} {aft : Array Edge}
end
end Go.Mv
end

section
namespace Go.Mv
open Go Classical
section
variable {cx : Cx} {keep : List Nat} {ops0 : Array Oper} {r : List Oper} {A : Asr} {Q : Asr → List Log → Prop} {d : Nat} {ty : Nat} {pos : String} {aft : Array Edge}
theorem d1o {T z : Nat} {a b : Operand} {x y : ByteArray} {t : Bool} (ha : opd A a = some (.val (.string x))) (hb : opd A b = some (.val (.string y))) (ht : (x.toList == y.toList) = t)
  (h : XR cx keep ops0 r ((.t d, bV t) :: A) fun A' lg => Q A' ((rds a ++ rds b, [.t d]) :: lg)) : XR cx keep ops0 (⟨some d, .binOp .eql T a b z, ty, pos, aft, none⟩ :: r) A Q := by
 subst ht; exact H8 ha hb h
end
def a8j (lo hi : Int) (xs : List Int) : Bool := xs.all fun x => decide (lo ≤ x) && decide (x ≤ hi)
theorem W4 {lo hi : Int} {xs : List Int} : a8j lo hi xs = true ↔ ∀ i, i < xs.length → lo ≤ xs.getD i default ∧ xs.getD i default ≤ hi := by
 unfold a8j
 rw [List.all_eq_true]
 constructor
 ·intro h i hi'
  have := h _ (a3x hi')
  simpa using this
 ·intro h x hx
  obtain ⟨i, hi', rfl⟩ := a3v hx
  simpa using h i hi'
def c8l (l : List Int) (s : Nat) : Nat → List Int
 | 0 => []
 | k + 1 => if bitN s k = 1 then c8l l s k ++ [l.getD k default] else c8l l s k
def sel (l : List Int) (s : Nat) : List Int := c8l l s l.length
theorem b9a (l : List Int) (i : Nat) : ∀ k, c8l l (2 ^ i) k = if i < k then [l.getD i default] else []
 | 0 => by simp [c8l]
 | k + 1 => by
  unfold c8l
  rw [b9a l i k]
  by_cases e : k = i
  ·subst e; rw [if_pos ((b3l k k).2 rfl)]; simp
  ·rw [if_neg (fun h => e ((b3l i k).1 h))]
   by_cases h : i < k
   ·rw [if_pos h, if_pos (by omega)]
   ·rw [if_neg h, if_neg (by omega)]
theorem d2y {l : List Int} {i : Nat} (hi : i < l.length) : sel l (2 ^ i) = [l.getD i default] := by
 unfold sel; rw [b9a, if_pos hi]
def Fnd (e : Bool) (s : List Int) (lev : Int) : Prop := ∃ i, i < s.length ∧ s.getD i default * s.length ≤ if e then ((i : Int) + 1) * lev else lev
theorem Fnd.mono {e : Bool} {s : List Int} {lev lev' : Int} (h : Fnd e s lev) (hl : lev ≤ lev') : Fnd e s lev' := by
 obtain ⟨i, hi, h⟩ := h
 refine ⟨i, hi, ?_⟩
 cases e
 ·simp only [Bool.false_eq_true, if_false] at h ⊢; omega
 ·simp only [if_true] at h ⊢
  have := Int.mul_le_mul_of_nonneg_left hl (show (0 : Int) ≤ (i : Int) + 1 by omega)
  omega
theorem Fnd.each {e : Bool} {s : List Int} {lev : Int} (h : Fnd e s lev) (h0 : 0 ≤ lev) : Fnd true s lev := by
 obtain ⟨i, hi, h⟩ := h
 refine ⟨i, hi, ?_⟩
 cases e
 ·simp only [Bool.false_eq_true, if_false, if_true] at h ⊢
  have := Int.mul_le_mul_of_nonneg_right (show (1 : Int) ≤ (i : Int) + 1 by omega) h0
  omega
 ·exact h
def CPr (l : List Int) (lev : Int) (e : Bool) (i : Nat) : Prop := ∀ s, 1 ≤ s → s < 2 ^ l.length → bitN s i = 1 → Fnd e (S6 (sel l s)) lev
noncomputable def d6w (l : List Int) (lev : Int) (e : Bool) (k : Nat) : List Int := ((List.range k).filter fun i => decide (CPr l lev e i)).map Int.ofNat
noncomputable def clo (l : List Int) (lev : Int) (e : Bool) : List Int := d6w l lev e l.length
theorem CPr.le {l : List Int} {lev : Int} {e : Bool} {i : Nat} (h : CPr l lev e i) (hi : i < l.length) : l.getD i default ≤ lev := by
 have := h (2 ^ i) (Nat.one_le_two_pow) (Nat.pow_lt_pow_right (by decide) hi) ((b3l i i).2 rfl)
 rw [d2y hi] at this
 obtain ⟨j, hj, h2⟩ := this
 have : j = 0 := by simp [S6, a6i] at hj; omega
 subst this
 cases e <;> simp [S6, a6i] at h2 <;> simpa using h2
def Mis (l : List Int) (lev : Int) (e : Bool) (s mi : Nat) : Prop := 1 ≤ s ∧ s ≤ 2 ^ l.length ∧ mi < 2 ^ l.length ∧ ∀ i, i < l.length → (bitN mi i = 1 ↔ ∃ s', 1 ≤ s' ∧ s' < s ∧ bitN s' i = 1 ∧ ¬ Fnd e (S6 (sel l s')) lev)
theorem Mis.start (l : List Int) (lev : Int) (e : Bool) : Mis l lev e 1 0 := by
 refine ⟨Nat.le_refl _, Nat.one_le_two_pow, Nat.two_pow_pos _, fun i hi => ⟨fun h => ?_, fun ⟨s', h1, h2, _⟩ => by omega⟩⟩
 unfold bitN at h; simp at h
theorem Mis.fin {l : List Int} {lev : Int} {e : Bool} {s mi : Nat} (h : Mis l lev e s mi) (hs : 2 ^ l.length ≤ s) {i : Nat} (hi : i < l.length) : bitN mi i = 0 ↔ CPr l lev e i := by
 obtain ⟨h1, h2, h3, h4⟩ := h
 have := h4 i hi
 have h5 := d3h mi i
 constructor
 ·intro h0 s' q1 q2 q3
  refine Classical.byContradiction fun hn => ?_
  have := this.2 ⟨s', q1, by omega, q3, hn⟩
  omega
 ·intro hc
  rcases h5 with h5 | h5
  ·exact h5
  ·obtain ⟨s', q1, q2, q3, q4⟩ := this.1 h5
   exact absurd (hc s' q1 (by omega) q3) q4
theorem d3k {xs : List Int} {q : Int → Bool} {i : Nat} (hi : i < xs.length) (h : q (xs.getD i default) = true) : decide (0 ≤ (i : Int)) = xs.any q := by
 rw [decide_eq_true (Int.natCast_nonneg i)]
 exact (List.any_eq_true.2 ⟨_, a3x hi, h⟩).symm
theorem d0z {xs : List Int} {q : Int → Bool} (h : ∀ j, j < xs.length → q (xs.getD j default) = false) : decide (0 ≤ (-1 : Int)) = xs.any q := by
 have : xs.any q = false := by
  rw [List.any_eq_false]
  intro x hx
  obtain ⟨i, hi, rfl⟩ := a3v hx
  rw [h i hi]; decide
 rw [this]; rfl
theorem d0b (lo hi : Int) (xs : List Int) : (!(xs.any fun x => !(decide (lo ≤ x) && decide (x ≤ hi)))) = a8j lo hi xs := by
 unfold a8j
 rw [List.not_any_eq_all_not]
 simp
theorem L1 {α : Type} [Inhabited α] {xs : List α} {i : Nat} (h : i < xs.length) : xs.getD i default ∈ xs := by
 rw [List.getD_eq_getElem?_getD, List.getElem?_eq_getElem h]
 exact List.getElem_mem h
def FndAt (e : Bool) (s : List Int) (lev : Int) (j : Nat) : Prop := (e = true ∧ s.getD j default * (s.length : Int) ≤ lev * ((j : Int) + 1)) ∨ s.getD j default * (s.length : Int) ≤ lev
theorem FndAt.none {e : Bool} {s : List Int} {lev : Int} (hl : 0 ≤ lev ∧ lev ≤ 1000) (h : ∀ j, j < s.length → ¬ FndAt e s lev j) : ¬ Fnd e s lev := by
 rintro ⟨j, hj, hf⟩
 refine h j hj ?_
 cases e
 ·exact .inr hf
 ·rw [if_pos rfl] at hf
  exact .inl ⟨rfl, by rw [Int.mul_comm lev]; exact hf⟩
theorem CPr.each {l : List Int} {lev : Int} {e : Bool} {i : Nat} (h : CPr l lev e i) (h0 : 0 ≤ lev) : CPr l lev true i := fun s h1 h2 h3 => (h s h1 h2 h3).each h0
theorem CPr.mono {l : List Int} {lev lev' : Int} {e : Bool} {i : Nat} (h : CPr l lev e i) (h0 : lev ≤ lev') : CPr l lev' e i := fun s h1 h2 h3 => (h s h1 h2 h3).mono h0
section
variable {cx : Cx} {keep : List Nat} {ops0 : Array Oper} {r : List Oper} {A : Asr} {Q : Asr → List Log → Prop} {d : Nat} {ty : Nat} {pos : String} {aft : Array Edge}
theorem b7n {α : Type} [Inhabited α] {f : α → AV} {xs : List α} {y : α} {v : AV} {T id g m s i j : Nat} {a x : Operand} (ha : opd A a = some (.ptr id g none i j)) (ho : look A (.h id) = some (.obj g m s (xs.map f))) (hx : opd A x = some v) (hi : i < xs.length)
  (hl : b0r ((leaves (f (xs.getD i default))).drop j) v = true)
  (hc : (leaves v).length = (tyS cx.P T).size ∧ 0 < (leaves v).length ∧ j + (leaves v).length ≤ (leaves (f (xs.getD i default))).length ∧ T7 (leaves v) ((leaves (f (xs.getD i default))).drop j) = true) (hm : m ≠ 2)
  (hp : putAt (f (xs.getD i default)) j v = f y)
  (hko : slotOk keep (.h id) (.obj g m s ((xs.set i y).map f)) = true)
  (h : XR cx keep ops0 r ((.h id, .obj g m s ((xs.set i y).map f)) :: A) fun A' lg => Q A' ((rds a ++ (rds x ++ [.h id, .h id, .h id]), [.h id]) :: lg)) :
  XR cx keep ops0 (⟨none, .store T a x, ty, pos, aft, none⟩ :: r) A Q := by
 have he : (xs.map f)[i]? = some (f (xs.getD i default)) := by rw [List.getElem?_map, List.getElem?_eq_getElem hi, List.getD_eq_getElem?_getD, List.getElem?_eq_getElem hi]; rfl
 have hs : (xs.map f).set i (putAt (f (xs.getD i default)) j v) = (xs.set i y).map f := by rw [hp, List.map_set]
 refine b1a ha hx ho he hl ⟨hm, hc.1, hc.2.1, hc.2.2.1, hc.2.2.2⟩ (by rw [hs]; exact hko) ?_
 rw [hs]
 exact h
end
def mkI (k : Int) (n : Nat) : List Int := (List.range n).map fun i : Nat => k + (i : Int)
@[simp] theorem mkI_length (k : Int) (n : Nat) : (mkI k n).length = n := by simp [mkI]
def mkF (k : Int) (n : Nat) : List (Int × Int) := (List.range n).map fun i : Nat => (k + 2 * (i : Int), k + 2 * (i : Int) + 1)
@[simp] theorem mkF_length (k : Int) (n : Nat) : (mkF k n).length = n := by simp [mkF]
section
variable {cx : Cx} {keep : List Nat} {ops0 : Array Oper} {r : List Oper} {A : Asr} {Q : Asr → List Log → Prop} {d : Nat} {ty : Nat} {pos : String} {aft : Array Edge}
end
section
variable {cx : Cx} {keep : List Nat} {ops0 : Array Oper} {r : List Oper} {A : Asr} {Q : Asr → List Log → Prop} {d : Nat} {ty : Nat} {pos : String} {aft : Array Edge}
end
theorem d4m {cx : Cx} {keep : List Nat} {A B : Asr} {c : Code} {Q : AExit → Asr → Prop} (h : HasL A B) (hx : XA cx keep c B Q) : XA cx keep c A Q := fun st hs => hx st (h.sat hs)
theorem X8 {keep : List Nat} {id g m s : Nat} {es : List AV} (h : F7 es = true) (hm : ¬ (m = 3 ∨ m = 4)) : slotOk keep (.h id) (.obj g m s es) = true := by
 simp [slotOk, refOkV, h, hm]
def vd (xs : List Int) : Bool := decide (xs.length ≤ 10) && a8j (-200) 200 xs
theorem b3a {xs : List Int} (h : vd xs = true) : xs.length ≤ 10 := by
 simp only [vd, Bool.and_eq_true, decide_eq_true_eq] at h; exact h.1
theorem c6t {lo hi : Int} {xs : List Int} (h : ∀ i, i < xs.length → lo ≤ xs.getD i default ∧ xs.getD i default ≤ hi) : a8j lo hi xs = true := W4.2 h
theorem b9w {lo hi : Int} {xs : List Int} {i : Nat} (hi' : i < xs.length) (h : ¬ (lo ≤ xs.getD i default ∧ xs.getD i default ≤ hi)) : a8j lo hi xs = false := by
 rw [Bool.eq_false_iff]
 exact fun h2 => h (W4.1 h2 i hi')
theorem d2l {xs : List Int} (h : vd xs = true) : a8j (-200) 200 xs = true := by
 simp only [vd, Bool.and_eq_true] at h; exact h.2
section
variable {cx : Cx} {keep : List Nat} {ops0 : Array Oper} {r : List Oper} {A : Asr} {Q : Asr → List Log → Prop} {d : Nat} {ty : Nat} {pos : String} {aft : Array Edge}
theorem a6u {α : Type} {f : α → AV} {xs ys : List α} {T T' E s id g n id2 g2 n2 : Nat} {x y : Operand} {z : AV} (hx : opd A x = some (.sl id g none 0 n)) (hy : opd A y = some (.sl id2 g2 none 0 n2)) (ho : look A (.h id) = some (.obj g 0 s (xs.map f))) (ho2 : look A (.h id2) = some (.obj g2 0 s (ys.map f)))
  (hn : n ≤ xs.length) (hn2 : n2 = (ys.map f).length) (hid : 1000000 ≤ id2) (hne : Loc.beq (.h id) (.h id2) = false) (hT : N6 cx.P T = some (E, s)) (hT' : K8 (tyS cx.P T').k = true) (hz : V1 cx.P E = some (z, s)) (hb : (tyS cx.P E).bytes ≤ 4096) (hf : ∀ a, (leaves (f a)).all cellLeaf = true ∧ J7 (f a) = true)
  (hle : n + ys.length ≤ G9) (hk : ∀ g, slotOk keep (.t d) (.sl (tid d 0) g none 0 (xs.take n ++ ys).length) = true)
  (h : ∀ g', XR cx keep ops0 r ((.t d, .sl (tid d 0) g' none 0 (xs.take n ++ ys).length) :: (.h (tid d 0), .obj g' 0 s ((xs.take n ++ ys).map f)) :: (.h id, .dead g) :: (.h id2, .dead g2) :: A) fun A' lg => Q A' ((rds x ++ (rds y ++ [.h id2, .h id, .h (tid d 0)]), [.h id2, .h id, .h (tid d 0), .t d]) :: lg)) :
  XR cx keep ops0 (⟨some d, .call ⟨.builtin .append, #[x, y], #[T, T']⟩, ty, pos, aft, none⟩ :: r) A Q := by
 obtain ⟨h1, h2, h3, h4⟩ := Q5 hz
 subst hn2
 have el : (xs.take n ++ ys).length = n + ys.length := by simp; omega
 refine a0r (v := fun g' => .sl (tid d 0) g' none 0 (xs.take n ++ ys).length) (ws := fun g' => [(.h id2, .dead g2), (.h id, .dead g), (.h (tid d 0), .obj g' 0 s ((xs.take n ++ ys).map f))]) (ls := rds x ++ (rds y ++ [.h id2, .h id, .h (tid d 0)])) rfl ?_
  (fun g => C3 (by simp [slotOk, refOkV]) (C3 (by simp [slotOk, refOkV]) (C3 (B2 (A7 fun a => (hf a).2)) (H7 (hk g))))) (fun g => rfl) (fun g => c5y _ _ _ _ _ _ _ _ _) h
 simp only [aopV, dstOf]
 refine A4 (H0 (show wpA (CW cx) A (.ret d) _ from ?_))
 show wpW (CW cx) (puts A []) _ _
 refine A4 (C4 hT' (A4 (I3 hx (A4 (I3 hy ?_)))))
 unfold a1h
 refine A4 (R4 hT (A4 (C4 ⟨hb, h3, h4⟩ (A4 ?_))))
 simp only [c0m]
 refine A4 (I0 ho2 (A4 (C4 h2.symm ?_)))
 rw [if_pos (by simp [hid])]
 refine A4 (H2 (B4 ?_))
 refine A4 (C4 (a2g fun a => (hf a).1) ?_)
 simp only
 refine A4 (I0 (by
  show look (put A (.h id2) (.dead g2)) (.h id) = _
  rw [M7, hne]
  simpa using ho) (A4 (C4 ⟨rfl, by simp; omega, h2.symm, by simp only [List.length_map]; exact hle⟩ (A4 (H2 (A4 (I9 fun o => A4 (H2 (B4 ?_)))))))))
 have e3 : n + (ys.map f).length = (xs.take n ++ ys).length := by rw [el, List.length_map]
 exact ⟨G1 o + 1, by rw [e3], by simp [List.map_take], by simp⟩
end
section
variable {cx : Cx} {keep : List Nat} {A : Asr} {Q : AExit → Asr → Prop}
theorem c9y {β : Type} {a b : Code} (K : Asr) (_ : HasL A K) (I : β → Asr) (P : β → Prop) (ha : XA cx keep a A fun r A' => match r with
   | .normal => ∃ b, P b ∧ HasL A' (K ++ I b)
   | r => Q r A')
  (hb : ∀ x, P x → XA cx keep b (K ++ I x) Q) : XA cx keep (.seq a b) A Q := by
 refine A3 ?_
 intro st hs
 obtain ⟨n, r, st1, h1, A', h2, h3⟩ := ha st hs
 refine ⟨n, r, st1, h1, A', h2, ?_⟩
 cases r with
 | normal =>
  obtain ⟨x, hp, hl⟩ := h3
  exact d4m hl (hb x hp)
 | ret => exact h3
 | exit i => exact h3
theorem c0e {a b c : Code} (h : XA cx keep (.seq a (.seq b c)) A Q) : XA cx keep (.seq (.seq a b) c) A Q := by
 intro st hs
 obtain ⟨n, r, st1, h1, h2⟩ := h st hs
 refine ⟨n + 1, r, st1, ?_, h2⟩
 cases n with
 | zero => simp [aexec] at h1
 | succ n =>
  simp only [aexec] at h1 ⊢
  cases ha : aexec (CW cx) cx keep n a st with
  | none => simp [ha] at h1
  | some x =>
   obtain ⟨r1, s1⟩ := x
   have ha' := V5 cx ha (Nat.le_succ n)
   simp only [ha] at h1
   cases r1 with
   | normal =>
    simp only at h1 ⊢
    cases n with
    | zero => simp [aexec] at ha
    | succ n =>
     simp only [aexec] at h1
     cases hb : aexec (CW cx) cx keep n b s1 with
     | none => simp [hb] at h1
     | some y =>
      obtain ⟨r2, s2⟩ := y
      have hb' := V5 cx hb (show n ≤ n + 1 by omega)
      simp only [hb] at h1
      simp only [ha, hb']
      cases r2 with
      | normal => exact V5 cx h1 (show n ≤ n + 1 + 1 by omega)
      | ret => simpa using h1
      | exit i => simpa using h1
   | ret => simpa [ha] using h1
   | exit i => simpa [ha] using h1
theorem a0j {body : Code} (h : XA cx keep body A fun r A' => match r with
  | .normal => XA cx keep (.loop body) A' Q
  | r => Q r A') : XA cx keep (.loop body) A Q := by
 intro st hs
 obtain ⟨n, r, st1, h1, A', h2, h3⟩ := h st hs
 cases r with
 | normal =>
  obtain ⟨m, r2, st2, k1, A2, k2, k3⟩ := h3 st1 h2
  refine ⟨max n m + 1, r2, st2, ?_, A2, k2, k3⟩
  simp only [aexec, V5 cx h1 (Nat.le_max_left n m), V5 cx k1 (Nat.le_max_right n m)]
 | ret => exact ⟨n + 1, _, st1, by simp only [aexec, h1], A', h2, h3⟩
 | exit i => exact ⟨n + 1, _, st1, by simp only [aexec, h1], A', h2, h3⟩
end
section
variable {cx : Cx} {keep : List Nat} {ops0 : Array Oper} {r : List Oper} {A : Asr} {Q : Asr → List Log → Prop} {d : Nat} {ty : Nat} {pos : String} {aft : Array Edge}
end
section
variable {cx : Cx} {keep : List Nat} {ops0 : Array Oper} {r : List Oper} {A : Asr} {Q : Asr → List Log → Prop} {d : Nat} {ty : Nat} {pos : String} {aft : Array Edge}
variable {C : Caller} {m f j : Nat} {cs fs : List AV} {G : Type} {vs : G → List AV} {ws : G → Ws} {ls : List Mv.Loc}
def b9l (C : Caller) (A : Asr) (m f j : Nat) (cs fs : List AV) {G : Type} (vs : G → List AV) (ws : G → Ws) (ls : List Mv.Loc) : Prop :=
 wpW C A (absorbLeaves m f j cs fs) fun a w l => ∃ g, a = vs g ∧ w = ws g ∧ l = ls
theorem c3s : b9l C A m f j cs [] (fun _ : Unit => []) (fun _ => []) [] := B4 ⟨(), rfl, rfl, rfl⟩
theorem a7y {v : AV} (h : S1 (cs.headD .undef) v = true) (t : b9l C A m f (j + 1) cs.tail fs vs ws ls) (hm : m ≠ 2 := by decide) : b9l C A m f j cs (v :: fs) (fun g => v :: vs g) ws ls := by
 refine A4 (a4s hm h (A4 (G5 t ?_)))
 rintro _ _ _ ⟨g, rfl, rfl, rfl⟩
 exact B4 ⟨g, rfl, by simp, by simp⟩
theorem c5p {id g s n : Nat} {ys : List AV} (hid : 100000 ≤ id) (hne : id ≠ fid f j) (ho : look A (.h id) = some (.obj g 0 s ys)) (hn : n = ys.length)
  (t : ∀ g', b9l C (put (put A (.h id) (.dead g)) (.h (fid f j)) (.obj g' 0 s ys)) 3 f (j + 1) cs.tail fs vs ws ls) :
  b9l C A 3 f j cs (.sl id g none 0 n :: fs) (fun x : Nat × G => .sl (fid f j) x.1 none 0 n :: vs x.2) (fun x => (.h id, .dead g) :: (.h (fid f j), .obj x.1 0 s ys) :: ws x.2) (.h id :: .h (fid f j) :: ls) := by
 subst hn
 refine A4 ?_
 unfold J1
 simp only [if_true]
 rw [if_pos (by simp [hid, hne])]
 refine A4 (I0 ho ?_)
 simp only [if_true]
 refine A4 (C4 (Nat.le_refl _) (A4 (H2 (A4 (I9 fun o => A4 (H2 (B4 ?_)))))))
 have := t (G1 o + 1)
 simp only [List.take_length]
 refine A4 (G5 this ?_)
 rintro _ _ _ ⟨x, rfl, rfl, rfl⟩
 exact B4 ⟨(G1 o + 1, x), rfl, by simp, by simp⟩
theorem a3y {T id g s i : Nat} {a x : Operand} {es : List AV} {e : AV} (ha : opd A a = some (.ptr id g none i 0)) (hx : opd A x = some (.agg fs)) (ho : look A (.h id) = some (.obj g m s es)) (he : es[i]? = some e)
  (hl : b9l (CW cx) A m id 0 (leaves e) fs vs ws ls) (ho' : ∀ z, look (puts A (ws z)) (.h id) = some (.obj g m s es))
  (hc : m ≠ 2 ∧ fs.length = (tyS cx.P T).size ∧ 0 < fs.length ∧ fs.length ≤ (leaves e).length) (hf : ∀ z, T7 (vs z) (leaves e) = true) (hp : ∀ z, putAt e 0 (.agg (vs z)) = .agg (vs z))
  (hk : ∀ z, tRefsOk keep (keptWs keep (ws z ++ [(.h id, .obj g m s (es.set i (.agg (vs z))))])) = true)
  (h : ∀ z, XR cx keep ops0 r (a0b A (ws z ++ [(.h id, .obj g m s (es.set i (.agg (vs z))))])) fun A' lg => Q A' ((rds a ++ (rds x ++ (.h id :: (ls ++ [.h id, .h id]))), a2z (ws z ++ [(.h id, .obj g m s (es.set i (.agg (vs z))))])) :: lg)) :
  XR cx keep ops0 (⟨none, .store T a x, ty, pos, aft, none⟩ :: r) A Q := by
 refine d1h (v := fun _ => .undef) (ws := fun z => ws z ++ [(.h id, .obj g m s (es.set i (.agg (vs z))))]) (ls := rds a ++ (rds x ++ (.h id :: (ls ++ [.h id, .h id])))) rfl ?_ (fun z => ?_) (fun z => ?_) (fun z => ?_) (A1 := fun z => a0b A (ws z ++ [(.h id, .obj g m s (es.set i (.agg (vs z))))]))
 ·simp only [aopV]
  refine A4 (C4 (by simp) (A4 (I3 ha (A4 (I3 hx (A4 ?_))))))
  unfold b3j
  rw [if_neg (by simp [b2f])]
  unfold a6h
  refine A4 (I0 ho ?_)
  simp only [he, if_true]
  refine A4 ?_
  simp only [absorb, List.drop_zero]
  refine A4 (G5 hl ?_)
  rintro _ _ _ ⟨z, rfl, rfl, rfl⟩
  refine B4 ?_
  have ho2 := ho' z
  refine A4 (I0 (by simpa [puts] using ho2) ?_)
  simp only [he]
  refine A4 (C4 (by refine ⟨trivial, hc.1, hc.2.1, hc.2.2.1, ?_, hf z, .inl trivial⟩; simpa [leaves] using hc.2.2.2) (A4 (H0 ?_)))
  simp only [wrNode]
  rw [M6 (v := .obj g m s es) (by simpa [puts] using ho2)]
  simp only [D6]
  refine H2 (B4 ?_)
  exact ⟨z, rfl, by simp [hp z], by simp⟩
 ·simpa [setD] using hk z
 ·simpa [setD] using b1q A (ws z ++ [(.h id, .obj g m s (es.set i (.agg (vs z))))])
 ·simpa [setD] using h z
theorem a2q {T id g s k : Nat} {a x : Operand} {e v : AV} (ha : opd A a = some (.ptr id g none 0 k)) (hx : opd A x = some v) (ho : look A (.h id) = some (.obj g 3 s [e])) (hs : b2f v = true) (hT : (tyS cx.P T).size = 1) (he : k + 1 ≤ (leaves e).length)
  (hko : slotOk keep (.h id) (.obj g 3 s [putAt e k v]) = true)
  (h : XR cx keep ops0 r ((.h id, .obj g 3 s [putAt e k v]) :: A) fun A' lg => Q A' ((rds a ++ (rds x ++ [.h id]), [.h id]) :: lg)) :
  XR cx keep ops0 (⟨none, .store T a x, ty, pos, aft, none⟩ :: r) A Q := by
 refine d4g (v := .undef) (ws := [(.h id, .obj g 3 s [putAt e k v])]) (ls := rds a ++ (rds x ++ [.h id])) rfl ?_ (H7 hko) (b1f _ _ _) h
 simp only [aopV]
 refine A4 (C4 (by simp) (A4 (I3 ha (A4 (I3 hx (A4 ?_))))))
 unfold b3j
 rw [if_pos hs]
 unfold b7h
 refine A4 (I0 ho ?_)
 dsimp only
 rw [if_pos (show (3 : Nat) = 3 from rfl)]
 simp only [List.getElem?_cons_zero]
 refine A4 (C4 ⟨hT, he⟩ (H2 (B4 ?_)))
 exact ⟨rfl, by simp, by simp⟩
def c1m (C : Caller) (A : Asr) (b : Bool) (fs vs : List AV) (ws : Ws) (ls : List Mv.Loc) : Prop := wpW C A (retLeaves b fs) fun a w l => a = vs ∧ w = ws ∧ l = ls
variable {b : Bool} {us : List AV} {w1 : Ws}
theorem Y0 : c1m C A b [] [] [] [] := B4 ⟨rfl, rfl, rfl⟩
theorem Q3 {v : AV} (h : (immLeaf v && !I5 v) = true) (t : c1m C A b fs us w1 ls) : c1m C A b (v :: fs) (v :: us) w1 ls := by
 refine A4 (b6l h (A4 (G5 t ?_)))
 rintro _ _ _ ⟨rfl, rfl, rfl⟩
 exact B4 ⟨rfl, by simp, by simp⟩
theorem N9 {cids : List Cid} {outs : List (List AV)} {a T id g s : Nat} {rs : List ResultVar} {os : List AV} (hv : look A (.t a) = some (.ptr id g none 0 0)) (ho : look A (.h id) = some (.obj g 3 s [.agg fs])) (hn : (fs.all fun l => !isOwn l) = true)
  (hp : partF cx.P T fs = some (.agg fs)) (hr : c1m (CW cx) A b fs us w1 ls) (h : b5d cx b cids outs rs (puts A w1) os) : b5d cx b cids outs (.cell a T :: rs) A (.agg us :: os) := by
 refine a2w ?_
 unfold retVar
 refine A4 (H0 ?_)
 rw [b2c hv]
 refine A4 (H0 ?_)
 simp only [loadG, loadA, rdNode, C5]
 rw [M6 (by exact ho)]
 simp only [C5, D8, D6, true_and, List.getElem?_cons_zero, List.drop_zero, leaves]
 rw [a5u _ _ hn, a6b hp]
 refine A4 (G5 hr ?_)
 rintro a1 w1 l1 ⟨rfl, rfl, rfl⟩
 refine B4 ?_
 have h' : wpW (CW cx) (puts A ([] ++ ([] ++ (w1 ++ [])))) (retAll cx.P b rs) fun us ws _ => us = os ∧ a0p (puts (puts A w1) ws) cids outs := by
  simp only [List.nil_append, List.append_nil]
  exact h
 refine G5 h' ?_
 rintro us' ws' ls' ⟨rfl, h2⟩
 refine ⟨rfl, ?_⟩
 simp only [List.nil_append, List.append_nil, a3o]
 exact h2
variable {k : Nat}
end
abbrev Bk := Int × Int × Int
section
variable {P Q v : Nat → Int}
def SegL (P Q v : Nat → Int) : Nat → List Bk → Nat → Prop
 | a, [], e => a = e
 | a, b :: r, e => ∃ m, a < m ∧ b.1 = P m - P a ∧ b.2.1 = Q m - Q a ∧ b.2.2 = v (m - 1) ∧ (∀ k, a < k → k ≤ m → (P m - P a) * (Q k - Q a) ≤ (P k - P a) * (Q m - Q a)) ∧ SegL P Q v m r e
theorem SegL.le : ∀ {l : List Bk} {a e : Nat}, SegL P Q v a l e → a ≤ e
 | [], _, _, h => Nat.le_of_eq h
 | _ :: _, _, _, ⟨_, h1, _, _, _, _, h⟩ => by have := h.le; omega
theorem SegL.append : ∀ {l1 l2 : List Bk} {a e : Nat}, SegL P Q v a (l1 ++ l2) e ↔ ∃ m, SegL P Q v a l1 m ∧ SegL P Q v m l2 e
 | [], l2, a, e => ⟨fun h => ⟨a, rfl, h⟩, fun ⟨m, h1, h2⟩ => by cases (h1 : a = m); exact h2⟩
 | b :: l1, l2, a, e => by
  constructor
  ·rintro ⟨m, h1, h2, h3, h4, h5, h6⟩
   obtain ⟨k, k1, k2⟩ := SegL.append.1 h6
   exact ⟨k, ⟨m, h1, h2, h3, h4, h5, k1⟩, k2⟩
  ·rintro ⟨k, ⟨m, h1, h2, h3, h4, h5, k1⟩, k2⟩
   exact ⟨m, h1, h2, h3, h4, h5, SegL.append.2 ⟨k, k1, k2⟩⟩
theorem Qlt {m : Nat} (hQ : ∀ j, j < m → Q j < Q (j + 1)) : ∀ {b a : Nat}, a < b → b ≤ m → Q a < Q b
 | 0, _, h, _ => by omega
 | b + 1, a, h, hm => by
  have h1 := hQ b (by omega)
  by_cases e : a = b
  ·subst e; exact h1
  ·have := Qlt hQ (b := b) (a := a) (by omega) (by omega); omega
def ltB (x y : Bk) : Prop := x.1 * y.2.1 < y.1 * x.2.1
def Inc : List Bk → Prop
 | [] => True
 | [_] => True
 | b :: c :: r => ltB b c ∧ Inc (c :: r)
theorem Inc.snoc : ∀ {l : List Bk} {x z : Bk}, Inc (l ++ [x] ++ [z]) ↔ Inc (l ++ [x]) ∧ ltB x z
 | [], x, z => by simp [Inc]
 | [b], x, z => by simp [Inc, and_assoc]
 | b :: c :: r, x, z => by
  have := Inc.snoc (l := c :: r) (x := x) (z := z)
  simp only [List.cons_append] at this ⊢
  simp only [Inc, this, and_assoc]
theorem Inc.init : ∀ {l : List Bk} {x : Bk}, Inc (l ++ [x]) → Inc l
 | [], _, _ => trivial
 | [_], _, _ => trivial
 | b :: c :: r, x, h => ⟨h.1, Inc.init (l := c :: r) (x := x) h.2⟩
theorem Inc.tail {b : Bk} {r : List Bk} (h : Inc (b :: r)) : Inc r := by
 cases r with
 | nil => trivial
 | cons c r => exact h.2
theorem d5j {X p Y q Z r : Int} (hq : 0 < q) (hp : 0 < p) (hr : 0 < r) (h1 : X * q < Y * p) (h2 : Y * r < Z * q) : X * r < Z * p := by
 refine Int.lt_of_mul_lt_mul_left (a := q) ?_ (by omega)
 have a1 := Int.mul_lt_mul_of_pos_right h1 hr
 have a2 := Int.mul_lt_mul_of_pos_right h2 hp
 grind
theorem d5b {X p Y q u z : Int} (hq : 0 < q) (hp : 0 < p) (hu : 0 < u) (h1 : X * q < Y * p) (h2 : Y * u ≤ z * q) : X * u < z * p := by
 refine Int.lt_of_mul_lt_mul_left (a := q) ?_ (by omega)
 have a1 := Int.mul_lt_mul_of_pos_right h1 hu
 have a2 := Int.mul_le_mul_of_nonneg_right h2 (show 0 ≤ p by omega)
 grind
theorem SegL.above {n : Nat} (hQ : ∀ j, j < n → Q j < Q (j + 1)) {X p : Int} (hp : 0 < p) : ∀ {r : List Bk} {m e : Nat}, e ≤ n → SegL P Q v m r e → Inc r → (∀ b, r.head? = some b → X * b.2.1 < b.1 * p) →
  ∀ k, m < k → k ≤ e → X * (Q k - Q m) < (P k - P m) * p
 | [], m, e, _, h, _, _, k, k1, k2 => by cases (h : m = e); omega
 | b :: r, m, e, he, h, hi, hb, k, k1, k2 => by
  obtain ⟨m', h1, h2, h3, h4, h5, h6⟩ := h
  have hme := h6.le
  have hb0 : X * b.2.1 < b.1 * p := hb b rfl
  rw [h2, h3] at hb0
  clear hb
  have q1 := Qlt hQ h1 (by omega)
  rcases Nat.lt_or_ge m' k with c | c
  ·have a1 := SegL.above hQ hp he h6 hi.tail (fun c hc => by
    cases r with
    | nil => cases hc
    | cons c' r =>
     have hcc : c' = c := Option.some.inj hc
     subst hcc
     obtain ⟨m2, g1, g2, g3, _, _, g6⟩ := h6
     have hlt : ltB b c' := hi.1
     unfold ltB at hlt
     rw [h2, h3] at hlt
     have hm2 := g6.le
     have q2 := Qlt hQ g1 (by omega)
     exact d5j (by omega) hp (by omega) hb0 hlt) k c k2
   have e1 : Q k - Q m = (Q m' - Q m) + (Q k - Q m') := by omega
   have e2 : P k - P m = (P m' - P m) + (P k - P m') := by omega
   rw [e1, e2, Int.mul_add, Int.add_mul]
   omega
  ·have q2 := Qlt hQ k1 (by omega)
   exact d5b (by omega) hp (by omega) hb0 (h5 k k1 c)
theorem SegL.after {n : Nat} (hQ : ∀ j, j < n → Q j < Q (j + 1)) {b : Bk} {r : List Bk} {a m e : Nat} (he : e ≤ n) (h1 : a < m) (h2 : b.1 = P m - P a) (h3 : b.2.1 = Q m - Q a) (h6 : SegL P Q v m r e) (hi : Inc (b :: r)) :
  ∀ k, m < k → k ≤ e → (P m - P a) * (Q k - Q a) < (P k - P a) * (Q m - Q a) := by
 intro k k1 k2
 have hme := h6.le
 have q1 := Qlt hQ h1 (by omega)
 have a1 := SegL.above hQ (X := P m - P a) (p := Q m - Q a) (by omega) he h6 hi.tail (fun c hc => by
  cases r with
  | nil => cases hc
  | cons c' r =>
   have hcc : c' = c := Option.some.inj hc
   subst hcc
   have hlt : ltB b c' := hi.1
   unfold ltB at hlt
   rwa [h2, h3] at hlt) k k1 k2
 have e1 : Q k - Q a = (Q m - Q a) + (Q k - Q m) := by omega
 have e2 : P k - P a = (P m - P a) + (P k - P m) := by omega
 rw [e1, e2, Int.mul_add, Int.add_mul]
 omega
def fiU : List Bk → Int → Nat
 | [], _ => 0
 | b :: r, x => if x ≤ b.2.2 then 0 else fiU r x + 1
theorem SegL.has {n : Nat} (hv : ∀ i j, i < j → j < n → v i < v j) : ∀ {bs : List Bk} {a e g : Nat}, e ≤ n → SegL P Q v a bs e → g < e → a < e → fiU bs (v g) < bs.length
 | [], a, e, g, _, h, _, h2 => by cases (h : a = e); omega
 | b :: r, a, e, g, he, h, hg, _ => by
  obtain ⟨m, h1, h2, h3, h4, h5, h6⟩ := h
  unfold fiU
  split
  ·simp
  ·rename_i c
   have hm := h6.le
   have hgm : m ≤ g := by
    refine Classical.byContradiction fun hc => c ?_
    rw [h4]
    rcases Nat.lt_or_ge g (m - 1) with c2 | c2
    ·have := hv g (m - 1) c2 (by omega); omega
    ·have : g = m - 1 := by omega
     rw [this]; exact Int.le_refl _
   have := SegL.has hv he h6 hg (by omega)
   simpa using this
end
def prS (f : Nat → Int) : Nat → Int
 | 0 => 0
 | k + 1 => prS f k + f k
theorem c9x {f : Nat → Int} {c : Int} : ∀ {n : Nat}, (∀ i, i < n → 0 ≤ f i ∧ f i ≤ c) → 0 ≤ prS f n ∧ prS f n ≤ n * c
 | 0, _ => ⟨Int.le_refl _, by simp [prS]⟩
 | n + 1, h => by
  have h1 := c9x (n := n) fun i hi => h i (by omega)
  have h2 := h n (by omega)
  rw [prS]
  have : ((n + 1 : Nat) : Int) * c = n * c + c := by rw [Int.natCast_succ, Int.add_mul, Int.one_mul]
  omega
theorem c5u (f : Nat → Int) : ∀ n, prS f n = ((List.range n).map f).sum
 | 0 => rfl
 | n + 1 => by rw [prS, c5u f n, List.range_succ, List.map_append, List.sum_append]; simp
def fX (xs : List Int) (i : Nat) : Int := xs.getD i default
def b6t (xs : List Int) (i : Nat) (d : List Nat) : Prop := d.Perm (List.range i) ∧ (d.map (fX xs)).Pairwise (· ≤ ·)
theorem b6t.step {xs : List Int} {i k : Nat} {d : List Nat} (h : b6t xs i d) (hk : k ≤ d.length) (h1 : ∀ j, j < k → fX xs (d.getD j default) ≤ fX xs i) (h2 : k < d.length → fX xs i ≤ fX xs (d.getD k default)) :
  b6t xs (i + 1) (d.take k ++ [i] ++ d.drop k) := by
 refine ⟨?_, ?_⟩
 ·rw [List.range_succ]
  have : (d.take k ++ [i] ++ d.drop k).Perm (d.take k ++ d.drop k ++ [i]) := by
   rw [List.append_assoc, List.append_assoc]
   exact List.Perm.append_left _ List.perm_append_comm
  rw [List.take_append_drop] at this
  exact this.trans (h.1.append_right _)
 ·have e : ∀ j, j < d.length → (d.map (fX xs)).getD j default = fX xs (d.getD j default) := by
   intro j hj
   rw [List.getD_eq_getElem?_getD, List.getD_eq_getElem?_getD, List.getElem?_map, List.getElem?_eq_getElem hj]; rfl
  have := a5v (out := d.map (fX xs)) (x := fX xs i) (k := k) h.2 (by simpa using hk) (fun j hj => by rw [e j (by omega)]; exact h1 j hj) (fun hk2 => by rw [e k (by simpa using hk2)]; exact h2 (by simpa using hk2))
  have e2 : (d.take k ++ [i] ++ d.drop k).map (fX xs) = a6i (fX xs i) (d.map (fX xs)) := by rw [← this]; simp [List.map_take, List.map_drop]
  rw [e2]
  exact a1j _ _ h.2
theorem b6t.ys {xs : List Int} {d : List Nat} (h : b6t xs xs.length d) : d.map (fX xs) = S6 xs := by
 refine b9s ?_ h.2
 have := h.1.map (fX xs)
 have e : (List.range xs.length).map (fX xs) = xs := by
  apply List.ext_getElem
  ·simp
  ·intro i h1 h2
   simp [fX, List.getD_eq_getElem?_getD, List.getElem?_eq_getElem h2]
 rwa [e] at this
theorem b6t.len {xs : List Int} {i : Nat} {d : List Nat} (h : b6t xs i d) : d.length = i := by rw [h.1.length_eq, List.length_range]
theorem b6t.lt {xs : List Int} {i : Nat} {d : List Nat} (h : b6t xs i d) {j : Nat} (hj : j < d.length) : d.getD j default < i := List.mem_range.1 (h.1.mem_iff.1 (L1 hj))
abbrev wList : ByteArray := ⟨#[108, 105, 115, 116]⟩
abbrev wA : ByteArray := ⟨#[97]⟩
abbrev wB : ByteArray := ⟨#[98]⟩
abbrev wC : ByteArray := ⟨#[99]⟩
abbrev wD : ByteArray := ⟨#[100]⟩
abbrev d1j : ByteArray := ⟨#[115, 111, 114, 116]⟩
abbrev d4w : ByteArray := ⟨#[114, 101, 118]⟩
abbrev d6e : ByteArray := ⟨#[110, 101, 103]⟩
abbrev d5q : ByteArray := ⟨#[97, 98, 115]⟩
abbrev d1t : ByteArray := ⟨#[100, 105, 102, 102]⟩
abbrev c9w : ByteArray := ⟨#[115, 117, 109, 115]⟩
abbrev c4u : ByteArray := ⟨#[114, 97, 110, 107, 115]⟩
abbrev c3z : ByteArray := ⟨#[116, 111, 116, 97, 108]⟩
abbrev d5n : ByteArray := ⟨#[97, 100, 100]⟩
abbrev d1m : ByteArray := ⟨#[106, 111, 105, 110]⟩
def nd (w : ByteArray) : Int :=
 if w.toList = wList.toList then 0 else if w.toList = wA.toList then 0 else if w.toList = wB.toList then 0 else if w.toList = wC.toList then 0 else if w.toList = wD.toList then 0
 else if w.toList = d1j.toList then 1 else if w.toList = d4w.toList then 1 else if w.toList = d6e.toList then 1 else if w.toList = d5q.toList then 1 else if w.toList = d1t.toList then 1
 else if w.toList = c9w.toList then 1 else if w.toList = c4u.toList then 1 else if w.toList = c3z.toList then 1 else if w.toList = d5n.toList then 2 else if w.toList = d1m.toList then 2 else -1
def rch (w : ByteArray) : Int :=
 if w.toList = d1j.toList then 1 else if w.toList = d4w.toList then 1 else if w.toList = d6e.toList then 1 else if w.toList = d5q.toList then 1 else if w.toList = d1t.toList then 1
 else if w.toList = c9w.toList then 1 else if w.toList = c4u.toList then 1 else if w.toList = c3z.toList then 1 else if w.toList = d5n.toList then 2 else if w.toList = d1m.toList then 2
 else if w.toList = wA.toList then 0 else if w.toList = wB.toList then 0 else if w.toList = wC.toList then 0 else if w.toList = wD.toList then 0 else -1
theorem d5p {p : Prop} [Decidable p] {a b : Int} (ha : -1 ≤ a ∧ a ≤ 2) (hb : -1 ≤ b ∧ b ≤ 2) : -1 ≤ (if p then a else b) ∧ (if p then a else b) ≤ 2 := by split <;> assumption
theorem d1e (w : ByteArray) : -1 ≤ rch w ∧ rch w ≤ 2 := by
 unfold rch
 repeat (refine d5p (by decide) ?_)
 decide
def H3 (x : List Int) (i : Nat) : Int := x.getD i default
def dfI (x : List Int) : List Int := (List.range x.length).map fun i => if i = 0 then H3 x 0 else H3 x i - H3 x (i - 1)
def smI (x : List Int) : List Int := (List.range x.length).map fun i => prS (H3 x) (i + 1)
def rkT (x : List Int) (v : Int) (j : Nat) : Int := if H3 x j < v then 2 else if H3 x j = v then 1 else 0
def rkI (x : List Int) : List Int := (List.range x.length).map fun i => 1 + prS (rkT x (H3 x i)) x.length
def adI (x y : List Int) : List Int := (List.range x.length).map fun i => H3 x i + H3 y i
def N8 (op : ByteArray) (x y : List Int) : Option (List Int) :=
 if op.toList = d1j.toList then some (S6 x) else if op.toList = d4w.toList then some x.reverse else if op.toList = d6e.toList then some (x.map fun v => -v)
 else if op.toList = d5q.toList then some (x.map fun v => max v (-v)) else if op.toList = d1t.toList then some (dfI x) else if op.toList = c9w.toList then some (smI x)
 else if op.toList = c4u.toList then some (rkI x) else if op.toList = c3z.toList then some [x.sum] else if op.toList = d5n.toList then (if x.length = y.length then some (adI x y) else none)
 else if op.toList = d1m.toList then some (x ++ y) else some x
def vl (x : List Int) : Bool := decide (x.length ≤ 40) && a8j (-100000) 100000 x
theorem Q8 {x : List Int} : vl x = true ↔ x.length ≤ 40 ∧ a8j (-100000) 100000 x = true := by simp [vl]
theorem d2w {x : List Int} (h : vd x = true) : vl x = true := by
 rw [Q8]
 have h1 := b3a h
 refine ⟨by omega, W4.2 fun i hi => ?_⟩
 have := W4.1 (d2l h) i hi
 omega
def mkR (op : ByteArray) (x y : List Int) : Option (List Int) := (N8 op x y).bind fun r => if vl r = true then some r else none
def raR (op : ByteArray) (x y : List Int) : List Int := (N8 op x y).getD []
theorem d2c {op : ByteArray} {x y r : List Int} (h : mkR op x y = some r) : vl r = true := by
 unfold mkR at h
 cases hr : N8 op x y with
 | none => rw [hr] at h; cases h
 | some q =>
  rw [hr, Option.bind_some] at h
  split at h
  ·cases h; assumption
  ·cases h
theorem c6o {op : ByteArray} {x y r : List Int} (h : mkR op x y = some r) : raR op x y = r := by
 unfold mkR at h
 unfold raR
 cases hr : N8 op x y with
 | none => rw [hr] at h; cases h
 | some q =>
  rw [hr, Option.bind_some] at h
  split at h
  ·cases h; rfl
  ·cases h
theorem a0i {x : List Int} (h : vl x = true) (i : Nat) : -100000 ≤ H3 x i ∧ H3 x i ≤ 100000 := by
 unfold H3
 rcases Nat.lt_or_ge i x.length with c | c
 ·exact W4.1 (Q8.1 h).2 i c
 ·rw [List.getD_eq_getElem?_getD, List.getElem?_eq_none c]; decide
theorem c1o {x : List Int} (h : vl x = true) : ∀ i : Nat, -(100000 * (i : Int)) ≤ prS (H3 x) i ∧ prS (H3 x) i ≤ 100000 * (i : Int)
 | 0 => by simp [prS]
 | i + 1 => by
  have h1 := c1o h i
  have h2 := a0i h i
  rw [prS]
  omega
theorem d6k (x : List Int) (v : Int) (k : Nat) : 0 ≤ prS (rkT x v) k ∧ prS (rkT x v) k ≤ k * 2 := c9x fun i _ => by unfold rkT; split <;> (try split) <;> omega
def S5 (n : Nat) (f g : Nat → Int) (i : Nat) (l : List Int) : Prop := l.length = n ∧ ∀ j, j < n → l.getD j default = if j < i then f j else g j
theorem S5.step {n i : Nat} {f g : Nat → Int} {l : List Int} (h : S5 n f g i l) (hi : i < n) {v : Int} (hv : v = f i) : S5 n f g (i + 1) (l.set i v) := by
 refine ⟨by simp [h.1], fun j hj => ?_⟩
 rw [a4r _ _ _ _ (by rw [h.1]; exact hi)]
 by_cases e : j = i
 ·subst e; rw [if_pos rfl, if_pos (by omega), hv]
 ·rw [if_neg e, h.2 j hj]
  by_cases c : j < i
  ·rw [if_pos c, if_pos (by omega)]
  ·rw [if_neg c, if_neg (by omega)]
theorem S5.at {n i : Nat} {f g : Nat → Int} {l : List Int} (h : S5 n f g i l) (hi : i < n) : l.getD i default = g i := by rw [h.2 i hi, if_neg (by omega)]
theorem S5.fin {n i : Nat} {f g : Nat → Int} {l : List Int} (h : S5 n f g i l) (hi : n ≤ i) : l = (List.range n).map f := by
 refine a1p (d := default) (by simp [h.1]) fun j hj => ?_
 rw [h.1] at hj
 rw [h.2 j hj, if_pos (by omega), List.getD_eq_getElem?_getD, List.getElem?_map, List.getElem?_range hj]
 rfl
theorem S5.start (x : List Int) (f : Nat → Int) : S5 x.length f (H3 x) 0 x := ⟨rfl, fun j hj => by rw [if_neg (by omega)]; rfl⟩
theorem a6m (x : List Int) (f : Int → Int) : (List.range x.length).map (fun i => f (H3 x i)) = x.map f := by
 apply List.ext_getElem
 ·simp
 ·intro i h1 h2
  simp at h1
  simp [H3, List.getD_eq_getElem?_getD, List.getElem?_eq_getElem h1]
theorem U2 {f : Nat → Int} (i : Nat) : (List.range (i + 1)).map f = (List.range i).map f ++ [f i] := by rw [List.range_succ, List.map_append]; rfl
def a3h (x : List Int) (i : Nat) (l : List Int) : Prop := l.length = x.length ∧ ∀ j, j < x.length → l.getD j default = if i < j then H3 x j - H3 x (j - 1) else H3 x j
theorem a3h.step {x l : List Int} {i : Nat} (h : a3h x i l) (h0 : 0 < i) (hi : i < x.length) : a3h x (i - 1) (l.set i (l.getD i default - l.getD (i - 1) default)) := by
 refine ⟨by simp [h.1], fun j hj => ?_⟩
 rw [a4r _ _ _ _ (by rw [h.1]; exact hi)]
 by_cases e : j = i
 ·subst e
  rw [if_pos rfl, h.2 j hj, h.2 (j - 1) (by omega), if_neg (by omega), if_neg (by omega), if_pos (by omega)]
 ·rw [if_neg e, h.2 j hj]
  by_cases c : i < j
  ·rw [if_pos c, if_pos (by omega)]
  ·rw [if_neg c, if_neg (by omega)]
theorem a3h.fin {x l : List Int} (h : a3h x 0 l) : l = dfI x := by
 refine a1p (d := default) (by simp [h.1, dfI]) fun j hj => ?_
 rw [h.1] at hj
 rw [h.2 j hj, dfI, List.getD_eq_getElem?_getD, List.getElem?_map, List.getElem?_range hj]
 show _ = if j = 0 then _ else _
 by_cases e : j = 0
 ·subst e; rw [if_neg (by omega), if_pos rfl]
 ·rw [if_pos (by omega), if_neg e]
theorem b6h (x : List Int) : prS (H3 x) x.length = x.sum := c5u (H3 x) x.length ▸ (by
 congr 1
 apply List.ext_getElem
 ·simp
 ·intro i h1 h2
  simp [H3, List.getD_eq_getElem?_getD, List.getElem?_eq_getElem h2])
end Go.Mv
namespace Go.Mv
theorem c9a {x : List Int} {k : Nat} (h : k < x.length) : x.drop k = x.getD k default :: x.drop (k + 1) := by
 rw [List.drop_eq_getElem_cons h, List.getD_eq_getElem?_getD, List.getElem?_eq_getElem h]; rfl
def d1z (k : Nat) : ByteArray := ⟨#[UInt8.ofNat (97 + k)]⟩
def vcs (cols : List (List Int)) : Bool := cols.all vd && decide (cols.length ≤ 4)
theorem c5q {cols : List (List Int)} : vcs cols = true ↔ (∀ c ∈ cols, vd c = true) ∧ cols.length ≤ 4 := by simp [vcs]
theorem d3d {cols : List (List Int)} {i : Nat} (hi : i < cols.length) (h : vd (cols.getD i default) = false) : vcs cols = false := by
 cases hv : vcs cols with
 | false => rfl
 | true => rw [(c5q.1 hv).1 _ (L1 hi)] at h; cases h
theorem d1q {cols : List (List Int)} (h : ∀ j, j < cols.length → vd (cols.getD j default) = true) : vcs cols = decide ((cols.length : Int) ≤ 4) := by
 have h1 : cols.all vd = true := by
  rw [List.all_eq_true]
  intro c hc
  obtain ⟨i, hi, rfl⟩ := List.getElem_of_mem hc
  have := h i hi
  rwa [List.getD_eq_getElem?_getD, List.getElem?_eq_getElem hi] at this
 rw [vcs, h1, Bool.true_and]
 exact decide_eq_decide.2 (by omega)
theorem c5v (cols : List (List Int)) : vcs cols = (decide ((cols.length : Int) ≤ 4) && !(cols.any fun c => !vd c)) := by
 have h1 : (!(cols.any fun c => !vd c)) = cols.all vd := by
  induction cols with
  | nil => rfl
  | cons c r ih => simp [ih]
 have h2 : decide ((cols.length : Int) ≤ 4) = decide (cols.length ≤ 4) := decide_eq_decide.2 (by omega)
 rw [vcs, h1, h2, Bool.and_comm]
theorem c9k {ls : List (List Int)} {q : List Int → Bool} {i : Nat} (hi : i < ls.length) (h : q (ls.getD i default) = true) : decide (0 ≤ (i : Int)) = ls.any q := by
 rw [decide_eq_true (by omega), eq_comm, List.any_eq_true]
 exact ⟨_, L1 hi, h⟩
theorem c6w {ls : List (List Int)} {q : List Int → Bool} (h : ∀ j, j < ls.length → q (ls.getD j default) = false) : decide (0 ≤ (-1 : Int)) = ls.any q := by
 rw [decide_eq_false (by omega), eq_comm, List.any_eq_false]
 intro c hc
 obtain ⟨i, hi, rfl⟩ := List.getElem_of_mem hc
 have := h i hi
 rw [List.getD_eq_getElem?_getD, List.getElem?_eq_getElem hi] at this
 simp [show q ls[i] = false from this]
def b8i (x : List Int) (i : Nat) (l : List Int) : Prop := l.length = x.length ∧ ∀ j, j < x.length → l.getD j default = if j < i ∨ x.length - 1 - i < j then H3 x (x.length - 1 - j) else H3 x j
theorem b8i.start (x : List Int) : b8i x 0 x := ⟨rfl, fun j hj => by rw [if_neg (by omega)]; rfl⟩
theorem b8i.step {x l : List Int} {i : Nat} (h : b8i x i l) (hi : i < x.length - 1 - i) : b8i x (i + 1) ((l.set i (l.getD (x.length - 1 - i) default)).set (x.length - 1 - i) (l.getD i default)) := by
 refine ⟨by simp [h.1], fun j hj => ?_⟩
 rw [a4r _ _ _ _ (by simp [h.1]; omega), a4r _ _ _ _ (by rw [h.1]; omega)]
 by_cases e : j = x.length - 1 - i
 ·subst e
  rw [if_pos rfl, h.2 i (by omega), if_neg (by omega), if_pos (by omega), show x.length - 1 - (x.length - 1 - i) = i by omega]
 ·rw [if_neg e]
  by_cases e2 : j = i
  ·subst e2
   rw [if_pos rfl, h.2 _ (by omega), if_neg (by omega), if_pos (by omega)]
  ·rw [if_neg e2, h.2 j hj]
   by_cases c : j < i ∨ x.length - 1 - i < j
   ·rw [if_pos c, if_pos (by omega)]
   ·rw [if_neg c, if_neg (by omega)]
theorem b8i.fin {x l : List Int} {i : Nat} (h : b8i x i l) (hi : x.length - 1 - i ≤ i) : l = x.reverse := by
 refine a1p (d := default) (by simp [h.1]) fun j hj => ?_
 rw [h.1] at hj
 have hr : x.reverse.getD j default = H3 x (x.length - 1 - j) := by
  unfold H3
  rw [List.getD_eq_getElem?_getD, List.getD_eq_getElem?_getD, List.getElem?_reverse hj]
 rw [h.2 j hj, hr]
 split
 ·rfl
 ·rename_i c
  rw [show x.length - 1 - j = j by omega]
end Go.Mv
namespace Go.Mv
theorem d2b {w : ByteArray} (h : 1 ≤ nd w) : w.toList = [115, 111, 114, 116] ∨ w.toList = [114, 101, 118] ∨ w.toList = [110, 101, 103] ∨ w.toList = [97, 98, 115] ∨ w.toList = [100, 105, 102, 102] ∨ w.toList = [115, 117, 109, 115] ∨
  w.toList = [114, 97, 110, 107, 115] ∨ w.toList = [116, 111, 116, 97, 108] ∨ w.toList = [97, 100, 100] ∨ w.toList = [106, 111, 105, 110] := by
 refine Classical.byContradiction fun hn => ?_
 simp only [not_or] at hn
 obtain ⟨h1, h2, h3, h4, h5, h6, h7, h8, h9, h10⟩ := hn
 have key : nd w ≤ 0 := by
  simp [nd, h1, h2, h3, h4, h5, h6, h7, h8, h9, h10]
  (repeat' split) <;> decide
 omega
theorem c9t {w : ByteArray} (h : w.toList = [97, 100, 100] ∨ w.toList = [106, 111, 105, 110]) : nd w = 2 := by
 rcases h with h | h <;> simp [nd, h]
theorem S5.start1 (x : List Int) : S5 x.length (fun i => prS (H3 x) (i + 1)) (H3 x) 1 x := ⟨rfl, fun j hj => by
 by_cases c : j < 1
 ·rw [if_pos c, show j = 0 by omega]; simp [prS, H3]
 ·rw [if_neg c]; rfl⟩
theorem a3h.start (x : List Int) : a3h x (x.length - 1) x := ⟨rfl, fun j hj => by rw [if_neg (by omega)]; rfl⟩
theorem a3h.val {x l : List Int} {i : Nat} (h : a3h x i l) (j : Nat) : l.getD j default = if i < j ∧ j < x.length then H3 x j - H3 x (j - 1) else H3 x j := by
 rcases Nat.lt_or_ge j x.length with c | c
 ·rw [h.2 j c]
  by_cases c2 : i < j
  ·rw [if_pos c2, if_pos ⟨c2, c⟩]
  ·rw [if_neg c2, if_neg (by omega)]
 ·rw [if_neg (by omega), List.getD_eq_getElem?_getD, List.getElem?_eq_none (by rw [h.1]; exact c)]
  unfold H3
  rw [List.getD_eq_getElem?_getD, List.getElem?_eq_none c]
theorem S5.before {n i j : Nat} {f g : Nat → Int} {l : List Int} (h : S5 n f g i l) (hj : j < i) (hn : j < n) : l.getD j default = f j := by rw [h.2 j hn, if_pos hj]
theorem adF {op : ByteArray} {x y l : List Int} (ho : op.toList = [97, 100, 100]) (hl : x.length = y.length) (h : l = adI x y) (_ : True = True) : N8 op x y = some l := by
 simp [N8, ho, hl, h]
theorem apF {op : ByteArray} {x y l l' : List Int} (h : l = l') (h2 : N8 op x y = some l') : N8 op x y = some l := by rw [h]; exact h2
structure Stp where
 op : ByteArray
 a : Int
 b : Int
 ns : List Int
instance : Inhabited Stp := ⟨⟨⟨#[]⟩, 0, 0, []⟩⟩
section
variable {cx : Cx} {keep : List Nat} {ops0 : Array Oper} {r : List Oper} {A : Asr} {Q : Asr → List Log → Prop} {d : Nat} {ty : Nat} {pos : String} {aft : Array Edge}
def Stp.sOp (y : Stp) (s : ByteArray) : Stp := ⟨s, y.a, y.b, y.ns⟩
def Stp.sA (y : Stp) (n : Int) : Stp := ⟨y.op, n, y.b, y.ns⟩
def Stp.sB (y : Stp) (n : Int) : Stp := ⟨y.op, y.a, n, y.ns⟩
def Stp.sN (y : Stp) (l : List Int) : Stp := ⟨y.op, y.a, y.b, l⟩
@[simp] theorem Stp.sOp_ns (y : Stp) (s : ByteArray) : (y.sOp s).ns = y.ns := rfl
@[simp] theorem Stp.sA_ns (y : Stp) (s : Int) : (y.sA s).ns = y.ns := rfl
@[simp] theorem Stp.sB_ns (y : Stp) (s : Int) : (y.sB s).ns = y.ns := rfl
@[simp] theorem Stp.sN_ns (y : Stp) (s : List Int) : (y.sN s).ns = s := rfl
end
theorem d3o {w : ByteArray} (h : w.toList = wList.toList) : nd w = 0 := by rw [nd, if_pos h]
theorem c4n (w : ByteArray) (h : w.toList ≠ wList.toList) : nd w = rch w := by
 by_cases hA : w.toList = wA.toList
 ·simp [nd, rch, hA]
 by_cases hB : w.toList = wB.toList
 ·simp [nd, rch, hB]
 by_cases hC : w.toList = wC.toList
 ·simp [nd, rch, hC]
 by_cases hD : w.toList = wD.toList
 ·simp [nd, rch, hD]
 unfold nd rch
 rw [if_neg h, if_neg hA, if_neg hB, if_neg hC, if_neg hD, if_neg hA, if_neg hB, if_neg hC, if_neg hD]
section
variable {cx : Cx} {keep : List Nat} {ops0 : Array Oper} {r : List Oper} {A : Asr} {Q : Asr → List Log → Prop} {d : Nat} {ty : Nat} {pos : String} {aft : Array Edge}
theorem c9g {C : Caller} {id g s0 i j s n : Nat} {es ys : List AV} {e : AV} (ho : look A (.h id) = some (.obj g 0 s0 es)) (hl : leafAt es i j = some (.own s ys)) (he : es[i]? = some e) (hn : n = ys.length) (hr : F7 ys = true)
  {R : AV → Ws → List Mv.Loc → Prop} (h : R (.own s ys) [(.h id, .obj g 0 s0 (es.set i (putAt e j .undef)))] [.h id, .h id]) : wpW C A (U0 (.sl id g (some (i, j)) 0 n)) R := by
 subst hn
 unfold U0
 refine A4 (c7d ho hl ?_)
 simp only [and_self, if_true]
 refine A4 (C4 ⟨Nat.le_refl _, hr⟩ (A4 ?_))
 unfold b4c
 refine A4 (H0 ?_)
 rw [b2c (v := .obj g 0 s0 es) (by exact ho)]
 simp only [he]
 refine H2 (B4 ?_)
 simpa using h
theorem d4i {b : Bool} {cids : List Cid} {outs : List (List AV)} {t id g s0 i j s n : Nat} {es ys : List AV} {e : AV} {rs : List ResultVar} {vs : List AV} (hv : look A (.t t) = some (.sl id g (some (i, j)) 0 n)) (ho : look A (.h id) = some (.obj g 0 s0 es))
  (hl : leafAt es i j = some (.own s ys)) (he : es[i]? = some e) (hn : n = ys.length) (hr : F7 ys = true) (h : b5d cx b cids outs rs (put A (.h id) (.obj g 0 s0 (es.set i (putAt e j .undef)))) vs) : b5d cx b cids outs (.tmp t :: rs) A (.own s ys :: vs) := by
 refine a2w (Y2 hv ?_)
 refine c9g ho hl he hn hr ?_
 refine G5 h ?_
 rintro us ws ls ⟨rfl, h2⟩
 refine ⟨rfl, ?_⟩
 rw [a3o]
 exact h2
end
section
variable {cx : Cx} {keep : List Nat} {ops0 : Array Oper} {r : List Oper} {A : Asr} {Q : Asr → List Log → Prop} {d : Nat} {ty : Nat} {pos : String} {aft : Array Edge}
end
def b9p (w : ByteArray) : Nat := (w.toList.headD 0).toNat - 97
theorem d4k {cols : List (List Int)} (h : vcs cols = true) (k : Nat) : vl (cols.getD k default) = true := by
 rcases Nat.lt_or_ge k cols.length with c | c
 ·exact d2w ((c5q.1 h).1 _ (L1 c))
 ·rw [List.getD_eq_getElem?_getD, List.getElem?_eq_none c]; decide
theorem d3q {w : ByteArray} (h : nd w = 0) : w.toList = wList.toList ∨ ∃ k, k < 4 ∧ w.toList = [UInt8.ofNat (97 + k)] := by
 refine Classical.byContradiction fun hn => ?_
 simp only [not_or, not_exists, not_and] at hn
 obtain ⟨h0, h1⟩ := hn
 have a := h1 0 (by decide); have b := h1 1 (by decide); have c := h1 2 (by decide); have dd := h1 3 (by decide)
 simp at a b c dd
 have h0' : ¬ w.toList = [108, 105, 115, 116] := by simpa using h0
 simp [nd, h0', a, b, c, dd] at h
 (repeat' split at h) <;> simp at h
theorem d3e (b : ByteArray) : ∀ n i r, b.size - i = n → ByteArray.toList.loop b i r = r.reverse ++ b.data.toList.drop i := by
 intro n
 induction n with
 | zero =>
  intro i r h
  rw [ByteArray.toList.loop]
  have h1 : ¬ i < b.size := by omega
  rw [if_neg h1, List.drop_eq_nil_of_le (by rw [Array.length_toList]; show b.size ≤ i; omega), List.append_nil]
 | succ n ih =>
  intro i r h
  rw [ByteArray.toList.loop]
  have h1 : i < b.size := by omega
  have h2 : i < b.data.toList.length := by rw [Array.length_toList]; exact h1
  rw [if_pos h1, ih (i + 1) _ (by omega), List.drop_eq_getElem_cons h2, List.reverse_cons, List.append_assoc]
  have e : b.get! i = b.data.toList[i] := by
   show b.data[i]! = _
   rw [getElem!_pos b.data i h1]
   exact (Array.getElem_toList ..).symm
  rw [e]; rfl
theorem Y3 (b : ByteArray) : b.toList = b.data.toList := by
 rw [ByteArray.toList, d3e b b.size 0 [] (by omega)]; rfl
theorem c2s {a b : ByteArray} (h : a.toList = b.toList) : a = b := by
 rw [Y3, Y3] at h
 cases a; cases b
 congr 1
 exact Array.toList_inj.1 h
theorem d5l {w : ByteArray} (h : nd w = 0) : w = wList ∨ ∃ k, k < 4 ∧ w = d1z k := by
 rcases d3q h with c | ⟨k, hk, c⟩
 ·exact .inl (c2s c)
 ·refine .inr ⟨k, hk, c2s (c.trans ?_)⟩
  rw [Y3]; rfl
theorem c5h {k : Nat} (hk : k < 4) : b9p (d1z k) = k := by
 unfold b9p
 rw [Y3]
 show (UInt8.ofNat (97 + k)).toNat - 97 = k
 match k, hk with
 | 0, _ => rfl
 | 1, _ => rfl
 | 2, _ => rfl
 | 3, _ => rfl
theorem a5k {made : List (List Int)} (h : ∀ m ∈ made, vl m = true) (i : Nat) : vl (made.getD i default) = true := by
 rcases Nat.lt_or_ge i made.length with c | c
 ·exact h _ (L1 c)
 ·rw [List.getD_eq_getElem?_getD, List.getElem?_eq_none c]; decide
end Go.Mv
namespace Go.Mv
theorem H5 (xs : List Int) (b : Bool) : hasList (.tup [.own 1 (xs.map iV), bV b]) = false := by simp [hasList, E9]
end Go.Mv
namespace Go.Mv
end Go.Mv
namespace Go.Mv
theorem b3x {w : ByteArray} (h : w.toList = wList.toList) : rch w = -1 := by
 have e : w = wList := c2s h
 subst e
 decide +kernel
theorem c5s {w : ByteArray} (h : rch w = 0) : (∃ k, k < 4 ∧ w = d1z k) ∧ nd w = 0 := by
 have hl : w.toList ≠ wList.toList := fun e => by rw [b3x e] at h; cases h
 have h0 : nd w = 0 := (c4n w hl).trans h
 rcases d5l h0 with c | c
 ·exact absurd (by rw [c]) hl
 ·exact ⟨c, h0⟩
theorem d1v : vl [] = true := by decide
abbrev bA (l : List UInt8) : ByteArray := ⟨l.toArray⟩
abbrev tV (l : List UInt8) : AV := sV (bA l)
theorem a0k (l : List UInt8) : (bA l).toList = l := by rw [Y3]
theorem c7p (a b : List UInt8) : bA a ++ bA b = bA (a ++ b) := by
 apply ByteArray.ext
 simp
theorem c4d (a : List UInt8) (i j : Nat) : (bA a).extract i j = bA ((a.drop i).take (j - i)) := by
 apply ByteArray.ext
 simp [ByteArray.data_extract]
theorem c6u (b : ByteArray) : bA b.data.toList = b := by cases b; rfl
section
variable {cx : Cx} {keep : List Nat} {ops0 : Array Oper} {r : List Oper} {A : Asr} {Q : Asr → List Log → Prop} {d : Nat} {ty : Nat} {pos : String} {aft : Array Edge}
theorem a2u {x : Operand} {T : Nat} {l : List UInt8} (hx : opd A x = some (tV l)) (hT : a4j (tyS cx.P T).k = true)
  (h : XR cx keep ops0 r ((.t d, iV l.length) :: A) fun A' lg => Q A' ((rds x, [.t d]) :: lg)) : XR cx keep ops0 (⟨some d, .call ⟨.builtin .len, #[x], #[T]⟩, ty, pos, aft, none⟩ :: r) A Q := c8o hx hT h
theorem O2 {x i : Operand} {T n : Nat} {l : List UInt8} {k : IntKind} (hT : a4j (tyS cx.P T).k = true) (hx : opd A x = some (tV l)) (hi : opd A i = some (.val (.int k (n : Int)))) (hn : n < l.length)
  (h : XR cx keep ops0 r ((.t d, uV (l.getD n 0).toNat) :: A) fun A' lg => Q A' ((rds x ++ rds i, [.t d]) :: lg)) : XR cx keep ops0 (⟨some d, .index T x i, ty, pos, aft, none⟩ :: r) A Q :=
 a4h hT hx hi (by omega) (by rw [Int.toNat_natCast]; show l[n]? = _; rw [List.getD_eq_getElem?_getD, List.getElem?_eq_getElem hn]; rfl) h
theorem M8 {T z : Nat} {a b : Operand} {x y : List UInt8} (ha : opd A a = some (tV x)) (hb : opd A b = some (tV y)) (hi : x.length + y.length ≤ G9)
  (h : XR cx keep ops0 r ((.t d, tV (x ++ y)) :: A) fun A' lg => Q A' ((rds a ++ rds b, [.t d]) :: lg)) : XR cx keep ops0 (⟨some d, .binOp .add T a b z, ty, pos, aft, none⟩ :: r) A Q :=
 d5a ha hb hi (by rw [c7p]; exact h)
theorem b3i {T z : Nat} {a b : Operand} {x y : List UInt8} (ha : opd A a = some (tV x)) (hb : opd A b = some (tV y))
  (h : XR cx keep ops0 r ((.t d, bV (decide (x = y))) :: A) fun A' lg => Q A' ((rds a ++ rds b, [.t d]) :: lg)) : XR cx keep ops0 (⟨some d, .binOp .eql T a b z, ty, pos, aft, none⟩ :: r) A Q :=
 H8 ha hb (by rw [a0k, a0k, show (x == y) = decide (x = y) from Bool.eq_iff_iff.2 (by simp)]; exact h)
theorem b5w {T z : Nat} {a b : Operand} {x y : List UInt8} (ha : opd A a = some (tV x)) (hb : opd A b = some (tV y))
  (h : XR cx keep ops0 r ((.t d, bV (!decide (x = y))) :: A) fun A' lg => Q A' ((rds a ++ rds b, [.t d]) :: lg)) : XR cx keep ops0 (⟨some d, .binOp .neq T a b z, ty, pos, aft, none⟩ :: r) A Q :=
 d6i ha hb (by rw [a0k, a0k, show (x == y) = decide (x = y) from Bool.eq_iff_iff.2 (by simp)]; exact h)
theorem T2 {x : Operand} {T lo1 hi1 : Nat} {lo hi : Option Operand} {l : List UInt8} {ls1 ls2 : List Mv.Loc} (hx : opd A x = some (tV l)) (hT : (tyS cx.P T).k = .string)
  (hh : wpA (CW cx) A (optNat hi l.length) fun k ls => k = hi1 ∧ ls = ls1) (hl : wpA (CW cx) A (optNat lo 0) fun k ls => k = lo1 ∧ ls = ls2) (hc : lo1 ≤ hi1 ∧ hi1 ≤ l.length)
  (h : XR cx keep ops0 r ((.t d, tV ((l.drop lo1).take (hi1 - lo1))) :: A) fun A' lg => Q A' ((rds x ++ (ls1 ++ ls2), [.t d]) :: lg)) : XR cx keep ops0 (⟨some d, .slice T x lo hi none, ty, pos, aft, none⟩ :: r) A Q := by
 refine I7 (fun o ho => by simp only [aopV, ho]) ?_ (by simp [slotOk, refOkV, refsOk]) h
 simp only [opV, C5, C8 hx, sliceA, hT, D8]
 refine ⟨trivial, ?_⟩
 refine O4 ?_ hh
 rintro _ _ ⟨rfl, rfl⟩
 refine O4 ?_ hl
 rintro _ _ ⟨rfl, rfl⟩
 simp only [D8, D6, c4d, List.append_nil]
 exact ⟨hc, by simp⟩
end
theorem d5h {x : Int} (h : 0 ≤ x ∧ x ≤ 255) : inI .u8 x := by
 constructor <;> simp [IntKind.min, IntKind.max, IntKind.signed, IntKind.bits] <;> omega
def decN (n : Nat) : List UInt8 := if n < 10 then [UInt8.ofNat (48 + n)] else decN (n / 10) ++ [UInt8.ofNat (48 + n % 10)]
termination_by n
theorem c6v {n : Nat} (h : n < 10) : decN n = [UInt8.ofNat (48 + n)] := by rw [decN, if_pos h]
theorem d3z {n : Nat} (h : ¬ n < 10) : decN n = decN (n / 10) ++ decN (n % 10) := by
 rw [decN, if_neg h, c6v (show n % 10 < 10 from Nat.mod_lt _ (by decide))]
def dec (n : Int) : List UInt8 := if n < 0 then 45 :: decN (-n).toNat else decN n.toNat
theorem b1c (n : Nat) : dec (n : Int) = decN n := by rw [dec, if_neg (by omega)]; rfl
theorem u8n {k : Nat} (h : k < 256) : (UInt8.ofNat k).toNat = k := by rw [UInt8.toNat_ofNat']; exact Nat.mod_eq_of_lt h
theorem a6y (n : Nat) : ∀ b ∈ decN n, 48 ≤ b.toNat ∧ b.toNat ≤ 57 := by
 induction n using Nat.strongRecOn with
 | _ n ih =>
  rw [decN]
  split
  ·intro b hb
   cases List.mem_singleton.1 hb
   rw [u8n (by omega)]; omega
  ·intro b hb
   rcases List.mem_append.1 hb with c | c
   ·exact ih _ (by omega) b c
   ·cases List.mem_singleton.1 c
    rw [u8n (by omega)]; omega
theorem a7c (n : Nat) : decN n ≠ [] := by
 rw [decN]
 split <;> simp
theorem d0s (n : Int) : dec n ≠ [] := by
 rw [dec]
 split
 ·simp
 ·exact a7c _
theorem c0j (n : Nat) : ∀ {k : Nat}, 1 ≤ k → n < 10 ^ k → (decN n).length ≤ k := by
 induction n using Nat.strongRecOn with
 | _ n ih =>
  intro k hk hn
  rw [decN]
  split
  ·simpa using hk
  ·rename_i h
   match k, hk with
   | 1, _ => omega
   | k + 2, _ =>
    have := ih (n / 10) (by omega) (k := k + 1) (by omega) (by rw [Nat.pow_succ] at hn; omega)
    simp; omega
theorem T8 {m : Int} (h : -1000000 ≤ m ∧ m ≤ 1000000) : (dec m).length ≤ 8 := by
 rw [dec]
 split
 ·have := c0j (-m).toNat (k := 7) (by decide) (by omega)
  simp; omega
 ·have := c0j m.toNat (k := 7) (by decide) (by omega)
  omega
theorem d4f {n : Int} (h : n < 0) : dec n = [45] ++ dec (-n) := by
 rw [dec, if_pos h, dec, if_neg (by omega)]; rfl
theorem d3f {n : Int} (h : 0 ≤ n ∧ n < 10) : dec n = (([48, 49, 50, 51, 52, 53, 54, 55, 56, 57] : List UInt8).drop n.toNat).take ((n + 1).toNat - n.toNat) := by
 obtain ⟨k, rfl⟩ : ∃ k : Nat, n = k := ⟨n.toNat, by omega⟩
 have hk : k < 10 := by omega
 rw [b1c, c6v hk]
 match k, hk with
 | 0, _ => rfl
 | 1, _ => rfl
 | 2, _ => rfl
 | 3, _ => rfl
 | 4, _ => rfl
 | 5, _ => rfl
 | 6, _ => rfl
 | 7, _ => rfl
 | 8, _ => rfl
 | 9, _ => rfl
theorem d5v {n : Int} (h : ¬ n < 10) : dec n = dec (n.tdiv 10) ++ dec (n.tmod 10) := by
 obtain ⟨k, rfl⟩ : ∃ k : Nat, n = k := ⟨n.toNat, by omega⟩
 have e1 : (k : Int).tdiv 10 = ((k / 10 : Nat) : Int) := by rw [Int.tdiv_eq_ediv_of_nonneg (by omega)]; omega
 have e2 : (k : Int).tmod 10 = ((k % 10 : Nat) : Int) := by rw [Int.tmod_eq_emod_of_nonneg (by omega)]; omega
 rw [e1, e2, b1c, b1c, b1c, d3z (by omega)]
def joinB (c : UInt8) : List (List UInt8) → List UInt8
 | [] => []
 | [p] => p
 | p :: q :: r => p ++ c :: joinB c (q :: r)
def U7 (q : List UInt8) : List (List UInt8) → List (List UInt8)
 | p :: ps => (q ++ p) :: ps
 | [] => []
def splitB (c : UInt8) : List UInt8 → List (List UInt8)
 | [] => [[]]
 | b :: r => if b = c then [] :: splitB c r else U7 [b] (splitB c r)
theorem c1j (a b : List UInt8) (l : List (List UInt8)) : U7 a (U7 b l) = U7 (a ++ b) l := by cases l <;> simp [U7]
theorem b6n (l : List (List UInt8)) : U7 [] l = l := by cases l <;> simp [U7]
theorem b6s (c : UInt8) (l : List UInt8) : splitB c l ≠ [] := by
 induction l with
 | nil => simp [splitB]
 | cons b r ih =>
  rw [splitB]
  split
  ·simp
  ·cases h : splitB c r with
   | nil => exact absurd h ih
   | cons p ps => simp [U7]
theorem c0c {c : UInt8} {p : List UInt8} (h : c ∉ p) (r : List UInt8) : splitB c (p ++ c :: r) = p :: splitB c r := by
 induction p with
 | nil => simp [splitB]
 | cons b p ih =>
  simp only [List.mem_cons, not_or] at h
  rw [List.cons_append, splitB, if_neg (fun e => h.1 e.symm), ih h.2]
  rfl
theorem b8k {c : UInt8} {p : List UInt8} (h : c ∉ p) : splitB c p = [p] := by
 induction p with
 | nil => rfl
 | cons b p ih =>
  simp only [List.mem_cons, not_or] at h
  rw [splitB, if_neg (fun e => h.1 e.symm), ih h.2]
  rfl
theorem a9u {c : UInt8} : ∀ {ps : List (List UInt8)}, ps ≠ [] → (∀ p ∈ ps, c ∉ p) → splitB c (joinB c ps) = ps
 | [], h, _ => absurd rfl h
 | [p], _, h => b8k (h p (by simp))
 | p :: q :: r, _, h => by
  rw [joinB, c0c (h p (by simp)), a9u (by simp) fun x hx => h x (List.mem_cons_of_mem _ hx)]
theorem b2t {c : UInt8} {p : List UInt8} {r : List (List UInt8)} (h : r ≠ []) : joinB c (p :: r) = p ++ c :: joinB c r := by
 cases r with
 | nil => exact absurd rfl h
 | cons q r => rfl
theorem b3n (c : UInt8) (l : List UInt8) : joinB c (splitB c l) = l := by
 induction l with
 | nil => rfl
 | cons b r ih =>
  rw [splitB]
  split
  ·rename_i e
   subst e
   rw [b2t (b6s _ _), ih]; rfl
  ·cases h : splitB c r with
   | nil => exact absurd h (b6s c r)
   | cons p ps =>
    rw [h] at ih
    cases ps with
    | nil => simp only [U7, joinB] at ih ⊢; rw [ih]; rfl
    | cons q ps => simp only [U7, joinB] at ih ⊢; rw [← ih]; rfl
theorem b3v {c : UInt8} {s : List UInt8} {out : List (List UInt8)} {fr i : Nat} (hi : i < s.length) (hf : fr ≤ i) (h : splitB c s = out ++ U7 ((s.drop fr).take (i - fr)) (splitB c (s.drop i))) :
  (s.getD i 0 = c → splitB c s = (out ++ [(s.drop fr).take (i - fr)]) ++ U7 ((s.drop (i + 1)).take (i + 1 - (i + 1))) (splitB c (s.drop (i + 1)))) ∧
  (s.getD i 0 ≠ c → splitB c s = out ++ U7 ((s.drop fr).take (i + 1 - fr)) (splitB c (s.drop (i + 1)))) := by
 have e : s.drop i = s.getD i 0 :: s.drop (i + 1) := by
  rw [List.drop_eq_getElem_cons hi, List.getD_eq_getElem?_getD, List.getElem?_eq_getElem hi]; rfl
 refine ⟨fun hc => ?_, fun hc => ?_⟩
 ·rw [h, e, splitB, if_pos hc, Nat.sub_self, List.take_zero, b6n, U7, List.append_nil, List.append_assoc]; rfl
 ·rw [h, e, splitB, if_neg hc, c1j]
  congr 2
  have e2 : (s.drop fr).take (i + 1 - fr) = (s.drop fr).take (i - fr) ++ [s.getD i 0] := by
   rw [show i + 1 - fr = (i - fr) + 1 by omega, List.take_succ_eq_append_getElem (by simp; omega)]
   congr 2
   rw [List.getElem_drop, List.getD_eq_getElem?_getD, List.getElem?_eq_getElem hi]
   simp [show fr + (i - fr) = i by omega]
  rw [e2]
def U9 : Nat → List UInt8 → Option Nat
 | a, [] => some a
 | a, b :: r => if 48 ≤ b.toNat ∧ b.toNat ≤ 57 ∧ a ≤ 10000 then U9 (10 * a + (b.toNat - 48)) r else none
theorem a4t (x y : List UInt8) : ∀ a, U9 a (x ++ y) = (U9 a x).bind fun b => U9 b y := by
 induction x with
 | nil => intro a; rfl
 | cons c x ih =>
  intro a
  rw [List.cons_append, U9, U9]
  split
  ·exact ih _
  ·rfl
theorem b9k (n : Nat) : n ≤ 100009 → U9 0 (decN n) = some n := by
 induction n using Nat.strongRecOn with
 | _ n ih =>
  intro hn
  rw [decN]
  split
  ·rename_i h
   rw [U9, u8n (by omega), if_pos (by omega), U9]
   congr 1; omega
  ·rename_i h
   rw [a4t, ih (n / 10) (by omega) (by omega), Option.bind_some, U9, u8n (by omega), if_pos (by omega), U9]
   congr 1; omega
def neg? (t : List UInt8) : Bool := decide (t.head? = some 45)
def unS (t : List UInt8) : List UInt8 := if neg? t = true then t.tail else t
def rdI (t : List UInt8) : Option Int := (U9 0 (unS t)).bind fun n => if unS t = [] ∨ dec (if neg? t = true then -(n : Int) else n) ≠ t then none else some (if neg? t = true then -(n : Int) else n)
theorem d0u {t : List UInt8} {m : Int} (h : rdI t = some m) : t = dec m := by
 unfold rdI at h
 obtain ⟨n, _, h2⟩ := Option.bind_eq_some_iff.1 h
 by_cases hc : unS t = [] ∨ dec (if neg? t = true then -(n : Int) else n) ≠ t
 ·rw [if_pos hc] at h2; cases h2
 ·rw [if_neg hc] at h2
  simp only [not_or, Decidable.not_not] at hc
  rw [Option.some.injEq] at h2
  rw [← h2]
  exact hc.2.symm
theorem d1p (n : Nat) : neg? (decN n) = false := by
 cases h : decN n with
 | nil => rfl
 | cons b r =>
  have := a6y n b (by rw [h]; simp)
  simp only [neg?, List.head?_cons, Option.some.injEq, decide_eq_false_iff_not]
  intro e
  subst e
  exact absurd this.1 (by decide)
theorem d3r {m : Int} (h : -100000 ≤ m ∧ m ≤ 100000) : rdI (dec m) = some m := by
 by_cases hm : m < 0
 ·have e : dec m = 45 :: decN (-m).toNat := by rw [dec, if_pos hm]
  have hn : neg? (dec m) = true := by rw [e]; rfl
  have hu : unS (dec m) = decN (-m).toNat := by rw [unS, if_pos hn, e]; rfl
  rw [rdI, hu, b9k _ (by omega), Option.bind_some, hn]
  simp only [if_true]
  have e2 : -(((-m).toNat : Nat) : Int) = m := by omega
  rw [e2, if_neg (by simp [a7c])]
 ·have e : dec m = decN m.toNat := by rw [dec, if_neg hm]
  have hn : neg? (dec m) = false := by rw [e]; exact d1p _
  have hu : unS (dec m) = decN m.toNat := by rw [unS, hn, if_neg (by decide), e]
  rw [rdI, hu, b9k _ (by omega), Option.bind_some, hn]
  simp only [Bool.false_eq_true, if_false]
  have e2 : ((m.toNat : Nat) : Int) = m := by omega
  rw [e2, if_neg (by simp [a7c])]
theorem d0a {c : UInt8} (hc : c ≠ 45) (hd : ¬(48 ≤ c.toNat ∧ c.toNat ≤ 57)) (n : Int) : c ∉ dec n := by
 rw [dec]
 split
 ·intro h
  rcases List.mem_cons.1 h with e | e
  ·exact hc e
  ·exact hd (a6y _ c e)
 ·exact fun h => hd (a6y _ c h)
def O3 (ns : List Int) : List UInt8 := joinB 44 (ns.map dec)
theorem b3u {c : UInt8} (p : List UInt8) : ∀ {r : List (List UInt8)}, r ≠ [] → joinB c (r ++ [p]) = joinB c r ++ c :: p
 | [], h => absurd rfl h
 | [q], _ => rfl
 | q :: q2 :: r, _ => by
  have h1 := b3u (c := c) p (r := q2 :: r) (by simp)
  show q ++ c :: joinB c ((q2 :: r) ++ [p]) = (q ++ c :: joinB c (q2 :: r)) ++ c :: p
  rw [h1]; simp
theorem b9j {ns : List Int} {i : Nat} (hi : i < ns.length) (h0 : 0 < i) : O3 (ns.take (i + 1)) = O3 (ns.take i) ++ [44] ++ dec (ns.getD i default) := by
 have e : ns.getD i default = ns[i] := by rw [List.getD_eq_getElem?_getD, List.getElem?_eq_getElem hi]; rfl
 rw [O3, O3, List.take_succ_eq_append_getElem hi, List.map_append, List.map_singleton, b3u, e, List.append_assoc]
 ·rfl
 ·intro h
  have := congrArg List.length h
  rw [List.length_map, List.length_take, List.length_nil] at this
  omega
theorem c0t {ns : List Int} {i : Nat} (hi : i < ns.length) (h0 : i = 0) : O3 (ns.take (i + 1)) = O3 (ns.take i) ++ dec (ns.getD i default) := by
 subst h0
 cases ns with
 | nil => simp at hi
 | cons n r => rfl
theorem Y1 {ns : List Int} (h : ∀ n ∈ ns, -1000000 ≤ n ∧ n ≤ 1000000) : (O3 ns).length ≤ 9 * ns.length := by
 have key : ∀ ps : List (List UInt8), (∀ p ∈ ps, p.length ≤ 8) → (joinB 44 ps).length ≤ 9 * ps.length := by
  intro ps
  induction ps with
  | nil => intro _; simp [joinB]
  | cons p r ih =>
   intro hp
   have h1 := hp p (by simp)
   have h2 := ih fun q hq => hp q (List.mem_cons_of_mem _ hq)
   cases r with
   | nil => simp only [joinB, List.length_singleton]; omega
   | cons q r => rw [b2t (by simp)]; simp only [List.length_append, List.length_cons] at h2 ⊢; omega
 have := key (ns.map dec) fun p hp => by
  obtain ⟨n, hn, rfl⟩ := List.mem_map.1 hp
  exact T8 (h n hn)
 simpa [O3] using this
def showL (ns : List Int) : List UInt8 := 91 :: (O3 ns ++ [93])
def a0z : List (List UInt8) → Option (List Int)
 | [] => some []
 | p :: r => (rdI p).bind fun n => (a0z r).map fun ns => n :: ns
def rdL (s : List UInt8) : Option (List Int) := a0z (splitB 44 s)
theorem a7z : ∀ {ps : List (List UInt8)} {ns : List Int}, a0z ps = some ns → ps = ns.map dec
 | [], ns, h => by cases h; rfl
 | p :: r, ns, h => by
  simp only [a0z, Option.bind_eq_some_iff, Option.map_eq_some_iff] at h
  obtain ⟨n, h1, ms, h2, rfl⟩ := h
  rw [List.map_cons, ← d0u h1, ← a7z h2]
theorem c1s : ∀ {ns : List Int}, (∀ n ∈ ns, -100000 ≤ n ∧ n ≤ 100000) → a0z (ns.map dec) = some ns
 | [], _ => rfl
 | n :: ns, h => by rw [List.map_cons, a0z, d3r (h n (by simp)), Option.bind_some, c1s fun x hx => h x (List.mem_cons_of_mem _ hx)]; rfl
theorem a9d (x y : List (List UInt8)) : a0z (x ++ y) = (a0z x).bind fun a => (a0z y).map fun b => a ++ b := by
 induction x with
 | nil => cases h : a0z y <;> simp [a0z, h]
 | cons p x ih =>
  rw [List.cons_append, a0z, a0z, ih]
  cases rdI p with
  | none => rfl
  | some n =>
   cases a0z x with
   | none => rfl
   | some a =>
    cases a0z y with
    | none => rfl
    | some b => rfl
theorem a8n {ps : List (List UInt8)} {ns : List Int} {i : Nat} {n : Int} (hi : i < ps.length) (h : a0z (ps.take i) = some ns) (hn : rdI (ps.getD i default) = some n) : a0z (ps.take (i + 1)) = some (ns ++ [n]) := by
 have e : ps.getD i default = ps[i] := by rw [List.getD_eq_getElem?_getD, List.getElem?_eq_getElem hi]; rfl
 rw [e] at hn
 rw [List.take_succ_eq_append_getElem hi, a9d, h, Option.bind_some, a0z, hn]
 rfl
theorem K3 {ps : List (List UInt8)} {i : Nat} (hi : i < ps.length) (hn : rdI (ps.getD i default) = none) : a0z ps = none := by
 have e : ps.getD i default = ps[i] := by rw [List.getD_eq_getElem?_getD, List.getElem?_eq_getElem hi]; rfl
 rw [e] at hn
 rw [← List.take_append_drop i ps, a9d, List.drop_eq_getElem_cons hi, a0z, hn]
 cases a0z (ps.take i) <;> rfl
theorem a9i : ∀ {ps : List (List UInt8)} {ns : List Int}, a0z ps = some ns → ns.length = ps.length := fun h => by rw [a7z h, List.length_map]
theorem b1i : ∀ {u : List UInt8} {a n : Nat}, a ≤ 100009 → U9 a u = some n → n ≤ 100009
 | [], a, n, ha, h => by cases h; exact ha
 | b :: r, a, n, _, h => by
  rw [U9] at h
  split at h
  ·exact b1i (by omega) h
  ·cases h
theorem a8r {u : List UInt8} {k a : Nat} (hk : k < u.length) (h : U9 0 (u.take k) = some a) (hb : 48 ≤ (u.getD k 0).toNat ∧ (u.getD k 0).toNat ≤ 57 ∧ a ≤ 10000) : U9 0 (u.take (k + 1)) = some (10 * a + ((u.getD k 0).toNat - 48)) := by
 have e : u.getD k 0 = u[k] := by rw [List.getD_eq_getElem?_getD, List.getElem?_eq_getElem hk]; rfl
 rw [e] at hb ⊢
 rw [List.take_succ_eq_append_getElem hk, a4t, h, Option.bind_some, U9, if_pos hb, U9]
theorem R9 {u : List UInt8} {k a : Nat} (hk : k < u.length) (h : U9 0 (u.take k) = some a) (hb : ¬(48 ≤ (u.getD k 0).toNat ∧ (u.getD k 0).toNat ≤ 57 ∧ a ≤ 10000)) : U9 0 u = none := by
 have e : u.getD k 0 = u[k] := by rw [List.getD_eq_getElem?_getD, List.getElem?_eq_getElem hk]; rfl
 rw [e] at hb
 rw [← List.take_append_drop k u, a4t, h, Option.bind_some, List.drop_eq_getElem_cons hk, U9, if_neg hb]
theorem V9 {p : List UInt8} (h : U9 0 (unS p) = none) : rdI p = none := by rw [rdI, h]; rfl
theorem c4o {p : List UInt8} {a : Nat} {m : Int} (h : U9 0 (unS p) = some a) (hm : m = if neg? p = true then -(a : Int) else a) (h1 : unS p ≠ []) (h2 : dec m = p) : rdI p = some m := by
 rw [rdI, h, Option.bind_some, ← hm, if_neg (by simp [h1, h2])]
theorem a8g {p : List UInt8} {a : Nat} {m : Int} (h : U9 0 (unS p) = some a) (hm : m = if neg? p = true then -(a : Int) else a) (h1 : unS p = [] ∨ dec m ≠ p) : rdI p = none := by
 rw [rdI, h, Option.bind_some, ← hm, if_pos h1]
theorem d6j {p : List UInt8} (h : p ≠ []) (h2 : (p.getD 0 0).toNat = 45) : neg? p = true ∧ unS p = (p.drop 1).take (p.length - 1) := by
 have hn : neg? p = true := by
  cases p with
  | nil => exact absurd rfl h
  | cons b r => exact decide_eq_true (congrArg some (UInt8.toNat_inj.1 h2))
 refine ⟨hn, ?_⟩
 rw [unS, if_pos hn]
 cases p with
 | nil => rfl
 | cons b r => simp
theorem d4q {p : List UInt8} (h : p = [] ∨ (p.getD 0 0).toNat ≠ 45) : neg? p = false ∧ unS p = p := by
 have hn : neg? p = false := by
  cases p with
  | nil => rfl
  | cons b r =>
   refine decide_eq_false fun e => ?_
   rcases h with h | h
   ·cases h
   ·cases e; exact h rfl
 exact ⟨hn, by rw [unS, hn, if_neg (by decide)]⟩
theorem a1c {ns : List Int} (h : ns ≠ []) : splitB 44 (O3 ns) = ns.map dec :=
 a9u (by simpa using h) fun p hp => by
  obtain ⟨n, _, rfl⟩ := List.mem_map.1 hp
  exact d0a (by decide) (by decide) n
def numsOf (w : List UInt8) : Option (List Int) :=
 if 2 ≤ w.length ∧ w.getD 0 0 = 91 ∧ w.getD (w.length - 1) 0 = 93 then
  (if w.length = 2 then some [] else (rdL ((w.drop 1).take (w.length - 1 - 1))).bind fun ns => if vd ns = true then some ns else none) else none
theorem c7i (ns : List Int) : (showL ns).length = (O3 ns).length + 2 := by simp [showL]
theorem c9z {w : List UInt8} (h : 2 ≤ w.length ∧ w.getD 0 0 = 91 ∧ w.getD (w.length - 1) 0 = 93) : w = 91 :: ((w.drop 1).take (w.length - 1 - 1) ++ [93]) := by
 obtain ⟨h1, h2, h3⟩ := h
 match w, h1 with
 | a :: r, h1 =>
  simp only [List.length_cons] at h1
  have e1 : a = 91 := h2
  subst e1
  have hr : r ≠ [] := fun e => by subst e; simp at h1
  simp only [List.length_cons, Nat.add_sub_cancel, List.drop_succ_cons, List.drop_zero]
  congr 1
  have h4 : r.getD (r.length - 1) 0 = 93 := by
   have : (91 :: r).getD (r.length) 0 = 93 := by simpa using h3
   rw [show r.length = (r.length - 1) + 1 by omega, List.getD_cons_succ] at this
   exact this
  have h5 := List.take_succ_eq_append_getElem (l := r) (i := r.length - 1) (by omega)
  rw [show r.length - 1 + 1 = r.length by omega, List.take_length] at h5
  rw [List.getD_eq_getElem?_getD, List.getElem?_eq_getElem (by omega)] at h4
  have h6 : r[r.length - 1] = 93 := h4
  rw [h6] at h5
  exact h5
theorem a4x {w : List UInt8} {ns : List Int} (h : numsOf w = some ns) : w = showL ns ∧ vd ns = true := by
 unfold numsOf at h
 split at h
 ·rename_i hb
  have hp := c9z hb
  split at h
  ·rename_i h2
   cases h
   refine ⟨?_, by decide⟩
   rw [hp, h2]
   rfl
  ·obtain ⟨ms, h3, h4⟩ := Option.bind_eq_some_iff.1 h
   split at h4
   ·rename_i hv
    cases h4
    refine ⟨?_, hv⟩
    rw [hp, showL, O3, ← a7z h3, b3n]
   ·cases h4
 ·cases h
theorem d2i {ns : List Int} (h : vd ns = true) : ∀ n ∈ ns, -200 ≤ n ∧ n ≤ 200 := by
 intro n hn
 obtain ⟨i, hi, rfl⟩ := List.getElem_of_mem hn
 have := W4.1 (d2l h) i hi
 rw [List.getD_eq_getElem?_getD, List.getElem?_eq_getElem hi] at this
 exact this
theorem a9y {ns : List Int} (h : vd ns = true) : numsOf (showL ns) = some ns := by
 unfold numsOf
 have hl := c7i ns
 rw [if_pos ⟨by omega, rfl, by
  rw [hl, showL, show (O3 ns).length + 2 - 1 = (O3 ns).length + 1 by omega, List.getD_cons_succ, List.getD_eq_getElem?_getD, List.getElem?_append_right (Nat.le_refl _)]; simp⟩]
 by_cases hn : ns = []
 ·subst hn
  rfl
 ·have h2 : O3 ns ≠ [] := by
   intro e
   have := a1c hn
   rw [e] at this
   cases ns with
   | nil => exact hn rfl
   | cons n r =>
    simp only [splitB, List.map_cons, List.cons.injEq] at this
    exact d0s n this.1.symm
  have h3 : 0 < (O3 ns).length := List.length_pos_iff.2 h2
  rw [if_neg (by omega), hl]
  have e : ((showL ns).drop 1).take ((O3 ns).length + 2 - 1 - 1) = O3 ns := by
   rw [showL, List.drop_succ_cons, List.drop_zero, show (O3 ns).length + 2 - 1 - 1 = (O3 ns).length by omega, List.take_left]
  rw [e, rdL, a1c hn, c1s fun n hn => by have := d2i h n hn; omega, Option.bind_some, if_pos h]
end Go.Mv
namespace Go.Mv
theorem Y5 (c : UInt8) (l : List UInt8) : (splitB c l).length ≤ l.length + 1 := by
 induction l with
 | nil => simp [splitB]
 | cons b r ih =>
  rw [splitB]
  split
  ·simp; omega
  ·cases h : splitB c r with
   | nil => simp [U7]
   | cons p ps => rw [h] at ih; simp [U7] at ih ⊢; omega
theorem a1e (c : UInt8) (l : List UInt8) : ∀ p ∈ splitB c l, p.length ≤ l.length := by
 induction l with
 | nil => simp [splitB]
 | cons b r ih =>
  rw [splitB]
  split
  ·intro p hp
   rcases List.mem_cons.1 hp with e | e
   ·subst e; simp
   ·have := ih p e; simp; omega
  ·cases h : splitB c r with
   | nil => simp [U7]
   | cons q ps =>
    rw [h] at ih
    intro p hp
    rcases List.mem_cons.1 hp with e | e
    ·subst e; have := ih q (by simp); simp; omega
    ·have := ih p (by simp [e]); simp; omega
end Go.Mv
namespace Go.Mv
theorem b8t (p : List UInt8) : (unS p).length ≤ p.length := by
 unfold unS
 split
 ·cases p <;> simp
 ·exact Nat.le_refl _
end Go.Mv
namespace Go.Mv
def c1w (w : List UInt8) : List Int :=
 if 2 ≤ w.length ∧ w.getD 0 0 = 91 ∧ w.getD (w.length - 1) 0 = 93 then (if w.length = 2 then [] else (rdL ((w.drop 1).take (w.length - 1 - 1))).getD []) else []
theorem d4v {b c : UInt8} {k : Nat} (h : (b.toNat : Int) = k) (hc : c.toNat = k) : b = c := UInt8.toNat_inj.1 (by omega)
theorem a5e {s : List UInt8} (h : s.length < 2 ∨ (s.getD 0 0).toNat ≠ 91 ∨ (s.getD (s.length - 1) 0).toNat ≠ 93) : numsOf s = none ∧ c1w s = [] := by
 have hn : ¬(2 ≤ s.length ∧ s.getD 0 0 = 91 ∧ s.getD (s.length - 1) 0 = 93) := by
  rintro ⟨h1, h2, h3⟩
  rcases h with h | h | h
  ·omega
  ·exact h (by rw [h2]; rfl)
  ·exact h (by rw [h3]; rfl)
 exact ⟨if_neg hn, if_neg hn⟩
theorem c7h {s : List UInt8} (h1 : 2 ≤ s.length) (h2 : ((s.getD 0 0).toNat : Int) = 91) (h3 : ((s.getD (s.length - 1) 0).toNat : Int) = 93) :
  (s.length = 2 → numsOf s = some [] ∧ c1w s = []) ∧ (s.length ≠ 2 → numsOf s = ((rdL ((s.drop 1).take (s.length - 1 - 1))).bind fun ns => if vd ns = true then some ns else none) ∧ c1w s = (rdL ((s.drop 1).take (s.length - 1 - 1))).getD []) := by
 have hb : 2 ≤ s.length ∧ s.getD 0 0 = 91 ∧ s.getD (s.length - 1) 0 = 93 := ⟨h1, d4v h2 rfl, d4v h3 rfl⟩
 refine ⟨fun e => ?_, fun e => ?_⟩
 ·rw [numsOf, c1w, if_pos hb, if_pos hb, if_pos e, if_pos e]; exact ⟨rfl, rfl⟩
 ·rw [numsOf, c1w, if_pos hb, if_pos hb, if_neg e, if_neg e]; exact ⟨rfl, rfl⟩
theorem c5w {s : List UInt8} {ns : List Int} (h : numsOf s = some ns) : c1w s = ns := by
 unfold numsOf at h
 unfold c1w
 split at h
 ·rename_i hb
  rw [if_pos hb]
  split at h
  ·rename_i h2
   rw [if_pos h2]; cases h; rfl
  ·rename_i h2
   rw [if_neg h2]
   obtain ⟨ms, h3, h4⟩ := Option.bind_eq_some_iff.1 h
   split at h4
   ·cases h4; rw [h3]; rfl
   ·cases h4
 ·cases h
theorem d4c (s : List UInt8) : ((rdL s).getD []).length ≤ s.length + 1 := by
 cases h : rdL s with
 | none => exact Nat.zero_le _
 | some ns => have := a9i h; have h2 := Y5 44 s; simp only [Option.getD_some]; omega
theorem b1x {s : List UInt8} {o : Option (List Int)} (h : numsOf s = (o.bind fun ns => if vd ns = true then some ns else none)) : (numsOf s).isSome = (o.isSome && vd (o.getD [])) := by
 rw [h]
 cases o with
 | none => rfl
 | some ns =>
  simp only [Option.bind_some, Option.isSome_some, Bool.true_and, Option.getD_some]
  cases hv : vd ns <;> rfl
inductive Pl where
 | lst (ns : List Int)
 | col (w : List UInt8)
 | un (w : List UInt8) (p : Pl)
 | bin (w : List UInt8) (p q : Pl)
 deriving Inhabited
abbrev lW : List UInt8 := [108, 105, 115, 116]
def Pl.op : Pl → List UInt8
 | .lst _ => lW
 | .col w => w
 | .un w _ => w
 | .bin w _ _ => w
def Pl.ns : Pl → List Int
 | .lst ns => ns
 | _ => []
def Pl.kids : Pl → List Pl
 | .lst _ => []
 | .col _ => []
 | .un _ p => [p]
 | .bin _ p q => [p, q]
def c1q : Pl → List AV
 | .lst _ => []
 | .col _ => []
 | .un _ p => [.agg [tV p.op, .list (p.ns.map iV), .list (c1q p)]]
 | .bin _ p q => [.agg [tV p.op, .list (p.ns.map iV), .list (c1q p)], .agg [tV q.op, .list (q.ns.map iV), .list (c1q q)]]
abbrev trV (t : Pl) : AV := .agg [tV t.op, .list (t.ns.map iV), .list (c1q t)]
abbrev trK (t : Pl) : AV := .agg [tV t.op, .list (t.ns.map iV), .list (t.kids.map trV)]
theorem c9n (t : Pl) : c1q t = t.kids.map trV := by cases t <;> rfl
theorem d4t (t : Pl) : trV t = trK t := by show AV.agg _ = AV.agg _; rw [c9n]
abbrev trZ : AV := .agg [tV [], .list [], .list []]
abbrev W8 := List UInt8
def rdP : Nat → List W8 → Option (Pl × List W8)
 | 0, _ => none
 | _ + 1, [] => none
 | n + 1, w :: ws => match numsOf w with
  | some ns => some (.lst ns, ws)
  | none =>
   if rch (bA w) = 0 then some (.col w, ws)
   else if rch (bA w) = 1 then (rdP n ws).map fun x => (.un w x.1, x.2)
   else if rch (bA w) = 2 then (rdP n ws).bind fun x => (rdP n x.2).map fun y => (.bin w x.1 y.1, y.2)
   else none
def rdT (ws : List W8) : Option (Pl × List W8) := rdP ws.length ws
theorem a1x : ∀ {n : Nat} {ws r : List W8} {t : Pl}, rdP n ws = some (t, r) → r.length < ws.length
 | 0, _, _, _, h => by cases h
 | _ + 1, [], _, _, h => by cases h
 | n + 1, w :: ws, r, t, h => by
  rw [rdP] at h
  split at h
  ·cases h; exact Nat.lt_succ_self _
  ·split at h
   ·cases h; exact Nat.lt_succ_self _
   ·split at h
    ·obtain ⟨⟨p, r1⟩, h1, h2⟩ := Option.map_eq_some_iff.1 h
     cases h2
     have := a1x h1
     simp only [List.length_cons]; omega
    ·split at h
     ·obtain ⟨⟨p, r1⟩, h1, h2⟩ := Option.bind_eq_some_iff.1 h
      obtain ⟨⟨q, r2⟩, h3, h4⟩ := Option.map_eq_some_iff.1 h2
      cases h4
      have a := a1x h1
      have b := a1x h3
      simp only [List.length_cons] at b ⊢; omega
     ·cases h
theorem b2k : ∀ {n m : Nat} {ws : List W8}, ws.length ≤ n → ws.length ≤ m → rdP n ws = rdP m ws
 | 0, 0, _, _, _ => rfl
 | 0, m + 1, [], _, _ => rfl
 | n + 1, 0, [], _, _ => rfl
 | n + 1, m + 1, [], _, _ => rfl
 | 0, _, w :: ws, h, _ => by simp at h
 | n + 1, 0, w :: ws, _, h => by simp at h
 | n + 1, m + 1, w :: ws, h1, h2 => by
  simp only [List.length_cons] at h1 h2
  have e : rdP n ws = rdP m ws := b2k (by omega) (by omega)
  rw [rdP, rdP, e]
  have e2 : ((rdP m ws).bind fun x => (rdP n x.2).map fun y => (Pl.bin w x.1 y.1, y.2)) = (rdP m ws).bind fun x => (rdP m x.2).map fun y => (Pl.bin w x.1 y.1, y.2) := by
   cases h : rdP m ws with
   | none => rfl
   | some x =>
    obtain ⟨p, r⟩ := x
    have := a1x h
    simp only [Option.bind_some]
    rw [b2k (n := n) (m := m) (ws := r) (by omega) (by omega)]
  rw [e2]
theorem d1k {w : W8} {ws : List W8} {ns : List Int} (h : numsOf w = some ns) : rdT (w :: ws) = some (.lst ns, ws) := by
 rw [rdT, List.length_cons, rdP, h]
theorem d3m {w : W8} {ws : List W8} (h : numsOf w = none) (h0 : rch (bA w) = 0) : rdT (w :: ws) = some (.col w, ws) := by
 rw [rdT, List.length_cons, rdP, h]
 exact if_pos h0
theorem d4b {w : W8} {ws : List W8} (h : numsOf w = none) (h0 : rch (bA w) < 0) : rdT (w :: ws) = none := by
 rw [rdT, List.length_cons, rdP, h]
 simp only
 rw [if_neg (by omega), if_neg (by omega), if_neg (by omega)]
theorem d0y {w : W8} {ws : List W8} (h : numsOf w = none) (h0 : rch (bA w) = 1) : rdT (w :: ws) = (rdT ws).map fun x => (.un w x.1, x.2) := by
 rw [rdT, List.length_cons, rdP, h]
 simp only
 rw [if_neg (by omega), if_pos h0]; rfl
theorem b8a {w : W8} {ws : List W8} (h : numsOf w = none) (h0 : rch (bA w) = 2) : rdT (w :: ws) = (rdT ws).bind fun x => (rdT x.2).map fun y => (.bin w x.1 y.1, y.2) := by
 rw [rdT, List.length_cons, rdP, h]
 simp only
 rw [if_neg (by omega), if_neg (by omega), if_pos h0]
 show (rdT ws).bind _ = _
 cases h : rdT ws with
 | none => rfl
 | some x =>
  obtain ⟨p, r⟩ := x
  have := a1x h
  simp only [Option.bind_some]
  rw [b2k (n := ws.length) (m := r.length) (ws := r) (by omega) (by omega)]; rfl
theorem a7b {ws r : List W8} {t : Pl} (h : rdT ws = some (t, r)) : r.length < ws.length := a1x h
def rtR : Option (Pl × List W8) → AV
 | some (t, r) => .tup [trV t, .list (r.map tV), bV true]
 | none => .tup [trZ, .own 1 [], bV false]
theorem b5u {w : ByteArray} (h : 0 ≤ rch w) : rch w = 0 ∨ rch w = 1 ∨ rch w = 2 := by have := d1e w; omega
end Go.Mv
namespace Go.Mv
theorem a6o : ∀ {n : Nat} {ws r : List W8} {t : Pl}, rdP n ws = some (t, r) → ∀ x ∈ r, x ∈ ws
 | 0, _, _, _, h => by cases h
 | _ + 1, [], _, _, h => by cases h
 | n + 1, w :: ws, r, t, h => by
  rw [rdP] at h
  split at h
  ·cases h; exact fun x hx => List.mem_cons_of_mem _ hx
  ·split at h
   ·cases h; exact fun x hx => List.mem_cons_of_mem _ hx
   ·split at h
    ·obtain ⟨⟨p, r1⟩, h1, h2⟩ := Option.map_eq_some_iff.1 h
     cases h2
     exact fun x hx => List.mem_cons_of_mem _ (a6o h1 x hx)
    ·split at h
     ·obtain ⟨⟨p, r1⟩, h1, h2⟩ := Option.bind_eq_some_iff.1 h
      obtain ⟨⟨q, r2⟩, h3, h4⟩ := Option.map_eq_some_iff.1 h2
      cases h4
      exact fun x hx => List.mem_cons_of_mem _ (a6o h1 x (a6o h3 x hx))
     ·cases h
theorem c5k {ws r : List W8} {t : Pl} (h : rdT ws = some (t, r)) : ∀ x ∈ r, x ∈ ws := a6o h
end Go.Mv
namespace Go.Mv
def rpT (s : List UInt8) : Pl := if s.length ≤ 160 ∧ (splitB 32 s).length ≤ 16 then (match rdT (splitB 32 s) with | some (t, _) => t | none => .col []) else .col []
def rdPlan (s : List UInt8) : Option Pl := if s.length ≤ 160 ∧ (splitB 32 s).length ≤ 16 then (rdT (splitB 32 s)).bind fun x => if x.2.length = 0 then some x.1 else none else none
theorem d5c {s : List UInt8} {t : Pl} (h : rdPlan s = some t) : rpT s = t := by
 unfold rdPlan at h
 unfold rpT
 split at h
 ·rename_i hc
  rw [if_pos hc]
  obtain ⟨⟨t1, r⟩, h1, h2⟩ := Option.bind_eq_some_iff.1 h
  split at h2
  ·cases h2; rw [h1]
  ·cases h2
 ·cases h
theorem b3h {s : List UInt8} (h : 160 < s.length ∨ 16 < (splitB 32 s).length) : rdPlan s = none ∧ rpT s = .col [] := by
 have hn : ¬(s.length ≤ 160 ∧ (splitB 32 s).length ≤ 16) := by omega
 exact ⟨if_neg hn, if_neg hn⟩
theorem c8z {s : List UInt8} {ws : List W8} (hw : ws = splitB 32 s) (h : s.length ≤ 160 ∧ ws.length ≤ 16) : (rdT ws = none → rdPlan s = none ∧ rpT s = .col []) ∧ ∀ t r, rdT ws = some (t, r) → (rdPlan s).isSome = decide ((r.length : Int) = 0) ∧ rpT s = t := by
 subst hw
 refine ⟨fun hr => ?_, fun t r hr => ?_⟩
 ·rw [rdPlan, rpT, if_pos h, if_pos h, hr]; exact ⟨rfl, rfl⟩
 ·rw [rdPlan, rpT, if_pos h, if_pos h, hr]
  refine ⟨?_, rfl⟩
  rw [Option.bind_some]
  by_cases c : r.length = 0
  ·rw [if_pos c]; simp [c]
  ·rw [if_neg c, decide_eq_false (by omega)]; rfl
section
variable {cx : Cx} {keep : List Nat} {ops0 : Array Oper} {r : List Oper} {A : Asr} {Q : Asr → List Log → Prop} {d : Nat} {ty : Nat} {pos : String} {aft : Array Edge}
variable {C : Caller} {m f j : Nat} {cs fs : List AV} {G : Type} {vs : G → List AV} {ws : G → Ws} {ls : List Mv.Loc}
theorem d5e {id g n : Nat} (hid : id < 100000) (t : b9l C A 3 f (j + 1) cs.tail fs vs ws ls) : b9l C A 3 f j cs (.sl id g none 0 n :: fs) (fun x => .sl id g none 0 n :: vs x) ws ls := by
 refine A4 ?_
 unfold J1
 simp only [if_true]
 rw [if_neg (by simp; omega)]
 refine B4 (A4 (G5 t ?_))
 rintro _ _ _ ⟨g, rfl, rfl, rfl⟩
 exact B4 ⟨g, rfl, by simp, by simp⟩
theorem c2b {id g s n : Nat} {es : List AV} (ho : look A (.h id) = some (.obj g 0 s es)) (hn : n = es.length) (hi : F7 es = true) {R : List AV → Ws → List Mv.Loc → Prop} (h : R (frzL es) [(.h id, .obj g 2 s (frzL es))] [.h id]) : wpW C A (freeze (.sl id g none 0 n)) R := by
 subst hn
 unfold freeze
 refine A4 (I0 ho (A4 (C4 (by simp [bxB]) ?_)))
 simp only [show ¬ ((0 : Nat) = 2) from by decide, if_false]
 refine A4 (C4 (by simp [hi]) (A4 (H2 (B4 ?_))))
 have e : (frzL es).take es.length = frzL es := by rw [← Q1 es, List.take_length]
 simpa [e] using h
variable {b : Bool} {us : List AV} {w1 : Ws}
theorem L9 (hb : b = true) (t : c1m C A b fs us w1 ls) : c1m C A b (.nil :: fs) (.list [] :: us) w1 ls := by
 subst hb
 refine A4 ?_
 unfold retLf
 rw [if_pos rfl]
 refine B4 (A4 (G5 t ?_))
 rintro _ _ _ ⟨rfl, rfl, rfl⟩
 exact B4 ⟨rfl, by simp, by simp⟩
theorem b8d {α : Type} {φ : α → AV} {xs : List α} {id g s n : Nat} (hb : b = true) (ho : look A (.h id) = some (.obj g 0 s (xs.map φ))) (hn : n = (xs.map φ).length) (hi : ∀ a, J3 (φ a) = true) (t : c1m C (put A (.h id) (.obj g 2 s (xs.map φ))) b fs us w1 ls) :
  c1m C A b (.sl id g none 0 n :: fs) (.list (xs.map φ) :: us) ((.h id, .obj g 2 s (xs.map φ)) :: w1) (.h id :: ls) := by
 subst hb
 refine A4 ?_
 unfold retLf
 rw [if_pos rfl]
 have hr : F7 (xs.map φ) = true := A7 fun a => by
  have := hi a
  cases hfa : φ a <;> rw [hfa] at this <;> simp_all [J3, J7]
 refine A4 (c2b ho hn hr (B4 (A4 ?_)))
 rw [a4g hi]
 refine G5 t ?_
 rintro _ _ _ ⟨rfl, rfl, rfl⟩
 exact B4 ⟨rfl, by simp, by simp⟩
end
section
variable {cx : Cx} {keep : List Nat} {ops0 : Array Oper} {r : List Oper} {A : Asr} {Q : Asr → List Log → Prop} {d : Nat} {ty : Nat} {pos : String} {aft : Array Edge}
theorem c0q {T z : Nat} {a b : Operand} (hT : a1v cx.P T = true) (ha : opd A a = some .ifc) (hb : opd A b = some (.val .nilIface))
  (h : XR cx keep ops0 r ((.t d, bV true) :: A) fun A' lg => Q A' ((rds a ++ rds b, [.t d]) :: lg)) : XR cx keep ops0 (⟨some d, .binOp .neq T a b z, ty, pos, aft, none⟩ :: r) A Q :=
 I7 (fun o ho => by simp only [aopV, ho]) (by simp only [opV, C5, C8 ha, C8 hb, D8, D6, a1a, Z6, List.append_nil, List.nil_append, true_and, and_self, and_true]; exact ⟨hT, by simp [D6]⟩) (by simp [slotOk, refOkV, refsOk]) h
theorem c9l {T z : Nat} {a b : Operand} (hT : a1v cx.P T = true) (hc : a3s b = true) (ha : opd A a = some (.val .nilIface)) (hb : opd A b = some (.val .nilIface))
  (h : XR cx keep ops0 r ((.t d, bV false) :: A) fun A' lg => Q A' ((rds a ++ rds b, [.t d]) :: lg)) : XR cx keep ops0 (⟨some d, .binOp .neq T a b z, ty, pos, aft, none⟩ :: r) A Q :=
 I7 (fun o ho => by simp only [aopV, ho]) (by simp only [opV, C5, C8 ha, C8 hb, D8, D6, a1a, Z6, List.append_nil, List.nil_append, true_and, and_self, and_true, hT, hc, Bool.or_true, Bool.and_self]) (by simp [slotOk, refOkV, refsOk]) h
end
def unT : List AV → Option (List (List UInt8))
 | [] => some []
 | .val (.string s) :: r => (unT r).map (s.data.toList :: ·)
 | _ => none
theorem d3p (ps : List (List UInt8)) : unT (ps.map tV) = some ps := by
 induction ps with
 | nil => rfl
 | cons p ps ih => simp [unT, ih]
def one? (s : ByteArray) : Option UInt8 := match s.data.toList with
 | [b] => some b
 | _ => none
theorem one?_some {s : ByteArray} {b : UInt8} (h : one? s = some b) : s = bA [b] := by
 unfold one? at h
 split at h
 ·rename_i b' hs
  cases h
  have : s = bA s.data.toList := (c6u s).symm
  rw [hs] at this
  exact this
 ·cases h
def b2q : List AV → Option (AV × List (List AV))
 | [.val (.string s), .val (.string c)] => (one? c).bind fun b => if s.size < 4294967281 then some (.own 1 ((splitB b s.data.toList).map tV), []) else none
 | _ => none
def b8m : List AV → Option (AV × List (List AV))
 | [.list es, .val (.string c)] => (one? c).bind fun b => (unT es).bind fun ps => if ps.length ≤ G9 ∧ (joinB b ps).length ≤ G9 then some (tV (joinB b ps), []) else none
 | _ => none
def a3k (b : UInt8) (l : List UInt8) : List UInt8 := if l.head? = some b then l.tail else l
def b5b (b : UInt8) (l : List UInt8) : List UInt8 := if l.getLast? = some b then l.dropLast else l
def b7f : List AV → Option (AV × List (List AV))
 | [.val (.string s), .val (.string c)] => (one? c).bind fun b => some (.tup [tV (a3k b s.data.toList), bV (decide (s.data.toList.head? = some b))], [])
 | _ => none
def b6v : List AV → Option (AV × List (List AV))
 | [.val (.string s), .val (.string c)] => (one? c).bind fun b => if s.size < 4294967281 then some (.tup [tV (b5b b s.data.toList), bV (decide (s.data.toList.getLast? = some b))], []) else none
 | _ => none
def b1g : List AV → Option (AV × List (List AV))
 | [.val (.int .i64 n)] => if -9223372036854775808 ≤ n ∧ n ≤ 9223372036854775807 then some (tV (dec n), []) else none
 | _ => none
def atR (l : List UInt8) : AV := match Lib.atoiAll l with
 | .ok v => .tup [iV v, .val .nilIface]
 | .range => .tup [iV (Lib.atoiSat l), .ifc]
 | _ => .tup [iV 0, .ifc]
def b8e : List AV → Option (AV × List (List AV))
 | [.val (.string s)] => if s.size < 4294967281 then some (atR s.data.toList, []) else none
 | _ => none
theorem b2o {c : UInt8} (hc : 48 ≤ c.toNat ∧ c.toNat ≤ 57) : ∀ (x : List UInt8) (a u : Nat), Lib.parseUint10 a x = .ok u → u ≤ 100000000 → Lib.parseUint10 a (x ++ [c]) = .ok (u * 10 + (c.toNat - 48))
 | [], a, u, h, hu => by
  simp only [Lib.parseUint10] at h
  injection h with h
  subst h
  simp only [List.nil_append, Lib.parseUint10]
  rw [if_pos hc, if_neg (by omega), if_neg (by omega)]
 | b :: r, a, u, h, hu => by
  simp only [Lib.parseUint10] at h
  simp only [List.cons_append, Lib.parseUint10]
  split at h
  ·split at h
   ·cases h
   ·split at h
    ·cases h
    ·rename_i h1 h2 h3
     rw [if_pos h1, if_neg h2, if_neg h3]
     exact b2o hc r _ u h hu
  ·cases h
theorem c7w (n : Nat) : n ≤ 1000000 → Lib.parseUint10 0 (decN n) = .ok n := by
 induction n using Nat.strongRecOn with
 | _ n ih =>
  intro hn
  rw [decN]
  split
  ·simp only [Lib.parseUint10]
   rw [u8n (by omega), if_pos (by omega), if_neg (by omega), if_neg (by omega)]
   congr 1; omega
  ·rw [b2o (by rw [u8n (by omega)]; omega) _ _ _ (ih (n / 10) (by omega) (by omega)) (by omega), u8n (by omega)]
   congr 1; omega
theorem c9r {n : Int} (h : -1000000 ≤ n ∧ n ≤ 1000000) : Lib.atoiAll (dec n) = .ok n := by
 have key : ∀ m : Nat, m ≤ 1000000 → Lib.parseMag (decN m) = .ok m := fun m hm => by rw [Lib.parseMag, if_neg (a7c m), c7w m hm]
 by_cases hn : n < 0
 ·rw [dec, if_pos hn]
  simp only [Lib.atoiAll]
  rw [if_pos (.inr (by decide)), key _ (by omega)]
  simp only
  rw [if_neg (by omega), if_neg (by omega)]
  have : (45 : UInt8).toNat = 45 := rfl
  simp only [this, if_true]
  congr 1; omega
 ·have e : dec n = decN n.toNat := by rw [dec, if_neg hn]
  rw [e]
  have hk := key n.toNat (by omega)
  cases hd : decN n.toNat with
  | nil => exact absurd hd (a7c _)
  | cons b r =>
   have hb := a6y n.toNat b (by rw [hd]; simp)
   rw [hd] at hk
   simp only [Lib.atoiAll]
   rw [if_neg (by omega), hk]
   have h45 : ¬ b.toNat = 45 := by omega
   simp only [h45, not_false_eq_true, true_and, false_and, if_false]
   rw [if_neg (by omega)]
   congr 1; omega
def rdA : List (List UInt8) → Option (List Int)
 | [] => some []
 | p :: r => match Lib.atoiAll p with
  | .ok v => (rdA r).map fun ns => v :: ns
  | _ => none
theorem c6k : ∀ {ns : List Int}, (∀ n ∈ ns, -1000000 ≤ n ∧ n ≤ 1000000) → rdA (ns.map dec) = some ns
 | [], _ => rfl
 | n :: ns, h => by rw [List.map_cons, rdA, c9r (h n (by simp)), c6k fun x hx => h x (List.mem_cons_of_mem _ hx)]; rfl
theorem d0g {ps : List (List UInt8)} {ns : List Int} {i : Nat} {v : Int} (hi : i < ps.length) (h : rdA (ps.take i) = some ns) (hv : Lib.atoiAll (ps.getD i default) = .ok v) : rdA (ps.take (i + 1)) = some (ns ++ [v]) := by
 induction ps generalizing ns i with
 | nil => simp at hi
 | cons p r ih =>
  cases i with
  | zero =>
   simp only [List.take_zero, rdA, Option.some.injEq] at h
   subst h
   have hv' : Lib.atoiAll p = .ok v := hv
   simp [rdA, hv']
  | succ i =>
   simp only [List.take_succ_cons, rdA] at h ⊢
   split at h
   ·rename_i u hu
    obtain ⟨ms, h1, rfl⟩ := Option.map_eq_some_iff.1 h
    rw [ih (by simpa using hi) h1 (by simpa using hv)]; rfl
   ·cases h
theorem b9f {ps : List (List UInt8)} {i : Nat} (hi : i < ps.length) (hv : ∀ v, Lib.atoiAll (ps.getD i default) ≠ .ok v) : rdA ps = none := by
 induction ps generalizing i with
 | nil => simp at hi
 | cons p r ih =>
  cases i with
  | zero =>
   have hv' : ∀ v, Lib.atoiAll p ≠ .ok v := hv
   rw [rdA]
   split
   ·rename_i u hu; exact absurd hu (hv' u)
   ·rfl
  | succ i =>
   rw [rdA]
   split
   ·rw [ih (by simpa using hi) (by simpa using hv)]; rfl
   ·rfl
def a3l (w : List UInt8) : List UInt8 := b5b 93 (a3k 91 w)
def okB (w : List UInt8) : Bool := decide (w.head? = some 91) && decide ((a3k 91 w).getLast? = some 93)
def a2b (w : List UInt8) : Option (List Int) := if okB w = true then (if a3l w = [] then some [] else rdA (splitB 44 (a3l w))) else none
def okI (w : List UInt8) : Bool := match a2b w with
 | some ns => vd ns && decide (showL ns = w)
 | none => false
theorem c1z {w : List UInt8} {ns : List Int} (h : numsOf w = some ns) : a2b w = some ns := by
 obtain ⟨rfl, hv⟩ := a4x h
 have h1 : a3k 91 (showL ns) = O3 ns ++ [93] := by rw [a3k, if_pos (show (showL ns).head? = some 91 from rfl)]; rfl
 have h2 : (a3k 91 (showL ns)).getLast? = some 93 := by rw [h1]; simp
 have h3 : a3l (showL ns) = O3 ns := by rw [a3l, b5b, if_pos h2, h1]; simp
 have hok : okB (showL ns) = true := by rw [okB, h2]; rfl
 rw [a2b, if_pos hok, h3]
 by_cases hn : ns = []
 ·subst hn; rfl
 ·have h4 : O3 ns ≠ [] := by
   intro e
   have := a1c hn
   rw [e] at this
   cases ns with
   | nil => exact hn rfl
   | cons n r =>
    simp only [splitB, List.map_cons, List.cons.injEq] at this
    exact d0s n this.1.symm
  rw [if_neg h4, a1c hn]
  exact c6k fun n hn => by have := d2i hv n hn; omega
theorem d5o (w : List UInt8) : okI w = (numsOf w).isSome := by
 cases h : numsOf w with
 | some ns =>
  obtain ⟨e, hv⟩ := a4x h
  rw [okI, c1z h]
  simp [hv, ← e]
 | none =>
  rw [okI]
  cases hi : a2b w with
  | none => rfl
  | some ns =>
   simp only
   cases hv : vd ns with
   | false => rfl
   | true =>
    rw [Bool.true_and]
    refine decide_eq_false fun e => ?_
    have := a9y hv
    rw [e, h] at this
    cases this
theorem b9b (w : List UInt8) : (∃ ns, numsOf w = some ns) ∨ (numsOf w = none ∧ rch (bA w) = 0) ∨ (numsOf w = none ∧ rch (bA w) = 1) ∨ (numsOf w = none ∧ rch (bA w) = 2) ∨ (numsOf w = none ∧ rch (bA w) < 0) := by
 cases h : numsOf w with
 | some ns => exact .inl ⟨ns, rfl⟩
 | none =>
  have := d1e (bA w)
  rcases Int.lt_or_le (rch (bA w)) 0 with c | c
  ·exact .inr (.inr (.inr (.inr ⟨rfl, c⟩)))
  ·rcases b5u c with c | c | c
   ·exact .inr (.inl ⟨rfl, c⟩)
   ·exact .inr (.inr (.inl ⟨rfl, c⟩))
   ·exact .inr (.inr (.inr (.inl ⟨rfl, c⟩)))
theorem d4n (w : List UInt8) : (decide (w ≠ lW) && decide (0 ≤ nd (bA w))) = decide (0 ≤ rch (bA w)) := by
 by_cases h : w = lW
 ·subst h
  rw [b3x (show (bA lW).toList = wList.toList from rfl)]
  rfl
 ·rw [decide_eq_true h, Bool.true_and, c4n _ (by rw [a0k, Y3]; exact h)]
theorem X2 {w : List UInt8} (h : 0 ≤ rch (bA w)) : nd (bA w) = rch (bA w) := by
 refine c4n _ fun e => ?_
 rw [b3x e] at h
 omega
end Go.Mv
namespace Go.Mv
theorem b4p {ns : List Int} {i : Nat} (h : i < ns.length) : (ns.take (i + 1)).map dec = (ns.take i).map dec ++ [dec (ns.getD i default)] := by
 rw [List.take_succ_eq_append_getElem h, List.map_append, List.map_singleton, List.getD_eq_getElem?_getD, List.getElem?_eq_getElem h]; rfl
theorem d0f (b : UInt8) (l : List UInt8) : (a3k b l).length ≤ l.length := by
 unfold a3k
 split
 ·cases l <;> simp
 ·exact Nat.le_refl _
theorem c9u (b : UInt8) (l : List UInt8) : (b5b b l).length ≤ l.length := by
 unfold b5b
 split
 ·simp
 ·exact Nat.le_refl _
theorem b3q : ∀ {ps : List (List UInt8)} {ns : List Int}, rdA ps = some ns → ns.length = ps.length
 | [], ns, h => by cases h; rfl
 | p :: r, ns, h => by
  rw [rdA] at h
  split at h
  ·obtain ⟨ms, h1, rfl⟩ := Option.map_eq_some_iff.1 h
   simp [b3q h1]
  ·cases h
def rlX (w : List UInt8) : List Int := (a2b w).getD []
theorem d5s {w : List UInt8} {ns : List Int} (h : numsOf w = some ns) : rlX w = ns := by rw [rlX, c1z h]; rfl
theorem b8l {w : List UInt8} (h : a2b w = none) : okI w = false ∧ rlX w = [] := by rw [okI, rlX, h]; exact ⟨rfl, rfl⟩
theorem a7a {w : List UInt8} {ns : List Int} (h : a2b w = some ns) : okI w = (vd ns && decide (showL ns = w)) ∧ rlX w = ns := by rw [okI, rlX, h]; exact ⟨rfl, rfl⟩
theorem c1n {w : List UInt8} (h : okB w = false) : a2b w = none := by rw [a2b, h]; rfl
theorem c5o {w : List UInt8} (h : okB w = true) (h2 : a3l w = []) : a2b w = some [] := by rw [a2b, if_pos h, if_pos h2]
theorem b0z {w : List UInt8} (h : okB w = true) (h2 : a3l w ≠ []) : a2b w = rdA (splitB 44 (a3l w)) := by rw [a2b, if_pos h, if_neg h2]
theorem c9j {ns : List Int} (h : vd ns = true) : ∀ n ∈ ns, -1000000 ≤ n ∧ n ≤ 1000000 := fun n hn => by have := d2i h n hn; omega
theorem d1s {w : List UInt8} (h : okB w = true) : (a3l w).length + 2 ≤ w.length := by
 simp only [okB, Bool.and_eq_true, decide_eq_true_eq] at h
 obtain ⟨h1, h2⟩ := h
 have e1 : (a3k 91 w).length + 1 = w.length := by
  rw [a3k, if_pos h1]
  cases w with
  | nil => cases h1
  | cons b r => rfl
 have e2 : (a3l w).length + 1 = (a3k 91 w).length := by
  rw [a3l, b5b, if_pos h2]
  cases hc : a3k 91 w with
  | nil => rw [hc] at h2; cases h2
  | cons b r => simp
 omega
end Go.Mv
namespace Go.Mv
def Pl.sz : Pl → Nat
 | .lst _ => 1
 | .col _ => 1
 | .un _ p => p.sz + 1
 | .bin _ p q => p.sz + q.sz + 1
theorem d0r {t : Pl} {i : Nat} (hi : i < t.kids.length) : (t.kids.getD i default).sz < t.sz := by
 cases t with
 | lst ns => simp [Pl.kids] at hi
 | col w => simp [Pl.kids] at hi
 | un w p =>
  obtain rfl : i = 0 := by simp [Pl.kids] at hi; omega
  exact Nat.lt_succ_self _
 | bin w p q =>
  rcases i with _ | _ | i
  ·simp only [Pl.kids, List.getD_cons_zero, Pl.sz]; omega
  ·simp only [Pl.kids, List.getD_cons_zero, List.getD_cons_succ, Pl.sz]; omega
  ·simp [Pl.kids] at hi; omega
theorem d2p (t : Pl) : t.kids.length ≤ 2 := by cases t <;> simp [Pl.kids]
theorem b7x : ∀ {n : Nat} {ws r : List W8} {t : Pl}, rdP n ws = some (t, r) → t.sz + r.length ≤ ws.length
 | 0, _, _, _, h => by cases h
 | _ + 1, [], _, _, h => by cases h
 | n + 1, w :: ws, r, t, h => by
  rw [rdP] at h
  split at h
  ·cases h; simp only [Pl.sz, List.length_cons]; omega
  ·split at h
   ·cases h; simp only [Pl.sz, List.length_cons]; omega
   ·split at h
    ·obtain ⟨⟨p, r1⟩, h1, h2⟩ := Option.map_eq_some_iff.1 h
     cases h2
     have := b7x h1
     simp only [Pl.sz, List.length_cons]; omega
    ·split at h
     ·obtain ⟨⟨p, r1⟩, h1, h2⟩ := Option.bind_eq_some_iff.1 h
      obtain ⟨⟨q, r2⟩, h3, h4⟩ := Option.map_eq_some_iff.1 h2
      cases h4
      have a := b7x h1
      have b := b7x h3
      simp only [Pl.sz, List.length_cons] at b ⊢; omega
     ·cases h
theorem a8v {s : List UInt8} {t : Pl} (h : rdPlan s = some t) : t.sz ≤ 16 := by
 unfold rdPlan at h
 split at h
 ·rename_i hc
  obtain ⟨⟨t1, r⟩, h1, h2⟩ := Option.bind_eq_some_iff.1 h
  have := b7x h1
  split at h2
  ·cases h2; simp only; omega
  ·cases h2
 ·cases h
theorem c3c {s : List UInt8} (h : (rdPlan s).isSome = true) : ∃ t, rdPlan s = some t ∧ rpT s = t ∧ t.sz ≤ 16 := by
 obtain ⟨t, ht⟩ := Option.isSome_iff_exists.1 h
 exact ⟨t, ht, d5c ht, a8v ht⟩
def Pl.good : Pl → Prop
 | .lst ns => vd ns = true
 | .col w => w ≠ lW ∧ w.length ≤ 1048576
 | .un w p => w ≠ lW ∧ w.length ≤ 1048576 ∧ p.good
 | .bin w p q => w ≠ lW ∧ w.length ≤ 1048576 ∧ p.good ∧ q.good
theorem c8c {t : Pl} (h : t.good) (e : t.op = lW) : ∃ ns, t = .lst ns ∧ vd ns = true := by
 cases t with
 | lst ns => exact ⟨ns, rfl, h⟩
 | col w => exact absurd e h.1
 | un w p => exact absurd e h.1
 | bin w p q => exact absurd e h.1
theorem c9q {t : Pl} (h : t.good) {i : Nat} (hi : i < t.kids.length) : (t.kids.getD i default).good := by
 cases t with
 | lst ns => simp [Pl.kids] at hi
 | col w => simp [Pl.kids] at hi
 | un w p =>
  obtain rfl : i = 0 := by simp [Pl.kids] at hi; omega
  exact h.2.2
 | bin w p q =>
  rcases i with _ | _ | i
  ·exact h.2.2.1
  ·exact h.2.2.2
  ·simp [Pl.kids] at hi; omega
def codeP : Pl → List W8
 | .lst ns => [showL ns]
 | .col w => [w]
 | .un w p => codeP p ++ [w]
 | .bin w p q => (codeP p ++ codeP q) ++ [w]
def a3w (t : Pl) : Nat → List W8
 | 0 => []
 | i + 1 => a3w t i ++ codeP (t.kids.getD i default)
theorem c7s (ns : List Int) (i : Nat) (h : i ≤ (Pl.lst ns).kids.length) : a3w (.lst ns) i ++ [showL ns] = codeP (.lst ns) := by
 obtain rfl : i = 0 := by simp [Pl.kids] at h; omega
 rfl
theorem c9h {t : Pl} (h : t.op ≠ lW) : a3w t t.kids.length ++ [t.op] = codeP t := by
 cases t with
 | lst ns => exact absurd rfl h
 | col w => rfl
 | un w p => rfl
 | bin w p q => rfl
theorem U4 : ∀ t : Pl, (codeP t).length = t.sz
 | .lst ns => rfl
 | .col w => rfl
 | .un w p => by simp [codeP, Pl.sz, U4 p]
 | .bin w p q => by simp [codeP, Pl.sz, U4 p, U4 q]; omega
theorem c6z {t : Pl} {i : Nat} (hi : i ≤ t.kids.length) : (a3w t i).length < t.sz := by
  cases t with
  | lst ns => obtain rfl : i = 0 := by simp [Pl.kids] at hi; omega
              exact Nat.zero_lt_one
  | col w => obtain rfl : i = 0 := by simp [Pl.kids] at hi; omega
             exact Nat.zero_lt_one
  | un w p =>
    rcases i with _ | _ | i
    · simp [a3w, Pl.sz]
    · simp [a3w, Pl.sz, Pl.kids, U4]
    · simp [Pl.kids] at hi
  | bin w p q =>
    rcases i with _ | _ | _ | i
    · simp [a3w, Pl.sz]
    · simp only [a3w, Pl.sz, Pl.kids, List.getD_cons_zero, List.nil_append, U4]; omega
    · simp only [a3w, Pl.sz, Pl.kids, List.getD_cons_zero, List.getD_cons_succ, List.nil_append, List.length_append, U4]; omega
    · simp [Pl.kids] at hi
theorem b3s {w : W8} {ws : List W8} (hb : ∀ x ∈ w :: ws, x.length ≤ 1048576) (h : 0 ≤ rch (bA w)) : w ≠ lW ∧ w.length ≤ 1048576 :=
 ⟨fun e => absurd h (by subst e; decide +kernel), hb w (List.mem_cons_self ..)⟩
theorem a5b {w : W8} {ns : List Int} (h : numsOf w = some ns) : vd ns = true := by
 unfold numsOf at h
 split at h
 ·split at h
  ·cases h; rfl
  ·obtain ⟨ms, h1, h2⟩ := Option.bind_eq_some_iff.1 h
   split at h2
   ·cases h2; assumption
   ·cases h2
 ·cases h
theorem a7d : ∀ {n : Nat} {ws r : List W8} {t : Pl}, (∀ x ∈ ws, x.length ≤ 1048576) → rdP n ws = some (t, r) → t.good
 | 0, _, _, _, _, h => by cases h
 | _ + 1, [], _, _, _, h => by cases h
 | n + 1, w :: ws, r, t, hb, h => by
  have hb1 : ∀ x ∈ ws, x.length ≤ 1048576 := fun x hx => hb x (List.mem_cons_of_mem _ hx)
  rw [rdP] at h
  split at h
  ·cases h; exact a5b (by assumption)
  ·split at h
   ·cases h; exact b3s hb (by omega)
   ·split at h
    ·obtain ⟨⟨p, r1⟩, h1, h2⟩ := Option.map_eq_some_iff.1 h
     cases h2
     have hg := b3s hb (by omega)
     exact ⟨hg.1, hg.2, a7d hb1 h1⟩
    ·split at h
     ·obtain ⟨⟨p, r1⟩, h1, h2⟩ := Option.bind_eq_some_iff.1 h
      obtain ⟨⟨q, r2⟩, h3, h4⟩ := Option.map_eq_some_iff.1 h2
      cases h4
      have hg := b3s hb (by omega)
      exact ⟨hg.1, hg.2, a7d hb1 h1, a7d (fun x hx => hb1 x (a6o h1 x hx)) h3⟩
     ·cases h
theorem a9c {s : List UInt8} (hs : s.length ≤ 1048576) {t : Pl} (h : rdPlan s = some t) : t.good := by
 unfold rdPlan at h
 split at h
 ·obtain ⟨⟨t1, r⟩, h1, h2⟩ := Option.bind_eq_some_iff.1 h
  split at h2
  ·cases h2; exact a7d (fun x hx => by have := a1e 32 s x hx; omega) h1
  ·cases h2
 ·cases h
def codeT (s : List UInt8) : List W8 := match rdPlan s with
 | some t => codeP t
 | none => []
theorem b3e {s : List UInt8} {t : Pl} (h : rdPlan s = some t) : codeT s = codeP t := by rw [codeT, h]
theorem b2v {s : List UInt8} (h : (rdPlan s).isSome = false) : codeT s = [] := by
 rw [codeT]
 cases e : rdPlan s with
 | none => rfl
 | some t => rw [e] at h; cases h
theorem c8r (s : List UInt8) : (codeT s).length ≤ 16 := by
 rw [codeT]
 cases e : rdPlan s with
 | none => exact Nat.zero_le _
 | some t => simp only [U4]; exact a8v e
def mT (k : Int) : W8 := 109 :: (if k ≤ 0 then [48] else decN k.toNat)
def mkT (k : Int) (n : Nat) : List W8 := (List.range n).map fun (j : Nat) => mT (k + j)
@[simp] theorem mkT_length (k : Int) (n : Nat) : (mkT k n).length = n := by simp [mkT]
abbrev c9e : W8 := [114, 101, 118]
abbrev b1r : W8 := [110, 101, 103]
abbrev d2v : W8 := [97, 98, 115]
abbrev c6i : W8 := [100, 105, 102, 102]
abbrev c6b : W8 := [115, 117, 109, 115]
abbrev lSort : W8 := [115, 111, 114, 116]
abbrev d3c : W8 := [116, 111, 116, 97, 108]
def d6p : List (W8 × Bool × Bool) :=
 [(c9e ++ 32 :: c9e, true, true), (b1r ++ 32 :: b1r, true, true), (c6i ++ 32 :: c6b, true, true), (c6b ++ 32 :: c6i, true, true), (lSort ++ 32 :: lSort, true, false), (d2v ++ 32 :: d2v, true, false),
  (lSort ++ 32 :: c9e, false, true), (d2v ++ 32 :: b1r, false, true), (d3c ++ 32 :: lSort, false, true), (d3c ++ 32 :: c9e, false, true)]
def a7u : Pl → List W8
 | .lst ns => [showL ns]
 | .col w => [w]
 | .un w p => w :: a7u p
 | .bin w p q => w :: (a7u p ++ a7u q)
def Pl.wf : Pl → Prop
 | .lst _ => True
 | .col w => rch (bA w) = 0
 | .un w p => rch (bA w) = 1 ∧ p.wf
 | .bin w p q => rch (bA w) = 2 ∧ p.wf ∧ q.wf
def opsL : List (W8 × Int) := [(lSort, 1), (c9e, 1), (b1r, 1), (d2v, 1), (c6i, 1), (c6b, 1), ([114, 97, 110, 107, 115], 1), (d3c, 1), ([97, 100, 100], 2), ([106, 111, 105, 110], 2), ([97], 0), ([98], 0), ([99], 0), ([100], 0)]
theorem d4h {w : W8} (h : 0 ≤ rch (bA w)) : (w, rch (bA w)) ∈ opsL := by
 by_cases e : w ∈ opsL.map (·.1)
 ·have key : ∀ x ∈ opsL.map (·.1), (x, rch (bA x)) ∈ opsL := by decide +kernel
  exact key w e
 ·exfalso
  simp [opsL] at e
  unfold rch at h
  simp only [Y3] at h
  simp_all [bA]
theorem a5m : ∀ {n : Nat} {ws r : List W8} {t : Pl}, rdP n ws = some (t, r) → ws = a7u t ++ r ∧ t.wf
 | 0, _, _, _, h => by cases h
 | _ + 1, [], _, _, h => by cases h
 | n + 1, w :: ws, r, t, h => by
  rw [rdP] at h
  split at h
  ·cases h
   rename_i ns hn
   exact ⟨by rw [(a4x hn).1]; rfl, trivial⟩
  ·split at h
   ·cases h; exact ⟨rfl, by assumption⟩
   ·split at h
    ·obtain ⟨⟨p, r1⟩, h1, h2⟩ := Option.map_eq_some_iff.1 h
     cases h2
     obtain ⟨e1, e2⟩ := a5m h1
     exact ⟨by rw [e1]; rfl, by assumption, e2⟩
    ·split at h
     ·obtain ⟨⟨p, r1⟩, h1, h2⟩ := Option.bind_eq_some_iff.1 h
      obtain ⟨⟨q, r2⟩, h3, h4⟩ := Option.map_eq_some_iff.1 h2
      cases h4
      obtain ⟨e1, e2⟩ := a5m h1
      obtain ⟨e3, e4⟩ := a5m h3
      simp only at e3
      exact ⟨by rw [e1, e3]; simp [a7u], by assumption, e2, e4⟩
     ·cases h
def d4r (t : Pl) : W8 := joinB 32 (a7u t)
abbrev Pl.k0 (t : Pl) : Pl := t.kids.getD 0 default
section
variable {cx : Cx} {keep : List Nat} {ops0 : Array Oper} {r : List Oper} {A : Asr} {Q : Asr → List Log → Prop} {d : Nat} {ty : Nat} {pos : String} {aft : Array Edge}
variable {C : Caller} {m f j : Nat} {cs fs : List AV} {G : Type} {vs : G → List AV} {ws : G → Ws} {ls : List Mv.Loc}
theorem b6b {α : Type} {φ : α → AV} {xs : List α} (hi : ∀ a, J3 (φ a) = true) : F7 (xs.map φ) = true := A7 fun a => by
 have := hi a
 cases hfa : φ a <;> rw [hfa] at this <;> simp_all [J3, J7]
theorem S0 {α : Type} {φ : α → AV} {xs : List α} {T E id g s n : Nat} {x : Operand} {z : AV} (hx : opd A x = some (.sl id g none 0 n)) (ho : look A (.h id) = some (.obj g 0 s (xs.map φ))) (hn : n = (xs.map φ).length) (hi : ∀ a, J3 (φ a) = true)
  (hT : N6 cx.P T = some (E, 1)) (hz : V1 cx.P E = some (z, 1)) (hfz : cx.fzB T d = true) (hne : Loc.beq (.h (tid d 0)) (.h id) = false)
  (hk : ∀ g', slotOk keep (.t d) (.sl (tid d 0) g' none 0 1) = true)
  (h : ∀ g', XR cx keep ops0 r ((.t d, .sl (tid d 0) g' none 0 1) :: (.h (tid d 0), .obj g' 0 1 [.list (xs.map φ)]) :: (.h id, .obj g 2 s (xs.map φ)) :: A) fun A' lg => Q A' ((rds x ++ [.h id, .h (tid d 0)], [.h id, .h (tid d 0), .t d]) :: lg)) :
  XR cx keep ops0 (⟨some d, .buildSlice T 1 #[(0, x)], ty, pos, aft, none⟩ :: r) A Q := by
 obtain ⟨h1, h2, h3, h4⟩ := Q5 hz
 refine a0r (v := fun g' => .sl (tid d 0) g' none 0 1) (ws := fun g' => [(.h id, .obj g 2 s (xs.map φ)), (.h (tid d 0), .obj g' 0 1 [.list (xs.map φ)])]) (ls := rds x ++ [.h id, .h (tid d 0)]) rfl ?_
  (fun g => C3 (X8 (b6b hi) (by decide)) (C3 (B2 rfl) (H7 (hk g)))) (fun g => rfl) (fun g => a2s _ _ _ _ _ _ _) h
 simp only [aopV, dstOf]
 refine A4 (H0 (show wpA (CW cx) A (.ret d) _ from ?_))
 show wpW (CW cx) (puts A []) _ _
 refine A4 (R4 hT (A4 (C4 ⟨by rw [h2]; decide, h3, h4, by rw [h2]; decide⟩ ?_)))
 simp only [h1, h2, hfz, if_true]
 refine A4 ?_
 simp only [Y8]
 refine A4 (I3 hx (A4 (C4 (by simp [leaves]) ?_)))
 refine A4 ?_
 simp only [absorb, List.replicate, List.headD]
 unfold J1
 simp only [show ¬ ((2 : Nat) = 3) from by decide, if_false]
 rw [if_neg (by simp)]
 refine A4 (c2b ho hn (b6b hi) (B4 (B4 ?_)))
 rw [a4g hi]
 refine A4 (I9 fun o => A4 (H2 (B4 ?_)))
 exact ⟨G1 o + 1, rfl, by simp, by simp⟩
variable {fs' : List AV} {lf : List Mv.Loc}
theorem a7m {cur v : AV} (h : S1 .undef v = true) {R : AV → Ws → List Mv.Loc → Prop} (hr : R v [] []) : wpW C A (J1 m cur f v) R := by
 unfold J1
 cases v with
 | val v => exact A4 (C4 h (B4 hr))
 | clo k caps =>
  refine A4 (C4 h (B4 ?_))
  simpa using hr
 | list es => exact B4 hr
 | _ => simp [S1, I5] at h
theorem b2r : ∀ (vs cs : List AV) (j : Nat) {A : Asr}, (vs.all fun v => S1 .undef v) = true → ∀ {R : List AV → Ws → List Mv.Loc → Prop}, R vs [] [] → wpW C A (absorbLeaves m f j cs vs) R := by
 intro vs
 induction vs with
 | nil => intro cs j A _ R hr; exact B4 hr
 | cons v vs ih =>
  intro cs j A h R hr
  simp only [List.all_cons, Bool.and_eq_true] at h
  refine A4 (a7m h.1 (A4 (ih cs.tail (j + 1) h.2 (B4 ?_))))
  simpa using hr
theorem d1r {v : AV} (h : ((leaves v).all fun v => S1 .undef v) = true) {R : AV → Ws → List Mv.Loc → Prop} (hr : R v [] []) : wpW C A (absorb m f j cs v) R := by
 by_cases he : ∃ fs, v = .agg fs
 ·obtain ⟨fs, rfl⟩ := he
  refine A4 (b2r fs cs j h (B4 ?_))
  simpa using hr
 ·have h1 : ∀ fs, v ≠ .agg fs := fun fs e => he ⟨fs, e⟩
  have e1 : absorb m f j cs v = J1 m (cs.headD .undef) (fid f j) v := by
   unfold absorb
   split
   ·exact (h1 _ rfl).elim
   ·rfl
  have e2 : leaves v = [v] := by
   unfold leaves
   split
   ·exact (h1 _ rfl).elim
   ·rfl
  rw [e2] at h
  simp only [List.all_cons, List.all_nil, Bool.and_true] at h
  rw [e1]
  exact a7m h hr
def fillI (A : Asr) (s : Nat) (es : List AV) : List (Nat × Operand) → Option (List AV)
 | [] => some es
 | (i, x) :: r => match opd A x with
  | some v => if (leaves v).length = s ∧ i < es.length ∧ ((leaves v).all fun v => S1 .undef v) = true then fillI A s (es.set i v) r else none
  | none => none
theorem c8a {mk s : Nat} : ∀ (ps : List (Nat × Operand)) (es : List AV) {es' : List AV}, fillI A s es ps = some es' → ∀ {R : List AV → Ws → List Mv.Loc → Prop}, R es' [] (a0v (ps.map (·.2))) → wpW C A (Y8 mk s es ps) R := by
 intro ps
 induction ps with
 | nil => intro es es' h R hr; simp only [fillI, Option.some.injEq] at h; subst h; exact B4 hr
 | cons p ps ih =>
  intro es es' h R hr
  obtain ⟨i, x⟩ := p
  simp only [fillI] at h
  split at h
  ·rename_i v hv
   split at h
   ·rename_i hc
    refine A4 (I3 hv (A4 (C4 ⟨hc.1, hc.2.1⟩ (A4 (d1r hc.2.2 ?_)))))
    refine G5 (ih _ h (R := fun a w l => a = es' ∧ w = [] ∧ l = a0v (ps.map (·.2))) ⟨rfl, rfl, rfl⟩) ?_
    rintro _ _ _ ⟨rfl, rfl, rfl⟩
    simpa [a0v] using hr
   ·cases h
  ·cases h
theorem a1s {T n E s : Nat} {ps : Array (Nat × Operand)} {z : AV} {es : List AV} (hT : N6 cx.P T = some (E, s)) (hz : V1 cx.P E = some (z, s)) (hn : n * s ≤ 16777216 ∧ 0 < s) (hf : fillI A s (List.replicate n z) ps.toList = some es) (hl : es.length = n)
  (hko : ∀ g, slotOk keep (.h (tid d 0)) (.obj g 0 s es) = true) (hk : ∀ g, slotOk keep (.t d) (.sl (tid d 0) g none 0 n) = true)
  (h : ∀ g, XR cx keep ops0 r ((.t d, .sl (tid d 0) g none 0 n) :: (.h (tid d 0), .obj g 0 s es) :: A) fun A' lg => Q A' ((a0v (ps.toList.map (·.2)) ++ [.h (tid d 0)], [.h (tid d 0), .t d]) :: lg)) :
  XR cx keep ops0 (⟨some d, .buildSlice T n ps, ty, pos, aft, none⟩ :: r) A Q := by
 obtain ⟨h1, h2, h3, h4⟩ := Q5 hz
 refine a0r (v := fun g => .sl (tid d 0) g none 0 n) (ws := fun g => [(.h (tid d 0), .obj g 0 s es)]) (ls := a0v (ps.toList.map (·.2)) ++ [.h (tid d 0)]) rfl ?_ (fun g => C3 (hko g) (H7 (hk g))) (fun g => rfl) (fun g => a5f _ _ _ _ _) h
 simp only [aopV, dstOf]
 refine A4 (H0 (show wpA (CW cx) A (.ret d) _ from ?_))
 show wpW (CW cx) (puts A []) _ _
 refine A4 (R4 hT (A4 (C4 ⟨by rw [h2]; exact hn.1, h3, h4, by rw [h2]; exact hn.2⟩ ?_)))
 simp only [h1, h2]
 refine A4 (c8a ps.toList _ hf (A4 (I9 fun o => A4 (H2 (B4 ?_)))))
 exact ⟨G1 o + 1, rfl, by simp, by simp⟩
end
theorem a8f {α : Type} [Inhabited α] {l : List α} {j : Nat} (h : j < l.length) : l.take (j + 1) = l.take j ++ [l.getD j default] := by
 rw [List.take_succ_eq_append_getElem h, List.getD_eq_getElem?_getD, List.getElem?_eq_getElem h]; rfl
theorem d6c : ∀ x ∈ opsL, (32 : UInt8) ∉ x.1 ∧ (x.1.getD 0 0).toNat ≠ 91 ∧ x.1 ≠ lW ∧ x.1.length ≤ 5 ∧ x.1 ≠ [] := by decide +kernel
theorem c6m {w : W8} (h : 0 ≤ rch (bA w)) : (32 : UInt8) ∉ w ∧ numsOf w = none ∧ w ≠ lW ∧ w.length ≤ 5 ∧ w ≠ [] := by
 obtain ⟨a, b, c, d, e⟩ := d6c _ (d4h h)
 exact ⟨a, (a5e (.inr (.inl b))).1, c, d, e⟩
theorem c3i {s : W8} {t : Pl} (h : rdPlan s = some t) : s = d4r t ∧ t.wf ∧ t.good ∧ s.length ≤ 160 ∧ t.sz ≤ 16 := by
 have hz := a8v h
 have hl : s.length ≤ 160 := by
  unfold rdPlan at h
  split at h
  ·rename_i hc; exact hc.1
  ·cases h
 have hg := a9c (by omega) h
 unfold rdPlan at h
 split at h
 ·obtain ⟨⟨t1, r⟩, h1, h2⟩ := Option.bind_eq_some_iff.1 h
  split at h2
  ·rename_i hr
   cases h2
   obtain ⟨e1, e2⟩ := a5m h1
   obtain rfl : r = [] := List.length_eq_zero_iff.1 hr
   rw [List.append_nil] at e1
   exact ⟨by rw [d4r, ← e1, b3n], e2, hg, hl, hz⟩
  ·cases h2
 ·cases h
deriving instance DecidableEq for Stp
def d6y (t : Pl) (a b : Int) : Stp := ⟨bA t.op, a, b, t.ns⟩
def gN : Nat → Int
 | 0 => 20
 | d + 1 => 2 * gN d + 20
def lN : Nat → Nat
 | 0 => 60
 | d + 1 => 2 * lN d + 60
theorem b6y : ∀ d, 20 ≤ gN d
 | 0 => by simp [gN]
 | d + 1 => by have := b6y d; simp only [gN]; omega
theorem c3a : ∀ d, 60 ≤ lN d
 | 0 => by simp [lN]
 | d + 1 => by have := c3a d; simp only [lN]; omega
theorem d2z : ∀ {d : Nat}, d ≤ 5 → gN d ≤ 2000
 | 0, _ => by simp [gN] | 1, _ => by simp [gN] | 2, _ => by simp [gN] | 3, _ => by simp [gN] | 4, _ => by simp [gN] | 5, _ => by simp [gN]
 | d + 6, h => by omega
theorem c5g : ∀ {d : Nat}, d ≤ 5 → lN d ≤ 4000
 | 0, _ => by simp [lN] | 1, _ => by simp [lN] | 2, _ => by simp [lN] | 3, _ => by simp [lN] | 4, _ => by simp [lN] | 5, _ => by simp [lN]
 | d + 6, h => by omega
def d4z : List (ByteArray × Value) := d6p.map fun e => (bA e.1, .agg #[.bool e.2.1, .bool e.2.2])
end Go.Mv
namespace Go.Mv
end Go.Mv
namespace Go.Mv
def kAt (ss : List Stp) (k : Int) (i : Nat) : Int := k + (((ss.take i).map fun s => 3 + s.ns.length).sum : Nat)
def d6u (q : Int) (n : Nat) : Stp := ⟨bA (mT q), q + 1, q + 1 + 1, mkI (q + 1 + 1 + 1) n⟩
def d6q (ss : List Stp) (k : Int) : List Stp := (List.range ss.length).map fun i => d6u (kAt ss k i) (ss.getD i default).ns.length
@[simp] theorem mkSt_length (ss : List Stp) (k : Int) : (d6q ss k).length = ss.length := by simp [d6q]
end Go.Mv
namespace Go.Mv
end Go.Mv
namespace Go.Mv
abbrev lF (l : List Int) : AV := .list (l.map iV)
end Go.Mv
namespace Go.Mv
deriving instance DecidableEq for Pl
structure ClQ (P : List Pl) : Prop where
 nd : P.Nodup
 good : ∀ t ∈ P, t.good
 kids : ∀ A t B, P = A ++ t :: B → ∀ k ∈ t.kids, k ∈ A
theorem ClQ.nil : ClQ [] := ⟨List.nodup_nil, (fun _ h => by cases h), (fun A t B h => by cases A <;> cases h)⟩
theorem ClQ.mem {P : List Pl} (h : ClQ P) {t k : Pl} (ht : t ∈ P) (hk : k ∈ t.kids) : k ∈ P := by
 obtain ⟨A, B, rfl⟩ := List.append_of_mem ht
 exact List.mem_append_left _ (h.kids A t B rfl k hk)
def ixQ (t : Pl) : List Pl → Nat
 | [] => 0
 | x :: r => if x = t then 0 else ixQ t r + 1
def d6r (P : List Pl) (t : Pl) (k : Nat) : Int := if k < t.kids.length then (ixQ (t.kids.getD k default) P : Int) else -1
def d6v (P : List Pl) (t : Pl) : Stp := d6y t (d6r P t 0) (d6r P t 1)
def enc (P : List Pl) : List Stp := P.map (d6v P)
def F9 (cols : List (List Int)) : List W8 → List (List Int) → Option (List (List Int))
 | [], st => some st
 | w :: ws, st => match numsOf w with
  | some ns => F9 cols ws (st ++ [ns])
  | none =>
   if rch (bA w) < 0 ∨ (st.length : Int) < rch (bA w) then none
   else if rch (bA w) = 0 then F9 cols ws (st ++ [cols.getD (b9p (bA w)) default])
   else (mkR (bA w) (st.getD (st.length - (rch (bA w)).toNat) default) (if rch (bA w) = 2 then st.getD (st.length - 1) default else [])).bind fun r => F9 cols ws (st.take (st.length - (rch (bA w)).toNat) ++ [r])
theorem a9h (cols : List (List Int)) {w : W8} {ns : List Int} (ws : List W8) (st : List (List Int)) (h : numsOf w = some ns) : F9 cols (w :: ws) st = F9 cols ws (st ++ [ns]) := by rw [F9, h]
theorem b9e (cols : List (List Int)) {w : W8} (ws : List W8) (st : List (List Int)) (h : numsOf w = none) (h0 : rch (bA w) = 0) : F9 cols (w :: ws) st = F9 cols ws (st ++ [cols.getD (b9p (bA w)) default]) := by
 rw [F9, h]; simp only; rw [if_neg (by omega), if_pos h0]
theorem c4y (cols : List (List Int)) {w : W8} (ws : List W8) (st : List (List Int)) (x : List Int) (h : numsOf w = none) (h0 : rch (bA w) = 1) : F9 cols (w :: ws) (st ++ [x]) = (mkR (bA w) x []).bind fun r => F9 cols ws (st ++ [r]) := by
 rw [F9, h]; simp only; rw [if_neg (by simp; omega), if_neg (by omega), if_neg (by omega), h0]; simp
def rcF (cols : List (List Int)) (ws : List W8) : Option (List Int) := if ws.length ≤ 16 ∧ vcs cols = true then (F9 cols ws []).bind fun st => if st.length = 1 then some (st.getD 0 default) else none else none
theorem d3u {op : ByteArray} {x y r : List Int} : mkR op x y = some r ↔ N8 op x y = some r ∧ vl r = true := by
 constructor
 ·intro h
  refine ⟨?_, d2c h⟩
  unfold mkR at h
  cases e : N8 op x y with
  | none => rw [e] at h; cases h
  | some q =>
   rw [e, Option.bind_some] at h
   split at h
   ·exact h
   ·cases h
 ·intro h
  unfold mkR
  rw [h.1, Option.bind_some, if_pos h.2]
theorem d4o (x : List Int) : N8 (bA lSort) x [] = some (S6 x) ∧ N8 (bA c9e) x [] = some x.reverse ∧ N8 (bA b1r) x [] = some (x.map fun v => -v) ∧ N8 (bA d2v) x [] = some (x.map fun v => max v (-v)) ∧
  N8 (bA c6i) x [] = some (dfI x) ∧ N8 (bA c6b) x [] = some (smI x) ∧ N8 (bA d3c) x [] = some [x.sum] := by
 refine ⟨?_, ?_, ?_, ?_, ?_, ?_, ?_⟩ <;> (unfold N8; rw [a0k])
 ·rw [if_pos (by decide +kernel)]
 ·rw [if_neg (by decide +kernel), if_pos (by decide +kernel)]
 ·rw [if_neg (by decide +kernel), if_neg (by decide +kernel), if_pos (by decide +kernel)]
 ·rw [if_neg (by decide +kernel), if_neg (by decide +kernel), if_neg (by decide +kernel), if_pos (by decide +kernel)]
 ·rw [if_neg (by decide +kernel), if_neg (by decide +kernel), if_neg (by decide +kernel), if_neg (by decide +kernel), if_pos (by decide +kernel)]
 ·rw [if_neg (by decide +kernel), if_neg (by decide +kernel), if_neg (by decide +kernel), if_neg (by decide +kernel), if_neg (by decide +kernel), if_pos (by decide +kernel)]
 ·rw [if_neg (by decide +kernel), if_neg (by decide +kernel), if_neg (by decide +kernel), if_neg (by decide +kernel), if_neg (by decide +kernel), if_neg (by decide +kernel), if_neg (by decide +kernel), if_pos (by decide +kernel)]
theorem Q0 (cols : List (List Int)) : ∀ (ws vs : List W8) (st : List (List Int)), F9 cols (ws ++ vs) st = (F9 cols ws st).bind (F9 cols vs)
 | [], vs, st => rfl
 | w :: ws, vs, st => by
  rw [List.cons_append, F9, F9]
  cases numsOf w with
  | some ns => exact Q0 cols ws vs _
  | none =>
   simp only
   split
   ·rfl
   ·split
    ·exact Q0 cols ws vs _
    ·rw [Option.bind_assoc]
     congr 1
     funext r
     exact Q0 cols ws vs _
theorem Y7 (cols : List (List Int)) (b : List Int) : ∀ (ws : List W8) (st st' : List (List Int)), F9 cols ws st = some st' → F9 cols ws (b :: st) = some (b :: st')
 | [], st, st', h => by cases h; rfl
 | w :: ws, st, st', h => by
  rw [F9] at h ⊢
  cases e : numsOf w with
  | some ns => rw [e] at h; exact Y7 cols b ws _ _ h
  | none =>
   rw [e] at h
   simp only at h ⊢
   split at h
   ·cases h
   ·rename_i c1
    rw [if_neg (by simp; omega)]
    split at h
    ·rename_i c2; rw [if_pos c2]; exact Y7 cols b ws _ _ h
    ·rename_i c2
     rw [if_neg c2]
     have hn : (rch (bA w)).toNat ≤ st.length := by omega
     have hp : 0 < (rch (bA w)).toNat := by omega
     have e1 : (b :: st).length - (rch (bA w)).toNat = (st.length - (rch (bA w)).toNat) + 1 := by simp; omega
     have e2 : (b :: st).length - 1 = (st.length - 1) + 1 := by simp; omega
     rw [e1, e2, List.getD_cons_succ, List.getD_cons_succ, List.take_succ_cons]
     obtain ⟨r, h1, h2⟩ := Option.bind_eq_some_iff.1 h
     rw [h1, Option.bind_some]
     exact Y7 cols b ws _ _ h2
theorem a0o {cols : List (List Int)} (hc : vcs cols = true) (hv : ∀ w ns, numsOf w = some ns → vl ns = true) : ∀ (ws : List W8) (st st' : List (List Int)), (∀ x ∈ st, vl x = true) → F9 cols ws st = some st' → ∀ x ∈ st', vl x = true
 | [], st, st', hs, h => by cases h; exact hs
 | w :: ws, st, st', hs, h => by
  have snoc : ∀ {A : List (List Int)} {r : List Int}, (∀ x ∈ A, vl x = true) → vl r = true → ∀ x ∈ A ++ [r], vl x = true := by
   intro A r h1 h2 x hx
   rcases List.mem_append.1 hx with h | h
   ·exact h1 x h
   ·rw [List.mem_singleton.1 h]; exact h2
  rw [F9] at h
  cases e : numsOf w with
  | some ns => rw [e] at h; exact a0o hc hv ws _ _ (snoc hs (hv w ns e)) h
  | none =>
   rw [e] at h
   simp only at h
   split at h
   ·cases h
   ·split at h
    ·exact a0o hc hv ws _ _ (snoc hs (d4k hc _)) h
    ·obtain ⟨r, h1, h2⟩ := Option.bind_eq_some_iff.1 h
     exact a0o hc hv ws _ _ (snoc (fun x hx => hs x (List.mem_of_mem_take hx)) (d2c h1)) h2
theorem d6b {r : List Int} (h : vl r = true) : vl (r.map fun v => -v) = true := by
 rw [Q8] at h ⊢
 refine ⟨by rw [List.length_map]; exact h.1, W4.2 fun i hi => ?_⟩
 rw [List.length_map] at hi
 have := W4.1 h.2 i hi
 have e : (r.map fun v => -v).getD i default = - r.getD i default := by
  simp [List.getD_eq_getElem?_getD, hi]
 rw [e]; omega
theorem d2k {cols : List (List Int)} {ws : List W8} {r : List Int} (h : rcF cols ws = some r) : ws.length ≤ 16 ∧ vcs cols = true ∧ F9 cols ws [] = some [r] := by
 unfold rcF at h
 split at h
 ·rename_i hc
  obtain ⟨st, h1, h2⟩ := Option.bind_eq_some_iff.1 h
  split at h2
  ·rename_i hl
   obtain ⟨a, rfl⟩ := List.length_eq_one_iff.1 hl
   cases h2
   exact ⟨hc.1, hc.2, h1⟩
  ·cases h2
 ·cases h
theorem c8j {cols : List (List Int)} {ws : List W8} {r : List Int} (h : rcF cols ws = some r) (hl : ws.length < 16) :
  rcF cols (ws ++ [b1r]) = some (r.map fun v => -v) ∧ rcF cols ([91, 93] :: ws) = none := by
 have hv : ∀ w ns, numsOf w = some ns → vl ns = true := fun w ns h => d2w (a5b h)
 have hb : numsOf [91, 93] = some [] := a9y (ns := []) rfl
 obtain ⟨_, hc, hr⟩ := d2k h
 have hrv : vl r = true := a0o hc hv ws [] [r] (fun _ h => by cases h) hr r (by simp)
 constructor
 ·rw [rcF, if_pos ⟨by simp; omega, hc⟩, Q0, hr, Option.bind_some]
  have hrc : rch (bA b1r) = 1 := by decide +kernel
  have := c4y cols (w := b1r) [] [] r (c6m (by rw [hrc]; decide)).2.1 hrc
  rw [List.nil_append] at this
  rw [this, d3u.2 ⟨(d4o r).2.2.1, d6b hrv⟩]
  rfl
 ·rw [rcF, if_pos ⟨by simp; omega, hc⟩, a9h cols ws [] hb]
  have := Y7 cols [] ws [] [r] hr
  rw [List.nil_append, this]
  rfl
theorem b8q {A : Asr} {C : Caller} {md id g m s off n : Nat} {es ys : List AV} (hmd : md = 0) (ho : look A (.h id) = some (.obj g m s es)) (hb : bxB m none = false) (hn : off + n ≤ es.length) (hr : F7 ((es.drop off).take n) = true) (hf : frzL ((es.drop off).take n) = ys) :
  L2 C A md (.sl id g none off n) (.list ys) [(id, false)] [] [.h id] := by
 subst hmd
 unfold L2 a3g
 simp only [if_true]
 refine A4 (H0 ?_)
 simp only [passLeaf, slc, rdNode, C5, M6 ho, D8, D6, hb, List.append_nil, List.nil_append, hn, hr, and_self, true_and, hf]
 exact B4 ⟨rfl, rfl, by simp⟩
theorem a7i {A : Asr} {C : Caller} {ss : List (List Int)} {md id g m s off n : Nat} (hmd : md = 0) (ho : look A (.h id) = some (.obj g m s (ss.map oI))) (hb : bxB m none = false) (hn : off + n ≤ ss.length) :
  L2 C A md (.sl id g none off n) (.list (((ss.drop off).take n).map fun xs => .list (xs.map iV))) [(id, false)] [] [.h id] := by
 have e : ((ss.map oI).drop off).take n = ((ss.drop off).take n).map oI := by rw [List.map_take, List.map_drop]
 exact b8q hmd ho hb (by rw [List.length_map]; exact hn) (by rw [e]; exact A7 b1l) (by rw [e, d4e])
section
variable {C : Caller} {A : Asr} {fs fs' : List AV} {lf : List Mv.Loc}
end
theorem c3f {ns : List Int} (h : vd ns = true) : (showL ns).length ≤ 100 := by
 have h1 := Y1 (c9j h)
 have h2 := b3a h
 simp only [showL, List.length_cons, List.length_append, List.length_nil]
 omega
theorem d2u (cols : List (List Int)) {w : W8} {ns : List Int} (st : List (List Int)) (h : numsOf w = some ns) : F9 cols [w] st = some (st ++ [ns]) := a9h cols [] st h
theorem d2m (cols : List (List Int)) {w : W8} (st : List (List Int)) (h : numsOf w = none) (h0 : rch (bA w) = 0) : F9 cols [w] st = some (st ++ [cols.getD (b9p (bA w)) default]) := b9e cols [] st h h0
theorem a9f (cols : List (List Int)) {w : W8} {n : Nat} (st : List (List Int)) (h : numsOf w = none) (h0 : rch (bA w) = n) (h1 : 1 ≤ n) (hl : n ≤ st.length) :
  F9 cols [w] st = (mkR (bA w) (st.getD (st.length - n) default) (if n = 2 then st.getD (st.length - 1) default else [])).map fun r => st.take (st.length - n) ++ [r] := by
 rw [F9, h]
 simp only
 rw [if_neg (by omega), if_neg (by omega), h0, Int.toNat_natCast]
 have e : ((n : Int) = 2) = (n = 2) := propext ⟨fun h => by omega, fun h => by omega⟩
 simp only [e]
 cases mkR (bA w) (st.getD (st.length - n) default) (if n = 2 then st.getD (st.length - 1) default else []) with
 | none => rfl
 | some r => rfl
theorem a1n (cols : List (List Int)) {w : W8} (st : List (List Int)) (h : numsOf w = none) (h0 : rch (bA w) < 0 ∨ (st.length : Int) < rch (bA w)) : F9 cols [w] st = none := by
 rw [F9, h]
 simp only
 rw [if_pos h0]
theorem a1l {cols : List (List Int)} {ws : List W8} {i : Nat} {st st' : List (List Int)} (hi : i < ws.length) (h : F9 cols (ws.take i) [] = some st) (e : F9 cols [ws.getD i default] st = some st') : F9 cols (ws.take (i + 1)) [] = some st' := by
 rw [a8f hi, Q0, h, Option.bind_some, e]
theorem P5 {cols : List (List Int)} {ws : List W8} {i : Nat} {st : List (List Int)} (hi : i < ws.length) (h : F9 cols (ws.take i) [] = some st) (e : F9 cols [ws.getD i default] st = none) : F9 cols ws [] = none := by
 have e1 : ws = ws.take (i + 1) ++ ws.drop (i + 1) := (List.take_append_drop _ _).symm
 rw [e1, Q0, a8f hi, Q0, h, Option.bind_some, e]
 rfl
theorem b4a {cols : List (List Int)} : ∀ (ws : List W8) {st st' : List (List Int)}, F9 cols ws st = some st' → st'.length ≤ st.length + ws.length
 | [], st, st', h => by cases h; simp
 | w :: ws, st, st', h => by
  rw [F9] at h
  cases e : numsOf w with
  | some ns => rw [e] at h; have := b4a ws h; simp only [List.length_append, List.length_cons, List.length_nil] at this ⊢; omega
  | none =>
   rw [e] at h
   simp only at h
   split at h
   ·cases h
   ·split at h
    ·have := b4a ws h; simp only [List.length_append, List.length_cons, List.length_nil] at this ⊢; omega
    ·obtain ⟨r, h1, h2⟩ := Option.bind_eq_some_iff.1 h
     have := b4a ws h2
     simp only [List.length_append, List.length_cons, List.length_nil, List.length_take] at this ⊢; omega
theorem d1w {cols : List (List Int)} {ws : List W8} {i : Nat} {st : List (List Int)} (hc : vcs cols = true) (h : F9 cols (ws.take i) [] = some st) : ∀ x ∈ st, vl x = true :=
 a0o hc (fun _ _ h => d2w (a5b h)) _ _ _ (fun _ h => by cases h) h
theorem c6a {cols : List (List Int)} {ws : List W8} (h : 16 < ws.length ∨ vcs cols = false) : rcF cols ws = none := by
 rw [rcF, if_neg]
 rintro ⟨h1, h2⟩
 rcases h with h | h
 ·omega
 ·rw [h] at h2; cases h2
theorem P3 {cols : List (List Int)} {ws : List W8} (h : F9 cols ws [] = none) : rcF cols ws = none := by
 rw [rcF]
 split
 ·rw [h]; rfl
 ·rfl
theorem c6c {cols : List (List Int)} {ws : List W8} {st : List (List Int)} (h : F9 cols ws [] = some st) (hl : st.length ≠ 1) : rcF cols ws = none := by
 rw [rcF]
 split
 ·rw [h, Option.bind_some, if_neg hl]
 ·rfl
theorem c9p {cols : List (List Int)} {ws : List W8} {st : List (List Int)} (hw : ws.length ≤ 16) (hc : vcs cols = true) (h : F9 cols ws [] = some st) (hl : st.length = 1) : rcF cols ws = some (st.getD 0 default) := by
 rw [rcF, if_pos ⟨hw, hc⟩, h, Option.bind_some, if_pos hl]
theorem a3p {α : Type} (st : List α) {n : Nat} (h : n ≤ st.length) : ((st.drop (0 + (st.length - n))).take (st.length - (st.length - n))).length = n := by
 rw [List.length_take, List.length_drop]; omega
theorem b2s {α : Type} [Inhabited α] (st : List α) {n j : Nat} (h : n ≤ st.length) (hj : j < n) : ((st.drop (0 + (st.length - n))).take (st.length - (st.length - n))).getD j default = st.getD (st.length - n + j) default := by
 rw [List.getD_eq_getElem?_getD, List.getD_eq_getElem?_getD, List.getElem?_take, if_pos (by omega), List.getElem?_drop, Nat.zero_add]
theorem a3c : ∀ (t : Pl), t.wf → t.good → ∀ w ∈ codeP t, w.length ≤ 100
 | .lst ns, _, hg, w, h => by
  rw [List.mem_singleton.1 (show w ∈ [showL ns] from h)]
  exact c3f hg
 | .col v, hw, _, w, h => by
  rw [List.mem_singleton.1 (show w ∈ [v] from h)]
  have := (c6m (w := v) (by have h0 : rch (bA v) = 0 := hw; omega)).2.2.2.1
  omega
 | .un v p, hw, hg, w, h => by
  rcases List.mem_append.1 (show w ∈ codeP p ++ [v] from h) with h | h
  ·exact a3c p hw.2 hg.2.2 w h
  ·rw [List.mem_singleton.1 h]
   have := (c6m (w := v) (by have h0 := hw.1; omega)).2.2.2.1
   omega
 | .bin v p q, hw, hg, w, h => by
  rcases List.mem_append.1 (show w ∈ (codeP p ++ codeP q) ++ [v] from h) with h | h
  ·rcases List.mem_append.1 h with h | h
   ·exact a3c p hw.2.1 hg.2.2.1 w h
   ·exact a3c q hw.2.2 hg.2.2.2 w h
  ·rw [List.mem_singleton.1 h]
   have := (c6m (w := v) (by have h0 := hw.1; omega)).2.2.2.1
   omega
theorem c3y (s : W8) : ∀ w ∈ codeT s, w.length ≤ 100 := by
 intro w h
 cases e : rdPlan s with
 | none => rw [b2v (by rw [e]; rfl)] at h; cases h
 | some t =>
  rw [b3e e] at h
  obtain ⟨_, hw, hg, _⟩ := c3i e
  exact a3c t hw hg w h
theorem d2d {ws : List W8} {k n : Nat} {v : W8} (h : ∀ w ∈ ws, w.length ≤ n) (hv : v.length ≤ n) : ∀ w ∈ ws.set k v, w.length ≤ n := by
 intro w hw
 rcases List.mem_or_eq_of_mem_set hw with h1 | rfl
 ·exact h w h1
 ·exact hv
theorem d6g {cols : List (List Int)} {ws : List W8} {r : List Int} (h : rcF cols ws = some r) : vl r = true := by
 obtain ⟨_, hc, hr⟩ := d2k h
 exact d1w (i := ws.length) hc (by rw [List.take_length]; exact hr) r (by simp)
theorem d6m {r : List Int} (h : vl r = true) {i : Nat} (hi : i < r.length) : -100000 ≤ r.getD i default ∧ r.getD i default ≤ 100000 := by
 have := W4.1 (Q8.1 h).2 i hi
 omega
end Go.Mv
end
