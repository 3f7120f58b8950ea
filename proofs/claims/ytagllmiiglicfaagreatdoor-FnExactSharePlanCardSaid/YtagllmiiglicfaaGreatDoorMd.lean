/- The abstract machine, part 4 of 4: it runs the model's code on abstract values and is proved sound over any program. Conditions: none. -/
import Derived.Lib.AtoiAll
import Derived.OpenShut
import Derived.ProofKit
import Derived.Test.YtagllmiiglicfaaGreatDoorMc

set_option linter.unusedVariables false
set_option linter.unusedSimpArgs false
section
namespace Go.Mv
open Go Go.RowKit Go.ChangeShapes Go.WideShapes Go.ChangeAt
def dataArg : AV → Bool
 | .val _ => true
 | .nil => true
 | .list _ => true
 | .agg _ => true
 | _ => false
theorem b8f {md : Nat → Nat} {av : List AV} (hk : ∀ a ∈ av, dataArg a = true) :
  (∀ i, initLoc md av (.t i) = av.getD i .undef) ∧ ∀ i, initLoc md av (.h i) = .undef := by
 have hk' : ∀ i a, av[i]? = some a → dataArg a = true := fun i a h => hk a (List.mem_of_getElem? h)
 refine ⟨fun i => ?_, fun i => ?_⟩
 ·rw [List.getD_eq_getElem?_getD]
  have := hk' i
  unfold initLoc
  show (match av[i]? with
   | some (AV.own s es) => AV.sl i 1 none 0 es.length
   | some (AV.ownp es a b) => AV.ptr i 1 none a b
   | some (AV.clo f caps) => AV.clo f (initCaps i 0 caps)
   | some a => a
   | none => AV.undef) = _
  split <;> rename_i h
  ·rw [h] at this; simp [dataArg] at this
  ·rw [h] at this; simp [dataArg] at this
  ·rw [h] at this; simp [dataArg] at this
  ·rw [h]; rfl
  ·rw [h]; rfl
 ·have h1 := hk' i
  have h2 := hk' (i % 100000)
  unfold initLoc
  simp only
  split
  ·split
   ·rename_i h; rw [h] at h1; simp [dataArg] at h1
   ·rename_i h; rw [h] at h1; simp [dataArg] at h1
   ·rfl
  ·split
   ·rename_i h; rw [h] at h2; simp [dataArg] at h2
   ·rfl
theorem c3t {Γ : Env} (cx : Cx) (hS : SoundC Γ cx (CW cx)) {f : Nat} {av : List AV} {vals : Array Value} {w : World} {v : Value} (hsz : vals.size = av.length)
  (hd : ∀ i a, av[i]? = some a → RV w (fun b => b < w.heap.size) a (vals.getD i undef)) (hk : ∀ a ∈ av, dataArg a = true) (h : CW cx f av = some (.val v, [])) (hg : ∀ b, Γ.gb b → b < w.heap.size) (hG : Γ.G w) :
  Calls cx.P f vals w fun e w' => e = .returned v ∧ Below w.heap.size w w' ∧ (Γ.mo → w.drawn ≤ w'.drawn) := by
 obtain ⟨hT, hH⟩ := b8f (md := cx.md f) hk
 have nolive : ∀ k, ¬ live (initLoc (cx.md f) av) Fl.emp k := by
  intro k hl
  cases k with
  | nd i p => obtain ⟨g, m, s, es, h1, _⟩ := hl; rw [hH] at h1; cases h1
  | fl k p => obtain ⟨f, h1, _⟩ := hl; cases h1
 have R : Rel Γ w (fun _ => True) (fun _ => False) (fun _ _ => none) av.length Fl.emp (fun b => b < w.heap.size) (initLoc (cx.md f) av) (fun _ _ => none) vals w := by
  refine ⟨hsz, fun i hi => ?_, fun i hi => ?_, fun id g m s es h1 => ?_, fun id g s es h1 => ?_, fun k f h1 => ?_, fun k1 k2 b o1 o2 h1 => (nolive _ h1).elim, fun b hb ⟨k, o, h1, _⟩ => nolive _ h1, fun b hb => .inl trivial, fun b hb => ⟨hb, fun h => by rcases h with h | h; (· have : b < w.heap.size := hb; omega); (· exact h.elim)⟩,
   fun b ⟨k, o, h1, _⟩ => (nolive _ h1).elim, Nat.le_refl _, rfl, rfl, rfl, fun _ => Nat.le_refl _, fun b _ _ => rfl, fun b _ => rfl, fun id g m s es h1 => ?_, fun b hb => ⟨fun h => h, hg b hb⟩, hG⟩
  ·rw [hT, List.getD_eq_getElem?_getD, List.getElem?_eq_getElem hi]
   exact .data _ _ (hd i _ (List.getElem?_eq_getElem hi))
  ·rw [hT, List.getD_eq_getElem?_getD, List.getElem?_eq_none hi]; rfl
  ·rw [hH] at h1; cases h1
  ·rw [hH] at h1; cases h1
  ·cases h1
  ·rw [hH] at h1; cases h1
 obtain ⟨hC, _⟩ := hS.2 f av _ _ h
 refine (hC w _ _ _ _ vals (fun _ h => h.elim) R (fun a ha => ?_)).mono ?_
 ·obtain ⟨i, hi⟩ := List.mem_iff_getElem?.1 ha
  have h1 := hd i a hi
  have h2 := hk a ha
  cases a <;> first
   | exact ⟨_, h1⟩
   | simp [dataArg] at h2
 ·rintro e w' ⟨v', rfl, F', D', st', ν', R', _, hres, _⟩
  refine ⟨?_, ⟨R'.os, R'.tape, R'.output, R'.le, fun k hk => R'.fr k hk (fun h => h)⟩, R'.dr⟩
  rcases hres with ⟨vs, cs, h1, _⟩ | ⟨fs, cs, h1, _⟩ | ⟨es, j, φ, b, o, h1, _⟩ | ⟨s, es, φ, h1, _⟩ | ⟨_, h1⟩
  ·cases h1
  ·cases h1
  ·cases h1
  ·cases h1
  ·cases h1; rfl
theorem c6l {Γ : Env} (cx : Cx) (hS : SoundC Γ cx (CW cx)) {f : Nat} {av : List AV} {vals : Array Value} {w : World} {v : Value} (hsz : vals.size = av.length)
  (hd : ∀ i a, av[i]? = some a → RV w (fun b => b < w.heap.size) a (vals.getD i undef)) (hk : ∀ a ∈ av, dataArg a = true) (h : CW cx f av = some (.val v, [])) (hg : ∀ b, Γ.gb b → b < w.heap.size) (hG : Γ.G w) :
  Calls cx.P f vals w fun e w' => e = .returned v ∧ Below w.heap.size w w' :=
 (c3t cx hS hsz hd hk h hg hG).mono fun _ _ h => ⟨h.1, h.2.1⟩
def Env.none (mo : Prop) : Env := ⟨mo, fun _ => False, fun _ => True, fun _ _ _ h => h⟩
section
variable {H : Type} {enc : TypeId × Value → H} {P : Program} {W W' : World}
theorem a5l (hl : laidOutB P = true) (hB : Below W.heap.size W W') : ∀ {ts : List TypeId} {vs : List Value} {ds : List (DataW H)} {ps : List MemPlace},
  (∀ t ∈ ts, P.readableRec t = true ∧ t < P.types.size) → DataW.TrodAll enc P W 0 (fun _ => true) true ts vs ds ps → (∀ x ∈ ps, x.block < W.heap.size) →
  DataW.TrodAll enc P W' 0 (fun b => decide (b < W.heap.size)) true ts vs ds ps
 | [], [], [], _, _, h, _ => h
 | [], [], _ :: _, _, _, h, _ => h.elim
 | [], _ :: _, _, _, _, h, _ => h.elim
 | _ :: _, [], _, _, _, h, _ => h.elim
 | _ :: _, _ :: _, [], _, _, h, _ => h.elim
 | t :: ts, v :: vs, d :: ds, ps, hr, h, hlt => by
  obtain ⟨p, q, h1, h2, rfl⟩ := h
  obtain ⟨hr1, hr2⟩ := hr t (List.mem_cons_self ..)
  exact ⟨p, q, Below.trod hl hr1 hr2 h1 hB (fun x hx => hlt x (List.mem_append_left _ hx)), a5l hl hB (fun t ht => hr t (List.mem_cons_of_mem _ ht)) h2 (fun x hx => hlt x (List.mem_append_right _ hx)), rfl⟩
theorem d0e {f : Func} {s : ChangeSpec} {apart fresh : Bool} {args : Array Value} {ds gs : List (DataW H)} {before : List MemPlace} {tb : TypeId} (hl : laidOutB P = true)
  (hr : ∀ t ∈ f.params.toList, P.readableRec t = true ∧ t < P.types.size) (hW : DataW.Whole enc P f.params.toList s.vars apart W args.toList ds gs before) (hB : Below W.heap.size W W')
  (hv : s.vars = []) (hres : f.resultTypes = #[tb]) (hb : P.underlying tb = some .bool) (h1 : (s.fn H ds).results = [.lit (.bool true)]) (h2 : (s.fn H ds).args = ds) (h3 : (s.fn H ds).vars = []) :
  s.post enc P f apart fresh false false W args (.bool true) W' := by
 have hW0 := hW
 obtain ⟨p, q, hA, hV, rfl, hz, hn⟩ := hW
 rw [hv] at hV
 obtain ⟨rfl, rfl⟩ := trodVars_none hV
 have e : ds ++ [] = ds := List.append_nil _
 refine ⟨ds, [], p ++ [], [], p, [], hW0, ?_, ?_, ?_, hB.frame _, fun h => by cases h⟩
 ·rw [e, h1, hres]
  exact trodAll_mk1 (shut_bool hb _)
 ·rw [e, h2]
  exact a5l hl hB hr hA fun x hx => hW0.lt x (List.mem_append_left _ hx)
 ·rw [e, h3, hv]
  rfl
end
section
variable {cx : Cx} {keep : List Nat} {ops0 : Array Oper} {A : Asr} {d : Nat} {ty : Nat} {pos : String} {aft : Array Edge} {r : List Oper} {Q : Asr → List Log → Prop}
theorem c5a {G : Type} {k : Nat} {c : Operand} {caps : List AV} {args : Array Operand} {Ts : Array Nat} {vs as : List AV} {ids : List (Nat × Bool)} {wp wb : Ws} {lp lb li : List Mv.Loc} {res : AV} {outs : List (List AV)} {v : G → AV} {wi : G → Ws}
  (hcl : opd A c = some (.clo k caps))
  (hv : opds A args.toList = some vs) (hp : a5h (CW cx) A (cx.md k) 0 (vs ++ caps) as ids wp lp) (hC : CW cx k as = some (res, outs))
  (hc : apartIds ids = true ∧ M1 ((Y0 (cx.md k) 0 (vs ++ caps)).map (·.1)) = true ∧ M1 ((cidAll (cx.md k) 0 as).map (·.1)) = true ∧ as.length ≤ 1000 ∧ a0g as = true)
  (hl : ids.all (fun x => x.2) = true ∨ (hasList res = false ∧ outs.any E3 = false))
  (hb : b4k (CW cx) (puts A wp) (Y0 (cx.md k) 0 (vs ++ caps)) outs wb lb) (hi : a6j (CW cx) (puts (puts A wp) wb) d res v wi li)
  (hk : ∀ g, tRefsOk keep (keptWs keep (wp ++ (wb ++ (wi g ++ [(.t d, v g)])))) = true)
  (h : ∀ g, XR cx keep ops0 r (I1 A (wp ++ (wb ++ (wi g ++ [(.t d, v g)])))) fun A' lg => Q A' ((rds c ++ (a0j args.toList ++ (lp ++ (lb ++ li))), M5 (wp ++ (wb ++ (wi g ++ [(.t d, v g)])))) :: lg)) :
  XR cx keep ops0 (⟨some d, .call ⟨.value c, args, Ts⟩, ty, pos, aft, none⟩ :: r) A Q := by
 refine c5f (G := G) (v := v) (ws := fun g => wp ++ (wb ++ wi g)) (ls := rds c ++ (a0j args.toList ++ (lp ++ (lb ++ li)))) rfl ?_ (fun g => ?_) (fun g => ?_) (fun g => ?_) (A1 := fun g => I1 A (wp ++ (wb ++ (wi g ++ [(.t d, v g)]))))
 ·simp only [aopV]
  refine A4 (I7 hcl (A4 (G8 (b3e _ hv _ ?_))))
  simp only [c1w]
  refine A4 (F3 hp ?_)
  rintro _ _ _ ⟨rfl, rfl, rfl⟩
  refine A4 (C2 hc (A4 (G8 ?_)))
  refine ⟨res, outs, hC, ?_⟩
  refine A4 (C2 hl (A4 (F3 hb ?_)))
  rintro _ _ _ ⟨rfl, rfl⟩
  refine F3 hi ?_
  rintro _ _ _ ⟨g, rfl, rfl, rfl⟩
  exact ⟨g, rfl, by simp, by simp⟩
 ·have := hk g
  simpa [setD] using this
 ·have := a6f A (wp ++ (wb ++ (wi g ++ [(.t d, v g)])))
  simpa [setD] using this
 ·have := h g
  simpa [setD] using this
def P2 (C : Caller) (A : Asr) (vs as : List AV) (ids : List (Nat × Bool)) (ls : List Mv.Loc) : Prop :=
 wpA C A (passCaps vs) fun x l => x = (as, ids) ∧ l = ls
theorem a1c {C : Caller} : P2 C A [] [] [] [] := ⟨rfl, rfl⟩
def b9p : AV → Bool
 | .val _ => true
 | .list _ => true
 | _ => false
theorem c9q {C : Caller} {id g m s j : Nat} {e : AV} {vs as : List AV} {ids : List (Nat × Bool)} {ls : List Mv.Loc} (ho : look A (.h id) = some (.obj g m s [e])) (he : b9p e = true) (h : P2 C A vs as ids ls) :
    P2 C A (.ptr id g none 0 j :: vs) (.ipt e j :: as) ((id, false) :: ids) (.h id :: ls) := by
  unfold P2 at h ⊢
  cases e <;> first
    | (simp [b9p] at he; done)
    | (simp only [passCaps, passCap, C5, rdNode, L2 ho, D5, D3, List.getElem?_cons_zero, passLeaf, slIds, List.filterMap_nil, List.filterMap_cons, and_true, true_and]
       refine P3 ?_ h
       rintro x l ⟨rfl, rfl⟩
       simp)
theorem d0h {C : Caller} {j : Nat} {e : AV} {vs as : List AV} {ids : List (Nat × Bool)} {ls : List Mv.Loc} (h : P2 C A vs as ids ls) : P2 C A (.ipt e j :: vs) (.ipt e j :: as) ids ls := by
 unfold P2 at h ⊢
 simp only [passCaps, passCap, C5, D3]
 refine P3 ?_ h
 rintro x l ⟨rfl, rfl⟩
 simp
theorem a1e {C : Caller} {md k : Nat} {vs as : List AV} {ids : List (Nat × Bool)} {ls : List Mv.Loc} (hmd : md = 0) (h : P2 C A vs as ids ls) : J8 C A md (.clo k vs) (.clo k as) ids [] ls := by
 subst hmd
 unfold J8 a2a
 unfold P2 at h
 simp only [Nat.zero_ne_one, if_false, show ¬ (0 = 3) by decide]
 refine A4 (G8 (P3 ?_ h))
 rintro x l ⟨rfl, rfl⟩
 exact A9 ⟨rfl, by simp, by simp⟩
end
section
variable {cx : Cx} {keep : List Nat} {A : Asr} {Q : AExit → Asr → Prop}
theorem I4 {β : Type} {body : Code} (K : Asr) (I : β → Asr) (P : β → Prop) (m : β → Nat) (b0 : β) (hA : HasL A (K ++ I b0)) (h0 : P b0)
  (hs : ∀ b, P b → XA cx keep body (K ++ I b) fun r A' => match r with
   | .normal => ∃ b', P b' ∧ m b' < m b ∧ HasL A' (K ++ I b')
   | r => Q r A') : XA cx keep (.loop body) A Q := c4w (fun b => K ++ I b) P m b0 hA h0 hs
end
theorem a5k {id g i : Nat} {p : Option (Nat × Nat)} : ∀ (ls : List AV) (j : Nat), (ls.all fun l => !isOwn l) = true → viewLeaves id g p i j ls = ls := by
 intro ls
 induction ls with
 | nil => intro j _; rfl
 | cons l ls ih =>
  intro j h
  simp only [List.all_cons, Bool.and_eq_true] at h
  simp only [viewLeaves, ih _ h.2]
  have : a3l id g p i j l = l := by
   unfold a3l
   split
   ·simp [isOwn] at h
   ·rfl
  rw [this]
theorem c9m {ls : List AV} (h : (ls.all fun l => !isOwn l) = true) (j : Nat) : ((ls.drop j).all fun l => !isOwn l) = true := by
 rw [List.all_eq_true] at h ⊢
 exact fun l hl => h l (List.mem_of_mem_drop hl)
section
variable {cx : Cx} {b : Bool} {cids : List Cid} {outs : List (List AV)}
def b9q (cx : Cx) (b : Bool) (cids : List Cid) (outs : List (List AV)) (rs : List ResultVar) (A : Asr) (vs : List AV) : Prop :=
 wpW (CW cx) A (retAll cx.P b rs) fun us ws _ => us = vs ∧ a1a (puts A ws) cids outs
theorem C9 {A : Asr} (ho : a1a A cids outs) : b9q cx b cids outs [] A [] := A9 ⟨rfl, ho⟩
theorem C3 {A : Asr} {t : Nat} {v : AV} {rs : List ResultVar} {vs : List AV} (hv : look A (.t t) = some v) (hi : c6w v = true) (h : b9q cx b cids outs rs A vs) : b9q cx b cids outs (.tmp t :: rs) A (v :: vs) := by
 refine a6i (a2t hv (c0g hi ?_))
 refine F3 h ?_
 rintro us ws ls ⟨rfl, h2⟩
 exact ⟨rfl, h2⟩
theorem a9w (A : Asr) : ∀ (a b : Ws), puts A (a ++ b) = puts (puts A a) b := by
 intro a
 induction a generalizing A with
 | nil => intro b; rfl
 | cons x a ih => intro b; obtain ⟨l, v⟩ := x; exact ih _ b
theorem E4 {A : Asr} {t id g s n : Nat} {es : List AV} {rs : List ResultVar} {vs : List AV} (hv : look A (.t t) = some (.sl id g none 0 n)) (hob : look A (.h id) = some (.obj g 0 s es)) (hn : n = es.length) (hi : D6 es = true)
  (h : b9q cx b cids outs rs (put A (.h id) (.dead g)) vs) : b9q cx b cids outs (.tmp t :: rs) A (.own s es :: vs) := by
 refine a6i (a2t hv (a9r hob hn hi ?_))
 refine F3 h ?_
 rintro us ws ls ⟨rfl, h2⟩
 refine ⟨rfl, ?_⟩
 rw [a9w]
 exact h2
theorem B9 {A : Asr} {rs : List ResultVar} {us : List AV} {res : AV} (h : b9q cx b cids outs rs A us) (he : Q0 us = res) : RetA cx b rs cids A res outs := by
 refine c3a (F3 h ?_)
 rintro us' ws _ ⟨rfl, h2⟩
 exact ⟨he, h2⟩
def b5w (C : Caller) (A : Asr) (d k : Nat) (vs : List AV) {G : Type} (us : G → List AV) (ws : G → Ws) (ls : List Mv.Loc) : Prop := wpW C A (instAll d k vs) fun a w l => ∃ g, a = us g ∧ w = ws g ∧ l = ls
variable {C : Caller} {A : Asr} {d k : Nat}
theorem K7 : b5w C A d k [] (fun _ : Unit => []) (fun _ => []) [] := A9 ⟨(), rfl, rfl, rfl⟩
theorem H2 {G : Type} {v : AV} {vs : List AV} {us : G → List AV} {ws : G → Ws} {ls : List Mv.Loc} (h : I5 v = true) (t : b5w C A d (k + 16) vs us ws ls) : b5w C A d k (v :: vs) (fun g => v :: us g) ws ls := by
 refine A4 (a7w h (A4 (F3 t ?_)))
 rintro _ _ _ ⟨g, rfl, rfl, rfl⟩
 exact A9 ⟨g, rfl, by simp, by simp⟩
theorem K2 {G : Type} {s : Nat} {es : List AV} {vs : List AV} {us : G → List AV} {ws : G → Ws} {ls : List Mv.Loc} (t : ∀ g0, b5w C (put A (.h (tid d k)) (.obj g0 0 s es)) d (k + 16) vs us ws ls) :
  b5w C A d k (.own s es :: vs) (fun g : Nat × G => .sl (tid d k) g.1 none 0 es.length :: us g.2) (fun g => (.h (tid d k), .obj g.1 0 s es) :: ws g.2) (.h (tid d k) :: ls) := by
 refine A4 (a6m fun g0 => A4 (F3 (t g0) ?_))
 rintro _ _ _ ⟨g, rfl, rfl, rfl⟩
 exact A9 ⟨(g0, g), rfl, by simp, by simp⟩
theorem G4 {G : Type} {vs : List AV} {us : G → List AV} {ws : G → Ws} {ls : List Mv.Loc} (h : b5w C A d 16 vs us ws ls) : a6j C A d (.tup vs) (fun g => .tup (us g)) ws ls := by
 refine A4 (F3 h ?_)
 rintro _ _ _ ⟨g, rfl, rfl, rfl⟩
 exact A9 ⟨g, rfl, by simp, by simp⟩
end
section
variable {cx : Cx} {keep : List Nat} {ops0 : Array Oper} {r : List Oper} {A : Asr} {Q : Asr → List Log → Prop} {d : Nat} {ty : Nat} {pos : String} {aft : Array Edge}
theorem b9k {α : Type} [Inhabited α] {f : α → AV} {xs : List α} {a : Operand} {T id g m s i j : Nat} {v : AV} (ha : opd A a = some (.ptr id g none i j)) (ho : look A (.h id) = some (.obj g m s (xs.map f))) (hi : i < xs.length)
  (hp : partF cx.P T (viewLeaves id g none i j ((leaves (f (xs.getD i default))).drop j)) = some v) (hk : slotOk keep (.t d) v = true)
  (h : XR cx keep ops0 r ((.t d, v) :: A) fun A' lg => Q A' ((rds a ++ [.h id], [.t d]) :: lg)) : XR cx keep ops0 (⟨some d, .load T a, ty, pos, aft, none⟩ :: r) A Q :=
 Q7 (e := f (xs.getD i default)) ha ho (by rw [List.getElem?_map, List.getElem?_eq_getElem hi, List.getD_eq_getElem?_getD, List.getElem?_eq_getElem hi]; rfl) hp hk h
theorem a4l {a : Operand} {T id g m s i j : Nat} {es : List AV} {e v : AV} (ha : opd A a = some (.ptr id g none i j)) (ho : look A (.h id) = some (.obj g m s es)) (he : es[i]? = some e) (hn : ((leaves e).all fun l => !isOwn l) = true)
  (hp : partF cx.P T ((leaves e).drop j) = some v) (hk : slotOk keep (.t d) v = true)
  (h : XR cx keep ops0 r ((.t d, v) :: A) fun A' lg => Q A' ((rds a ++ [.h id], [.t d]) :: lg)) : XR cx keep ops0 (⟨some d, .load T a, ty, pos, aft, none⟩ :: r) A Q :=
 Q7 ha ho he (by rw [a5k _ _ (c9m hn j)]; exact hp) hk h
theorem H4 {α : Type} [Inhabited α] {f : α → AV} {xs : List α} {a : Operand} {T id g m s i j : Nat} {v : AV} (ha : opd A a = some (.ptr id g none i j)) (ho : look A (.h id) = some (.obj g m s (xs.map f))) (hi : i < xs.length)
  (hn : ∀ a, ((leaves (f a)).all fun l => !isOwn l) = true) (hp : partF cx.P T ((leaves (f (xs.getD i default))).drop j) = some v) (hk : slotOk keep (.t d) v = true)
  (h : XR cx keep ops0 r ((.t d, v) :: A) fun A' lg => Q A' ((rds a ++ [.h id], [.t d]) :: lg)) : XR cx keep ops0 (⟨some d, .load T a, ty, pos, aft, none⟩ :: r) A Q :=
 a4l (e := f (xs.getD i default)) ha ho (by rw [List.getElem?_map, List.getElem?_eq_getElem hi, List.getD_eq_getElem?_getD, List.getElem?_eq_getElem hi]; rfl) (hn _) hp hk h
theorem Y1 {α : Type} [Inhabited α] {f : α → AV} {xs : List α} {a : Operand} {T id g m s i : Nat} (ha : opd A a = some (.ptr id g none i 0)) (ho : look A (.h id) = some (.obj g m s (xs.map f))) (hi : i < xs.length)
  (hn : ∀ a, ((leaves (f a)).all fun l => !isOwn l) = true) (hp : ∀ a, partF cx.P T (leaves (f a)) = some (f a)) (hk : slotOk keep (.t d) (f (xs.getD i default)) = true)
  (h : XR cx keep ops0 r ((.t d, f (xs.getD i default)) :: A) fun A' lg => Q A' ((rds a ++ [.h id], [.t d]) :: lg)) : XR cx keep ops0 (⟨some d, .load T a, ty, pos, aft, none⟩ :: r) A Q :=
 H4 ha ho hi hn (hp _) hk h
theorem c1e {a : Operand} {T id g m s : Nat} {e : AV} (ha : opd A a = some (.ptr id g none 0 0)) (ho : look A (.h id) = some (.obj g m s [e])) (hn : ((leaves e).all fun l => !isOwn l) = true)
  (hp : partF cx.P T (leaves e) = some e) (hk : slotOk keep (.t d) e = true)
  (h : XR cx keep ops0 r ((.t d, e) :: A) fun A' lg => Q A' ((rds a ++ [.h id], [.t d]) :: lg)) : XR cx keep ops0 (⟨some d, .load T a, ty, pos, aft, none⟩ :: r) A Q :=
 a4l ha ho rfl hn hp hk h
theorem b9u {a : Operand} {T : Nat} {e : AV} (ha : opd A a = some (.ipt e 0)) (hp : partF cx.P T (leaves e) = some e) (hk : slotOk keep (.t d) e = true)
  (h : XR cx keep ops0 r ((.t d, e) :: A) fun A' lg => Q A' ((rds a, [.t d]) :: lg)) : XR cx keep ops0 (⟨some d, .load T a, ty, pos, aft, none⟩ :: r) A Q :=
 O9 ha hp hk h
theorem b8z {α : Type} [Inhabited α] {f : α → AV} {xs : List α} {y : α} {T id g m s i : Nat} {a x : Operand} (ha : opd A a = some (.ptr id g none i 0)) (ho : look A (.h id) = some (.obj g m s (xs.map f))) (hx : opd A x = some (f y)) (hi : i < xs.length)
  (hl : ∀ a b, b0i (leaves (f b)) (f a) = true ∧ (leaves (f a)).length = (tyS cx.P T).size ∧ 0 < (leaves (f a)).length ∧ (leaves (f a)).length ≤ (leaves (f b)).length ∧ T4 (leaves (f a)) (leaves (f b)) = true ∧ putAt (f b) 0 (f a) = f a) (hm : m ≠ 2)
  (hko : slotOk keep (.h id) (.obj g m s ((xs.set i y).map f)) = true)
  (h : XR cx keep ops0 r ((.h id, .obj g m s ((xs.set i y).map f)) :: A) fun A' lg => Q A' ((rds a ++ (rds x ++ [.h id, .h id, .h id]), [.h id]) :: lg)) :
  XR cx keep ops0 (⟨none, .store T a x, ty, pos, aft, none⟩ :: r) A Q := c0q ha hx ho hi hl hm hko h
theorem b7g {T id g m s : Nat} {a x : Operand} {e v : AV} (ha : opd A a = some (.ptr id g none 0 0)) (hx : opd A x = some v) (ho : look A (.h id) = some (.obj g m s [e]))
  (hl : b0i (leaves e) v = true) (hc : m ≠ 2 ∧ (leaves v).length = (tyS cx.P T).size ∧ 0 < (leaves v).length ∧ (leaves v).length ≤ (leaves e).length ∧ T4 (leaves v) (leaves e) = true) (hp : putAt e 0 v = v)
  (hko : slotOk keep (.h id) (.obj g m s [v]) = true)
  (h : XR cx keep ops0 r ((.h id, .obj g m s [v]) :: A) fun A' lg => Q A' ((rds a ++ (rds x ++ [.h id, .h id, .h id]), [.h id]) :: lg)) :
  XR cx keep ops0 (⟨none, .store T a x, ty, pos, aft, none⟩ :: r) A Q :=
 T1 (i := 0) (j := 0) ha hx ho rfl hl ⟨hc.1, hc.2.1, hc.2.2.1, by have := hc.2.2.2.1; omega, hc.2.2.2.2⟩ (by rw [hp]; exact hko) (by rw [hp]; exact h)
theorem Z9 {α : Type} {f : α → AV} {xs ys : List α} {T T' E s id g n id2 g2 m2 off n2 : Nat} {x y : Operand} {z : AV} (hx : opd A x = some (.sl id g none 0 n)) (hy : opd A y = some (.sl id2 g2 none off n2)) (ho : look A (.h id) = some (.obj g 0 s (xs.map f))) (ho2 : look A (.h id2) = some (.obj g2 m2 s (ys.map f)))
  (hid : id2 < 1000000) (hb2 : bxB m2 none = false) (hn : n = (xs.map f).length) (hn2 : off + n2 ≤ ys.length) (hT : S3 cx.P T = some (E, s)) (hT' : K1 (tyS cx.P T').k = true) (hz : Z1 cx.P E = some (z, s)) (hb : (tyS cx.P E).bytes ≤ 4096)
  (hf : ∀ a, (leaves (f a)).all cellLeaf = true ∧ J5 (f a) = true ∧ I5 (f a) = true)
  (hle : xs.length + n2 ≤ I8) (hk : ∀ g, slotOk keep (.t d) (.sl (tid d 0) g none 0 (xs ++ (ys.drop off).take n2).length) = true)
  (h : ∀ g', XR cx keep ops0 r ((.t d, .sl (tid d 0) g' none 0 (xs ++ (ys.drop off).take n2).length) :: (.h (tid d 0), .obj g' 0 s ((xs ++ (ys.drop off).take n2).map f)) :: (.h id, .dead g) :: A) fun A' lg => Q A' ((rds x ++ (rds y ++ [.h id2, .h id2, .h id, .h (tid d 0)]), [.h id, .h (tid d 0), .t d]) :: lg)) :
  XR cx keep ops0 (⟨some d, .call ⟨.builtin .append, #[x, y], #[T, T']⟩, ty, pos, aft, none⟩ :: r) A Q := by
 obtain ⟨h1, h2, h3, h4⟩ := U7 hz
 have hl2 : ((ys.drop off).take n2).length = n2 := by simp; omega
 have el : (xs ++ (ys.drop off).take n2).length = xs.length + n2 := by rw [List.length_append, hl2]
 have em : (((ys.map f).drop off).take n2) = ((ys.drop off).take n2).map f := by rw [List.map_take, List.map_drop]
 subst hn
 refine a4f (v := fun g' => .sl (tid d 0) g' none 0 (xs ++ (ys.drop off).take n2).length) (ws := fun g' => [(.h id, .dead g), (.h (tid d 0), .obj g' 0 s ((xs ++ (ys.drop off).take n2).map f))]) (ls := rds x ++ (rds y ++ [.h id2, .h id2, .h id, .h (tid d 0)])) rfl ?_
  (fun g => A7 (by simp [slotOk, refOkV]) (A7 (B3 (A6 fun a => (hf a).2.1)) (G1 (hk g)))) (fun g => rfl) (fun g => b1d _ _ _ _ _ _ _) h
 simp only [aopV, dstOf]
 refine A4 (G8 (show wpA (CW cx) A (.ret d) _ from ?_))
 show wpW (CW cx) (puts A []) _ _
 refine A4 (C2 hT' (A4 (I7 hx (A4 (I7 hy ?_)))))
 unfold a2o
 refine A4 (V1 hT (A4 (C2 ⟨hb, h3, h4⟩ (A4 ?_))))
 simp only [c4e]
 refine A4 (J3 ho2 (A4 (C2 h2.symm ?_)))
 rw [if_neg (by omega)]
 refine A4 (G8 ?_)
 simp only [slc, rdNode, C5]
 rw [L2 (by exact ho2)]
 simp only [C5, D5, D3, hb2, List.length_map, hn2, true_and, and_true, List.append_nil, List.nil_append]
 rw [em, if_pos (R9 fun a => (hf a).2.2)]
 refine A9 ?_
 refine A4 (C2 (a4u fun a => (hf a).1) ?_)
 refine A4 (J3 ho (A4 (C2 ⟨rfl, by simp, h2.symm, by simp only [List.length_map, hl2]; exact hle⟩ (A4 (H9 (A4 (L4 fun o => A4 (H9 (A9 ?_)))))))))
 have e3 : xs.length + (((ys.drop off).take n2).map f).length = (xs ++ (ys.drop off).take n2).length := by rw [el, List.length_map, hl2]
 have e4 : List.take xs.length (xs.map f) = xs.map f := by rw [← List.length_map (f := f), List.take_length]
 exact ⟨F9 o + 1, by rw [e3], by simp only [e4, List.map_append]; simp, by simp⟩
theorem H8 {C : Caller} {A : Asr} {x : Operand} {k : IntKind} {n : Nat} {dflt : Nat} (h : opd A x = some (.val (.int k (n : Int)))) : wpA C A (optNat (some x) dflt) fun m ls => m = n ∧ ls = rds x := by
 have := a3j (C := C) (dflt := dflt) h (Int.natCast_nonneg n)
 simpa using this
theorem c8t {x : Operand} {T E id g n : Nat} {hi mx : Operand} {k k' : IntKind} (hx : opd A x = some (.sl id g none 0 n)) (hT : (tyS cx.P T).k = .slice E) (hb : O3 (tyS cx.P E).k = false)
  (hh : opd A hi = some (.val (.int k n))) (hm : opd A mx = some (.val (.int k' n))) (hk : slotOk keep (.t d) (.sl id g none 0 n) = true)
  (h0 : n = 0 → XR cx keep ops0 r ((.t d, .nil) :: A) fun A' lg => Q A' ((rds x ++ (rds mx ++ rds hi), [.t d]) :: lg))
  (h : n ≠ 0 → XR cx keep ops0 r ((.t d, .sl id g none 0 n) :: A) fun A' lg => Q A' ((rds x ++ (rds mx ++ rds hi), [.t d]) :: lg)) : XR cx keep ops0 (⟨some d, .slice T x none (some hi) (some mx), ty, pos, aft, none⟩ :: r) A Q := by
 have e : (n : Int).toNat = n := by simp
 by_cases hn : n = 0
 ·refine J2 (v := .nil) (fun o ho => by simp only [aopV, ho]) ?_ (by simp [slotOk, refOkV, refsOk]) (h0 hn)
  simp only [opV, C5, C7 hx, sliceA, hT, optNat, C7 hh, C7 hm, a0b (Int.natCast_nonneg n), e, D3, D5, hb]
  simp [hn, wpA]
 ·refine J2 (v := .sl id g none 0 n) (fun o ho => by simp only [aopV, ho]) ?_ hk (h hn)
  simp only [opV, C5, C7 hx, sliceA, hT, optNat, C7 hh, C7 hm, a0b (Int.natCast_nonneg n), e, D3, D5, hb]
  simp [hn, wpA]
end
theorem a8d (x : Int) (r : List Int) : (a9b x r).Perm (x :: r) := by
 induction r with
 | nil => exact .refl _
 | cons y r ih =>
  simp only [a9b]
  split
  ·exact .refl _
  ·exact (List.Perm.cons y ih).trans (List.Perm.swap x y r)
theorem b2z (xs : List Int) : (a0k xs).Perm xs := by
 induction xs with
 | nil => exact .refl _
 | cons x r ih => exact (a8d x (a0k r)).trans (List.Perm.cons x ih)
theorem a3f (x : Int) (r : List Int) (h : r.Pairwise (· ≤ ·)) : (a9b x r).Pairwise (· ≤ ·) := by
 induction r with
 | nil => simp [a9b]
 | cons y r ih =>
  simp only [a9b]
  have h2 := List.pairwise_cons.1 h
  split
  ·rename_i hxy
   refine List.pairwise_cons.2 ⟨fun z hz => ?_, h⟩
   rcases List.mem_cons.1 hz with rfl | hz
   ·exact hxy
   ·have := h2.1 z hz; omega
  ·rename_i hxy
   refine List.pairwise_cons.2 ⟨fun z hz => ?_, ih h2.2⟩
   rcases List.mem_cons.1 ((a8d x r).mem_iff.1 hz) with rfl | hz
   ·omega
   ·exact h2.1 z hz
theorem a7c (xs : List Int) : (a0k xs).Pairwise (· ≤ ·) := by
 induction xs with
 | nil => exact .nil
 | cons x r ih => exact a3f x _ ih
theorem c7q {xs ys : List Int} (hp : ys.Perm xs) (hs : ys.Pairwise (· ≤ ·)) : ys = a0k xs :=
 List.Perm.eq_of_pairwise (le := (· ≤ ·)) (fun a b _ _ h1 h2 => by omega) hs (a7c xs) (hp.trans (b2z xs).symm)
theorem a9p {s : List Int} (h : s.Pairwise (· ≤ ·)) {i j : Nat} (hij : i ≤ j) (hj : j < s.length) : s.getD i default ≤ s.getD j default := by
 rw [List.getD_eq_getElem?_getD, List.getD_eq_getElem?_getD, List.getElem?_eq_getElem (by omega), List.getElem?_eq_getElem hj]
 rcases Nat.lt_or_ge i j with h1 | h1
 ·exact List.pairwise_iff_getElem.1 h i j (by omega) hj h1
 ·have : i = j := by omega
  subst this
  exact Int.le_refl _
theorem a3h {xs : List Int} {x : Int} (h : x ∈ xs) : ∃ i, i < xs.length ∧ xs.getD i default = x := by
 obtain ⟨i, hi, rfl⟩ := List.getElem_of_mem h
 exact ⟨i, hi, by rw [List.getD_eq_getElem?_getD, List.getElem?_eq_getElem hi]; rfl⟩
theorem b4y {out : List Int} {x : Int} {k : Nat} (hs : out.Pairwise (· ≤ ·)) (hk : k ≤ out.length) (h1 : ∀ j, j < k → out.getD j default ≤ x) (h2 : k < out.length → x ≤ out.getD k default) :
  out.take k ++ [x] ++ out.drop k = a9b x out := by
 have hp : (out.take k ++ [x] ++ out.drop k).Perm (x :: out) := by
  have := (List.perm_middle (l₁ := out.take k) (l₂ := out.drop k) (a := x))
  rw [List.take_append_drop] at this
  rw [List.append_assoc]; exact this
 have hsrt : (out.take k ++ [x] ++ out.drop k).Pairwise (· ≤ ·) := by
  rw [List.append_assoc, List.pairwise_append]
  refine ⟨hs.take, ?_, ?_⟩
  ·rw [List.singleton_append, List.pairwise_cons]
   refine ⟨fun b hb => ?_, hs.drop⟩
   obtain ⟨i, hi, rfl⟩ := a3h hb
   rw [List.length_drop] at hi
   have e : (out.drop k).getD i default = out.getD (k + i) default := by rw [List.getD_eq_getElem?_getD, List.getD_eq_getElem?_getD, List.getElem?_drop]
   rw [e]
   exact Int.le_trans (h2 (by omega)) (a9p hs (by omega) (by omega))
  ·intro a ha b hb
   obtain ⟨i, hi, rfl⟩ := a3h ha
   rw [List.length_take] at hi
   have e : (out.take k).getD i default = out.getD i default := by rw [List.getD_eq_getElem?_getD, List.getD_eq_getElem?_getD, List.getElem?_take, if_pos (by omega)]
   rw [e]
   rw [List.singleton_append, List.mem_cons] at hb
   rcases hb with rfl | hb
   ·exact h1 i (by omega)
   ·obtain ⟨j, hj, rfl⟩ := a3h hb
    rw [List.length_drop] at hj
    have e2 : (out.drop k).getD j default = out.getD (k + j) default := by rw [List.getD_eq_getElem?_getD, List.getD_eq_getElem?_getD, List.getElem?_drop]
    rw [e2]
    exact a9p hs (by omega) (by omega)
 exact List.Perm.eq_of_pairwise (le := (· ≤ ·)) (fun a b _ _ h1 h2 => by omega) hsrt (a3f x out hs) (hp.trans (a8d x out).symm)
def bitN (s i : Nat) : Nat := s / 2 ^ i % 2
theorem c6m (s i : Nat) : bitN s i = 1 ↔ s.testBit i = true := by
 unfold bitN
 rw [Nat.testBit_eq_decide_div_mod_eq, decide_eq_true_eq]
theorem d1k (s i : Nat) : bitN s i = 0 ∨ bitN s i = 1 := by unfold bitN; omega
theorem b4a (i j : Nat) : bitN (2 ^ i) j = 1 ↔ j = i := by
 rw [c6m, Nat.testBit_two_pow]
 simp [eq_comm]
section
variable {cx : Cx} {keep : List Nat} {ops0 : Array Oper} {r : List Oper} {A : Asr} {Q : Asr → List Log → Prop} {d : Nat} {ty : Nat} {pos : String} {aft : Array Edge}
end
end Go.Mv
end

section
namespace Go.Mv
open Go Classical
section
variable {cx : Cx} {keep : List Nat} {ops0 : Array Oper} {r : List Oper} {A : Asr} {Q : Asr → List Log → Prop} {d : Nat} {ty : Nat} {pos : String} {aft : Array Edge}
end
def b0r (lo hi : Int) (xs : List Int) : Bool := xs.all fun x => decide (lo ≤ x) && decide (x ≤ hi)
theorem b1w {lo hi : Int} {xs : List Int} : b0r lo hi xs = true ↔ ∀ i, i < xs.length → lo ≤ xs.getD i default ∧ xs.getD i default ≤ hi := by
 unfold b0r
 rw [List.all_eq_true]
 constructor
 ·intro h i hi'
  have := h _ (b3t hi')
  simpa using this
 ·intro h x hx
  obtain ⟨i, hi', rfl⟩ := a3h hx
  simpa using h i hi'
def c6e (l : List Int) (s : Nat) : Nat → List Int
 | 0 => []
 | k + 1 => if bitN s k = 1 then c6e l s k ++ [l.getD k default] else c6e l s k
def sel (l : List Int) (s : Nat) : List Int := c6e l s l.length
theorem c1l (l : List Int) (i : Nat) : ∀ k, c6e l (2 ^ i) k = if i < k then [l.getD i default] else []
 | 0 => by simp [c6e]
 | k + 1 => by
  unfold c6e
  rw [c1l l i k]
  by_cases e : k = i
  ·subst e; rw [if_pos ((b4a k k).2 rfl)]; simp
  ·rw [if_neg (fun h => e ((b4a i k).1 h))]
   by_cases h : i < k
   ·rw [if_pos h, if_pos (by omega)]
   ·rw [if_neg h, if_neg (by omega)]
theorem d1r {l : List Int} {i : Nat} (hi : i < l.length) : sel l (2 ^ i) = [l.getD i default] := by
 unfold sel; rw [c1l, if_pos hi]
def Fnd (e : Bool) (s : List Int) (lev : Int) : Prop := ∃ i, i < s.length ∧ s.getD i default * s.length ≤ if e then ((i : Int) + 1) * lev else lev
theorem Fnd.mono {e : Bool} {s : List Int} {lev lev' : Int} (h : Fnd e s lev) (hl : lev ≤ lev') : Fnd e s lev' := by
 obtain ⟨i, hi, h⟩ := h
 refine ⟨i, hi, ?_⟩
 cases e
 ·simp only [Bool.false_eq_true, if_false] at h ⊢; omega
 ·simp only [if_true] at h ⊢
  have := Int.mul_le_mul_of_nonneg_left hl (show (0 : Int) ≤ (i : Int) + 1 by omega)
  omega
theorem Fnd.each {e : Bool} {s : List Int} {lev : Int} (h : Fnd e s lev) (h0 : 0 ≤ lev) : Fnd true s lev := by
 obtain ⟨i, hi, h⟩ := h
 refine ⟨i, hi, ?_⟩
 cases e
 ·simp only [Bool.false_eq_true, if_false, if_true] at h ⊢
  have := Int.mul_le_mul_of_nonneg_right (show (1 : Int) ≤ (i : Int) + 1 by omega) h0
  omega
 ·exact h
def CPr (l : List Int) (lev : Int) (e : Bool) (i : Nat) : Prop := ∀ s, 1 ≤ s → s < 2 ^ l.length → bitN s i = 1 → Fnd e (a0k (sel l s)) lev
noncomputable def d4f (l : List Int) (lev : Int) (e : Bool) (k : Nat) : List Int := ((List.range k).filter fun i => decide (CPr l lev e i)).map Int.ofNat
noncomputable def clo (l : List Int) (lev : Int) (e : Bool) : List Int := d4f l lev e l.length
theorem CPr.le {l : List Int} {lev : Int} {e : Bool} {i : Nat} (h : CPr l lev e i) (hi : i < l.length) : l.getD i default ≤ lev := by
 have := h (2 ^ i) (Nat.one_le_two_pow) (Nat.pow_lt_pow_right (by decide) hi) ((b4a i i).2 rfl)
 rw [d1r hi] at this
 obtain ⟨j, hj, h2⟩ := this
 have : j = 0 := by simp [a0k, a9b] at hj; omega
 subst this
 cases e <;> simp [a0k, a9b] at h2 <;> simpa using h2
def Mis (l : List Int) (lev : Int) (e : Bool) (s mi : Nat) : Prop := 1 ≤ s ∧ s ≤ 2 ^ l.length ∧ mi < 2 ^ l.length ∧ ∀ i, i < l.length → (bitN mi i = 1 ↔ ∃ s', 1 ≤ s' ∧ s' < s ∧ bitN s' i = 1 ∧ ¬ Fnd e (a0k (sel l s')) lev)
theorem Mis.start (l : List Int) (lev : Int) (e : Bool) : Mis l lev e 1 0 := by
 refine ⟨Nat.le_refl _, Nat.one_le_two_pow, Nat.two_pow_pos _, fun i hi => ⟨fun h => ?_, fun ⟨s', h1, h2, _⟩ => by omega⟩⟩
 unfold bitN at h; simp at h
theorem Mis.fin {l : List Int} {lev : Int} {e : Bool} {s mi : Nat} (h : Mis l lev e s mi) (hs : 2 ^ l.length ≤ s) {i : Nat} (hi : i < l.length) : bitN mi i = 0 ↔ CPr l lev e i := by
 obtain ⟨h1, h2, h3, h4⟩ := h
 have := h4 i hi
 have h5 := d1k mi i
 constructor
 ·intro h0 s' q1 q2 q3
  refine Classical.byContradiction fun hn => ?_
  have := this.2 ⟨s', q1, by omega, q3, hn⟩
  omega
 ·intro hc
  rcases h5 with h5 | h5
  ·exact h5
  ·obtain ⟨s', q1, q2, q3, q4⟩ := this.1 h5
   exact absurd (hc s' q1 (by omega) q3) q4
theorem d0s {xs : List Int} {q : Int → Bool} {i : Nat} (hi : i < xs.length) (h : q (xs.getD i default) = true) : decide (0 ≤ (i : Int)) = xs.any q := by
 rw [decide_eq_true (Int.natCast_nonneg i)]
 exact (List.any_eq_true.2 ⟨_, b3t hi, h⟩).symm
theorem c7p {xs : List Int} {q : Int → Bool} (h : ∀ j, j < xs.length → q (xs.getD j default) = false) : decide (0 ≤ (-1 : Int)) = xs.any q := by
 have : xs.any q = false := by
  rw [List.any_eq_false]
  intro x hx
  obtain ⟨i, hi, rfl⟩ := a3h hx
  rw [h i hi]; decide
 rw [this]; rfl
theorem c7t (lo hi : Int) (xs : List Int) : (!(xs.any fun x => !(decide (lo ≤ x) && decide (x ≤ hi)))) = b0r lo hi xs := by
 unfold b0r
 rw [List.not_any_eq_all_not]
 simp
theorem M6 {α : Type} [Inhabited α] {xs : List α} {i : Nat} (h : i < xs.length) : xs.getD i default ∈ xs := by
 rw [List.getD_eq_getElem?_getD, List.getElem?_eq_getElem h]
 exact List.getElem_mem h
def FndAt (e : Bool) (s : List Int) (lev : Int) (j : Nat) : Prop := (e = true ∧ s.getD j default * (s.length : Int) ≤ lev * ((j : Int) + 1)) ∨ s.getD j default * (s.length : Int) ≤ lev
theorem FndAt.none {e : Bool} {s : List Int} {lev : Int} (hl : 0 ≤ lev ∧ lev ≤ 1000) (h : ∀ j, j < s.length → ¬ FndAt e s lev j) : ¬ Fnd e s lev := by
 rintro ⟨j, hj, hf⟩
 refine h j hj ?_
 cases e
 ·exact .inr hf
 ·rw [if_pos rfl] at hf
  exact .inl ⟨rfl, by rw [Int.mul_comm lev]; exact hf⟩
theorem CPr.each {l : List Int} {lev : Int} {e : Bool} {i : Nat} (h : CPr l lev e i) (h0 : 0 ≤ lev) : CPr l lev true i := fun s h1 h2 h3 => (h s h1 h2 h3).each h0
theorem CPr.mono {l : List Int} {lev lev' : Int} {e : Bool} {i : Nat} (h : CPr l lev e i) (h0 : lev ≤ lev') : CPr l lev' e i := fun s h1 h2 h3 => (h s h1 h2 h3).mono h0
theorem a8h {α : Type} [Inhabited α] {xs : List α} {i j : Nat} {y : α} (h : i < xs.length) : (xs.set i y).getD j default = if j = i then y else xs.getD j default := by
 rw [List.getD_eq_getElem?_getD, List.getElem?_set, List.getD_eq_getElem?_getD]
 by_cases e : i = j
 ·subst e; rw [if_pos rfl, if_pos h, if_pos rfl]; rfl
 ·rw [if_neg e, if_neg (fun h => e h.symm)]
section
variable {cx : Cx} {keep : List Nat} {ops0 : Array Oper} {r : List Oper} {A : Asr} {Q : Asr → List Log → Prop} {d : Nat} {ty : Nat} {pos : String} {aft : Array Edge}
theorem a2x {α : Type} [Inhabited α] {f : α → AV} {xs : List α} {y : α} {v : AV} {T id g m s i j : Nat} {a x : Operand} (ha : opd A a = some (.ptr id g none i j)) (ho : look A (.h id) = some (.obj g m s (xs.map f))) (hx : opd A x = some v) (hi : i < xs.length)
  (hl : b0i ((leaves (f (xs.getD i default))).drop j) v = true)
  (hc : (leaves v).length = (tyS cx.P T).size ∧ 0 < (leaves v).length ∧ j + (leaves v).length ≤ (leaves (f (xs.getD i default))).length ∧ T4 (leaves v) ((leaves (f (xs.getD i default))).drop j) = true) (hm : m ≠ 2)
  (hp : putAt (f (xs.getD i default)) j v = f y)
  (hko : slotOk keep (.h id) (.obj g m s ((xs.set i y).map f)) = true)
  (h : XR cx keep ops0 r ((.h id, .obj g m s ((xs.set i y).map f)) :: A) fun A' lg => Q A' ((rds a ++ (rds x ++ [.h id, .h id, .h id]), [.h id]) :: lg)) :
  XR cx keep ops0 (⟨none, .store T a x, ty, pos, aft, none⟩ :: r) A Q := by
 have he : (xs.map f)[i]? = some (f (xs.getD i default)) := by rw [List.getElem?_map, List.getElem?_eq_getElem hi, List.getD_eq_getElem?_getD, List.getElem?_eq_getElem hi]; rfl
 have hs : (xs.map f).set i (putAt (f (xs.getD i default)) j v) = (xs.set i y).map f := by rw [hp, List.map_set]
 refine T1 ha hx ho he hl ⟨hm, hc.1, hc.2.1, hc.2.2.1, hc.2.2.2⟩ (by rw [hs]; exact hko) ?_
 rw [hs]
 exact h
end
def mkI (k : Int) (n : Nat) : List Int := (List.range n).map fun i : Nat => k + (i : Int)
@[simp] theorem c3z (k : Int) (n : Nat) : (mkI k n).length = n := by simp [mkI]
theorem b9g {k : Int} {n i : Nat} (h : i < n) : (mkI k n).getD i default = k + i := by
 rw [List.getD_eq_getElem?_getD]; simp [mkI, h]
def mkF (k : Int) (n : Nat) : List (Int × Int) := (List.range n).map fun i : Nat => (k + 2 * (i : Int), k + 2 * (i : Int) + 1)
@[simp] theorem mkF_length (k : Int) (n : Nat) : (mkF k n).length = n := by simp [mkF]
theorem b5x {α : Type} [Inhabited α] {xs ys : List α} (hl : xs.length = ys.length) (h : ∀ j, j < xs.length → xs.getD j default = ys.getD j default) : xs = ys := by
 refine List.ext_getElem hl fun i h1 h2 => ?_
 have := h i h1
 rw [List.getD_eq_getElem?_getD, List.getD_eq_getElem?_getD, List.getElem?_eq_getElem h1, List.getElem?_eq_getElem h2] at this
 exact this
section
variable {cx : Cx} {keep : List Nat} {ops0 : Array Oper} {r : List Oper} {A : Asr} {Q : Asr → List Log → Prop} {d : Nat} {ty : Nat} {pos : String} {aft : Array Edge}
end
section
variable {cx : Cx} {keep : List Nat} {ops0 : Array Oper} {r : List Oper} {A : Asr} {Q : Asr → List Log → Prop} {d : Nat} {ty : Nat} {pos : String} {aft : Array Edge}
end
theorem a1k {keep : List Nat} {id g m s : Nat} {es : List AV} (h : D6 es = true) (hm : ¬ (m = 3 ∨ m = 4)) : slotOk keep (.h id) (.obj g m s es) = true := by
 simp [slotOk, refOkV, h, hm]
def vd (xs : List Int) : Bool := decide (xs.length ≤ 10) && b0r (-200) 200 xs
theorem N4 {xs : List Int} (h : vd xs = true) : xs.length ≤ 10 := by
 simp only [vd, Bool.and_eq_true, decide_eq_true_eq] at h; exact h.1
theorem d1s {lo hi : Int} {xs : List Int} (h : ∀ i, i < xs.length → lo ≤ xs.getD i default ∧ xs.getD i default ≤ hi) : b0r lo hi xs = true := b1w.2 h
theorem c9a {lo hi : Int} {xs : List Int} {i : Nat} (hi' : i < xs.length) (h : ¬ (lo ≤ xs.getD i default ∧ xs.getD i default ≤ hi)) : b0r lo hi xs = false := by
 rw [Bool.eq_false_iff]
 exact fun h2 => h (b1w.1 h2 i hi')
theorem d2k {xs : List Int} (h : vd xs = true) : b0r (-200) 200 xs = true := by
 simp only [vd, Bool.and_eq_true] at h; exact h.2
section
variable {cx : Cx} {keep : List Nat} {A : Asr} {Q : AExit → Asr → Prop}
theorem E8 {body : Code} (h : XA cx keep body A fun r A' => match r with
  | .normal => XA cx keep (.loop body) A' Q
  | r => Q r A') : XA cx keep (.loop body) A Q := by
 intro st hs
 obtain ⟨n, r, st1, h1, A', h2, h3⟩ := h st hs
 cases r with
 | normal =>
  obtain ⟨m, r2, st2, k1, A2, k2, k3⟩ := h3 st1 h2
  refine ⟨max n m + 1, r2, st2, ?_, A2, k2, k3⟩
  simp only [aexec, a1z cx h1 (Nat.le_max_left n m), a1z cx k1 (Nat.le_max_right n m)]
 | ret => exact ⟨n + 1, _, st1, by simp only [aexec, h1], A', h2, h3⟩
 | exit i => exact ⟨n + 1, _, st1, by simp only [aexec, h1], A', h2, h3⟩
end
section
variable {cx : Cx} {keep : List Nat} {ops0 : Array Oper} {r : List Oper} {A : Asr} {Q : Asr → List Log → Prop} {d : Nat} {ty : Nat} {pos : String} {aft : Array Edge}
end
section
variable {cx : Cx} {keep : List Nat} {ops0 : Array Oper} {r : List Oper} {A : Asr} {Q : Asr → List Log → Prop} {d : Nat} {ty : Nat} {pos : String} {aft : Array Edge}
variable {C : Caller} {m f j : Nat} {cs fs : List AV} {G : Type} {vs : G → List AV} {ws : G → Ws} {ls : List Mv.Loc}
def a4t (C : Caller) (A : Asr) (m f j : Nat) (cs fs : List AV) {G : Type} (vs : G → List AV) (ws : G → Ws) (ls : List Mv.Loc) : Prop :=
 wpW C A (absorbLeaves m f j cs fs) fun a w l => ∃ g, a = vs g ∧ w = ws g ∧ l = ls
theorem I9 : a4t C A m f j cs [] (fun _ : Unit => []) (fun _ => []) [] := A9 ⟨(), rfl, rfl, rfl⟩
theorem D9 {v : AV} (h : O7 (cs.headD .undef) v = true) (t : a4t C A m f (j + 1) cs.tail fs vs ws ls) (hm : m ≠ 2 := by decide) : a4t C A m f j cs (v :: fs) (fun g => v :: vs g) ws ls := by
 refine A4 (a3u hm h (A4 (F3 t ?_)))
 rintro _ _ _ ⟨g, rfl, rfl, rfl⟩
 exact A9 ⟨g, rfl, by simp, by simp⟩
theorem a0x {id g s n : Nat} {ys : List AV} (ho : look A (.h id) = some (.obj g 0 s ys)) (hn : n = ys.length) (hi : M3 ys = true) (hc : cs.headD .undef = .nil)
  (t : a4t C (put A (.h id) (.dead g)) 0 f (j + 1) cs.tail fs vs ws ls) :
  a4t C A 0 f j cs (.sl id g none 0 n :: fs) (fun x => .own s ys :: vs x) (fun x => (.h id, .dead g) :: ws x) (.h id :: ls) := by
 refine A4 ?_
 rw [hc]
 refine c2k ho hn hi (A4 (F3 t ?_))
 rintro _ _ _ ⟨x, rfl, rfl, rfl⟩
 exact A9 ⟨x, rfl, by simp, by simp⟩
theorem T3 {id g s n : Nat} {ys : List AV} (hid : 100000 ≤ id) (hne : id ≠ fid f j) (ho : look A (.h id) = some (.obj g 0 s ys)) (hn : n = ys.length)
  (t : ∀ g', a4t C (put (put A (.h id) (.dead g)) (.h (fid f j)) (.obj g' 0 s ys)) 3 f (j + 1) cs.tail fs vs ws ls) :
  a4t C A 3 f j cs (.sl id g none 0 n :: fs) (fun x : Nat × G => .sl (fid f j) x.1 none 0 n :: vs x.2) (fun x => (.h id, .dead g) :: (.h (fid f j), .obj x.1 0 s ys) :: ws x.2) (.h id :: .h (fid f j) :: ls) := by
 subst hn
 refine A4 ?_
 unfold H0
 simp only [if_true]
 rw [if_pos (by simp [hid, hne])]
 refine A4 (J3 ho ?_)
 simp only [if_true]
 refine A4 (C2 (Nat.le_refl _) (A4 (H9 (A4 (L4 fun o => A4 (H9 (A9 ?_)))))))
 have := t (F9 o + 1)
 simp only [List.take_length]
 refine A4 (F3 this ?_)
 rintro _ _ _ ⟨x, rfl, rfl, rfl⟩
 exact A9 ⟨(F9 o + 1, x), rfl, by simp, by simp⟩
theorem G7 {T id g s i : Nat} {a x : Operand} {es : List AV} {e : AV} (ha : opd A a = some (.ptr id g none i 0)) (hx : opd A x = some (.agg fs)) (ho : look A (.h id) = some (.obj g m s es)) (he : es[i]? = some e)
  (hl : a4t (CW cx) A m id 0 (leaves e) fs vs ws ls) (ho' : ∀ z, look (puts A (ws z)) (.h id) = some (.obj g m s es))
  (hc : m ≠ 2 ∧ fs.length = (tyS cx.P T).size ∧ 0 < fs.length ∧ fs.length ≤ (leaves e).length) (hf : ∀ z, T4 (vs z) (leaves e) = true) (hp : ∀ z, putAt e 0 (.agg (vs z)) = .agg (vs z))
  (hk : ∀ z, tRefsOk keep (keptWs keep (ws z ++ [(.h id, .obj g m s (es.set i (.agg (vs z))))])) = true)
  (h : ∀ z, XR cx keep ops0 r (I1 A (ws z ++ [(.h id, .obj g m s (es.set i (.agg (vs z))))])) fun A' lg => Q A' ((rds a ++ (rds x ++ (.h id :: (ls ++ [.h id, .h id]))), M5 (ws z ++ [(.h id, .obj g m s (es.set i (.agg (vs z))))])) :: lg)) :
  XR cx keep ops0 (⟨none, .store T a x, ty, pos, aft, none⟩ :: r) A Q := by
 refine c5f (v := fun _ => .undef) (ws := fun z => ws z ++ [(.h id, .obj g m s (es.set i (.agg (vs z))))]) (ls := rds a ++ (rds x ++ (.h id :: (ls ++ [.h id, .h id])))) rfl ?_ (fun z => ?_) (fun z => ?_) (fun z => ?_) (A1 := fun z => I1 A (ws z ++ [(.h id, .obj g m s (es.set i (.agg (vs z))))]))
 ·simp only [aopV]
  refine A4 (C2 (by simp) (A4 (I7 ha (A4 (I7 hx (A4 ?_))))))
  unfold b3x
  rw [if_neg (by simp [b1y])]
  unfold a5u
  refine A4 (J3 ho ?_)
  simp only [he, if_true]
  refine A4 ?_
  simp only [absorb, List.drop_zero]
  refine A4 (F3 hl ?_)
  rintro _ _ _ ⟨z, rfl, rfl, rfl⟩
  refine A9 ?_
  have ho2 := ho' z
  refine A4 (J3 (by simpa [puts] using ho2) ?_)
  simp only [he]
  refine A4 (C2 (by refine ⟨trivial, hc.1, hc.2.1, hc.2.2.1, ?_, hf z, .inl trivial⟩; simpa [leaves] using hc.2.2.2) (A4 (G8 ?_)))
  simp only [wrNode]
  rw [L2 (v := .obj g m s es) (by simpa [puts] using ho2)]
  simp only [D3]
  refine H9 (A9 ?_)
  exact ⟨z, rfl, by simp [hp z], by simp⟩
 ·simpa [setD] using hk z
 ·simpa [setD] using a6f A (ws z ++ [(.h id, .obj g m s (es.set i (.agg (vs z))))])
 ·simpa [setD] using h z
theorem O8 {T id g s k : Nat} {a x : Operand} {e v : AV} (ha : opd A a = some (.ptr id g none 0 k)) (hx : opd A x = some v) (ho : look A (.h id) = some (.obj g 3 s [e])) (hs : b1y v = true) (hT : (tyS cx.P T).size = 1) (he : k + 1 ≤ (leaves e).length)
  (hko : slotOk keep (.h id) (.obj g 3 s [putAt e k v]) = true)
  (h : XR cx keep ops0 r ((.h id, .obj g 3 s [putAt e k v]) :: A) fun A' lg => Q A' ((rds a ++ (rds x ++ [.h id]), [.h id]) :: lg)) :
  XR cx keep ops0 (⟨none, .store T a x, ty, pos, aft, none⟩ :: r) A Q := by
 refine d3c (v := .undef) (ws := [(.h id, .obj g 3 s [putAt e k v])]) (ls := rds a ++ (rds x ++ [.h id])) rfl ?_ (G1 hko) (b0y _ _ _) h
 simp only [aopV]
 refine A4 (C2 (by simp) (A4 (I7 ha (A4 (I7 hx (A4 ?_))))))
 unfold b3x
 rw [if_pos hs]
 unfold b8i
 refine A4 (J3 ho ?_)
 dsimp only
 rw [if_pos (show (3 : Nat) = 3 from rfl)]
 simp only [List.getElem?_cons_zero]
 refine A4 (C2 ⟨hT, he⟩ (H9 (A9 ?_)))
 exact ⟨rfl, by simp, by simp⟩
def b5g (C : Caller) (A : Asr) (b : Bool) (fs vs : List AV) (ws : Ws) (ls : List Mv.Loc) : Prop := wpW C A (retLeaves b fs) fun a w l => a = vs ∧ w = ws ∧ l = ls
variable {b : Bool} {us : List AV} {w1 : Ws}
theorem K5 : b5g C A b [] [] [] [] := A9 ⟨rfl, rfl, rfl⟩
theorem H1 {v : AV} (h : (immLeaf v && !I0 v) = true) (t : b5g C A b fs us w1 ls) : b5g C A b (v :: fs) (v :: us) w1 ls := by
 refine A4 (b6n h (A4 (F3 t ?_)))
 rintro _ _ _ ⟨rfl, rfl, rfl⟩
 exact A9 ⟨rfl, by simp, by simp⟩
theorem G9 {cids : List Cid} {outs : List (List AV)} {a T id g s : Nat} {rs : List ResultVar} {os : List AV} (hv : look A (.t a) = some (.ptr id g none 0 0)) (ho : look A (.h id) = some (.obj g 3 s [.agg fs])) (hn : (fs.all fun l => !isOwn l) = true)
  (hp : partF cx.P T fs = some (.agg fs)) (hr : b5g (CW cx) A b fs us w1 ls) (h : b9q cx b cids outs rs (puts A w1) os) : b9q cx b cids outs (.cell a T :: rs) A (.agg us :: os) := by
 refine a6i ?_
 unfold retVar
 refine A4 (G8 ?_)
 rw [b7o hv]
 refine A4 (G8 ?_)
 simp only [loadG, loadA, rdNode, C5]
 rw [L2 (by exact ho)]
 simp only [C5, D5, D3, true_and, List.getElem?_cons_zero, List.drop_zero, leaves]
 rw [a5k _ _ hn, a5v hp]
 refine A4 (F3 hr ?_)
 rintro a1 w1 l1 ⟨rfl, rfl, rfl⟩
 refine A9 ?_
 have h' : wpW (CW cx) (puts A ([] ++ ([] ++ (w1 ++ [])))) (retAll cx.P b rs) fun us ws _ => us = os ∧ a1a (puts (puts A w1) ws) cids outs := by
  simp only [List.nil_append, List.append_nil]
  exact h
 refine F3 h' ?_
 rintro us' ws' ls' ⟨rfl, h2⟩
 refine ⟨rfl, ?_⟩
 simp only [List.nil_append, List.append_nil, a9w]
 exact h2
variable {k : Nat}
end
abbrev Bk := Int × Int × Int
section
variable {P Q v : Nat → Int}
def SegL (P Q v : Nat → Int) : Nat → List Bk → Nat → Prop
 | a, [], e => a = e
 | a, b :: r, e => ∃ m, a < m ∧ b.1 = P m - P a ∧ b.2.1 = Q m - Q a ∧ b.2.2 = v (m - 1) ∧ (∀ k, a < k → k ≤ m → (P m - P a) * (Q k - Q a) ≤ (P k - P a) * (Q m - Q a)) ∧ SegL P Q v m r e
theorem SegL.le : ∀ {l : List Bk} {a e : Nat}, SegL P Q v a l e → a ≤ e
 | [], _, _, h => Nat.le_of_eq h
 | _ :: _, _, _, ⟨_, h1, _, _, _, _, h⟩ => by have := h.le; omega
theorem SegL.append : ∀ {l1 l2 : List Bk} {a e : Nat}, SegL P Q v a (l1 ++ l2) e ↔ ∃ m, SegL P Q v a l1 m ∧ SegL P Q v m l2 e
 | [], l2, a, e => ⟨fun h => ⟨a, rfl, h⟩, fun ⟨m, h1, h2⟩ => by cases (h1 : a = m); exact h2⟩
 | b :: l1, l2, a, e => by
  constructor
  ·rintro ⟨m, h1, h2, h3, h4, h5, h6⟩
   obtain ⟨k, k1, k2⟩ := SegL.append.1 h6
   exact ⟨k, ⟨m, h1, h2, h3, h4, h5, k1⟩, k2⟩
  ·rintro ⟨k, ⟨m, h1, h2, h3, h4, h5, k1⟩, k2⟩
   exact ⟨m, h1, h2, h3, h4, h5, SegL.append.2 ⟨k, k1, k2⟩⟩
theorem Qlt {m : Nat} (hQ : ∀ j, j < m → Q j < Q (j + 1)) : ∀ {b a : Nat}, a < b → b ≤ m → Q a < Q b
 | 0, _, h, _ => by omega
 | b + 1, a, h, hm => by
  have h1 := hQ b (by omega)
  by_cases e : a = b
  ·subst e; exact h1
  ·have := Qlt hQ (b := b) (a := a) (by omega) (by omega); omega
def ltB (x y : Bk) : Prop := x.1 * y.2.1 < y.1 * x.2.1
def Inc : List Bk → Prop
 | [] => True
 | [_] => True
 | b :: c :: r => ltB b c ∧ Inc (c :: r)
theorem Inc.init : ∀ {l : List Bk} {x : Bk}, Inc (l ++ [x]) → Inc l
 | [], _, _ => trivial
 | [_], _, _ => trivial
 | b :: c :: r, x, h => ⟨h.1, Inc.init (l := c :: r) (x := x) h.2⟩
theorem Inc.tail {b : Bk} {r : List Bk} (h : Inc (b :: r)) : Inc r := by
 cases r with
 | nil => trivial
 | cons c r => exact h.2
theorem d3n {X p Y q Z r : Int} (hq : 0 < q) (hp : 0 < p) (hr : 0 < r) (h1 : X * q < Y * p) (h2 : Y * r < Z * q) : X * r < Z * p := by
 refine Int.lt_of_mul_lt_mul_left (a := q) ?_ (by omega)
 have a1 := Int.mul_lt_mul_of_pos_right h1 hr
 have a2 := Int.mul_lt_mul_of_pos_right h2 hp
 grind
theorem d3f {X p Y q u z : Int} (hq : 0 < q) (hp : 0 < p) (hu : 0 < u) (h1 : X * q < Y * p) (h2 : Y * u ≤ z * q) : X * u < z * p := by
 refine Int.lt_of_mul_lt_mul_left (a := q) ?_ (by omega)
 have a1 := Int.mul_lt_mul_of_pos_right h1 hu
 have a2 := Int.mul_le_mul_of_nonneg_right h2 (show 0 ≤ p by omega)
 grind
theorem SegL.above {n : Nat} (hQ : ∀ j, j < n → Q j < Q (j + 1)) {X p : Int} (hp : 0 < p) : ∀ {r : List Bk} {m e : Nat}, e ≤ n → SegL P Q v m r e → Inc r → (∀ b, r.head? = some b → X * b.2.1 < b.1 * p) →
  ∀ k, m < k → k ≤ e → X * (Q k - Q m) < (P k - P m) * p
 | [], m, e, _, h, _, _, k, k1, k2 => by cases (h : m = e); omega
 | b :: r, m, e, he, h, hi, hb, k, k1, k2 => by
  obtain ⟨m', h1, h2, h3, h4, h5, h6⟩ := h
  have hme := h6.le
  have hb0 : X * b.2.1 < b.1 * p := hb b rfl
  rw [h2, h3] at hb0
  clear hb
  have q1 := Qlt hQ h1 (by omega)
  rcases Nat.lt_or_ge m' k with c | c
  ·have a1 := SegL.above hQ hp he h6 hi.tail (fun c hc => by
    cases r with
    | nil => cases hc
    | cons c' r =>
     have hcc : c' = c := Option.some.inj hc
     subst hcc
     obtain ⟨m2, g1, g2, g3, _, _, g6⟩ := h6
     have hlt : ltB b c' := hi.1
     unfold ltB at hlt
     rw [h2, h3] at hlt
     have hm2 := g6.le
     have q2 := Qlt hQ g1 (by omega)
     exact d3n (by omega) hp (by omega) hb0 hlt) k c k2
   have e1 : Q k - Q m = (Q m' - Q m) + (Q k - Q m') := by omega
   have e2 : P k - P m = (P m' - P m) + (P k - P m') := by omega
   rw [e1, e2, Int.mul_add, Int.add_mul]
   omega
  ·have q2 := Qlt hQ k1 (by omega)
   exact d3f (by omega) hp (by omega) hb0 (h5 k k1 c)
theorem SegL.after {n : Nat} (hQ : ∀ j, j < n → Q j < Q (j + 1)) {b : Bk} {r : List Bk} {a m e : Nat} (he : e ≤ n) (h1 : a < m) (h2 : b.1 = P m - P a) (h3 : b.2.1 = Q m - Q a) (h6 : SegL P Q v m r e) (hi : Inc (b :: r)) :
  ∀ k, m < k → k ≤ e → (P m - P a) * (Q k - Q a) < (P k - P a) * (Q m - Q a) := by
 intro k k1 k2
 have hme := h6.le
 have q1 := Qlt hQ h1 (by omega)
 have a1 := SegL.above hQ (X := P m - P a) (p := Q m - Q a) (by omega) he h6 hi.tail (fun c hc => by
  cases r with
  | nil => cases hc
  | cons c' r =>
   have hcc : c' = c := Option.some.inj hc
   subst hcc
   have hlt : ltB b c' := hi.1
   unfold ltB at hlt
   rwa [h2, h3] at hlt) k k1 k2
 have e1 : Q k - Q a = (Q m - Q a) + (Q k - Q m) := by omega
 have e2 : P k - P a = (P m - P a) + (P k - P m) := by omega
 rw [e1, e2, Int.mul_add, Int.add_mul]
 omega
def fiU : List Bk → Int → Nat
 | [], _ => 0
 | b :: r, x => if x ≤ b.2.2 then 0 else fiU r x + 1
theorem SegL.has {n : Nat} (hv : ∀ i j, i < j → j < n → v i < v j) : ∀ {bs : List Bk} {a e g : Nat}, e ≤ n → SegL P Q v a bs e → g < e → a < e → fiU bs (v g) < bs.length
 | [], a, e, g, _, h, _, h2 => by cases (h : a = e); omega
 | b :: r, a, e, g, he, h, hg, _ => by
  obtain ⟨m, h1, h2, h3, h4, h5, h6⟩ := h
  unfold fiU
  split
  ·simp
  ·rename_i c
   have hm := h6.le
   have hgm : m ≤ g := by
    refine Classical.byContradiction fun hc => c ?_
    rw [h4]
    rcases Nat.lt_or_ge g (m - 1) with c2 | c2
    ·have := hv g (m - 1) c2 (by omega); omega
    ·have : g = m - 1 := by omega
     rw [this]; exact Int.le_refl _
   have := SegL.has hv he h6 hg (by omega)
   simpa using this
end
def fX (xs : List Int) (i : Nat) : Int := xs.getD i default
def b8j (xs : List Int) (i : Nat) (d : List Nat) : Prop := d.Perm (List.range i) ∧ (d.map (fX xs)).Pairwise (· ≤ ·)
theorem b8j.step {xs : List Int} {i k : Nat} {d : List Nat} (h : b8j xs i d) (hk : k ≤ d.length) (h1 : ∀ j, j < k → fX xs (d.getD j default) ≤ fX xs i) (h2 : k < d.length → fX xs i ≤ fX xs (d.getD k default)) :
  b8j xs (i + 1) (d.take k ++ [i] ++ d.drop k) := by
 refine ⟨?_, ?_⟩
 ·rw [List.range_succ]
  have : (d.take k ++ [i] ++ d.drop k).Perm (d.take k ++ d.drop k ++ [i]) := by
   rw [List.append_assoc, List.append_assoc]
   exact List.Perm.append_left _ List.perm_append_comm
  rw [List.take_append_drop] at this
  exact this.trans (h.1.append_right _)
 ·have e : ∀ j, j < d.length → (d.map (fX xs)).getD j default = fX xs (d.getD j default) := by
   intro j hj
   rw [List.getD_eq_getElem?_getD, List.getD_eq_getElem?_getD, List.getElem?_map, List.getElem?_eq_getElem hj]; rfl
  have := b4y (out := d.map (fX xs)) (x := fX xs i) (k := k) h.2 (by simpa using hk) (fun j hj => by rw [e j (by omega)]; exact h1 j hj) (fun hk2 => by rw [e k (by simpa using hk2)]; exact h2 (by simpa using hk2))
  have e2 : (d.take k ++ [i] ++ d.drop k).map (fX xs) = a9b (fX xs i) (d.map (fX xs)) := by rw [← this]; simp [List.map_take, List.map_drop]
  rw [e2]
  exact a3f _ _ h.2
theorem b8j.ys {xs : List Int} {d : List Nat} (h : b8j xs xs.length d) : d.map (fX xs) = a0k xs := by
 refine c7q ?_ h.2
 have := h.1.map (fX xs)
 have e : (List.range xs.length).map (fX xs) = xs := by
  apply List.ext_getElem
  ·simp
  ·intro i h1 h2
   simp [fX, List.getD_eq_getElem?_getD, List.getElem?_eq_getElem h2]
 rwa [e] at this
theorem b8j.len {xs : List Int} {i : Nat} {d : List Nat} (h : b8j xs i d) : d.length = i := by rw [h.1.length_eq, List.length_range]
theorem b8j.lt {xs : List Int} {i : Nat} {d : List Nat} (h : b8j xs i d) {j : Nat} (hj : j < d.length) : d.getD j default < i := List.mem_range.1 (h.1.mem_iff.1 (M6 hj))
abbrev wList : ByteArray := ⟨#[108, 105, 115, 116]⟩
abbrev wA : ByteArray := ⟨#[97]⟩
abbrev wB : ByteArray := ⟨#[98]⟩
abbrev wC : ByteArray := ⟨#[99]⟩
abbrev wD : ByteArray := ⟨#[100]⟩
abbrev d1w : ByteArray := ⟨#[115, 111, 114, 116]⟩
abbrev d3y : ByteArray := ⟨#[114, 101, 118]⟩
abbrev d3v : ByteArray := ⟨#[110, 101, 103]⟩
abbrev d3s : ByteArray := ⟨#[97, 98, 115]⟩
abbrev d2f : ByteArray := ⟨#[100, 105, 102, 102]⟩
abbrev d2c : ByteArray := ⟨#[115, 117, 109, 115]⟩
abbrev c9v : ByteArray := ⟨#[114, 97, 110, 107, 115]⟩
abbrev c9j : ByteArray := ⟨#[116, 111, 116, 97, 108]⟩
abbrev d3t : ByteArray := ⟨#[97, 100, 100]⟩
abbrev d2a : ByteArray := ⟨#[106, 111, 105, 110]⟩
def nd (w : ByteArray) : Int :=
 if w.toList = wList.toList then 0 else if w.toList = wA.toList then 0 else if w.toList = wB.toList then 0 else if w.toList = wC.toList then 0 else if w.toList = wD.toList then 0
 else if w.toList = d1w.toList then 1 else if w.toList = d3y.toList then 1 else if w.toList = d3v.toList then 1 else if w.toList = d3s.toList then 1 else if w.toList = d2f.toList then 1
 else if w.toList = d2c.toList then 1 else if w.toList = c9v.toList then 1 else if w.toList = c9j.toList then 1 else if w.toList = d3t.toList then 2 else if w.toList = d2a.toList then 2 else -1
def rch (w : ByteArray) : Int :=
 if w.toList = d1w.toList then 1 else if w.toList = d3y.toList then 1 else if w.toList = d3v.toList then 1 else if w.toList = d3s.toList then 1 else if w.toList = d2f.toList then 1
 else if w.toList = d2c.toList then 1 else if w.toList = c9v.toList then 1 else if w.toList = c9j.toList then 1 else if w.toList = d3t.toList then 2 else if w.toList = d2a.toList then 2
 else if w.toList = wA.toList then 0 else if w.toList = wB.toList then 0 else if w.toList = wC.toList then 0 else if w.toList = wD.toList then 0 else -1
theorem d2q {p : Prop} [Decidable p] {a b : Int} (ha : -1 ≤ a ∧ a ≤ 2) (hb : -1 ≤ b ∧ b ≤ 2) : -1 ≤ (if p then a else b) ∧ (if p then a else b) ≤ 2 := by split <;> assumption
theorem c9x (w : ByteArray) : -1 ≤ rch w ∧ rch w ≤ 2 := by
 unfold rch
 repeat (refine d2q (by decide) ?_)
 decide
def a5w (x : List Int) (i : Nat) : Int := x.getD i default
def dfI (x : List Int) : List Int := (List.range x.length).map fun i => if i = 0 then a5w x 0 else a5w x i - a5w x (i - 1)
def vl (x : List Int) : Bool := decide (x.length ≤ 40) && b0r (-100000) 100000 x
def a3i (n : Nat) (f g : Nat → Int) (i : Nat) (l : List Int) : Prop := l.length = n ∧ ∀ j, j < n → l.getD j default = if j < i then f j else g j
theorem a3i.step {n i : Nat} {f g : Nat → Int} {l : List Int} (h : a3i n f g i l) (hi : i < n) {v : Int} (hv : v = f i) : a3i n f g (i + 1) (l.set i v) := by
 refine ⟨by simp [h.1], fun j hj => ?_⟩
 rw [a7e _ _ _ _ (by rw [h.1]; exact hi)]
 by_cases e : j = i
 ·subst e; rw [if_pos rfl, if_pos (by omega), hv]
 ·rw [if_neg e, h.2 j hj]
  by_cases c : j < i
  ·rw [if_pos c, if_pos (by omega)]
  ·rw [if_neg c, if_neg (by omega)]
theorem a3i.at {n i : Nat} {f g : Nat → Int} {l : List Int} (h : a3i n f g i l) (hi : i < n) : l.getD i default = g i := by rw [h.2 i hi, if_neg (by omega)]
theorem a3i.fin {n i : Nat} {f g : Nat → Int} {l : List Int} (h : a3i n f g i l) (hi : n ≤ i) : l = (List.range n).map f := by
 refine X2 (d := default) (by simp [h.1]) fun j hj => ?_
 rw [h.1] at hj
 rw [h.2 j hj, if_pos (by omega), List.getD_eq_getElem?_getD, List.getElem?_map, List.getElem?_range hj]
 rfl
theorem a3i.start (x : List Int) (f : Nat → Int) : a3i x.length f (a5w x) 0 x := ⟨rfl, fun j hj => by rw [if_neg (by omega)]; rfl⟩
def a7i (x : List Int) (i : Nat) (l : List Int) : Prop := l.length = x.length ∧ ∀ j, j < x.length → l.getD j default = if i < j then a5w x j - a5w x (j - 1) else a5w x j
theorem a7i.step {x l : List Int} {i : Nat} (h : a7i x i l) (h0 : 0 < i) (hi : i < x.length) : a7i x (i - 1) (l.set i (l.getD i default - l.getD (i - 1) default)) := by
 refine ⟨by simp [h.1], fun j hj => ?_⟩
 rw [a7e _ _ _ _ (by rw [h.1]; exact hi)]
 by_cases e : j = i
 ·subst e
  rw [if_pos rfl, h.2 j hj, h.2 (j - 1) (by omega), if_neg (by omega), if_neg (by omega), if_pos (by omega)]
 ·rw [if_neg e, h.2 j hj]
  by_cases c : i < j
  ·rw [if_pos c, if_pos (by omega)]
  ·rw [if_neg c, if_neg (by omega)]
theorem a7i.fin {x l : List Int} (h : a7i x 0 l) : l = dfI x := by
 refine X2 (d := default) (by simp [h.1, dfI]) fun j hj => ?_
 rw [h.1] at hj
 rw [h.2 j hj, dfI, List.getD_eq_getElem?_getD, List.getElem?_map, List.getElem?_range hj]
 show _ = if j = 0 then _ else _
 by_cases e : j = 0
 ·subst e; rw [if_neg (by omega), if_pos rfl]
 ·rw [if_pos (by omega), if_neg e]
end Go.Mv
namespace Go.Mv
def c2e (x : List Int) (i : Nat) (l : List Int) : Prop := l.length = x.length ∧ ∀ j, j < x.length → l.getD j default = if j < i ∨ x.length - 1 - i < j then a5w x (x.length - 1 - j) else a5w x j
theorem c2e.start (x : List Int) : c2e x 0 x := ⟨rfl, fun j hj => by rw [if_neg (by omega)]; rfl⟩
theorem c2e.step {x l : List Int} {i : Nat} (h : c2e x i l) (hi : i < x.length - 1 - i) : c2e x (i + 1) ((l.set i (l.getD (x.length - 1 - i) default)).set (x.length - 1 - i) (l.getD i default)) := by
 refine ⟨by simp [h.1], fun j hj => ?_⟩
 rw [a7e _ _ _ _ (by simp [h.1]; omega), a7e _ _ _ _ (by rw [h.1]; omega)]
 by_cases e : j = x.length - 1 - i
 ·subst e
  rw [if_pos rfl, h.2 i (by omega), if_neg (by omega), if_pos (by omega), show x.length - 1 - (x.length - 1 - i) = i by omega]
 ·rw [if_neg e]
  by_cases e2 : j = i
  ·subst e2
   rw [if_pos rfl, h.2 _ (by omega), if_neg (by omega), if_pos (by omega)]
  ·rw [if_neg e2, h.2 j hj]
   by_cases c : j < i ∨ x.length - 1 - i < j
   ·rw [if_pos c, if_pos (by omega)]
   ·rw [if_neg c, if_neg (by omega)]
theorem c2e.fin {x l : List Int} {i : Nat} (h : c2e x i l) (hi : x.length - 1 - i ≤ i) : l = x.reverse := by
 refine X2 (d := default) (by simp [h.1]) fun j hj => ?_
 rw [h.1] at hj
 have hr : x.reverse.getD j default = a5w x (x.length - 1 - j) := by
  unfold a5w
  rw [List.getD_eq_getElem?_getD, List.getD_eq_getElem?_getD, List.getElem?_reverse hj]
 rw [h.2 j hj, hr]
 split
 ·rfl
 ·rename_i c
  rw [show x.length - 1 - j = j by omega]
end Go.Mv
namespace Go.Mv
theorem a7i.start (x : List Int) : a7i x (x.length - 1) x := ⟨rfl, fun j hj => by rw [if_neg (by omega)]; rfl⟩
theorem a7i.val {x l : List Int} {i : Nat} (h : a7i x i l) (j : Nat) : l.getD j default = if i < j ∧ j < x.length then a5w x j - a5w x (j - 1) else a5w x j := by
 rcases Nat.lt_or_ge j x.length with c | c
 ·rw [h.2 j c]
  by_cases c2 : i < j
  ·rw [if_pos c2, if_pos ⟨c2, c⟩]
  ·rw [if_neg c2, if_neg (by omega)]
 ·rw [if_neg (by omega), List.getD_eq_getElem?_getD, List.getElem?_eq_none (by rw [h.1]; exact c)]
  unfold a5w
  rw [List.getD_eq_getElem?_getD, List.getElem?_eq_none c]
theorem a3i.before {n i j : Nat} {f g : Nat → Int} {l : List Int} (h : a3i n f g i l) (hj : j < i) (hn : j < n) : l.getD j default = f j := by rw [h.2 j hn, if_pos hj]
structure Stp where
 op : ByteArray
 a : Int
 b : Int
 ns : List Int
instance : Inhabited Stp := ⟨⟨⟨#[]⟩, 0, 0, []⟩⟩
abbrev stA (s : Stp) : AV := .agg [sV s.op, iV s.a, iV s.b, .list (s.ns.map iV)]
abbrev stO (s : Stp) : AV := .agg [sV s.op, iV s.a, iV s.b, .own 1 (s.ns.map iV)]
theorem d0l (ss : List Stp) : frzL (ss.map stO) = ss.map stA := by
 induction ss with
 | nil => rfl
 | cons s r ih =>
  simp only [List.map_cons, frzL, ih]
  congr 1
  simp only [frz, frzL, stO, stA]
  rw [a1x fun _ => rfl]
theorem b5k (l : List Nat) {i : Nat} (hi : i < l.length) : (l.take (i + 1)).sum = (l.take i).sum + l[i] := by
 rw [List.take_succ_eq_append_getElem hi, List.sum_append]; simp
section
variable {cx : Cx} {keep : List Nat} {ops0 : Array Oper} {r : List Oper} {A : Asr} {Q : Asr → List Log → Prop} {d : Nat} {ty : Nat} {pos : String} {aft : Array Edge}
theorem d1l {S T e id g m s n : Nat} {x : Operand} {es : List AV} {l : List UInt8} (hx : opd A x = some (.sl id g none 0 n)) (ho : look A (.h id) = some (.obj g m s es)) (hS : (tyS cx.P S).k = .slice e) (hT : (tyS cx.P T).k = .string) (hE : (tyS cx.P e).k = .int .u8)
  (hb : bxB m none = false) (hn : n = es.length) (hl : O2 es = some l)
  (h : XR cx keep ops0 r ((.t d, sV ⟨l.toArray⟩) :: A) fun A' lg => Q A' ((rds x ++ [.h id], [.t d]) :: lg)) : XR cx keep ops0 (⟨some d, .convert S T x, ty, pos, aft, none⟩ :: r) A Q := by
 subst hn
 refine J2 (fun o ho => by simp only [aopV, ho]) ?_ (by simp [slotOk, refOkV, refsOk]) h
 simp only [opV, C5, C7 hx, b7l, hS, hT, hE, slc, rdNode, L2 ho, D5, D3, hb, List.append_nil, List.nil_append, List.drop_zero, List.take_length, Nat.zero_add, Nat.le_refl, and_self, true_and, hl]
theorem d2l {v : Int} (h : 0 ≤ v ∧ v < 256) : O2 [.val (.int .u8 v)] = some [UInt8.ofNat v.toNat] := by
 simp [O2, h]
def Stp.sOp (y : Stp) (s : ByteArray) : Stp := ⟨s, y.a, y.b, y.ns⟩
def Stp.sA (y : Stp) (n : Int) : Stp := ⟨y.op, n, y.b, y.ns⟩
def Stp.sB (y : Stp) (n : Int) : Stp := ⟨y.op, y.a, n, y.ns⟩
def Stp.sN (y : Stp) (l : List Int) : Stp := ⟨y.op, y.a, y.b, l⟩
@[simp] theorem Stp.sOp_ns (y : Stp) (s : ByteArray) : (y.sOp s).ns = y.ns := rfl
@[simp] theorem Stp.sA_ns (y : Stp) (s : Int) : (y.sA s).ns = y.ns := rfl
@[simp] theorem Stp.sB_ns (y : Stp) (s : Int) : (y.sB s).ns = y.ns := rfl
@[simp] theorem Stp.sN_ns (y : Stp) (s : List Int) : (y.sN s).ns = s := rfl
theorem c5r {C : Caller} {md id g m s0 i j s n : Nat} {es ys : List AV} (hmd : md = 1) (ho : look A (.h id) = some (.obj g m s0 es)) (hl : leafAt es i j = some (.own s ys)) (hm : m ≠ 2) (hn : n = ys.length) (hi : M3 ys = true) :
  J8 C A md (.sl id g (some (i, j)) 0 n) (.own s ys) [(id, true)] [] [.h id] := by
 subst hmd hn
 unfold J8 a2a
 simp only [show ¬ ((1 : Nat) = 0) from by decide, if_false, if_true]
 refine A4 (b6b ho hl ?_)
 rw [if_neg (by simp)]
 refine A4 (C2 ⟨hm, by simp [bxB], trivial, rfl, hi⟩ (A9 ⟨rfl, rfl, by simp⟩))
theorem c6n {C : Caller} {id g m s0 i j s : Nat} {es ys o : List AV} {e : AV} (ho : look A (.h id) = some (.obj g m s0 es)) (hl : leafAt es i j = some (.own s ys)) (he : es[i]? = some e) (hn : o.length = ys.length) (hf : nilFit ys o = true) :
  b4k C A [(id, g, some (i, j))] [o] [(.h id, .obj g m s0 (es.set i (putAt e j (.own s o))))] [.h id, .h id] := by
 unfold b4k X5
 refine A4 ?_
 unfold a4m
 refine A4 (b6b ho hl (A4 (C2 ⟨hn, hf⟩ (A4 (G8 ?_)))))
 simp only [wrNode]
 have ho' : look (puts (puts A []) []) (.h id) = some (.obj g m s0 es) := ho
 rw [L2 ho']
 simp only [he, hl, D3]
 refine H9 ?_
 exact A9 ⟨by simp, by simp⟩
theorem c9u {C : Caller} {id g m s0 i : Nat} {ys : List Stp} {o : List Int} (ho : look A (.h id) = some (.obj g m s0 (ys.map stO))) (hi : i < ys.length) (hn : o.length = (ys.getD i default).ns.length) :
  b4k C A [(id, g, some (i, 3))] [o.map iV] [(.h id, .obj g m s0 ((ys.set i ((ys.getD i default).sN o)).map stO))] [.h id, .h id] := by
 have := c6n (C := C) (o := o.map iV) ho (b1x (j := 3) hi rfl) (getElem?_map_getD hi) (by simpa using hn) (c2j _ _)
 have e : (ys.map stO).set i (putAt (stO (ys.getD i default)) 3 (.own 1 (o.map iV))) = (ys.set i ((ys.getD i default).sN o)).map stO := by
  rw [List.map_set]; rfl
 rwa [e] at this
end
theorem d1j {w : ByteArray} (h : w.toList = wList.toList) : nd w = 0 := by rw [nd, if_pos h]
theorem c8y (w : ByteArray) (h : w.toList ≠ wList.toList) : nd w = rch w := by
 by_cases hA : w.toList = wA.toList
 ·simp [nd, rch, hA]
 by_cases hB : w.toList = wB.toList
 ·simp [nd, rch, hB]
 by_cases hC : w.toList = wC.toList
 ·simp [nd, rch, hC]
 by_cases hD : w.toList = wD.toList
 ·simp [nd, rch, hD]
 unfold nd rch
 rw [if_neg h, if_neg hA, if_neg hB, if_neg hC, if_neg hD, if_neg hA, if_neg hB, if_neg hC, if_neg hD]
section
variable {cx : Cx} {keep : List Nat} {ops0 : Array Oper} {r : List Oper} {A : Asr} {Q : Asr → List Log → Prop} {d : Nat} {ty : Nat} {pos : String} {aft : Array Edge}
end
theorem d0o (b : ByteArray) : ∀ n i r, b.size - i = n → ByteArray.toList.loop b i r = r.reverse ++ b.data.toList.drop i := by
 intro n
 induction n with
 | zero =>
  intro i r h
  rw [ByteArray.toList.loop]
  have h1 : ¬ i < b.size := by omega
  rw [if_neg h1, List.drop_eq_nil_of_le (by rw [Array.length_toList]; show b.size ≤ i; omega), List.append_nil]
 | succ n ih =>
  intro i r h
  rw [ByteArray.toList.loop]
  have h1 : i < b.size := by omega
  have h2 : i < b.data.toList.length := by rw [Array.length_toList]; exact h1
  rw [if_pos h1, ih (i + 1) _ (by omega), List.drop_eq_getElem_cons h2, List.reverse_cons, List.append_assoc]
  have e : b.get! i = b.data.toList[i] := by
   show b.data[i]! = _
   rw [getElem!_pos b.data i h1]
   exact (Array.getElem_toList ..).symm
  rw [e]; rfl
theorem a5i (b : ByteArray) : b.toList = b.data.toList := by
 rw [ByteArray.toList, d0o b b.size 0 [] (by omega)]; rfl
theorem d2x {a b : ByteArray} (h : a.toList = b.toList) : a = b := by
 rw [a5i, a5i] at h
 cases a; cases b
 congr 1
 exact Array.toList_inj.1 h
end Go.Mv
namespace Go.Mv
theorem a2w (xs : List Int) (b : Bool) : hasList (.tup [.own 1 (xs.map iV), bV b]) = false := by simp [hasList, E3]
end Go.Mv
namespace Go.Mv
end Go.Mv
namespace Go.Mv
theorem b9i {w : ByteArray} (h : w.toList = wList.toList) : rch w = -1 := by
 have e : w = wList := d2x h
 subst e
 decide +kernel
theorem L0 {A : Asr} {C : Caller} {ss : List Stp} {md id g m n : Nat} (hmd : md = 0) (ho : look A (.h id) = some (.obj g m 4 (ss.map stO))) (hb : bxB m none = false) (hn : n = (ss.map stO).length) :
  J8 C A md (.sl id g none 0 n) (.list (ss.map stA)) [(id, false)] [] [.h id] := by
 have := b1p (C := C) hmd ho hb hn (A6 fun _ => rfl)
 rwa [d0l] at this
abbrev bA (l : List UInt8) : ByteArray := ⟨l.toArray⟩
abbrev tV (l : List UInt8) : AV := sV (bA l)
theorem a1t (l : List UInt8) : (bA l).toList = l := by rw [a5i]
theorem c7f (a b : List UInt8) : bA a ++ bA b = bA (a ++ b) := by
 apply ByteArray.ext
 simp
theorem c2s (a : List UInt8) (i j : Nat) : (bA a).extract i j = bA ((a.drop i).take (j - i)) := by
 apply ByteArray.ext
 simp [ByteArray.data_extract]
theorem a5e (b : ByteArray) : bA b.data.toList = b := by cases b; rfl
section
variable {cx : Cx} {keep : List Nat} {ops0 : Array Oper} {r : List Oper} {A : Asr} {Q : Asr → List Log → Prop} {d : Nat} {ty : Nat} {pos : String} {aft : Array Edge}
theorem a3s {x : Operand} {T : Nat} {l : List UInt8} (hx : opd A x = some (tV l)) (hT : a3y (tyS cx.P T).k = true)
  (h : XR cx keep ops0 r ((.t d, iV l.length) :: A) fun A' lg => Q A' ((rds x, [.t d]) :: lg)) : XR cx keep ops0 (⟨some d, .call ⟨.builtin .len, #[x], #[T]⟩, ty, pos, aft, none⟩ :: r) A Q := c6p hx hT h
theorem N9 {x i : Operand} {T n : Nat} {l : List UInt8} {k : IntKind} (hT : a3y (tyS cx.P T).k = true) (hx : opd A x = some (tV l)) (hi : opd A i = some (.val (.int k (n : Int)))) (hn : n < l.length)
  (h : XR cx keep ops0 r ((.t d, uV (l.getD n 0).toNat) :: A) fun A' lg => Q A' ((rds x ++ rds i, [.t d]) :: lg)) : XR cx keep ops0 (⟨some d, .index T x i, ty, pos, aft, none⟩ :: r) A Q :=
 c1n hT hx hi (by omega) (by rw [Int.toNat_natCast]; show l[n]? = _; rw [List.getD_eq_getElem?_getD, List.getElem?_eq_getElem hn]; rfl) h
theorem b3p {T z : Nat} {a b : Operand} {x y : List UInt8} (ha : opd A a = some (tV x)) (hb : opd A b = some (tV y)) (hi : x.length + y.length ≤ I8)
  (h : XR cx keep ops0 r ((.t d, tV (x ++ y)) :: A) fun A' lg => Q A' ((rds a ++ rds b, [.t d]) :: lg)) : XR cx keep ops0 (⟨some d, .binOp .add T a b z, ty, pos, aft, none⟩ :: r) A Q :=
 d2r ha hb hi (by rw [c7f]; exact h)
theorem a0t {T z : Nat} {a b : Operand} {x y : List UInt8} (ha : opd A a = some (tV x)) (hb : opd A b = some (tV y))
  (h : XR cx keep ops0 r ((.t d, bV (decide (x = y))) :: A) fun A' lg => Q A' ((rds a ++ rds b, [.t d]) :: lg)) : XR cx keep ops0 (⟨some d, .binOp .eql T a b z, ty, pos, aft, none⟩ :: r) A Q :=
 M4 ha hb (by rw [a1t, a1t, show (x == y) = decide (x = y) from Bool.eq_iff_iff.2 (by simp)]; exact h)
theorem b6c {T z : Nat} {a b : Operand} {x y : List UInt8} (ha : opd A a = some (tV x)) (hb : opd A b = some (tV y))
  (h : XR cx keep ops0 r ((.t d, bV (!decide (x = y))) :: A) fun A' lg => Q A' ((rds a ++ rds b, [.t d]) :: lg)) : XR cx keep ops0 (⟨some d, .binOp .neq T a b z, ty, pos, aft, none⟩ :: r) A Q :=
 c8k ha hb (by rw [a1t, a1t, show (x == y) = decide (x = y) from Bool.eq_iff_iff.2 (by simp)]; exact h)
theorem a4s {x : Operand} {T lo1 hi1 : Nat} {lo hi : Option Operand} {l : List UInt8} {ls1 ls2 : List Mv.Loc} (hx : opd A x = some (tV l)) (hT : (tyS cx.P T).k = .string)
  (hh : wpA (CW cx) A (optNat hi l.length) fun k ls => k = hi1 ∧ ls = ls1) (hl : wpA (CW cx) A (optNat lo 0) fun k ls => k = lo1 ∧ ls = ls2) (hc : lo1 ≤ hi1 ∧ hi1 ≤ l.length)
  (h : XR cx keep ops0 r ((.t d, tV ((l.drop lo1).take (hi1 - lo1))) :: A) fun A' lg => Q A' ((rds x ++ (ls1 ++ ls2), [.t d]) :: lg)) : XR cx keep ops0 (⟨some d, .slice T x lo hi none, ty, pos, aft, none⟩ :: r) A Q := by
 refine J2 (fun o ho => by simp only [aopV, ho]) ?_ (by simp [slotOk, refOkV, refsOk]) h
 simp only [opV, C5, C7 hx, sliceA, hT, D5]
 refine ⟨trivial, ?_⟩
 refine P3 ?_ hh
 rintro _ _ ⟨rfl, rfl⟩
 refine P3 ?_ hl
 rintro _ _ ⟨rfl, rfl⟩
 simp only [D5, D3, c2s, List.append_nil]
 exact ⟨hc, by simp⟩
end
theorem d3j {x : Int} (h : 0 ≤ x ∧ x ≤ 255) : inI .u8 x := by
 constructor <;> simp [IntKind.min, IntKind.max, IntKind.signed, IntKind.bits] <;> omega
def decN (n : Nat) : List UInt8 := if n < 10 then [UInt8.ofNat (48 + n)] else decN (n / 10) ++ [UInt8.ofNat (48 + n % 10)]
termination_by n
theorem b1n {n : Nat} (h : n < 10) : decN n = [UInt8.ofNat (48 + n)] := by rw [decN, if_pos h]
theorem c4l {n : Nat} (h : ¬ n < 10) : decN n = decN (n / 10) ++ decN (n % 10) := by
 rw [decN, if_neg h, b1n (show n % 10 < 10 from Nat.mod_lt _ (by decide))]
def dec (n : Int) : List UInt8 := if n < 0 then 45 :: decN (-n).toNat else decN n.toNat
theorem b1k (n : Nat) : dec (n : Int) = decN n := by rw [dec, if_neg (by omega)]; rfl
theorem u8n {k : Nat} (h : k < 256) : (UInt8.ofNat k).toNat = k := by rw [UInt8.toNat_ofNat']; exact Nat.mod_eq_of_lt h
theorem a6g (n : Nat) : ∀ b ∈ decN n, 48 ≤ b.toNat ∧ b.toNat ≤ 57 := by
 induction n using Nat.strongRecOn with
 | _ n ih =>
  rw [decN]
  split
  ·intro b hb
   cases List.mem_singleton.1 hb
   rw [u8n (by omega)]; omega
  ·intro b hb
   rcases List.mem_append.1 hb with c | c
   ·exact ih _ (by omega) b c
   ·cases List.mem_singleton.1 c
    rw [u8n (by omega)]; omega
theorem a7l (n : Nat) : decN n ≠ [] := by
 rw [decN]
 split <;> simp
theorem c8n (n : Int) : dec n ≠ [] := by
 rw [dec]
 split
 ·simp
 ·exact a7l _
theorem b9h (n : Nat) : ∀ {k : Nat}, 1 ≤ k → n < 10 ^ k → (decN n).length ≤ k := by
 induction n using Nat.strongRecOn with
 | _ n ih =>
  intro k hk hn
  rw [decN]
  split
  ·simpa using hk
  ·rename_i h
   match k, hk with
   | 1, _ => omega
   | k + 2, _ =>
    have := ih (n / 10) (by omega) (k := k + 1) (by omega) (by rw [Nat.pow_succ] at hn; omega)
    simp; omega
theorem X3 {m : Int} (h : -1000000 ≤ m ∧ m ≤ 1000000) : (dec m).length ≤ 8 := by
 rw [dec]
 split
 ·have := b9h (-m).toNat (k := 7) (by decide) (by omega)
  simp; omega
 ·have := b9h m.toNat (k := 7) (by decide) (by omega)
  omega
theorem d1h {n : Int} (h : n < 0) : dec n = [45] ++ dec (-n) := by
 rw [dec, if_pos h, dec, if_neg (by omega)]; rfl
theorem d1p {n : Int} (h : 0 ≤ n ∧ n < 10) : dec n = (([48, 49, 50, 51, 52, 53, 54, 55, 56, 57] : List UInt8).drop n.toNat).take ((n + 1).toNat - n.toNat) := by
 obtain ⟨k, rfl⟩ : ∃ k : Nat, n = k := ⟨n.toNat, by omega⟩
 have hk : k < 10 := by omega
 rw [b1k, b1n hk]
 match k, hk with
 | 0, _ => rfl
 | 1, _ => rfl
 | 2, _ => rfl
 | 3, _ => rfl
 | 4, _ => rfl
 | 5, _ => rfl
 | 6, _ => rfl
 | 7, _ => rfl
 | 8, _ => rfl
 | 9, _ => rfl
theorem d3k {n : Int} (h : ¬ n < 10) : dec n = dec (n.tdiv 10) ++ dec (n.tmod 10) := by
 obtain ⟨k, rfl⟩ : ∃ k : Nat, n = k := ⟨n.toNat, by omega⟩
 have e1 : (k : Int).tdiv 10 = ((k / 10 : Nat) : Int) := by rw [Int.tdiv_eq_ediv_of_nonneg (by omega)]; omega
 have e2 : (k : Int).tmod 10 = ((k % 10 : Nat) : Int) := by rw [Int.tmod_eq_emod_of_nonneg (by omega)]; omega
 rw [e1, e2, b1k, b1k, b1k, c4l (by omega)]
def joinB (c : UInt8) : List (List UInt8) → List UInt8
 | [] => []
 | [p] => p
 | p :: q :: r => p ++ c :: joinB c (q :: r)
def T7 (q : List UInt8) : List (List UInt8) → List (List UInt8)
 | p :: ps => (q ++ p) :: ps
 | [] => []
def splitB (c : UInt8) : List UInt8 → List (List UInt8)
 | [] => [[]]
 | b :: r => if b = c then [] :: splitB c r else T7 [b] (splitB c r)
theorem c1q (a b : List UInt8) (l : List (List UInt8)) : T7 a (T7 b l) = T7 (a ++ b) l := by cases l <;> simp [T7]
theorem b6i (l : List (List UInt8)) : T7 [] l = l := by cases l <;> simp [T7]
theorem b6f (c : UInt8) (l : List UInt8) : splitB c l ≠ [] := by
 induction l with
 | nil => simp [splitB]
 | cons b r ih =>
  rw [splitB]
  split
  ·simp
  ·cases h : splitB c r with
   | nil => exact absurd h ih
   | cons p ps => simp [T7]
theorem c1d {c : UInt8} {p : List UInt8} (h : c ∉ p) (r : List UInt8) : splitB c (p ++ c :: r) = p :: splitB c r := by
 induction p with
 | nil => simp [splitB]
 | cons b p ih =>
  simp only [List.mem_cons, not_or] at h
  rw [List.cons_append, splitB, if_neg (fun e => h.1 e.symm), ih h.2]
  rfl
theorem b7y {c : UInt8} {p : List UInt8} (h : c ∉ p) : splitB c p = [p] := by
 induction p with
 | nil => rfl
 | cons b p ih =>
  simp only [List.mem_cons, not_or] at h
  rw [splitB, if_neg (fun e => h.1 e.symm), ih h.2]
  rfl
theorem a9k {c : UInt8} : ∀ {ps : List (List UInt8)}, ps ≠ [] → (∀ p ∈ ps, c ∉ p) → splitB c (joinB c ps) = ps
 | [], h, _ => absurd rfl h
 | [p], _, h => b7y (h p (by simp))
 | p :: q :: r, _, h => by
  rw [joinB, c1d (h p (by simp)), a9k (by simp) fun x hx => h x (List.mem_cons_of_mem _ hx)]
theorem b2t {c : UInt8} {p : List UInt8} {r : List (List UInt8)} (h : r ≠ []) : joinB c (p :: r) = p ++ c :: joinB c r := by
 cases r with
 | nil => exact absurd rfl h
 | cons q r => rfl
theorem b3w (c : UInt8) (l : List UInt8) : joinB c (splitB c l) = l := by
 induction l with
 | nil => rfl
 | cons b r ih =>
  rw [splitB]
  split
  ·rename_i e
   subst e
   rw [b2t (b6f _ _), ih]; rfl
  ·cases h : splitB c r with
   | nil => exact absurd h (b6f c r)
   | cons p ps =>
    rw [h] at ih
    cases ps with
    | nil => simp only [T7, joinB] at ih ⊢; rw [ih]; rfl
    | cons q ps => simp only [T7, joinB] at ih ⊢; rw [← ih]; rfl
theorem b3a {c : UInt8} {s : List UInt8} {out : List (List UInt8)} {fr i : Nat} (hi : i < s.length) (hf : fr ≤ i) (h : splitB c s = out ++ T7 ((s.drop fr).take (i - fr)) (splitB c (s.drop i))) :
  (s.getD i 0 = c → splitB c s = (out ++ [(s.drop fr).take (i - fr)]) ++ T7 ((s.drop (i + 1)).take (i + 1 - (i + 1))) (splitB c (s.drop (i + 1)))) ∧
  (s.getD i 0 ≠ c → splitB c s = out ++ T7 ((s.drop fr).take (i + 1 - fr)) (splitB c (s.drop (i + 1)))) := by
 have e : s.drop i = s.getD i 0 :: s.drop (i + 1) := by
  rw [List.drop_eq_getElem_cons hi, List.getD_eq_getElem?_getD, List.getElem?_eq_getElem hi]; rfl
 refine ⟨fun hc => ?_, fun hc => ?_⟩
 ·rw [h, e, splitB, if_pos hc, Nat.sub_self, List.take_zero, b6i, T7, List.append_nil, List.append_assoc]; rfl
 ·rw [h, e, splitB, if_neg hc, c1q]
  congr 2
  have e2 : (s.drop fr).take (i + 1 - fr) = (s.drop fr).take (i - fr) ++ [s.getD i 0] := by
   rw [show i + 1 - fr = (i - fr) + 1 by omega, List.take_succ_eq_append_getElem (by simp; omega)]
   congr 2
   rw [List.getElem_drop, List.getD_eq_getElem?_getD, List.getElem?_eq_getElem hi]
   simp [show fr + (i - fr) = i by omega]
  rw [e2]
def U4 : Nat → List UInt8 → Option Nat
 | a, [] => some a
 | a, b :: r => if 48 ≤ b.toNat ∧ b.toNat ≤ 57 ∧ a ≤ 10000 then U4 (10 * a + (b.toNat - 48)) r else none
theorem a4h (x y : List UInt8) : ∀ a, U4 a (x ++ y) = (U4 a x).bind fun b => U4 b y := by
 induction x with
 | nil => intro a; rfl
 | cons c x ih =>
  intro a
  rw [List.cons_append, U4, U4]
  split
  ·exact ih _
  ·rfl
theorem c1f (n : Nat) : n ≤ 100009 → U4 0 (decN n) = some n := by
 induction n using Nat.strongRecOn with
 | _ n ih =>
  intro hn
  rw [decN]
  split
  ·rename_i h
   rw [U4, u8n (by omega), if_pos (by omega), U4]
   congr 1; omega
  ·rename_i h
   rw [a4h, ih (n / 10) (by omega) (by omega), Option.bind_some, U4, u8n (by omega), if_pos (by omega), U4]
   congr 1; omega
def neg? (t : List UInt8) : Bool := decide (t.head? = some 45)
def unS (t : List UInt8) : List UInt8 := if neg? t = true then t.tail else t
def rdI (t : List UInt8) : Option Int := (U4 0 (unS t)).bind fun n => if unS t = [] ∨ dec (if neg? t = true then -(n : Int) else n) ≠ t then none else some (if neg? t = true then -(n : Int) else n)
theorem c7r {t : List UInt8} {m : Int} (h : rdI t = some m) : t = dec m := by
 unfold rdI at h
 obtain ⟨n, _, h2⟩ := Option.bind_eq_some_iff.1 h
 by_cases hc : unS t = [] ∨ dec (if neg? t = true then -(n : Int) else n) ≠ t
 ·rw [if_pos hc] at h2; cases h2
 ·rw [if_neg hc] at h2
  simp only [not_or, Decidable.not_not] at hc
  rw [Option.some.injEq] at h2
  rw [← h2]
  exact hc.2.symm
theorem c8a (n : Nat) : neg? (decN n) = false := by
 cases h : decN n with
 | nil => rfl
 | cons b r =>
  have := a6g n b (by rw [h]; simp)
  simp only [neg?, List.head?_cons, Option.some.injEq, decide_eq_false_iff_not]
  intro e
  subst e
  exact absurd this.1 (by decide)
theorem d0n {m : Int} (h : -100000 ≤ m ∧ m ≤ 100000) : rdI (dec m) = some m := by
 by_cases hm : m < 0
 ·have e : dec m = 45 :: decN (-m).toNat := by rw [dec, if_pos hm]
  have hn : neg? (dec m) = true := by rw [e]; rfl
  have hu : unS (dec m) = decN (-m).toNat := by rw [unS, if_pos hn, e]; rfl
  rw [rdI, hu, c1f _ (by omega), Option.bind_some, hn]
  simp only [if_true]
  have e2 : -(((-m).toNat : Nat) : Int) = m := by omega
  rw [e2, if_neg (by simp [a7l])]
 ·have e : dec m = decN m.toNat := by rw [dec, if_neg hm]
  have hn : neg? (dec m) = false := by rw [e]; exact c8a _
  have hu : unS (dec m) = decN m.toNat := by rw [unS, hn, if_neg (by decide), e]
  rw [rdI, hu, c1f _ (by omega), Option.bind_some, hn]
  simp only [Bool.false_eq_true, if_false]
  have e2 : ((m.toNat : Nat) : Int) = m := by omega
  rw [e2, if_neg (by simp [a7l])]
theorem c8p {c : UInt8} (hc : c ≠ 45) (hd : ¬(48 ≤ c.toNat ∧ c.toNat ≤ 57)) (n : Int) : c ∉ dec n := by
 rw [dec]
 split
 ·intro h
  rcases List.mem_cons.1 h with e | e
  ·exact hc e
  ·exact hd (a6g _ c e)
 ·exact fun h => hd (a6g _ c h)
def V3 (ns : List Int) : List UInt8 := joinB 44 (ns.map dec)
theorem b6d {ns : List Int} (h : ∀ n ∈ ns, -1000000 ≤ n ∧ n ≤ 1000000) : (V3 ns).length ≤ 9 * ns.length := by
 have key : ∀ ps : List (List UInt8), (∀ p ∈ ps, p.length ≤ 8) → (joinB 44 ps).length ≤ 9 * ps.length := by
  intro ps
  induction ps with
  | nil => intro _; simp [joinB]
  | cons p r ih =>
   intro hp
   have h1 := hp p (by simp)
   have h2 := ih fun q hq => hp q (List.mem_cons_of_mem _ hq)
   cases r with
   | nil => simp only [joinB, List.length_singleton]; omega
   | cons q r => rw [b2t (by simp)]; simp only [List.length_append, List.length_cons] at h2 ⊢; omega
 have := key (ns.map dec) fun p hp => by
  obtain ⟨n, hn, rfl⟩ := List.mem_map.1 hp
  exact X3 (h n hn)
 simpa [V3] using this
def V7 (ns : List Int) : List UInt8 := 91 :: (V3 ns ++ [93])
def a0p : List (List UInt8) → Option (List Int)
 | [] => some []
 | p :: r => (rdI p).bind fun n => (a0p r).map fun ns => n :: ns
def rdL (s : List UInt8) : Option (List Int) := a0p (splitB 44 s)
theorem a7u : ∀ {ps : List (List UInt8)} {ns : List Int}, a0p ps = some ns → ps = ns.map dec
 | [], ns, h => by cases h; rfl
 | p :: r, ns, h => by
  simp only [a0p, Option.bind_eq_some_iff, Option.map_eq_some_iff] at h
  obtain ⟨n, h1, ms, h2, rfl⟩ := h
  rw [List.map_cons, ← c7r h1, ← a7u h2]
theorem c0h : ∀ {ns : List Int}, (∀ n ∈ ns, -100000 ≤ n ∧ n ≤ 100000) → a0p (ns.map dec) = some ns
 | [], _ => rfl
 | n :: ns, h => by rw [List.map_cons, a0p, d0n (h n (by simp)), Option.bind_some, c0h fun x hx => h x (List.mem_cons_of_mem _ hx)]; rfl
theorem a9x (x y : List (List UInt8)) : a0p (x ++ y) = (a0p x).bind fun a => (a0p y).map fun b => a ++ b := by
 induction x with
 | nil => cases h : a0p y <;> simp [a0p, h]
 | cons p x ih =>
  rw [List.cons_append, a0p, a0p, ih]
  cases rdI p with
  | none => rfl
  | some n =>
   cases a0p x with
   | none => rfl
   | some a =>
    cases a0p y with
    | none => rfl
    | some b => rfl
theorem a7y {ps : List (List UInt8)} {ns : List Int} {i : Nat} {n : Int} (hi : i < ps.length) (h : a0p (ps.take i) = some ns) (hn : rdI (ps.getD i default) = some n) : a0p (ps.take (i + 1)) = some (ns ++ [n]) := by
 have e : ps.getD i default = ps[i] := by rw [List.getD_eq_getElem?_getD, List.getElem?_eq_getElem hi]; rfl
 rw [e] at hn
 rw [List.take_succ_eq_append_getElem hi, a9x, h, Option.bind_some, a0p, hn]
 rfl
theorem K6 {ps : List (List UInt8)} {i : Nat} (hi : i < ps.length) (hn : rdI (ps.getD i default) = none) : a0p ps = none := by
 have e : ps.getD i default = ps[i] := by rw [List.getD_eq_getElem?_getD, List.getElem?_eq_getElem hi]; rfl
 rw [e] at hn
 rw [← List.take_append_drop i ps, a9x, List.drop_eq_getElem_cons hi, a0p, hn]
 cases a0p (ps.take i) <;> rfl
theorem a9y : ∀ {ps : List (List UInt8)} {ns : List Int}, a0p ps = some ns → ns.length = ps.length := fun h => by rw [a7u h, List.length_map]
theorem b1o : ∀ {u : List UInt8} {a n : Nat}, a ≤ 100009 → U4 a u = some n → n ≤ 100009
 | [], a, n, ha, h => by cases h; exact ha
 | b :: r, a, n, _, h => by
  rw [U4] at h
  split at h
  ·exact b1o (by omega) h
  ·cases h
theorem a8r {u : List UInt8} {k a : Nat} (hk : k < u.length) (h : U4 0 (u.take k) = some a) (hb : 48 ≤ (u.getD k 0).toNat ∧ (u.getD k 0).toNat ≤ 57 ∧ a ≤ 10000) : U4 0 (u.take (k + 1)) = some (10 * a + ((u.getD k 0).toNat - 48)) := by
 have e : u.getD k 0 = u[k] := by rw [List.getD_eq_getElem?_getD, List.getElem?_eq_getElem hk]; rfl
 rw [e] at hb ⊢
 rw [List.take_succ_eq_append_getElem hk, a4h, h, Option.bind_some, U4, if_pos hb, U4]
theorem R8 {u : List UInt8} {k a : Nat} (hk : k < u.length) (h : U4 0 (u.take k) = some a) (hb : ¬(48 ≤ (u.getD k 0).toNat ∧ (u.getD k 0).toNat ≤ 57 ∧ a ≤ 10000)) : U4 0 u = none := by
 have e : u.getD k 0 = u[k] := by rw [List.getD_eq_getElem?_getD, List.getElem?_eq_getElem hk]; rfl
 rw [e] at hb
 rw [← List.take_append_drop k u, a4h, h, Option.bind_some, List.drop_eq_getElem_cons hk, U4, if_neg hb]
theorem V2 {p : List UInt8} (h : U4 0 (unS p) = none) : rdI p = none := by rw [rdI, h]; rfl
theorem c2f {p : List UInt8} {a : Nat} {m : Int} (h : U4 0 (unS p) = some a) (hm : m = if neg? p = true then -(a : Int) else a) (h1 : unS p ≠ []) (h2 : dec m = p) : rdI p = some m := by
 rw [rdI, h, Option.bind_some, ← hm, if_neg (by simp [h1, h2])]
theorem a8c {p : List UInt8} {a : Nat} {m : Int} (h : U4 0 (unS p) = some a) (hm : m = if neg? p = true then -(a : Int) else a) (h1 : unS p = [] ∨ dec m ≠ p) : rdI p = none := by
 rw [rdI, h, Option.bind_some, ← hm, if_pos h1]
theorem d3q {p : List UInt8} (h : p ≠ []) (h2 : (p.getD 0 0).toNat = 45) : neg? p = true ∧ unS p = (p.drop 1).take (p.length - 1) := by
 have hn : neg? p = true := by
  cases p with
  | nil => exact absurd rfl h
  | cons b r => exact decide_eq_true (congrArg some (UInt8.toNat_inj.1 h2))
 refine ⟨hn, ?_⟩
 rw [unS, if_pos hn]
 cases p with
 | nil => rfl
 | cons b r => simp
theorem d2h {p : List UInt8} (h : p = [] ∨ (p.getD 0 0).toNat ≠ 45) : neg? p = false ∧ unS p = p := by
 have hn : neg? p = false := by
  cases p with
  | nil => rfl
  | cons b r =>
   refine decide_eq_false fun e => ?_
   rcases h with h | h
   ·cases h
   ·cases e; exact h rfl
 exact ⟨hn, by rw [unS, hn, if_neg (by decide)]⟩
theorem a0w {ns : List Int} (h : ns ≠ []) : splitB 44 (V3 ns) = ns.map dec :=
 a9k (by simpa using h) fun p hp => by
  obtain ⟨n, _, rfl⟩ := List.mem_map.1 hp
  exact c8p (by decide) (by decide) n
def numsOf (w : List UInt8) : Option (List Int) :=
 if 2 ≤ w.length ∧ w.getD 0 0 = 91 ∧ w.getD (w.length - 1) 0 = 93 then
  (if w.length = 2 then some [] else (rdL ((w.drop 1).take (w.length - 1 - 1))).bind fun ns => if vd ns = true then some ns else none) else none
theorem c5y (ns : List Int) : (V7 ns).length = (V3 ns).length + 2 := by simp [V7]
theorem c8o {w : List UInt8} (h : 2 ≤ w.length ∧ w.getD 0 0 = 91 ∧ w.getD (w.length - 1) 0 = 93) : w = 91 :: ((w.drop 1).take (w.length - 1 - 1) ++ [93]) := by
 obtain ⟨h1, h2, h3⟩ := h
 match w, h1 with
 | a :: r, h1 =>
  simp only [List.length_cons] at h1
  have e1 : a = 91 := h2
  subst e1
  have hr : r ≠ [] := fun e => by subst e; simp at h1
  simp only [List.length_cons, Nat.add_sub_cancel, List.drop_succ_cons, List.drop_zero]
  congr 1
  have h4 : r.getD (r.length - 1) 0 = 93 := by
   have : (91 :: r).getD (r.length) 0 = 93 := by simpa using h3
   rw [show r.length = (r.length - 1) + 1 by omega, List.getD_cons_succ] at this
   exact this
  have h5 := List.take_succ_eq_append_getElem (l := r) (i := r.length - 1) (by omega)
  rw [show r.length - 1 + 1 = r.length by omega, List.take_length] at h5
  rw [List.getD_eq_getElem?_getD, List.getElem?_eq_getElem (by omega)] at h4
  have h6 : r[r.length - 1] = 93 := h4
  rw [h6] at h5
  exact h5
theorem a4a {w : List UInt8} {ns : List Int} (h : numsOf w = some ns) : w = V7 ns ∧ vd ns = true := by
 unfold numsOf at h
 split at h
 ·rename_i hb
  have hp := c8o hb
  split at h
  ·rename_i h2
   cases h
   refine ⟨?_, by decide⟩
   rw [hp, h2]
   rfl
  ·obtain ⟨ms, h3, h4⟩ := Option.bind_eq_some_iff.1 h
   split at h4
   ·rename_i hv
    cases h4
    refine ⟨?_, hv⟩
    rw [hp, V7, V3, ← a7u h3, b3w]
   ·cases h4
 ·cases h
theorem c7o {ns : List Int} (h : vd ns = true) : ∀ n ∈ ns, -200 ≤ n ∧ n ≤ 200 := by
 intro n hn
 obtain ⟨i, hi, rfl⟩ := List.getElem_of_mem hn
 have := b1w.1 (d2k h) i hi
 rw [List.getD_eq_getElem?_getD, List.getElem?_eq_getElem hi] at this
 exact this
theorem c1k {ns : List Int} (h : vd ns = true) : numsOf (V7 ns) = some ns := by
 unfold numsOf
 have hl := c5y ns
 rw [if_pos ⟨by omega, rfl, by
  rw [hl, V7, show (V3 ns).length + 2 - 1 = (V3 ns).length + 1 by omega, List.getD_cons_succ, List.getD_eq_getElem?_getD, List.getElem?_append_right (Nat.le_refl _)]; simp⟩]
 by_cases hn : ns = []
 ·subst hn
  rfl
 ·have h2 : V3 ns ≠ [] := by
   intro e
   have := a0w hn
   rw [e] at this
   cases ns with
   | nil => exact hn rfl
   | cons n r =>
    simp only [splitB, List.map_cons, List.cons.injEq] at this
    exact c8n n this.1.symm
  have h3 : 0 < (V3 ns).length := List.length_pos_iff.2 h2
  rw [if_neg (by omega), hl]
  have e : ((V7 ns).drop 1).take ((V3 ns).length + 2 - 1 - 1) = V3 ns := by
   rw [V7, List.drop_succ_cons, List.drop_zero, show (V3 ns).length + 2 - 1 - 1 = (V3 ns).length by omega, List.take_left]
  rw [e, rdL, a0w hn, c0h fun n hn => by have := c7o h n hn; omega, Option.bind_some, if_pos h]
end Go.Mv
namespace Go.Mv
theorem S4 (c : UInt8) (l : List UInt8) : (splitB c l).length ≤ l.length + 1 := by
 induction l with
 | nil => simp [splitB]
 | cons b r ih =>
  rw [splitB]
  split
  ·simp; omega
  ·cases h : splitB c r with
   | nil => simp [T7]
   | cons p ps => rw [h] at ih; simp [T7] at ih ⊢; omega
theorem Y4 (c : UInt8) (l : List UInt8) : ∀ p ∈ splitB c l, p.length ≤ l.length := by
 induction l with
 | nil => simp [splitB]
 | cons b r ih =>
  rw [splitB]
  split
  ·intro p hp
   rcases List.mem_cons.1 hp with e | e
   ·subst e; simp
   ·have := ih p e; simp; omega
  ·cases h : splitB c r with
   | nil => simp [T7]
   | cons q ps =>
    rw [h] at ih
    intro p hp
    rcases List.mem_cons.1 hp with e | e
    ·subst e; have := ih q (by simp); simp; omega
    ·have := ih p (by simp [e]); simp; omega
end Go.Mv
namespace Go.Mv
theorem b7v (p : List UInt8) : (unS p).length ≤ p.length := by
 unfold unS
 split
 ·cases p <;> simp
 ·exact Nat.le_refl _
end Go.Mv
namespace Go.Mv
def b9l (w : List UInt8) : List Int :=
 if 2 ≤ w.length ∧ w.getD 0 0 = 91 ∧ w.getD (w.length - 1) 0 = 93 then (if w.length = 2 then [] else (rdL ((w.drop 1).take (w.length - 1 - 1))).getD []) else []
theorem d1y {b c : UInt8} {k : Nat} (h : (b.toNat : Int) = k) (hc : c.toNat = k) : b = c := UInt8.toNat_inj.1 (by omega)
theorem a8a {s : List UInt8} (h : s.length < 2 ∨ (s.getD 0 0).toNat ≠ 91 ∨ (s.getD (s.length - 1) 0).toNat ≠ 93) : numsOf s = none ∧ b9l s = [] := by
 have hn : ¬(2 ≤ s.length ∧ s.getD 0 0 = 91 ∧ s.getD (s.length - 1) 0 = 93) := by
  rintro ⟨h1, h2, h3⟩
  rcases h with h | h | h
  ·omega
  ·exact h (by rw [h2]; rfl)
  ·exact h (by rw [h3]; rfl)
 exact ⟨if_neg hn, if_neg hn⟩
theorem c5n {s : List UInt8} (h1 : 2 ≤ s.length) (h2 : ((s.getD 0 0).toNat : Int) = 91) (h3 : ((s.getD (s.length - 1) 0).toNat : Int) = 93) :
  (s.length = 2 → numsOf s = some [] ∧ b9l s = []) ∧ (s.length ≠ 2 → numsOf s = ((rdL ((s.drop 1).take (s.length - 1 - 1))).bind fun ns => if vd ns = true then some ns else none) ∧ b9l s = (rdL ((s.drop 1).take (s.length - 1 - 1))).getD []) := by
 have hb : 2 ≤ s.length ∧ s.getD 0 0 = 91 ∧ s.getD (s.length - 1) 0 = 93 := ⟨h1, d1y h2 rfl, d1y h3 rfl⟩
 refine ⟨fun e => ?_, fun e => ?_⟩
 ·rw [numsOf, b9l, if_pos hb, if_pos hb, if_pos e, if_pos e]; exact ⟨rfl, rfl⟩
 ·rw [numsOf, b9l, if_pos hb, if_pos hb, if_neg e, if_neg e]; exact ⟨rfl, rfl⟩
theorem d0t {s : List UInt8} {ns : List Int} (h : numsOf s = some ns) : b9l s = ns := by
 unfold numsOf at h
 unfold b9l
 split at h
 ·rename_i hb
  rw [if_pos hb]
  split at h
  ·rename_i h2
   rw [if_pos h2]; cases h; rfl
  ·rename_i h2
   rw [if_neg h2]
   obtain ⟨ms, h3, h4⟩ := Option.bind_eq_some_iff.1 h
   split at h4
   ·cases h4; rw [h3]; rfl
   ·cases h4
 ·cases h
theorem d0u (s : List UInt8) : ((rdL s).getD []).length ≤ s.length + 1 := by
 cases h : rdL s with
 | none => exact Nat.zero_le _
 | some ns => have := a9y h; have h2 := S4 44 s; simp only [Option.getD_some]; omega
theorem b3s {s : List UInt8} {o : Option (List Int)} (h : numsOf s = (o.bind fun ns => if vd ns = true then some ns else none)) : (numsOf s).isSome = (o.isSome && vd (o.getD [])) := by
 rw [h]
 cases o with
 | none => rfl
 | some ns =>
  simp only [Option.bind_some, Option.isSome_some, Bool.true_and, Option.getD_some]
  cases hv : vd ns <;> rfl
inductive Pl where
 | lst (ns : List Int)
 | col (w : List UInt8)
 | un (w : List UInt8) (p : Pl)
 | bin (w : List UInt8) (p q : Pl)
 deriving Inhabited
abbrev lW : List UInt8 := [108, 105, 115, 116]
def Pl.op : Pl → List UInt8
 | .lst _ => lW
 | .col w => w
 | .un w _ => w
 | .bin w _ _ => w
def Pl.ns : Pl → List Int
 | .lst ns => ns
 | _ => []
def Pl.kids : Pl → List Pl
 | .lst _ => []
 | .col _ => []
 | .un _ p => [p]
 | .bin _ p q => [p, q]
def c1i : Pl → List AV
 | .lst _ => []
 | .col _ => []
 | .un _ p => [.agg [tV p.op, .list (p.ns.map iV), .list (c1i p)]]
 | .bin _ p q => [.agg [tV p.op, .list (p.ns.map iV), .list (c1i p)], .agg [tV q.op, .list (q.ns.map iV), .list (c1i q)]]
abbrev trV (t : Pl) : AV := .agg [tV t.op, .list (t.ns.map iV), .list (c1i t)]
abbrev trK (t : Pl) : AV := .agg [tV t.op, .list (t.ns.map iV), .list (t.kids.map trV)]
theorem c9t (t : Pl) : c1i t = t.kids.map trV := by cases t <;> rfl
theorem a4k (t : Pl) : trV t = trK t := by show AV.agg _ = AV.agg _; rw [c9t]
abbrev trZ : AV := .agg [tV [], .list [], .list []]
abbrev W8 := List UInt8
def rdP : Nat → List W8 → Option (Pl × List W8)
 | 0, _ => none
 | _ + 1, [] => none
 | n + 1, w :: ws => match numsOf w with
  | some ns => some (.lst ns, ws)
  | none =>
   if rch (bA w) = 0 then some (.col w, ws)
   else if rch (bA w) = 1 then (rdP n ws).map fun x => (.un w x.1, x.2)
   else if rch (bA w) = 2 then (rdP n ws).bind fun x => (rdP n x.2).map fun y => (.bin w x.1 y.1, y.2)
   else none
def rdT (ws : List W8) : Option (Pl × List W8) := rdP ws.length ws
theorem a1y : ∀ {n : Nat} {ws r : List W8} {t : Pl}, rdP n ws = some (t, r) → r.length < ws.length
 | 0, _, _, _, h => by cases h
 | _ + 1, [], _, _, h => by cases h
 | n + 1, w :: ws, r, t, h => by
  rw [rdP] at h
  split at h
  ·cases h; exact Nat.lt_succ_self _
  ·split at h
   ·cases h; exact Nat.lt_succ_self _
   ·split at h
    ·obtain ⟨⟨p, r1⟩, h1, h2⟩ := Option.map_eq_some_iff.1 h
     cases h2
     have := a1y h1
     simp only [List.length_cons]; omega
    ·split at h
     ·obtain ⟨⟨p, r1⟩, h1, h2⟩ := Option.bind_eq_some_iff.1 h
      obtain ⟨⟨q, r2⟩, h3, h4⟩ := Option.map_eq_some_iff.1 h2
      cases h4
      have a := a1y h1
      have b := a1y h3
      simp only [List.length_cons] at b ⊢; omega
     ·cases h
theorem b3c : ∀ {n m : Nat} {ws : List W8}, ws.length ≤ n → ws.length ≤ m → rdP n ws = rdP m ws
 | 0, 0, _, _, _ => rfl
 | 0, m + 1, [], _, _ => rfl
 | n + 1, 0, [], _, _ => rfl
 | n + 1, m + 1, [], _, _ => rfl
 | 0, _, w :: ws, h, _ => by simp at h
 | n + 1, 0, w :: ws, _, h => by simp at h
 | n + 1, m + 1, w :: ws, h1, h2 => by
  simp only [List.length_cons] at h1 h2
  have e : rdP n ws = rdP m ws := b3c (by omega) (by omega)
  rw [rdP, rdP, e]
  have e2 : ((rdP m ws).bind fun x => (rdP n x.2).map fun y => (Pl.bin w x.1 y.1, y.2)) = (rdP m ws).bind fun x => (rdP m x.2).map fun y => (Pl.bin w x.1 y.1, y.2) := by
   cases h : rdP m ws with
   | none => rfl
   | some x =>
    obtain ⟨p, r⟩ := x
    have := a1y h
    simp only [Option.bind_some]
    rw [b3c (n := n) (m := m) (ws := r) (by omega) (by omega)]
  rw [e2]
theorem b9c {w : W8} {ws : List W8} {ns : List Int} (h : numsOf w = some ns) : rdT (w :: ws) = some (.lst ns, ws) := by
 rw [rdT, List.length_cons, rdP, h]
theorem c5i {w : W8} {ws : List W8} (h : numsOf w = none) (h0 : rch (bA w) = 0) : rdT (w :: ws) = some (.col w, ws) := by
 rw [rdT, List.length_cons, rdP, h]
 exact if_pos h0
theorem c4q {w : W8} {ws : List W8} (h : numsOf w = none) (h0 : rch (bA w) < 0) : rdT (w :: ws) = none := by
 rw [rdT, List.length_cons, rdP, h]
 simp only
 rw [if_neg (by omega), if_neg (by omega), if_neg (by omega)]
theorem b7n {w : W8} {ws : List W8} (h : numsOf w = none) (h0 : rch (bA w) = 1) : rdT (w :: ws) = (rdT ws).map fun x => (.un w x.1, x.2) := by
 rw [rdT, List.length_cons, rdP, h]
 simp only
 rw [if_neg (by omega), if_pos h0]; rfl
theorem a5b {w : W8} {ws : List W8} (h : numsOf w = none) (h0 : rch (bA w) = 2) : rdT (w :: ws) = (rdT ws).bind fun x => (rdT x.2).map fun y => (.bin w x.1 y.1, y.2) := by
 rw [rdT, List.length_cons, rdP, h]
 simp only
 rw [if_neg (by omega), if_neg (by omega), if_pos h0]
 show (rdT ws).bind _ = _
 cases h : rdT ws with
 | none => rfl
 | some x =>
  obtain ⟨p, r⟩ := x
  have := a1y h
  simp only [Option.bind_some]
  rw [b3c (n := ws.length) (m := r.length) (ws := r) (by omega) (by omega)]; rfl
theorem X9 {ws r : List W8} {t : Pl} (h : rdT ws = some (t, r)) : r.length < ws.length := a1y h
def rtR : Option (Pl × List W8) → AV
 | some (t, r) => .tup [trV t, .list (r.map tV), bV true]
 | none => .tup [trZ, .own 1 [], bV false]
theorem b6l {w : ByteArray} (h : 0 ≤ rch w) : rch w = 0 ∨ rch w = 1 ∨ rch w = 2 := by have := c9x w; omega
end Go.Mv
namespace Go.Mv
theorem a7j : ∀ {n : Nat} {ws r : List W8} {t : Pl}, rdP n ws = some (t, r) → ∀ x ∈ r, x ∈ ws
 | 0, _, _, _, h => by cases h
 | _ + 1, [], _, _, h => by cases h
 | n + 1, w :: ws, r, t, h => by
  rw [rdP] at h
  split at h
  ·cases h; exact fun x hx => List.mem_cons_of_mem _ hx
  ·split at h
   ·cases h; exact fun x hx => List.mem_cons_of_mem _ hx
   ·split at h
    ·obtain ⟨⟨p, r1⟩, h1, h2⟩ := Option.map_eq_some_iff.1 h
     cases h2
     exact fun x hx => List.mem_cons_of_mem _ (a7j h1 x hx)
    ·split at h
     ·obtain ⟨⟨p, r1⟩, h1, h2⟩ := Option.bind_eq_some_iff.1 h
      obtain ⟨⟨q, r2⟩, h3, h4⟩ := Option.map_eq_some_iff.1 h2
      cases h4
      exact fun x hx => List.mem_cons_of_mem _ (a7j h1 x (a7j h3 x hx))
     ·cases h
theorem b1f {ws r : List W8} {t : Pl} (h : rdT ws = some (t, r)) : ∀ x ∈ r, x ∈ ws := a7j h
end Go.Mv
namespace Go.Mv
def rpT (s : List UInt8) : Pl := if s.length ≤ 160 ∧ (splitB 32 s).length ≤ 16 then (match rdT (splitB 32 s) with | some (t, _) => t | none => .col []) else .col []
def rdPlan (s : List UInt8) : Option Pl := if s.length ≤ 160 ∧ (splitB 32 s).length ≤ 16 then (rdT (splitB 32 s)).bind fun x => if x.2.length = 0 then some x.1 else none else none
theorem d2m {s : List UInt8} {t : Pl} (h : rdPlan s = some t) : rpT s = t := by
 unfold rdPlan at h
 unfold rpT
 split at h
 ·rename_i hc
  rw [if_pos hc]
  obtain ⟨⟨t1, r⟩, h1, h2⟩ := Option.bind_eq_some_iff.1 h
  split at h2
  ·cases h2; rw [h1]
  ·cases h2
 ·cases h
theorem b3q {s : List UInt8} (h : 160 < s.length ∨ 16 < (splitB 32 s).length) : rdPlan s = none ∧ rpT s = .col [] := by
 have hn : ¬(s.length ≤ 160 ∧ (splitB 32 s).length ≤ 16) := by omega
 exact ⟨if_neg hn, if_neg hn⟩
theorem c5x {s : List UInt8} {ws : List W8} (hw : ws = splitB 32 s) (h : s.length ≤ 160 ∧ ws.length ≤ 16) : (rdT ws = none → rdPlan s = none ∧ rpT s = .col []) ∧ ∀ t r, rdT ws = some (t, r) → (rdPlan s).isSome = decide ((r.length : Int) = 0) ∧ rpT s = t := by
 subst hw
 refine ⟨fun hr => ?_, fun t r hr => ?_⟩
 ·rw [rdPlan, rpT, if_pos h, if_pos h, hr]; exact ⟨rfl, rfl⟩
 ·rw [rdPlan, rpT, if_pos h, if_pos h, hr]
  refine ⟨?_, rfl⟩
  rw [Option.bind_some]
  by_cases c : r.length = 0
  ·rw [if_pos c]; simp [c]
  ·rw [if_neg c, decide_eq_false (by omega)]; rfl
theorem a4o {a b : List Int} {i : Nat} (hi : i < a.length) (h : a.getD i default ≠ b.getD i default) : decide (a = b) = false := decide_eq_false fun e => h (by rw [e])
theorem a3c {a b : List Int} (h : a.length ≠ b.length) : decide (a = b) = false := decide_eq_false fun e => h (by rw [e])
theorem a4g {a b : List Int} (hl : a.length = b.length) (h : ∀ j, j < a.length → a.getD j default = b.getD j default) : decide (a = b) = true := decide_eq_true (X2 (d := default) hl h)
section
variable {cx : Cx} {keep : List Nat} {ops0 : Array Oper} {r : List Oper} {A : Asr} {Q : Asr → List Log → Prop} {d : Nat} {ty : Nat} {pos : String} {aft : Array Edge}
variable {C : Caller} {m f j : Nat} {cs fs : List AV} {G : Type} {vs : G → List AV} {ws : G → Ws} {ls : List Mv.Loc}
theorem a2l {id g n : Nat} (hid : id < 100000) (t : a4t C A 3 f (j + 1) cs.tail fs vs ws ls) : a4t C A 3 f j cs (.sl id g none 0 n :: fs) (fun x => .sl id g none 0 n :: vs x) ws ls := by
 refine A4 ?_
 unfold H0
 simp only [if_true]
 rw [if_neg (by simp; omega)]
 refine A9 (A4 (F3 t ?_))
 rintro _ _ _ ⟨g, rfl, rfl, rfl⟩
 exact A9 ⟨g, rfl, by simp, by simp⟩
theorem c0t {id g s n : Nat} {es : List AV} (ho : look A (.h id) = some (.obj g 0 s es)) (hn : n = es.length) (hi : D6 es = true) {R : List AV → Ws → List Mv.Loc → Prop} (h : R (frzL es) [(.h id, .obj g 2 s (frzL es))] [.h id]) : wpW C A (freeze (.sl id g none 0 n)) R := by
 subst hn
 unfold freeze
 refine A4 (J3 ho (A4 (C2 (by simp [bxB]) ?_)))
 simp only [show ¬ ((0 : Nat) = 2) from by decide, if_false]
 refine A4 (C2 (by simp [hi]) (A4 (H9 (A9 ?_))))
 have e : (frzL es).take es.length = frzL es := by rw [← Q5 es, List.take_length]
 simpa [e] using h
variable {b : Bool} {us : List AV} {w1 : Ws}
theorem H5 (hb : b = true) (t : b5g C A b fs us w1 ls) : b5g C A b (.nil :: fs) (.list [] :: us) w1 ls := by
 subst hb
 refine A4 ?_
 unfold retLf
 rw [if_pos rfl]
 refine A9 (A4 (F3 t ?_))
 rintro _ _ _ ⟨rfl, rfl, rfl⟩
 exact A9 ⟨rfl, by simp, by simp⟩
theorem a2n {α : Type} {φ : α → AV} {xs : List α} {id g s n : Nat} (hb : b = true) (ho : look A (.h id) = some (.obj g 0 s (xs.map φ))) (hn : n = (xs.map φ).length) (hi : ∀ a, I5 (φ a) = true) (t : b5g C (put A (.h id) (.obj g 2 s (xs.map φ))) b fs us w1 ls) :
  b5g C A b (.sl id g none 0 n :: fs) (.list (xs.map φ) :: us) ((.h id, .obj g 2 s (xs.map φ)) :: w1) (.h id :: ls) := by
 subst hb
 refine A4 ?_
 unfold retLf
 rw [if_pos rfl]
 have hr : D6 (xs.map φ) = true := A6 fun a => by
  have := hi a
  cases hfa : φ a <;> rw [hfa] at this <;> simp_all [I5, J5]
 refine A4 (c0t ho hn hr (A9 (A4 ?_)))
 rw [a1x hi]
 refine F3 t ?_
 rintro _ _ _ ⟨rfl, rfl, rfl⟩
 exact A9 ⟨rfl, by simp, by simp⟩
end
section
variable {cx : Cx} {keep : List Nat} {ops0 : Array Oper} {r : List Oper} {A : Asr} {Q : Asr → List Log → Prop} {d : Nat} {ty : Nat} {pos : String} {aft : Array Edge}
theorem b9w {T z : Nat} {a b : Operand} (hT : a1m cx.P T = true) (ha : opd A a = some .ifc) (hb : opd A b = some (.val .nilIface))
  (h : XR cx keep ops0 r ((.t d, bV true) :: A) fun A' lg => Q A' ((rds a ++ rds b, [.t d]) :: lg)) : XR cx keep ops0 (⟨some d, .binOp .neq T a b z, ty, pos, aft, none⟩ :: r) A Q :=
 J2 (fun o ho => by simp only [aopV, ho]) (by simp only [opV, C5, C7 ha, C7 hb, D5, D3, a2k, a0s, List.append_nil, List.nil_append, true_and, and_self, and_true]; exact ⟨hT, by simp [D3]⟩) (by simp [slotOk, refOkV, refsOk]) h
theorem c9o {T z : Nat} {a b : Operand} (hT : a1m cx.P T = true) (hc : a4e b = true) (ha : opd A a = some (.val .nilIface)) (hb : opd A b = some (.val .nilIface))
  (h : XR cx keep ops0 r ((.t d, bV false) :: A) fun A' lg => Q A' ((rds a ++ rds b, [.t d]) :: lg)) : XR cx keep ops0 (⟨some d, .binOp .neq T a b z, ty, pos, aft, none⟩ :: r) A Q :=
 J2 (fun o ho => by simp only [aopV, ho]) (by simp only [opV, C5, C7 ha, C7 hb, D5, D3, a2k, a0s, List.append_nil, List.nil_append, true_and, and_self, and_true, hT, hc, Bool.or_true, Bool.and_self]) (by simp [slotOk, refOkV, refsOk]) h
end
theorem b8h {A : Asr} {C : Caller} {fs us : List AV} {w1 : Ws} {ls : List Mv.Loc} {b : Bool} {id g s n : Nat} (hb : b = true) (ho : look A (.h id) = some (.obj g 0 s [])) (hn : n = 0) (t : b5g C (put A (.h id) (.obj g 2 s [])) b fs us w1 ls) :
  b5g C A b (.sl id g none 0 n :: fs) (.list [] :: us) ((.h id, .obj g 2 s []) :: w1) (.h id :: ls) :=
 a2n (φ := iV) (xs := []) hb ho hn (fun _ => rfl) t
def unT : List AV → Option (List (List UInt8))
 | [] => some []
 | .val (.string s) :: r => (unT r).map (s.data.toList :: ·)
 | _ => none
theorem d0m (ps : List (List UInt8)) : unT (ps.map tV) = some ps := by
 induction ps with
 | nil => rfl
 | cons p ps ih => simp [unT, ih]
def one? (s : ByteArray) : Option UInt8 := match s.data.toList with
 | [b] => some b
 | _ => none
theorem one?_some {s : ByteArray} {b : UInt8} (h : one? s = some b) : s = bA [b] := by
 unfold one? at h
 split at h
 ·rename_i b' hs
  cases h
  have : s = bA s.data.toList := (a5e s).symm
  rw [hs] at this
  exact this
 ·cases h
def b1v : List AV → Option (AV × List (List AV))
 | [.val (.string s), .val (.string c)] => (one? c).bind fun b => if s.size < 4294967281 then some (.own 1 ((splitB b s.data.toList).map tV), []) else none
 | _ => none
def b7b : List AV → Option (AV × List (List AV))
 | [.list es, .val (.string c)] => (one? c).bind fun b => (unT es).bind fun ps => if ps.length ≤ I8 ∧ (joinB b ps).length ≤ I8 then some (tV (joinB b ps), []) else none
 | _ => none
def a3e (b : UInt8) (l : List UInt8) : List UInt8 := if l.head? = some b then l.tail else l
def b4v (b : UInt8) (l : List UInt8) : List UInt8 := if l.getLast? = some b then l.dropLast else l
def b8v : List AV → Option (AV × List (List AV))
 | [.val (.string s), .val (.string c)] => (one? c).bind fun b => some (.tup [tV (a3e b s.data.toList), bV (decide (s.data.toList.head? = some b))], [])
 | _ => none
def b8u : List AV → Option (AV × List (List AV))
 | [.val (.string s), .val (.string c)] => (one? c).bind fun b => if s.size < 4294967281 then some (.tup [tV (b4v b s.data.toList), bV (decide (s.data.toList.getLast? = some b))], []) else none
 | _ => none
def b1m : List AV → Option (AV × List (List AV))
 | [.val (.int .i64 n)] => if -9223372036854775808 ≤ n ∧ n ≤ 9223372036854775807 then some (tV (dec n), []) else none
 | _ => none
def atR (l : List UInt8) : AV := match Lib.atoiAll l with
 | .ok v => .tup [iV v, .val .nilIface]
 | .range => .tup [iV (Lib.atoiSat l), .ifc]
 | _ => .tup [iV 0, .ifc]
def b6u : List AV → Option (AV × List (List AV))
 | [.val (.string s)] => if s.size < 4294967281 then some (atR s.data.toList, []) else none
 | _ => none
theorem b2o {c : UInt8} (hc : 48 ≤ c.toNat ∧ c.toNat ≤ 57) : ∀ (x : List UInt8) (a u : Nat), Lib.parseUint10 a x = .ok u → u ≤ 100000000 → Lib.parseUint10 a (x ++ [c]) = .ok (u * 10 + (c.toNat - 48))
 | [], a, u, h, hu => by
  simp only [Lib.parseUint10] at h
  injection h with h
  subst h
  simp only [List.nil_append, Lib.parseUint10]
  rw [if_pos hc, if_neg (by omega), if_neg (by omega)]
 | b :: r, a, u, h, hu => by
  simp only [Lib.parseUint10] at h
  simp only [List.cons_append, Lib.parseUint10]
  split at h
  ·split at h
   ·cases h
   ·split at h
    ·cases h
    ·rename_i h1 h2 h3
     rw [if_pos h1, if_neg h2, if_neg h3]
     exact b2o hc r _ u h hu
  ·cases h
theorem c6k (n : Nat) : n ≤ 1000000 → Lib.parseUint10 0 (decN n) = .ok n := by
 induction n using Nat.strongRecOn with
 | _ n ih =>
  intro hn
  rw [decN]
  split
  ·simp only [Lib.parseUint10]
   rw [u8n (by omega), if_pos (by omega), if_neg (by omega), if_neg (by omega)]
   congr 1; omega
  ·rw [b2o (by rw [u8n (by omega)]; omega) _ _ _ (ih (n / 10) (by omega) (by omega)) (by omega), u8n (by omega)]
   congr 1; omega
theorem c8i {n : Int} (h : -1000000 ≤ n ∧ n ≤ 1000000) : Lib.atoiAll (dec n) = .ok n := by
 have key : ∀ m : Nat, m ≤ 1000000 → Lib.parseMag (decN m) = .ok m := fun m hm => by rw [Lib.parseMag, if_neg (a7l m), c6k m hm]
 by_cases hn : n < 0
 ·rw [dec, if_pos hn]
  simp only [Lib.atoiAll]
  rw [if_pos (.inr (by decide)), key _ (by omega)]
  simp only
  rw [if_neg (by omega), if_neg (by omega)]
  have : (45 : UInt8).toNat = 45 := rfl
  simp only [this, if_true]
  congr 1; omega
 ·have e : dec n = decN n.toNat := by rw [dec, if_neg hn]
  rw [e]
  have hk := key n.toNat (by omega)
  cases hd : decN n.toNat with
  | nil => exact absurd hd (a7l _)
  | cons b r =>
   have hb := a6g n.toNat b (by rw [hd]; simp)
   rw [hd] at hk
   simp only [Lib.atoiAll]
   rw [if_neg (by omega), hk]
   have h45 : ¬ b.toNat = 45 := by omega
   simp only [h45, not_false_eq_true, true_and, false_and, if_false]
   rw [if_neg (by omega)]
   congr 1; omega
def rdA : List (List UInt8) → Option (List Int)
 | [] => some []
 | p :: r => match Lib.atoiAll p with
  | .ok v => (rdA r).map fun ns => v :: ns
  | _ => none
theorem c4o : ∀ {ns : List Int}, (∀ n ∈ ns, -1000000 ≤ n ∧ n ≤ 1000000) → rdA (ns.map dec) = some ns
 | [], _ => rfl
 | n :: ns, h => by rw [List.map_cons, rdA, c8i (h n (by simp)), c4o fun x hx => h x (List.mem_cons_of_mem _ hx)]; rfl
theorem c8z {ps : List (List UInt8)} {ns : List Int} {i : Nat} {v : Int} (hi : i < ps.length) (h : rdA (ps.take i) = some ns) (hv : Lib.atoiAll (ps.getD i default) = .ok v) : rdA (ps.take (i + 1)) = some (ns ++ [v]) := by
 induction ps generalizing ns i with
 | nil => simp at hi
 | cons p r ih =>
  cases i with
  | zero =>
   simp only [List.take_zero, rdA, Option.some.injEq] at h
   subst h
   have hv' : Lib.atoiAll p = .ok v := hv
   simp [rdA, hv']
  | succ i =>
   simp only [List.take_succ_cons, rdA] at h ⊢
   split at h
   ·rename_i u hu
    obtain ⟨ms, h1, rfl⟩ := Option.map_eq_some_iff.1 h
    rw [ih (by simpa using hi) h1 (by simpa using hv)]; rfl
   ·cases h
theorem b9n {ps : List (List UInt8)} {i : Nat} (hi : i < ps.length) (hv : ∀ v, Lib.atoiAll (ps.getD i default) ≠ .ok v) : rdA ps = none := by
 induction ps generalizing i with
 | nil => simp at hi
 | cons p r ih =>
  cases i with
  | zero =>
   have hv' : ∀ v, Lib.atoiAll p ≠ .ok v := hv
   rw [rdA]
   split
   ·rename_i u hu; exact absurd hu (hv' u)
   ·rfl
  | succ i =>
   rw [rdA]
   split
   ·rw [ih (by simpa using hi) (by simpa using hv)]; rfl
   ·rfl
def a4n (w : List UInt8) : List UInt8 := b4v 93 (a3e 91 w)
def okB (w : List UInt8) : Bool := decide (w.head? = some 91) && decide ((a3e 91 w).getLast? = some 93)
def a1q (w : List UInt8) : Option (List Int) := if okB w = true then (if a4n w = [] then some [] else rdA (splitB 44 (a4n w))) else none
def okI (w : List UInt8) : Bool := match a1q w with
 | some ns => vd ns && decide (V7 ns = w)
 | none => false
theorem c0i {w : List UInt8} {ns : List Int} (h : numsOf w = some ns) : a1q w = some ns := by
 obtain ⟨rfl, hv⟩ := a4a h
 have h1 : a3e 91 (V7 ns) = V3 ns ++ [93] := by rw [a3e, if_pos (show (V7 ns).head? = some 91 from rfl)]; rfl
 have h2 : (a3e 91 (V7 ns)).getLast? = some 93 := by rw [h1]; simp
 have h3 : a4n (V7 ns) = V3 ns := by rw [a4n, b4v, if_pos h2, h1]; simp
 have hok : okB (V7 ns) = true := by rw [okB, h2]; rfl
 rw [a1q, if_pos hok, h3]
 by_cases hn : ns = []
 ·subst hn; rfl
 ·have h4 : V3 ns ≠ [] := by
   intro e
   have := a0w hn
   rw [e] at this
   cases ns with
   | nil => exact hn rfl
   | cons n r =>
    simp only [splitB, List.map_cons, List.cons.injEq] at this
    exact c8n n this.1.symm
  rw [if_neg h4, a0w hn]
  exact c4o fun n hn => by have := c7o hv n hn; omega
theorem d2o (w : List UInt8) : okI w = (numsOf w).isSome := by
 cases h : numsOf w with
 | some ns =>
  obtain ⟨e, hv⟩ := a4a h
  rw [okI, c0i h]
  simp [hv, ← e]
 | none =>
  rw [okI]
  cases hi : a1q w with
  | none => rfl
  | some ns =>
   simp only
   cases hv : vd ns with
   | false => rfl
   | true =>
    rw [Bool.true_and]
    refine decide_eq_false fun e => ?_
    have := c1k hv
    rw [e, h] at this
    cases this
theorem c7w (w : List UInt8) : (∃ ns, numsOf w = some ns) ∨ (numsOf w = none ∧ rch (bA w) = 0) ∨ (numsOf w = none ∧ rch (bA w) = 1) ∨ (numsOf w = none ∧ rch (bA w) = 2) ∨ (numsOf w = none ∧ rch (bA w) < 0) := by
 cases h : numsOf w with
 | some ns => exact .inl ⟨ns, rfl⟩
 | none =>
  have := c9x (bA w)
  rcases Int.lt_or_le (rch (bA w)) 0 with c | c
  ·exact .inr (.inr (.inr (.inr ⟨rfl, c⟩)))
  ·rcases b6l c with c | c | c
   ·exact .inr (.inl ⟨rfl, c⟩)
   ·exact .inr (.inr (.inl ⟨rfl, c⟩))
   ·exact .inr (.inr (.inr (.inl ⟨rfl, c⟩)))
theorem d1d (w : List UInt8) : (decide (w ≠ lW) && decide (0 ≤ nd (bA w))) = decide (0 ≤ rch (bA w)) := by
 by_cases h : w = lW
 ·subst h
  rw [b9i (show (bA lW).toList = wList.toList from rfl)]
  rfl
 ·rw [decide_eq_true h, Bool.true_and, c8y _ (by rw [a1t, a5i]; exact h)]
theorem a8o {w : List UInt8} (h : 0 ≤ rch (bA w)) : nd (bA w) = rch (bA w) := by
 refine c8y _ fun e => ?_
 rw [b9i e] at h
 omega
end Go.Mv
namespace Go.Mv
theorem b5d {ns : List Int} {i : Nat} (h : i < ns.length) : (ns.take (i + 1)).map dec = (ns.take i).map dec ++ [dec (ns.getD i default)] := by
 rw [List.take_succ_eq_append_getElem h, List.map_append, List.map_singleton, List.getD_eq_getElem?_getD, List.getElem?_eq_getElem h]; rfl
theorem c9b (b : UInt8) (l : List UInt8) : (a3e b l).length ≤ l.length := by
 unfold a3e
 split
 ·cases l <;> simp
 ·exact Nat.le_refl _
theorem c7s (b : UInt8) (l : List UInt8) : (b4v b l).length ≤ l.length := by
 unfold b4v
 split
 ·simp
 ·exact Nat.le_refl _
theorem b2d : ∀ {ps : List (List UInt8)} {ns : List Int}, rdA ps = some ns → ns.length = ps.length
 | [], ns, h => by cases h; rfl
 | p :: r, ns, h => by
  rw [rdA] at h
  split at h
  ·obtain ⟨ms, h1, rfl⟩ := Option.map_eq_some_iff.1 h
   simp [b2d h1]
  ·cases h
def rlX (w : List UInt8) : List Int := (a1q w).getD []
theorem d2n {w : List UInt8} {ns : List Int} (h : numsOf w = some ns) : rlX w = ns := by rw [rlX, c0i h]; rfl
theorem b8b {w : List UInt8} (h : a1q w = none) : okI w = false ∧ rlX w = [] := by rw [okI, rlX, h]; exact ⟨rfl, rfl⟩
theorem a6e {w : List UInt8} {ns : List Int} (h : a1q w = some ns) : okI w = (vd ns && decide (V7 ns = w)) ∧ rlX w = ns := by rw [okI, rlX, h]; exact ⟨rfl, rfl⟩
theorem b9o {w : List UInt8} (h : okB w = false) : a1q w = none := by rw [a1q, h]; rfl
theorem c4z {w : List UInt8} (h : okB w = true) (h2 : a4n w = []) : a1q w = some [] := by rw [a1q, if_pos h, if_pos h2]
theorem b1l {w : List UInt8} (h : okB w = true) (h2 : a4n w ≠ []) : a1q w = rdA (splitB 44 (a4n w)) := by rw [a1q, if_pos h, if_neg h2]
theorem d3x {ns : List Int} (h : vd ns = true) : ∀ n ∈ ns, -1000000 ≤ n ∧ n ≤ 1000000 := fun n hn => by have := c7o h n hn; omega
theorem c8m {w : List UInt8} (h : okB w = true) : (a4n w).length + 2 ≤ w.length := by
 simp only [okB, Bool.and_eq_true, decide_eq_true_eq] at h
 obtain ⟨h1, h2⟩ := h
 have e1 : (a3e 91 w).length + 1 = w.length := by
  rw [a3e, if_pos h1]
  cases w with
  | nil => cases h1
  | cons b r => rfl
 have e2 : (a4n w).length + 1 = (a3e 91 w).length := by
  rw [a4n, b4v, if_pos h2]
  cases hc : a3e 91 w with
  | nil => rw [hc] at h2; cases h2
  | cons b r => simp
 omega
end Go.Mv
namespace Go.Mv
def ipT (s : List UInt8) : Pl := match rdT (splitB 32 s) with
 | some (t, _) => t
 | none => .col []
def c3d (s : List UInt8) : Bool := match rdT (splitB 32 s) with
 | some (_, r) => decide ((r.length : Int) = 0) && decide (((splitB 32 s).length : Int) ≤ 16)
 | none => false
theorem d1i {s : List UInt8} {ws : List W8} (hw : ws = splitB 32 s) (h : rdT ws = none) : ipT s = .col [] ∧ c3d s = false := by
 subst hw; rw [ipT, c3d, h]; exact ⟨rfl, rfl⟩
theorem c4v {s : List UInt8} {ws : List W8} {t : Pl} {r : List W8} (hw : ws = splitB 32 s) (h : rdT ws = some (t, r)) : ipT s = t ∧ c3d s = (decide ((r.length : Int) = 0) && decide ((ws.length : Int) ≤ 16)) := by
 subst hw; rw [ipT, c3d, h]; exact ⟨rfl, rfl⟩
theorem d3z (s : List UInt8) : (c3d s && decide ((s.length : Int) ≤ 160)) = (rdPlan s).isSome := by
 rw [c3d, rdPlan]
 by_cases h : s.length ≤ 160 ∧ (splitB 32 s).length ≤ 16
 ·rw [if_pos h, decide_eq_true (show (s.length : Int) ≤ 160 by omega), Bool.and_true]
  cases hr : rdT (splitB 32 s) with
  | none => rfl
  | some x =>
   obtain ⟨t, r⟩ := x
   simp only [Option.bind_some]
   rw [decide_eq_true (show ((splitB 32 s).length : Int) ≤ 16 by omega), Bool.and_true]
   by_cases c : r.length = 0
   ·rw [if_pos c]; simp [c]
   ·rw [if_neg c, decide_eq_false (by omega)]; rfl
 ·rw [if_neg h]
  rcases Nat.lt_or_ge 160 s.length with c | c
  ·rw [decide_eq_false (show ¬ (s.length : Int) ≤ 160 by omega), Bool.and_false]; rfl
  ·have h16 : ¬ ((splitB 32 s).length : Int) ≤ 16 := by omega
   split
   ·rw [decide_eq_false h16, Bool.and_false]; rfl
   ·rfl
theorem d2z {s : List UInt8} {t : Pl} (h : rdPlan s = some t) : ipT s = t := by
 unfold rdPlan at h
 split at h
 ·obtain ⟨⟨t1, r⟩, h1, h2⟩ := Option.bind_eq_some_iff.1 h
  split at h2
  ·cases h2; rw [ipT, h1]
  ·cases h2
 ·cases h
def Pl.sz : Pl → Nat
 | .lst _ => 1
 | .col _ => 1
 | .un _ p => p.sz + 1
 | .bin _ p q => p.sz + q.sz + 1
theorem b8w : ∀ {n : Nat} {ws r : List W8} {t : Pl}, rdP n ws = some (t, r) → t.sz + r.length ≤ ws.length
 | 0, _, _, _, h => by cases h
 | _ + 1, [], _, _, h => by cases h
 | n + 1, w :: ws, r, t, h => by
  rw [rdP] at h
  split at h
  ·cases h; simp only [Pl.sz, List.length_cons]; omega
  ·split at h
   ·cases h; simp only [Pl.sz, List.length_cons]; omega
   ·split at h
    ·obtain ⟨⟨p, r1⟩, h1, h2⟩ := Option.map_eq_some_iff.1 h
     cases h2
     have := b8w h1
     simp only [Pl.sz, List.length_cons]; omega
    ·split at h
     ·obtain ⟨⟨p, r1⟩, h1, h2⟩ := Option.bind_eq_some_iff.1 h
      obtain ⟨⟨q, r2⟩, h3, h4⟩ := Option.map_eq_some_iff.1 h2
      cases h4
      have a := b8w h1
      have b := b8w h3
      simp only [Pl.sz, List.length_cons] at b ⊢; omega
     ·cases h
theorem a7r {s : List UInt8} {t : Pl} (h : rdPlan s = some t) : t.sz ≤ 16 := by
 unfold rdPlan at h
 split at h
 ·rename_i hc
  obtain ⟨⟨t1, r⟩, h1, h2⟩ := Option.bind_eq_some_iff.1 h
  have := b8w h1
  split at h2
  ·cases h2; simp only; omega
  ·cases h2
 ·cases h
theorem b2v {s : List UInt8} (h : (rdPlan s).isSome = true) : ∃ t, rdPlan s = some t ∧ rpT s = t ∧ t.sz ≤ 16 := by
 obtain ⟨t, ht⟩ := Option.isSome_iff_exists.1 h
 exact ⟨t, ht, d2m ht, a7r ht⟩
def Pl.good : Pl → Prop
 | .lst ns => vd ns = true
 | .col w => w ≠ lW ∧ w.length ≤ 1048576
 | .un w p => w ≠ lW ∧ w.length ≤ 1048576 ∧ p.good
 | .bin w p q => w ≠ lW ∧ w.length ≤ 1048576 ∧ p.good ∧ q.good
def b3k : Pl → List W8
 | .lst ns => [V7 ns]
 | .col w => [w]
 | .un w p => b3k p ++ [w]
 | .bin w p q => (b3k p ++ b3k q) ++ [w]
theorem a4v : ∀ t : Pl, (b3k t).length = t.sz
 | .lst ns => rfl
 | .col w => rfl
 | .un w p => by simp [b3k, Pl.sz, a4v p]
 | .bin w p q => by simp [b3k, Pl.sz, a4v p, a4v q]; omega
theorem b3i {w : W8} {ws : List W8} (hb : ∀ x ∈ w :: ws, x.length ≤ 1048576) (h : 0 ≤ rch (bA w)) : w ≠ lW ∧ w.length ≤ 1048576 :=
 ⟨fun e => absurd h (by subst e; decide +kernel), hb w (List.mem_cons_self ..)⟩
theorem c5m {w : W8} {ns : List Int} (h : numsOf w = some ns) : vd ns = true := by
 unfold numsOf at h
 split at h
 ·split at h
  ·cases h; rfl
  ·obtain ⟨ms, h1, h2⟩ := Option.bind_eq_some_iff.1 h
   split at h2
   ·cases h2; assumption
   ·cases h2
 ·cases h
theorem a7a : ∀ {n : Nat} {ws r : List W8} {t : Pl}, (∀ x ∈ ws, x.length ≤ 1048576) → rdP n ws = some (t, r) → t.good
 | 0, _, _, _, _, h => by cases h
 | _ + 1, [], _, _, _, h => by cases h
 | n + 1, w :: ws, r, t, hb, h => by
  have hb1 : ∀ x ∈ ws, x.length ≤ 1048576 := fun x hx => hb x (List.mem_cons_of_mem _ hx)
  rw [rdP] at h
  split at h
  ·cases h; exact c5m (by assumption)
  ·split at h
   ·cases h; exact b3i hb (by omega)
   ·split at h
    ·obtain ⟨⟨p, r1⟩, h1, h2⟩ := Option.map_eq_some_iff.1 h
     cases h2
     have hg := b3i hb (by omega)
     exact ⟨hg.1, hg.2, a7a hb1 h1⟩
    ·split at h
     ·obtain ⟨⟨p, r1⟩, h1, h2⟩ := Option.bind_eq_some_iff.1 h
      obtain ⟨⟨q, r2⟩, h3, h4⟩ := Option.map_eq_some_iff.1 h2
      cases h4
      have hg := b3i hb (by omega)
      exact ⟨hg.1, hg.2, a7a hb1 h1, a7a (fun x hx => hb1 x (a7j h1 x hx)) h3⟩
     ·cases h
theorem c1o {s : List UInt8} (hs : s.length ≤ 1048576) {t : Pl} (h : rdPlan s = some t) : t.good := by
 unfold rdPlan at h
 split at h
 ·obtain ⟨⟨t1, r⟩, h1, h2⟩ := Option.bind_eq_some_iff.1 h
  split at h2
  ·cases h2; exact a7a (fun x hx => by have := Y4 32 s x hx; omega) h1
  ·cases h2
 ·cases h
def d2i (s : List UInt8) : List W8 := match rdPlan s with
 | some t => b3k t
 | none => []
def mT (k : Int) : W8 := 109 :: (if k ≤ 0 then [48] else decN k.toNat)
def mkT (k : Int) (n : Nat) : List W8 := (List.range n).map fun (j : Nat) => mT (k + j)
@[simp] theorem mkT_length (k : Int) (n : Nat) : (mkT k n).length = n := by simp [mkT]
def mkS (k : Int) (q : Int) (s : W8) : Prop := decN k.toNat = (if q ≤ 0 then [] else decN q.toNat) ++ s
theorem d1n {k q : Int} {s : W8} (h : mkS k q s) (hk : 0 < k) (hq : q ≤ 0) : (109 : UInt8) :: s = mT k := by
 rw [mkS, if_pos hq, List.nil_append] at h
 rw [mT, if_neg (by omega), h]
theorem d0a {k q : Int} {s : W8} (h : mkS k q s) (hq : 0 < q) : mkS k (q.tdiv 10) ([UInt8.ofNat (48 + q.tmod 10).toNat] ++ s) := by
 have hm : q.tmod 10 = q % 10 := Int.tmod_eq_emod_of_nonneg (by omega)
 have hd : q.tdiv 10 = q / 10 := Int.tdiv_eq_ediv_of_nonneg (by omega)
 rw [mkS, if_neg (by omega)] at h
 rw [mkS, hd, h, hm]
 obtain ⟨n, rfl⟩ : ∃ n : Nat, q = n := ⟨q.toNat, by omega⟩
 have e1 : ((n : Int) / 10).toNat = n / 10 := by omega
 have e2 : (48 + (n : Int) % 10).toNat = 48 + n % 10 := by omega
 rw [e1, e2, Int.toNat_natCast]
 by_cases hn : n < 10
 ·rw [if_pos (by omega), b1n hn, Nat.mod_eq_of_lt hn]; rfl
 ·rw [if_neg (by omega), c4l hn, b1n (Nat.mod_lt _ (by decide))]; simp
def a8e : Pl → List W8
 | .lst ns => [V7 ns]
 | .col w => [w]
 | .un w p => w :: a8e p
 | .bin w p q => w :: (a8e p ++ a8e q)
def Pl.wf : Pl → Prop
 | .lst _ => True
 | .col w => rch (bA w) = 0
 | .un w p => rch (bA w) = 1 ∧ p.wf
 | .bin w p q => rch (bA w) = 2 ∧ p.wf ∧ q.wf
theorem a5d : ∀ {n : Nat} {ws r : List W8} {t : Pl}, rdP n ws = some (t, r) → ws = a8e t ++ r ∧ t.wf
 | 0, _, _, _, h => by cases h
 | _ + 1, [], _, _, h => by cases h
 | n + 1, w :: ws, r, t, h => by
  rw [rdP] at h
  split at h
  ·cases h
   rename_i ns hn
   exact ⟨by rw [(a4a hn).1]; rfl, trivial⟩
  ·split at h
   ·cases h; exact ⟨rfl, by assumption⟩
   ·split at h
    ·obtain ⟨⟨p, r1⟩, h1, h2⟩ := Option.map_eq_some_iff.1 h
     cases h2
     obtain ⟨e1, e2⟩ := a5d h1
     exact ⟨by rw [e1]; rfl, by assumption, e2⟩
    ·split at h
     ·obtain ⟨⟨p, r1⟩, h1, h2⟩ := Option.bind_eq_some_iff.1 h
      obtain ⟨⟨q, r2⟩, h3, h4⟩ := Option.map_eq_some_iff.1 h2
      cases h4
      obtain ⟨e1, e2⟩ := a5d h1
      obtain ⟨e3, e4⟩ := a5d h3
      simp only at e3
      exact ⟨by rw [e1, e3]; simp [a8e], by assumption, e2, e4⟩
     ·cases h
def d2b (t : Pl) : W8 := joinB 32 (a8e t)
theorem d1f {t : Pl} (h : t.good) : t.op.length ≤ 1048576 := by
 cases t with
 | lst ns => show 4 ≤ 1048576; decide
 | col w => exact h.2
 | un w p => exact h.2.1
 | bin w p q => exact h.2.1
abbrev Pl.k0 (t : Pl) : Pl := t.kids.getD 0 default
section
variable {cx : Cx} {keep : List Nat} {ops0 : Array Oper} {r : List Oper} {A : Asr} {Q : Asr → List Log → Prop} {d : Nat} {ty : Nat} {pos : String} {aft : Array Edge}
variable {C : Caller} {m f j : Nat} {cs fs : List AV} {G : Type} {vs : G → List AV} {ws : G → Ws} {ls : List Mv.Loc}
theorem b6o {α : Type} {φ : α → AV} {xs : List α} (hi : ∀ a, I5 (φ a) = true) : D6 (xs.map φ) = true := A6 fun a => by
 have := hi a
 cases hfa : φ a <;> rw [hfa] at this <;> simp_all [I5, J5]
theorem d3d {α : Type} {φ : α → AV} {xs : List α} {id g s n : Nat} (ho : look A (.h id) = some (.obj g 0 s (xs.map φ))) (hn : n = (xs.map φ).length) (hi : ∀ a, I5 (φ a) = true)
  (t : a4t C (put A (.h id) (.obj g 2 s (xs.map φ))) 2 f (j + 1) cs.tail fs vs ws ls) :
  a4t C A 2 f j cs (.sl id g none 0 n :: fs) (fun y => .list (xs.map φ) :: vs y) (fun y => (.h id, .obj g 2 s (xs.map φ)) :: ws y) (.h id :: ls) := by
 refine A4 ?_
 unfold H0
 simp only [show ¬ ((2 : Nat) = 3) from by decide, if_false]
 rw [if_neg (by simp)]
 refine A4 (c0t ho hn (b6o hi) (A9 (A4 ?_)))
 rw [a1x hi]
 refine F3 t ?_
 rintro _ _ _ ⟨g, rfl, rfl, rfl⟩
 exact A9 ⟨g, rfl, by simp, by simp⟩
theorem Y9 {v : AV} (h : O7 .undef v = true) (t : a4t C A 2 f (j + 1) cs.tail fs vs ws ls) : a4t C A 2 f j cs (v :: fs) (fun y => v :: vs y) ws ls := by
 refine A4 ?_
 have e : wpW C A (H0 2 (cs.headD .undef) (fid f j) v) fun a w l => a = v ∧ w = [] ∧ l = [] := by
  unfold H0
  cases v with
  | val v => exact A4 (C2 h (A9 ⟨rfl, rfl, rfl⟩))
  | clo k caps =>
   refine A4 (C2 h (A9 ?_))
   exact ⟨rfl, rfl, rfl⟩
  | list es => exact A9 ⟨rfl, rfl, rfl⟩
  | _ => simp [O7, I0] at h
 refine F3 e ?_
 rintro _ _ _ ⟨rfl, rfl, rfl⟩
 refine A4 (F3 t ?_)
 rintro _ _ _ ⟨g, rfl, rfl, rfl⟩
 exact A9 ⟨g, rfl, by simp, by simp⟩
theorem b8x (t : a4t C A 2 f (j + 1) cs.tail fs vs ws ls) : a4t C A 2 f j cs (.nil :: fs) (fun y => .list [] :: vs y) ws ls := by
 refine A4 ?_
 have e : wpW C A (H0 2 (cs.headD .undef) (fid f j) .nil) fun a w l => a = .list [] ∧ w = [] ∧ l = [] := by
  unfold H0
  cases cs.headD .undef <;> exact A9 ⟨rfl, rfl, rfl⟩
 refine F3 e ?_
 rintro _ _ _ ⟨rfl, rfl, rfl⟩
 refine A4 (F3 t ?_)
 rintro _ _ _ ⟨g, rfl, rfl, rfl⟩
 exact A9 ⟨g, rfl, by simp, by simp⟩
theorem J7 {T E s mk : Nat} {x : Operand} {z : AV} (hx : opd A x = some (.agg fs)) (hT : S3 cx.P T = some (E, s)) (hz : Z1 cx.P E = some (z, s)) (hs : s ≤ 16777216 ∧ 0 < s) (hfl : fs.length = s) (hmk : (if cx.fzB T d = true then 2 else 0) = mk)
  (hl : a4t (CW cx) A mk 0 0 (List.replicate s .nil) fs vs ws ls)
  (hk : ∀ y g', tRefsOk keep (keptWs keep (ws y ++ [(.h (tid d 0), .obj g' 0 s [.agg (vs y)]), (.t d, .sl (tid d 0) g' none 0 1)])) = true)
  (h : ∀ y g', XR cx keep ops0 r (I1 A (ws y ++ [(.h (tid d 0), .obj g' 0 s [.agg (vs y)]), (.t d, .sl (tid d 0) g' none 0 1)])) fun A' lg => Q A' ((rds x ++ (ls ++ [.h (tid d 0)]), M5 (ws y ++ [(.h (tid d 0), .obj g' 0 s [.agg (vs y)]), (.t d, .sl (tid d 0) g' none 0 1)])) :: lg)) :
  XR cx keep ops0 (⟨some d, .buildSlice T 1 #[(0, x)], ty, pos, aft, none⟩ :: r) A Q := by
 obtain ⟨h1, h2, h3, h4⟩ := U7 hz
 have e : ∀ (p : G × Nat), (ws p.1 ++ [(Mv.Loc.h (tid d 0), AV.obj p.2 0 s [.agg (vs p.1)])]) ++ [(Mv.Loc.t d, AV.sl (tid d 0) p.2 none 0 1)] = ws p.1 ++ [(.h (tid d 0), .obj p.2 0 s [.agg (vs p.1)]), (.t d, .sl (tid d 0) p.2 none 0 1)] := fun p => by simp
 refine c5f (v := fun p : G × Nat => .sl (tid d 0) p.2 none 0 1) (ws := fun p => ws p.1 ++ [(.h (tid d 0), .obj p.2 0 s [.agg (vs p.1)])]) (ls := rds x ++ (ls ++ [.h (tid d 0)])) rfl ?_ (fun p => ?_) (fun p => ?_) (fun p => ?_)
  (A1 := fun p => I1 A (ws p.1 ++ [(.h (tid d 0), .obj p.2 0 s [.agg (vs p.1)]), (.t d, .sl (tid d 0) p.2 none 0 1)]))
 ·simp only [aopV, dstOf]
  refine A4 (G8 (show wpA (CW cx) A (.ret d) _ from ?_))
  show wpW (CW cx) (puts A []) _ _
  refine A4 (V1 hT (A4 (C2 ⟨by rw [h2]; omega, h3, h4, by rw [h2]; exact hs.2⟩ ?_)))
  simp only [h1, h2, hmk]
  refine A4 ?_
  simp only [X4]
  refine A4 (I7 hx (A4 (C2 (by simp [leaves, hfl]) ?_)))
  refine A4 ?_
  simp only [absorb]
  refine A4 (F3 hl ?_)
  rintro _ _ _ ⟨y, rfl, rfl, rfl⟩
  refine A9 (A9 ?_)
  refine A4 (L4 fun o => A4 (H9 (A9 ?_)))
  exact ⟨(y, F9 o + 1), rfl, by simp, by simp⟩
 ·rw [show setD (⟨some d, .buildSlice T 1 #[(0, x)], ty, pos, aft, none⟩ : Oper) (AV.sl (tid d 0) p.2 none 0 1) = [(.t d, .sl (tid d 0) p.2 none 0 1)] from rfl, e]; exact hk p.1 p.2
 ·rw [show setD (⟨some d, .buildSlice T 1 #[(0, x)], ty, pos, aft, none⟩ : Oper) (AV.sl (tid d 0) p.2 none 0 1) = [(.t d, .sl (tid d 0) p.2 none 0 1)] from rfl, e]; exact a6f A _
 ·rw [show setD (⟨some d, .buildSlice T 1 #[(0, x)], ty, pos, aft, none⟩ : Oper) (AV.sl (tid d 0) p.2 none 0 1) = [(.t d, .sl (tid d 0) p.2 none 0 1)] from rfl, e]; exact h p.1 p.2
theorem N1 {T E id g i j id2 g2 i2 j2 : Nat} {x y : Operand} {z : AV} (hx : opd A x = some (.ptr id g none i j)) (hy : opd A y = some (.ptr id2 g2 none i2 j2))
  (hT : S3 cx.P T = some (E, 1)) (hz : Z1 cx.P E = some (z, 1))
  (hko : ∀ g', slotOk keep (.h (tid d 0)) (.obj g' 0 1 [.ptr id g none i j, .ptr id2 g2 none i2 j2]) = true) (hk : ∀ g', slotOk keep (.t d) (.sl (tid d 0) g' none 0 2) = true)
  (h : ∀ g', XR cx keep ops0 r ((.t d, .sl (tid d 0) g' none 0 2) :: (.h (tid d 0), .obj g' 0 1 [.ptr id g none i j, .ptr id2 g2 none i2 j2]) :: A) fun A' lg => Q A' ((rds x ++ (rds y ++ [.h (tid d 0)]), [.h (tid d 0), .t d]) :: lg))
  (hfz : cx.fzB T d = false := by rfl) :
  XR cx keep ops0 (⟨some d, .buildSlice T 2 #[(0, x), (1, y)], ty, pos, aft, none⟩ :: r) A Q := by
 obtain ⟨h1, h2, h3, h4⟩ := U7 hz
 refine a4f (v := fun g' => .sl (tid d 0) g' none 0 2) (ws := fun g' => [(.h (tid d 0), .obj g' 0 1 [.ptr id g none i j, .ptr id2 g2 none i2 j2])]) (ls := rds x ++ (rds y ++ [.h (tid d 0)])) rfl ?_
  (fun g => A7 (hko g) (G1 (hk g))) (fun g => rfl) (fun g => a5c _ _ _ _ _) h
 simp only [aopV, dstOf]
 refine A4 (G8 (show wpA (CW cx) A (.ret d) _ from ?_))
 show wpW (CW cx) (puts A []) _ _
 refine A4 (V1 hT (A4 (C2 ⟨by rw [h2]; decide, h3, h4, by rw [h2]; decide⟩ ?_)))
 simp only [h1, h2, hfz, Bool.false_eq_true, if_false]
 refine A4 ?_
 simp only [X4]
 refine A4 (I7 hx (A4 (C2 (by simp [leaves]) (A4 ?_))))
 simp only [absorb, List.replicate, List.headD]
 unfold H0
 refine A4 (C2 rfl (A9 ?_))
 refine A4 (I7 hy (A4 (C2 (by simp [leaves]) (A4 ?_))))
 refine A4 (C2 rfl (A9 (A9 ?_)))
 refine A4 (L4 fun o => A4 (H9 (A9 ?_)))
 exact ⟨F9 o + 1, rfl, by simp, by simp⟩
def a0i (C : Caller) (A : Asr) (fs fs' : List AV) (lf : List Mv.Loc) : Prop := wpA C A (passLeaves fs) fun a l => a = fs' ∧ l = lf
variable {fs' : List AV} {lf : List Mv.Loc}
theorem a3m : a0i C A [] [] [] := ⟨rfl, rfl⟩
theorem L8 {v : Value} (t : a0i C A fs fs' lf) : a0i C A (.val v :: fs) (.val v :: fs') lf := by
 unfold a0i at t ⊢
 simp only [passLeaves, passLeaf, C5, D3]
 refine P3 ?_ t
 rintro x l ⟨rfl, rfl⟩
 exact ⟨rfl, by simp⟩
theorem d3w {id g m s n : Nat} {es : List AV} (ho : look A (.h id) = some (.obj g m s es)) (hb : bxB m none = false) (hn : n = es.length) (hr : D6 es = true) (t : a0i C A fs fs' lf) : a0i C A (.sl id g none 0 n :: fs) (.list (frzL es) :: fs') (.h id :: lf) := by
 subst hn
 unfold a0i at t ⊢
 simp only [passLeaves, passLeaf, slc, C5, rdNode, L2 ho, D5, D3, true_and, hb, Nat.zero_add, Nat.le_refl, and_self, List.drop_zero, List.take_length, hr, List.append_nil, List.nil_append]
 refine P3 ?_ t
 rintro x l ⟨rfl, rfl⟩
 exact ⟨rfl, by simp⟩
theorem a3o {α : Type} {φ : α → AV} {xs : List α} {id g m s n : Nat} (ho : look A (.h id) = some (.obj g m s (xs.map φ))) (hb : bxB m none = false) (hn : n = (xs.map φ).length) (hi : ∀ a, I5 (φ a) = true) (t : a0i C A fs fs' lf) : a0i C A (.sl id g none 0 n :: fs) (.list (xs.map φ) :: fs') (.h id :: lf) := by
 have := d3w ho hb hn (b6o hi) t
 rwa [a1x hi] at this
theorem a0v {id g m s j : Nat} {vs as : List AV} {ids : List (Nat × Bool)} (ho : look A (.h id) = some (.obj g m s [.agg fs])) (hf : a0i C A fs fs' lf) (h : P2 C A vs as ids ls) :
  P2 C A (.ptr id g none 0 j :: vs) (.ipt (.agg fs') j :: as) ((id, false) :: (slIds false fs ++ ids)) (.h id :: (lf ++ ls)) := by
 unfold P2 at h ⊢
 unfold a0i at hf
 simp only [passCaps, passCap, C5, rdNode, L2 ho, D5, D3, List.getElem?_cons_zero, true_and]
 refine P3 ?_ hf
 rintro x l ⟨rfl, rfl⟩
 refine P3 ?_ h
 rintro y k ⟨rfl, rfl⟩
 simp
theorem b8l {md : Nat} (h : md ≠ 0 ∧ md ≠ 3) : J8 C A md .nil .nil [] [] [] := by
 unfold J8 a2a
 rw [if_neg (by omega)]
 exact A9 ⟨rfl, rfl, rfl⟩
theorem a6d {cur v : AV} (h : O7 .undef v = true) {R : AV → Ws → List Mv.Loc → Prop} (hr : R v [] []) : wpW C A (H0 m cur f v) R := by
 unfold H0
 cases v with
 | val v => exact A4 (C2 h (A9 hr))
 | clo k caps =>
  refine A4 (C2 h (A9 ?_))
  simpa using hr
 | list es => exact A9 hr
 | _ => simp [O7, I0] at h
theorem b3b : ∀ (vs cs : List AV) (j : Nat) {A : Asr}, (vs.all fun v => O7 .undef v) = true → ∀ {R : List AV → Ws → List Mv.Loc → Prop}, R vs [] [] → wpW C A (absorbLeaves m f j cs vs) R := by
 intro vs
 induction vs with
 | nil => intro cs j A _ R hr; exact A9 hr
 | cons v vs ih =>
  intro cs j A h R hr
  simp only [List.all_cons, Bool.and_eq_true] at h
  refine A4 (a6d h.1 (A4 (ih cs.tail (j + 1) h.2 (A9 ?_))))
  simpa using hr
theorem c9f {v : AV} (h : ((leaves v).all fun v => O7 .undef v) = true) {R : AV → Ws → List Mv.Loc → Prop} (hr : R v [] []) : wpW C A (absorb m f j cs v) R := by
 by_cases he : ∃ fs, v = .agg fs
 ·obtain ⟨fs, rfl⟩ := he
  refine A4 (b3b fs cs j h (A9 ?_))
  simpa using hr
 ·have h1 : ∀ fs, v ≠ .agg fs := fun fs e => he ⟨fs, e⟩
  have e1 : absorb m f j cs v = H0 m (cs.headD .undef) (fid f j) v := by
   unfold absorb
   split
   ·exact (h1 _ rfl).elim
   ·rfl
  have e2 : leaves v = [v] := by
   unfold leaves
   split
   ·exact (h1 _ rfl).elim
   ·rfl
  rw [e2] at h
  simp only [List.all_cons, List.all_nil, Bool.and_true] at h
  rw [e1]
  exact a6d h hr
def fillI (A : Asr) (s : Nat) (es : List AV) : List (Nat × Operand) → Option (List AV)
 | [] => some es
 | (i, x) :: r => match opd A x with
  | some v => if (leaves v).length = s ∧ i < es.length ∧ ((leaves v).all fun v => O7 .undef v) = true then fillI A s (es.set i v) r else none
  | none => none
theorem c5t {mk s : Nat} : ∀ (ps : List (Nat × Operand)) (es : List AV) {es' : List AV}, fillI A s es ps = some es' → ∀ {R : List AV → Ws → List Mv.Loc → Prop}, R es' [] (a0j (ps.map (·.2))) → wpW C A (X4 mk s es ps) R := by
 intro ps
 induction ps with
 | nil => intro es es' h R hr; simp only [fillI, Option.some.injEq] at h; subst h; exact A9 hr
 | cons p ps ih =>
  intro es es' h R hr
  obtain ⟨i, x⟩ := p
  simp only [fillI] at h
  split at h
  ·rename_i v hv
   split at h
   ·rename_i hc
    refine A4 (I7 hv (A4 (C2 ⟨hc.1, hc.2.1⟩ (A4 (c9f hc.2.2 ?_)))))
    refine F3 (ih _ h (R := fun a w l => a = es' ∧ w = [] ∧ l = a0j (ps.map (·.2))) ⟨rfl, rfl, rfl⟩) ?_
    rintro _ _ _ ⟨rfl, rfl, rfl⟩
    simpa [a0j] using hr
   ·cases h
  ·cases h
theorem a1h {T n E s : Nat} {ps : Array (Nat × Operand)} {z : AV} {es : List AV} (hT : S3 cx.P T = some (E, s)) (hz : Z1 cx.P E = some (z, s)) (hn : n * s ≤ 16777216 ∧ 0 < s) (hf : fillI A s (List.replicate n z) ps.toList = some es) (hl : es.length = n)
  (hko : ∀ g, slotOk keep (.h (tid d 0)) (.obj g 0 s es) = true) (hk : ∀ g, slotOk keep (.t d) (.sl (tid d 0) g none 0 n) = true)
  (h : ∀ g, XR cx keep ops0 r ((.t d, .sl (tid d 0) g none 0 n) :: (.h (tid d 0), .obj g 0 s es) :: A) fun A' lg => Q A' ((a0j (ps.toList.map (·.2)) ++ [.h (tid d 0)], [.h (tid d 0), .t d]) :: lg)) :
  XR cx keep ops0 (⟨some d, .buildSlice T n ps, ty, pos, aft, none⟩ :: r) A Q := by
 obtain ⟨h1, h2, h3, h4⟩ := U7 hz
 refine a4f (v := fun g => .sl (tid d 0) g none 0 n) (ws := fun g => [(.h (tid d 0), .obj g 0 s es)]) (ls := a0j (ps.toList.map (·.2)) ++ [.h (tid d 0)]) rfl ?_ (fun g => A7 (hko g) (G1 (hk g))) (fun g => rfl) (fun g => a5c _ _ _ _ _) h
 simp only [aopV, dstOf]
 refine A4 (G8 (show wpA (CW cx) A (.ret d) _ from ?_))
 show wpW (CW cx) (puts A []) _ _
 refine A4 (V1 hT (A4 (C2 ⟨by rw [h2]; exact hn.1, h3, h4, by rw [h2]; exact hn.2⟩ ?_)))
 simp only [h1, h2]
 refine A4 (c5t ps.toList _ hf (A4 (L4 fun o => A4 (H9 (A9 ?_)))))
 exact ⟨F9 o + 1, rfl, by simp, by simp⟩
end
theorem a5s {s : W8} {t : Pl} (h : rdPlan s = some t) : s = d2b t ∧ t.wf ∧ t.good ∧ s.length ≤ 160 ∧ t.sz ≤ 16 := by
 have hz := a7r h
 have hl : s.length ≤ 160 := by
  unfold rdPlan at h
  split at h
  ·rename_i hc; exact hc.1
  ·cases h
 have hg := c1o (by omega) h
 unfold rdPlan at h
 split at h
 ·obtain ⟨⟨t1, r⟩, h1, h2⟩ := Option.bind_eq_some_iff.1 h
  split at h2
  ·rename_i hr
   cases h2
   obtain ⟨e1, e2⟩ := a5d h1
   obtain rfl : r = [] := List.length_eq_zero_iff.1 hr
   rw [List.append_nil] at e1
   exact ⟨by rw [d2b, ← e1, b3w], e2, hg, hl, hz⟩
  ·cases h2
 ·cases h
deriving instance DecidableEq for Stp
def stIx (s : Stp) : List Stp → Nat
 | [] => 0
 | x :: r => if x = s then 0 else stIx s r + 1
theorem b1a (s : Stp) : ∀ l : List Stp, stIx s l ≤ l.length
 | [] => Nat.le_refl _
 | x :: r => by have := b1a s r; rw [stIx]; split <;> simp <;> omega
theorem c5h {s : Stp} : ∀ {l : List Stp}, stIx s l < l.length → l.getD (stIx s l) default = s
 | [], h => by simp at h
 | x :: r, h => by
  rw [stIx] at h ⊢
  by_cases e : x = s
  ·rw [if_pos e]; simpa using e
  ·rw [if_neg e] at h ⊢
   rw [List.getD_cons_succ]; exact c5h (by simpa using h)
theorem c4k {s : Stp} : ∀ {l : List Stp} {i : Nat}, i < l.length → l.getD i default = s → (∀ j, j < i → l.getD j default ≠ s) → stIx s l = i
 | [], i, h, _, _ => by simp at h
 | x :: r, 0, _, h1, _ => by rw [stIx, if_pos (by simpa using h1)]
 | x :: r, i + 1, h, h1, h2 => by
  rw [stIx, if_neg (by simpa using h2 0 (by omega)), c4k (l := r) (i := i) (by simpa using h) (by simpa using h1) fun j hj => by have := h2 (j + 1) (by omega); simpa using this]
theorem c6o {s : Stp} {l : List Stp} (h : ∀ j, j < l.length → l.getD j default ≠ s) : stIx s l = l.length := by
 rcases Nat.lt_or_ge (stIx s l) l.length with c | c
 ·exact absurd (c5h c) (h _ c)
 ·have := b1a s l; omega
def stAdd (s : Stp) (l : List Stp) : List Stp := if stIx s l < l.length then l else l ++ [s]
theorem a5g (s : Stp) (l : List Stp) : l.length ≤ (stAdd s l).length ∧ (stAdd s l).length ≤ l.length + 1 ∧ stIx s l < (stAdd s l).length := by
 have := b1a s l
 unfold stAdd; split <;> simp <;> omega
def H3 (t : Pl) (a b : Int) : Stp := ⟨bA t.op, a, b, t.ns⟩
def shareP : Pl → List Stp → List Stp × Nat
 | .lst ns, l => (stAdd (H3 (.lst ns) (-1) (-1)) l, stIx (H3 (.lst ns) (-1) (-1)) l)
 | .col w, l => (stAdd (H3 (.col w) (-1) (-1)) l, stIx (H3 (.col w) (-1) (-1)) l)
 | .un w p, l =>
  let x := shareP p l
  (stAdd (H3 (.un w p) x.2 (-1)) x.1, stIx (H3 (.un w p) x.2 (-1)) x.1)
 | .bin w p q, l =>
  let x := shareP p l
  let y := shareP q x.1
  (stAdd (H3 (.bin w p q) x.2 y.2) y.1, stIx (H3 (.bin w p q) x.2 y.2) y.1)
theorem K8 : ∀ (t : Pl) (l : List Stp), l.length ≤ (shareP t l).1.length ∧ (shareP t l).1.length ≤ l.length + t.sz ∧ (shareP t l).2 < (shareP t l).1.length
 | .lst ns, l => a5g _ l
 | .col w, l => a5g _ l
 | .un w p, l => by
  have h1 := K8 p l
  have h2 := a5g (H3 (.un w p) (shareP p l).2 (-1)) (shareP p l).1
  simp only [shareP, Pl.sz]; omega
 | .bin w p q, l => by
  have h1 := K8 p l
  have h2 := K8 q (shareP p l).1
  have h3 := a5g (H3 (.bin w p q) (shareP p l).2 (shareP q (shareP p l).1).2) (shareP q (shareP p l).1).1
  simp only [shareP, Pl.sz]; omega
def sharesT (s : W8) : List Stp := match rdPlan s with
 | some t => (shareP t []).1
 | none => []
theorem a6l {s : W8} {t : Pl} (h : rdPlan s = some t) : sharesT s = (shareP t []).1 := by rw [sharesT, h]
theorem a7p {s : W8} (h : (rdPlan s).isSome = false) : sharesT s = [] := by
 rw [sharesT]
 cases e : rdPlan s with
 | none => rfl
 | some t => rw [e] at h; cases h
theorem Q6 (s : W8) : (sharesT s).length ≤ (d2i s).length ∧ (sharesT s).length ≤ 16 := by
 rw [sharesT, d2i]
 cases e : rdPlan s with
 | none => exact ⟨Nat.zero_le _, Nat.zero_le _⟩
 | some t =>
  have h1 := K8 t []
  have h2 := a7r e
  simp only [a4v, List.length_nil] at h1 ⊢
  omega
def stG (s : Stp) : Prop := s.op.size ≤ 1048576 ∧ vd s.ns = true
theorem a4z {R : Stp → Prop} {s : Stp} {l : List Stp} (hs : R s) (hl : ∀ x ∈ l, R x) : ∀ x ∈ stAdd s l, R x := by
 intro x hx
 unfold stAdd at hx
 split at hx
 ·exact hl x hx
 ·rcases List.mem_append.1 hx with h | h
  ·exact hl x h
  ·rw [List.mem_singleton.1 h]; exact hs
theorem Z8 {t : Pl} (h : t.good) : vd t.ns = true := by
 cases t with
 | lst ns => exact h
 | _ => rfl
theorem b7k {t : Pl} (h : t.good) (a b : Int) : stG (H3 t a b) := ⟨by show t.op.length ≤ _; exact d1f h, Z8 h⟩
theorem N8 : ∀ (t : Pl) (l : List Stp), t.good → (∀ x ∈ l, stG x) → ∀ x ∈ (shareP t l).1, stG x
 | .lst ns, l, hg, hl => a4z (b7k hg _ _) hl
 | .col w, l, hg, hl => a4z (b7k hg _ _) hl
 | .un w p, l, hg, hl => a4z (b7k hg _ _) (N8 p l hg.2.2 hl)
 | .bin w p q, l, hg, hl => a4z (b7k hg _ _) (N8 q _ hg.2.2.2 (N8 p l hg.2.2.1 hl))
theorem a0d {s : W8} : ∀ x ∈ sharesT s, stG x := by
 intro x hx
 rw [sharesT] at hx
 cases e : rdPlan s with
 | none => rw [e] at hx; cases hx
 | some t =>
  rw [e] at hx
  obtain ⟨_, _, hg, _, _⟩ := a5s e
  exact N8 t [] hg (fun _ h => by cases h) x hx
def kAt (ss : List Stp) (k : Int) (i : Nat) : Int := k + (((ss.take i).map fun s => 3 + s.ns.length).sum : Nat)
theorem b2g (ss : List Stp) (k : Int) : kAt ss k 0 = k := by simp [kAt]
theorem b2l {ss : List Stp} {i : Nat} (h : i < ss.length) (k : Int) : kAt ss k (i + 1) = kAt ss k i + 1 + 1 + 1 + (ss.getD i default).ns.length := by
 have hi : i < (ss.map fun s => 3 + s.ns.length).length := by simpa using h
 unfold kAt
 rw [List.map_take, List.map_take, b5k _ hi, List.getElem_map, List.getD_eq_getElem?_getD, List.getElem?_eq_getElem h]
 simp only [Option.getD_some, Int.natCast_add]; omega
def mkS1 (q : Int) (n : Nat) : Stp := ⟨bA (mT q), q + 1, q + 1 + 1, mkI (q + 1 + 1 + 1) n⟩
def c0v (ss : List Stp) (k : Int) : List Stp := (List.range ss.length).map fun i => mkS1 (kAt ss k i) (ss.getD i default).ns.length
@[simp] theorem c2d (ss : List Stp) (k : Int) : (c0v ss k).length = ss.length := by simp [c0v]
theorem b5t {ss : List Stp} {k : Int} {i : Nat} (h : i < ss.length) : (c0v ss k).getD i default = mkS1 (kAt ss k i) (ss.getD i default).ns.length := by
 simp [c0v, List.getD_eq_getElem?_getD, h]
theorem b7r {ss : List Stp} (h : ∀ x ∈ ss, stG x) (hl : ss.length ≤ 16) (k : Int) : ∀ i, i ≤ ss.length → k ≤ kAt ss k i ∧ kAt ss k i ≤ k + 20 * i
 | 0, _ => by rw [b2g]; omega
 | i + 1, hi => by
  have ih := b7r h hl k i (by omega)
  have h1 := h _ (M6 (xs := ss) (i := i) (by omega))
  have := N4 h1.2
  rw [b2l (by omega)]
  omega
def stL : List Stp → AV
 | [] => .nil
 | s :: r => .own 4 ((s :: r).map stO)
theorem c9d {ss : List Stp} (h : 0 < ss.length) : stL ss = .own 4 (ss.map stO) := by
 cases ss with
 | nil => simp at h
 | cons s r => rfl
theorem b1j {s : Stp} {w : W8} {a b : Int} {ns : List Int} (h1 : s.op.data.toList = w) (h2 : s.a = a) (h3 : s.b = b) (h4 : s.ns = ns) : s = ⟨bA w, a, b, ns⟩ := by
 obtain ⟨o, x, y, l⟩ := s
 simp only at h1 h2 h3 h4
 subst h1 h2 h3 h4
 rw [a5e]
theorem b1e {s : Stp} {w : W8} {a b : Int} {ns : List Int} (h : s.op.data.toList ≠ w) : s ≠ ⟨bA w, a, b, ns⟩ := by rintro rfl; exact h rfl
theorem b1g {s : Stp} {w : W8} {a b : Int} {ns : List Int} (h : s.a ≠ a) : s ≠ ⟨bA w, a, b, ns⟩ := by rintro rfl; exact h rfl
theorem b0z {s : Stp} {w : W8} {a b : Int} {ns : List Int} (h : s.b ≠ b) : s ≠ ⟨bA w, a, b, ns⟩ := by rintro rfl; exact h rfl
theorem b1h {s : Stp} {w : W8} {a b : Int} {ns : List Int} (h : s.ns ≠ ns) : s ≠ ⟨bA w, a, b, ns⟩ := by rintro rfl; exact h rfl
theorem a2b {s : Stp} {l : List Stp} {i : Nat} (hi : i < l.length) (h : l.getD i default = s) (hne : ∀ j, j < i → l.getD j default ≠ s) : stIx s l = i ∧ stAdd s l = l := by
 have e := c4k hi h hne
 exact ⟨e, by unfold stAdd; rw [if_pos (by omega)]⟩
theorem a0l {s : Stp} {l : List Stp} (hne : ∀ j, j < l.length → l.getD j default ≠ s) : stIx s l = l.length ∧ stAdd s l = l ++ [s] := by
 have e := c6o hne
 exact ⟨e, by unfold stAdd; rw [if_neg (by omega)]⟩
theorem d4b {w : W8} {a b : Int} {ns : List Int} : ([.agg [tV w, iV a, iV b, .list (ns.map iV)]] : List AV) = List.map stA [⟨bA w, a, b, ns⟩] := rfl
theorem c3q {w : W8} {a b : Int} : ([.agg [tV w, iV a, iV b, .list []]] : List AV) = List.map stA [⟨bA w, a, b, []⟩] := rfl
theorem a9s {w : W8} {a b : Int} {ns : List Int} : ([.agg [tV w, iV a, iV b, .own 1 (ns.map iV)]] : List AV) = List.map stO [⟨bA w, a, b, ns⟩] := rfl
def stJ (y : Stp) (l : List Stp) : Int := if stIx y l < l.length then (stIx y l : Int) else -1
theorem a0y {y : Stp} {l : List Stp} (h : 0 ≤ stJ y l) : stJ y l = stIx y l ∧ stAdd y l = l ∧ stIx y l < l.length := by
 unfold stJ at h ⊢
 by_cases c : stIx y l < l.length
 ·rw [if_pos c]; exact ⟨rfl, by unfold stAdd; rw [if_pos c], c⟩
 ·rw [if_neg c] at h; omega
theorem X6 {y : Stp} {l : List Stp} (h : stJ y l < 0) : stIx y l = l.length ∧ stAdd y l = l ++ [y] := by
 unfold stJ at h
 have := b1a y l
 by_cases c : stIx y l < l.length
 ·rw [if_pos c] at h; omega
 ·exact ⟨by omega, by unfold stAdd; rw [if_neg c]⟩
theorem d3l {y : Stp} {l : List Stp} {i : Nat} (hi : i < l.length) (h : l.getD i default = y) (hne : ∀ j, j < i → l.getD j default ≠ y) : stJ y l = i := by
 unfold stJ; rw [(a2b hi h hne).1, if_pos hi]
theorem d2j {y : Stp} {l : List Stp} (hne : ∀ j, j < l.length → l.getD j default ≠ y) : stJ y l = -1 := by
 unfold stJ; rw [(a0l hne).1, if_neg (by omega)]
theorem d0q (x y : Stp) : decide (x = y) = (decide (x.op.data.toList = y.op.data.toList) && decide (x.a = y.a) && decide (x.b = y.b) && decide (x.ns = y.ns)) := by
 by_cases e : x = y
 ·subst e; simp
 ·rw [decide_eq_false e]
  symm
  simp only [Bool.and_eq_false_iff, decide_eq_false_iff_not]
  apply Classical.byContradiction
  intro h
  simp only [not_or, Decidable.not_not] at h
  obtain ⟨⟨⟨h1, h2⟩, h3⟩, h4⟩ := h
  have h1' : x.op = y.op := by rw [← a5e x.op, ← a5e y.op, h1]
  exact e (by cases x; cases y; simp_all)
end Go.Mv
namespace Go.Mv
theorem d2p {ys : List Stp} {i : Nat} {q : Int} {b : ByteArray} (h : i < ys.length) :
  ((((ys.set i ((ys.getD i default).sOp b)).set i (((ys.set i ((ys.getD i default).sOp b)).getD i default).sA (q + 1))).set i ((((ys.set i ((ys.getD i default).sOp b)).set i (((ys.set i ((ys.getD i default).sOp b)).getD i default).sA (q + 1))).getD i default).sB (q + 1 + 1))).getD i default).ns.length = (ys.getD i default).ns.length := by
 simp [List.getD_eq_getElem?_getD, List.getElem?_set, h]
theorem b7e {ys : List Stp} {i : Nat} {q : Int} {l : List Int} (h : i < ys.length) :
  (((ys.set i ((ys.getD i default).sOp (bA (mT q)))).set i (((ys.set i ((ys.getD i default).sOp (bA (mT q)))).getD i default).sA (q + 1))).set i ((((ys.set i ((ys.getD i default).sOp (bA (mT q)))).set i (((ys.set i ((ys.getD i default).sOp (bA (mT q)))).getD i default).sA (q + 1))).getD i default).sB (q + 1 + 1))).set i
   (((((ys.set i ((ys.getD i default).sOp (bA (mT q)))).set i (((ys.set i ((ys.getD i default).sOp (bA (mT q)))).getD i default).sA (q + 1))).set i ((((ys.set i ((ys.getD i default).sOp (bA (mT q)))).set i (((ys.set i ((ys.getD i default).sOp (bA (mT q)))).getD i default).sA (q + 1))).getD i default).sB (q + 1 + 1))).getD i default).sN l)
   = ys.set i ⟨bA (mT q), q + 1, q + 1 + 1, l⟩ := by
 simp [List.getD_eq_getElem?_getD, List.getElem?_set, h, List.set_set, Stp.sOp, Stp.sA, Stp.sB, Stp.sN]
theorem c5l {ys ss : List Stp} {k q : Int} {i n : Nat} (hi : i < ss.length) (hl : ys.length = ss.length) (hq : q = kAt ss k i) (hn : n = (ss.getD i default).ns.length)
  (h3 : ∀ j, j < i → ys.getD j default = mkS1 (kAt ss k j) (ss.getD j default).ns.length) (h4 : ∀ j, i ≤ j → ys.getD j default = ss.getD j default) :
  (ys.set i (mkS1 q n)).length = ss.length ∧ q + 1 + 1 + 1 + n = kAt ss k (i + 1) ∧ (∀ j, j < i + 1 → (ys.set i (mkS1 q n)).getD j default = mkS1 (kAt ss k j) (ss.getD j default).ns.length) ∧ ∀ j, i + 1 ≤ j → (ys.set i (mkS1 q n)).getD j default = ss.getD j default := by
 subst hq hn
 refine ⟨by simp [hl], (b2l hi k).symm, fun j hj => ?_, fun j hj => ?_⟩
 ·rw [a8h (by omega)]
  by_cases e : j = i
  ·rw [if_pos e, e]
  ·rw [if_neg e]; exact h3 j (by omega)
 ·rw [a8h (by omega), if_neg (by omega)]; exact h4 j (by omega)
theorem c8c {ys ss : List Stp} {k : Int} (hl : ys.length = ss.length) (h3 : ∀ j, j < ss.length → ys.getD j default = mkS1 (kAt ss k j) (ss.getD j default).ns.length) : ys = c0v ss k :=
 b5x (by simp [hl]) fun j hj => by rw [h3 j (by omega), b5t (by omega)]
end Go.Mv
namespace Go.Mv
theorem b8o (ns : List Int) : trK (.lst ns) = .agg [tV lW, .list (ns.map iV), .list (([] : List Pl).map trV)] := rfl
theorem b7p (w : W8) : trK (.col w) = .agg [tV w, .list (([] : List Int).map iV), .list (([] : List Pl).map trV)] := rfl
theorem c2r (w : W8) (p : Pl) : trK (.un w p) = .agg [tV w, .list (([] : List Int).map iV), .list ([p].map trV)] := rfl
theorem b6t (w : W8) (p q : Pl) : trK (.bin w p q) = .agg [tV w, .list (([] : List Int).map iV), .list ([p, q].map trV)] := rfl
deriving instance DecidableEq for Pl
structure ClQ (P : List Pl) : Prop where
 nd : P.Nodup
 good : ∀ t ∈ P, t.good
 kids : ∀ A t B, P = A ++ t :: B → ∀ k ∈ t.kids, k ∈ A
theorem ClQ.nil : ClQ [] := ⟨List.nodup_nil, (fun _ h => by cases h), (fun A t B h => by cases A <;> cases h)⟩
theorem ClQ.mem {P : List Pl} (h : ClQ P) {t k : Pl} (ht : t ∈ P) (hk : k ∈ t.kids) : k ∈ P := by
 obtain ⟨A, B, rfl⟩ := List.append_of_mem ht
 exact List.mem_append_left _ (h.kids A t B rfl k hk)
def ixQ (t : Pl) : List Pl → Nat
 | [] => 0
 | x :: r => if x = t then 0 else ixQ t r + 1
def d3r (P : List Pl) (t : Pl) (k : Nat) : Int := if k < t.kids.length then (ixQ (t.kids.getD k default) P : Int) else -1
def d4e (P : List Pl) (t : Pl) : Stp := H3 t (d3r P t 0) (d3r P t 1)
def enc (P : List Pl) : List Stp := P.map (d4e P)
section
variable {A : Asr}
theorem d0x {C : Caller} {md id g m s n : Nat} {es : List AV} (hmd : md = 4) (ho : look A (.h id) = some (.obj g m s es)) (hm : m ≠ 2 ∧ bxB m none = false) (hn : n = es.length) (hi : D6 es = true) :
  J8 C A md (.sl id g none 0 n) (.own s es) [(id, true)] [] [.h id] := by
 subst hmd hn
 unfold J8 a2a
 simp only [show ¬ ((4 : Nat) = 0) from by decide, show ¬ ((4 : Nat) = 1) from by decide, show ¬ ((4 : Nat) = 2) from by decide, if_false, if_true]
 refine A4 (J3 ho ?_)
 refine A4 (C2 (by simp [hm.1, hm.2, hi]) (A9 ⟨rfl, by simp, by simp⟩))
theorem c9z {cid m s : Nat} {o : List AV} (h : look A (.h cid) = some (.obj 1 m s o)) (hi : D6 o = true) : a1a A [(cid, m, s)] [o] := ⟨h, hi, trivial⟩
end
theorem b2r : ∀ (xs ys : List Stp), ys.length ≤ xs.length → nilFit (xs.map stO) (ys.map stO) = true
 | [], [], _ => rfl
 | _ :: _, [], _ => rfl
 | [], _ :: _, h => absurd h (by simp)
 | x :: xs, y :: ys, h => by
  have ih := b2r xs ys (by simpa using h)
  simp only [List.map_cons, nilFit, ih, Bool.and_true]
  rfl
end Go.Mv
end
