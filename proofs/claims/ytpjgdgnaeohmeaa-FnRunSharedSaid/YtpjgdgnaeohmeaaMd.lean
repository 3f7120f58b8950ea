/- The abstract machine, part 4 of 4: it runs the model's code on abstract values and is proved sound over any program. Conditions: none. -/
import Derived.OpenShut
import Derived.ProofKit
import Derived.Test.YtpjgdgnaeohmeaaMc

set_option linter.unusedVariables false
set_option linter.unusedSimpArgs false
section
namespace Go.Mv
open Go Go.RowKit Go.ChangeShapes Go.WideShapes Go.ChangeAt
def dataArg : AV → Bool
 | .val _ => true
 | .nil => true
 | .list _ => true
 | .agg _ => true
 | _ => false
theorem b7w {md : Nat → Nat} {av : List AV} (hk : ∀ a ∈ av, dataArg a = true) :
  (∀ i, initLoc md av (.t i) = av.getD i .undef) ∧ ∀ i, initLoc md av (.h i) = .undef := by
 have hk' : ∀ i a, av[i]? = some a → dataArg a = true := fun i a h => hk a (List.mem_of_getElem? h)
 refine ⟨fun i => ?_, fun i => ?_⟩
 ·rw [List.getD_eq_getElem?_getD]
  have := hk' i
  unfold initLoc
  show (match av[i]? with
   | some (AV.own s es) => AV.sl i 1 none 0 es.length
   | some (AV.ownp es a b) => AV.ptr i 1 none a b
   | some (AV.clo f caps) => AV.clo f (initCaps i 0 caps)
   | some a => a
   | none => AV.undef) = _
  split <;> rename_i h
  ·rw [h] at this; simp [dataArg] at this
  ·rw [h] at this; simp [dataArg] at this
  ·rw [h] at this; simp [dataArg] at this
  ·rw [h]; rfl
  ·rw [h]; rfl
 ·have h1 := hk' i
  have h2 := hk' (i % 100000)
  unfold initLoc
  simp only
  split
  ·split
   ·rename_i h; rw [h] at h1; simp [dataArg] at h1
   ·rename_i h; rw [h] at h1; simp [dataArg] at h1
   ·rfl
  ·split
   ·rename_i h; rw [h] at h2; simp [dataArg] at h2
   ·rfl
theorem c1t {Γ : Env} (cx : Cx) (hS : SoundC Γ cx (CW cx)) {f : Nat} {av : List AV} {vals : Array Value} {w : World} {v : Value} (hsz : vals.size = av.length)
  (hd : ∀ i a, av[i]? = some a → RV w (fun b => b < w.heap.size) a (vals.getD i undef)) (hk : ∀ a ∈ av, dataArg a = true) (h : CW cx f av = some (.val v, [])) (hg : ∀ b, Γ.gb b → b < w.heap.size) (hG : Γ.G w) :
  Calls cx.P f vals w fun e w' => e = .returned v ∧ Below w.heap.size w w' ∧ (Γ.mo → w.drawn ≤ w'.drawn) := by
 obtain ⟨hT, hH⟩ := b7w (md := cx.md f) hk
 have nolive : ∀ k, ¬ live (initLoc (cx.md f) av) Fl.emp k := by
  intro k hl
  cases k with
  | nd i p => obtain ⟨g, m, s, es, h1, _⟩ := hl; rw [hH] at h1; cases h1
  | fl k p => obtain ⟨f, h1, _⟩ := hl; cases h1
 have R : Rel Γ w (fun _ => True) (fun _ => False) (fun _ _ => none) av.length Fl.emp (fun b => b < w.heap.size) (initLoc (cx.md f) av) (fun _ _ => none) vals w := by
  refine ⟨hsz, fun i hi => ?_, fun i hi => ?_, fun id g m s es h1 => ?_, fun id g s es h1 => ?_, fun k f h1 => ?_, fun k1 k2 b o1 o2 h1 => (nolive _ h1).elim, fun b hb ⟨k, o, h1, _⟩ => nolive _ h1, fun b hb => .inl trivial, fun b hb => ⟨hb, fun h => by rcases h with h | h; (· have : b < w.heap.size := hb; omega); (· exact h.elim)⟩,
   fun b ⟨k, o, h1, _⟩ => (nolive _ h1).elim, Nat.le_refl _, rfl, rfl, rfl, fun _ => Nat.le_refl _, fun b _ _ => rfl, fun b _ => rfl, fun id g m s es h1 => ?_, fun b hb => ⟨fun h => h, hg b hb⟩, hG⟩
  ·rw [hT, List.getD_eq_getElem?_getD, List.getElem?_eq_getElem hi]
   exact .data _ _ (hd i _ (List.getElem?_eq_getElem hi))
  ·rw [hT, List.getD_eq_getElem?_getD, List.getElem?_eq_none hi]; rfl
  ·rw [hH] at h1; cases h1
  ·rw [hH] at h1; cases h1
  ·cases h1
  ·rw [hH] at h1; cases h1
 obtain ⟨hC, _⟩ := hS.2 f av _ _ h
 refine (hC w _ _ _ _ vals (fun _ h => h.elim) R (fun a ha => ?_)).mono ?_
 ·obtain ⟨i, hi⟩ := List.mem_iff_getElem?.1 ha
  have h1 := hd i a hi
  have h2 := hk a ha
  cases a <;> first
   | exact ⟨_, h1⟩
   | simp [dataArg] at h2
 ·rintro e w' ⟨v', rfl, F', D', st', ν', R', _, hres, _⟩
  refine ⟨?_, ⟨R'.os, R'.tape, R'.output, R'.le, fun k hk => R'.fr k hk (fun h => h)⟩, R'.dr⟩
  rcases hres with ⟨vs, cs, h1, _⟩ | ⟨fs, cs, h1, _⟩ | ⟨es, j, φ, b, o, h1, _⟩ | ⟨s, es, φ, h1, _⟩ | ⟨_, h1⟩
  ·cases h1
  ·cases h1
  ·cases h1
  ·cases h1
  ·cases h1; rfl
theorem c5a {Γ : Env} (cx : Cx) (hS : SoundC Γ cx (CW cx)) {f : Nat} {av : List AV} {vals : Array Value} {w : World} {v : Value} (hsz : vals.size = av.length)
  (hd : ∀ i a, av[i]? = some a → RV w (fun b => b < w.heap.size) a (vals.getD i undef)) (hk : ∀ a ∈ av, dataArg a = true) (h : CW cx f av = some (.val v, [])) (hg : ∀ b, Γ.gb b → b < w.heap.size) (hG : Γ.G w) :
  Calls cx.P f vals w fun e w' => e = .returned v ∧ Below w.heap.size w w' :=
 (c1t cx hS hsz hd hk h hg hG).mono fun _ _ h => ⟨h.1, h.2.1⟩
def Env.none (mo : Prop) : Env := ⟨mo, fun _ => False, fun _ => True, fun _ _ _ h => h⟩
section
variable {H : Type} {enc : TypeId × Value → H} {P : Program} {W W' : World}
theorem a6g (hl : laidOutB P = true) (hB : Below W.heap.size W W') : ∀ {ts : List TypeId} {vs : List Value} {ds : List (DataW H)} {ps : List MemPlace},
  (∀ t ∈ ts, P.readableRec t = true ∧ t < P.types.size) → DataW.TrodAll enc P W 0 (fun _ => true) true ts vs ds ps → (∀ x ∈ ps, x.block < W.heap.size) →
  DataW.TrodAll enc P W' 0 (fun b => decide (b < W.heap.size)) true ts vs ds ps
 | [], [], [], _, _, h, _ => h
 | [], [], _ :: _, _, _, h, _ => h.elim
 | [], _ :: _, _, _, _, h, _ => h.elim
 | _ :: _, [], _, _, _, h, _ => h.elim
 | _ :: _, _ :: _, [], _, _, h, _ => h.elim
 | t :: ts, v :: vs, d :: ds, ps, hr, h, hlt => by
  obtain ⟨p, q, h1, h2, rfl⟩ := h
  obtain ⟨hr1, hr2⟩ := hr t (List.mem_cons_self ..)
  exact ⟨p, q, Below.trod hl hr1 hr2 h1 hB (fun x hx => hlt x (List.mem_append_left _ hx)), a6g hl hB (fun t ht => hr t (List.mem_cons_of_mem _ ht)) h2 (fun x hx => hlt x (List.mem_append_right _ hx)), rfl⟩
theorem c6u {f : Func} {s : ChangeSpec} {apart fresh : Bool} {args : Array Value} {ds gs : List (DataW H)} {before : List MemPlace} {tb : TypeId} (hl : laidOutB P = true)
  (hr : ∀ t ∈ f.params.toList, P.readableRec t = true ∧ t < P.types.size) (hW : DataW.Whole enc P f.params.toList s.vars apart W args.toList ds gs before) (hB : Below W.heap.size W W')
  (hv : s.vars = []) (hres : f.resultTypes = #[tb]) (hb : P.underlying tb = some .bool) (h1 : (s.fn H ds).results = [.lit (.bool true)]) (h2 : (s.fn H ds).args = ds) (h3 : (s.fn H ds).vars = []) :
  s.post enc P f apart fresh false false W args (.bool true) W' := by
 have hW0 := hW
 obtain ⟨p, q, hA, hV, rfl, hz, hn⟩ := hW
 rw [hv] at hV
 obtain ⟨rfl, rfl⟩ := trodVars_none hV
 have e : ds ++ [] = ds := List.append_nil _
 refine ⟨ds, [], p ++ [], [], p, [], hW0, ?_, ?_, ?_, hB.frame _, fun h => by cases h⟩
 ·rw [e, h1, hres]
  exact trodAll_mk1 (shut_bool hb _)
 ·rw [e, h2]
  exact a6g hl hB hr hA fun x hx => hW0.lt x (List.mem_append_left _ hx)
 ·rw [e, h3, hv]
  rfl
theorem d0g {t e : TypeId} {k : IntKind} {v : Value} {d : DataW H} {p : List MemPlace} (ht : P.underlying t = some (.slice e)) (he : P.underlying e = some (.int k)) (hc : P.cellsOf e = 1)
  (hv : ∃ a n c, v = .slice a n c) (h : DataW.Trod enc P W 0 (fun _ => true) true t v d p) :
  ∃ xs : List Int, RV W (fun b => b < W.heap.size) (.list (xs.map fun x => .val (.int k x))) v ∧ ∀ x ∈ xs, (Lit.int k x).wf = true := by
 obtain ⟨a1, n, c, rfl⟩ := hv
 obtain ⟨fuel, hf⟩ := h
 rcases open_ints ht he hc hf with ⟨hcs, _⟩ | ⟨a, len, cap, zs, hcs, _, hl, _, hz, _, hcell, hwf⟩
 ·cases (show [Value.slice a1 n c] = [.slice none 0 0] from hcs)
  exact ⟨[], .list [] none 0 0 0 1 (fun _ _ => undef) (Nat.le_refl _) (fun h => (h rfl).elim) (fun _ h => by simp at h) (fun i j l h => by simp [leafAt] at h) (fun i j l h => by simp [leafAt] at h), fun _ h => by simp at h⟩
 ·cases (show [Value.slice a1 n c] = [.slice (some a) len cap] from hcs)
  simp at hz
  refine ⟨zs.take n, ?_, fun x hx => hwf x (List.mem_of_mem_take hx)⟩
  have hlen : (zs.take n).length = n := by simp; omega
  have hleaf : ∀ i j l, leafAt ((zs.take n).map fun x => AV.val (.int k x)) i j = some l → i < n ∧ j = 0 ∧ l = .val (.int k (zs.getD i 0)) := by
   intro i j l h
   unfold leafAt at h
   rw [List.getElem?_map] at h
   cases hx : (zs.take n)[i]? with
   | none => simp [hx] at h
   | some x =>
    have hi : i < n := by have := (List.getElem?_eq_some_iff.1 hx).1; omega
    rw [List.getElem?_take, if_pos hi] at hx
    have hx' : (zs.take n)[i]? = some x := by rw [List.getElem?_take, if_pos hi]; exact hx
    simp only [hx', Option.map_some] at h
    cases j with
    | zero => simp [leaves] at h; exact ⟨hi, rfl, by rw [List.getD_eq_getElem?_getD, hx]; exact h.symm⟩
    | succ j => simp [leaves] at h
  have hsp : 0 < n → a = ⟨a.block, a.off, none⟩ ∧ a.block < W.heap.size := by
   intro hn
   have h0 := hcell 0 (by omega)
   have ea : a.add 0 = a := rfl
   rw [ea] at h0
   unfold World.cell? at h0
   split at h0
   ·rename_i cc _ _ hh
    split at h0
    ·cases h0
    ·rename_i hs
     refine ⟨?_, (Array.getElem?_eq_some_iff.1 hh).1⟩
     obtain ⟨b, o, s⟩ := a
     cases s
     ·rfl
     ·simp at hs
   ·cases h0
  have := RV.list (w := W) (D := fun b => b < W.heap.size) ((zs.take n).map fun x => AV.val (.int k x)) (some a) c a.block a.off 1 (fun i _ => .int k (zs.getD i 0)) (by simp; omega) (fun hne => ?_) (fun e he => ?_) (fun i j l h => ?_) (fun i j l h => ?_)
  ·rw [List.length_map, hlen] at this
   exact this
  ·have hn : 0 < n := by
    rcases Nat.eq_zero_or_pos n with h | h
    ·subst h; simp at hne
    ·exact h
   obtain ⟨h1, h2⟩ := hsp hn
   exact ⟨congrArg some h1, h2, h2⟩
  ·obtain ⟨x, _, rfl⟩ := List.mem_map.1 he
   rfl
  ·obtain ⟨hi, rfl, rfl⟩ := hleaf i j l h
   have h1 := hcell i (by omega)
   have ea := (hsp (by omega)).1
   rw [ea] at h1
   rw [a0g] at h1
   simpa using h1
  ·obtain ⟨hi, rfl, rfl⟩ := hleaf i j l h
   exact .val _
end
end Go.Mv
end

section
namespace Go.Mv
open Go
section
variable {cx : Cx} {keep : List Nat} {ops0 : Array Oper} {A : Asr} {d : Nat} {ty : Nat} {pos : String} {aft : Array Edge} {r : List Oper} {Q : Asr → List Log → Prop}
theorem c3p {G : Type} {k : Nat} {c : Operand} {caps : List AV} {args : Array Operand} {Ts : Array Nat} {vs as : List AV} {ids : List (Nat × Bool)} {wp wb : Ws} {lp lb li : List Mv.Loc} {res : AV} {outs : List (List AV)} {v : G → AV} {wi : G → Ws}
  (hcl : opd A c = some (.clo k caps))
  (hv : opds A args.toList = some vs) (hp : a6c (CW cx) A (cx.md k) 0 (vs ++ caps) as ids wp lp) (hC : CW cx k as = some (res, outs))
  (hc : apartIds ids = true ∧ S0 ((a1m (cx.md k) 0 (vs ++ caps)).map (·.1)) = true ∧ S0 ((cidAll (cx.md k) 0 as).map (·.1)) = true ∧ as.length ≤ 1000 ∧ a4y as = true)
  (hl : ids.all (fun x => x.2) = true ∨ (hasList res = false ∧ outs.any H1 = false))
  (hb : c2v (CW cx) (puts A wp) (a1m (cx.md k) 0 (vs ++ caps)) outs wb lb) (hi : a4e (CW cx) (puts (puts A wp) wb) d res v wi li)
  (hk : ∀ g, tRefsOk keep (keptWs keep (wp ++ (wb ++ (wi g ++ [(.t d, v g)])))) = true)
  (h : ∀ g, XR cx keep ops0 r (Y0 A (wp ++ (wb ++ (wi g ++ [(.t d, v g)])))) fun A' lg => Q A' ((rds c ++ (a2i args.toList ++ (lp ++ (lb ++ li))), Z7 (wp ++ (wb ++ (wi g ++ [(.t d, v g)])))) :: lg)) :
  XR cx keep ops0 (⟨some d, .call ⟨.value c, args, Ts⟩, ty, pos, aft, none⟩ :: r) A Q := by
 refine c3m (G := G) (v := v) (ws := fun g => wp ++ (wb ++ wi g)) (ls := rds c ++ (a2i args.toList ++ (lp ++ (lb ++ li)))) rfl ?_ (fun g => ?_) (fun g => ?_) (fun g => ?_) (A1 := fun g => Y0 A (wp ++ (wb ++ (wi g ++ [(.t d, v g)]))))
 ·simp only [aopV]
  refine A8 (J9 hcl (A8 (I5 (b2k _ hv _ ?_))))
  simp only [b8d]
  refine A8 (H9 hp ?_)
  rintro _ _ _ ⟨rfl, rfl, rfl⟩
  refine A8 (E6 hc (A8 (I5 ?_)))
  refine ⟨res, outs, hC, ?_⟩
  refine A8 (E6 hl (A8 (H9 hb ?_)))
  rintro _ _ _ ⟨rfl, rfl⟩
  refine H9 hi ?_
  rintro _ _ _ ⟨g, rfl, rfl, rfl⟩
  exact ⟨g, rfl, by simp, by simp⟩
 ·have := hk g
  simpa [setD] using this
 ·have := a7m A (wp ++ (wb ++ (wi g ++ [(.t d, v g)])))
  simpa [setD] using this
 ·have := h g
  simpa [setD] using this
def X0 (C : Caller) (A : Asr) (vs as : List AV) (ids : List (Nat × Bool)) (ls : List Mv.Loc) : Prop :=
 wpA C A (passCaps vs) fun x l => x = (as, ids) ∧ l = ls
theorem c7h {C : Caller} : X0 C A [] [] [] [] := ⟨rfl, rfl⟩
def b9h : AV → Bool
 | .val _ => true
 | .list _ => true
 | _ => false
theorem c8q {C : Caller} {id g m s j : Nat} {e : AV} {vs as : List AV} {ids : List (Nat × Bool)} {ls : List Mv.Loc} (ho : look A (.h id) = some (.obj g m s [e])) (he : b9h e = true) (h : X0 C A vs as ids ls) :
    X0 C A (.ptr id g none 0 j :: vs) (.ipt e j :: as) ((id, false) :: ids) (.h id :: ls) := by
  unfold X0 at h ⊢
  cases e <;> first
    | (simp [b9h] at he; done)
    | (simp only [passCaps, passCap, F0, rdNode, O5 ho, G1, F8, List.getElem?_cons_zero, passLeaf, slIds, List.filterMap_nil, List.filterMap_cons, and_true, true_and]
       refine P6 ?_ h
       rintro x l ⟨rfl, rfl⟩
       simp)
theorem c8i {C : Caller} {j : Nat} {e : AV} {vs as : List AV} {ids : List (Nat × Bool)} {ls : List Mv.Loc} (h : X0 C A vs as ids ls) : X0 C A (.ipt e j :: vs) (.ipt e j :: as) ids ls := by
 unfold X0 at h ⊢
 simp only [passCaps, passCap, F0, F8]
 refine P6 ?_ h
 rintro x l ⟨rfl, rfl⟩
 simp
theorem c8y {C : Caller} {md k : Nat} {vs as : List AV} {ids : List (Nat × Bool)} {ls : List Mv.Loc} (hmd : md = 0) (h : X0 C A vs as ids ls) : L9 C A md (.clo k vs) (.clo k as) ids [] ls := by
 subst hmd
 unfold L9 a2p
 unfold X0 at h
 simp only [Nat.zero_ne_one, if_false, show ¬ (0 = 3) by decide]
 refine A8 (I5 (P6 ?_ h))
 rintro x l ⟨rfl, rfl⟩
 exact C7 ⟨rfl, by simp, by simp⟩
end
end Go.Mv
end

section
namespace Go.Mv
open Go
section
variable {cx : Cx} {keep : List Nat} {A : Asr} {Q : AExit → Asr → Prop}
theorem G3 {β : Type} {body : Code} (K : Asr) (I : β → Asr) (P : β → Prop) (m : β → Nat) (b0 : β) (hA : HasL A (K ++ I b0)) (h0 : P b0)
  (hs : ∀ b, P b → XA cx keep body (K ++ I b) fun r A' => match r with
   | .normal => ∃ b', P b' ∧ m b' < m b ∧ HasL A' (K ++ I b')
   | r => Q r A') : XA cx keep (.loop body) A Q := d0d (fun b => K ++ I b) P m b0 hA h0 hs
end
theorem a6l {id g i : Nat} {p : Option (Nat × Nat)} : ∀ (ls : List AV) (j : Nat), (ls.all fun l => !isOwn l) = true → viewLeaves id g p i j ls = ls := by
 intro ls
 induction ls with
 | nil => intro j _; rfl
 | cons l ls ih =>
  intro j h
  simp only [List.all_cons, Bool.and_eq_true] at h
  simp only [viewLeaves, ih _ h.2]
  have : a5l id g p i j l = l := by
   unfold a5l
   split
   ·simp [isOwn] at h
   ·rfl
  rw [this]
theorem c8x {ls : List AV} (h : (ls.all fun l => !isOwn l) = true) (j : Nat) : ((ls.drop j).all fun l => !isOwn l) = true := by
 rw [List.all_eq_true] at h ⊢
 exact fun l hl => h l (List.mem_of_mem_drop hl)
section
variable {cx : Cx} {b : Bool} {cids : List Cid} {outs : List (List AV)}
def b4f (cx : Cx) (b : Bool) (cids : List Cid) (outs : List (List AV)) (rs : List ResultVar) (A : Asr) (vs : List AV) : Prop :=
 wpW (CW cx) A (retAll cx.P b rs) fun us ws _ => us = vs ∧ a0x (puts A ws) cids outs
theorem G9 {A : Asr} (ho : a0x A cids outs) : b4f cx b cids outs [] A [] := C7 ⟨rfl, ho⟩
theorem H2 {A : Asr} {t : Nat} {v : AV} {rs : List ResultVar} {vs : List AV} (hv : look A (.t t) = some v) (hi : c5p v = true) (h : b4f cx b cids outs rs A vs) : b4f cx b cids outs (.tmp t :: rs) A (v :: vs) := by
 refine a3n (Y3 hv (c0k hi ?_))
 refine H9 h ?_
 rintro us ws ls ⟨rfl, h2⟩
 exact ⟨rfl, h2⟩
theorem a4d (A : Asr) : ∀ (a b : Ws), puts A (a ++ b) = puts (puts A a) b := by
 intro a
 induction a generalizing A with
 | nil => intro b; rfl
 | cons x a ih => intro b; obtain ⟨l, v⟩ := x; exact ih _ b
theorem H4 {A : Asr} {t id g s n : Nat} {es : List AV} {rs : List ResultVar} {vs : List AV} (hv : look A (.t t) = some (.sl id g none 0 n)) (hob : look A (.h id) = some (.obj g 0 s es)) (hn : n = es.length) (hi : H5 es = true)
  (h : b4f cx b cids outs rs (put A (.h id) (.dead g)) vs) : b4f cx b cids outs (.tmp t :: rs) A (.own s es :: vs) := by
 refine a3n (Y3 hv (b0i hob hn hi ?_))
 refine H9 h ?_
 rintro us ws ls ⟨rfl, h2⟩
 refine ⟨rfl, ?_⟩
 rw [a4d]
 exact h2
theorem F7 {A : Asr} {rs : List ResultVar} {us : List AV} {res : AV} (h : b4f cx b cids outs rs A us) (he : S1 us = res) : RetA cx b rs cids A res outs := by
 refine b3k (H9 h ?_)
 rintro us' ws _ ⟨rfl, h2⟩
 exact ⟨he, h2⟩
def b5u (C : Caller) (A : Asr) (d k : Nat) (vs : List AV) {G : Type} (us : G → List AV) (ws : G → Ws) (ls : List Mv.Loc) : Prop := wpW C A (instAll d k vs) fun a w l => ∃ g, a = us g ∧ w = ws g ∧ l = ls
variable {C : Caller} {A : Asr} {d k : Nat}
theorem Q7 : b5u C A d k [] (fun _ : Unit => []) (fun _ => []) [] := C7 ⟨(), rfl, rfl, rfl⟩
theorem P0 {G : Type} {v : AV} {vs : List AV} {us : G → List AV} {ws : G → Ws} {ls : List Mv.Loc} (h : L4 v = true) (t : b5u C A d (k + 16) vs us ws ls) : b5u C A d k (v :: vs) (fun g => v :: us g) ws ls := by
 refine A8 (a8p h (A8 (H9 t ?_)))
 rintro _ _ _ ⟨g, rfl, rfl, rfl⟩
 exact C7 ⟨g, rfl, by simp, by simp⟩
theorem P8 {G : Type} {s : Nat} {es : List AV} {vs : List AV} {us : G → List AV} {ws : G → Ws} {ls : List Mv.Loc} (t : ∀ g0, b5u C (put A (.h (tid d k)) (.obj g0 0 s es)) d (k + 16) vs us ws ls) :
  b5u C A d k (.own s es :: vs) (fun g : Nat × G => .sl (tid d k) g.1 none 0 es.length :: us g.2) (fun g => (.h (tid d k), .obj g.1 0 s es) :: ws g.2) (.h (tid d k) :: ls) := by
 refine A8 (a7i fun g0 => A8 (H9 (t g0) ?_))
 rintro _ _ _ ⟨g, rfl, rfl, rfl⟩
 exact C7 ⟨(g0, g), rfl, by simp, by simp⟩
theorem K3 {G : Type} {vs : List AV} {us : G → List AV} {ws : G → Ws} {ls : List Mv.Loc} (h : b5u C A d 16 vs us ws ls) : a4e C A d (.tup vs) (fun g => .tup (us g)) ws ls := by
 refine A8 (H9 h ?_)
 rintro _ _ _ ⟨g, rfl, rfl, rfl⟩
 exact C7 ⟨g, rfl, by simp, by simp⟩
end
section
variable {cx : Cx} {keep : List Nat} {ops0 : Array Oper} {r : List Oper} {A : Asr} {Q : Asr → List Log → Prop} {d : Nat} {ty : Nat} {pos : String} {aft : Array Edge}
theorem B4 {a : Operand} {T id g m s i j : Nat} {es : List AV} {e v : AV} (ha : opd A a = some (.ptr id g none i j)) (ho : look A (.h id) = some (.obj g m s es)) (he : es[i]? = some e) (hn : ((leaves e).all fun l => !isOwn l) = true)
  (hp : partF cx.P T ((leaves e).drop j) = some v) (hk : slotOk keep (.t d) v = true)
  (h : XR cx keep ops0 r ((.t d, v) :: A) fun A' lg => Q A' ((rds a ++ [.h id], [.t d]) :: lg)) : XR cx keep ops0 (⟨some d, .load T a, ty, pos, aft, none⟩ :: r) A Q :=
 a1c ha ho he (by rw [a6l _ _ (c8x hn j)]; exact hp) hk h
theorem J8 {α : Type} [Inhabited α] {f : α → AV} {xs : List α} {a : Operand} {T id g m s i j : Nat} {v : AV} (ha : opd A a = some (.ptr id g none i j)) (ho : look A (.h id) = some (.obj g m s (xs.map f))) (hi : i < xs.length)
  (hn : ∀ a, ((leaves (f a)).all fun l => !isOwn l) = true) (hp : partF cx.P T ((leaves (f (xs.getD i default))).drop j) = some v) (hk : slotOk keep (.t d) v = true)
  (h : XR cx keep ops0 r ((.t d, v) :: A) fun A' lg => Q A' ((rds a ++ [.h id], [.t d]) :: lg)) : XR cx keep ops0 (⟨some d, .load T a, ty, pos, aft, none⟩ :: r) A Q :=
 B4 (e := f (xs.getD i default)) ha ho (by rw [List.getElem?_map, List.getElem?_eq_getElem hi, List.getD_eq_getElem?_getD, List.getElem?_eq_getElem hi]; rfl) (hn _) hp hk h
theorem J0 {α : Type} [Inhabited α] {f : α → AV} {xs : List α} {a : Operand} {T id g m s i : Nat} (ha : opd A a = some (.ptr id g none i 0)) (ho : look A (.h id) = some (.obj g m s (xs.map f))) (hi : i < xs.length)
  (hn : ∀ a, ((leaves (f a)).all fun l => !isOwn l) = true) (hp : ∀ a, partF cx.P T (leaves (f a)) = some (f a)) (hk : slotOk keep (.t d) (f (xs.getD i default)) = true)
  (h : XR cx keep ops0 r ((.t d, f (xs.getD i default)) :: A) fun A' lg => Q A' ((rds a ++ [.h id], [.t d]) :: lg)) : XR cx keep ops0 (⟨some d, .load T a, ty, pos, aft, none⟩ :: r) A Q :=
 J8 ha ho hi hn (hp _) hk h
theorem L2 {a : Operand} {T id g m s : Nat} {e : AV} (ha : opd A a = some (.ptr id g none 0 0)) (ho : look A (.h id) = some (.obj g m s [e])) (hn : ((leaves e).all fun l => !isOwn l) = true)
  (hp : partF cx.P T (leaves e) = some e) (hk : slotOk keep (.t d) e = true)
  (h : XR cx keep ops0 r ((.t d, e) :: A) fun A' lg => Q A' ((rds a ++ [.h id], [.t d]) :: lg)) : XR cx keep ops0 (⟨some d, .load T a, ty, pos, aft, none⟩ :: r) A Q :=
 B4 ha ho rfl hn hp hk h
theorem D6 {a : Operand} {T : Nat} {e : AV} (ha : opd A a = some (.ipt e 0)) (hp : partF cx.P T (leaves e) = some e) (hk : slotOk keep (.t d) e = true)
  (h : XR cx keep ops0 r ((.t d, e) :: A) fun A' lg => Q A' ((rds a, [.t d]) :: lg)) : XR cx keep ops0 (⟨some d, .load T a, ty, pos, aft, none⟩ :: r) A Q :=
 c1l ha hp hk h
theorem M5 {α : Type} [Inhabited α] {f : α → AV} {xs : List α} {y : α} {T id g m s i : Nat} {a x : Operand} (ha : opd A a = some (.ptr id g none i 0)) (ho : look A (.h id) = some (.obj g m s (xs.map f))) (hx : opd A x = some (f y)) (hi : i < xs.length)
  (hl : ∀ a b, b3q (leaves (f b)) (f a) = true ∧ (leaves (f a)).length = (tyS cx.P T).size ∧ 0 < (leaves (f a)).length ∧ (leaves (f a)).length ≤ (leaves (f b)).length ∧ T6 (leaves (f a)) (leaves (f b)) = true ∧ putAt (f b) 0 (f a) = f a) (hm : m ≠ 2)
  (hko : slotOk keep (.h id) (.obj g m s ((xs.set i y).map f)) = true)
  (h : XR cx keep ops0 r ((.h id, .obj g m s ((xs.set i y).map f)) :: A) fun A' lg => Q A' ((rds a ++ (rds x ++ [.h id, .h id, .h id]), [.h id]) :: lg)) :
  XR cx keep ops0 (⟨none, .store T a x, ty, pos, aft, none⟩ :: r) A Q := c0o ha hx ho hi hl hm hko h
theorem G5 {T id g m s : Nat} {a x : Operand} {e v : AV} (ha : opd A a = some (.ptr id g none 0 0)) (hx : opd A x = some v) (ho : look A (.h id) = some (.obj g m s [e]))
  (hl : b3q (leaves e) v = true) (hc : m ≠ 2 ∧ (leaves v).length = (tyS cx.P T).size ∧ 0 < (leaves v).length ∧ (leaves v).length ≤ (leaves e).length ∧ T6 (leaves v) (leaves e) = true) (hp : putAt e 0 v = v)
  (hko : slotOk keep (.h id) (.obj g m s [v]) = true)
  (h : XR cx keep ops0 r ((.h id, .obj g m s [v]) :: A) fun A' lg => Q A' ((rds a ++ (rds x ++ [.h id, .h id, .h id]), [.h id]) :: lg)) :
  XR cx keep ops0 (⟨none, .store T a x, ty, pos, aft, none⟩ :: r) A Q :=
 a3t (i := 0) (j := 0) ha hx ho rfl hl ⟨hc.1, hc.2.1, hc.2.2.1, by have := hc.2.2.2.1; omega, hc.2.2.2.2⟩ (by rw [hp]; exact hko) (by rw [hp]; exact h)
theorem N4 {α : Type} {f : α → AV} {xs ys : List α} {T T' E s id g n id2 g2 m2 off n2 : Nat} {x y : Operand} {z : AV} (hx : opd A x = some (.sl id g none 0 n)) (hy : opd A y = some (.sl id2 g2 none off n2)) (ho : look A (.h id) = some (.obj g 0 s (xs.map f))) (ho2 : look A (.h id2) = some (.obj g2 m2 s (ys.map f)))
  (hid : id2 < 1000000) (hb2 : bxB m2 none = false) (hn : n = (xs.map f).length) (hn2 : off + n2 ≤ ys.length) (hT : O8 cx.P T = some (E, s)) (hT' : O4 (tyS cx.P T').k = true) (hz : X6 cx.P E = some (z, s)) (hb : (tyS cx.P E).bytes ≤ 4096)
  (hf : ∀ a, (leaves (f a)).all cellLeaf = true ∧ M3 (f a) = true ∧ L4 (f a) = true)
  (hle : xs.length + n2 ≤ H6) (hk : ∀ g, slotOk keep (.t d) (.sl (tid d 0) g none 0 (xs ++ (ys.drop off).take n2).length) = true)
  (h : ∀ g', XR cx keep ops0 r ((.t d, .sl (tid d 0) g' none 0 (xs ++ (ys.drop off).take n2).length) :: (.h (tid d 0), .obj g' 0 s ((xs ++ (ys.drop off).take n2).map f)) :: (.h id, .dead g) :: A) fun A' lg => Q A' ((rds x ++ (rds y ++ [.h id2, .h id2, .h id, .h (tid d 0)]), [.h id, .h (tid d 0), .t d]) :: lg)) :
  XR cx keep ops0 (⟨some d, .call ⟨.builtin .append, #[x, y], #[T, T']⟩, ty, pos, aft, none⟩ :: r) A Q := by
 obtain ⟨h1, h2, h3, h4⟩ := R7 hz
 have hl2 : ((ys.drop off).take n2).length = n2 := by simp; omega
 have el : (xs ++ (ys.drop off).take n2).length = xs.length + n2 := by rw [List.length_append, hl2]
 have em : (((ys.map f).drop off).take n2) = ((ys.drop off).take n2).map f := by rw [List.map_take, List.map_drop]
 subst hn
 refine a0y (v := fun g' => .sl (tid d 0) g' none 0 (xs ++ (ys.drop off).take n2).length) (ws := fun g' => [(.h id, .dead g), (.h (tid d 0), .obj g' 0 s ((xs ++ (ys.drop off).take n2).map f))]) (ls := rds x ++ (rds y ++ [.h id2, .h id2, .h id, .h (tid d 0)])) rfl ?_
  (fun g => E7 (by simp [slotOk, refOkV]) (E7 (B3 (A6 fun a => (hf a).2.1)) (I6 (hk g)))) (fun g => rfl) (fun g => a1k _ _ _ _ _ _ _) h
 simp only [aopV, dstOf]
 refine A8 (I5 (show wpA (CW cx) A (.ret d) _ from ?_))
 show wpW (CW cx) (puts A []) _ _
 refine A8 (E6 hT' (A8 (J9 hx (A8 (J9 hy ?_)))))
 unfold a2r
 refine A8 (R6 hT (A8 (E6 ⟨hb, h3, h4⟩ (A8 ?_))))
 simp only [c2l]
 refine A8 (J6 ho2 (A8 (E6 h2.symm ?_)))
 rw [if_neg (by omega)]
 refine A8 (I5 ?_)
 simp only [slc, rdNode, F0]
 rw [O5 (by exact ho2)]
 simp only [F0, G1, F8, hb2, List.length_map, hn2, true_and, and_true, List.append_nil, List.nil_append]
 rw [em, if_pos (a2v fun a => (hf a).2.2)]
 refine C7 ?_
 refine A8 (E6 (a6a fun a => (hf a).1) ?_)
 refine A8 (J6 ho (A8 (E6 ⟨rfl, by simp, h2.symm, by simp only [List.length_map, hl2]; exact hle⟩ (A8 (J1 (A8 (K4 fun o => A8 (J1 (C7 ?_)))))))))
 have e3 : xs.length + (((ys.drop off).take n2).map f).length = (xs ++ (ys.drop off).take n2).length := by rw [el, List.length_map, hl2]
 have e4 : List.take xs.length (xs.map f) = xs.map f := by rw [← List.length_map (f := f), List.take_length]
 exact ⟨I0 o + 1, by rw [e3], by simp only [e4, List.map_append]; simp, by simp⟩
theorem a6x {x : Operand} {T E id g n m : Nat} {p : Option (Nat × Nat)} {off : Nat} {hi : Option Operand} {ls1 : List Mv.Loc} (hx : opd A x = some (.sl id g p off n)) (hT : (tyS cx.P T).k = .slice E) (hb : P5 (tyS cx.P E).k = false)
  (hh : wpA (CW cx) A (optNat hi n) fun k ls => k = m ∧ ls = ls1) (hc : m ≤ n) (hk : slotOk keep (.t d) (.sl id g p off m) = true)
  (h : XR cx keep ops0 r ((.t d, .sl id g p off m) :: A) fun A' lg => Q A' ((rds x ++ ls1, [.t d]) :: lg)) : XR cx keep ops0 (⟨some d, .slice T x none hi none, ty, pos, aft, none⟩ :: r) A Q := by
 refine K9 (fun o ho => by simp only [aopV, ho]) ?_ hk h
 simp only [opV, F0, F6 hx, sliceA, hT, optNat, F8, List.nil_append]
 refine P6 ?_ hh
 rintro _ _ ⟨rfl, rfl⟩
 simp only [G1, hb, F8, ne_eq, not_true_eq_false, false_and, if_false, if_true, List.append_nil, List.nil_append, and_self, and_true, true_and, true_or, Nat.le_refl, Nat.zero_le, hc]
theorem c0j {x : Operand} {T E id g n m l k0 s : Nat} {off : Nat} {lo hi : Option Operand} {es : List AV} {ls1 ls2 : List Mv.Loc} (hx : opd A x = some (.sl id g none off n)) (ho : look A (.h id) = some (.obj g k0 s es)) (hT : O8 cx.P T = some (E, s))
  (hh : wpA (CW cx) A (optNat hi n) fun k ls => k = m ∧ ls = ls1) (hl : wpA (CW cx) A (optNat lo 0) fun k ls => k = l ∧ ls = ls2) (hc : l ≤ m ∧ m ≤ n) (hl0 : l ≠ 0) (hk : slotOk keep (.t d) (.sl id g none (off + l) (m - l)) = true)
  (h : XR cx keep ops0 r ((.t d, .sl id g none (off + l) (m - l)) :: A) fun A' lg => Q A' ((rds x ++ (ls1 ++ (ls2 ++ [.h id])), [.t d]) :: lg)) : XR cx keep ops0 (⟨some d, .slice T x lo hi none, ty, pos, aft, none⟩ :: r) A Q := by
 refine K9 (fun o ho => by simp only [aopV, ho]) ?_ hk h
 unfold O8 at hT
 split at hT
 ·rename_i E' hE
  split at hT
  ·rename_i hbad'
   simp only [Option.some.injEq, Prod.mk.injEq] at hT
   obtain ⟨rfl, hs⟩ := hT
   simp only [opV, F0, F6 hx, sliceA, hE, optNat, F8, List.nil_append]
   refine P6 ?_ hh
   rintro _ _ ⟨rfl, rfl⟩
   refine P6 ?_ hl
   rintro _ _ ⟨rfl, rfl⟩
   simp only [G1, hbad', ne_eq, not_true_eq_false, false_and, if_false, and_self, and_true, true_and, true_or, Nat.le_refl, hc, hl0, F0, rdNode, O5 ho, F8, hs, List.nil_append, List.append_nil, List.append_assoc, List.singleton_append]
  ·cases hT
 ·cases hT
theorem J4 {C : Caller} {A : Asr} {x : Operand} {k : IntKind} {n : Nat} {dflt : Nat} (h : opd A x = some (.val (.int k (n : Int)))) : wpA C A (optNat (some x) dflt) fun m ls => m = n ∧ ls = rds x := by
 have := Q3 (C := C) (dflt := dflt) h (Int.natCast_nonneg n)
 simpa using this
theorem c9y {α : Type} {C : Caller} {A : Asr} {x : Rd α} {R : α → Ws → List Mv.Loc → Prop} {ls0 : List Mv.Loc} (h : wpA C A x fun a ls => (∀ l ∈ ls, l ∈ ls0) ∧ R a [] ls0) : wpW C A (up x) R := by
 intro st hs
 obtain ⟨a, ls, h1, h2, h3⟩ := b5i hs _ _ h
 exact ⟨a, [], ls, ls0, c1f x h1, h2, h3⟩
theorem a9x {x : Operand} {T E id g n m l k0 s : Nat} {off : Nat} {lo hi : Option Operand} {es : List AV} {ls1 ls2 : List Mv.Loc} (hx : opd A x = some (.sl id g none off n)) (ho : look A (.h id) = some (.obj g k0 s es)) (hT : O8 cx.P T = some (E, s))
  (hh : wpA (CW cx) A (optNat hi n) fun k ls => k = m ∧ ls = ls1) (hl : wpA (CW cx) A (optNat lo 0) fun k ls => k = l ∧ ls = ls2) (hc : l ≤ m ∧ m ≤ n) (hk : slotOk keep (.t d) (.sl id g none (off + l) (m - l)) = true)
  (h : XR cx keep ops0 r ((.t d, .sl id g none (off + l) (m - l)) :: A) fun A' lg => Q A' ((rds x ++ (ls1 ++ (ls2 ++ [.h id])), [.t d]) :: lg)) : XR cx keep ops0 (⟨some d, .slice T x lo hi none, ty, pos, aft, none⟩ :: r) A Q := by
 by_cases hl0 : l = 0
 ·refine c6r (v := .sl id g none (off + l) (m - l)) (ws := []) (ls := rds x ++ (ls1 ++ (ls2 ++ [.h id]))) rfl ?_ (I6 hk) (fun k b hb => by rw [← hb]; exact (a3r A _ _ k).symm) h
  show wpW (CW cx) A (up (opV cx (.slice T x lo hi none))) _
  refine c9y (ls0 := rds x ++ (ls1 ++ (ls2 ++ [.h id]))) ?_
  unfold O8 at hT
  split at hT
  ·rename_i E' hE
   split at hT
   ·rename_i hbad'
    simp only [opV, F0, F6 hx, sliceA, hE, optNat, F8, List.nil_append]
    refine P6 ?_ hh
    rintro _ _ ⟨rfl, rfl⟩
    refine P6 ?_ hl
    rintro _ _ ⟨rfl, rfl⟩
    simp only [G1, hbad', ne_eq, not_true_eq_false, false_and, if_false, and_self, and_true, true_and, true_or, Nat.le_refl, hc, hl0, if_true, F8, Nat.add_zero, Nat.sub_zero, List.append_nil]
    refine ⟨Nat.zero_le _, fun q hq => ?_⟩
    simp only [List.mem_append] at hq ⊢
    rcases hq with hq | hq | hq
    ·exact .inl hq
    ·exact .inr (.inl hq)
    ·exact .inr (.inr (.inl hq))
   ·cases hT
  ·cases hT
 ·exact c0j hx ho hT hh hl hc hl0 hk h
theorem d1z {x : Operand} {T E id g n : Nat} {hi mx : Operand} {k k' : IntKind} (hx : opd A x = some (.sl id g none 0 n)) (hT : (tyS cx.P T).k = .slice E) (hb : P5 (tyS cx.P E).k = false)
  (hh : opd A hi = some (.val (.int k n))) (hm : opd A mx = some (.val (.int k' n))) (hk : slotOk keep (.t d) (.sl id g none 0 n) = true)
  (h0 : n = 0 → XR cx keep ops0 r ((.t d, .nil) :: A) fun A' lg => Q A' ((rds x ++ (rds mx ++ rds hi), [.t d]) :: lg))
  (h : n ≠ 0 → XR cx keep ops0 r ((.t d, .sl id g none 0 n) :: A) fun A' lg => Q A' ((rds x ++ (rds mx ++ rds hi), [.t d]) :: lg)) : XR cx keep ops0 (⟨some d, .slice T x none (some hi) (some mx), ty, pos, aft, none⟩ :: r) A Q := by
 have e : (n : Int).toNat = n := by simp
 by_cases hn : n = 0
 ·refine K9 (v := .nil) (fun o ho => by simp only [aopV, ho]) ?_ (by simp [slotOk, refOkV, refsOk]) (h0 hn)
  simp only [opV, F0, F6 hx, sliceA, hT, optNat, F6 hh, F6 hm, V7 (Int.natCast_nonneg n), e, F8, G1, hb]
  simp [hn, wpA]
 ·refine K9 (v := .sl id g none 0 n) (fun o ho => by simp only [aopV, ho]) ?_ hk (h hn)
  simp only [opV, F0, F6 hx, sliceA, hT, optNat, F6 hh, F6 hm, V7 (Int.natCast_nonneg n), e, F8, G1, hb]
  simp [hn, wpA]
end
theorem b4v {α : Type} {f : α → AV} {xs : List α} (h : ∀ a, hasList (f a) = false) : H1 (xs.map f) = false := by
 induction xs with
 | nil => rfl
 | cons x xs ih => simp [H1, h, ih]
end Go.Mv
end

section
namespace Go.Mv
open Go
theorem a5q (x : Int) (r : List Int) : (a6z x r).Perm (x :: r) := by
 induction r with
 | nil => exact .refl _
 | cons y r ih =>
  simp only [a6z]
  split
  ·exact .refl _
  ·exact (List.Perm.cons y ih).trans (List.Perm.swap x y r)
theorem a7b (xs : List Int) : (U7 xs).Perm xs := by
 induction xs with
 | nil => exact .refl _
 | cons x r ih => exact (a5q x (U7 r)).trans (List.Perm.cons x ih)
theorem a1h (x : Int) (r : List Int) (h : r.Pairwise (· ≤ ·)) : (a6z x r).Pairwise (· ≤ ·) := by
 induction r with
 | nil => simp [a6z]
 | cons y r ih =>
  simp only [a6z]
  have h2 := List.pairwise_cons.1 h
  split
  ·rename_i hxy
   refine List.pairwise_cons.2 ⟨fun z hz => ?_, h⟩
   rcases List.mem_cons.1 hz with rfl | hz
   ·exact hxy
   ·have := h2.1 z hz; omega
  ·rename_i hxy
   refine List.pairwise_cons.2 ⟨fun z hz => ?_, ih h2.2⟩
   rcases List.mem_cons.1 ((a5q x r).mem_iff.1 hz) with rfl | hz
   ·omega
   ·exact h2.1 z hz
theorem X7 (xs : List Int) : (U7 xs).Pairwise (· ≤ ·) := by
 induction xs with
 | nil => exact .nil
 | cons x r ih => exact a1h x _ ih
theorem b8h {xs ys : List Int} (hp : ys.Perm xs) (hs : ys.Pairwise (· ≤ ·)) : ys = U7 xs :=
 List.Perm.eq_of_pairwise (le := (· ≤ ·)) (fun a b _ _ h1 h2 => by omega) hs (X7 xs) (hp.trans (a7b xs).symm)
theorem b0a {s : List Int} (h : s.Pairwise (· ≤ ·)) {i j : Nat} (hij : i ≤ j) (hj : j < s.length) : s.getD i default ≤ s.getD j default := by
 rw [List.getD_eq_getElem?_getD, List.getD_eq_getElem?_getD, List.getElem?_eq_getElem (by omega), List.getElem?_eq_getElem hj]
 rcases Nat.lt_or_ge i j with h1 | h1
 ·exact List.pairwise_iff_getElem.1 h i j (by omega) hj h1
 ·have : i = j := by omega
  subst this
  exact Int.le_refl _
theorem a4h {xs : List Int} {x : Int} (h : x ∈ xs) : ∃ i, i < xs.length ∧ xs.getD i default = x := by
 obtain ⟨i, hi, rfl⟩ := List.getElem_of_mem h
 exact ⟨i, hi, by rw [List.getD_eq_getElem?_getD, List.getElem?_eq_getElem hi]; rfl⟩
theorem a6o {out : List Int} {x : Int} {k : Nat} (hs : out.Pairwise (· ≤ ·)) (hk : k ≤ out.length) (h1 : ∀ j, j < k → out.getD j default ≤ x) (h2 : k < out.length → x ≤ out.getD k default) :
  out.take k ++ [x] ++ out.drop k = a6z x out := by
 have hp : (out.take k ++ [x] ++ out.drop k).Perm (x :: out) := by
  have := (List.perm_middle (l₁ := out.take k) (l₂ := out.drop k) (a := x))
  rw [List.take_append_drop] at this
  rw [List.append_assoc]; exact this
 have hsrt : (out.take k ++ [x] ++ out.drop k).Pairwise (· ≤ ·) := by
  rw [List.append_assoc, List.pairwise_append]
  refine ⟨hs.take, ?_, ?_⟩
  ·rw [List.singleton_append, List.pairwise_cons]
   refine ⟨fun b hb => ?_, hs.drop⟩
   obtain ⟨i, hi, rfl⟩ := a4h hb
   rw [List.length_drop] at hi
   have e : (out.drop k).getD i default = out.getD (k + i) default := by rw [List.getD_eq_getElem?_getD, List.getD_eq_getElem?_getD, List.getElem?_drop]
   rw [e]
   exact Int.le_trans (h2 (by omega)) (b0a hs (by omega) (by omega))
  ·intro a ha b hb
   obtain ⟨i, hi, rfl⟩ := a4h ha
   rw [List.length_take] at hi
   have e : (out.take k).getD i default = out.getD i default := by rw [List.getD_eq_getElem?_getD, List.getD_eq_getElem?_getD, List.getElem?_take, if_pos (by omega)]
   rw [e]
   rw [List.singleton_append, List.mem_cons] at hb
   rcases hb with rfl | hb
   ·exact h1 i (by omega)
   ·obtain ⟨j, hj, rfl⟩ := a4h hb
    rw [List.length_drop] at hj
    have e2 : (out.drop k).getD j default = out.getD (k + j) default := by rw [List.getD_eq_getElem?_getD, List.getD_eq_getElem?_getD, List.getElem?_drop]
    rw [e2]
    exact b0a hs (by omega) (by omega)
 exact List.Perm.eq_of_pairwise (le := (· ≤ ·)) (fun a b _ _ h1 h2 => by omega) hsrt (a1h x out hs) (hp.trans (a5q x out).symm)
theorem a9q {out : List Int} {x : Int} {k : Nat} (hs : out.Pairwise (· ≤ ·)) (hk : k ≤ out.length) (h1 : ∀ j, j < k → out.getD j default ≤ x) (h2 : k < out.length → x ≤ out.getD k default) :
  (([] ++ (out.drop 0).take k) ++ [x]) ++ (out.drop (0 + k)).take (out.length - k) = a6z x out := by
 rw [← a6o hs hk h1 h2]
 simp
 exact List.take_of_length_le (by simp)
theorem b1o {xs : List Int} {i : Nat} (h : i < xs.length) : U7 (xs.take (i + 1)) = a6z (xs.getD i default) (U7 (xs.take i)) := by
 refine (b8h ?_ (a1h _ _ (X7 _))).symm
 have e : xs.take (i + 1) = xs.take i ++ [xs.getD i default] := by
  rw [List.take_add_one, List.getD_eq_getElem?_getD, List.getElem?_eq_getElem h]; rfl
 rw [e]
 exact ((a5q _ _).trans (List.Perm.cons _ (a7b _))).trans (List.perm_append_comm (l₁ := [xs.getD i default]) (l₂ := xs.take i))
def bitN (s i : Nat) : Nat := s / 2 ^ i % 2
theorem c5e (s i : Nat) : bitN s i = 1 ↔ s.testBit i = true := by
 unfold bitN
 rw [Nat.testBit_eq_decide_div_mod_eq, decide_eq_true_eq]
theorem d0h (s i : Nat) : bitN s i = 0 ∨ bitN s i = 1 := by unfold bitN; omega
theorem b1s (i j : Nat) : bitN (2 ^ i) j = 1 ↔ j = i := by
 rw [c5e, Nat.testBit_two_pow]
 simp [eq_comm]
section
variable {cx : Cx} {keep : List Nat} {ops0 : Array Oper} {r : List Oper} {A : Asr} {Q : Asr → List Log → Prop} {d : Nat} {ty : Nat} {pos : String} {aft : Array Edge}
end
end Go.Mv
end

section
namespace Go.Mv
open Go Classical
section
variable {cx : Cx} {keep : List Nat} {ops0 : Array Oper} {r : List Oper} {A : Asr} {Q : Asr → List Log → Prop} {d : Nat} {ty : Nat} {pos : String} {aft : Array Edge}
theorem c8r {T z : Nat} {a b : Operand} {x y : ByteArray} {t : Bool} (ha : opd A a = some (.val (.string x))) (hb : opd A b = some (.val (.string y))) (ht : (x.toList == y.toList) = t)
  (h : XR cx keep ops0 r ((.t d, bV t) :: A) fun A' lg => Q A' ((rds a ++ rds b, [.t d]) :: lg)) : XR cx keep ops0 (⟨some d, .binOp .eql T a b z, ty, pos, aft, none⟩ :: r) A Q := by
 subst ht; exact K0 ha hb h
end
def a8k (lo hi : Int) (xs : List Int) : Bool := xs.all fun x => decide (lo ≤ x) && decide (x ≤ hi)
theorem a4f {lo hi : Int} {xs : List Int} : a8k lo hi xs = true ↔ ∀ i, i < xs.length → lo ≤ xs.getD i default ∧ xs.getD i default ≤ hi := by
 unfold a8k
 rw [List.all_eq_true]
 constructor
 ·intro h i hi'
  have := h _ (a7p hi')
  simpa using this
 ·intro h x hx
  obtain ⟨i, hi', rfl⟩ := a4h hx
  simpa using h i hi'
def c6g (l : List Int) (s : Nat) : Nat → List Int
 | 0 => []
 | k + 1 => if bitN s k = 1 then c6g l s k ++ [l.getD k default] else c6g l s k
def sel (l : List Int) (s : Nat) : List Int := c6g l s l.length
theorem b9l (l : List Int) (i : Nat) : ∀ k, c6g l (2 ^ i) k = if i < k then [l.getD i default] else []
 | 0 => by simp [c6g]
 | k + 1 => by
  unfold c6g
  rw [b9l l i k]
  by_cases e : k = i
  ·subst e; rw [if_pos ((b1s k k).2 rfl)]; simp
  ·rw [if_neg (fun h => e ((b1s i k).1 h))]
   by_cases h : i < k
   ·rw [if_pos h, if_pos (by omega)]
   ·rw [if_neg h, if_neg (by omega)]
theorem d0u {l : List Int} {i : Nat} (hi : i < l.length) : sel l (2 ^ i) = [l.getD i default] := by
 unfold sel; rw [b9l, if_pos hi]
def Fnd (e : Bool) (s : List Int) (lev : Int) : Prop := ∃ i, i < s.length ∧ s.getD i default * s.length ≤ if e then ((i : Int) + 1) * lev else lev
theorem Fnd.mono {e : Bool} {s : List Int} {lev lev' : Int} (h : Fnd e s lev) (hl : lev ≤ lev') : Fnd e s lev' := by
 obtain ⟨i, hi, h⟩ := h
 refine ⟨i, hi, ?_⟩
 cases e
 ·simp only [Bool.false_eq_true, if_false] at h ⊢; omega
 ·simp only [if_true] at h ⊢
  have := Int.mul_le_mul_of_nonneg_left hl (show (0 : Int) ≤ (i : Int) + 1 by omega)
  omega
theorem Fnd.each {e : Bool} {s : List Int} {lev : Int} (h : Fnd e s lev) (h0 : 0 ≤ lev) : Fnd true s lev := by
 obtain ⟨i, hi, h⟩ := h
 refine ⟨i, hi, ?_⟩
 cases e
 ·simp only [Bool.false_eq_true, if_false, if_true] at h ⊢
  have := Int.mul_le_mul_of_nonneg_right (show (1 : Int) ≤ (i : Int) + 1 by omega) h0
  omega
 ·exact h
def CPr (l : List Int) (lev : Int) (e : Bool) (i : Nat) : Prop := ∀ s, 1 ≤ s → s < 2 ^ l.length → bitN s i = 1 → Fnd e (U7 (sel l s)) lev
noncomputable def d3d (l : List Int) (lev : Int) (e : Bool) (k : Nat) : List Int := ((List.range k).filter fun i => decide (CPr l lev e i)).map Int.ofNat
noncomputable def clo (l : List Int) (lev : Int) (e : Bool) : List Int := d3d l lev e l.length
theorem CPr.le {l : List Int} {lev : Int} {e : Bool} {i : Nat} (h : CPr l lev e i) (hi : i < l.length) : l.getD i default ≤ lev := by
 have := h (2 ^ i) (Nat.one_le_two_pow) (Nat.pow_lt_pow_right (by decide) hi) ((b1s i i).2 rfl)
 rw [d0u hi] at this
 obtain ⟨j, hj, h2⟩ := this
 have : j = 0 := by simp [U7, a6z] at hj; omega
 subst this
 cases e <;> simp [U7, a6z] at h2 <;> simpa using h2
def Mis (l : List Int) (lev : Int) (e : Bool) (s mi : Nat) : Prop := 1 ≤ s ∧ s ≤ 2 ^ l.length ∧ mi < 2 ^ l.length ∧ ∀ i, i < l.length → (bitN mi i = 1 ↔ ∃ s', 1 ≤ s' ∧ s' < s ∧ bitN s' i = 1 ∧ ¬ Fnd e (U7 (sel l s')) lev)
theorem Mis.start (l : List Int) (lev : Int) (e : Bool) : Mis l lev e 1 0 := by
 refine ⟨Nat.le_refl _, Nat.one_le_two_pow, Nat.two_pow_pos _, fun i hi => ⟨fun h => ?_, fun ⟨s', h1, h2, _⟩ => by omega⟩⟩
 unfold bitN at h; simp at h
theorem Mis.fin {l : List Int} {lev : Int} {e : Bool} {s mi : Nat} (h : Mis l lev e s mi) (hs : 2 ^ l.length ≤ s) {i : Nat} (hi : i < l.length) : bitN mi i = 0 ↔ CPr l lev e i := by
 obtain ⟨h1, h2, h3, h4⟩ := h
 have := h4 i hi
 have h5 := d0h mi i
 constructor
 ·intro h0 s' q1 q2 q3
  refine Classical.byContradiction fun hn => ?_
  have := this.2 ⟨s', q1, by omega, q3, hn⟩
  omega
 ·intro hc
  rcases h5 with h5 | h5
  ·exact h5
  ·obtain ⟨s', q1, q2, q3, q4⟩ := this.1 h5
   exact absurd (hc s' q1 (by omega) q3) q4
theorem d0i {xs : List Int} {q : Int → Bool} {i : Nat} (hi : i < xs.length) (h : q (xs.getD i default) = true) : decide (0 ≤ (i : Int)) = xs.any q := by
 rw [decide_eq_true (Int.natCast_nonneg i)]
 exact (List.any_eq_true.2 ⟨_, a7p hi, h⟩).symm
theorem c6y {xs : List Int} {q : Int → Bool} (h : ∀ j, j < xs.length → q (xs.getD j default) = false) : decide (0 ≤ (-1 : Int)) = xs.any q := by
 have : xs.any q = false := by
  rw [List.any_eq_false]
  intro x hx
  obtain ⟨i, hi, rfl⟩ := a4h hx
  rw [h i hi]; decide
 rw [this]; rfl
theorem c8f (lo hi : Int) (xs : List Int) : (!(xs.any fun x => !(decide (lo ≤ x) && decide (x ≤ hi)))) = a8k lo hi xs := by
 unfold a8k
 rw [List.not_any_eq_all_not]
 simp
theorem L8 {α : Type} [Inhabited α] {xs : List α} {i : Nat} (h : i < xs.length) : xs.getD i default ∈ xs := by
 rw [List.getD_eq_getElem?_getD, List.getElem?_eq_getElem h]
 exact List.getElem_mem h
def FndAt (e : Bool) (s : List Int) (lev : Int) (j : Nat) : Prop := (e = true ∧ s.getD j default * (s.length : Int) ≤ lev * ((j : Int) + 1)) ∨ s.getD j default * (s.length : Int) ≤ lev
theorem FndAt.none {e : Bool} {s : List Int} {lev : Int} (hl : 0 ≤ lev ∧ lev ≤ 1000) (h : ∀ j, j < s.length → ¬ FndAt e s lev j) : ¬ Fnd e s lev := by
 rintro ⟨j, hj, hf⟩
 refine h j hj ?_
 cases e
 ·exact .inr hf
 ·rw [if_pos rfl] at hf
  exact .inl ⟨rfl, by rw [Int.mul_comm lev]; exact hf⟩
theorem CPr.each {l : List Int} {lev : Int} {e : Bool} {i : Nat} (h : CPr l lev e i) (h0 : 0 ≤ lev) : CPr l lev true i := fun s h1 h2 h3 => (h s h1 h2 h3).each h0
theorem CPr.mono {l : List Int} {lev lev' : Int} {e : Bool} {i : Nat} (h : CPr l lev e i) (h0 : lev ≤ lev') : CPr l lev' e i := fun s h1 h2 h3 => (h s h1 h2 h3).mono h0
end Go.Mv
end

section
namespace Go.Mv
open Go
section
variable {cx : Cx} {keep : List Nat} {ops0 : Array Oper} {r : List Oper} {A : Asr} {Q : Asr → List Log → Prop} {d : Nat} {ty : Nat} {pos : String} {aft : Array Edge}
theorem a3m {α : Type} [Inhabited α] {f : α → AV} {xs : List α} {y : α} {v : AV} {T id g m s i j : Nat} {a x : Operand} (ha : opd A a = some (.ptr id g none i j)) (ho : look A (.h id) = some (.obj g m s (xs.map f))) (hx : opd A x = some v) (hi : i < xs.length)
  (hl : b3q ((leaves (f (xs.getD i default))).drop j) v = true)
  (hc : (leaves v).length = (tyS cx.P T).size ∧ 0 < (leaves v).length ∧ j + (leaves v).length ≤ (leaves (f (xs.getD i default))).length ∧ T6 (leaves v) ((leaves (f (xs.getD i default))).drop j) = true) (hm : m ≠ 2)
  (hp : putAt (f (xs.getD i default)) j v = f y)
  (hko : slotOk keep (.h id) (.obj g m s ((xs.set i y).map f)) = true)
  (h : XR cx keep ops0 r ((.h id, .obj g m s ((xs.set i y).map f)) :: A) fun A' lg => Q A' ((rds a ++ (rds x ++ [.h id, .h id, .h id]), [.h id]) :: lg)) :
  XR cx keep ops0 (⟨none, .store T a x, ty, pos, aft, none⟩ :: r) A Q := by
 have he : (xs.map f)[i]? = some (f (xs.getD i default)) := by rw [List.getElem?_map, List.getElem?_eq_getElem hi, List.getD_eq_getElem?_getD, List.getElem?_eq_getElem hi]; rfl
 have hs : (xs.map f).set i (putAt (f (xs.getD i default)) j v) = (xs.set i y).map f := by rw [hp, List.map_set]
 refine a3t ha hx ho he hl ⟨hm, hc.1, hc.2.1, hc.2.2.1, hc.2.2.2⟩ (by rw [hs]; exact hko) ?_
 rw [hs]
 exact h
end
def mkI (k : Int) (n : Nat) : List Int := (List.range n).map fun i : Nat => k + (i : Int)
@[simp] theorem mkI_length (k : Int) (n : Nat) : (mkI k n).length = n := by simp [mkI]
def mkF (k : Int) (n : Nat) : List (Int × Int) := (List.range n).map fun i : Nat => (k + 2 * (i : Int), k + 2 * (i : Int) + 1)
@[simp] theorem mkF_length (k : Int) (n : Nat) : (mkF k n).length = n := by simp [mkF]
end Go.Mv
end

section
namespace Go.Mv
open Go
section
variable {cx : Cx} {keep : List Nat} {ops0 : Array Oper} {r : List Oper} {A : Asr} {Q : Asr → List Log → Prop} {d : Nat} {ty : Nat} {pos : String} {aft : Array Edge}
end
end Go.Mv
namespace Go.Mv
open Go
section
variable {cx : Cx} {keep : List Nat} {ops0 : Array Oper} {r : List Oper} {A : Asr} {Q : Asr → List Log → Prop} {d : Nat} {ty : Nat} {pos : String} {aft : Array Edge}
end
theorem d0z {cx : Cx} {keep : List Nat} {A B : Asr} {c : Code} {Q : AExit → Asr → Prop} (h : HasL A B) (hx : XA cx keep c B Q) : XA cx keep c A Q := fun st hs => hx st (h.sat hs)
end Go.Mv
namespace Go.Mv
open Go
theorem a2f {keep : List Nat} {id g m s : Nat} {es : List AV} (h : H5 es = true) (hm : ¬ (m = 3 ∨ m = 4)) : slotOk keep (.h id) (.obj g m s es) = true := by
 simp [slotOk, refOkV, h, hm]
end Go.Mv
namespace Go.Mv
open Go
end Go.Mv
end

section
namespace Go.Mv
open Go
def vd (xs : List Int) : Bool := decide (xs.length ≤ 10) && a8k (-200) 200 xs
theorem a2z {xs : List Int} (h : vd xs = true) : xs.length ≤ 10 := by
 simp only [vd, Bool.and_eq_true, decide_eq_true_eq] at h; exact h.1
theorem c3q {lo hi : Int} {xs : List Int} (h : ∀ i, i < xs.length → lo ≤ xs.getD i default ∧ xs.getD i default ≤ hi) : a8k lo hi xs = true := a4f.2 h
theorem b9m {lo hi : Int} {xs : List Int} {i : Nat} (hi' : i < xs.length) (h : ¬ (lo ≤ xs.getD i default ∧ xs.getD i default ≤ hi)) : a8k lo hi xs = false := by
 rw [Bool.eq_false_iff]
 exact fun h2 => h (a4f.1 h2 i hi')
end Go.Mv
end

section
namespace Go.Mv
open Go
theorem d2i {xs : List Int} (h : vd xs = true) : a8k (-200) 200 xs = true := by
 simp only [vd, Bool.and_eq_true] at h; exact h.2
end Go.Mv
end

section
namespace Go.Mv
open Go
section
variable {cx : Cx} {keep : List Nat} {A : Asr} {Q : AExit → Asr → Prop}
theorem c8u {β : Type} {a b : Code} (K : Asr) (_ : HasL A K) (I : β → Asr) (P : β → Prop) (ha : XA cx keep a A fun r A' => match r with
   | .normal => ∃ b, P b ∧ HasL A' (K ++ I b)
   | r => Q r A')
  (hb : ∀ x, P x → XA cx keep b (K ++ I x) Q) : XA cx keep (.seq a b) A Q := by
 refine A4 ?_
 intro st hs
 obtain ⟨n, r, st1, h1, A', h2, h3⟩ := ha st hs
 refine ⟨n, r, st1, h1, A', h2, ?_⟩
 cases r with
 | normal =>
  obtain ⟨x, hp, hl⟩ := h3
  exact d0z hl (hb x hp)
 | ret => exact h3
 | exit i => exact h3
theorem b9y {a b c : Code} (h : XA cx keep (.seq a (.seq b c)) A Q) : XA cx keep (.seq (.seq a b) c) A Q := by
 intro st hs
 obtain ⟨n, r, st1, h1, h2⟩ := h st hs
 refine ⟨n + 1, r, st1, ?_, h2⟩
 cases n with
 | zero => simp [aexec] at h1
 | succ n =>
  simp only [aexec] at h1 ⊢
  cases ha : aexec (CW cx) cx keep n a st with
  | none => simp [ha] at h1
  | some x =>
   obtain ⟨r1, s1⟩ := x
   have ha' := W7 cx ha (Nat.le_succ n)
   simp only [ha] at h1
   cases r1 with
   | normal =>
    simp only at h1 ⊢
    cases n with
    | zero => simp [aexec] at ha
    | succ n =>
     simp only [aexec] at h1
     cases hb : aexec (CW cx) cx keep n b s1 with
     | none => simp [hb] at h1
     | some y =>
      obtain ⟨r2, s2⟩ := y
      have hb' := W7 cx hb (show n ≤ n + 1 by omega)
      simp only [hb] at h1
      simp only [ha, hb']
      cases r2 with
      | normal => exact W7 cx h1 (show n ≤ n + 1 + 1 by omega)
      | ret => simpa using h1
      | exit i => simpa using h1
   | ret => simpa [ha] using h1
   | exit i => simpa [ha] using h1
theorem N8 {body : Code} (h : XA cx keep body A fun r A' => match r with
  | .normal => XA cx keep (.loop body) A' Q
  | r => Q r A') : XA cx keep (.loop body) A Q := by
 intro st hs
 obtain ⟨n, r, st1, h1, A', h2, h3⟩ := h st hs
 cases r with
 | normal =>
  obtain ⟨m, r2, st2, k1, A2, k2, k3⟩ := h3 st1 h2
  refine ⟨max n m + 1, r2, st2, ?_, A2, k2, k3⟩
  simp only [aexec, W7 cx h1 (Nat.le_max_left n m), W7 cx k1 (Nat.le_max_right n m)]
 | ret => exact ⟨n + 1, _, st1, by simp only [aexec, h1], A', h2, h3⟩
 | exit i => exact ⟨n + 1, _, st1, by simp only [aexec, h1], A', h2, h3⟩
end
section
variable {cx : Cx} {keep : List Nat} {ops0 : Array Oper} {r : List Oper} {A : Asr} {Q : Asr → List Log → Prop} {d : Nat} {ty : Nat} {pos : String} {aft : Array Edge}
end
end Go.Mv
end

section
namespace Go.Mv
open Go
section
variable {cx : Cx} {keep : List Nat} {ops0 : Array Oper} {r : List Oper} {A : Asr} {Q : Asr → List Log → Prop} {d : Nat} {ty : Nat} {pos : String} {aft : Array Edge}
variable {C : Caller} {m f j : Nat} {cs fs : List AV} {G : Type} {vs : G → List AV} {ws : G → Ws} {ls : List Mv.Loc}
def a6r (C : Caller) (A : Asr) (m f j : Nat) (cs fs : List AV) {G : Type} (vs : G → List AV) (ws : G → Ws) (ls : List Mv.Loc) : Prop :=
 wpW C A (absorbLeaves m f j cs fs) fun a w l => ∃ g, a = vs g ∧ w = ws g ∧ l = ls
theorem a6w : a6r C A m f j cs [] (fun _ : Unit => []) (fun _ => []) [] := C7 ⟨(), rfl, rfl, rfl⟩
theorem a8z {v : AV} (h : Q9 (cs.headD .undef) v = true) (t : a6r C A m f (j + 1) cs.tail fs vs ws ls) (hm : m ≠ 2 := by decide) : a6r C A m f j cs (v :: fs) (fun g => v :: vs g) ws ls := by
 refine A8 (a4m hm h (A8 (H9 t ?_)))
 rintro _ _ _ ⟨g, rfl, rfl, rfl⟩
 exact C7 ⟨g, rfl, by simp, by simp⟩
theorem c3d {id g s n : Nat} {ys : List AV} (hid : 100000 ≤ id) (hne : id ≠ fid f j) (ho : look A (.h id) = some (.obj g 0 s ys)) (hn : n = ys.length)
  (t : ∀ g', a6r C (put (put A (.h id) (.dead g)) (.h (fid f j)) (.obj g' 0 s ys)) 3 f (j + 1) cs.tail fs vs ws ls) :
  a6r C A 3 f j cs (.sl id g none 0 n :: fs) (fun x : Nat × G => .sl (fid f j) x.1 none 0 n :: vs x.2) (fun x => (.h id, .dead g) :: (.h (fid f j), .obj x.1 0 s ys) :: ws x.2) (.h id :: .h (fid f j) :: ls) := by
 subst hn
 refine A8 ?_
 unfold J2
 simp only [if_true]
 rw [if_pos (by simp [hid, hne])]
 refine A8 (J6 ho ?_)
 simp only [if_true]
 refine A8 (E6 (Nat.le_refl _) (A8 (J1 (A8 (K4 fun o => A8 (J1 (C7 ?_)))))))
 have := t (I0 o + 1)
 simp only [List.take_length]
 refine A8 (H9 this ?_)
 rintro _ _ _ ⟨x, rfl, rfl, rfl⟩
 exact C7 ⟨(I0 o + 1, x), rfl, by simp, by simp⟩
theorem a5e {T id g s i : Nat} {a x : Operand} {es : List AV} {e : AV} (ha : opd A a = some (.ptr id g none i 0)) (hx : opd A x = some (.agg fs)) (ho : look A (.h id) = some (.obj g m s es)) (he : es[i]? = some e)
  (hl : a6r (CW cx) A m id 0 (leaves e) fs vs ws ls) (ho' : ∀ z, look (puts A (ws z)) (.h id) = some (.obj g m s es))
  (hc : m ≠ 2 ∧ fs.length = (tyS cx.P T).size ∧ 0 < fs.length ∧ fs.length ≤ (leaves e).length) (hf : ∀ z, T6 (vs z) (leaves e) = true) (hp : ∀ z, putAt e 0 (.agg (vs z)) = .agg (vs z))
  (hk : ∀ z, tRefsOk keep (keptWs keep (ws z ++ [(.h id, .obj g m s (es.set i (.agg (vs z))))])) = true)
  (h : ∀ z, XR cx keep ops0 r (Y0 A (ws z ++ [(.h id, .obj g m s (es.set i (.agg (vs z))))])) fun A' lg => Q A' ((rds a ++ (rds x ++ (.h id :: (ls ++ [.h id, .h id]))), Z7 (ws z ++ [(.h id, .obj g m s (es.set i (.agg (vs z))))])) :: lg)) :
  XR cx keep ops0 (⟨none, .store T a x, ty, pos, aft, none⟩ :: r) A Q := by
 refine c3m (v := fun _ => .undef) (ws := fun z => ws z ++ [(.h id, .obj g m s (es.set i (.agg (vs z))))]) (ls := rds a ++ (rds x ++ (.h id :: (ls ++ [.h id, .h id])))) rfl ?_ (fun z => ?_) (fun z => ?_) (fun z => ?_) (A1 := fun z => Y0 A (ws z ++ [(.h id, .obj g m s (es.set i (.agg (vs z))))]))
 ·simp only [aopV]
  refine A8 (E6 (by simp) (A8 (J9 ha (A8 (J9 hx (A8 ?_))))))
  unfold a8n
  rw [if_neg (by simp [a9l])]
  unfold a4u
  refine A8 (J6 ho ?_)
  simp only [he, if_true]
  refine A8 ?_
  simp only [absorb, List.drop_zero]
  refine A8 (H9 hl ?_)
  rintro _ _ _ ⟨z, rfl, rfl, rfl⟩
  refine C7 ?_
  have ho2 := ho' z
  refine A8 (J6 (by simpa [puts] using ho2) ?_)
  simp only [he]
  refine A8 (E6 (by refine ⟨trivial, hc.1, hc.2.1, hc.2.2.1, ?_, hf z, .inl trivial⟩; simpa [leaves] using hc.2.2.2) (A8 (I5 ?_)))
  simp only [wrNode]
  rw [O5 (v := .obj g m s es) (by simpa [puts] using ho2)]
  simp only [F8]
  refine J1 (C7 ?_)
  exact ⟨z, rfl, by simp [hp z], by simp⟩
 ·simpa [setD] using hk z
 ·simpa [setD] using a7m A (ws z ++ [(.h id, .obj g m s (es.set i (.agg (vs z))))])
 ·simpa [setD] using h z
theorem a0p {T id g s k : Nat} {a x : Operand} {e v : AV} (ha : opd A a = some (.ptr id g none 0 k)) (hx : opd A x = some v) (ho : look A (.h id) = some (.obj g 3 s [e])) (hs : a9l v = true) (hT : (tyS cx.P T).size = 1) (he : k + 1 ≤ (leaves e).length)
  (hko : slotOk keep (.h id) (.obj g 3 s [putAt e k v]) = true)
  (h : XR cx keep ops0 r ((.h id, .obj g 3 s [putAt e k v]) :: A) fun A' lg => Q A' ((rds a ++ (rds x ++ [.h id]), [.h id]) :: lg)) :
  XR cx keep ops0 (⟨none, .store T a x, ty, pos, aft, none⟩ :: r) A Q := by
 refine c6r (v := .undef) (ws := [(.h id, .obj g 3 s [putAt e k v])]) (ls := rds a ++ (rds x ++ [.h id])) rfl ?_ (I6 hko) (a7f _ _ _) h
 simp only [aopV]
 refine A8 (E6 (by simp) (A8 (J9 ha (A8 (J9 hx (A8 ?_))))))
 unfold a8n
 rw [if_pos hs]
 unfold b2i
 refine A8 (J6 ho ?_)
 dsimp only
 rw [if_pos (show (3 : Nat) = 3 from rfl)]
 simp only [List.getElem?_cons_zero]
 refine A8 (E6 ⟨hT, he⟩ (J1 (C7 ?_)))
 exact ⟨rfl, by simp, by simp⟩
def b9s (C : Caller) (A : Asr) (b : Bool) (fs vs : List AV) (ws : Ws) (ls : List Mv.Loc) : Prop := wpW C A (retLeaves b fs) fun a w l => a = vs ∧ w = ws ∧ l = ls
variable {b : Bool} {us : List AV} {w1 : Ws}
theorem Y5 : b9s C A b [] [] [] [] := C7 ⟨rfl, rfl, rfl⟩
theorem S9 {v : AV} (h : (immLeaf v && !K2 v) = true) (t : b9s C A b fs us w1 ls) : b9s C A b (v :: fs) (v :: us) w1 ls := by
 refine A8 (b5l h (A8 (H9 t ?_)))
 rintro _ _ _ ⟨rfl, rfl, rfl⟩
 exact C7 ⟨rfl, by simp, by simp⟩
theorem P7 {cids : List Cid} {outs : List (List AV)} {a T id g s : Nat} {rs : List ResultVar} {os : List AV} (hv : look A (.t a) = some (.ptr id g none 0 0)) (ho : look A (.h id) = some (.obj g 3 s [.agg fs])) (hn : (fs.all fun l => !isOwn l) = true)
  (hp : partF cx.P T fs = some (.agg fs)) (hr : b9s (CW cx) A b fs us w1 ls) (h : b4f cx b cids outs rs (puts A w1) os) : b4f cx b cids outs (.cell a T :: rs) A (.agg us :: os) := by
 refine a3n ?_
 unfold retVar
 refine A8 (I5 ?_)
 rw [a6s hv]
 refine A8 (I5 ?_)
 simp only [loadG, loadA, rdNode, F0]
 rw [O5 (by exact ho)]
 simp only [F0, G1, F8, true_and, List.getElem?_cons_zero, List.drop_zero, leaves]
 rw [a6l _ _ hn, a6q hp]
 refine A8 (H9 hr ?_)
 rintro a1 w1 l1 ⟨rfl, rfl, rfl⟩
 refine C7 ?_
 have h' : wpW (CW cx) (puts A ([] ++ ([] ++ (w1 ++ [])))) (retAll cx.P b rs) fun us ws _ => us = os ∧ a0x (puts (puts A w1) ws) cids outs := by
  simp only [List.nil_append, List.append_nil]
  exact h
 refine H9 h' ?_
 rintro us' ws' ls' ⟨rfl, h2⟩
 refine ⟨rfl, ?_⟩
 simp only [List.nil_append, List.append_nil, a4d]
 exact h2
variable {k : Nat}
end
end Go.Mv
end

section
namespace Go.Mv
open Go
def prS (f : Nat → Int) : Nat → Int
 | 0 => 0
 | k + 1 => prS f k + f k
theorem c8j {f : Nat → Int} {c : Int} : ∀ {n : Nat}, (∀ i, i < n → 0 ≤ f i ∧ f i ≤ c) → 0 ≤ prS f n ∧ prS f n ≤ n * c
 | 0, _ => ⟨Int.le_refl _, by simp [prS]⟩
 | n + 1, h => by
  have h1 := c8j (n := n) fun i hi => h i (by omega)
  have h2 := h n (by omega)
  rw [prS]
  have : ((n + 1 : Nat) : Int) * c = n * c + c := by rw [Int.natCast_succ, Int.add_mul, Int.one_mul]
  omega
theorem c3c (f : Nat → Int) : ∀ n, prS f n = ((List.range n).map f).sum
 | 0 => rfl
 | n + 1 => by rw [prS, c3c f n, List.range_succ, List.map_append, List.sum_append]; simp
def fX (xs : List Int) (i : Nat) : Int := xs.getD i default
def b6x (xs : List Int) (i : Nat) (d : List Nat) : Prop := d.Perm (List.range i) ∧ (d.map (fX xs)).Pairwise (· ≤ ·)
theorem b6x.step {xs : List Int} {i k : Nat} {d : List Nat} (h : b6x xs i d) (hk : k ≤ d.length) (h1 : ∀ j, j < k → fX xs (d.getD j default) ≤ fX xs i) (h2 : k < d.length → fX xs i ≤ fX xs (d.getD k default)) :
  b6x xs (i + 1) (d.take k ++ [i] ++ d.drop k) := by
 refine ⟨?_, ?_⟩
 ·rw [List.range_succ]
  have : (d.take k ++ [i] ++ d.drop k).Perm (d.take k ++ d.drop k ++ [i]) := by
   rw [List.append_assoc, List.append_assoc]
   exact List.Perm.append_left _ List.perm_append_comm
  rw [List.take_append_drop] at this
  exact this.trans (h.1.append_right _)
 ·have e : ∀ j, j < d.length → (d.map (fX xs)).getD j default = fX xs (d.getD j default) := by
   intro j hj
   rw [List.getD_eq_getElem?_getD, List.getD_eq_getElem?_getD, List.getElem?_map, List.getElem?_eq_getElem hj]; rfl
  have := a6o (out := d.map (fX xs)) (x := fX xs i) (k := k) h.2 (by simpa using hk) (fun j hj => by rw [e j (by omega)]; exact h1 j hj) (fun hk2 => by rw [e k (by simpa using hk2)]; exact h2 (by simpa using hk2))
  have e2 : (d.take k ++ [i] ++ d.drop k).map (fX xs) = a6z (fX xs i) (d.map (fX xs)) := by rw [← this]; simp [List.map_take, List.map_drop]
  rw [e2]
  exact a1h _ _ h.2
theorem b6x.ys {xs : List Int} {d : List Nat} (h : b6x xs xs.length d) : d.map (fX xs) = U7 xs := by
 refine b8h ?_ h.2
 have := h.1.map (fX xs)
 have e : (List.range xs.length).map (fX xs) = xs := by
  apply List.ext_getElem
  ·simp
  ·intro i h1 h2
   simp [fX, List.getD_eq_getElem?_getD, List.getElem?_eq_getElem h2]
 rwa [e] at this
theorem b6x.len {xs : List Int} {i : Nat} {d : List Nat} (h : b6x xs i d) : d.length = i := by rw [h.1.length_eq, List.length_range]
theorem b6x.lt {xs : List Int} {i : Nat} {d : List Nat} (h : b6x xs i d) {j : Nat} (hj : j < d.length) : d.getD j default < i := List.mem_range.1 (h.1.mem_iff.1 (L8 hj))
end Go.Mv
end

section
namespace Go.Mv
open Go
abbrev wList : ByteArray := ⟨#[108, 105, 115, 116]⟩
abbrev wA : ByteArray := ⟨#[97]⟩
abbrev wB : ByteArray := ⟨#[98]⟩
abbrev wC : ByteArray := ⟨#[99]⟩
abbrev wD : ByteArray := ⟨#[100]⟩
abbrev c7l : ByteArray := ⟨#[115, 111, 114, 116]⟩
abbrev d1y : ByteArray := ⟨#[114, 101, 118]⟩
abbrev d1u : ByteArray := ⟨#[110, 101, 103]⟩
abbrev d2e : ByteArray := ⟨#[97, 98, 115]⟩
abbrev c6w : ByteArray := ⟨#[100, 105, 102, 102]⟩
abbrev c7f : ByteArray := ⟨#[115, 117, 109, 115]⟩
abbrev c2r : ByteArray := ⟨#[114, 97, 110, 107, 115]⟩
abbrev c0p : ByteArray := ⟨#[116, 111, 116, 97, 108]⟩
abbrev d2m : ByteArray := ⟨#[97, 100, 100]⟩
abbrev c7q : ByteArray := ⟨#[106, 111, 105, 110]⟩
def nd (w : ByteArray) : Int :=
 if w.toList = wList.toList then 0 else if w.toList = wA.toList then 0 else if w.toList = wB.toList then 0 else if w.toList = wC.toList then 0 else if w.toList = wD.toList then 0
 else if w.toList = c7l.toList then 1 else if w.toList = d1y.toList then 1 else if w.toList = d1u.toList then 1 else if w.toList = d2e.toList then 1 else if w.toList = c6w.toList then 1
 else if w.toList = c7f.toList then 1 else if w.toList = c2r.toList then 1 else if w.toList = c0p.toList then 1 else if w.toList = d2m.toList then 2 else if w.toList = c7q.toList then 2 else -1
def rch (w : ByteArray) : Int :=
 if w.toList = c7l.toList then 1 else if w.toList = d1y.toList then 1 else if w.toList = d1u.toList then 1 else if w.toList = d2e.toList then 1 else if w.toList = c6w.toList then 1
 else if w.toList = c7f.toList then 1 else if w.toList = c2r.toList then 1 else if w.toList = c0p.toList then 1 else if w.toList = d2m.toList then 2 else if w.toList = c7q.toList then 2
 else if w.toList = wA.toList then 0 else if w.toList = wB.toList then 0 else if w.toList = wC.toList then 0 else if w.toList = wD.toList then 0 else -1
theorem c6v {p : Prop} [Decidable p] {a b : Int} (ha : -1 ≤ a ∧ a ≤ 2) (hb : -1 ≤ b ∧ b ≤ 2) : -1 ≤ (if p then a else b) ∧ (if p then a else b) ≤ 2 := by split <;> assumption
theorem b5y (w : ByteArray) : -1 ≤ nd w ∧ nd w ≤ 2 := by
 unfold nd
 repeat (refine c6v (by decide) ?_)
 decide
theorem c9e (w : ByteArray) : -1 ≤ rch w ∧ rch w ≤ 2 := by
 unfold rch
 repeat (refine c6v (by decide) ?_)
 decide
def J3 (x : List Int) (i : Nat) : Int := x.getD i default
def dfI (x : List Int) : List Int := (List.range x.length).map fun i => if i = 0 then J3 x 0 else J3 x i - J3 x (i - 1)
def smI (x : List Int) : List Int := (List.range x.length).map fun i => prS (J3 x) (i + 1)
def rkT (x : List Int) (v : Int) (j : Nat) : Int := if J3 x j < v then 2 else if J3 x j = v then 1 else 0
def rkI (x : List Int) : List Int := (List.range x.length).map fun i => 1 + prS (rkT x (J3 x i)) x.length
def adI (x y : List Int) : List Int := (List.range x.length).map fun i => J3 x i + J3 y i
def U9 (op : ByteArray) (x y : List Int) : Option (List Int) :=
 if op.toList = c7l.toList then some (U7 x) else if op.toList = d1y.toList then some x.reverse else if op.toList = d1u.toList then some (x.map fun v => -v)
 else if op.toList = d2e.toList then some (x.map fun v => max v (-v)) else if op.toList = c6w.toList then some (dfI x) else if op.toList = c7f.toList then some (smI x)
 else if op.toList = c2r.toList then some (rkI x) else if op.toList = c0p.toList then some [x.sum] else if op.toList = d2m.toList then (if x.length = y.length then some (adI x y) else none)
 else if op.toList = c7q.toList then some (x ++ y) else some x
def vl (x : List Int) : Bool := decide (x.length ≤ 40) && a8k (-100000) 100000 x
theorem X2 {x : List Int} : vl x = true ↔ x.length ≤ 40 ∧ a8k (-100000) 100000 x = true := by simp [vl]
theorem d1d {x : List Int} (h : vd x = true) : vl x = true := by
 rw [X2]
 have h1 := a2z h
 refine ⟨by omega, a4f.2 fun i hi => ?_⟩
 have := a4f.1 (d2i h) i hi
 omega
def mkR (op : ByteArray) (x y : List Int) : Option (List Int) := (U9 op x y).bind fun r => if vl r = true then some r else none
def raR (op : ByteArray) (x y : List Int) : List Int := (U9 op x y).getD []
theorem d1x {op : ByteArray} {x y r : List Int} (h : mkR op x y = some r) : vl r = true := by
 unfold mkR at h
 cases hr : U9 op x y with
 | none => rw [hr] at h; cases h
 | some q =>
  rw [hr, Option.bind_some] at h
  split at h
  ·cases h; assumption
  ·cases h
theorem b1e {op : ByteArray} {x y r : List Int} (h : mkR op x y = some r) : raR op x y = r := by
 unfold mkR at h
 unfold raR
 cases hr : U9 op x y with
 | none => rw [hr] at h; cases h
 | some q =>
  rw [hr, Option.bind_some] at h
  split at h
  ·cases h; rfl
  ·cases h
theorem a0l {x : List Int} (h : vl x = true) (i : Nat) : -100000 ≤ J3 x i ∧ J3 x i ≤ 100000 := by
 unfold J3
 rcases Nat.lt_or_ge i x.length with c | c
 ·exact a4f.1 (X2.1 h).2 i c
 ·rw [List.getD_eq_getElem?_getD, List.getElem?_eq_none c]; decide
theorem b8r {x : List Int} (h : vl x = true) : ∀ i : Nat, -(100000 * (i : Int)) ≤ prS (J3 x) i ∧ prS (J3 x) i ≤ 100000 * (i : Int)
 | 0 => by simp [prS]
 | i + 1 => by
  have h1 := b8r h i
  have h2 := a0l h i
  rw [prS]
  omega
theorem d2y (x : List Int) (v : Int) (k : Nat) : 0 ≤ prS (rkT x v) k ∧ prS (rkT x v) k ≤ k * 2 := c8j fun i _ => by unfold rkT; split <;> (try split) <;> omega
def T9 (n : Nat) (f g : Nat → Int) (i : Nat) (l : List Int) : Prop := l.length = n ∧ ∀ j, j < n → l.getD j default = if j < i then f j else g j
theorem T9.step {n i : Nat} {f g : Nat → Int} {l : List Int} (h : T9 n f g i l) (hi : i < n) {v : Int} (hv : v = f i) : T9 n f g (i + 1) (l.set i v) := by
 refine ⟨by simp [h.1], fun j hj => ?_⟩
 rw [a4l _ _ _ _ (by rw [h.1]; exact hi)]
 by_cases e : j = i
 ·subst e; rw [if_pos rfl, if_pos (by omega), hv]
 ·rw [if_neg e, h.2 j hj]
  by_cases c : j < i
  ·rw [if_pos c, if_pos (by omega)]
  ·rw [if_neg c, if_neg (by omega)]
theorem T9.at {n i : Nat} {f g : Nat → Int} {l : List Int} (h : T9 n f g i l) (hi : i < n) : l.getD i default = g i := by rw [h.2 i hi, if_neg (by omega)]
theorem T9.fin {n i : Nat} {f g : Nat → Int} {l : List Int} (h : T9 n f g i l) (hi : n ≤ i) : l = (List.range n).map f := by
 refine Z4 (d := default) (by simp [h.1]) fun j hj => ?_
 rw [h.1] at hj
 rw [h.2 j hj, if_pos (by omega), List.getD_eq_getElem?_getD, List.getElem?_map, List.getElem?_range hj]
 rfl
theorem T9.start (x : List Int) (f : Nat → Int) : T9 x.length f (J3 x) 0 x := ⟨rfl, fun j hj => by rw [if_neg (by omega)]; rfl⟩
theorem a8d (x : List Int) (f : Int → Int) : (List.range x.length).map (fun i => f (J3 x i)) = x.map f := by
 apply List.ext_getElem
 ·simp
 ·intro i h1 h2
  simp at h1
  simp [J3, List.getD_eq_getElem?_getD, List.getElem?_eq_getElem h1]
theorem V4 {f : Nat → Int} (i : Nat) : (List.range (i + 1)).map f = (List.range i).map f ++ [f i] := by rw [List.range_succ, List.map_append]; rfl
def a3y (x : List Int) (i : Nat) (l : List Int) : Prop := l.length = x.length ∧ ∀ j, j < x.length → l.getD j default = if i < j then J3 x j - J3 x (j - 1) else J3 x j
theorem a3y.step {x l : List Int} {i : Nat} (h : a3y x i l) (h0 : 0 < i) (hi : i < x.length) : a3y x (i - 1) (l.set i (l.getD i default - l.getD (i - 1) default)) := by
 refine ⟨by simp [h.1], fun j hj => ?_⟩
 rw [a4l _ _ _ _ (by rw [h.1]; exact hi)]
 by_cases e : j = i
 ·subst e
  rw [if_pos rfl, h.2 j hj, h.2 (j - 1) (by omega), if_neg (by omega), if_neg (by omega), if_pos (by omega)]
 ·rw [if_neg e, h.2 j hj]
  by_cases c : i < j
  ·rw [if_pos c, if_pos (by omega)]
  ·rw [if_neg c, if_neg (by omega)]
theorem a3y.fin {x l : List Int} (h : a3y x 0 l) : l = dfI x := by
 refine Z4 (d := default) (by simp [h.1, dfI]) fun j hj => ?_
 rw [h.1] at hj
 rw [h.2 j hj, dfI, List.getD_eq_getElem?_getD, List.getElem?_map, List.getElem?_range hj]
 show _ = if j = 0 then _ else _
 by_cases e : j = 0
 ·subst e; rw [if_neg (by omega), if_pos rfl]
 ·rw [if_pos (by omega), if_neg e]
theorem b5g (x : List Int) : prS (J3 x) x.length = x.sum := c3c (J3 x) x.length ▸ (by
 congr 1
 apply List.ext_getElem
 ·simp
 ·intro i h1 h2
  simp [J3, List.getD_eq_getElem?_getD, List.getElem?_eq_getElem h2])
end Go.Mv
namespace Go.Mv
theorem c4x {x : List Int} {k : Nat} (h : k < x.length) : x.drop k = x.getD k default :: x.drop (k + 1) := by
 rw [List.drop_eq_getElem_cons h, List.getD_eq_getElem?_getD, List.getElem?_eq_getElem h]; rfl
end Go.Mv
end

section
namespace Go.Mv
open Go
def c2s (k : Nat) : ByteArray := ⟨#[UInt8.ofNat (97 + k)]⟩
def vcs (cols : List (List Int)) : Bool := cols.all vd && decide (cols.length ≤ 4)
theorem b0y {cols : List (List Int)} : vcs cols = true ↔ (∀ c ∈ cols, vd c = true) ∧ cols.length ≤ 4 := by simp [vcs]
theorem d0f {cols : List (List Int)} {i : Nat} (hi : i < cols.length) (h : vd (cols.getD i default) = false) : vcs cols = false := by
 cases hv : vcs cols with
 | false => rfl
 | true => rw [(b0y.1 hv).1 _ (L8 hi)] at h; cases h
theorem c8l {cols : List (List Int)} (h : ∀ j, j < cols.length → vd (cols.getD j default) = true) : vcs cols = decide ((cols.length : Int) ≤ 4) := by
 have h1 : cols.all vd = true := by
  rw [List.all_eq_true]
  intro c hc
  obtain ⟨i, hi, rfl⟩ := List.getElem_of_mem hc
  have := h i hi
  rwa [List.getD_eq_getElem?_getD, List.getElem?_eq_getElem hi] at this
 rw [vcs, h1, Bool.true_and]
 exact decide_eq_decide.2 (by omega)
theorem c3y (cols : List (List Int)) : vcs cols = (decide ((cols.length : Int) ≤ 4) && !(cols.any fun c => !vd c)) := by
 have h1 : (!(cols.any fun c => !vd c)) = cols.all vd := by
  induction cols with
  | nil => rfl
  | cons c r ih => simp [ih]
 have h2 : decide ((cols.length : Int) ≤ 4) = decide (cols.length ≤ 4) := decide_eq_decide.2 (by omega)
 rw [vcs, h1, h2, Bool.and_comm]
theorem c8n {ls : List (List Int)} {q : List Int → Bool} {i : Nat} (hi : i < ls.length) (h : q (ls.getD i default) = true) : decide (0 ≤ (i : Int)) = ls.any q := by
 rw [decide_eq_true (by omega), eq_comm, List.any_eq_true]
 exact ⟨_, L8 hi, h⟩
theorem c4z {ls : List (List Int)} {q : List Int → Bool} (h : ∀ j, j < ls.length → q (ls.getD j default) = false) : decide (0 ≤ (-1 : Int)) = ls.any q := by
 rw [decide_eq_false (by omega), eq_comm, List.any_eq_false]
 intro c hc
 obtain ⟨i, hi, rfl⟩ := List.getElem_of_mem hc
 have := h i hi
 rw [List.getD_eq_getElem?_getD, List.getElem?_eq_getElem hi] at this
 simp [show q ls[i] = false from this]
def b7r (x : List Int) (i : Nat) (l : List Int) : Prop := l.length = x.length ∧ ∀ j, j < x.length → l.getD j default = if j < i ∨ x.length - 1 - i < j then J3 x (x.length - 1 - j) else J3 x j
theorem b7r.start (x : List Int) : b7r x 0 x := ⟨rfl, fun j hj => by rw [if_neg (by omega)]; rfl⟩
theorem b7r.step {x l : List Int} {i : Nat} (h : b7r x i l) (hi : i < x.length - 1 - i) : b7r x (i + 1) ((l.set i (l.getD (x.length - 1 - i) default)).set (x.length - 1 - i) (l.getD i default)) := by
 refine ⟨by simp [h.1], fun j hj => ?_⟩
 rw [a4l _ _ _ _ (by simp [h.1]; omega), a4l _ _ _ _ (by rw [h.1]; omega)]
 by_cases e : j = x.length - 1 - i
 ·subst e
  rw [if_pos rfl, h.2 i (by omega), if_neg (by omega), if_pos (by omega), show x.length - 1 - (x.length - 1 - i) = i by omega]
 ·rw [if_neg e]
  by_cases e2 : j = i
  ·subst e2
   rw [if_pos rfl, h.2 _ (by omega), if_neg (by omega), if_pos (by omega)]
  ·rw [if_neg e2, h.2 j hj]
   by_cases c : j < i ∨ x.length - 1 - i < j
   ·rw [if_pos c, if_pos (by omega)]
   ·rw [if_neg c, if_neg (by omega)]
theorem b7r.fin {x l : List Int} {i : Nat} (h : b7r x i l) (hi : x.length - 1 - i ≤ i) : l = x.reverse := by
 refine Z4 (d := default) (by simp [h.1]) fun j hj => ?_
 rw [h.1] at hj
 have hr : x.reverse.getD j default = J3 x (x.length - 1 - j) := by
  unfold J3
  rw [List.getD_eq_getElem?_getD, List.getD_eq_getElem?_getD, List.getElem?_reverse hj]
 rw [h.2 j hj, hr]
 split
 ·rfl
 ·rename_i c
  rw [show x.length - 1 - j = j by omega]
end Go.Mv
namespace Go.Mv
theorem c7t {w : ByteArray} (h : 1 ≤ nd w) : w.toList = [115, 111, 114, 116] ∨ w.toList = [114, 101, 118] ∨ w.toList = [110, 101, 103] ∨ w.toList = [97, 98, 115] ∨ w.toList = [100, 105, 102, 102] ∨ w.toList = [115, 117, 109, 115] ∨
  w.toList = [114, 97, 110, 107, 115] ∨ w.toList = [116, 111, 116, 97, 108] ∨ w.toList = [97, 100, 100] ∨ w.toList = [106, 111, 105, 110] := by
 refine Classical.byContradiction fun hn => ?_
 simp only [not_or] at hn
 obtain ⟨h1, h2, h3, h4, h5, h6, h7, h8, h9, h10⟩ := hn
 have key : nd w ≤ 0 := by
  simp [nd, h1, h2, h3, h4, h5, h6, h7, h8, h9, h10]
  (repeat' split) <;> decide
 omega
theorem c9b {w : ByteArray} (h : w.toList = [97, 100, 100] ∨ w.toList = [106, 111, 105, 110]) : nd w = 2 := by
 rcases h with h | h <;> simp [nd, h]
theorem T9.start1 (x : List Int) : T9 x.length (fun i => prS (J3 x) (i + 1)) (J3 x) 1 x := ⟨rfl, fun j hj => by
 by_cases c : j < 1
 ·rw [if_pos c, show j = 0 by omega]; simp [prS, J3]
 ·rw [if_neg c]; rfl⟩
theorem a3y.start (x : List Int) : a3y x (x.length - 1) x := ⟨rfl, fun j hj => by rw [if_neg (by omega)]; rfl⟩
theorem a3y.val {x l : List Int} {i : Nat} (h : a3y x i l) (j : Nat) : l.getD j default = if i < j ∧ j < x.length then J3 x j - J3 x (j - 1) else J3 x j := by
 rcases Nat.lt_or_ge j x.length with c | c
 ·rw [h.2 j c]
  by_cases c2 : i < j
  ·rw [if_pos c2, if_pos ⟨c2, c⟩]
  ·rw [if_neg c2, if_neg (by omega)]
 ·rw [if_neg (by omega), List.getD_eq_getElem?_getD, List.getElem?_eq_none (by rw [h.1]; exact c)]
  unfold J3
  rw [List.getD_eq_getElem?_getD, List.getElem?_eq_none c]
theorem T9.before {n i j : Nat} {f g : Nat → Int} {l : List Int} (h : T9 n f g i l) (hj : j < i) (hn : j < n) : l.getD j default = f j := by rw [h.2 j hn, if_pos hj]
theorem adF {op : ByteArray} {x y l : List Int} (ho : op.toList = [97, 100, 100]) (hl : x.length = y.length) (h : l = adI x y) (_ : True = True) : U9 op x y = some l := by
 simp [U9, ho, hl, h]
theorem apF {op : ByteArray} {x y l l' : List Int} (h : l = l') (h2 : U9 op x y = some l') : U9 op x y = some l := by rw [h]; exact h2
end Go.Mv
end

section
namespace Go.Mv
open Go
structure Stp where
 op : ByteArray
 a : Int
 b : Int
 ns : List Int
instance : Inhabited Stp := ⟨⟨⟨#[]⟩, 0, 0, []⟩⟩
abbrev stA (s : Stp) : AV := .agg [sV s.op, iV s.a, iV s.b, .list (s.ns.map iV)]
def szP (s : Stp) : Nat := s.op.size + s.ns.length
def szT (ss : List Stp) : Nat := (ss.map szP).sum
theorem b4e (l : List Nat) {i : Nat} (hi : i < l.length) : (l.take (i + 1)).sum = (l.take i).sum + l[i] := by
 rw [List.take_succ_eq_append_getElem hi, List.sum_append]; simp
theorem c7y (ss : List Stp) {i : Nat} (hi : i < ss.length) : szT (ss.take (i + 1)) = szT (ss.take i) + szP (ss.getD i default) := by
 unfold szT
 rw [List.map_take, List.map_take, b4e _ (by simpa using hi), List.getElem_map, List.getD_eq_getElem?_getD, List.getElem?_eq_getElem hi]; rfl
theorem d1t (ss : List Stp) (i : Nat) : szT (ss.take i) ≤ szT ss := by
 induction ss generalizing i with
 | nil => simp
 | cons s r ih =>
  cases i with
  | zero => simp [szT]
  | succ i => have := ih i; simp only [szT, List.take_succ_cons, List.map_cons, List.sum_cons] at this ⊢; omega
theorem c7o (ss : List Stp) {i : Nat} (hi : i < ss.length) : szP (ss.getD i default) ≤ szT ss := by
 have h1 := d1t ss (i + 1); have h2 := c7y ss hi; omega
end Go.Mv
end

section
namespace Go.Mv
open Go
section
variable {cx : Cx} {keep : List Nat} {ops0 : Array Oper} {r : List Oper} {A : Asr} {Q : Asr → List Log → Prop} {d : Nat} {ty : Nat} {pos : String} {aft : Array Edge}
def Stp.sOp (y : Stp) (s : ByteArray) : Stp := ⟨s, y.a, y.b, y.ns⟩
def Stp.sA (y : Stp) (n : Int) : Stp := ⟨y.op, n, y.b, y.ns⟩
def Stp.sB (y : Stp) (n : Int) : Stp := ⟨y.op, y.a, n, y.ns⟩
def Stp.sN (y : Stp) (l : List Int) : Stp := ⟨y.op, y.a, y.b, l⟩
@[simp] theorem Stp.sOp_ns (y : Stp) (s : ByteArray) : (y.sOp s).ns = y.ns := rfl
@[simp] theorem Stp.sA_ns (y : Stp) (s : Int) : (y.sA s).ns = y.ns := rfl
@[simp] theorem Stp.sB_ns (y : Stp) (s : Int) : (y.sB s).ns = y.ns := rfl
@[simp] theorem Stp.sN_ns (y : Stp) (s : List Int) : (y.sN s).ns = s := rfl
end
end Go.Mv
end

section
namespace Go.Mv
open Go
def S2 (n : Int) (k : Int) (i : Nat) (x : Int) : Bool := if k < n then decide (0 ≤ x ∧ x ≤ (i : Int) - 1) else decide (x = -1)
def sok (i : Nat) (s : Stp) : Bool := decide (0 ≤ nd s.op) && vd s.ns && (decide (s.op.toList = wList.toList) || decide (s.ns.length = 0)) && S2 (nd s.op) 0 i s.a && S2 (nd s.op) 1 i s.b
def a4c (ss : List Stp) : Bool := ((List.range ss.length).all fun i => sok i (ss.getD i default)) && decide (1 ≤ ss.length ∧ ss.length ≤ 16)
theorem E3 {ss : List Stp} {i : Nat} (hi : i < ss.length) (h : sok i (ss.getD i default) = false) : a4c ss = false := by
 cases hv : a4c ss with
 | false => rfl
 | true =>
  simp only [a4c, Bool.and_eq_true, List.all_eq_true, List.mem_range] at hv
  rw [hv.1 i hi] at h; cases h
theorem b5b {ss : List Stp} (h : ∀ j, j < ss.length → sok j (ss.getD j default) = true) : a4c ss = decide (1 ≤ (ss.length : Int) ∧ (ss.length : Int) ≤ 16) := by
 have h1 : ((List.range ss.length).all fun i => sok i (ss.getD i default)) = true := by
  rw [List.all_eq_true]
  exact fun i hi => h i (List.mem_range.1 hi)
 rw [a4c, h1, Bool.true_and]
 exact decide_eq_decide.2 (by omega)
theorem c1q {i : Nat} {s : Stp} (h1 : 0 ≤ nd s.op) (h2 : vd s.ns = true) (h3 : s.op.toList = wList.toList ∨ s.ns.length = 0) (h4 : ∀ j : Nat, j < 2 → S2 (nd s.op) j i ([s.a, s.b].getD j default) = true) : sok i s = true := by
 have e0 := h4 0 (by decide)
 have e1 := h4 1 (by decide)
 have h3' : (decide (s.op.toList = wList.toList) || decide (s.ns.length = 0)) = true := by
  rcases h3 with h | h
  ·rw [decide_eq_true h, Bool.true_or]
  ·rw [decide_eq_true h, Bool.or_true]
 unfold sok
 rw [decide_eq_true h1, h2, h3', show S2 (nd s.op) 0 i s.a = true from e0, show S2 (nd s.op) 1 i s.b = true from e1]
 rfl
theorem a0m {i : Nat} {s : Stp} (h : sok i s = true) : 0 ≤ nd s.op ∧ vd s.ns = true ∧ (s.op.toList = wList.toList ∨ s.ns.length = 0) ∧ S2 (nd s.op) 0 i s.a = true ∧ S2 (nd s.op) 1 i s.b = true := by
 unfold sok at h
 rw [Bool.and_eq_true, Bool.and_eq_true, Bool.and_eq_true, Bool.and_eq_true, Bool.or_eq_true] at h
 exact ⟨of_decide_eq_true h.1.1.1.1, h.1.1.1.2, h.1.1.2.imp of_decide_eq_true of_decide_eq_true, h.1.2, h.2⟩
theorem a1w {i : Nat} {s : Stp} (h : nd s.op < 0 ∨ (s.op.toList ≠ wList.toList ∧ (0 : Int) < s.ns.length) ∨ vd s.ns = false) : sok i s = false := by
 cases hv : sok i s with
 | false => rfl
 | true =>
  obtain ⟨h1, h2, h3, _⟩ := a0m hv
  rcases h with h | h | h
  ·omega
  ·rcases h3 with q | q
   ·exact absurd q h.1
   ·have := h.2; omega
  ·rw [h] at h2; cases h2
theorem Z5 {i k : Nat} {s : Stp} (hk : k < 2) (h : S2 (nd s.op) k i ([s.a, s.b].getD k default) = false) : sok i s = false := by
 cases hv : sok i s with
 | false => rfl
 | true =>
  obtain ⟨_, _, _, h4, h5⟩ := a0m hv
  match k, hk with
  | 0, _ => rw [show S2 (nd s.op) 0 i s.a = false from h] at h4; cases h4
  | 1, _ => rw [show S2 (nd s.op) 1 i s.b = false from h] at h5; cases h5
theorem a2l {n k x : Int} {i : Nat} (h : n ≤ k) (hx : x = -1) : S2 n k i x = true := by
 rw [S2, if_neg (by omega)]; simpa using hx
theorem a2k {n k x : Int} {i : Nat} (h : n ≤ k) (hx : x ≠ -1) : S2 n k i x = false := by
 rw [S2, if_neg (by omega)]; simpa using hx
theorem a2a {n k x : Int} {i : Nat} (h : k < n) (hx : 0 ≤ x ∧ x ≤ (i : Int) - 1) : S2 n k i x = true := by
 rw [S2, if_pos h]; exact decide_eq_true hx
theorem a5p {n k x : Int} {i : Nat} (h : k < n) (hx : ¬(0 ≤ x ∧ x ≤ (i : Int) - 1)) : S2 n k i x = false := by
 rw [S2, if_pos h]; exact decide_eq_false hx
theorem c4d {w : ByteArray} (h : w.toList = wList.toList) : nd w = 0 := by rw [nd, if_pos h]
theorem F9 {i : Nat} {s : Stp} {n : Int} (hn : nd s.op = n) (h1 : 0 ≤ n) (h2 : vd s.ns = true) (h3 : s.op.toList = wList.toList ∨ s.ns.length = 0) (hA : n ≤ 2 ∧ (n = 0 → s.a = -1) ∧ (0 < n → 0 ≤ s.a ∧ s.a ≤ (i : Int) - 1)) (hB : (n < 2 → s.b = -1) ∧ (n = 2 → 0 ≤ s.b ∧ s.b ≤ (i : Int) - 1)) : sok i s = true := by
 subst hn
 refine c1q h1 h2 h3 fun j hj => ?_
 match j, hj with
 | 0, _ =>
  show S2 (nd s.op) 0 i s.a = true
  by_cases h : 0 < nd s.op
  ·exact a2a h (by omega)
  ·exact a2l (by omega) (by omega)
 | 1, _ =>
  show S2 (nd s.op) 1 i s.b = true
  by_cases h : 1 < nd s.op
  ·exact a2a h (by omega)
  ·exact a2l (by omega) (by omega)
theorem G2 {i : Nat} {s : Stp} {n : Int} (hn : nd s.op = n) (h1 : 0 ≤ n ∧ n ≤ 2) (h : (n = 0 ∧ s.a ≠ -1) ∨ (0 < n ∧ ¬(0 ≤ s.a ∧ s.a ≤ (i : Int) - 1)) ∨ (n < 2 ∧ s.b ≠ -1) ∨ (n = 2 ∧ ¬(0 ≤ s.b ∧ s.b ≤ (i : Int) - 1))) : sok i s = false := by
 subst hn
 rcases h with h | h | h | h
 ·exact Z5 (k := 0) (by decide) (a2k (by omega) h.2)
 ·exact Z5 (k := 0) (by decide) (a5p (by omega) h.2)
 ·exact Z5 (k := 1) (by decide) (a2k (by omega) h.2)
 ·exact Z5 (k := 1) (by decide) (a5p (by omega) h.2)
theorem a8u (w : ByteArray) (h : w.toList ≠ wList.toList) : nd w = rch w := by
 by_cases hA : w.toList = wA.toList
 ·simp [nd, rch, hA]
 by_cases hB : w.toList = wB.toList
 ·simp [nd, rch, hB]
 by_cases hC : w.toList = wC.toList
 ·simp [nd, rch, hC]
 by_cases hD : w.toList = wD.toList
 ·simp [nd, rch, hD]
 unfold nd rch
 rw [if_neg h, if_neg hA, if_neg hB, if_neg hC, if_neg hD, if_neg hA, if_neg hB, if_neg hC, if_neg hD]
end Go.Mv
end

section
namespace Go.Mv
open Go
section
variable {cx : Cx} {keep : List Nat} {ops0 : Array Oper} {r : List Oper} {A : Asr} {Q : Asr → List Log → Prop} {d : Nat} {ty : Nat} {pos : String} {aft : Array Edge}
theorem c8p {C : Caller} {md id g m s0 i j s n : Nat} {es ys : List AV} (hmd : md = 0) (ho : look A (.h id) = some (.obj g m s0 es)) (hl : leafAt es i j = some (.own s ys)) (hn : n = ys.length) (hr : H5 ys = true) :
  L9 C A md (.sl id g (some (i, j)) 0 n) (.list (frzL ys)) [(id, false)] [] [.h id] := by
 subst hmd hn
 unfold L9 a2p
 simp only [if_true]
 refine A8 (I5 ?_)
 simp only [passLeaf, slc, F0, b5c ho hl, G1, F8, List.append_nil, List.drop_zero, List.take_length, hr, Nat.zero_add, Nat.le_refl, and_true]
 refine ⟨by simp [bxB], trivial, C7 ⟨rfl, rfl, by simp⟩⟩
theorem a6b {C : Caller} {md id g m s0 i j s n : Nat} {es : List AV} {row : List Int} (hmd : md = 0) (ho : look A (.h id) = some (.obj g m s0 es)) (hl : leafAt es i j = some (.own s (row.map iV))) (hn : n = (row.map iV).length) :
  L9 C A md (.sl id g (some (i, j)) 0 n) (L row) [(id, false)] [] [.h id] := by
 have := c8p (C := C) hmd ho hl hn (A6 fun _ => rfl)
 rwa [Z6 fun _ => rfl] at this
theorem c8v {C : Caller} {id g s0 i j s n : Nat} {es ys : List AV} {e : AV} (ho : look A (.h id) = some (.obj g 0 s0 es)) (hl : leafAt es i j = some (.own s ys)) (he : es[i]? = some e) (hn : n = ys.length) (hr : H5 ys = true)
  {R : List AV → Ws → List Mv.Loc → Prop} (h : R (frzL ys) [(.h id, .obj g 0 s0 (es.set i (putAt e j (.list (frzL ys)))))] [.h id, .h id]) : wpW C A (freeze (.sl id g (some (i, j)) 0 n)) R := by
 subst hn
 unfold freeze
 refine A8 (b5n ho hl (A8 (E6 ⟨by simp [bxB], by simp⟩ ?_)))
 rw [if_neg (by decide)]
 refine A8 (E6 ⟨rfl, hr⟩ (A8 (I5 ?_)))
 rw [a6s (v := .obj g 0 s0 es) (by exact ho)]
 simp only [he]
 refine A8 (J1 (C7 ?_))
 have e1 : (frzL ys).take ys.length = frzL ys := by rw [← Q1 ys, List.take_length]
 simp only [List.drop_zero, e1, List.nil_append, List.append_nil, List.singleton_append]
 exact h
theorem b6b {T E id g s0 i j n : Nat} {x : Operand} {z e : AV} {es : List AV} {row : List Int} (hx : opd A x = some (.sl id g (some (i, j)) 0 n)) (ho : look A (.h id) = some (.obj g 0 s0 es)) (hl : leafAt es i j = some (.own 1 (row.map iV))) (he : es[i]? = some e) (hn : n = (row.map iV).length)
  (hT : O8 cx.P T = some (E, 1)) (hz : X6 cx.P E = some (z, 1)) (hko : slotOk keep (.h id) (.obj g 0 s0 (es.set i (putAt e j (L row)))) = true) (hko2 : ∀ g', slotOk keep (.h (tid d 0)) (.obj g' 0 1 [L row]) = true) (hk : ∀ g', slotOk keep (.t d) (.sl (tid d 0) g' none 0 1) = true)
  (h : ∀ g', XR cx keep ops0 r ((.t d, .sl (tid d 0) g' none 0 1) :: (.h (tid d 0), .obj g' 0 1 [L row]) :: (.h id, .obj g 0 s0 (es.set i (putAt e j (L row)))) :: A) fun A' lg => Q A' ((rds x ++ [.h id, .h id, .h (tid d 0)], [.h id, .h (tid d 0), .t d]) :: lg))
  (hfz : cx.fzB T d = false := by rfl) :
  XR cx keep ops0 (⟨some d, .buildSlice T 1 #[(0, x)], ty, pos, aft, none⟩ :: r) A Q := by
 obtain ⟨h1, h2, h3, h4⟩ := R7 hz
 refine a0y (v := fun g' => .sl (tid d 0) g' none 0 1) (ws := fun g' => [(.h id, .obj g 0 s0 (es.set i (putAt e j (L row)))), (.h (tid d 0), .obj g' 0 1 [L row])]) (ls := rds x ++ [.h id, .h id, .h (tid d 0)]) rfl ?_
  (fun g => E7 hko (E7 (hko2 g) (I6 (hk g)))) (fun g => rfl) (fun g => a1k _ _ _ _ _ _ _) h
 simp only [aopV, dstOf]
 refine A8 (I5 (show wpA (CW cx) A (.ret d) _ from ?_))
 show wpW (CW cx) (puts A []) _ _
 refine A8 (R6 hT (A8 (E6 ⟨by rw [h2]; decide, h3, h4, by rw [h2]; decide⟩ ?_)))
 simp only [h1, h2, hfz, Bool.false_eq_true, if_false]
 refine A8 ?_
 simp only [V1]
 refine A8 (J9 hx (A8 (E6 (by simp [leaves]) ?_)))
 refine A8 ?_
 simp only [absorb, List.replicate, List.headD]
 unfold J2
 simp only [show ¬ ((0 : Nat) = 3) from by decide, if_false]
 rw [if_neg (by simp)]
 refine A8 (c8v ho hl he hn (A6 fun _ => rfl) (C7 (C7 ?_)))
 rw [Z6 fun _ => rfl]
 refine A8 (K4 fun o => A8 (J1 (C7 ?_)))
 exact ⟨I0 o + 1, rfl, by simp, by simp⟩
theorem c6l {C : Caller} {id g s0 i j s n : Nat} {es ys : List AV} {e : AV} (ho : look A (.h id) = some (.obj g 0 s0 es)) (hl : leafAt es i j = some (.own s ys)) (he : es[i]? = some e) (hn : n = ys.length) (hr : H5 ys = true)
  {R : AV → Ws → List Mv.Loc → Prop} (h : R (.own s ys) [(.h id, .obj g 0 s0 (es.set i (putAt e j .undef)))] [.h id, .h id]) : wpW C A (V0 (.sl id g (some (i, j)) 0 n)) R := by
 subst hn
 unfold V0
 refine A8 (b5n ho hl ?_)
 simp only [and_self, if_true]
 refine A8 (E6 ⟨Nat.le_refl _, hr⟩ (A8 ?_))
 unfold b2e
 refine A8 (I5 ?_)
 rw [a6s (v := .obj g 0 s0 es) (by exact ho)]
 simp only [he]
 refine J1 (C7 ?_)
 simpa using h
theorem c3i {b : Bool} {cids : List Cid} {outs : List (List AV)} {t id g s0 i j s n : Nat} {es ys : List AV} {e : AV} {rs : List ResultVar} {vs : List AV} (hv : look A (.t t) = some (.sl id g (some (i, j)) 0 n)) (ho : look A (.h id) = some (.obj g 0 s0 es))
  (hl : leafAt es i j = some (.own s ys)) (he : es[i]? = some e) (hn : n = ys.length) (hr : H5 ys = true) (h : b4f cx b cids outs rs (put A (.h id) (.obj g 0 s0 (es.set i (putAt e j .undef)))) vs) : b4f cx b cids outs (.tmp t :: rs) A (.own s ys :: vs) := by
 refine a3n (Y3 hv ?_)
 refine c6l ho hl he hn hr ?_
 refine H9 h ?_
 rintro us ws ls ⟨rfl, h2⟩
 refine ⟨rfl, ?_⟩
 rw [a4d]
 exact h2
end
end Go.Mv
end

section
namespace Go.Mv
open Go
def rF (r : Bool × List Int) : AV := match r with
 | (true, l) => L l
 | (false, l) => oI l
theorem b2s (r : Bool × List Int) : M3 (rF r) = true := by rcases r with ⟨_ | _, _⟩ <;> rfl
theorem c2x (r : Bool × List Int) : (leaves (rF r)).all cellLeaf = true ∧ M3 (rF r) = true := by rcases r with ⟨_ | _, _⟩ <;> exact ⟨rfl, rfl⟩
theorem b5r {rows : List (Bool × List Int)} {i : Nat} {b : Bool} {l : List Int} (hi : i < rows.length) (h : rows.getD i default = (b, l)) : (rows.map rF)[i]? = some (rF (b, l)) := by
 rw [getElem?_map_getD hi, h]
theorem c2w {rows : List (Bool × List Int)} {i : Nat} {l : List Int} (hi : i < rows.length) (h : rows.getD i default = (false, l)) : leafAt (rows.map rF) i 0 = some (.own 1 (l.map iV)) := by
 unfold leafAt
 rw [b5r hi h]
 rfl
section
variable {cx : Cx} {keep : List Nat} {ops0 : Array Oper} {r : List Oper} {A : Asr} {Q : Asr → List Log → Prop} {d : Nat} {ty : Nat} {pos : String} {aft : Array Edge}
theorem b7t {T E id g i n : Nat} {x : Operand} {z : AV} {rows : List (Bool × List Int)} {row : List Int} (hx : opd A x = some (.sl id g (some (i, 0)) 0 n)) (ho : look A (.h id) = some (.obj g 0 1 (rows.map rF))) (hi : i < rows.length) (hr : rows.getD i default = (false, row)) (hn : n = (row.map iV).length)
  (hT : O8 cx.P T = some (E, 1)) (hz : X6 cx.P E = some (z, 1)) (hk : ∀ g', slotOk keep (.t d) (.sl (tid d 0) g' none 0 1) = true)
  (h : ∀ g', XR cx keep ops0 r ((.t d, .sl (tid d 0) g' none 0 1) :: (.h (tid d 0), .obj g' 0 1 ([row].map fun l => .list (l.map iV))) :: (.h id, .obj g 0 1 ((rows.set i (true, row)).map rF)) :: A) fun A' lg => Q A' ((rds x ++ [.h id, .h id, .h (tid d 0)], [.h id, .h (tid d 0), .t d]) :: lg))
  (hfz : cx.fzB T d = false := by rfl) :
  XR cx keep ops0 (⟨some d, .buildSlice T 1 #[(0, x)], ty, pos, aft, none⟩ :: r) A Q := by
 have e : (rows.map rF).set i (putAt (rF (false, row)) 0 (L row)) = (rows.set i (true, row)).map rF := by rw [List.map_set]; rfl
 refine b6b hx ho (c2w hi hr) (b5r hi hr) hn hT hz ?_ (fun g' => B3 rfl) hk ?_ hfz
 ·rw [e]; exact B3 (A6 b2s)
 ·intro g'; rw [e]; exact h g'
end
def c9i (w : ByteArray) : Nat := (w.toList.headD 0).toNat - 97
def stepR (cols made : List (List Int)) (s : Stp) : Option (List Int) :=
 if nd s.op = 0 then some (if s.op.toList = wList.toList then s.ns else cols.getD (c9i s.op) default)
 else mkR s.op (made.getD s.a.toNat default) (if nd s.op = 2 then made.getD s.b.toNat default else [])
def W9 (cols : List (List Int)) (ss : List Stp) : Nat → Option (List (List Int))
 | 0 => some []
 | i + 1 => (W9 cols ss i).bind fun made => (stepR cols made (ss.getD i default)).map fun r => made ++ [r]
theorem a9f {cols : List (List Int)} {ss : List Stp} : ∀ {i : Nat} {made : List (List Int)}, W9 cols ss i = some made → made.length = i
 | 0, made, h => by cases h; rfl
 | i + 1, made, h => by
  simp only [W9, Option.bind_eq_some_iff, Option.map_eq_some_iff] at h
  obtain ⟨m, h1, r, _, rfl⟩ := h
  simp [a9f h1]
theorem L5 {cols : List (List Int)} {ss : List Stp} {i : Nat} {made : List (List Int)} {r : List Int} (h : W9 cols ss i = some made) (hr : stepR cols made (ss.getD i default) = some r) : W9 cols ss (i + 1) = some (made ++ [r]) := by
 rw [W9, h, Option.bind_some, hr]; rfl
theorem a6u {cols : List (List Int)} {ss : List Stp} {i : Nat} {made : List (List Int)} (h : W9 cols ss i = some made) (hr : stepR cols made (ss.getD i default) = none) : ∀ {n : Nat}, i < n → W9 cols ss n = none
 | 0, h1 => by omega
 | n + 1, h1 => by
  rcases Nat.lt_or_ge i n with c | c
  ·rw [W9, a6u h hr c]; rfl
  ·have : n = i := by omega
   subst this
   rw [W9, h, Option.bind_some, hr]; rfl
def rsF (cols : List (List Int)) (ss : List Stp) : Option (List Int) := if a4c ss = true ∧ vcs cols = true then (W9 cols ss ss.length).map fun m => m.getD (ss.length - 1) default else none
theorem b2w {cols : List (List Int)} {ss : List Stp} (h : ¬(a4c ss = true ∧ vcs cols = true)) : rsF cols ss = none := if_neg h
theorem d0p {cols : List (List Int)} (h : vcs cols = true) (k : Nat) : vl (cols.getD k default) = true := by
 rcases Nat.lt_or_ge k cols.length with c | c
 ·exact d1d ((b0y.1 h).1 _ (L8 c))
 ·rw [List.getD_eq_getElem?_getD, List.getElem?_eq_none c]; decide
theorem b7i {ss : List Stp} (h : a4c ss = true) {i : Nat} (hi : i < ss.length) : sok i (ss.getD i default) = true := by
 simp only [a4c, Bool.and_eq_true, List.all_eq_true, List.mem_range] at h
 exact h.1 i hi
theorem b9k {ss : List Stp} (h : a4c ss = true) : 1 ≤ ss.length ∧ ss.length ≤ 16 := by
 simp only [a4c, Bool.and_eq_true] at h
 exact of_decide_eq_true h.2
theorem a0r {n k x : Int} {i : Nat} (h : S2 n k i x = true) : (k < n → 0 ≤ x ∧ x ≤ (i : Int) - 1) ∧ (n ≤ k → x = -1) := by
 unfold S2 at h
 split at h
 ·exact ⟨fun _ => of_decide_eq_true h, fun h2 => by omega⟩
 ·exact ⟨fun h2 => by omega, fun _ => of_decide_eq_true h⟩
theorem d0w {i : Nat} {s : Stp} (h : sok i s = true) {n : Nat} (hn : nd s.op = n) : ∀ k, k < n → ∃ x : Nat, [s.a, s.b].getD k default = (x : Int) ∧ x < i := by
 obtain ⟨h1, _, _, h4, h5⟩ := a0m h
 have hb := b5y s.op
 intro k hk
 match k, hk with
 | 0, hk => have := (a0r h4).1 (by omega); exact ⟨s.a.toNat, by show s.a = _; omega, by omega⟩
 | 1, hk => have := (a0r h5).1 (by omega); exact ⟨s.b.toNat, by show s.b = _; omega, by omega⟩
 | k + 2, hk => omega
theorem c9z {w : ByteArray} (h : nd w = 0) : w.toList = wList.toList ∨ ∃ k, k < 4 ∧ w.toList = [UInt8.ofNat (97 + k)] := by
 refine Classical.byContradiction fun hn => ?_
 simp only [not_or, not_exists, not_and] at hn
 obtain ⟨h0, h1⟩ := hn
 have a := h1 0 (by decide); have b := h1 1 (by decide); have c := h1 2 (by decide); have dd := h1 3 (by decide)
 simp at a b c dd
 have h0' : ¬ w.toList = [108, 105, 115, 116] := by simpa using h0
 simp [nd, h0', a, b, c, dd] at h
 (repeat' split at h) <;> simp at h
theorem c9m (b : ByteArray) : ∀ n i r, b.size - i = n → ByteArray.toList.loop b i r = r.reverse ++ b.data.toList.drop i := by
 intro n
 induction n with
 | zero =>
  intro i r h
  rw [ByteArray.toList.loop]
  have h1 : ¬ i < b.size := by omega
  rw [if_neg h1, List.drop_eq_nil_of_le (by rw [Array.length_toList]; show b.size ≤ i; omega), List.append_nil]
 | succ n ih =>
  intro i r h
  rw [ByteArray.toList.loop]
  have h1 : i < b.size := by omega
  have h2 : i < b.data.toList.length := by rw [Array.length_toList]; exact h1
  rw [if_pos h1, ih (i + 1) _ (by omega), List.drop_eq_getElem_cons h2, List.reverse_cons, List.append_assoc]
  have e : b.get! i = b.data.toList[i] := by
   show b.data[i]! = _
   rw [getElem!_pos b.data i h1]
   exact (Array.getElem_toList ..).symm
  rw [e]; rfl
theorem W0 (b : ByteArray) : b.toList = b.data.toList := by
 rw [ByteArray.toList, c9m b b.size 0 [] (by omega)]; rfl
theorem a6v {a b : ByteArray} (h : a.toList = b.toList) : a = b := by
 rw [W0, W0] at h
 cases a; cases b
 congr 1
 exact Array.toList_inj.1 h
theorem c8m {w : ByteArray} (h : nd w = 0) : w = wList ∨ ∃ k, k < 4 ∧ w = c2s k := by
 rcases c9z h with c | ⟨k, hk, c⟩
 ·exact .inl (a6v c)
 ·refine .inr ⟨k, hk, a6v (c.trans ?_)⟩
  rw [W0]; rfl
theorem c9t {k : Nat} (hk : k < 4) : c9i (c2s k) = k := by
 unfold c9i
 rw [W0]
 show (UInt8.ofNat (97 + k)).toNat - 97 = k
 match k, hk with
 | 0, _ => rfl
 | 1, _ => rfl
 | 2, _ => rfl
 | 3, _ => rfl
theorem c8d {k : Nat} (hk : k < 4) : ¬ (c2s k).toList = wList.toList := by
 rw [W0, W0]
 show ¬ [UInt8.ofNat (97 + k)] = [108, 105, 115, 116]
 simp
theorem a1d {cols made : List (List Int)} {s : Stp} (h : s.op = wList) : stepR cols made s = some s.ns := by
 unfold stepR
 rw [if_pos (c4d (by rw [h])), if_pos (by rw [h])]
theorem a2c {cols made : List (List Int)} {s : Stp} {k : Nat} (hk : k < 4) (h : s.op = c2s k) (h0 : nd s.op = 0) : stepR cols made s = some (cols.getD k default) := by
 unfold stepR
 rw [if_pos h0, if_neg (by rw [h]; exact c8d hk), h, c9t hk]
theorem c8e {cols made : List (List Int)} {s : Stp} {r : List Int} (hc : vcs cols = true) (hs : vd s.ns = true) (h : stepR cols made s = some r) : vl r = true := by
 unfold stepR at h
 split at h
 ·cases h
  split
  ·exact d1d hs
  ·exact d0p hc _
 ·exact d1x h
theorem a7z {cols : List (List Int)} {ss : List Stp} (hc : vcs cols = true) (hs : a4c ss = true) : ∀ {i : Nat} {made : List (List Int)}, i ≤ ss.length → W9 cols ss i = some made → ∀ m ∈ made, vl m = true
 | 0, made, _, h => by cases h; intro m hm; cases hm
 | i + 1, made, hi, h => by
  simp only [W9, Option.bind_eq_some_iff, Option.map_eq_some_iff] at h
  obtain ⟨m, h1, r, h2, rfl⟩ := h
  intro x hx
  rcases List.mem_append.1 hx with c | c
  ·exact a7z hc hs (by omega) h1 x c
  ·cases List.mem_singleton.1 c
   exact c8e hc (a0m (b7i hs (by omega))).2.1 h2
end Go.Mv
namespace Go.Mv
open Go
theorem b1v (rows : List (Bool × List Int)) (i : Nat) : (rows.map (·.2)).getD i default = (rows.getD i default).2 := by
 rw [List.getD_eq_getElem?_getD, List.getElem?_map, List.getD_eq_getElem?_getD]
 cases rows[i]? <;> rfl
theorem c9w {rows : List (Bool × List Int)} {i : Nat} {b : Bool} {l : List Int} (h : (rows.getD i default).2 = l) : (rows.set i (b, l)).map (·.2) = rows.map (·.2) := by
 apply List.ext_getElem
 ·simp
 ·intro j h1 h2
  simp only [List.getElem_map, List.getElem_set]
  split
  ·rename_i e
   subst e
   simp at h2
   rw [← h, List.getD_eq_getElem?_getD, List.getElem?_eq_getElem h2]; rfl
  ·rfl
theorem b3e {rows : List (Bool × List Int)} {i : Nat} (h : ∀ j, j + 1 = i → (rows.getD j default).1 = false) (hi : 1 ≤ i) : rows.getD (i - 1) default = (false, (rows.getD (i - 1) default).2) :=
 Prod.ext (h (i - 1) (by omega)) rfl
theorem a9z {rows : List (Bool × List Int)} {l : List Int} {j i : Nat} (hj : j + 1 = i + 1) (hr : rows.length = i) : ((rows ++ [(false, l)]).getD j default).1 = false := by
 have : j = rows.length := by omega
 subst this
 simp
theorem c7e {rows : List (Bool × List Int)} {i : Nat} : (∃ l, rows.getD i default = (true, l)) ∨ ∃ l, rows.getD i default = (false, l) := by
 rcases h : rows.getD i default with ⟨_ | _, l⟩
 ·exact .inr ⟨l, rfl⟩
 ·exact .inl ⟨l, rfl⟩
theorem b2t {cols made : List (List Int)} {s : Stp} {n : Nat} (h : nd s.op = n) (h0 : n ≠ 0) : stepR cols made s = mkR s.op (made.getD s.a.toNat default) (if nd s.op = 2 then made.getD s.b.toNat default else []) := by
 unfold stepR
 rw [if_neg (by omega)]
theorem a3l {made : List (List Int)} (h : ∀ m ∈ made, vl m = true) (i : Nat) : vl (made.getD i default) = true := by
 rcases Nat.lt_or_ge i made.length with c | c
 ·exact h _ (L8 c)
 ·rw [List.getD_eq_getElem?_getD, List.getElem?_eq_none c]; decide
theorem d1p {made : List (List Int)} (h : ∀ m ∈ made, vl m = true) (i : Nat) {p : Prop} [Decidable p] : vl (if p then made.getD i default else []) = true := by
 split
 ·exact a3l h i
 ·decide
end Go.Mv
namespace Go.Mv
theorem M4 (xs : List Int) (b : Bool) : hasList (.tup [.own 1 (xs.map iV), bV b]) = false := by simp [hasList, H1]
end Go.Mv
namespace Go.Mv
theorem c3t {ls made : List (List Int)} {xs : List Int} {k x : Nat} {l : List Int} (hk : ls.length = k) (h : ∀ j, j < k → ls.getD j default = made.getD (xs.getD j default).toNat default) (hx : xs.getD k default = (x : Int)) (hl : made.getD x default = l) :
  (ls ++ [l]).length = k + 1 ∧ ∀ j, j < k + 1 → (ls ++ [l]).getD j default = made.getD (xs.getD j default).toNat default := by
 refine ⟨by simp [hk], fun j hj => ?_⟩
 rcases Nat.lt_succ_iff_lt_or_eq.1 hj with c | c
 ·rw [← h j c, List.getD_eq_getElem?_getD, List.getElem?_append_left (by omega), List.getD_eq_getElem?_getD]
 ·subst c
  rw [hx, Int.toNat_natCast, hl, List.getD_eq_getElem?_getD, List.getElem?_append_right (by omega), show j - ls.length = 0 by omega]
  rfl
end Go.Mv
namespace Go.Mv
theorem d1m {i : Nat} {s : Stp} (h : sok i s = true) : (nd s.op ≤ 0 → s.a = -1) ∧ (0 < nd s.op → 0 ≤ s.a ∧ s.a ≤ (i : Int) - 1) ∧ (nd s.op ≤ 1 → s.b = -1) ∧ (1 < nd s.op → 0 ≤ s.b ∧ s.b ≤ (i : Int) - 1) := by
 obtain ⟨_, _, _, h4, h5⟩ := a0m h
 exact ⟨(a0r h4).2, (a0r h4).1, (a0r h5).2, (a0r h5).1⟩
theorem c7r {w : ByteArray} (h : w.toList = wList.toList) : rch w = -1 := by
 have e : w = wList := a6v h
 subst e
 decide +kernel
theorem b1f {w : ByteArray} (h : rch w = 0) : (∃ k, k < 4 ∧ w = c2s k) ∧ nd w = 0 := by
 have hl : w.toList ≠ wList.toList := fun e => by rw [c7r e] at h; cases h
 have h0 : nd w = 0 := (a8u w hl).trans h
 rcases c8m h0 with c | c
 ·exact absurd (by rw [c]) hl
 ·exact ⟨c, h0⟩
theorem a2m {cols made : List (List Int)} {s : Stp} {x y : List Int} (h : 1 ≤ nd s.op) (hx : made.getD s.a.toNat default = x) (hy : (if nd s.op = 2 then made.getD s.b.toNat default else []) = y) : stepR cols made s = mkR s.op x y := by
 unfold stepR
 rw [if_neg (by omega), hx, hy]
theorem b6i : vl [] = true := by decide
end Go.Mv
namespace Go.Mv
open Go
theorem c3k {cols : List (List Int)} {ss : List Stp} {i : Nat} {made : List (List Int)} {T : AV} (hok : a4c ss = true) (hvc : vcs cols = true) (hi : i < ss.length) (h : W9 cols ss i = some made) (hr : stepR cols made (ss.getD i default) = none) (hT : T = .tup [.own 1 [], bV false] := by rfl) : T = .tup [.own 1 (((rsF cols ss).getD []).map iV), bV (rsF cols ss).isSome] := by
 rw [rsF, if_pos ⟨hok, hvc⟩, a6u h hr hi, hT]; rfl
end Go.Mv
namespace Go.Mv
open Go
end Go.Mv
end

section
namespace Go.Mv
open Go
abbrev bA (l : List UInt8) : ByteArray := ⟨l.toArray⟩
abbrev tV (l : List UInt8) : AV := sV (bA l)
theorem a5y (l : List UInt8) : (bA l).toList = l := by rw [W0]
theorem c5t (a b : List UInt8) : bA a ++ bA b = bA (a ++ b) := by
 apply ByteArray.ext
 simp
theorem c2u (a : List UInt8) (i j : Nat) : (bA a).extract i j = bA ((a.drop i).take (j - i)) := by
 apply ByteArray.ext
 simp [ByteArray.data_extract]
theorem c9r (b : ByteArray) : bA b.data.toList = b := by cases b; rfl
section
variable {cx : Cx} {keep : List Nat} {ops0 : Array Oper} {r : List Oper} {A : Asr} {Q : Asr → List Log → Prop} {d : Nat} {ty : Nat} {pos : String} {aft : Array Edge}
theorem a3h {x : Operand} {T : Nat} {l : List UInt8} (hx : opd A x = some (tV l)) (hT : a4v (tyS cx.P T).k = true)
  (h : XR cx keep ops0 r ((.t d, iV l.length) :: A) fun A' lg => Q A' ((rds x, [.t d]) :: lg)) : XR cx keep ops0 (⟨some d, .call ⟨.builtin .len, #[x], #[T]⟩, ty, pos, aft, none⟩ :: r) A Q := c6e hx hT h
theorem P9 {x i : Operand} {T n : Nat} {l : List UInt8} {k : IntKind} (hT : a4v (tyS cx.P T).k = true) (hx : opd A x = some (tV l)) (hi : opd A i = some (.val (.int k (n : Int)))) (hn : n < l.length)
  (h : XR cx keep ops0 r ((.t d, uV (l.getD n 0).toNat) :: A) fun A' lg => Q A' ((rds x ++ rds i, [.t d]) :: lg)) : XR cx keep ops0 (⟨some d, .index T x i, ty, pos, aft, none⟩ :: r) A Q :=
 a4q hT hx hi (by omega) (by rw [Int.toNat_natCast]; show l[n]? = _; rw [List.getD_eq_getElem?_getD, List.getElem?_eq_getElem hn]; rfl) h
theorem Q0 {T z : Nat} {a b : Operand} {x y : List UInt8} (ha : opd A a = some (tV x)) (hb : opd A b = some (tV y)) (hi : x.length + y.length ≤ H6)
  (h : XR cx keep ops0 r ((.t d, tV (x ++ y)) :: A) fun A' lg => Q A' ((rds a ++ rds b, [.t d]) :: lg)) : XR cx keep ops0 (⟨some d, .binOp .add T a b z, ty, pos, aft, none⟩ :: r) A Q :=
 d2h ha hb hi (by rw [c5t]; exact h)
theorem a4t {T z : Nat} {a b : Operand} {x y : List UInt8} (ha : opd A a = some (tV x)) (hb : opd A b = some (tV y))
  (h : XR cx keep ops0 r ((.t d, bV (decide (x = y))) :: A) fun A' lg => Q A' ((rds a ++ rds b, [.t d]) :: lg)) : XR cx keep ops0 (⟨some d, .binOp .eql T a b z, ty, pos, aft, none⟩ :: r) A Q :=
 K0 ha hb (by rw [a5y, a5y, show (x == y) = decide (x = y) from Bool.eq_iff_iff.2 (by simp)]; exact h)
theorem c4l {T z : Nat} {a b : Operand} {x y : List UInt8} (ha : opd A a = some (tV x)) (hb : opd A b = some (tV y))
  (h : XR cx keep ops0 r ((.t d, bV (!decide (x = y))) :: A) fun A' lg => Q A' ((rds a ++ rds b, [.t d]) :: lg)) : XR cx keep ops0 (⟨some d, .binOp .neq T a b z, ty, pos, aft, none⟩ :: r) A Q :=
 b0e ha hb (by rw [a5y, a5y, show (x == y) = decide (x = y) from Bool.eq_iff_iff.2 (by simp)]; exact h)
theorem U3 {x : Operand} {T lo1 hi1 : Nat} {lo hi : Option Operand} {l : List UInt8} {ls1 ls2 : List Mv.Loc} (hx : opd A x = some (tV l)) (hT : (tyS cx.P T).k = .string)
  (hh : wpA (CW cx) A (optNat hi l.length) fun k ls => k = hi1 ∧ ls = ls1) (hl : wpA (CW cx) A (optNat lo 0) fun k ls => k = lo1 ∧ ls = ls2) (hc : lo1 ≤ hi1 ∧ hi1 ≤ l.length)
  (h : XR cx keep ops0 r ((.t d, tV ((l.drop lo1).take (hi1 - lo1))) :: A) fun A' lg => Q A' ((rds x ++ (ls1 ++ ls2), [.t d]) :: lg)) : XR cx keep ops0 (⟨some d, .slice T x lo hi none, ty, pos, aft, none⟩ :: r) A Q := by
 refine K9 (fun o ho => by simp only [aopV, ho]) ?_ (by simp [slotOk, refOkV, refsOk]) h
 simp only [opV, F0, F6 hx, sliceA, hT, G1]
 refine ⟨trivial, ?_⟩
 refine P6 ?_ hh
 rintro _ _ ⟨rfl, rfl⟩
 refine P6 ?_ hl
 rintro _ _ ⟨rfl, rfl⟩
 simp only [G1, F8, c2u, List.append_nil]
 exact ⟨hc, by simp⟩
end
end Go.Mv
namespace Go.Mv
open Go
theorem d1s {x : Int} (h : 0 ≤ x ∧ x ≤ 255) : inI .u8 x := by
 constructor <;> simp [IntKind.min, IntKind.max, IntKind.signed, IntKind.bits] <;> omega
end Go.Mv
end

section
namespace Go.Mv
open Go
def a9c (n : Nat) : List UInt8 := if n < 10 then [UInt8.ofNat (48 + n)] else a9c (n / 10) ++ [UInt8.ofNat (48 + n % 10)]
termination_by n
theorem c2z {n : Nat} (h : n < 10) : a9c n = [UInt8.ofNat (48 + n)] := by rw [a9c, if_pos h]
theorem d0q {n : Nat} (h : ¬ n < 10) : a9c n = a9c (n / 10) ++ a9c (n % 10) := by
 rw [a9c, if_neg h, c2z (show n % 10 < 10 from Nat.mod_lt _ (by decide))]
def dec (n : Int) : List UInt8 := if n < 0 then 45 :: a9c (-n).toNat else a9c n.toNat
theorem b1a (n : Nat) : dec (n : Int) = a9c n := by rw [dec, if_neg (by omega)]; rfl
theorem b9d (n : Nat) : ∀ {k : Nat}, 1 ≤ k → n < 10 ^ k → (a9c n).length ≤ k := by
 induction n using Nat.strongRecOn with
 | _ n ih =>
  intro k hk hn
  rw [a9c]
  split
  ·simpa using hk
  ·rename_i h
   match k, hk with
   | 1, _ => omega
   | k + 2, _ =>
    have := ih (n / 10) (by omega) (k := k + 1) (by omega) (by rw [Nat.pow_succ] at hn; omega)
    simp; omega
theorem V2 {m : Int} (h : -1000000 ≤ m ∧ m ≤ 1000000) : (dec m).length ≤ 8 := by
 rw [dec]
 split
 ·have := b9d (-m).toNat (k := 7) (by decide) (by omega)
  simp; omega
 ·have := b9d m.toNat (k := 7) (by decide) (by omega)
  omega
theorem d0n {n : Int} (h : n < 0) : dec n = [45] ++ dec (-n) := by
 rw [dec, if_pos h, dec, if_neg (by omega)]; rfl
theorem d0l {n : Int} (h : 0 ≤ n ∧ n < 10) : dec n = (([48, 49, 50, 51, 52, 53, 54, 55, 56, 57] : List UInt8).drop n.toNat).take ((n + 1).toNat - n.toNat) := by
 obtain ⟨k, rfl⟩ : ∃ k : Nat, n = k := ⟨n.toNat, by omega⟩
 have hk : k < 10 := by omega
 rw [b1a, c2z hk]
 match k, hk with
 | 0, _ => rfl
 | 1, _ => rfl
 | 2, _ => rfl
 | 3, _ => rfl
 | 4, _ => rfl
 | 5, _ => rfl
 | 6, _ => rfl
 | 7, _ => rfl
 | 8, _ => rfl
 | 9, _ => rfl
theorem d2d {n : Int} (h : ¬ n < 10) : dec n = dec (n.tdiv 10) ++ dec (n.tmod 10) := by
 obtain ⟨k, rfl⟩ : ∃ k : Nat, n = k := ⟨n.toNat, by omega⟩
 have e1 : (k : Int).tdiv 10 = ((k / 10 : Nat) : Int) := by rw [Int.tdiv_eq_ediv_of_nonneg (by omega)]; omega
 have e2 : (k : Int).tmod 10 = ((k % 10 : Nat) : Int) := by rw [Int.tmod_eq_emod_of_nonneg (by omega)]; omega
 rw [e1, e2, b1a, b1a, b1a, d0q (by omega)]
def joinB (c : UInt8) : List (List UInt8) → List UInt8
 | [] => []
 | [p] => p
 | p :: q :: r => p ++ c :: joinB c (q :: r)
def W5 (q : List UInt8) : List (List UInt8) → List (List UInt8)
 | p :: ps => (q ++ p) :: ps
 | [] => []
def splitB (c : UInt8) : List UInt8 → List (List UInt8)
 | [] => [[]]
 | b :: r => if b = c then [] :: splitB c r else W5 [b] (splitB c r)
theorem b9i (a b : List UInt8) (l : List (List UInt8)) : W5 a (W5 b l) = W5 (a ++ b) l := by cases l <;> simp [W5]
theorem b5h (l : List (List UInt8)) : W5 [] l = l := by cases l <;> simp [W5]
theorem b5z (c : UInt8) (l : List UInt8) : splitB c l ≠ [] := by
 induction l with
 | nil => simp [splitB]
 | cons b r ih =>
  rw [splitB]
  split
  ·simp
  ·cases h : splitB c r with
   | nil => exact absurd h ih
   | cons p ps => simp [W5]
theorem b3o {c : UInt8} {p : List UInt8} {r : List (List UInt8)} (h : r ≠ []) : joinB c (p :: r) = p ++ c :: joinB c r := by
 cases r with
 | nil => exact absurd rfl h
 | cons q r => rfl
theorem b2g (c : UInt8) (l : List UInt8) : joinB c (splitB c l) = l := by
 induction l with
 | nil => rfl
 | cons b r ih =>
  rw [splitB]
  split
  ·rename_i e
   subst e
   rw [b3o (b5z _ _), ih]; rfl
  ·cases h : splitB c r with
   | nil => exact absurd h (b5z c r)
   | cons p ps =>
    rw [h] at ih
    cases ps with
    | nil => simp only [W5, joinB] at ih ⊢; rw [ih]; rfl
    | cons q ps => simp only [W5, joinB] at ih ⊢; rw [← ih]; rfl
theorem b2j {c : UInt8} {s : List UInt8} {out : List (List UInt8)} {fr i : Nat} (hi : i < s.length) (hf : fr ≤ i) (h : splitB c s = out ++ W5 ((s.drop fr).take (i - fr)) (splitB c (s.drop i))) :
  (s.getD i 0 = c → splitB c s = (out ++ [(s.drop fr).take (i - fr)]) ++ W5 ((s.drop (i + 1)).take (i + 1 - (i + 1))) (splitB c (s.drop (i + 1)))) ∧
  (s.getD i 0 ≠ c → splitB c s = out ++ W5 ((s.drop fr).take (i + 1 - fr)) (splitB c (s.drop (i + 1)))) := by
 have e : s.drop i = s.getD i 0 :: s.drop (i + 1) := by
  rw [List.drop_eq_getElem_cons hi, List.getD_eq_getElem?_getD, List.getElem?_eq_getElem hi]; rfl
 refine ⟨fun hc => ?_, fun hc => ?_⟩
 ·rw [h, e, splitB, if_pos hc, Nat.sub_self, List.take_zero, b5h, W5, List.append_nil, List.append_assoc]; rfl
 ·rw [h, e, splitB, if_neg hc, b9i]
  congr 2
  have e2 : (s.drop fr).take (i + 1 - fr) = (s.drop fr).take (i - fr) ++ [s.getD i 0] := by
   rw [show i + 1 - fr = (i - fr) + 1 by omega, List.take_succ_eq_append_getElem (by simp; omega)]
   congr 2
   rw [List.getElem_drop, List.getD_eq_getElem?_getD, List.getElem?_eq_getElem hi]
   simp [show fr + (i - fr) = i by omega]
  rw [e2]
def a0h : Nat → List UInt8 → Option Nat
 | a, [] => some a
 | a, b :: r => if 48 ≤ b.toNat ∧ b.toNat ≤ 57 ∧ a ≤ 10000 then a0h (10 * a + (b.toNat - 48)) r else none
theorem a9w (x y : List UInt8) : ∀ a, a0h a (x ++ y) = (a0h a x).bind fun b => a0h b y := by
 induction x with
 | nil => intro a; rfl
 | cons c x ih =>
  intro a
  rw [List.cons_append, a0h, a0h]
  split
  ·exact ih _
  ·rfl
def neg? (t : List UInt8) : Bool := decide (t.head? = some 45)
def unS (t : List UInt8) : List UInt8 := if neg? t = true then t.tail else t
def rdI (t : List UInt8) : Option Int := (a0h 0 (unS t)).bind fun n => if unS t = [] ∨ dec (if neg? t = true then -(n : Int) else n) ≠ t then none else some (if neg? t = true then -(n : Int) else n)
theorem c8b {t : List UInt8} {m : Int} (h : rdI t = some m) : t = dec m := by
 unfold rdI at h
 obtain ⟨n, _, h2⟩ := Option.bind_eq_some_iff.1 h
 by_cases hc : unS t = [] ∨ dec (if neg? t = true then -(n : Int) else n) ≠ t
 ·rw [if_pos hc] at h2; cases h2
 ·rw [if_neg hc] at h2
  simp only [not_or, Decidable.not_not] at hc
  rw [Option.some.injEq] at h2
  rw [← h2]
  exact hc.2.symm
def a3z (ns : List Int) : List UInt8 := joinB 44 (ns.map dec)
theorem b2l {c : UInt8} (p : List UInt8) : ∀ {r : List (List UInt8)}, r ≠ [] → joinB c (r ++ [p]) = joinB c r ++ c :: p
 | [], h => absurd rfl h
 | [q], _ => rfl
 | q :: q2 :: r, _ => by
  have h1 := b2l (c := c) p (r := q2 :: r) (by simp)
  show q ++ c :: joinB c ((q2 :: r) ++ [p]) = (q ++ c :: joinB c (q2 :: r)) ++ c :: p
  rw [h1]; simp
theorem b8c {ns : List Int} {i : Nat} (hi : i < ns.length) (h0 : 0 < i) : a3z (ns.take (i + 1)) = a3z (ns.take i) ++ [44] ++ dec (ns.getD i default) := by
 have e : ns.getD i default = ns[i] := by rw [List.getD_eq_getElem?_getD, List.getElem?_eq_getElem hi]; rfl
 rw [a3z, a3z, List.take_succ_eq_append_getElem hi, List.map_append, List.map_singleton, b2l, e, List.append_assoc]
 ·rfl
 ·intro h
  have := congrArg List.length h
  rw [List.length_map, List.length_take, List.length_nil] at this
  omega
theorem b9t {ns : List Int} {i : Nat} (hi : i < ns.length) (h0 : i = 0) : a3z (ns.take (i + 1)) = a3z (ns.take i) ++ dec (ns.getD i default) := by
 subst h0
 cases ns with
 | nil => simp at hi
 | cons n r => rfl
theorem a8i {ns : List Int} (h : ∀ n ∈ ns, -1000000 ≤ n ∧ n ≤ 1000000) : (a3z ns).length ≤ 9 * ns.length := by
 have key : ∀ ps : List (List UInt8), (∀ p ∈ ps, p.length ≤ 8) → (joinB 44 ps).length ≤ 9 * ps.length := by
  intro ps
  induction ps with
  | nil => intro _; simp [joinB]
  | cons p r ih =>
   intro hp
   have h1 := hp p (by simp)
   have h2 := ih fun q hq => hp q (List.mem_cons_of_mem _ hq)
   cases r with
   | nil => simp only [joinB, List.length_singleton]; omega
   | cons q r => rw [b3o (by simp)]; simp only [List.length_append, List.length_cons] at h2 ⊢; omega
 have := key (ns.map dec) fun p hp => by
  obtain ⟨n, hn, rfl⟩ := List.mem_map.1 hp
  exact V2 (h n hn)
 simpa [a3z] using this
def c3h (ns : List Int) : List UInt8 := 91 :: (a3z ns ++ [93])
def a1r : List (List UInt8) → Option (List Int)
 | [] => some []
 | p :: r => (rdI p).bind fun n => (a1r r).map fun ns => n :: ns
def rdL (s : List UInt8) : Option (List Int) := a1r (splitB 44 s)
theorem a8w : ∀ {ps : List (List UInt8)} {ns : List Int}, a1r ps = some ns → ps = ns.map dec
 | [], ns, h => by cases h; rfl
 | p :: r, ns, h => by
  simp only [a1r, Option.bind_eq_some_iff, Option.map_eq_some_iff] at h
  obtain ⟨n, h1, ms, h2, rfl⟩ := h
  rw [List.map_cons, ← c8b h1, ← a8w h2]
theorem b0h (x y : List (List UInt8)) : a1r (x ++ y) = (a1r x).bind fun a => (a1r y).map fun b => a ++ b := by
 induction x with
 | nil => cases h : a1r y <;> simp [a1r, h]
 | cons p x ih =>
  rw [List.cons_append, a1r, a1r, ih]
  cases rdI p with
  | none => rfl
  | some n =>
   cases a1r x with
   | none => rfl
   | some a =>
    cases a1r y with
    | none => rfl
    | some b => rfl
theorem a8s {ps : List (List UInt8)} {ns : List Int} {i : Nat} {n : Int} (hi : i < ps.length) (h : a1r (ps.take i) = some ns) (hn : rdI (ps.getD i default) = some n) : a1r (ps.take (i + 1)) = some (ns ++ [n]) := by
 have e : ps.getD i default = ps[i] := by rw [List.getD_eq_getElem?_getD, List.getElem?_eq_getElem hi]; rfl
 rw [e] at hn
 rw [List.take_succ_eq_append_getElem hi, b0h, h, Option.bind_some, a1r, hn]
 rfl
theorem M2 {ps : List (List UInt8)} {i : Nat} (hi : i < ps.length) (hn : rdI (ps.getD i default) = none) : a1r ps = none := by
 have e : ps.getD i default = ps[i] := by rw [List.getD_eq_getElem?_getD, List.getElem?_eq_getElem hi]; rfl
 rw [e] at hn
 rw [← List.take_append_drop i ps, b0h, List.drop_eq_getElem_cons hi, a1r, hn]
 cases a1r (ps.take i) <;> rfl
theorem a9t : ∀ {ps : List (List UInt8)} {ns : List Int}, a1r ps = some ns → ns.length = ps.length := fun h => by rw [a8w h, List.length_map]
theorem b1h : ∀ {u : List UInt8} {a n : Nat}, a ≤ 100009 → a0h a u = some n → n ≤ 100009
 | [], a, n, ha, h => by cases h; exact ha
 | b :: r, a, n, _, h => by
  rw [a0h] at h
  split at h
  ·exact b1h (by omega) h
  ·cases h
theorem a8t {u : List UInt8} {k a : Nat} (hk : k < u.length) (h : a0h 0 (u.take k) = some a) (hb : 48 ≤ (u.getD k 0).toNat ∧ (u.getD k 0).toNat ≤ 57 ∧ a ≤ 10000) : a0h 0 (u.take (k + 1)) = some (10 * a + ((u.getD k 0).toNat - 48)) := by
 have e : u.getD k 0 = u[k] := by rw [List.getD_eq_getElem?_getD, List.getElem?_eq_getElem hk]; rfl
 rw [e] at hb ⊢
 rw [List.take_succ_eq_append_getElem hk, a9w, h, Option.bind_some, a0h, if_pos hb, a0h]
theorem T3 {u : List UInt8} {k a : Nat} (hk : k < u.length) (h : a0h 0 (u.take k) = some a) (hb : ¬(48 ≤ (u.getD k 0).toNat ∧ (u.getD k 0).toNat ≤ 57 ∧ a ≤ 10000)) : a0h 0 u = none := by
 have e : u.getD k 0 = u[k] := by rw [List.getD_eq_getElem?_getD, List.getElem?_eq_getElem hk]; rfl
 rw [e] at hb
 rw [← List.take_append_drop k u, a9w, h, Option.bind_some, List.drop_eq_getElem_cons hk, a0h, if_neg hb]
theorem W4 {p : List UInt8} (h : a0h 0 (unS p) = none) : rdI p = none := by rw [rdI, h]; rfl
theorem c0y {p : List UInt8} {a : Nat} {m : Int} (h : a0h 0 (unS p) = some a) (hm : m = if neg? p = true then -(a : Int) else a) (h1 : unS p ≠ []) (h2 : dec m = p) : rdI p = some m := by
 rw [rdI, h, Option.bind_some, ← hm, if_neg (by simp [h1, h2])]
theorem a8l {p : List UInt8} {a : Nat} {m : Int} (h : a0h 0 (unS p) = some a) (hm : m = if neg? p = true then -(a : Int) else a) (h1 : unS p = [] ∨ dec m ≠ p) : rdI p = none := by
 rw [rdI, h, Option.bind_some, ← hm, if_pos h1]
theorem d2s {p : List UInt8} (h : p ≠ []) (h2 : (p.getD 0 0).toNat = 45) : neg? p = true ∧ unS p = (p.drop 1).take (p.length - 1) := by
 have hn : neg? p = true := by
  cases p with
  | nil => exact absurd rfl h
  | cons b r => exact decide_eq_true (congrArg some (UInt8.toNat_inj.1 h2))
 refine ⟨hn, ?_⟩
 rw [unS, if_pos hn]
 cases p with
 | nil => rfl
 | cons b r => simp
theorem d1c {p : List UInt8} (h : p = [] ∨ (p.getD 0 0).toNat ≠ 45) : neg? p = false ∧ unS p = p := by
 have hn : neg? p = false := by
  cases p with
  | nil => rfl
  | cons b r =>
   refine decide_eq_false fun e => ?_
   rcases h with h | h
   ·cases h
   ·cases e; exact h rfl
 exact ⟨hn, by rw [unS, hn, if_neg (by decide)]⟩
def O9 (w : List UInt8) : Option (List Int) :=
 if 2 ≤ w.length ∧ w.getD 0 0 = 91 ∧ w.getD (w.length - 1) 0 = 93 then
  (if w.length = 2 then some [] else (rdL ((w.drop 1).take (w.length - 1 - 1))).bind fun ns => if vd ns = true then some ns else none) else none
theorem c7w {w : List UInt8} (h : 2 ≤ w.length ∧ w.getD 0 0 = 91 ∧ w.getD (w.length - 1) 0 = 93) : w = 91 :: ((w.drop 1).take (w.length - 1 - 1) ++ [93]) := by
 obtain ⟨h1, h2, h3⟩ := h
 match w, h1 with
 | a :: r, h1 =>
  simp only [List.length_cons] at h1
  have e1 : a = 91 := h2
  subst e1
  have hr : r ≠ [] := fun e => by subst e; simp at h1
  simp only [List.length_cons, Nat.add_sub_cancel, List.drop_succ_cons, List.drop_zero]
  congr 1
  have h4 : r.getD (r.length - 1) 0 = 93 := by
   have : (91 :: r).getD (r.length) 0 = 93 := by simpa using h3
   rw [show r.length = (r.length - 1) + 1 by omega, List.getD_cons_succ] at this
   exact this
  have h5 := List.take_succ_eq_append_getElem (l := r) (i := r.length - 1) (by omega)
  rw [show r.length - 1 + 1 = r.length by omega, List.take_length] at h5
  rw [List.getD_eq_getElem?_getD, List.getElem?_eq_getElem (by omega)] at h4
  have h6 : r[r.length - 1] = 93 := h4
  rw [h6] at h5
  exact h5
theorem b9o {w : List UInt8} {ns : List Int} (h : O9 w = some ns) : w = c3h ns ∧ vd ns = true := by
 unfold O9 at h
 split at h
 ·rename_i hb
  have hp := c7w hb
  split at h
  ·rename_i h2
   cases h
   refine ⟨?_, by decide⟩
   rw [hp, h2]
   rfl
  ·obtain ⟨ms, h3, h4⟩ := Option.bind_eq_some_iff.1 h
   split at h4
   ·rename_i hv
    cases h4
    refine ⟨?_, hv⟩
    rw [hp, c3h, a3z, ← a8w h3, b2g]
   ·cases h4
 ·cases h
end Go.Mv
namespace Go.Mv
theorem a1s (c : UInt8) (l : List UInt8) : (splitB c l).length ≤ l.length + 1 := by
 induction l with
 | nil => simp [splitB]
 | cons b r ih =>
  rw [splitB]
  split
  ·simp; omega
  ·cases h : splitB c r with
   | nil => simp [W5]
   | cons p ps => rw [h] at ih; simp [W5] at ih ⊢; omega
theorem a4o (c : UInt8) (l : List UInt8) : ∀ p ∈ splitB c l, p.length ≤ l.length := by
 induction l with
 | nil => simp [splitB]
 | cons b r ih =>
  rw [splitB]
  split
  ·intro p hp
   rcases List.mem_cons.1 hp with e | e
   ·subst e; simp
   ·have := ih p e; simp; omega
  ·cases h : splitB c r with
   | nil => simp [W5]
   | cons q ps =>
    rw [h] at ih
    intro p hp
    rcases List.mem_cons.1 hp with e | e
    ·subst e; have := ih q (by simp); simp; omega
    ·have := ih p (by simp [e]); simp; omega
end Go.Mv
namespace Go.Mv
theorem b7e (p : List UInt8) : (unS p).length ≤ p.length := by
 unfold unS
 split
 ·cases p <;> simp
 ·exact Nat.le_refl _
end Go.Mv
namespace Go.Mv
def b9w (w : List UInt8) : List Int :=
 if 2 ≤ w.length ∧ w.getD 0 0 = 91 ∧ w.getD (w.length - 1) 0 = 93 then (if w.length = 2 then [] else (rdL ((w.drop 1).take (w.length - 1 - 1))).getD []) else []
theorem d1b {b c : UInt8} {k : Nat} (h : (b.toNat : Int) = k) (hc : c.toNat = k) : b = c := UInt8.toNat_inj.1 (by omega)
theorem a5x {s : List UInt8} (h : s.length < 2 ∨ (s.getD 0 0).toNat ≠ 91 ∨ (s.getD (s.length - 1) 0).toNat ≠ 93) : O9 s = none ∧ b9w s = [] := by
 have hn : ¬(2 ≤ s.length ∧ s.getD 0 0 = 91 ∧ s.getD (s.length - 1) 0 = 93) := by
  rintro ⟨h1, h2, h3⟩
  rcases h with h | h | h
  ·omega
  ·exact h (by rw [h2]; rfl)
  ·exact h (by rw [h3]; rfl)
 exact ⟨if_neg hn, if_neg hn⟩
theorem c4u {s : List UInt8} (h1 : 2 ≤ s.length) (h2 : ((s.getD 0 0).toNat : Int) = 91) (h3 : ((s.getD (s.length - 1) 0).toNat : Int) = 93) :
  (s.length = 2 → O9 s = some [] ∧ b9w s = []) ∧ (s.length ≠ 2 → O9 s = ((rdL ((s.drop 1).take (s.length - 1 - 1))).bind fun ns => if vd ns = true then some ns else none) ∧ b9w s = (rdL ((s.drop 1).take (s.length - 1 - 1))).getD []) := by
 have hb : 2 ≤ s.length ∧ s.getD 0 0 = 91 ∧ s.getD (s.length - 1) 0 = 93 := ⟨h1, d1b h2 rfl, d1b h3 rfl⟩
 refine ⟨fun e => ?_, fun e => ?_⟩
 ·rw [O9, b9w, if_pos hb, if_pos hb, if_pos e, if_pos e]; exact ⟨rfl, rfl⟩
 ·rw [O9, b9w, if_pos hb, if_pos hb, if_neg e, if_neg e]; exact ⟨rfl, rfl⟩
theorem c9q {s : List UInt8} {ns : List Int} (h : O9 s = some ns) : b9w s = ns := by
 unfold O9 at h
 unfold b9w
 split at h
 ·rename_i hb
  rw [if_pos hb]
  split at h
  ·rename_i h2
   rw [if_pos h2]; cases h; rfl
  ·rename_i h2
   rw [if_neg h2]
   obtain ⟨ms, h3, h4⟩ := Option.bind_eq_some_iff.1 h
   split at h4
   ·cases h4; rw [h3]; rfl
   ·cases h4
 ·cases h
theorem d0c (s : List UInt8) : ((rdL s).getD []).length ≤ s.length + 1 := by
 cases h : rdL s with
 | none => exact Nat.zero_le _
 | some ns => have := a9t h; have h2 := a1s 44 s; simp only [Option.getD_some]; omega
theorem b2x {s : List UInt8} {o : Option (List Int)} (h : O9 s = (o.bind fun ns => if vd ns = true then some ns else none)) : (O9 s).isSome = (o.isSome && vd (o.getD [])) := by
 rw [h]
 cases o with
 | none => rfl
 | some ns =>
  simp only [Option.bind_some, Option.isSome_some, Bool.true_and, Option.getD_some]
  cases hv : vd ns <;> rfl
end Go.Mv
end

section
namespace Go.Mv
open Go
inductive Pl where
 | lst (ns : List Int)
 | col (w : List UInt8)
 | un (w : List UInt8) (p : Pl)
 | bin (w : List UInt8) (p q : Pl)
 deriving Inhabited
abbrev lW : List UInt8 := [108, 105, 115, 116]
def Pl.op : Pl → List UInt8
 | .lst _ => lW
 | .col w => w
 | .un w _ => w
 | .bin w _ _ => w
def Pl.ns : Pl → List Int
 | .lst ns => ns
 | _ => []
def Pl.kids : Pl → List Pl
 | .lst _ => []
 | .col _ => []
 | .un _ p => [p]
 | .bin _ p q => [p, q]
def b9j : Pl → List AV
 | .lst _ => []
 | .col _ => []
 | .un _ p => [.agg [tV p.op, .list (p.ns.map iV), .list (b9j p)]]
 | .bin _ p q => [.agg [tV p.op, .list (p.ns.map iV), .list (b9j p)], .agg [tV q.op, .list (q.ns.map iV), .list (b9j q)]]
abbrev trV (t : Pl) : AV := .agg [tV t.op, .list (t.ns.map iV), .list (b9j t)]
abbrev trK (t : Pl) : AV := .agg [tV t.op, .list (t.ns.map iV), .list (t.kids.map trV)]
theorem c6k (t : Pl) : b9j t = t.kids.map trV := by cases t <;> rfl
theorem c3s (t : Pl) : trV t = trK t := by show AV.agg _ = AV.agg _; rw [c6k]
abbrev trZ : AV := .agg [tV [], .list [], .list []]
abbrev W8 := List UInt8
def rdP : Nat → List W8 → Option (Pl × List W8)
 | 0, _ => none
 | _ + 1, [] => none
 | n + 1, w :: ws => match O9 w with
  | some ns => some (.lst ns, ws)
  | none =>
   if rch (bA w) = 0 then some (.col w, ws)
   else if rch (bA w) = 1 then (rdP n ws).map fun x => (.un w x.1, x.2)
   else if rch (bA w) = 2 then (rdP n ws).bind fun x => (rdP n x.2).map fun y => (.bin w x.1 y.1, y.2)
   else none
def rdT (ws : List W8) : Option (Pl × List W8) := rdP ws.length ws
theorem a2d : ∀ {n : Nat} {ws r : List W8} {t : Pl}, rdP n ws = some (t, r) → r.length < ws.length
 | 0, _, _, _, h => by cases h
 | _ + 1, [], _, _, h => by cases h
 | n + 1, w :: ws, r, t, h => by
  rw [rdP] at h
  split at h
  ·cases h; exact Nat.lt_succ_self _
  ·split at h
   ·cases h; exact Nat.lt_succ_self _
   ·split at h
    ·obtain ⟨⟨p, r1⟩, h1, h2⟩ := Option.map_eq_some_iff.1 h
     cases h2
     have := a2d h1
     simp only [List.length_cons]; omega
    ·split at h
     ·obtain ⟨⟨p, r1⟩, h1, h2⟩ := Option.bind_eq_some_iff.1 h
      obtain ⟨⟨q, r2⟩, h3, h4⟩ := Option.map_eq_some_iff.1 h2
      cases h4
      have a := a2d h1
      have b := a2d h3
      simp only [List.length_cons] at b ⊢; omega
     ·cases h
theorem b2q : ∀ {n m : Nat} {ws : List W8}, ws.length ≤ n → ws.length ≤ m → rdP n ws = rdP m ws
 | 0, 0, _, _, _ => rfl
 | 0, m + 1, [], _, _ => rfl
 | n + 1, 0, [], _, _ => rfl
 | n + 1, m + 1, [], _, _ => rfl
 | 0, _, w :: ws, h, _ => by simp at h
 | n + 1, 0, w :: ws, _, h => by simp at h
 | n + 1, m + 1, w :: ws, h1, h2 => by
  simp only [List.length_cons] at h1 h2
  have e : rdP n ws = rdP m ws := b2q (by omega) (by omega)
  rw [rdP, rdP, e]
  have e2 : ((rdP m ws).bind fun x => (rdP n x.2).map fun y => (Pl.bin w x.1 y.1, y.2)) = (rdP m ws).bind fun x => (rdP m x.2).map fun y => (Pl.bin w x.1 y.1, y.2) := by
   cases h : rdP m ws with
   | none => rfl
   | some x =>
    obtain ⟨p, r⟩ := x
    have := a2d h
    simp only [Option.bind_some]
    rw [b2q (n := n) (m := m) (ws := r) (by omega) (by omega)]
  rw [e2]
theorem c8z {w : W8} {ws : List W8} {ns : List Int} (h : O9 w = some ns) : rdT (w :: ws) = some (.lst ns, ws) := by
 rw [rdT, List.length_cons, rdP, h]
theorem d0b {w : W8} {ws : List W8} (h : O9 w = none) (h0 : rch (bA w) = 0) : rdT (w :: ws) = some (.col w, ws) := by
 rw [rdT, List.length_cons, rdP, h]
 exact if_pos h0
theorem d0x {w : W8} {ws : List W8} (h : O9 w = none) (h0 : rch (bA w) < 0) : rdT (w :: ws) = none := by
 rw [rdT, List.length_cons, rdP, h]
 simp only
 rw [if_neg (by omega), if_neg (by omega), if_neg (by omega)]
theorem c9d {w : W8} {ws : List W8} (h : O9 w = none) (h0 : rch (bA w) = 1) : rdT (w :: ws) = (rdT ws).map fun x => (.un w x.1, x.2) := by
 rw [rdT, List.length_cons, rdP, h]
 simp only
 rw [if_neg (by omega), if_pos h0]; rfl
theorem b6v {w : W8} {ws : List W8} (h : O9 w = none) (h0 : rch (bA w) = 2) : rdT (w :: ws) = (rdT ws).bind fun x => (rdT x.2).map fun y => (.bin w x.1 y.1, y.2) := by
 rw [rdT, List.length_cons, rdP, h]
 simp only
 rw [if_neg (by omega), if_neg (by omega), if_pos h0]
 show (rdT ws).bind _ = _
 cases h : rdT ws with
 | none => rfl
 | some x =>
  obtain ⟨p, r⟩ := x
  have := a2d h
  simp only [Option.bind_some]
  rw [b2q (n := ws.length) (m := r.length) (ws := r) (by omega) (by omega)]; rfl
theorem a7d {ws r : List W8} {t : Pl} (h : rdT ws = some (t, r)) : r.length < ws.length := a2d h
def rtR : Option (Pl × List W8) → AV
 | some (t, r) => .tup [trV t, .list (r.map tV), bV true]
 | none => .tup [trZ, .own 1 [], bV false]
theorem c5j {w : ByteArray} (h : 0 ≤ rch w) : rch w = 0 ∨ rch w = 1 ∨ rch w = 2 := by have := c9e w; omega
end Go.Mv
namespace Go.Mv
theorem a8c : ∀ {n : Nat} {ws r : List W8} {t : Pl}, rdP n ws = some (t, r) → ∀ x ∈ r, x ∈ ws
 | 0, _, _, _, h => by cases h
 | _ + 1, [], _, _, h => by cases h
 | n + 1, w :: ws, r, t, h => by
  rw [rdP] at h
  split at h
  ·cases h; exact fun x hx => List.mem_cons_of_mem _ hx
  ·split at h
   ·cases h; exact fun x hx => List.mem_cons_of_mem _ hx
   ·split at h
    ·obtain ⟨⟨p, r1⟩, h1, h2⟩ := Option.map_eq_some_iff.1 h
     cases h2
     exact fun x hx => List.mem_cons_of_mem _ (a8c h1 x hx)
    ·split at h
     ·obtain ⟨⟨p, r1⟩, h1, h2⟩ := Option.bind_eq_some_iff.1 h
      obtain ⟨⟨q, r2⟩, h3, h4⟩ := Option.map_eq_some_iff.1 h2
      cases h4
      exact fun x hx => List.mem_cons_of_mem _ (a8c h1 x (a8c h3 x hx))
     ·cases h
theorem c3z {ws r : List W8} {t : Pl} (h : rdT ws = some (t, r)) : ∀ x ∈ r, x ∈ ws := a8c h
end Go.Mv
namespace Go.Mv
def rpT (s : List UInt8) : Pl := if s.length ≤ 160 ∧ (splitB 32 s).length ≤ 16 then (match rdT (splitB 32 s) with | some (t, _) => t | none => .col []) else .col []
def rdPlan (s : List UInt8) : Option Pl := if s.length ≤ 160 ∧ (splitB 32 s).length ≤ 16 then (rdT (splitB 32 s)).bind fun x => if x.2.length = 0 then some x.1 else none else none
theorem d2b {s : List UInt8} {t : Pl} (h : rdPlan s = some t) : rpT s = t := by
 unfold rdPlan at h
 unfold rpT
 split at h
 ·rename_i hc
  rw [if_pos hc]
  obtain ⟨⟨t1, r⟩, h1, h2⟩ := Option.bind_eq_some_iff.1 h
  split at h2
  ·cases h2; rw [h1]
  ·cases h2
 ·cases h
theorem b1w {s : List UInt8} (h : 160 < s.length ∨ 16 < (splitB 32 s).length) : rdPlan s = none ∧ rpT s = .col [] := by
 have hn : ¬(s.length ≤ 160 ∧ (splitB 32 s).length ≤ 16) := by omega
 exact ⟨if_neg hn, if_neg hn⟩
theorem c4r {s : List UInt8} {ws : List W8} (hw : ws = splitB 32 s) (h : s.length ≤ 160 ∧ ws.length ≤ 16) : (rdT ws = none → rdPlan s = none ∧ rpT s = .col []) ∧ ∀ t r, rdT ws = some (t, r) → (rdPlan s).isSome = decide ((r.length : Int) = 0) ∧ rpT s = t := by
 subst hw
 refine ⟨fun hr => ?_, fun t r hr => ?_⟩
 ·rw [rdPlan, rpT, if_pos h, if_pos h, hr]; exact ⟨rfl, rfl⟩
 ·rw [rdPlan, rpT, if_pos h, if_pos h, hr]
  refine ⟨?_, rfl⟩
  rw [Option.bind_some]
  by_cases c : r.length = 0
  ·rw [if_pos c]; simp [c]
  ·rw [if_neg c, decide_eq_false (by omega)]; rfl
theorem b2a {a b : List Int} {i : Nat} (hi : i < a.length) (h : a.getD i default ≠ b.getD i default) : decide (a = b) = false := decide_eq_false fun e => h (by rw [e])
theorem b0q {a b : List Int} (h : a.length ≠ b.length) : decide (a = b) = false := decide_eq_false fun e => h (by rw [e])
theorem b3x {a b : List Int} (hl : a.length = b.length) (h : ∀ j, j < a.length → a.getD j default = b.getD j default) : decide (a = b) = true := decide_eq_true (Z4 (d := default) hl h)
end Go.Mv
end

section
namespace Go.Mv
open Go
section
variable {cx : Cx} {keep : List Nat} {ops0 : Array Oper} {r : List Oper} {A : Asr} {Q : Asr → List Log → Prop} {d : Nat} {ty : Nat} {pos : String} {aft : Array Edge}
variable {C : Caller} {m f j : Nat} {cs fs : List AV} {G : Type} {vs : G → List AV} {ws : G → Ws} {ls : List Mv.Loc}
theorem d2l {id g n : Nat} (hid : id < 100000) (t : a6r C A 3 f (j + 1) cs.tail fs vs ws ls) : a6r C A 3 f j cs (.sl id g none 0 n :: fs) (fun x => .sl id g none 0 n :: vs x) ws ls := by
 refine A8 ?_
 unfold J2
 simp only [if_true]
 rw [if_neg (by simp; omega)]
 refine C7 (A8 (H9 t ?_))
 rintro _ _ _ ⟨g, rfl, rfl, rfl⟩
 exact C7 ⟨g, rfl, by simp, by simp⟩
theorem a7y {id g s n : Nat} {es : List AV} (ho : look A (.h id) = some (.obj g 0 s es)) (hn : n = es.length) (hi : H5 es = true) {R : List AV → Ws → List Mv.Loc → Prop} (h : R (frzL es) [(.h id, .obj g 2 s (frzL es))] [.h id]) : wpW C A (freeze (.sl id g none 0 n)) R := by
 subst hn
 unfold freeze
 refine A8 (J6 ho (A8 (E6 (by simp [bxB]) ?_)))
 simp only [show ¬ ((0 : Nat) = 2) from by decide, if_false]
 refine A8 (E6 (by simp [hi]) (A8 (J1 (C7 ?_))))
 have e : (frzL es).take es.length = frzL es := by rw [← Q1 es, List.take_length]
 simpa [e] using h
variable {b : Bool} {us : List AV} {w1 : Ws}
theorem N3 (hb : b = true) (t : b9s C A b fs us w1 ls) : b9s C A b (.nil :: fs) (.list [] :: us) w1 ls := by
 subst hb
 refine A8 ?_
 unfold retLf
 rw [if_pos rfl]
 refine C7 (A8 (H9 t ?_))
 rintro _ _ _ ⟨rfl, rfl, rfl⟩
 exact C7 ⟨rfl, by simp, by simp⟩
theorem b6q {α : Type} {φ : α → AV} {xs : List α} {id g s n : Nat} (hb : b = true) (ho : look A (.h id) = some (.obj g 0 s (xs.map φ))) (hn : n = (xs.map φ).length) (hi : ∀ a, L4 (φ a) = true) (t : b9s C (put A (.h id) (.obj g 2 s (xs.map φ))) b fs us w1 ls) :
  b9s C A b (.sl id g none 0 n :: fs) (.list (xs.map φ) :: us) ((.h id, .obj g 2 s (xs.map φ)) :: w1) (.h id :: ls) := by
 subst hb
 refine A8 ?_
 unfold retLf
 rw [if_pos rfl]
 have hr : H5 (xs.map φ) = true := A6 fun a => by
  have := hi a
  cases hfa : φ a <;> rw [hfa] at this <;> simp_all [L4, M3]
 refine A8 (a7y ho hn hr (C7 (A8 ?_)))
 rw [Z6 hi]
 refine H9 t ?_
 rintro _ _ _ ⟨rfl, rfl, rfl⟩
 exact C7 ⟨rfl, by simp, by simp⟩
end
end Go.Mv
namespace Go.Mv
open Go
section
variable {cx : Cx} {keep : List Nat} {ops0 : Array Oper} {r : List Oper} {A : Asr} {Q : Asr → List Log → Prop} {d : Nat} {ty : Nat} {pos : String} {aft : Array Edge}
end
end Go.Mv
namespace Go.Mv
open Go
end Go.Mv
end

section
namespace Go.Mv
open Go
def Pl.sz : Pl → Nat
 | .lst _ => 1
 | .col _ => 1
 | .un _ p => p.sz + 1
 | .bin _ p q => p.sz + q.sz + 1
theorem b6f : ∀ {n : Nat} {ws r : List W8} {t : Pl}, rdP n ws = some (t, r) → t.sz + r.length ≤ ws.length
 | 0, _, _, _, h => by cases h
 | _ + 1, [], _, _, h => by cases h
 | n + 1, w :: ws, r, t, h => by
  rw [rdP] at h
  split at h
  ·cases h; simp only [Pl.sz, List.length_cons]; omega
  ·split at h
   ·cases h; simp only [Pl.sz, List.length_cons]; omega
   ·split at h
    ·obtain ⟨⟨p, r1⟩, h1, h2⟩ := Option.map_eq_some_iff.1 h
     cases h2
     have := b6f h1
     simp only [Pl.sz, List.length_cons]; omega
    ·split at h
     ·obtain ⟨⟨p, r1⟩, h1, h2⟩ := Option.bind_eq_some_iff.1 h
      obtain ⟨⟨q, r2⟩, h3, h4⟩ := Option.map_eq_some_iff.1 h2
      cases h4
      have a := b6f h1
      have b := b6f h3
      simp only [Pl.sz, List.length_cons] at b ⊢; omega
     ·cases h
theorem a9a {s : List UInt8} {t : Pl} (h : rdPlan s = some t) : t.sz ≤ 16 := by
 unfold rdPlan at h
 split at h
 ·rename_i hc
  obtain ⟨⟨t1, r⟩, h1, h2⟩ := Option.bind_eq_some_iff.1 h
  have := b6f h1
  split at h2
  ·cases h2; simp only; omega
  ·cases h2
 ·cases h
theorem c1h {s : List UInt8} (h : (rdPlan s).isSome = true) : ∃ t, rdPlan s = some t ∧ rpT s = t ∧ t.sz ≤ 16 := by
 obtain ⟨t, ht⟩ := Option.isSome_iff_exists.1 h
 exact ⟨t, ht, d2b ht, a9a ht⟩
end Go.Mv
end

section
namespace Go.Mv
open Go
def Pl.good : Pl → Prop
 | .lst ns => vd ns = true
 | .col w => w ≠ lW ∧ w.length ≤ 1048576
 | .un w p => w ≠ lW ∧ w.length ≤ 1048576 ∧ p.good
 | .bin w p q => w ≠ lW ∧ w.length ≤ 1048576 ∧ p.good ∧ q.good
def b3r : Pl → List W8
 | .lst ns => [c3h ns]
 | .col w => [w]
 | .un w p => b3r p ++ [w]
 | .bin w p q => (b3r p ++ b3r q) ++ [w]
theorem a5r : ∀ t : Pl, (b3r t).length = t.sz
 | .lst ns => rfl
 | .col w => rfl
 | .un w p => by simp [b3r, Pl.sz, a5r p]
 | .bin w p q => by simp [b3r, Pl.sz, a5r p, a5r q]; omega
theorem b1x {w : W8} {ws : List W8} (hb : ∀ x ∈ w :: ws, x.length ≤ 1048576) (h : 0 ≤ rch (bA w)) : w ≠ lW ∧ w.length ≤ 1048576 :=
 ⟨fun e => absurd h (by subst e; decide +kernel), hb w (List.mem_cons_self ..)⟩
theorem c5r {w : W8} {ns : List Int} (h : O9 w = some ns) : vd ns = true := by
 unfold O9 at h
 split at h
 ·split at h
  ·cases h; rfl
  ·obtain ⟨ms, h1, h2⟩ := Option.bind_eq_some_iff.1 h
   split at h2
   ·cases h2; assumption
   ·cases h2
 ·cases h
theorem a7k : ∀ {n : Nat} {ws r : List W8} {t : Pl}, (∀ x ∈ ws, x.length ≤ 1048576) → rdP n ws = some (t, r) → t.good
 | 0, _, _, _, _, h => by cases h
 | _ + 1, [], _, _, _, h => by cases h
 | n + 1, w :: ws, r, t, hb, h => by
  have hb1 : ∀ x ∈ ws, x.length ≤ 1048576 := fun x hx => hb x (List.mem_cons_of_mem _ hx)
  rw [rdP] at h
  split at h
  ·cases h; exact c5r (by assumption)
  ·split at h
   ·cases h; exact b1x hb (by omega)
   ·split at h
    ·obtain ⟨⟨p, r1⟩, h1, h2⟩ := Option.map_eq_some_iff.1 h
     cases h2
     have hg := b1x hb (by omega)
     exact ⟨hg.1, hg.2, a7k hb1 h1⟩
    ·split at h
     ·obtain ⟨⟨p, r1⟩, h1, h2⟩ := Option.bind_eq_some_iff.1 h
      obtain ⟨⟨q, r2⟩, h3, h4⟩ := Option.map_eq_some_iff.1 h2
      cases h4
      have hg := b1x hb (by omega)
      exact ⟨hg.1, hg.2, a7k hb1 h1, a7k (fun x hx => hb1 x (a8c h1 x hx)) h3⟩
     ·cases h
theorem c0b {s : List UInt8} (hs : s.length ≤ 1048576) {t : Pl} (h : rdPlan s = some t) : t.good := by
 unfold rdPlan at h
 split at h
 ·obtain ⟨⟨t1, r⟩, h1, h2⟩ := Option.bind_eq_some_iff.1 h
  split at h2
  ·cases h2; exact a7k (fun x hx => by have := a4o 32 s x hx; omega) h1
  ·cases h2
 ·cases h
def d1h (s : List UInt8) : List W8 := match rdPlan s with
 | some t => b3r t
 | none => []
def mT (k : Int) : W8 := 109 :: (if k ≤ 0 then [48] else a9c k.toNat)
def mkT (k : Int) (n : Nat) : List W8 := (List.range n).map fun (j : Nat) => mT (k + j)
@[simp] theorem mkT_length (k : Int) (n : Nat) : (mkT k n).length = n := by simp [mkT]
end Go.Mv
end

section
namespace Go.Mv
open Go
abbrev d3c : W8 := [114, 101, 118]
abbrev d3f : W8 := [110, 101, 103]
abbrev d3b : W8 := [97, 98, 115]
abbrev d2n : W8 := [100, 105, 102, 102]
abbrev d2r : W8 := [115, 117, 109, 115]
abbrev lSort : W8 := [115, 111, 114, 116]
abbrev d3a : W8 := [116, 111, 116, 97, 108]
def a9i : Pl → List W8
 | .lst ns => [c3h ns]
 | .col w => [w]
 | .un w p => w :: a9i p
 | .bin w p q => w :: (a9i p ++ a9i q)
def Pl.wf : Pl → Prop
 | .lst _ => True
 | .col w => rch (bA w) = 0
 | .un w p => rch (bA w) = 1 ∧ p.wf
 | .bin w p q => rch (bA w) = 2 ∧ p.wf ∧ q.wf
def opsL : List (W8 × Int) := [(lSort, 1), (d3c, 1), (d3f, 1), (d3b, 1), (d2n, 1), (d2r, 1), ([114, 97, 110, 107, 115], 1), (d3a, 1), ([97, 100, 100], 2), ([106, 111, 105, 110], 2), ([97], 0), ([98], 0), ([99], 0), ([100], 0)]
theorem c9k {w : W8} (h : 0 ≤ rch (bA w)) : (w, rch (bA w)) ∈ opsL := by
 by_cases e : w ∈ opsL.map (·.1)
 ·have key : ∀ x ∈ opsL.map (·.1), (x, rch (bA x)) ∈ opsL := by decide +kernel
  exact key w e
 ·exfalso
  simp [opsL] at e
  unfold rch at h
  simp only [W0] at h
  simp_all [bA]
theorem a6e : ∀ {n : Nat} {ws r : List W8} {t : Pl}, rdP n ws = some (t, r) → ws = a9i t ++ r ∧ t.wf
 | 0, _, _, _, h => by cases h
 | _ + 1, [], _, _, h => by cases h
 | n + 1, w :: ws, r, t, h => by
  rw [rdP] at h
  split at h
  ·cases h
   rename_i ns hn
   exact ⟨by rw [(b9o hn).1]; rfl, trivial⟩
  ·split at h
   ·cases h; exact ⟨rfl, by assumption⟩
   ·split at h
    ·obtain ⟨⟨p, r1⟩, h1, h2⟩ := Option.map_eq_some_iff.1 h
     cases h2
     obtain ⟨e1, e2⟩ := a6e h1
     exact ⟨by rw [e1]; rfl, by assumption, e2⟩
    ·split at h
     ·obtain ⟨⟨p, r1⟩, h1, h2⟩ := Option.bind_eq_some_iff.1 h
      obtain ⟨⟨q, r2⟩, h3, h4⟩ := Option.map_eq_some_iff.1 h2
      cases h4
      obtain ⟨e1, e2⟩ := a6e h1
      obtain ⟨e3, e4⟩ := a6e h3
      simp only at e3
      exact ⟨by rw [e1, e3]; simp [a9i], by assumption, e2, e4⟩
     ·cases h
def d1f (t : Pl) : W8 := joinB 32 (a9i t)
end Go.Mv
end

section
namespace Go.Mv
open Go
theorem c9n {t : Pl} (h : t.good) : t.op.length ≤ 1048576 := by
 cases t with
 | lst ns => show 4 ≤ 1048576; decide
 | col w => exact h.2
 | un w p => exact h.2.1
 | bin w p q => exact h.2.1
abbrev Pl.k0 (t : Pl) : Pl := t.kids.getD 0 default
end Go.Mv
end

section
namespace Go.Mv
open Go
section
variable {cx : Cx} {keep : List Nat} {ops0 : Array Oper} {r : List Oper} {A : Asr} {Q : Asr → List Log → Prop} {d : Nat} {ty : Nat} {pos : String} {aft : Array Edge}
variable {C : Caller} {m f j : Nat} {cs fs : List AV} {G : Type} {vs : G → List AV} {ws : G → Ws} {ls : List Mv.Loc}
theorem a2h {α : Type} {φ : α → AV} {xs : List α} (hi : ∀ a, L4 (φ a) = true) : H5 (xs.map φ) = true := A6 fun a => by
 have := hi a
 cases hfa : φ a <;> rw [hfa] at this <;> simp_all [L4, M3]
theorem d1q {α : Type} {φ : α → AV} {xs : List α} {id g s n : Nat} (ho : look A (.h id) = some (.obj g 0 s (xs.map φ))) (hn : n = (xs.map φ).length) (hi : ∀ a, L4 (φ a) = true)
  (t : a6r C (put A (.h id) (.obj g 2 s (xs.map φ))) 2 f (j + 1) cs.tail fs vs ws ls) :
  a6r C A 2 f j cs (.sl id g none 0 n :: fs) (fun y => .list (xs.map φ) :: vs y) (fun y => (.h id, .obj g 2 s (xs.map φ)) :: ws y) (.h id :: ls) := by
 refine A8 ?_
 unfold J2
 simp only [show ¬ ((2 : Nat) = 3) from by decide, if_false]
 rw [if_neg (by simp)]
 refine A8 (a7y ho hn (a2h hi) (C7 (A8 ?_)))
 rw [Z6 hi]
 refine H9 t ?_
 rintro _ _ _ ⟨g, rfl, rfl, rfl⟩
 exact C7 ⟨g, rfl, by simp, by simp⟩
theorem a0d {v : AV} (h : Q9 .undef v = true) (t : a6r C A 2 f (j + 1) cs.tail fs vs ws ls) : a6r C A 2 f j cs (v :: fs) (fun y => v :: vs y) ws ls := by
 refine A8 ?_
 have e : wpW C A (J2 2 (cs.headD .undef) (fid f j) v) fun a w l => a = v ∧ w = [] ∧ l = [] := by
  unfold J2
  cases v with
  | val v => exact A8 (E6 h (C7 ⟨rfl, rfl, rfl⟩))
  | clo k caps =>
   refine A8 (E6 h (C7 ?_))
   exact ⟨rfl, rfl, rfl⟩
  | list es => exact C7 ⟨rfl, rfl, rfl⟩
  | _ => simp [Q9, K2] at h
 refine H9 e ?_
 rintro _ _ _ ⟨rfl, rfl, rfl⟩
 refine A8 (H9 t ?_)
 rintro _ _ _ ⟨g, rfl, rfl, rfl⟩
 exact C7 ⟨g, rfl, by simp, by simp⟩
theorem b7b (t : a6r C A 2 f (j + 1) cs.tail fs vs ws ls) : a6r C A 2 f j cs (.nil :: fs) (fun y => .list [] :: vs y) ws ls := by
 refine A8 ?_
 have e : wpW C A (J2 2 (cs.headD .undef) (fid f j) .nil) fun a w l => a = .list [] ∧ w = [] ∧ l = [] := by
  unfold J2
  cases cs.headD .undef <;> exact C7 ⟨rfl, rfl, rfl⟩
 refine H9 e ?_
 rintro _ _ _ ⟨rfl, rfl, rfl⟩
 refine A8 (H9 t ?_)
 rintro _ _ _ ⟨g, rfl, rfl, rfl⟩
 exact C7 ⟨g, rfl, by simp, by simp⟩
theorem a1o {T E s mk : Nat} {x : Operand} {z : AV} (hx : opd A x = some (.agg fs)) (hT : O8 cx.P T = some (E, s)) (hz : X6 cx.P E = some (z, s)) (hs : s ≤ 16777216 ∧ 0 < s) (hfl : fs.length = s) (hmk : (if cx.fzB T d = true then 2 else 0) = mk)
  (hl : a6r (CW cx) A mk 0 0 (List.replicate s .nil) fs vs ws ls)
  (hk : ∀ y g', tRefsOk keep (keptWs keep (ws y ++ [(.h (tid d 0), .obj g' 0 s [.agg (vs y)]), (.t d, .sl (tid d 0) g' none 0 1)])) = true)
  (h : ∀ y g', XR cx keep ops0 r (Y0 A (ws y ++ [(.h (tid d 0), .obj g' 0 s [.agg (vs y)]), (.t d, .sl (tid d 0) g' none 0 1)])) fun A' lg => Q A' ((rds x ++ (ls ++ [.h (tid d 0)]), Z7 (ws y ++ [(.h (tid d 0), .obj g' 0 s [.agg (vs y)]), (.t d, .sl (tid d 0) g' none 0 1)])) :: lg)) :
  XR cx keep ops0 (⟨some d, .buildSlice T 1 #[(0, x)], ty, pos, aft, none⟩ :: r) A Q := by
 obtain ⟨h1, h2, h3, h4⟩ := R7 hz
 have e : ∀ (p : G × Nat), (ws p.1 ++ [(Mv.Loc.h (tid d 0), AV.obj p.2 0 s [.agg (vs p.1)])]) ++ [(Mv.Loc.t d, AV.sl (tid d 0) p.2 none 0 1)] = ws p.1 ++ [(.h (tid d 0), .obj p.2 0 s [.agg (vs p.1)]), (.t d, .sl (tid d 0) p.2 none 0 1)] := fun p => by simp
 refine c3m (v := fun p : G × Nat => .sl (tid d 0) p.2 none 0 1) (ws := fun p => ws p.1 ++ [(.h (tid d 0), .obj p.2 0 s [.agg (vs p.1)])]) (ls := rds x ++ (ls ++ [.h (tid d 0)])) rfl ?_ (fun p => ?_) (fun p => ?_) (fun p => ?_)
  (A1 := fun p => Y0 A (ws p.1 ++ [(.h (tid d 0), .obj p.2 0 s [.agg (vs p.1)]), (.t d, .sl (tid d 0) p.2 none 0 1)]))
 ·simp only [aopV, dstOf]
  refine A8 (I5 (show wpA (CW cx) A (.ret d) _ from ?_))
  show wpW (CW cx) (puts A []) _ _
  refine A8 (R6 hT (A8 (E6 ⟨by rw [h2]; omega, h3, h4, by rw [h2]; exact hs.2⟩ ?_)))
  simp only [h1, h2, hmk]
  refine A8 ?_
  simp only [V1]
  refine A8 (J9 hx (A8 (E6 (by simp [leaves, hfl]) ?_)))
  refine A8 ?_
  simp only [absorb]
  refine A8 (H9 hl ?_)
  rintro _ _ _ ⟨y, rfl, rfl, rfl⟩
  refine C7 (C7 ?_)
  refine A8 (K4 fun o => A8 (J1 (C7 ?_)))
  exact ⟨(y, I0 o + 1), rfl, by simp, by simp⟩
 ·rw [show setD (⟨some d, .buildSlice T 1 #[(0, x)], ty, pos, aft, none⟩ : Oper) (AV.sl (tid d 0) p.2 none 0 1) = [(.t d, .sl (tid d 0) p.2 none 0 1)] from rfl, e]; exact hk p.1 p.2
 ·rw [show setD (⟨some d, .buildSlice T 1 #[(0, x)], ty, pos, aft, none⟩ : Oper) (AV.sl (tid d 0) p.2 none 0 1) = [(.t d, .sl (tid d 0) p.2 none 0 1)] from rfl, e]; exact a7m A _
 ·rw [show setD (⟨some d, .buildSlice T 1 #[(0, x)], ty, pos, aft, none⟩ : Oper) (AV.sl (tid d 0) p.2 none 0 1) = [(.t d, .sl (tid d 0) p.2 none 0 1)] from rfl, e]; exact h p.1 p.2
theorem a3u {α : Type} {φ : α → AV} {xs : List α} {T E id g s n : Nat} {x : Operand} {z : AV} (hx : opd A x = some (.sl id g none 0 n)) (ho : look A (.h id) = some (.obj g 0 s (xs.map φ))) (hn : n = (xs.map φ).length) (hi : ∀ a, L4 (φ a) = true)
  (hT : O8 cx.P T = some (E, 1)) (hz : X6 cx.P E = some (z, 1)) (hfz : cx.fzB T d = true) (hne : Loc.beq (.h (tid d 0)) (.h id) = false)
  (hk : ∀ g', slotOk keep (.t d) (.sl (tid d 0) g' none 0 1) = true)
  (h : ∀ g', XR cx keep ops0 r ((.t d, .sl (tid d 0) g' none 0 1) :: (.h (tid d 0), .obj g' 0 1 [.list (xs.map φ)]) :: (.h id, .obj g 2 s (xs.map φ)) :: A) fun A' lg => Q A' ((rds x ++ [.h id, .h (tid d 0)], [.h id, .h (tid d 0), .t d]) :: lg)) :
  XR cx keep ops0 (⟨some d, .buildSlice T 1 #[(0, x)], ty, pos, aft, none⟩ :: r) A Q := by
 obtain ⟨h1, h2, h3, h4⟩ := R7 hz
 refine a0y (v := fun g' => .sl (tid d 0) g' none 0 1) (ws := fun g' => [(.h id, .obj g 2 s (xs.map φ)), (.h (tid d 0), .obj g' 0 1 [.list (xs.map φ)])]) (ls := rds x ++ [.h id, .h (tid d 0)]) rfl ?_
  (fun g => E7 (a2f (a2h hi) (by decide)) (E7 (B3 rfl) (I6 (hk g)))) (fun g => rfl) (fun g => a1k _ _ _ _ _ _ _) h
 simp only [aopV, dstOf]
 refine A8 (I5 (show wpA (CW cx) A (.ret d) _ from ?_))
 show wpW (CW cx) (puts A []) _ _
 refine A8 (R6 hT (A8 (E6 ⟨by rw [h2]; decide, h3, h4, by rw [h2]; decide⟩ ?_)))
 simp only [h1, h2, hfz, if_true]
 refine A8 ?_
 simp only [V1]
 refine A8 (J9 hx (A8 (E6 (by simp [leaves]) ?_)))
 refine A8 ?_
 simp only [absorb, List.replicate, List.headD]
 unfold J2
 simp only [show ¬ ((2 : Nat) = 3) from by decide, if_false]
 rw [if_neg (by simp)]
 refine A8 (a7y ho hn (a2h hi) (C7 (C7 ?_)))
 rw [Z6 hi]
 refine A8 (K4 fun o => A8 (J1 (C7 ?_)))
 exact ⟨I0 o + 1, rfl, by simp, by simp⟩
variable {fs' : List AV} {lf : List Mv.Loc}
theorem a7r {cur v : AV} (h : Q9 .undef v = true) {R : AV → Ws → List Mv.Loc → Prop} (hr : R v [] []) : wpW C A (J2 m cur f v) R := by
 unfold J2
 cases v with
 | val v => exact A8 (E6 h (C7 hr))
 | clo k caps =>
  refine A8 (E6 h (C7 ?_))
  simpa using hr
 | list es => exact C7 hr
 | _ => simp [Q9, K2] at h
theorem b3w : ∀ (vs cs : List AV) (j : Nat) {A : Asr}, (vs.all fun v => Q9 .undef v) = true → ∀ {R : List AV → Ws → List Mv.Loc → Prop}, R vs [] [] → wpW C A (absorbLeaves m f j cs vs) R := by
 intro vs
 induction vs with
 | nil => intro cs j A _ R hr; exact C7 hr
 | cons v vs ih =>
  intro cs j A h R hr
  simp only [List.all_cons, Bool.and_eq_true] at h
  refine A8 (a7r h.1 (A8 (ih cs.tail (j + 1) h.2 (C7 ?_))))
  simpa using hr
theorem c9g {v : AV} (h : ((leaves v).all fun v => Q9 .undef v) = true) {R : AV → Ws → List Mv.Loc → Prop} (hr : R v [] []) : wpW C A (absorb m f j cs v) R := by
 by_cases he : ∃ fs, v = .agg fs
 ·obtain ⟨fs, rfl⟩ := he
  refine A8 (b3w fs cs j h (C7 ?_))
  simpa using hr
 ·have h1 : ∀ fs, v ≠ .agg fs := fun fs e => he ⟨fs, e⟩
  have e1 : absorb m f j cs v = J2 m (cs.headD .undef) (fid f j) v := by
   unfold absorb
   split
   ·exact (h1 _ rfl).elim
   ·rfl
  have e2 : leaves v = [v] := by
   unfold leaves
   split
   ·exact (h1 _ rfl).elim
   ·rfl
  rw [e2] at h
  simp only [List.all_cons, List.all_nil, Bool.and_true] at h
  rw [e1]
  exact a7r h hr
def fillI (A : Asr) (s : Nat) (es : List AV) : List (Nat × Operand) → Option (List AV)
 | [] => some es
 | (i, x) :: r => match opd A x with
  | some v => if (leaves v).length = s ∧ i < es.length ∧ ((leaves v).all fun v => Q9 .undef v) = true then fillI A s (es.set i v) r else none
  | none => none
theorem c4v {mk s : Nat} : ∀ (ps : List (Nat × Operand)) (es : List AV) {es' : List AV}, fillI A s es ps = some es' → ∀ {R : List AV → Ws → List Mv.Loc → Prop}, R es' [] (a2i (ps.map (·.2))) → wpW C A (V1 mk s es ps) R := by
 intro ps
 induction ps with
 | nil => intro es es' h R hr; simp only [fillI, Option.some.injEq] at h; subst h; exact C7 hr
 | cons p ps ih =>
  intro es es' h R hr
  obtain ⟨i, x⟩ := p
  simp only [fillI] at h
  split at h
  ·rename_i v hv
   split at h
   ·rename_i hc
    refine A8 (J9 hv (A8 (E6 ⟨hc.1, hc.2.1⟩ (A8 (c9g hc.2.2 ?_)))))
    refine H9 (ih _ h (R := fun a w l => a = es' ∧ w = [] ∧ l = a2i (ps.map (·.2))) ⟨rfl, rfl, rfl⟩) ?_
    rintro _ _ _ ⟨rfl, rfl, rfl⟩
    simpa [a2i] using hr
   ·cases h
  ·cases h
theorem a1p {T n E s : Nat} {ps : Array (Nat × Operand)} {z : AV} {es : List AV} (hT : O8 cx.P T = some (E, s)) (hz : X6 cx.P E = some (z, s)) (hn : n * s ≤ 16777216 ∧ 0 < s) (hf : fillI A s (List.replicate n z) ps.toList = some es) (hl : es.length = n)
  (hko : ∀ g, slotOk keep (.h (tid d 0)) (.obj g 0 s es) = true) (hk : ∀ g, slotOk keep (.t d) (.sl (tid d 0) g none 0 n) = true)
  (h : ∀ g, XR cx keep ops0 r ((.t d, .sl (tid d 0) g none 0 n) :: (.h (tid d 0), .obj g 0 s es) :: A) fun A' lg => Q A' ((a2i (ps.toList.map (·.2)) ++ [.h (tid d 0)], [.h (tid d 0), .t d]) :: lg)) :
  XR cx keep ops0 (⟨some d, .buildSlice T n ps, ty, pos, aft, none⟩ :: r) A Q := by
 obtain ⟨h1, h2, h3, h4⟩ := R7 hz
 refine a0y (v := fun g => .sl (tid d 0) g none 0 n) (ws := fun g => [(.h (tid d 0), .obj g 0 s es)]) (ls := a2i (ps.toList.map (·.2)) ++ [.h (tid d 0)]) rfl ?_ (fun g => E7 (hko g) (I6 (hk g))) (fun g => rfl) (fun g => a2s _ _ _ _ _) h
 simp only [aopV, dstOf]
 refine A8 (I5 (show wpA (CW cx) A (.ret d) _ from ?_))
 show wpW (CW cx) (puts A []) _ _
 refine A8 (R6 hT (A8 (E6 ⟨by rw [h2]; exact hn.1, h3, h4, by rw [h2]; exact hn.2⟩ ?_)))
 simp only [h1, h2]
 refine A8 (c4v ps.toList _ hf (A8 (K4 fun o => A8 (J1 (C7 ?_)))))
 exact ⟨I0 o + 1, rfl, by simp, by simp⟩
end
end Go.Mv
end

section
namespace Go.Mv
open Go
theorem d1k : ∀ x ∈ opsL, (32 : UInt8) ∉ x.1 ∧ (x.1.getD 0 0).toNat ≠ 91 ∧ x.1 ≠ lW ∧ x.1.length ≤ 5 ∧ x.1 ≠ [] := by decide +kernel
theorem c8g {w : W8} (h : 0 ≤ rch (bA w)) : (32 : UInt8) ∉ w ∧ O9 w = none ∧ w ≠ lW ∧ w.length ≤ 5 ∧ w ≠ [] := by
 obtain ⟨a, b, c, d, e⟩ := d1k _ (c9k h)
 exact ⟨a, (a5x (.inr (.inl b))).1, c, d, e⟩
theorem b3t {s : W8} {t : Pl} (h : rdPlan s = some t) : s = d1f t ∧ t.wf ∧ t.good ∧ s.length ≤ 160 ∧ t.sz ≤ 16 := by
 have hz := a9a h
 have hl : s.length ≤ 160 := by
  unfold rdPlan at h
  split at h
  ·rename_i hc; exact hc.1
  ·cases h
 have hg := c0b (by omega) h
 unfold rdPlan at h
 split at h
 ·obtain ⟨⟨t1, r⟩, h1, h2⟩ := Option.bind_eq_some_iff.1 h
  split at h2
  ·rename_i hr
   cases h2
   obtain ⟨e1, e2⟩ := a6e h1
   obtain rfl : r = [] := List.length_eq_zero_iff.1 hr
   rw [List.append_nil] at e1
   exact ⟨by rw [d1f, ← e1, b2g], e2, hg, hl, hz⟩
  ·cases h2
 ·cases h
end Go.Mv
end

section
namespace Go.Mv
open Go
deriving instance DecidableEq for Stp
def stIx (s : Stp) : List Stp → Nat
 | [] => 0
 | x :: r => if x = s then 0 else stIx s r + 1
theorem b6k (s : Stp) : ∀ l : List Stp, stIx s l ≤ l.length
 | [] => Nat.le_refl _
 | x :: r => by have := b6k s r; rw [stIx]; split <;> simp <;> omega
theorem c4g {s : Stp} : ∀ {l : List Stp}, stIx s l < l.length → l.getD (stIx s l) default = s
 | [], h => by simp at h
 | x :: r, h => by
  rw [stIx] at h ⊢
  by_cases e : x = s
  ·rw [if_pos e]; simpa using e
  ·rw [if_neg e] at h ⊢
   rw [List.getD_cons_succ]; exact c4g (by simpa using h)
theorem c3r {s : Stp} : ∀ {l : List Stp} {i : Nat}, i < l.length → l.getD i default = s → (∀ j, j < i → l.getD j default ≠ s) → stIx s l = i
 | [], i, h, _, _ => by simp at h
 | x :: r, 0, _, h1, _ => by rw [stIx, if_pos (by simpa using h1)]
 | x :: r, i + 1, h, h1, h2 => by
  rw [stIx, if_neg (by simpa using h2 0 (by omega)), c3r (l := r) (i := i) (by simpa using h) (by simpa using h1) fun j hj => by have := h2 (j + 1) (by omega); simpa using this]
theorem c5z {s : Stp} {l : List Stp} (h : ∀ j, j < l.length → l.getD j default ≠ s) : stIx s l = l.length := by
 rcases Nat.lt_or_ge (stIx s l) l.length with c | c
 ·exact absurd (c4g c) (h _ c)
 ·have := b6k s l; omega
def stAdd (s : Stp) (l : List Stp) : List Stp := if stIx s l < l.length then l else l ++ [s]
theorem a5v (s : Stp) (l : List Stp) : l.length ≤ (stAdd s l).length ∧ (stAdd s l).length ≤ l.length + 1 ∧ stIx s l < (stAdd s l).length := by
 have := b6k s l
 unfold stAdd; split <;> simp <;> omega
def Q4 (t : Pl) (a b : Int) : Stp := ⟨bA t.op, a, b, t.ns⟩
def shareP : Pl → List Stp → List Stp × Nat
 | .lst ns, l => (stAdd (Q4 (.lst ns) (-1) (-1)) l, stIx (Q4 (.lst ns) (-1) (-1)) l)
 | .col w, l => (stAdd (Q4 (.col w) (-1) (-1)) l, stIx (Q4 (.col w) (-1) (-1)) l)
 | .un w p, l =>
  let x := shareP p l
  (stAdd (Q4 (.un w p) x.2 (-1)) x.1, stIx (Q4 (.un w p) x.2 (-1)) x.1)
 | .bin w p q, l =>
  let x := shareP p l
  let y := shareP q x.1
  (stAdd (Q4 (.bin w p q) x.2 y.2) y.1, stIx (Q4 (.bin w p q) x.2 y.2) y.1)
theorem V9 : ∀ (t : Pl) (l : List Stp), l.length ≤ (shareP t l).1.length ∧ (shareP t l).1.length ≤ l.length + t.sz ∧ (shareP t l).2 < (shareP t l).1.length
 | .lst ns, l => a5v _ l
 | .col w, l => a5v _ l
 | .un w p, l => by
  have h1 := V9 p l
  have h2 := a5v (Q4 (.un w p) (shareP p l).2 (-1)) (shareP p l).1
  simp only [shareP, Pl.sz]; omega
 | .bin w p q, l => by
  have h1 := V9 p l
  have h2 := V9 q (shareP p l).1
  have h3 := a5v (Q4 (.bin w p q) (shareP p l).2 (shareP q (shareP p l).1).2) (shareP q (shareP p l).1).1
  simp only [shareP, Pl.sz]; omega
end Go.Mv
namespace Go.Mv
open Go
def gN : Nat → Int
 | 0 => 20
 | d + 1 => 2 * gN d + 20
def lN : Nat → Nat
 | 0 => 60
 | d + 1 => 2 * lN d + 60
theorem b6g : ∀ d, 20 ≤ gN d
 | 0 => by simp [gN]
 | d + 1 => by have := b6g d; simp only [gN]; omega
theorem c0x : ∀ d, 60 ≤ lN d
 | 0 => by simp [lN]
 | d + 1 => by have := c0x d; simp only [lN]; omega
theorem d0s : ∀ {d : Nat}, d ≤ 5 → gN d ≤ 2000
 | 0, _ => by simp [gN] | 1, _ => by simp [gN] | 2, _ => by simp [gN] | 3, _ => by simp [gN] | 4, _ => by simp [gN] | 5, _ => by simp [gN]
 | d + 6, h => by omega
theorem c4k : ∀ {d : Nat}, d ≤ 5 → lN d ≤ 4000
 | 0, _ => by simp [lN] | 1, _ => by simp [lN] | 2, _ => by simp [lN] | 3, _ => by simp [lN] | 4, _ => by simp [lN] | 5, _ => by simp [lN]
 | d + 6, h => by omega
end Go.Mv
end

section
namespace Go.Mv
open Go
def sharesT (s : W8) : List Stp := match rdPlan s with
 | some t => (shareP t []).1
 | none => []
theorem b6n {s : W8} {t : Pl} (h : rdPlan s = some t) : sharesT s = (shareP t []).1 := by rw [sharesT, h]
theorem b6w {s : W8} (h : (rdPlan s).isSome = false) : sharesT s = [] := by
 rw [sharesT]
 cases e : rdPlan s with
 | none => rfl
 | some t => rw [e] at h; cases h
theorem b9n (s : W8) : (sharesT s).length ≤ (d1h s).length ∧ (sharesT s).length ≤ 16 := by
 rw [sharesT, d1h]
 cases e : rdPlan s with
 | none => exact ⟨Nat.zero_le _, Nat.zero_le _⟩
 | some t =>
  have h1 := V9 t []
  have h2 := a9a e
  simp only [a5r, List.length_nil] at h1 ⊢
  omega
def stG (s : Stp) : Prop := s.op.size ≤ 1048576 ∧ vd s.ns = true
theorem W1 {R : Stp → Prop} {s : Stp} {l : List Stp} (hs : R s) (hl : ∀ x ∈ l, R x) : ∀ x ∈ stAdd s l, R x := by
 intro x hx
 unfold stAdd at hx
 split at hx
 ·exact hl x hx
 ·rcases List.mem_append.1 hx with h | h
  ·exact hl x h
  ·rw [List.mem_singleton.1 h]; exact hs
theorem c9l {t : Pl} (h : t.good) : vd t.ns = true := by
 cases t with
 | lst ns => exact h
 | _ => rfl
theorem b6t {t : Pl} (h : t.good) (a b : Int) : stG (Q4 t a b) := ⟨by show t.op.length ≤ _; exact c9n h, c9l h⟩
theorem a3p : ∀ (t : Pl) (l : List Stp), t.good → (∀ x ∈ l, stG x) → ∀ x ∈ (shareP t l).1, stG x
 | .lst ns, l, hg, hl => W1 (b6t hg _ _) hl
 | .col w, l, hg, hl => W1 (b6t hg _ _) hl
 | .un w p, l, hg, hl => W1 (b6t hg _ _) (a3p p l hg.2.2 hl)
 | .bin w p q, l, hg, hl => W1 (b6t hg _ _) (a3p q _ hg.2.2.2 (a3p p l hg.2.2.1 hl))
def kAt (ss : List Stp) (k : Int) (i : Nat) : Int := k + (((ss.take i).map fun s => 3 + s.ns.length).sum : Nat)
def d3e (q : Int) (n : Nat) : Stp := ⟨bA (mT q), q + 1, q + 1 + 1, mkI (q + 1 + 1 + 1) n⟩
def d2o (ss : List Stp) (k : Int) : List Stp := (List.range ss.length).map fun i => d3e (kAt ss k i) (ss.getD i default).ns.length
@[simp] theorem mkSt_length (ss : List Stp) (k : Int) : (d2o ss k).length = ss.length := by simp [d2o]
end Go.Mv
namespace Go.Mv
open Go
theorem b0z {s : Stp} {w : W8} {a b : Int} {ns : List Int} (h1 : s.op.data.toList = w) (h2 : s.a = a) (h3 : s.b = b) (h4 : s.ns = ns) : s = ⟨bA w, a, b, ns⟩ := by
 obtain ⟨o, x, y, l⟩ := s
 simp only at h1 h2 h3 h4
 subst h1 h2 h3 h4
 rw [c9r]
theorem b1b {s : Stp} {w : W8} {a b : Int} {ns : List Int} (h : s.op.data.toList ≠ w) : s ≠ ⟨bA w, a, b, ns⟩ := by rintro rfl; exact h rfl
theorem b1g {s : Stp} {w : W8} {a b : Int} {ns : List Int} (h : s.a ≠ a) : s ≠ ⟨bA w, a, b, ns⟩ := by rintro rfl; exact h rfl
theorem b0x {s : Stp} {w : W8} {a b : Int} {ns : List Int} (h : s.b ≠ b) : s ≠ ⟨bA w, a, b, ns⟩ := by rintro rfl; exact h rfl
theorem b1m {s : Stp} {w : W8} {a b : Int} {ns : List Int} (h : s.ns ≠ ns) : s ≠ ⟨bA w, a, b, ns⟩ := by rintro rfl; exact h rfl
theorem a6f {s : Stp} {l : List Stp} {i : Nat} (hi : i < l.length) (h : l.getD i default = s) (hne : ∀ j, j < i → l.getD j default ≠ s) : stIx s l = i ∧ stAdd s l = l := by
 have e := c3r hi h hne
 exact ⟨e, by unfold stAdd; rw [if_pos (by omega)]⟩
theorem a3b {s : Stp} {l : List Stp} (hne : ∀ j, j < l.length → l.getD j default ≠ s) : stIx s l = l.length ∧ stAdd s l = l ++ [s] := by
 have e := c5z hne
 exact ⟨e, by unfold stAdd; rw [if_neg (by omega)]⟩
theorem d2z {w : W8} {a b : Int} {ns : List Int} : ([.agg [tV w, iV a, iV b, .list (ns.map iV)]] : List AV) = List.map stA [⟨bA w, a, b, ns⟩] := rfl
theorem c2j {w : W8} {a b : Int} : ([.agg [tV w, iV a, iV b, .list []]] : List AV) = List.map stA [⟨bA w, a, b, []⟩] := rfl
end Go.Mv
namespace Go.Mv
end Go.Mv
namespace Go.Mv
theorem c9o (ns : List Int) : trK (.lst ns) = .agg [tV lW, .list (ns.map iV), .list (([] : List Pl).map trV)] := rfl
theorem c9x (w : W8) : trK (.col w) = .agg [tV w, .list (([] : List Int).map iV), .list (([] : List Pl).map trV)] := rfl
theorem d1o (w : W8) (p : Pl) : trK (.un w p) = .agg [tV w, .list (([] : List Int).map iV), .list ([p].map trV)] := rfl
theorem d0k (w : W8) (p q : Pl) : trK (.bin w p q) = .agg [tV w, .list (([] : List Int).map iV), .list ([p, q].map trV)] := rfl
end Go.Mv
end

section
namespace Go.Mv
open Go
section
variable {cx : Cx} {keep : List Nat} {ops0 : Array Oper} {r : List Oper} {A : Asr} {Q : Asr → List Log → Prop} {d : Nat} {ty : Nat} {pos : String} {aft : Array Edge}
theorem b6m {α : Type} {φ : α → AV} {xs : List α} {T id g s i j id2 g2 s2 n : Nat} {a x : Operand} {es : List AV} {e : AV} (ha : opd A a = some (.ptr id g none i j)) (hx : opd A x = some (.sl id2 g2 none 0 n)) (ho : look A (.h id) = some (.obj g 0 s es)) (he : es[i]? = some e)
  (hc : K2 (((leaves e).drop j).headD .undef) = false) (ho2 : look A (.h id2) = some (.obj g2 0 s2 (xs.map φ))) (hn : n = (xs.map φ).length) (hi : ∀ a, L4 (φ a) = true) (hne : Loc.beq (.h id) (.h id2) = false) (hT : (tyS cx.P T).size = 1) (hl : j + 1 ≤ (leaves e).length)
  (hko : slotOk keep (.h id) (.obj g 0 s (es.set i (putAt e j (.list (xs.map φ))))) = true)
  (h : XR cx keep ops0 r ((.h id, .obj g 0 s (es.set i (putAt e j (.list (xs.map φ))))) :: (.h id2, .obj g2 2 s2 (xs.map φ)) :: A) fun A' lg => Q A' ((rds a ++ (rds x ++ [.h id, .h id, .h id2, .h id, .h id]), [.h id2, .h id]) :: lg)) :
  XR cx keep ops0 (⟨none, .store T a x, ty, pos, aft, none⟩ :: r) A Q := by
 refine c6r (v := .undef) (ws := [(.h id2, .obj g2 2 s2 (xs.map φ)), (.h id, .obj g 0 s (es.set i (putAt e j (.list (xs.map φ)))))]) (ls := rds a ++ (rds x ++ [.h id, .h id, .h id2, .h id, .h id])) rfl ?_ (E7 (a2f (a2h hi) (by decide)) (I6 hko)) (a2s _ _ _ _ _) h
 simp only [aopV]
 refine A8 (E6 (by simp) (A8 (J9 ha (A8 (J9 hx (A8 ?_))))))
 unfold a8n
 rw [if_pos (show a9l (.sl id2 g2 none 0 n) = true from rfl)]
 unfold b2i
 refine A8 (J6 ho ?_)
 dsimp only
 rw [if_neg (show ¬ (0 : Nat) = 3 by decide)]
 unfold a4u
 refine A8 (J6 ho ?_)
 simp only [he, if_true]
 refine A8 ?_
 simp only [absorb]
 unfold J2
 simp only [show ¬ ((0 : Nat) = 3) from by decide, if_false]
 rw [if_neg (by rintro ⟨_, _, _, h4⟩; rw [hc] at h4; cases h4)]
 have ho2' : look (puts (puts (puts (puts (puts (puts A []) []) []) []) []) []) (.h id2) = some (.obj g2 0 s2 (xs.map φ)) := ho2
 refine A8 (a7y ho2' hn (a2h hi) (C7 ?_))
 rw [Z6 hi]
 have ho' : look (put A (.h id2) (.obj g2 2 s2 (xs.map φ))) (.h id) = some (.obj g 0 s es) := by
  rw [O6, hne]; exact ho
 refine A8 (J6 (by simpa [puts] using ho') ?_)
 simp only [he]
 have hof : T6 [AV.list (xs.map φ)] ((leaves e).drop j) = true := by
  cases hd : (leaves e).drop j with
  | nil => have := congrArg List.length hd; rw [List.length_drop] at this; simp at this; omega
  | cons c cs => simp [T6, isOwn, K2]
 refine A8 (E6 ⟨trivial, by decide, hT.symm, Nat.one_pos, hl, hof, .inl trivial⟩ (A8 (I5 ?_)))
 simp only [wrNode]
 rw [O5 (v := .obj g 0 s es) (by simpa [puts] using ho')]
 simp only [F8]
 refine J1 (C7 ?_)
 exact ⟨rfl, by simp, by simp⟩
end
end Go.Mv
end

section
namespace Go.Mv
open Go
theorem b3y (cols : List (List Int)) (k : Nat) : (cols ++ [[]]).getD k default = cols.getD k default := by
 simp only [List.getD_eq_getElem?_getD]
 rcases Nat.lt_trichotomy k cols.length with c | c | c
 ·rw [List.getElem?_append_left c]
 ·subst c; simp; rfl
 ·rw [List.getElem?_append_right (by omega), List.getElem?_eq_none (l := cols) (by omega), List.getElem?_eq_none (by simp; omega)]
theorem c2q (cols made : List (List Int)) (s : Stp) : stepR (cols ++ [[]]) made s = stepR cols made s := by
 unfold stepR
 rw [b3y]
theorem b2n (cols : List (List Int)) (ss : List Stp) : ∀ i, W9 (cols ++ [[]]) ss i = W9 cols ss i
 | 0 => rfl
 | i + 1 => by simp only [W9, b2n cols ss i, c2q]
theorem c8w {cols : List (List Int)} {ss : List Stp} (h : (rsF cols ss).isSome = true) : ((rsF cols ss).getD []).length ≤ 40 ∧ ((cols ++ [[]]).length ≤ 4 → rsF (cols ++ [[]]) ss = rsF cols ss) := by
 by_cases hv : a4c ss = true ∧ vcs cols = true
 ·constructor
  ·rw [rsF, if_pos hv] at h ⊢
   obtain ⟨out, ho⟩ := Option.isSome_iff_exists.1 h
   rw [ho]
   obtain ⟨m, hm, rfl⟩ := Option.map_eq_some_iff.1 ho
   have := a7z hv.2 hv.1 (Nat.le_refl _) hm
   exact (X2.1 (a3l this _)).1
  ·intro hl
   have hv2 : vcs (cols ++ [[]]) = true := by
    rw [b0y]
    refine ⟨fun c hc => ?_, hl⟩
    rcases List.mem_append.1 hc with hc | hc
    ·exact (b0y.1 hv.2).1 c hc
    ·rw [List.mem_singleton.1 hc]; decide
   rw [rsF, rsF, if_pos hv, if_pos ⟨hv.1, hv2⟩, b2n]
 ·rw [b2w hv] at h; cases h
def stH (s : Stp) : Prop := s.op.size ≤ 10 ∧ s.ns.length ≤ 10
theorem b1j : ∀ (t : Pl) (l : List Stp), t.wf → t.good → (∀ x ∈ l, stH x) → ∀ x ∈ (shareP t l).1, stH x
 | .lst ns, l, _, hg, hl => W1 (R := stH) ⟨by show lW.length ≤ 10; decide, a2z hg⟩ hl
 | .col w, l, hw, _, hl => W1 (R := stH) ⟨by show w.length ≤ 10; simp only [Pl.wf] at hw; have := (c8g (w := w) (by omega)).2.2.2.1; omega, Nat.zero_le _⟩ hl
 | .un w p, l, hw, hg, hl => W1 (R := stH) ⟨by show w.length ≤ 10; have := (c8g (w := w) (by have := hw.1; omega)).2.2.2.1; omega, Nat.zero_le _⟩ (b1j p l hw.2 hg.2.2 hl)
 | .bin w p q, l, hw, hg, hl => W1 (R := stH) ⟨by show w.length ≤ 10; have := (c8g (w := w) (by have := hw.1; omega)).2.2.2.1; omega, Nat.zero_le _⟩ (b1j q _ hw.2.2 hg.2.2.2 (b1j p l hw.2.1 hg.2.2.1 hl))
theorem b5k {s : W8} : ∀ x ∈ sharesT s, stH x := by
 intro x hx
 rw [sharesT] at hx
 cases e : rdPlan s with
 | none => rw [e] at hx; cases hx
 | some t =>
  rw [e] at hx
  obtain ⟨_, hw, hg, _, _⟩ := b3t e
  exact b1j t [] hw hg (fun _ h => by cases h) x hx
theorem b1l {ss : List Stp} {i : Nat} {y : Stp} (h : ∀ x ∈ ss, stH x) (hy : stH y) : ∀ x ∈ ss.set i y, stH x := by
 intro x hx
 rcases List.mem_or_eq_of_mem_set hx with h1 | rfl
 ·exact h x h1
 ·exact hy
theorem d2g {ss : List Stp} (h : ∀ x ∈ ss, stH x) {i : Nat} (hi : i < ss.length) : stH (ss.getD i default) := h _ (L8 hi)
theorem c7j {ss : List Stp} (h : ∀ x ∈ ss, stH x) (hl : ss.length ≤ 16) : szT ss ≤ 1048576 := by
 have key : ∀ l : List Stp, (∀ x ∈ l, stH x) → szT l ≤ l.length * 20 := by
  intro l
  induction l with
  | nil => intro _; exact Nat.zero_le _
  | cons x r ih =>
   intro h
   have h1 := h x (List.mem_cons_self ..)
   have h2 := ih fun y hy => h y (List.mem_cons_of_mem _ hy)
   obtain ⟨h3, h4⟩ := h1
   simp only [szT, List.map_cons, List.sum_cons, szP] at h2 ⊢
   rw [List.length_cons, Nat.add_mul]
   omega
 exact Nat.le_trans (key ss h) (by have := Nat.mul_le_mul_right 20 hl; omega)
abbrev lF (l : List Int) : AV := .list (l.map iV)
end Go.Mv
namespace Go.Mv
theorem c4i {ss : List Stp} {k : Nat} {l : List Int} : (ss.map stA).set k (putAt (stA (ss.getD k default)) 3 (.list (l.map iV))) = (ss.set k ((ss.getD k default).sN l)).map stA := by rw [List.map_set]; rfl
theorem b6p (cols : List (List Int)) (ss : List Stp) : ((rsF cols ss).getD []).length ≤ 40 := by
 cases e : rsF cols ss with
 | none => exact Nat.zero_le _
 | some out => have := (c8w (cols := cols) (ss := ss) (by rw [e]; rfl)).1; rwa [e] at this
end Go.Mv
end
