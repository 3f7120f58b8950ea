/- The abstract machine, part 3 of 5: it runs the model's code on abstract values and is proved sound over any program. Conditions: none. -/
import Derived.LoopNIn
import Derived.RangeFuncLeaves
import Derived.RangeFuncNested
import Derived.Test.YthmimfbjoeeggaaMb

set_option linter.unusedVariables false
set_option linter.unusedSimpArgs false
section
namespace Go.Mv
open Go

section
variable {P : Program} {C : Caller} {Γ : Env} {w0 : World} {A O0 : Nat → Prop} {ν0 : Nu} {N : Nat} {F : Fl} {D : Nat → Prop} {st : St} {ν : Nu} {tm : Array Value} {w : World}

/-- the callee's end, and what the caller writes back -/
structure Merge (Γ : Env) (F : Fl) (D : Nat → Prop) (st : St) (ν : Nu) (w : World) (md : Nat → Nat) (ids : List (Nat × Bool)) (T : List Tg) (as : List AV)
    (Fc : Fl) (Dc : Nat → Prop) (stc : St) (νc : Nu) (w' : World) (st' : St) (q : Prop) : Prop where
  Rc : Rel Γ w (fun b => DL D st F ν ids b ∨ Hand.O F ν md T as b) (Hand.O F ν md T as) (NuC F ν (T.zip (cidAll md 0 as))) 0 Fc Dc stc νc #[] w'
  t : ∀ i, st' (.t i) = st (.t i)
  h : ∀ k, k ∉ T.map (·.1) → st' (.h k) = st (.h k)
  lent : ∀ t c, (t, c) ∈ T.zip (cidAll md 0 as) → ∃ o, stc (.h c.1) = .obj 1 c.2.1 c.2.2 o ∧ immL o = true ∧ Repl st st' t o ∧ (q ∨ hasListL o = false)
  hq : q → ∀ x ∈ ids, x.2 = true
  flo : ∀ k f, Fc k = some f → noRefL f.es = true ∧ (q ∨ hasListL f.es = false)

variable {md : Nat → Nat} {ids : List (Nat × Bool)} {T : List Tg} {as : List AV} {vals : List Value} {Fc : Fl} {Dc : Nat → Prop} {stc : St} {νc : Nu} {w' : World} {st' : St} {q : Prop}

/-- the caller's data, after the call -/
def Dn (D Dc : Nat → Prop) (q : Prop) (b : Nat) : Prop := D b ∨ (q ∧ Dc b)

theorem Merge.cases (M : Merge Γ F D st ν w md ids T as Fc Dc stc νc w' st' q) {b : Nat} (hb : Dn D Dc q b) : D b ∨ (Dc b ∧ (Hand.O F ν md T as b ∨ w.heap.size ≤ b)) := by
  rcases hb with hb | ⟨hq, hb⟩
  · exact .inl hb
  · rcases M.Rc.dA b hb with (h | h) | h
    · rcases h with h | ⟨id, hi, _⟩
      · exact .inl h
      · have := M.hq hq _ hi
        cases this
    · exact .inr ⟨hb, .inl h⟩
    · exact .inr ⟨hb, .inr h⟩

theorem Merge.ext (H : Hand Γ w0 A O0 ν0 N F D st ν tm w md ids T as vals) (M : Merge Γ F D st ν w md ids T as Fc Dc stc νc w' st' q) : Ext st ν w st' ν w' := by
  have hcs : ∀ b, b < w.heap.size → csize w' b = csize w b := M.Rc.cs
  have find : ∀ k, k ∈ T.map (·.1) → ∃ t c, (t, c) ∈ T.zip (cidAll md 0 as) ∧ t.1 = k := by
    intro k hk
    obtain ⟨t, ht, rfl⟩ := List.mem_map.1 hk
    obtain ⟨n, hn⟩ := List.mem_iff_getElem?.1 ht
    have hl := H.lents.length
    have hnl : n < T.length := (List.getElem?_eq_some_iff.1 hn).1
    refine ⟨t, (cidAll md 0 as)[n]'(by omega), List.mem_iff_getElem?.2 ⟨n, ?_⟩, rfl⟩
    rw [List.getElem?_zip_eq_some]
    exact ⟨hn, List.getElem?_eq_getElem _⟩
  refine ⟨fun id => ?_, fun id g m' s' es' hg h => ?_⟩
  · by_cases hid : id ∈ T.map (·.1)
    · obtain ⟨t, c, hz, rfl⟩ := find id hid
      obtain ⟨o, _, _, ⟨m, s, es, es2, h1, h2, _⟩, _⟩ := M.lent t c hz
      rw [h1, h2]; exact Nat.le_refl _
    · rw [M.h id hid]; exact Nat.le_refl _
  · by_cases hid : id ∈ T.map (·.1)
    · obtain ⟨t, c, hz, rfl⟩ := find id hid
      obtain ⟨o, _, hoi, ⟨m, s, es, es2, h1, h2, hr⟩, _⟩ := M.lent t c hz
      rw [h2] at h
      cases h
      refine ⟨_, es, h1, rfl, fun b o hb => hcs b (H.R.hlt h1 (fun _ hq => by cases hq) hb), fun x y => ?_⟩
      rcases hr with ⟨hp, rfl, hl, hn⟩ | ⟨x0, y0, s1, es1, hp, hlf, hl, hS⟩
      · refine ⟨fun e => nilFit_at _ _ _ _ hn e, fun s2 es2 e => ?_⟩
        have := immL_leaf hoi e
        simp [immLeaf] at this
      · by_cases e : (x, y) = (x0, y0)
        · cases e
          rw [hS.at_]
          refine ⟨(fun e => by cases e), fun s2 es2 e => ?_⟩
          cases e
          exact .inr ⟨es1, hlf, rfl, fun b o hb => hcs b (H.R.hlt h1 (fun q hq => by cases hq; exact ⟨_, _, hlf⟩) hb)⟩
        · rw [hS.other _ _ e]
          exact ⟨fun e => e, fun s2 es2 e => .inr ⟨es2, e, rfl, fun b o hb => hcs b (H.R.hlt h1 (fun q hq => by cases hq; exact ⟨_, _, e⟩) hb)⟩⟩
    · rw [M.h id hid] at h
      exact ⟨m', es', h, rfl, fun b o hb => hcs b (H.R.hlt h (fun _ hq => by cases hq) hb), fun x y => ⟨fun z => z, fun s2 es2 z => .inr ⟨es2, z, rfl, fun b o hb => hcs b (H.R.hlt h (fun q hq => by cases hq; exact ⟨s2, es2, z⟩) hb)⟩⟩⟩

theorem Hand.find (H : Hand Γ w0 A O0 ν0 N F D st ν tm w md ids T as vals) {k : Nat} (hk : k ∈ T.map (·.1)) : ∃ t c, (t, c) ∈ T.zip (cidAll md 0 as) ∧ t.1 = k := by
  obtain ⟨t, ht, rfl⟩ := List.mem_map.1 hk
  obtain ⟨n, hn⟩ := List.mem_iff_getElem?.1 ht
  have hl := H.lents.length
  have hnl : n < T.length := (List.getElem?_eq_some_iff.1 hn).1
  refine ⟨t, (cidAll md 0 as)[n]'(by omega), List.mem_iff_getElem?.2 ⟨n, ?_⟩, rfl⟩
  rw [List.getElem?_zip_eq_some]
  exact ⟨hn, List.getElem?_eq_getElem _⟩

/-- a node that is not lent lies in none of the callee's blocks -/
theorem Hand.apartKey (H : Hand Γ w0 A O0 ν0 N F D st ν tm w md ids T as vals) {id : Nat} {p : Path} {b o : Nat} (hl : live st F (.nd id p)) (hb : ν id p = some (b, o))
    (hn : ∀ t c, (t, c) ∈ T.zip (cidAll md 0 as) → t.1 = id → t.2.2 ≠ p) : ¬ Hand.O F ν md T as b := by
  intro hO
  obtain ⟨kc, o', h1, h2, h3⟩ := H.O_TB hO
  have := H.R.inj _ _ b o' o h1 hl h2 hb
  subst this
  rcases h3 with ⟨t, c, hz, e⟩ | ⟨i, q, e⟩
  · injection e with e1 e2
    exact hn t c hz e1.symm e2.symm
  · cases e

/-- the heap at an object's block that is not lent -/
theorem Merge.same (H : Hand Γ w0 A O0 ν0 N F D st ν tm w md ids T as vals) (M : Merge Γ F D st ν w md ids T as Fc Dc stc νc w' st' q) {id g m s : Nat} {es : List AV} (h : st (.h id) = .obj g m s es)
    {p : Path} (hp : livePath es p) {b o : Nat} (hb : ν id p = some (b, o)) (hn : ∀ t c, (t, c) ∈ T.zip (cidAll md 0 as) → t.1 = id → t.2.2 ≠ p) : w'.heap[b]? = w.heap[b]? := by
  refine M.Rc.fr b (H.R.hlt h hp hb) ?_
  by_cases hm : m = 2
  · subst hm
    obtain ⟨f1, f2⟩ := H.R.frozen id g s es h
    cases p with
    | none => exact fun hO => H.O_D hO (.inl (f1 b o hb))
    | some q =>
      obtain ⟨s2, es2, hl⟩ := hp q rfl
      have := immL_leaf f2 hl
      simp [immLeaf] at this
  · exact H.apartKey ⟨g, m, s, es, h, hm, hp⟩ hb hn

theorem Merge.rs (H : Hand Γ w0 A O0 ν0 N F D st ν tm w md ids T as vals) (M : Merge Γ F D st ν w md ids T as Fc Dc stc νc w' st' q) {a : AV} {v : Value} (h : RS st ν w D a v) : RS st' ν w' (Dn D Dc q) a v :=
  h.mono (M.ext H) (fun b hb hlt => ⟨M.Rc.fr b hlt fun hO => H.O_D hO (.inl hb), .inl hb⟩) M.Rc.le

/-- a callee's leaf, as the caller sees it -/
theorem Merge.leaf (M : Merge Γ F D st ν w md ids T as Fc Dc stc νc w' st' q) {l : AV} {v : Value} (hi : immLeaf l = true) (hq : q ∨ hasList l = false) (h : RS stc νc w' Dc l v) : RS st' ν w' (Dn D Dc q) l v := by
  refine .data _ _ ((h.imm hi).conv hi ?_)
  rcases hq with hq | hq
  · exact .inr fun b hb => .inr ⟨hq, hb⟩
  · exact .inl hq

/-- what the callee has left at a lent node -/
theorem Merge.node (H : Hand Γ w0 A O0 ν0 N F D st ν tm w md ids T as vals) (M : Merge Γ F D st ν w md ids T as Fc Dc stc νc w' st' q) {t : Tg} {c : Cid} (hz : (t, c) ∈ T.zip (cidAll md 0 as)) :
    ∃ o, stc (.h c.1) = .obj 1 c.2.1 c.2.2 o ∧ immL o = true ∧ Repl st st' t o ∧ live stc Fc (.nd c.1 none) ∧ νc c.1 none = ν t.1 t.2.2 ∧
      RN w' (RS st' ν w' (Dn D Dc q)) (ν t.1) (ν t.1 t.2.2) (c.2.1 = 3 ∨ c.2.1 = 4) c.2.2 o := by
  obtain ⟨o, h1, h2, h3, h4⟩ := M.lent t c hz
  obtain ⟨hid, es', ⟨him, hl⟩, hini⟩ := H.lents.mem_zip hz
  have hm : c.2.1 = 1 ∨ c.2.1 = 4 := by rcases hl with ⟨h, _⟩ | ⟨h, _⟩; exact .inl h; exact .inr h
  have hν : νc c.1 none = ν t.1 t.2.2 := by
    rw [M.Rc.io _ _ _ _ _ h1 hm]
    exact nuc_lent H.nC hz
  refine ⟨o, h1, h2, h3, ⟨_, _, _, _, h1, by omega, fun _ hq => by cases hq⟩, hν, ?_⟩
  have := (M.Rc.objs _ _ _ _ _ h1).top
  rw [hν] at this
  refine this.monoL rfl (fun _ _ _ => rfl) (fun i j l v hl _ h => M.leaf (immL_leaf h2 hl) (h4.imp id fun h => hasListL_leaf h hl) h) (fun i j s2 es2 h => ?_)
  have := immL_leaf h2 h
  simp [immLeaf] at this

/-- a key of the caller's after the call, and the same before it -/
theorem Merge.liveNd (H : Hand Γ w0 A O0 ν0 N F D st ν tm w md ids T as vals) (M : Merge Γ F D st ν w md ids T as Fc Dc stc νc w' st' q) {id : Nat} {p : Path} (h : live st' Fc (.nd id p)) : live st F (.nd id p) := by
  obtain ⟨g, m, s, es, h1, h2, h3⟩ := h
  by_cases hid : id ∈ T.map (·.1)
  · obtain ⟨t, c, hz, rfl⟩ := H.find hid
    obtain ⟨o, _, hoi, ⟨m', s', es', es2, k1, k2, hr⟩, _⟩ := M.lent t c hz
    rw [k2] at h1
    injection h1 with a1 a2 a3 a4
    subst a2 a3 a4
    refine ⟨_, _, _, _, k1, h2, fun q hq => ?_⟩
    obtain ⟨s3, es3, h3⟩ := h3 q hq
    rcases hr with ⟨hp, rfl, hl, hn⟩ | ⟨x0, y0, s1, es1, hp, hlf, hl, hS⟩
    · have := immL_leaf hoi h3
      simp [immLeaf] at this
    · by_cases e : (q.1, q.2) = (x0, y0)
      · injection e with e1 e2
        rw [e1, e2]
        exact ⟨_, _, hlf⟩
      · rw [hS.other _ _ e] at h3
        exact ⟨_, _, h3⟩
  · rw [M.h id hid] at h1
    exact ⟨g, m, s, es, h1, h2, h3⟩

theorem Merge.flO (M : Merge Γ F D st ν w md ids T as Fc Dc stc νc w' st' q) {k : FK} {p : Path} {b o : Nat} (hl : live st' Fc (.fl k p)) (hb : baseOf ν Fc (.fl k p) = some (b, o)) :
    live stc Fc (.fl k p) ∧ baseOf νc Fc (.fl k p) = some (b, o) ∧ (Hand.O F ν md T as b ∨ w.heap.size ≤ b) :=
  ⟨hl, hb, M.Rc.tO b ⟨.fl k p, o, hl, hb⟩⟩

/-- a node of the caller's: apart from the callee's blocks, or lent to it -/
theorem Merge.ndO (H : Hand Γ w0 A O0 ν0 N F D st ν tm w md ids T as vals) (M : Merge Γ F D st ν w md ids T as Fc Dc stc νc w' st' q) {id : Nat} {p : Path} {b o : Nat} (hl : live st F (.nd id p)) (hb : ν id p = some (b, o)) :
    b < w.heap.size ∧ (¬ Hand.O F ν md T as b ∨ ∃ c, live stc Fc (.nd c none) ∧ νc c none = some (b, o)) := by
  refine ⟨H.R.live_lt hl hb, ?_⟩
  by_cases h : ∃ t c, (t, c) ∈ T.zip (cidAll md 0 as) ∧ t.1 = id ∧ t.2.2 = p
  · obtain ⟨t, c, hz, rfl, rfl⟩ := h
    obtain ⟨o', h1, h2, h3, h4, h5, _⟩ := M.node H hz
    exact .inr ⟨c.1, h4, h5.trans hb⟩
  · exact .inl (H.apartKey hl hb fun t c hz e1 e2 => h ⟨t, c, hz, e1, e2⟩)

theorem Merge.rel (hOA : ∀ b, O0 b → A b) (H : Hand Γ w0 A O0 ν0 N F D st ν tm w md ids T as vals) (M : Merge Γ F D st ν w md ids T as Fc Dc stc νc w' st' q) :
    Rel Γ w0 A O0 ν0 N Fc (Dn D Dc q) st' ν tm w' := by
  have R := H.R
  have hO : ∀ b, Hand.O F ν md T as b → O0 b ∨ w0.heap.size ≤ b := fun b hb => by
    obtain ⟨kc, o, h1, h2, _⟩ := H.O_TB hb
    exact R.tO b ⟨kc, o, h1, h2⟩
  have hOlt : ∀ b, Hand.O F ν md T as b → b < w.heap.size := fun b hb => by
    obtain ⟨kc, o, h1, h2, _⟩ := H.O_TB hb
    exact R.live_lt h1 h2
  have hle := M.Rc.le
  have hle0 := R.le
  -- a node of the caller's and a float of the callee's
  have cross : ∀ id p k r b o1 o2, live st F (.nd id p) → ν id p = some (b, o1) → live st' Fc (.fl k r) → baseOf ν Fc (.fl k r) = some (b, o2) → False := by
    intro id p k r b o1 o2 hl1 hb1 hl2 hb2
    obtain ⟨h1, h2, h3⟩ := M.flO hl2 hb2
    obtain ⟨hlt, hn⟩ := M.ndO H hl1 hb1
    rcases hn with hn | ⟨c, hc1, hc2⟩
    · rcases h3 with h3 | h3
      · exact hn h3
      · omega
    · have := M.Rc.inj _ _ b o1 o2 hc1 h1 hc2 h2
      cases this
  refine ⟨R.size, fun i hi => by rw [M.t]; exact M.rs H (R.slots i hi), fun i hi => by rw [M.t]; exact R.high i hi, ?_, ?_, ?_, ?_, ?_, ?_, ?_, ?_, by omega,
    M.Rc.os.trans R.os, M.Rc.tape.trans R.tape, M.Rc.output.trans R.output, fun h => Nat.le_trans (R.dr h) (M.Rc.dr h), ?_, ?_, ?_, R.gO, R.gi⟩
  · intro id g m s es h
    by_cases hid : id ∈ T.map (·.1)
    · obtain ⟨t, c, hz, rfl⟩ := H.find hid
      obtain ⟨o, h1, h2, ⟨m', s', es', es2, k1, k2, hr⟩, h4, h5, h6⟩ := M.node H hz
      rw [k2] at h
      injection h with a1 a2 a3 a4
      subst a2 a3 a4
      obtain ⟨_, es0, ⟨him, hl⟩, hini⟩ := H.lents.mem_zip hz
      rcases hr with ⟨hp, rfl, hlen, hn⟩ | ⟨x0, y0, s1, es1, hp, hlf, hlen, hS⟩
      · refine ⟨?_, fun i j s2 es2 h => by have := immL_leaf h2 h; simp [immLeaf] at this⟩
        rw [hp] at h6
        rcases hl with ⟨hc1, m1, hn1, hm2, hbx⟩ | ⟨hc1, hc2, _, m1, s1, ho1, hm⟩
        · rw [hp] at hn1 hbx
          have := node_none hn1
          rw [k1] at this
          injection this with _ b2 b3 b4
          rw [b3]
          refine h6.bxIff ?_
          have hb := bxB_false hbx
          rw [b2]
          constructor
          · intro h; omega
          · intro h; exact (hb ⟨rfl, h⟩).elim
        · rw [k1] at ho1
          injection ho1 with _ b2 b3 b4
          refine (h6.bxIff (bx' := (m' = 3 ∨ m' = 4)) ⟨fun _ => by omega, fun _ => .inr hc1⟩).anyS (by omega) fun b o hb => ?_
          have := (R.objs _ _ _ _ _ k1).top.room hb
          rw [hlen, M.Rc.cs b (R.hlt k1 (fun _ hq => by cases hq) hb)]
          exact this
      · have hRO := R.objs _ _ _ _ _ k1
        rw [hp] at h6
        have hmv : ∀ i j, (i, j) ≠ (x0, y0) → ∀ t' c', (t', c') ∈ T.zip (cidAll md 0 as) → t'.1 = t.1 → t'.2.2 ≠ some (i, j) := by
          intro i j hne t' c' hz' e1 e2
          obtain ⟨rfl, rfl⟩ := zip_unique' (k := fun t : Tg => t.1) T _ H.nT _ _ _ _ hz' hz e1
          rw [hp] at e2
          injection e2 with e2
          exact hne e2.symm
        have hnt : ∀ t' c', (t', c') ∈ T.zip (cidAll md 0 as) → t'.1 = t.1 → t'.2.2 ≠ none := by
          intro t' c' hz' e1 e2
          obtain ⟨rfl, rfl⟩ := zip_unique' (k := fun t : Tg => t.1) T _ H.nT _ _ _ _ hz' hz e1
          rw [hp] at e2
          cases e2
        obtain ⟨hc1, m1, hn1, _⟩ : c.2.1 = 1 ∧ ∃ m, nodeAt st t.1 t.2.1 t.2.2 = some (m, c.2.2, es0) ∧ m ≠ 2 ∧ bxB m t.2.2 = false := by
          rcases hl with hl | ⟨_, _, hp', _⟩
          · exact hl
          · rw [hp] at hp'; cases hp'
        have hs1 : c.2.2 = s1 := by
          rw [hp] at hn1
          simp only [nodeAt, k1, if_true, hlf, Option.some.injEq, Prod.mk.injEq] at hn1
          exact hn1.2.1.symm
        refine ⟨?_, fun i j s2 es2 h => ?_⟩
        · have ht := hRO.top
          cases hν : ν t.1 none with
          | none =>
            rw [hν] at ht
            have : es' = [] := ht
            subst this
            simp [leafAt] at hlf
          | some r =>
            obtain ⟨b, o1⟩ := r
            rw [hν] at ht
            have hsame := M.same H k1 (p := none) (fun _ hq => by cases hq) hν hnt
            obtain ⟨cc, ety, q1, q2, q3, q5, q4⟩ := ht
            refine ⟨cc, ety, hsame.trans q1, by rw [hS.len]; exact q2, fun hb => hS.sz hb (q3 hb), fun hb => by rw [hS.len]; exact q5 hb, fun i j l hl' => ?_⟩
            by_cases e : (i, j) = (x0, y0)
            · cases e
              rw [hS.at_] at hl'
              cases hl'
              obtain ⟨v, hv, hr⟩ := q4 _ _ _ hlf
              refine ⟨v, hv, ?_⟩
              have hr' : SlV w (ν t.1 (some (x0, y0))) s1 0 es1.length v := hr
              show SlV w' (ν t.1 (some (x0, y0))) s1 0 o.length v
              rw [hlen]
              exact hr'.mono rfl fun b1 o1 hb1 => M.Rc.cs b1 (R.hlt k1 (fun q hq => by cases hq; exact ⟨_, _, hlf⟩) hb1)
            · rw [hS.other _ _ e] at hl'
              obtain ⟨v, hv, hr⟩ := q4 _ _ _ hl'
              exact ⟨v, hv, hr.mono (fun a v h => M.rs H h) (fun _ _ _ => rfl) fun s3 es3 b1 o1 he hb1 => M.Rc.cs b1 (R.hlt k1 (fun q hq => by cases hq; exact ⟨s3, es3, he ▸ hl'⟩) hb1)⟩
        · by_cases e : (i, j) = (x0, y0)
          · cases e
            rw [hS.at_] at h
            injection h with h
            injection h with b1 b2
            subst b1 b2
            refine ⟨?_, noOwn_of_imm h2⟩
            rw [hs1] at h6
            exact h6.bxIff ⟨fun h => by omega, fun h => h.elim⟩
          · rw [hS.other _ _ e] at h
            obtain ⟨r1, r2⟩ := hRO.sub i j s2 es2 h
            refine ⟨r1.mono rfl (fun b1 o1 hb1 => M.same H k1 (p := some (i, j)) (fun q hq => by cases hq; exact ⟨_, _, h⟩) hb1 (hmv i j e)) (fun a v h => M.rs H h) (fun i' j' s4 es4 h4 => ?_), r2⟩
            have := r2 i' j' _ h4; simp [immLeaf] at this
    · rw [M.h id hid] at h
      have hn : ∀ p, ∀ t c, (t, c) ∈ T.zip (cidAll md 0 as) → t.1 = id → t.2.2 ≠ p := fun p t c hz e => (hid (e ▸ List.mem_map_of_mem (List.of_mem_zip hz).1)).elim
      exact (R.objs id g m s es h).mono rfl (fun _ _ _ _ _ => rfl) (fun b o hb => M.same H h (p := none) (fun _ hq => by cases hq) hb (hn _))
        (fun i j s2 es2 b o hl hb => M.same H h (p := some (i, j)) (fun q hq => by cases hq; exact ⟨_, _, hl⟩) hb (hn _)) (fun a v h => M.rs H h)
  · intro id g s es h
    have hid : id ∉ T.map (·.1) := by
      intro hid
      obtain ⟨t, c, hz, rfl⟩ := H.find hid
      obtain ⟨o, h1, h2, ⟨m', s', es', es2, k1, k2, hr⟩, _⟩ := M.lent t c hz
      obtain ⟨_, es0, ⟨him, hl⟩, hini⟩ := H.lents.mem_zip hz
      rw [k2] at h
      injection h with a1 a2 a3 a4
      subst a2
      rcases hl with ⟨_, m, hn, hm2, _⟩ | ⟨_, _, hp, m, s, ho, hm⟩
      · obtain ⟨s0, es0, ho, _⟩ := node_obj hn
        rw [k1] at ho
        injection ho with b1 b2
        exact hm2 b2.symm
      · rw [k1] at ho
        injection ho with b1 b2
        omega
    rw [M.h id hid] at h
    obtain ⟨f1, f2⟩ := R.frozen id g s es h
    exact ⟨fun b o hb => .inl (f1 b o hb), f2⟩
  · intro k f hf
    obtain ⟨n1, n2⟩ := M.flo k f hf
    refine (M.Rc.flos k f hf).monoL rfl (fun _ _ _ _ _ => rfl) (fun _ _ _ => rfl) (fun _ _ _ _ _ _ _ _ => rfl)
      (fun i j l v hl ho h => M.leaf (by rcases noRefL_leaf n1 hl with h | h; rw [ho] at h; cases h; exact h) (n2.imp id fun h => hasListL_leaf h hl) h)
      (fun i j s2 es2 i' j' l v hl hl' hi h => M.leaf hi (n2.imp id fun h => ?_) h)
    have := hasListL_leaf h hl
    simp only [hasList] at this
    exact hasListL_leaf this hl'
  · intro k1 k2 b o1 o2 l1 l2 b1 b2
    cases k1 with
    | nd i1 p1 => cases k2 with
      | nd i2 p2 => exact R.inj _ _ b o1 o2 (M.liveNd H l1) (M.liveNd H l2) b1 b2
      | fl k2 r => exact (cross _ _ _ _ _ _ _ (M.liveNd H l1) b1 l2 b2).elim
    | fl k1 r => cases k2 with
      | nd i2 p2 => exact (cross _ _ _ _ _ _ _ (M.liveNd H l2) b2 l1 b1).elim
      | fl k2 r2 => exact M.Rc.inj _ _ b o1 o2 l1 l2 b1 b2
  · rintro b hb ⟨k, o, hl, hbo⟩
    rcases M.cases hb with hb | ⟨hb, hx⟩
    · cases k with
      | nd id p => exact R.dT b hb ⟨_, o, M.liveNd H hl, hbo⟩
      | fl k r =>
        obtain ⟨_, _, h3⟩ := M.flO hl hbo
        rcases h3 with h3 | h3
        · exact H.O_D h3 (.inl hb)
        · have := (R.dlt b hb).1; omega
    · cases k with
      | nd id p =>
        obtain ⟨hlt, hn⟩ := M.ndO H (M.liveNd H hl) hbo
        rcases hn with hn | ⟨c, hc1, hc2⟩
        · rcases hx with hx | hx
          · exact hn hx
          · omega
        · exact M.Rc.dT b hb ⟨_, o, hc1, hc2⟩
      | fl k r => exact M.Rc.dT b hb ⟨.fl k r, o, hl, hbo⟩
  · intro b hb
    rcases M.cases hb with hb | ⟨_, hb | hb⟩
    · exact R.dA b hb
    · exact (hO b hb).imp (hOA b) fun h => h
    · exact .inr (by omega)
  · intro b hb
    have key : D b → b < w'.heap.size ∧ ((w0.heap.size ≤ b ∨ O0 b) → ∃ c ety, w'.heap[b]? = some (.cells c ety (0, 0))) := fun hb => by
      have hlt := (R.dlt b hb).1
      refine ⟨by omega, fun h => ?_⟩
      rw [M.Rc.fr b hlt (fun ho => H.O_D ho (.inl hb))]
      exact (R.dlt b hb).2 h
    rcases M.cases hb with hb | ⟨hb, hx⟩
    · exact key hb
    · exact ⟨(M.Rc.dlt b hb).1, fun _ => (M.Rc.dlt b hb).2 (hx.symm)⟩
  · rintro b ⟨k, o, hl, hbo⟩
    cases k with
    | nd id p => exact R.tO b ⟨_, o, M.liveNd H hl, hbo⟩
    | fl k r =>
      obtain ⟨_, _, h3⟩ := M.flO hl hbo
      rcases h3 with h3 | h3
      · exact hO b h3
      · exact .inr (by omega)
  · intro b hlt hn
    rw [M.Rc.fr b (by omega) fun h => (hO b h).elim hn (by omega)]
    exact R.fr b hlt hn
  · intro b hlt
    rw [M.Rc.cs b (by omega)]
    exact R.cs b hlt
  · intro id g m s es h hm
    by_cases hid : id ∈ T.map (·.1)
    · obtain ⟨t, c, hz, rfl⟩ := H.find hid
      obtain ⟨o, h1, h2, ⟨m', s', es', es2, k1, k2, hr⟩, _⟩ := M.lent t c hz
      rw [k2] at h
      injection h with a1 a2 a3 a4
      subst a2
      exact R.io _ _ _ _ _ k1 hm
    · rw [M.h id hid] at h
      exact R.io _ _ _ _ _ h hm
end
end Go.Mv
end

section
namespace Go.Mv
open Go

section
variable {P : Program} {C : Caller} {Γ : Env} {w0 : World} {A O0 : Nat → Prop} {ν0 : Nu} {N : Nat} {F : Fl} {D : Nat → Prop} {st : St} {ν : Nu} {tm : Array Value} {w : World}

def LeafRes (F : Fl) (D : Nat → Prop) (w : World) (κ : FK) (a : AV) (v : Value) : Prop :=
  (∃ s es φ, a = .own s es ∧ F κ = some ⟨φ, s, es⟩ ∧ noRefL es = true ∧ SlV w (φ none) s 0 es.length v) ∨ (resLeaf a = true ∧ RV w D a v)

def OneRes (F : Fl) (D : Nat → Prop) (w : World) (k : Nat) (a : AV) (v : Value) : Prop :=
  (∃ fs cs, a = .agg fs ∧ v = .agg cs ∧ cs.size = fs.length ∧ ∀ (j : Nat) (l : AV), fs[j]? = some l → LeafRes F D w (5, k, j + 1) l (cs.getD j Go.undef)) ∨
  (∃ es j φ b o, a = .ownp es 0 j ∧ F (5, k, 0) = some ⟨φ, boxS es, es⟩ ∧ immL es = true ∧ es.length ≤ 1 ∧ φ none = some (b, o) ∧ v = .pointer (some ⟨b, o + j, none⟩)) ∨
  LeafRes F D w (5, k, 0) a v

def AllRes (F : Fl) (D : Nat → Prop) (w : World) (a : AV) (v : Value) : Prop :=
  (∃ vs cs, a = .tup vs ∧ v = .tuple cs ∧ cs.size = vs.length ∧ ∀ (k : Nat) (l : AV), vs[k]? = some l → OneRes F D w k l (cs.getD k Go.undef)) ∨ OneRes F D w 0 a v

/-- floats are let go -/
theorem Rel.dropF (R : Rel Γ w0 A O0 ν0 N F D st ν tm w) {F' : Fl} (h : ∀ κ f, F' κ = some f → F κ = some f) : Rel Γ w0 A O0 ν0 N F' D st ν tm w := by
  refine R.ghost (fun _ => rfl) (Ext.refl _ _ _) (fun _ h => h) R.objs R.frozen (fun k f hf => R.flos k f (h k f hf)) id ?_ (fun _ _ _ _ h => h) (fun b hb hd => (hd hb).elim) R.io
  intro k b o hl hb
  cases k with
  | nd i p => exact ⟨o, hl, hb⟩
  | fl k p =>
    obtain ⟨f, h1, h2⟩ := hl
    simp only [baseOf, h1] at hb
    exact ⟨o, ⟨f, h k f h1, h2⟩, by simp only [id, baseOf, h k f h1]; exact hb⟩

theorem LeafRes.keep {F' : Fl} {κ : FK} {a : AV} {v : Value} (h : LeafRes F D w κ a v) (hF : F' κ = F κ) : LeafRes F' D w κ a v := by
  rcases h with ⟨s, es, φ, h1, h2, h3⟩ | h
  · exact .inl ⟨s, es, φ, h1, hF.trans h2, h3⟩
  · exact .inr h

theorem OneRes.keep {F' : Fl} {k : Nat} {a : AV} {v : Value} (h : OneRes F D w k a v) (hF : ∀ j, F' (5, k, j) = F (5, k, j)) : OneRes F' D w k a v := by
  rcases h with ⟨fs, cs, h1, h2, h3, h4⟩ | ⟨es, j, φ, b, o, h1, h2, h3⟩ | h
  · exact .inl ⟨fs, cs, h1, h2, h3, fun j l hl => (h4 j l hl).keep (hF _)⟩
  · exact .inr (.inl ⟨es, j, φ, b, o, h1, (hF _).trans h2, h3⟩)
  · exact .inr (.inr (h.keep (hF _)))

theorem instLeaf_sound (R : Rel Γ w0 A O0 ν0 N F D st ν tm w) {κ : FK} {id : Nat} {a u : AV} {v : Value} {st' : St} (hr : LeafRes F D w κ a v) (h : (instLeaf id a).go C st = some (u, st')) :
    ∃ F' ν', Rel Γ w0 A O0 ν0 N F' D st' ν' tm w ∧ Ext st ν w st' ν' w ∧ (∀ κ', κ' ≠ κ → F' κ' = F κ') ∧ RS st' ν' w D u v := by
  rcases hr with ⟨s, es, φ, rfl, hF, hn, hv⟩ | ⟨hi, hv⟩
  · simp only [instLeaf, RW.go_bind, RW.go_up, ev_rd, RW.go_wr, RW.go_pure, Option.map_some, Option.bind_some, Option.some.injEq, Prod.mk.injEq] at h
    obtain ⟨rfl, rfl⟩ := h
    obtain ⟨R', E⟩ := R.attach hF id (stamp (st (.h id)) + 1) (Nat.lt_succ_self _) 0 (.inl rfl)
    refine ⟨_, _, R', E, fun κ' h => Fl.set_ne _ _ h, ?_⟩
    obtain ⟨x, cap, rfl, h1, h2⟩ := hv
    simp only [St.upds]
    refine .sl id _ none 0 es.length _ ⟨x, cap, rfl, h1⟩ (by rw [St.upd_eq]; exact Nat.le_refl _) (by intro _ _ _ _ _ _ hp; cases hp) fun m s' es' hn => ?_
    rw [nodeAt_upd] at hn
    cases hn
    rw [Nu.set_eq]
    exact ⟨x, cap, rfl, h1, h2⟩
  · have same : st' = st → u = a → ∃ F' ν', Rel Γ w0 A O0 ν0 N F' D st' ν' tm w ∧ Ext st ν w st' ν' w ∧ (∀ κ', κ' ≠ κ → F' κ' = F κ') ∧ RS st' ν' w D u v := by
      rintro rfl rfl
      exact ⟨F, ν, R, Ext.refl _ _ _, fun _ _ => rfl, .data _ _ hv⟩
    unfold instLeaf at h
    split at h
    · simp [resLeaf, immLeaf] at hi
    all_goals first
      | (simp only [RW.go_bind, RW.go_up, ev_need, Option.bind_eq_some_iff, Option.map_eq_some_iff, RW.go_pure, Option.some.injEq, Prod.mk.injEq] at h; obtain ⟨_, ⟨_, _, rfl⟩, h⟩ := h; exact same h.2.symm h.1.symm)
      | (simp only [RW.go_pure, Option.some.injEq, Prod.mk.injEq] at h; exact same h.2.symm h.1.symm)
      | simp at h

theorem instLeaves_sound {d k : Nat} : ∀ (fs us : List AV) (i : Nat) (F : Fl) (st st' : St) (ν : Nu) (n : Nat) (xs : Nat → Value), Rel Γ w0 A O0 ν0 N F D st ν tm w → (instLeaves d i fs).go C st = some (us, st') →
    (∀ (j : Nat) (l : AV), fs[j]? = some l → LeafRes F D w (5, k, n + j + 1) l (xs j)) →
    ∃ F' ν', Rel Γ w0 A O0 ν0 N F' D st' ν' tm w ∧ Ext st ν w st' ν' w ∧ (∀ κ', (∀ j, κ' ≠ (5, k, n + j + 1)) → F' κ' = F κ') ∧ us.length = fs.length ∧ ∀ (j : Nat) (l : AV), us[j]? = some l → RS st' ν' w D l (xs j) := by
  intro fs
  induction fs with
  | nil =>
    intro us i F st st' ν n xs R h _
    simp only [instLeaves, RW.go_pure, Option.some.injEq, Prod.mk.injEq] at h
    obtain ⟨rfl, rfl⟩ := h
    exact ⟨F, ν, R, Ext.refl _ _ _, fun _ _ => rfl, rfl, fun j l hl => by simp at hl⟩
  | cons f fs ih =>
    intro us i F st st' ν n xs R h hr
    simp only [instLeaves, RW.go_bind, RW.go_pure, Option.bind_eq_some_iff] at h
    obtain ⟨⟨u, st1⟩, h1, ⟨us', st2⟩, h2, h3⟩ := h
    cases h3
    obtain ⟨F1, ν1, R1, E1, hF1, hv1⟩ := instLeaf_sound R (hr 0 f rfl) h1
    obtain ⟨F2, ν2, R2, E2, hF2, hl, hv2⟩ := ih us' (i + 1) F1 st1 st2 ν1 (n + 1) (fun j => xs (j + 1)) R1 h2 (fun j l hj => by
      have := hr (j + 1) l (by simpa using hj)
      rw [show n + 1 + j + 1 = n + (j + 1) + 1 from by omega]
      exact this.keep (hF1 _ (by intro e; injection e with _ e; injection e with _ e; omega)))
    refine ⟨F2, ν2, R2, E1.trans E2, fun κ' hκ => ?_, by simp [hl], fun j l hj => ?_⟩
    · rw [hF2 κ' (fun j => by have := hκ (j + 1); rwa [show n + 1 + j + 1 = n + (j + 1) + 1 from by omega]), hF1 κ' (hκ 0)]
    · cases j with
      | zero =>
        simp only [List.getElem?_cons_zero, Option.some.injEq] at hj
        subst hj
        exact hv1.same E2 fun _ h => h
      | succ j =>
        simp only [List.getElem?_cons_succ] at hj
        exact hv2 j l hj

theorem inst1_sound {d i k : Nat} (R : Rel Γ w0 A O0 ν0 N F D st ν tm w) {a u : AV} {v : Value} {st' : St} (hr : OneRes F D w k a v) (h : (inst1 d i a).go C st = some (u, st')) :
    ∃ F' ν', Rel Γ w0 A O0 ν0 N F' D st' ν' tm w ∧ Ext st ν w st' ν' w ∧ (∀ κ', (∀ j, κ' ≠ (5, k, j)) → F' κ' = F κ') ∧ RS st' ν' w D u v := by
  rcases hr with ⟨fs, cs, rfl, rfl, hs, hl⟩ | ⟨es, j, φ, b, o, rfl, hF, hi, hle, hb, rfl⟩ | hr
  · simp only [inst1, RW.go_bind, RW.go_pure, Option.bind_eq_some_iff] at h
    obtain ⟨⟨us, st1⟩, h1, h2⟩ := h
    cases h2
    obtain ⟨F', ν', R', E, hF, hlen, hv⟩ := instLeaves_sound (k := k) fs us (i + 1) F st st1 ν 0 (fun j => cs.getD j Go.undef) R h1 (fun j l hj => by have := hl j l hj; rwa [Nat.zero_add])
    exact ⟨F', ν', R', E, fun κ' hκ => hF κ' fun j => hκ _, .agg us cs (by rw [hs, hlen]) hv⟩
  · simp only [inst1, RW.go_bind, RW.go_up, ev_rd, RW.go_wr, RW.go_pure, Option.map_some, Option.bind_some, Option.some.injEq, Prod.mk.injEq] at h
    obtain ⟨rfl, rfl⟩ := h
    obtain ⟨R', E⟩ := R.attach hF (tid d i) (stamp (st (.h (tid d i))) + 1) (Nat.lt_succ_self _) 3 (.inr ⟨rfl, hle⟩)
    refine ⟨_, _, R', E, fun κ' h => Fl.set_ne _ _ (h 0), ?_⟩
    simp only [St.upds]
    refine .ptr _ _ none 0 j _ ⟨b, o + j, rfl⟩ (by rw [St.upd_eq]; exact Nat.le_refl _) (by intro _ _ _ _ _ _ hp; cases hp) fun m s' es' hn => ?_
    rw [Nu.set_eq]
    exact ⟨b, o, hb, by simp⟩
  · have hx : (inst1 d i a).go C st = (instLeaf (tid d i) a).go C st := by
      rcases hr with ⟨s, es, φ, rfl, _⟩ | ⟨hi, _⟩
      · rfl
      · cases a <;> first | rfl | simp [resLeaf, immLeaf] at hi
    rw [hx] at h
    obtain ⟨F', ν', R', E, hF, hv⟩ := instLeaf_sound R hr h
    exact ⟨F', ν', R', E, fun κ' hκ => hF κ' (hκ 0), hv⟩

theorem instAll_sound {d : Nat} : ∀ (vs us : List AV) (i : Nat) (F : Fl) (st st' : St) (ν : Nu) (n : Nat) (xs : Nat → Value), Rel Γ w0 A O0 ν0 N F D st ν tm w → (instAll d i vs).go C st = some (us, st') →
    (∀ (j : Nat) (l : AV), vs[j]? = some l → OneRes F D w (n + j) l (xs j)) →
    ∃ F' ν', Rel Γ w0 A O0 ν0 N F' D st' ν' tm w ∧ Ext st ν w st' ν' w ∧ us.length = vs.length ∧ ∀ (j : Nat) (l : AV), us[j]? = some l → RS st' ν' w D l (xs j) := by
  intro vs
  induction vs with
  | nil =>
    intro us i F st st' ν n xs R h _
    simp only [instAll, RW.go_pure, Option.some.injEq, Prod.mk.injEq] at h
    obtain ⟨rfl, rfl⟩ := h
    exact ⟨F, ν, R, Ext.refl _ _ _, rfl, fun j l hl => by simp at hl⟩
  | cons f fs ih =>
    intro us i F st st' ν n xs R h hr
    simp only [instAll, RW.go_bind, RW.go_pure, Option.bind_eq_some_iff] at h
    obtain ⟨⟨u, st1⟩, h1, ⟨us', st2⟩, h2, h3⟩ := h
    cases h3
    obtain ⟨F1, ν1, R1, E1, hF1, hv1⟩ := inst1_sound R (hr 0 f rfl) h1
    obtain ⟨F2, ν2, R2, E2, hl, hv2⟩ := ih us' (i + 16) F1 st1 st2 ν1 (n + 1) (fun j => xs (j + 1)) R1 h2 (fun j l hj => by
      have := hr (j + 1) l (by simpa using hj)
      rw [show n + 1 + j = n + (j + 1) from by omega]
      exact this.keep fun j' => hF1 _ (by intro j'' e; injection e with _ e; injection e with e _; omega))
    refine ⟨F2, ν2, R2, E1.trans E2, by simp [hl], fun j l hj => ?_⟩
    cases j with
    | zero =>
      simp only [List.getElem?_cons_zero, Option.some.injEq] at hj
      subst hj
      exact hv1.same E2 fun _ h => h
    | succ j =>
      simp only [List.getElem?_cons_succ] at hj
      exact hv2 j l hj

theorem inst_sound {d : Nat} (R : Rel Γ w0 A O0 ν0 N F D st ν tm w) {a u : AV} {v : Value} {st' : St} (hr : AllRes F D w a v) (h : (inst d a).go C st = some (u, st')) :
    ∃ ν', Rel Γ w0 A O0 ν0 N Fl.emp D st' ν' tm w ∧ RS st' ν' w D u v := by
  have fin : ∀ F' ν', Rel Γ w0 A O0 ν0 N F' D st' ν' tm w → RS st' ν' w D u v → ∃ ν', Rel Γ w0 A O0 ν0 N Fl.emp D st' ν' tm w ∧ RS st' ν' w D u v :=
    fun F' ν' R' hv => ⟨ν', R'.dropF (by intro κ f h; cases h), hv⟩
  rcases hr with ⟨vs, cs, rfl, rfl, hs, hl⟩ | hr
  · simp only [inst, RW.go_bind, RW.go_pure, Option.bind_eq_some_iff] at h
    obtain ⟨⟨us, st1⟩, h1, h2⟩ := h
    cases h2
    obtain ⟨F', ν', R', E, hlen, hv⟩ := instAll_sound vs us 16 F st st1 ν 0 (fun j => cs.getD j Go.undef) R h1 (fun j l hj => by have := hl j l hj; rwa [Nat.zero_add])
    exact fin F' ν' R' (.tup us cs (by rw [hs, hlen]) hv)
  · have hx : (inst d a).go C st = (inst1 d 0 a).go C st := by
      rcases hr with ⟨fs, cs, rfl, _⟩ | ⟨es, j, φ, b, o, rfl, _⟩ | ⟨s, es, φ, rfl, _⟩ | ⟨hi, _⟩
      · rfl
      · rfl
      · rfl
      · cases a <;> first | rfl | simp [resLeaf, immLeaf] at hi
    rw [hx] at h
    obtain ⟨F', ν', R', E, hF, hv⟩ := inst1_sound R hr h
    exact fin F' ν' R' hv

theorem LeafRes.conv {D' : Nat → Prop} {κ : FK} {a : AV} {v : Value} (h : LeafRes F D w κ a v) (hd : hasList a = false ∨ ∀ b, D b → D' b) : LeafRes F D' w κ a v := by
  rcases h with h | ⟨h1, h2⟩
  · exact .inl h
  · exact .inr ⟨h1, h2.convR h1 hd⟩

theorem OneRes.conv {D' : Nat → Prop} {k : Nat} {a : AV} {v : Value} (h : OneRes F D w k a v) (hd : hasList a = false ∨ ∀ b, D b → D' b) : OneRes F D' w k a v := by
  rcases h with ⟨fs, cs, rfl, h2, h3, h4⟩ | h | h
  · refine .inl ⟨fs, cs, rfl, h2, h3, fun j l hl => (h4 j l hl).conv (hd.imp (fun h => ?_) fun h => h)⟩
    simp only [hasList] at h
    exact hasListL_mem fs h l (List.mem_of_getElem? hl)
  · exact .inr (.inl h)
  · exact .inr (.inr (h.conv hd))

theorem AllRes.conv {D' : Nat → Prop} {a : AV} {v : Value} (h : AllRes F D w a v) (hd : hasList a = false ∨ ∀ b, D b → D' b) : AllRes F D' w a v := by
  rcases h with ⟨fs, cs, rfl, h2, h3, h4⟩ | h
  · refine .inl ⟨fs, cs, rfl, h2, h3, fun j l hl => (h4 j l hl).conv (hd.imp (fun h => ?_) fun h => h)⟩
    simp only [hasList] at h
    exact hasListL_mem fs h l (List.mem_of_getElem? hl)
  · exact .inr (h.conv hd)
end
end Go.Mv
end

section
namespace Go.Mv
open Go

/-- what is said of the floats with which a call ends -/
def FloOk (F : Fl) (res : AV) : Prop := ∀ κ f, F κ = some f → noRefL f.es = true ∧ (hasList res = false → hasListL f.es = false)

/-- what may be handed over -/
def ArgOk (w : World) (D : Nat → Prop) : AV → Prop
  | .own _ es => noRefL es = true
  | .ownp es _ _ => immL es = true
  | .clo _ caps => ∀ c ∈ caps, (∃ es i j, c = .ownp es i j ∧ immL es = true) ∨ ∃ v, RV w D c v
  | a => ∃ v, RV w D a v

/-- a function, called with these arguments, returns this and leaves that -/
def Contract (Γ : Env) (P : Program) (md : Nat → Nat) (f : Nat) (as : List AV) (res : AV) (outs : List (List AV)) : Prop :=
  ∀ (w : World) (A O0 : Nat → Prop) (ν0 : Nu) (D : Nat → Prop) (vals : Array Value), (∀ b, O0 b → A b) →
    Rel Γ w A O0 ν0 as.length Fl.emp D (initLoc md as) ν0 vals w → (∀ a ∈ as, ArgOk w D a) →
    Calls P f vals w fun e w' => ∃ v, e = .returned v ∧ ∃ F' D' st' ν', Rel Γ w A O0 ν0 0 F' D' st' ν' #[] w' ∧ outsOf st' (cidAll md 0 as) = some outs ∧ AllRes F' D' w' res v ∧ FloOk F' res


/-- functions that are entered by a call -/
def Enters (P : Program) (f : Nat) : Prop := ∃ fn, P.funcs[f]? = some fn ∧ (fn.name == "runtime.NumGoroutine") = false ∧ fn.body.isNone = false

def SoundC (Γ : Env) (cx : Cx) (C : Caller) : Prop := ∀ f as res outs, C f as = some (res, outs) → Contract Γ cx.P (cx.md f) f as res outs ∧ Enters cx.P f

theorem run_callFunc {P : Program} {f : Nat} (h : Enters P f) (args : Array Value) (w : World) : (callFunc f args).run P w = .ok (.enter f args) w := by
  obtain ⟨fn, h1, h2, h3⟩ := h
  have h2' : fn.name ≠ "runtime.NumGoroutine" := by simpa using h2
  have h3' : fn.body ≠ none := by intro e; simp [e] at h3
  simp [callFunc, Sem.run_bind, h1, h2', h3']

section
variable {P : Program} {C : Caller} {Γ : Env} {w0 : World} {A O0 : Nat → Prop} {ν0 : Nu} {N : Nat} {F : Fl} {D : Nat → Prop} {st : St} {ν : Nu} {tm : Array Value} {w : World}

theorem PArg.ok {ids : List (Nat × Bool)} {i md : Nat} {v a : AV} {val : Value} (h : PArg F D st ν w ids i md v a val) : ArgOk w (DL D st F ν ids) a := by
  cases h with
  | data _ _ _ _ hr =>
    have hr' := hr
    cases hr with
    | clo f caps vs hs hl =>
      intro c hc
      obtain ⟨k, hk⟩ := List.mem_iff_getElem?.1 hc
      exact .inr ⟨_, hl k c hk⟩
    | _ => exact ⟨_, hr'⟩
  | moved id g n s es φ _ hmd hF hv hr hid => exact hr
  | lentS id g p m s es _ hmd hn hm hbx hi hid hv =>
    show noRefL es = true
    unfold noRefL
    rw [List.all_eq_true]
    intro e he
    have hie : immEl e = true := List.all_eq_true.1 hi e he
    cases e <;> simp_all [immEl, noRefEl]
  | lentP _ _ _ hb =>
    obtain ⟨id, g, j, m, s, es, b, o, rfl, rfl, h3, h4, h5, h6, h7, h8⟩ := hb
    exact h5
  | clo f caps caps' cs M hmd hlc hs hM hsep hc =>
    intro c hmem
    obtain ⟨k, hk⟩ := List.mem_iff_getElem?.1 hmem
    have hkl : k < caps'.length := (List.getElem?_eq_some_iff.1 hk).1
    rcases hc k _ c (List.getElem?_eq_getElem (by omega)) hk with ⟨hr, _⟩ | ⟨id, g, j, m, s, es, b, o, _, rfl, h3, h4, h5, _⟩
    · exact .inr ⟨_, hr⟩
    · exact .inl ⟨es, 0, j, rfl, h5⟩

theorem ArgOk.wider {D2 : Nat → Prop} {a : AV} (h : ArgOk w D a) (hD : ∀ b, D b → D2 b) : ArgOk w D2 a := by
  cases a <;> first
    | exact h
    | (obtain ⟨v, hv⟩ := h; exact ⟨v, hv.wider hD⟩)
    | (intro c hc; rcases h c hc with h | ⟨v, hv⟩; exact .inl h; exact .inr ⟨v, hv.wider hD⟩)

theorem nodupB_cids {l : List Cid} (h : nodupB (l.map (·.1)) = true) : nodupB (l.map (·.1)) = true := h

theorem callA_wp (cx : Cx) (hS : SoundC Γ cx C) (hOA : ∀ b, O0 b → A b) (R : Rel Γ w0 A O0 ν0 N Fl.emp D st ν tm w) {ds : List Deferred} {k : Nat} {d : Option Nat} {args : List AV} {vals : List Value} {a : AV} {st' : St}
    (h : (callA cx d k args).go C st = some (a, st')) (hr : RL st ν w D args vals) {next : Value → World → Prop} {Rq : Ending → World → Prop}
    (hn : ∀ v D' ν' w', Rel Γ w0 A O0 ν0 N Fl.emp D' st' ν' tm w' → RS st' ν' w' D' a v → Rq (.returned v) w') : Calls cx.P k vals.toArray w Rq ∧ Enters cx.P k := by
  unfold callA at h
  simp only [RW.go_bind, RW.go_up, ev_need, ev_doCall, Option.bind_eq_some_iff, Option.map_eq_some_iff] at h
  obtain ⟨⟨⟨as, ids⟩, st1⟩, h1, _, ⟨_, h2, rfl⟩, _, ⟨⟨res, outs⟩, h3, rfl⟩, _, ⟨_, h4, rfl⟩, ⟨u, st2⟩, h5, h6⟩ := h
  obtain ⟨hap, hnT, hnC, hlen, hcaps⟩ := need_ev h2
  have h4 := need_ev h4
  simp only at hap hnT hnC hlen hcaps h3 h4 h5
  obtain ⟨F1, D1, L, hD1, R1, E1, hF1, hf1, hlas, hL, hL', hS', hp⟩ := passAll_sound hOA (cx.md k) args as ids vals 0 Fl.emp D st st1 (fun _ _ => rfl) R h1 hap hr
  have hlv : vals.length = args.length := hr.1
  obtain ⟨hzip, hsub⟩ := lents_zip (md := cx.md k) (as0 := as) (ids := ids) hcaps args as vals L 0 hlas hlv (by omega) hL (fun j a hj => by rw [Nat.zero_add]; exact hj) hp
  have H : Hand Γ w0 A O0 ν0 N F1 D1 st1 ν tm w (cx.md k) ids (tgAll (cx.md k) 0 args) as vals := by
    refine ⟨R1, hap, hnT, hnC, hlen, by omega, hzip, fun j a ha => ?_, hcaps⟩
    have hj : j < as.length := (List.getElem?_eq_some_iff.1 ha).1
    have hv : args[j]? = some (args[j]'(by omega)) := List.getElem?_eq_getElem (by omega)
    have hx : vals[j]? = some (vals[j]'(by omega)) := List.getElem?_eq_getElem (by omega)
    refine ⟨L j, args[j]'(by omega), _, hx, hL j, ?_, ?_⟩
    · have := hsub j _ a hv ha
      rwa [Nat.zero_add] at this
    · have := hp j _ a _ hv ha hx
      rwa [Nat.zero_add] at this
  obtain ⟨hC, hE⟩ := hS k as res outs h3
  refine ⟨(hC w _ _ _ _ vals.toArray (fun b hb => .inr hb) H.init (fun a ha => ?_)).mono ?_, hE⟩
  · obtain ⟨j, hj⟩ := List.mem_iff_getElem?.1 ha
    obtain ⟨L', v', val', _, hL', _, hp'⟩ := H.args j a hj
    exact hp'.ok.wider fun b hb => hb.mono hL'
  rintro e w' ⟨v, rfl, Fc, Dc, stc, νc, Rc, ho, hres, hflo⟩
  obtain ⟨b1, b2, b3⟩ := backAll_sound _ _ _ _ _ h5 hnT
  have hoz := outs_zip _ _ ho
  have M : Merge Γ F1 D1 st1 ν w (cx.md k) ids (tgAll (cx.md k) 0 args) as Fc Dc stc νc w' st2 (ids.all (fun x => x.2) = true) := by
    refine ⟨Rc, b1, b2, fun t c hz => ?_, fun hq => List.all_eq_true.1 hq, fun κ f hf => ?_⟩
    · obtain ⟨o, ⟨q1, q2⟩, q3, q4⟩ := zip_through _ _ _ hoz t c hz
      refine ⟨o, q1, q2, b3 t o q3, h4.imp (fun h => h) fun h => ?_⟩
      have := List.any_eq_false.1 h.2 o q4
      simpa using this
    · obtain ⟨q1, q2⟩ := hflo κ f hf
      exact ⟨q1, h4.imp (fun h => h) fun h => q2 h.1⟩
  have R2 := M.rel hOA H
  have hres' : AllRes Fc (Dn D1 Dc (ids.all (fun x => x.2) = true)) w' res v := hres.conv (by
    rcases h4 with h4 | h4
    · exact .inr fun b hb => .inr ⟨h4, hb⟩
    · exact .inl h4.1)
  simp only at h6
  split at h6
  · simp only [RW.go_pure, Option.some.injEq, Prod.mk.injEq] at h6
    obtain ⟨rfl, rfl⟩ := h6
    exact hn v _ ν w' (R2.dropF (by intro κ f h; cases h)) (.undef v)
  · obtain ⟨ν', R3, hv⟩ := inst_sound R2 hres' h6
    exact hn v _ ν' w' R3 hv

theorem call_wp (cx : Cx) (hS : SoundC Γ cx C) (hOA : ∀ b, O0 b → A b) (R : Rel Γ w0 A O0 ν0 N Fl.emp D st ν tm w) {ds : List Deferred} {o : Oper} {st' : St} (hc : isCallV o.op = true) (hd : ∀ d, o.dst = some d → d < N)
    (h : (aop cx o).go C st = some ((), st')) {next : Act → World → Prop} {Q : Exit → Act → World → Prop}
    (hn : ∀ D' ν' tm' w', Rel Γ w0 A O0 ν0 N Fl.emp D' st' ν' tm' w' → next ⟨tm', ds⟩ w') : o.wp cx.P ⟨tm, ds⟩ w next Q := by
  unfold aop at h
  simp only [RW.go_bind, RW.go_wr, Option.bind_eq_some_iff, Option.some.injEq] at h
  obtain ⟨⟨a, st1⟩, h1, h2⟩ := h
  cases h2
  unfold aopV at h1
  split at h1 <;> rename_i ho <;> (try (rw [ho] at hc; simp [isCallV] at hc))
  case h_8 =>
    rename_i hno
    exfalso
    unfold isCallV at hc
    split at hc
    · rename_i c' hc'
      exact hno _ hc'
    · cases hc
  rename_i c
  split at h1 <;> rename_i hcal
  · simp [hcal] at hc
  · simp [hcal] at hc
  · rename_i f
    simp only [RW.go_bind, RW.go_up, Option.bind_eq_some_iff, Option.map_eq_some_iff] at h1
    obtain ⟨_, ⟨fv, h3, rfl⟩, _, ⟨vs, h4, rfl⟩, h5⟩ := h1
    simp only at h5
    split at h5
    · rename_i k caps
      have hf := rdO_sound h3 R (ds := ds)
      obtain ⟨cs, hfe, hsz, hrc⟩ := hf.clo_list
      have hra := rdOs_sound R (ds := ds) _ h4
      have hr := RL.append hra hrc
      obtain ⟨hC, hE⟩ := callA_wp cx hS hOA R (ds := ds) h5 hr (next := fun _ _ => True) (Rq := fun
        | .returned v, w'' => next ((Act.mk tm ds).put o.dst v) w''
        | .panicked chain, w'' => Q (.panic chain) (Act.mk tm ds) w''
        | .outgrown, _ => LetsOut Q) (fun v D' ν' w' R' hv => by
          have hsd := setD_upds o a [] st1
          simp only [List.nil_append, St.upds] at hsd
          rw [hsd] at hn
          unfold Act.put
          cases hdst : o.dst with
          | none => simp only [hdst] at hn ⊢; exact hn D' ν' tm w' R'
          | some d => simp only [hdst] at hn ⊢; exact hn D' ν' _ w' (R'.setT (hd d hdst) hv))
      have hrun : (execOp (Act.mk tm ds).eval o).run cx.P w = .ok (.enter k (c.args.map (Act.mk tm ds).eval ++ cs)) w := by
        simp only [execOp, ho, resolve, hcal, hfe, Deferred.ofValue, Sem.run_bind, Sem.run_pure, Result.andThen_ok, invoke]
        have := run_callFunc hE (c.args.map (Act.mk tm ds).eval ++ cs) w
        simpa using this
      rw [Oper.wp, hrun, Oper.upon_enter]
      have : (c.args.toList.map (Act.mk tm ds).eval ++ cs.toList).toArray = c.args.map (Act.mk tm ds).eval ++ cs := by
        apply Array.ext'
        simp
      rw [this] at hC
      exact hC
    · simp at h5
  · exfalso
    split at hc
    · rename_i f hf
      exact hcal _ hf
    · cases hc
end
end Go.Mv
end

section
/- The relation from a later world on; regions within a fence. -/
namespace Go.Mv
open Go Go.RowKit

section
variable {Γ : Env} {w0 : World} {A O0 : Nat → Prop} {ν0 : Nu} {N : Nat} {F : Fl} {D : Nat → Prop} {st : St} {ν : Nu} {tm : Array Value} {w : World}

/-- the same, told from this world on -/
theorem Rel.rebase (R : Rel Γ w0 A O0 ν0 N F D st ν tm w) : Rel Γ w (fun b => D b ∨ TB st ν F b) (TB st ν F) ν0 N F D st ν tm w := by
  refine ⟨R.size, R.slots, R.high, R.objs, R.frozen, R.flos, R.inj, R.dT, fun b hb => .inl (.inl hb), fun b hb => ⟨(R.dlt b hb).1, fun h => ?_⟩, fun b hb => .inl hb, Nat.le_refl _, rfl, rfl, rfl, fun _ => Nat.le_refl _,
    fun _ _ _ => rfl, fun _ _ => rfl, R.io, fun b hb => ?_, Γ.stable _ _ (fun b hb => R.fr b (R.gO b hb).2 (R.gO b hb).1) R.gi⟩
  · rcases h with h | h
    · have := (R.dlt b hb).1; omega
    · exact (R.dT b hb h).elim
  · obtain ⟨h1, h2⟩ := R.gO b hb
    refine ⟨fun ht => ?_, Nat.lt_of_lt_of_le h2 R.le⟩
    rcases R.tO b ht with h | h
    · exact h1 h
    · omega

theorem Rel.unbase (R : Rel Γ w0 A O0 ν0 N F D st ν tm w) (hOA : ∀ b, O0 b → A b) {N' : Nat} {F' : Fl} {D' : Nat → Prop} {st' : St} {ν' : Nu} {tm' : Array Value} {w' : World}
    (R' : Rel Γ w (fun b => D b ∨ TB st ν F b) (TB st ν F) ν0 N' F' D' st' ν' tm' w') : Rel Γ w0 A O0 ν0 N' F' D' st' ν' tm' w' := by
  have hle := R.le
  refine ⟨R'.size, R'.slots, R'.high, R'.objs, R'.frozen, R'.flos, R'.inj, R'.dT, fun b hb => ?_, fun b hb => ⟨(R'.dlt b hb).1, fun h => ?_⟩, fun b ht => ?_, Nat.le_trans R.le R'.le, R'.os.trans R.os, R'.tape.trans R.tape, R'.output.trans R.output,
    fun h => Nat.le_trans (R.dr h) (R'.dr h), fun b hb hO => ?_, fun b hb => (R'.cs b (by omega)).trans (R.cs b hb), R'.io, R.gO, R.gi⟩
  · rcases R'.dA b hb with (h | h) | h
    · exact R.dA b h
    · exact (R.tO b h).imp (hOA b) id
    · exact .inr (by omega)
  · rcases R'.dA b hb with (h' | h') | h'
    · rw [R'.fr b (R.dlt b h').1 (R.dT b h')]
      exact (R.dlt b h').2 h
    · exact (R'.dlt b hb).2 (.inr h')
    · exact (R'.dlt b hb).2 (.inl h')
  · rcases R'.tO b ht with h | h
    · exact R.tO b h
    · exact .inr (by omega)
  · rw [R'.fr b (by omega) (fun ht => (R.tO b ht).elim hO (by omega))]
    exact R.fr b hb hO

/-- what is no cells stays -/
theorem Rel.others (R : Rel Γ w0 A O0 ν0 N F D st ν tm w) {N' : Nat} {F' : Fl} {D' : Nat → Prop} {st' : St} {ν' : Nu} {tm' : Array Value} {w' : World}
    (R' : Rel Γ w (fun b => D b ∨ TB st ν F b) (TB st ν F) ν0 N' F' D' st' ν' tm' w') : KeepsOthers w w' :=
  ⟨R'.le, fun k o hk ho => by
    rw [R'.fr k (Array.getElem?_eq_some_iff.1 hk).1 (fun ht => ?_)]
    · exact hk
    · obtain ⟨c, ety, h⟩ := R.TB_cells ht
      rw [hk] at h; cases h; cases ho⟩

/-- data stays -/
theorem Rel.dataStays (R : Rel Γ w0 A O0 ν0 N F D st ν tm w) {N' : Nat} {F' : Fl} {D' : Nat → Prop} {st' : St} {ν' : Nu} {tm' : Array Value} {w' : World}
    (R' : Rel Γ w (fun b => D b ∨ TB st ν F b) (TB st ν F) ν0 N' F' D' st' ν' tm' w') : ∀ b, D b → w'.heap[b]? = w.heap[b]? :=
  fun b hb => R'.fr b (R.dlt b hb).1 (R.dT b hb)
end

/-! ### within a fence -/
def Fr (ro : Option Nat) : Fence := { Fence.wide with round := ro }
theorem calls_in {ro : Option Nat} {n : Nat} {P : Program} {f : FuncId} {args : Array Value} {w : World} {R : Ending → World → Prop} (h : Calls P f args w R) : CallsIn (Fr ro) n P f args w R :=
  (callsIn_wide (n := n)).2 h
theorem rows_in {ro : Option Nat} {n : Nat} {P : Program} {row : String} {args : Array Value} {w : World} {R : Value → World → Prop} (h : Rows P row args w R) : RowsIn (Fr ro) n P row args w R :=
  fun c cs _ => let ⟨v, w', r, s⟩ := h c cs; ⟨v, w', r, stepsIn_wide.2 s⟩
theorem op_in {ro : Option Nat} {n : Nat} {P : Program} {o : Oper} {a : Act} {w : World} {K : Act → World → Prop} {Q : Exit → Act → World → Prop} (hnd : ∀ c, o.op ≠ .defer c) (h : o.wp P a w K Q) : o.wpIn (Fr ro) n P a w K Q := by
  refine ⟨fun _ _ => trivial, ?_⟩
  rw [Oper.semAt_eq _ _ _ hnd]
  unfold Oper.wp at h
  generalize (execOp a.eval o).run P w = r at *
  cases r with
  | ok x w' =>
    cases x <;> simp only [Oper.upon, Oper.uponIn] at h ⊢ <;> first
      | exact h
      | exact ⟨fun h => by simp [Fr, Fence.wide] at h, calls_in h⟩
      | exact ⟨fun h => by simp [Fr, Fence.wide] at h, rows_in h⟩
      | exact h.elim
  | halt x w' => cases x <;> simp only [Oper.upon, Oper.uponIn] at h ⊢ <;> exact h
theorem wp_track {P : Program} {o : Oper} {a : Act} {w : World} {K : Act → World → Prop} {Q : Exit → Act → World → Prop}
    (h : o.wp P a w (fun a' w' => (∀ i, o.dst ≠ some i → a'.tmps[i]? = a.tmps[i]?) → K a' w') Q) : o.wp P a w K Q := by
  have hput : ∀ (b : Act) (v : Value) (i : Nat), b.tmps = a.tmps → o.dst ≠ some i → (b.put o.dst v).tmps[i]? = a.tmps[i]? := by
    intro b v i hb hi
    unfold Act.put
    cases hd : o.dst with
    | none => exact congrArg (·[i]?) hb
    | some d =>
      simp only
      rw [hb, Array.getElem?_setIfInBounds_ne (fun e => hi (by rw [hd, e]))]
  unfold Oper.wp at *
  generalize (execOp a.eval o).run P w = r at *
  cases r with
  | ok x w' =>
    cases x <;> simp only [Oper.upon] at h ⊢ <;> first
      | exact h (fun i hi => hput _ _ i rfl hi)
      | exact Calls.mono h (fun e w'' he => by cases e <;> first | exact he (fun i hi => hput _ _ i rfl hi) | exact he)
      | exact Rows.mono h (fun _ _ he => he (fun i hi => hput _ _ i rfl hi))
      | exact h
  | halt x w' => cases x <;> simp only [Oper.upon] at h ⊢ <;> exact h
theorem aop_ne_defer {C : Caller} {cx : Cx} {o : Oper} {st st' : St} (h : (aop cx o).go C st = some ((), st')) : ∀ c, o.op ≠ .defer c := by
  intro c hc
  unfold aop aopV at h
  simp [hc, opV] at h

section
variable {Γ : Env} {w0 : World} {A O0 : Nat → Prop} {ν0 : Nu} {N : Nat} {F : Fl} {D : Nat → Prop} {st : St} {ν : Nu} {tm : Array Value} {w : World}
/-- a block that is no cells is turned, blocks are laid -/
theorem Rel.turn (R : Rel Γ w0 A O0 ν0 N F D st ν tm w) {w' : World} {row : Option Nat} (hg : w.grownBy w' row)
    (hr : ∀ r, row = some r → w0.heap.size ≤ r ∧ ∃ o : Obj, w.heap[r]? = some o ∧ o.isCells = false) (hdr : Γ.mo → w.drawn ≤ w'.drawn) : Rel Γ w0 A O0 ν0 N F D st ν tm w' := by
  have hT : ∀ b, TB st ν F b → w'.heap[b]? = w.heap[b]? := fun b hb => hg.block b (R.TB_lt hb) fun e => by
    obtain ⟨_, o, h1, h2⟩ := hr b e.symm
    obtain ⟨c, ety, h3⟩ := R.TB_cells hb
    rw [h1] at h3; cases h3; cases h2
  have hD : ∀ b, D b → w'.heap[b]? = w.heap[b]? := fun b hb => hg.block b (R.dlt b hb).1 fun e => by
    obtain ⟨h0, o, h1, h2⟩ := hr b e.symm
    obtain ⟨c, ety, h3⟩ := (R.dlt b hb).2 (.inl h0)
    rw [h1] at h3; cases h3; cases h2
  have hsame : ∀ id g m s es p b o, st (.h id) = .obj g m s es → livePath es p → ν id p = some (b, o) → w'.heap[b]? = w.heap[b]? := by
    intro id g m s es p b o h hp hb
    by_cases hm : m = 2
    · subst hm
      obtain ⟨k1, k2⟩ := R.frozen id g s es h
      cases p with
      | none => exact hD b (k1 b o hb)
      | some q =>
        obtain ⟨s', es', h4⟩ := hp q rfl
        have := immL_leaf k2 h4
        simp [immLeaf] at this
    · exact hT b ⟨.nd id p, o, ⟨g, m, s, es, h, hm, hp⟩, hb⟩
  have hnone : ∀ (es : List AV), livePath es none := fun _ _ hq => by cases hq
  have E : Ext st ν w st ν w' :=
    ⟨fun _ => Nat.le_refl _, fun id g m' s' es' _ h => ⟨m', es', h, rfl, fun b o hb => csize_congr (hsame id g m' s' es' none b o h (hnone _) hb),
      fun i j => ⟨fun z => z, fun s2 es2 z => .inr ⟨es2, z, rfl, fun b o hb => csize_congr (hsame id g m' s' es' _ b o h (fun q hq => by cases hq; exact ⟨s2, es2, z⟩) hb)⟩⟩⟩⟩
  have hL : ∀ a v, RS st ν w D a v → RS st ν w' D a v := fun a v h => h.mono E (fun b hb _ => ⟨hD b hb, hb⟩) hg.size
  refine ⟨R.size, fun i hi => hL _ _ (R.slots i hi), R.high, fun id g m s es h => ?_, R.frozen, fun k f hf => ?_, R.inj, R.dT, R.dA, fun b hb => ⟨Nat.lt_of_lt_of_le (R.dlt b hb).1 hg.size, fun h => by rw [hD b hb]; exact (R.dlt b hb).2 h⟩, R.tO,
    Nat.le_trans R.le hg.size, hg.os.trans R.os, hg.tape.trans R.tape, hg.output.trans R.output, fun h => Nat.le_trans (R.dr h) (hdr h), fun b hb hO => ?_, fun b hb => ?_, R.io, R.gO, R.gi⟩
  · exact (R.objs id g m s es h).mono rfl (fun _ _ _ _ _ => rfl) (fun b o hb => hsame id g m s es none b o h (hnone _) hb) (fun i j s' es' b o hl hb => hsame id g m s es (some (i, j)) b o h (fun q hq => by cases hq; exact ⟨s', es', hl⟩) hb) hL
  · exact (R.flos k f hf).mono rfl (fun _ _ _ _ _ => rfl) (fun b o hb => hT b ⟨.fl k none, o, ⟨f, hf, hnone _⟩, by simp only [baseOf, hf]; exact hb⟩)
      (fun i j s' es' b o hl hb => hT b ⟨.fl k (some (i, j)), o, ⟨f, hf, fun q hq => by cases hq; exact ⟨s', es', hl⟩⟩, by simp only [baseOf, hf]; exact hb⟩) hL
  · rw [hg.block b (Nat.lt_of_lt_of_le hb R.le) fun e => by have := (hr b e.symm).1; omega]
    exact R.fr b hb hO
  · rw [csize_congr (hg.block b (Nat.lt_of_lt_of_le hb R.le) fun e => by have := (hr b e.symm).1; omega)]
    exact R.cs b hb
end

/-- marks of loops over functions -/
def mkD (k : Nat) : Deferred := { target := .collected k, args := #[] }
def DefOk (B : Nat) (ds : List Deferred) (w : World) : Prop := ∃ ks : List Nat, ds = ks.map mkD ∧ ks.Nodup ∧ ∀ k ∈ ks, B ≤ k ∧ w.heap[k]? = some (.deferred (some []))
theorem DefOk.nil (B : Nat) (w : World) : DefOk B [] w := ⟨[], rfl, List.nodup_nil, fun _ h => by cases h⟩
theorem DefOk.keeps {B : Nat} {ds : List Deferred} {w w' : World} (h : DefOk B ds w) (hk : KeepsOthers w w') : DefOk B ds w' := by
  obtain ⟨ks, h1, h2, h3⟩ := h
  exact ⟨ks, h1, h2, fun k hk' => ⟨(h3 k hk').1, hk.same k _ (h3 k hk').2 rfl⟩⟩
theorem DefOk.cons {B : Nat} {ds : List Deferred} {w w' : World} (h : DefOk B ds w) (hk : KeepsOthers w w') {k : Nat} (hB : B ≤ k) (hlt : w.heap.size ≤ k) (hm : w'.heap[k]? = some (.deferred (some []))) : DefOk B (mkD k :: ds) w' := by
  obtain ⟨ks, h1, h2, h3⟩ := h
  refine ⟨k :: ks, by rw [h1]; rfl, List.nodup_cons.2 ⟨fun hin => ?_, h2⟩, fun j hj => ?_⟩
  · have := (Array.getElem?_eq_some_iff.1 (h3 k hin).2).1; omega
  · rcases List.mem_cons.1 hj with rfl | hj
    · exact ⟨hB, hm⟩
    · exact ⟨(h3 j hj).1, hk.same j _ (h3 j hj).2 rfl⟩
theorem DefOk.same {B : Nat} {ds : List Deferred} {w w' : World} (h : DefOk B ds w) (hh : w'.heap = w.heap) : DefOk B ds w' := by
  obtain ⟨ks, h1, h2, h3⟩ := h
  exact ⟨ks, h1, h2, fun k hk => by rw [hh]; exact h3 k hk⟩

/-- the marks are taken up where the function is left -/
theorem leaves_marks {P : Program} {fn : Func} {n : Nat} {Γ : Env} {w0 : World} {A O0 : Nat → Prop} {ν0 : Nu} {N : Nat} {st : St} {tm : Array Value} {R : Ending → World → Prop}
    (hfin : ∀ D ν w, Rel Γ w0 A O0 ν0 N Fl.emp D st ν tm w → ∃ v, (results fn tm).run P w = .ok v w ∧ R (.returned v) w) :
    ∀ (ks : List Nat) (D : Nat → Prop) (ν : Nu) (w : World), ks.Nodup → (∀ k ∈ ks, w0.heap.size ≤ k ∧ w.heap[k]? = some (.deferred (some []))) → Rel Γ w0 A O0 ν0 N Fl.emp D st ν tm w → LeavesInM Fence.wide n P fn tm R (ks.map mkD) .returning w
  | [], D, ν, w, _, _, hR => hfin D ν w hR
  | k :: ks, D, ν, w, hn, hk, hR => by
    obtain ⟨h1, h2⟩ := hk k (List.mem_cons_self ..)
    refine ⟨(by intro h; cases h), .inl ⟨k, _, rfl, run_takeDeferred h2, leaves_marks hfin ks D ν _ (List.nodup_cons.1 hn).2 (fun j hj => ?_) (hR.turn (grownBy_putObj' w k _) (fun r e => by cases e; exact ⟨h1, _, h2, rfl⟩) (fun _ => Nat.le_refl _))⟩⟩
    obtain ⟨h3, h4⟩ := hk j (List.mem_cons_of_mem _ hj)
    refine ⟨h3, ?_⟩
    have hne : j ≠ k := fun e => by subst e; exact (List.nodup_cons.1 hn).1 hj
    have e := (grownBy_putObj' w k (.deferred none)).block j (Array.getElem?_eq_some_iff.1 h4).1 (fun e => hne (by cases e; rfl))
    rw [e]; exact h4
end Go.Mv
end

section
namespace Go.Mv
open Go

section
variable {P : Program} {C : Caller} {ro : Option Nat} {n : Nat} {T : (Nat → Prop) × Array Value} {Γ : Env} {w0 : World} {A O0 : Nat → Prop} {ν0 : Nu} {N : Nat} {F : Fl} {D : Nat → Prop} {st : St} {ν : Nu} {tm : Array Value} {w : World}

theorem Rel.drawn (R : Rel Γ w0 A O0 ν0 N F D st ν tm w) (n : Nat) (hn : w.drawn ≤ n) : Rel Γ w0 A O0 ν0 N F D st ν tm { w with drawn := n } := by
  have W : WStep Γ w { w with drawn := n } w.heap.size := (WStep.refl w _).drew n hn
  have E : Ext st ν w st ν { w with drawn := n } := R.extW W
  have hL : ∀ a v, RS st ν w D a v → RS st ν { w with drawn := n } D a v := fun a v h => h.mono E (fun b hb _ => ⟨rfl, hb⟩) (Nat.le_refl _)
  refine R.world W (.inr (Nat.le_refl _)) (fun _ => rfl) E ?_ R.frozen ?_ id (fun _ => False) (fun k b o hl hb => .inl ⟨fun h => h, o, hl, hb⟩) (fun _ _ _ _ _ _ h => h) (fun _ _ h => h.elim) R.io
  · intro id g m s es h
    exact (R.objs id g m s es h).mono rfl (fun _ _ _ _ _ => rfl) (fun _ _ _ => rfl) (fun _ _ _ _ _ _ _ _ => rfl) hL
  · intro k f hf
    exact (R.flos k f hf).mono rfl (fun _ _ _ _ _ => rfl) (fun _ _ _ => rfl) (fun _ _ _ _ _ _ _ _ => rfl) hL

/-- the relation that stands inside a region -/
def Rg (Γ : Env) (T : (Nat → Prop) × Array Value) (w0 : World) (A O0 : Nat → Prop) (ν0 : Nu) (N : Nat) (st : St) (a : Act) (w : World) : Prop :=
  DefOk w0.heap.size a.defers w ∧ (∀ i, ¬ T.1 i → a.tmps[i]? = T.2[i]?) ∧ ∃ D ν, Rel Γ w0 A O0 ν0 N Fl.emp D st ν a.tmps w

theorem go_of_run {st : St} {x : RW Unit} {ws : Ws} {rs : List Mv.Loc} (h : Rd.run (α := Unit × Ws) C st x = some (((), ws), rs)) : x.go C st = some ((), st.upds ws) :=
  RW.go_of_ev (Rd.ev_of_run h)

theorem step_ok (cx : Cx) (hS : SoundC Γ cx C) (hOA : ∀ b, O0 b → A b) {ops : Array Oper} (hd : ∀ (i : Nat) (o : Oper), ops[i]? = some o → ∀ d, o.dst = some d → d < N) (hz : ∀ (i : Nat) (o : Oper), ops[i]? = some o → ∀ d, o.dst = some d → T.1 d) :
    StepOk (Fr ro) n cx.P C cx ops (Rg Γ T w0 A O0 ν0 N) := by
  intro i o st a w ws rs K Q ho hrun hR hK
  obtain ⟨tm, ds⟩ := a
  obtain ⟨hds, hT, D, ν, R⟩ := hR
  simp only at hds hT R
  have hgo := go_of_run hrun
  have main : (aop cx o).go C st = some ((), st.upds ws) → o.wpIn (Fr ro) n cx.P ⟨tm, ds⟩ w K Q := by
    intro h
    refine op_in (aop_ne_defer h) (wp_track ?_)
    by_cases hc : isCallV o.op = true
    · exact call_wp cx hS (fun b hb => .inr hb) R.rebase hc (hd i o ho) h fun D' ν' tm' w' R' htr => hK _ _ ⟨hds.keeps (R.others R'), fun j hj => (htr j (fun e => hj (hz i o ho j e))).trans (hT j hj), D', ν', R.unbase hOA R'⟩
    · exact aop_wp cx (fun b hb => .inr hb) R.rebase (by simpa using hc) (hd i o ho) h fun D' ν' tm' w' R' htr => hK _ _ ⟨hds.keeps (R.others R'), fun j hj => (htr j (fun e => hj (hz i o ho j e))).trans (hT j hj), D', ν', R.unbase hOA R'⟩
  have skip : (wr (setD o (.val Go.undef))).go C st = some ((), st.upds ws) → K ((Act.mk tm ds).put o.dst Go.undef) w := by
    intro h
    simp only [RW.go_wr, Option.some.injEq, Prod.mk.injEq, true_and] at h
    refine hK _ _ ?_
    rw [← h]
    unfold Act.put setD
    cases hdst : o.dst with
    | none => exact ⟨hds, hT, D, ν, R⟩
    | some d => exact ⟨hds, fun j hj => by rw [Array.getElem?_setIfInBounds_ne (fun e => hj (hz i o ho j (by rw [hdst, e])))]; exact hT j hj, D, ν, R.setT (hd i o ho d hdst) (.data _ _ (.val _))⟩
  unfold wpOpIn
  simp only [ho]
  unfold aoper at hgo
  split at hgo
  · rename_i hg
    have : Region.wanted o (yielded ops tm) = true := by simp [Region.wanted, hg]
    simp only [this, if_true]
    exact main hgo
  · rename_i g want hg
    split at hgo
    · rename_i d hdst
      simp only [RW.go_bind, RW.go_up, ev_rd, Option.map_some, Option.bind_some] at hgo
      have hval : ∀ v, st (.t d) = .val v → tm[d]? = some v := by
        intro v hv
        have hlt : d < N := by
          rcases Nat.lt_or_ge d N with h | h
          · exact h
          · rw [R.high d h] at hv; cases hv
        have := R.slots d hlt
        rw [hv] at this
        have := this.val_inv
        have hsz : tm.size = N := R.size
        have hlt' : d < tm.size := hsz ▸ hlt
        rw [Array.getD_eq_getD_getElem?] at this
        have hx : tm[d]? = some (tm[d]'hlt') := Array.getElem?_eq_getElem hlt'
        rw [hx] at this ⊢
        simpa using this
      split at hgo
      · rename_i b hb
        have hy : yielded ops tm g = some b := by simp [yielded, hdst, hval _ hb]
        split at hgo
        · rename_i hbw
          have : Region.wanted o (yielded ops tm) = true := by simp [Region.wanted, hg, hy, hbw]
          simp only [this, if_true]
          exact main hgo
        · rename_i hbw
          have : Region.wanted o (yielded ops tm) = false := by simp [Region.wanted, hg, hy, hbw]
          simp only [this, Bool.false_eq_true, if_false]
          exact ⟨fun _ _ => trivial, skip hgo⟩
      · rename_i t hb
        have hy : yielded ops tm g = none := by simp [yielded, hdst, hval _ hb]
        have : Region.wanted o (yielded ops tm) = false := by simp [Region.wanted, hg, hy]
        simp only [this, Bool.false_eq_true, if_false]
        exact ⟨fun _ _ => trivial, skip hgo⟩
      · simp at hgo
    · simp at hgo

theorem wpOps_of_runs {Fc : Fence} {cx : Cx} {ops : Array Oper} {R : St → Act → World → Prop} (hstep : StepOk Fc n P C cx ops R) {st' : St} {Q : Exit → Act → World → Prop}
    (hQ : ∀ a w, R st' a w → Q .normal a w) : ∀ (L : List Nat) (lg : List Log) (st : St) (a : Act) (w : World), Runs C cx ops st L lg st' → R st a w → wpOpsIn Fc n P ops Q L a w := by
  intro L
  induction L with
  | nil =>
    intro lg st a w h hR
    cases h
    exact hQ a w hR
  | cons i L ih =>
    intro lg st a w h hR
    cases h with
    | @cons _ _ _ o ws rs _ _ ho h r =>
      rw [wpOpsIn_cons]
      exact hstep i o st a w ws rs _ Q ho h hR fun a' w' hR' => ih _ _ a' w' r hR'

theorem region_wp (cx : Cx) (hS : SoundC Γ cx C) (hOA : ∀ b, O0 b → A b) (hm : cx.P.follows .mixedOrders = true) {ops : Array Oper} (hd : ∀ (i : Nat) (o : Oper), ops[i]? = some o → ∀ d, o.dst = some d → d < N) (hz : ∀ (i : Nat) (o : Oper), ops[i]? = some o → ∀ d, o.dst = some d → T.1 d)
    {draw : Bool} {id : Nat} {ws : Ws} {lg : List Log} {a : Act} (hr : runOps C cx ops ops.toList st = some (ws, lg)) (hc : draw = true → raceFree ops.toList lg [] = true ∧ topoAny ops = true)
    (hR : Rg Γ T w0 A O0 ν0 N st a w) {Q : Exit → Act → World → Prop} (hQ : ∀ a w, Rg Γ T w0 A O0 ν0 N (st.upds ws) a w → Q .normal a w) : (Code.region id ops draw).wpIn (Fr ro) n cx.P Q a w := by
  have hstep := step_ok (ro := ro) (n := n) (w0 := w0) (A := A) (O0 := O0) (ν0 := ν0) cx hS hOA hd hz
  obtain ⟨hruns, hlen⟩ := runs_of_runOps ops.toList 0 st ws lg (fun j => by simp) hr
  have hsz : ops.toList.length = ops.size := by simp
  cases draw with
  | false =>
    refine wpIn_region ?_
    rw [List.range_eq_range', ← hsz]
    exact wpOps_of_runs hstep hQ _ _ _ _ _ hruns hR
  | true =>
    obtain ⟨hrace, htopo⟩ := hc rfl
    refine wpIn_region_any hm ?_
    have hpw := (raceFree_pairs (ops := ops) ops.toList lg [] 0 (fun j => by simp) rfl (fun i m x h => by simp at h) hlen hrace).2
    have hR' : Rg Γ T w0 A O0 ν0 N st a { w with drawn := w.drawn + 1 } := by
      obtain ⟨h1, h2, D, ν, R⟩ := hR
      exact ⟨h1.same rfl, h2, D, ν, R.drawn _ (Nat.le_succ _)⟩
    refine wpAny_of_runs hstep htopo hQ ops.size _ st a _ _ lg hruns (by simp [hlen]) hpw List.nodup_range' ?_ (by simp) ?_ (by simp) hR'
    · intro i
      rw [List.mem_range']
      constructor
      · rintro ⟨j, hj, rfl⟩
        have hj' : j < ops.size := by omega
        have : 0 + 1 * j = j := by omega
        rw [this]
        exact ⟨hj', by simp [Array.getD, hj']⟩
      · rintro ⟨h1, _⟩
        exact ⟨i, by omega, by omega⟩
    · intro j o hj hl
      have hlt : j < ops.size := (Array.getElem?_eq_some_iff.1 hj).1
      simp [Array.getD, hlt] at hl
end
end Go.Mv
end

section
namespace Go.Mv
open Go

def refOkV (keep : List Nat) (a : AV) : Bool := match a with
  | .obj _ m _ es => if m = 3 ∨ m = 4 then refsOkL keep es else noRefL es || refsOkL keep es
  | .dead _ => true
  | a => refsOk keep a

/-- what is not kept is gone, what is kept names only what is kept -/
structure KInv (keep : List Nat) (st : St) : Prop where
  gone : ∀ l, keepLoc keep l = false → st l = .undef
  refs : ∀ l, refOkV keep (st l) = true

theorem refsOkL_mem {keep : List Nat} : ∀ (fs : List AV), refsOkL keep fs = true → ∀ l ∈ fs, refsOk keep l = true := by
  intro fs
  induction fs with
  | nil => intro _ l hl; cases hl
  | cons a r ih =>
    intro h l hl
    simp only [refsOkL, Bool.and_eq_true] at h
    cases hl with
    | head => exact h.1
    | tail _ hl => exact ih h.2 l hl

theorem refsOk_leaves {keep : List Nat} {e l : AV} (h : refsOk keep e = true) (hl : l ∈ leaves e) : refsOk keep l = true := by
  cases e with
  | agg fs => exact refsOkL_mem fs (by simpa [refsOk] using h) l hl
  | _ => simp only [leaves, List.mem_singleton] at hl; subst hl; exact h

theorem refsOkL_leaf {keep : List Nat} {es : List AV} (h : refsOkL keep es = true) {i j : Nat} {l : AV} (hl : leafAt es i j = some l) : refsOk keep l = true := by
  unfold leafAt at hl
  cases he : es[i]? with
  | none => simp [he] at hl
  | some e =>
    simp only [he, Option.bind_some] at hl
    exact refsOk_leaves (refsOkL_mem es h e (List.mem_of_getElem? he)) (List.mem_of_getElem? hl)

section
variable {P : Program} {C : Caller} {Γ : Env} {w0 : World} {A O0 : Nat → Prop} {ν0 : Nu} {N : Nat} {F : Fl} {D : Nat → Prop} {st : St} {ν : Nu} {tm : Array Value} {w : World}

theorem RS.drop {keep : List Nat} {st2 : St} (hk : ∀ l, keepLoc keep l = true → st2 l = st l) {a : AV} {v : Value} (h : RS st ν w D a v) : refsOk keep a = true → RS st2 ν w D a v := by
  induction h with
  | undef v => exact fun _ => .undef v
  | data a v h => exact fun _ => .data a v h
  | sl id g p off n v hv hg hb h =>
    intro hr
    have e : st2 (.h id) = st (.h id) := hk _ (by simpa [refsOk, keepLoc] using hr)
    refine .sl id g p off n v hv (by rw [e]; exact hg) (fun m s es ho => hb m s es (by rw [← e]; exact ho)) fun m s es hn => h m s es (by rw [← nodeAt_congr e]; exact hn)
  | ptr id g p i j v hv hg hb h =>
    intro hr
    have e : st2 (.h id) = st (.h id) := hk _ (by simpa [refsOk, keepLoc] using hr)
    refine .ptr id g p i j v hv (by rw [e]; exact hg) (fun m s es ho => hb m s es (by rw [← e]; exact ho)) fun m s es hn => h m s es (by rw [← nodeAt_congr e]; exact hn)
  | asl id g i j n v hv hg h =>
    intro hr
    have e : st2 (.h id) = st (.h id) := hk _ (by simpa [refsOk, keepLoc] using hr)
    exact .asl id g i j n v hv (by rw [e]; exact hg) fun m s es hn => h m s es (by rw [← nodeAt_congr e]; exact hn)
  | agg fs cs hs hl ih =>
    intro hr
    exact .agg fs cs hs fun i l hil => ih i l hil (refsOkL_mem fs (by simpa [refsOk] using hr) l (List.mem_of_getElem? hil))
  | tup fs cs hs hl ih =>
    intro hr
    exact .tup fs cs hs fun i l hil => ih i l hil (refsOkL_mem fs (by simpa [refsOk] using hr) l (List.mem_of_getElem? hil))
  | clo f caps vs hs hl ih =>
    intro hr
    exact .clo f caps vs hs fun i l hil => ih i l hil (refsOkL_mem caps (by simpa [refsOk] using hr) l (List.mem_of_getElem? hil))

theorem Rel.dropLocs (R : Rel Γ w0 A O0 ν0 N Fl.emp D st ν tm w) {keep : List Nat} {st2 : St} (hk : ∀ l, keepLoc keep l = true → st2 l = st l) (hK : KInv keep st2) :
    Rel Γ w0 A O0 ν0 N Fl.emp D st2 ν tm w := by
  have hob : ∀ id g m s es, st2 (.h id) = .obj g m s es → st (.h id) = .obj g m s es := by
    intro id g m s es h
    by_cases hkp : keepLoc keep (.h id) = true
    · rw [← hk _ hkp]; exact h
    · rw [hK.gone _ (by simpa using hkp)] at h; cases h
  have hlive : ∀ k, live st2 Fl.emp k → live st Fl.emp k := by
    intro k hl
    cases k with
    | nd id p =>
      obtain ⟨g, m, s, es, h1, h2, h3⟩ := hl
      exact ⟨g, m, s, es, hob _ _ _ _ _ h1, h2, h3⟩
    | fl k p => exact hl
  refine ⟨R.size, fun i hi => ?_, fun i hi => ?_, ?_, fun id g s es h => R.frozen id g s es (hob _ _ _ _ _ h), (by intro k f h; cases h), fun k1 k2 b o1 o2 l1 l2 => R.inj k1 k2 b o1 o2 (hlive _ l1) (hlive _ l2),
    fun b hb ⟨k, o, hl, hbo⟩ => R.dT b hb ⟨k, o, hlive k hl, hbo⟩, R.dA, R.dlt, fun b ⟨k, o, hl, hbo⟩ => R.tO b ⟨k, o, hlive k hl, hbo⟩, R.le, R.os, R.tape, R.output, R.dr, R.fr, R.cs, fun id g m s es h => R.io id g m s es (hob _ _ _ _ _ h), R.gO, R.gi⟩
  · by_cases hkp : keepLoc keep (.t i) = true
    · have hr := hK.refs (.t i)
      rw [hk _ hkp] at hr ⊢
      have hs := R.slots i hi
      refine hs.drop hk ?_
      revert hr hs
      generalize st (.t i) = a
      intro hr hs
      cases a <;> first | exact hr | rfl
    · rw [hK.gone _ (by simpa using hkp)]
      exact .undef _
  · by_cases hkp : keepLoc keep (.t i) = true
    · rw [hk _ hkp]; exact R.high i hi
    · exact hK.gone _ (by simpa using hkp)
  · intro id g m s es h
    have hr := hK.refs (.h id)
    rw [h] at hr
    have him : ∀ l v, immLeaf l = true → RS st ν w D l v → RS st2 ν w D l v := fun l v hi h => .data _ _ (h.imm hi)
    refine (R.objs id g m s es (hob _ _ _ _ _ h)).monoL rfl (fun _ _ _ _ _ => rfl) (fun _ _ _ => rfl) (fun _ _ _ _ _ _ _ _ => rfl) (fun i j l v hl ho hx => ?_) (fun _ _ _ _ _ _ l v _ _ => him l v)
    simp only [refOkV] at hr
    split at hr
    · exact hx.drop hk (refsOkL_leaf hr hl)
    · rw [Bool.or_eq_true] at hr
      rcases hr with hr | hr
      · refine him l v ?_ hx
        rcases noRefL_leaf hr hl with h | h
        · rw [ho] at h; cases h
        · exact h
      · exact hx.drop hk (refsOkL_leaf hr hl)
end

theorem upds_kept {keep : List Nat} {l : Mv.Loc} (hl : keepLoc keep l = true) : ∀ (ws : Ws) (st : St), st.upds (keptWs keep ws) l = st.upds ws l := by
  intro ws
  induction ws with
  | nil => intro st; rfl
  | cons x ws ih =>
    intro st
    obtain ⟨k, a⟩ := x
    by_cases hk : keepLoc keep k = true
    · simp only [keptWs, List.filter_cons, hk, if_true, St.upds]
      exact ih _
    · simp only [keptWs, List.filter_cons, hk, St.upds]
      rw [if_neg (by simp)]
      rw [← ih (st.upd k a)]
      refine St.upds_congr _ _ ?_
      rw [St.upd_ne]
      rintro rfl
      exact hk hl

theorem upds_mem : ∀ (ws : Ws) (st : St) (l : Mv.Loc), st.upds ws l = st l ∨ ∃ x ∈ ws, x.1 = l ∧ st.upds ws l = x.2 := by
  intro ws
  induction ws with
  | nil => intro st l; exact .inl rfl
  | cons x ws ih =>
    intro st l
    obtain ⟨k, a⟩ := x
    rcases ih (st.upd k a) l with h | ⟨x, h1, h2, h3⟩
    · by_cases e : l = k
      · subst e
        exact .inr ⟨_, List.mem_cons_self .., rfl, by rw [St.upds, h, St.upd_eq]⟩
      · exact .inl (by rw [St.upds, h, St.upd_ne _ _ e])
    · exact .inr ⟨x, List.mem_cons_of_mem _ h1, h2, h3⟩

theorem KInv.upds {keep : List Nat} {st : St} (hK : KInv keep st) {ws : Ws} (h : tRefsOk keep (keptWs keep ws) = true) : KInv keep (st.upds (keptWs keep ws)) := by
  refine ⟨fun l hl => ?_, fun l => ?_⟩
  · rw [St.upds_notin _ _ _ (fun w hw e => ?_)]
    · exact hK.gone l hl
    · have := (List.mem_filter.1 hw).2
      rw [e, hl] at this
      cases this
  · rcases upds_mem (keptWs keep ws) st l with e | ⟨x, h1, h2, h3⟩
    · rw [e]; exact hK.refs l
    · rw [h3]
      have := List.all_eq_true.1 h x h1
      exact this

/-- a region -/
theorem aregion_sound {ro : Option Nat} {n : Nat} {T : (Nat → Prop) × Array Value} {C : Caller} {Γ : Env} {w0 : World} {A O0 : Nat → Prop} {ν0 : Nu} {N : Nat} (cx : Cx) (hS : SoundC Γ cx C) (hOA : ∀ b, O0 b → A b) (hm : cx.P.follows .mixedOrders = true) {ops : Array Oper}
    (hd : ∀ (i : Nat) (o : Oper), ops[i]? = some o → ∀ d, o.dst = some d → d < N) (hz : ∀ (i : Nat) (o : Oper), ops[i]? = some o → ∀ d, o.dst = some d → T.1 d) {draw : Bool} {id : Nat} {keep : List Nat} {st st' : St} {a : Act} {w : World} (h : aregion C cx keep ops draw st = some st')
    (hK : KInv keep st) (hR : Rg Γ T w0 A O0 ν0 N st a w) {Q : Exit → Act → World → Prop} (hQ : ∀ a w, KInv keep st' → Rg Γ T w0 A O0 ν0 N st' a w → Q .normal a w) : (Code.region id ops draw).wpIn (Fr ro) n cx.P Q a w := by
  unfold aregion at h
  split at h
  · rename_i ws lg hr
    split at h
    · rename_i hc
      cases h
      have hK' := hK.upds hc.2
      refine region_wp cx hS hOA hm hd hz hr hc.1 hR fun a w hR' => hQ a w hK' ?_
      obtain ⟨h1, h2, D, ν, R⟩ := hR'
      exact ⟨h1, h2, D, ν, R.dropLocs (fun l hl => upds_kept hl ws st) hK'⟩
    · cases h
  · cases h
end Go.Mv
end

section
/- A range over a function: rounds. -/
namespace Go.Mv
open Go Go.RowKit

theorem maskS_idem (zl : List Nat) (st : St) : maskS zl (maskS zl st) = maskS zl st := by
  funext l
  cases l with
  | t i => simp only [maskS]; split <;> rfl
  | h i => rfl
theorem startS_mask {keep ps : List Nat} {l : List (Nat × Nat)} {zl : List Nat} {vs : List Value} {st : St} : startS keep ps l zl vs (maskS zl st) = startS keep ps l zl vs st := by
  unfold startS; rw [maskS_idem]
theorem arounds_snoc {run : St → Option (AExit × St)} {start : List Value → St → St} {msk : St → St} (hm : ∀ vs st, start vs (msk st) = start vs st) : ∀ (ys : List (List Value)) (v : List Value) (st : St),
    arounds run start msk (ys ++ [v]) st = (arounds run start msk ys st).bind fun s => match run (start v s) with
      | some (.normal, s') => some (msk s')
      | _ => none
  | [], v, st => by
    simp only [List.nil_append, arounds, Option.bind_some, hm]
    cases run (start v st) with
    | none => rfl
    | some r => obtain ⟨e, s⟩ := r; cases e <;> rfl
  | y :: ys, v, st => by
    simp only [List.cons_append, arounds]
    cases run (start y st) with
    | none => rfl
    | some r =>
      obtain ⟨e, s⟩ := r
      cases e with
      | normal => exact arounds_snoc hm ys v s
      | exit i => rfl
      | ret => rfl

section
variable {Γ : Env} {w0 : World} {A O0 : Nat → Prop} {ν0 : Nu} {N : Nat} {F : Fl} {D : Nat → Prop} {st : St} {ν : Nu} {tm : Array Value} {w : World}

theorem Rel.mask (R : Rel Γ w0 A O0 ν0 N F D st ν tm w) (zl : List Nat) {tm0 : Array Value} (hsz : tm0.size = N) (ht : ∀ i, zl.contains i = false → tm[i]? = tm0[i]?) : Rel Γ w0 A O0 ν0 N F D (maskS zl st) ν tm0 w := by
  refine R.slotsOnly (fun _ => rfl) hsz (fun i hi => ?_) (fun i hi => ?_)
  · simp only [maskS]
    split
    · exact .undef _
    · rename_i h
      have h1 := R.slots i hi
      have e : tm0.getD i undef = tm.getD i undef := by rw [Array.getD_eq_getD_getElem?, Array.getD_eq_getD_getElem?, ht i (by simpa using h)]
      rw [e]; exact h1
  · simp only [maskS]
    split
    · rfl
    · exact R.high i hi
theorem KInv.mask {keep : List Nat} (hK : KInv keep st) (zl : List Nat) : KInv keep (maskS zl st) := by
  refine ⟨fun l hl => ?_, fun l => ?_⟩
  · cases l with
    | t i => simp only [maskS]; split <;> first | rfl | exact hK.gone _ hl
    | h i => exact hK.gone _ hl
  · cases l with
    | t i => simp only [maskS]; split <;> first | rfl | exact hK.refs (.t i)
    | h i => exact hK.refs (.h i)
theorem Rel.setSlot (R : Rel Γ w0 A O0 ν0 N F D st ν tm w) {keep : List Nat} (hK : KInv keep st) {d : Nat} (hd : d < N) {a : AV} {v : Value} (h : RS st ν w D a v) (hr : refOkV keep a = true) :
    Rel Γ w0 A O0 ν0 N F D (if keep.contains d then st.upd (.t d) a else st) ν (tm.setIfInBounds d v) w ∧ KInv keep (if keep.contains d then st.upd (.t d) a else st) := by
  split
  · rename_i hk
    refine ⟨R.setT hd h, fun l hl => ?_, fun l => ?_⟩
    · rw [St.upd_ne]
      · exact hK.gone l hl
      · rintro rfl
        simp only [keepLoc] at hl
        rw [hk] at hl; cases hl
    · by_cases e : l = .t d
      · subst e; rw [St.upd_eq]; exact hr
      · rw [St.upd_ne _ _ e]; exact hK.refs l
  · rename_i hk
    have h1 := R.setT (a := .undef) (v := v) hd (.undef v)
    have e : st.upd (.t d) .undef = st := by
      funext l
      by_cases e : l = .t d
      · subst e; rw [St.upd_eq]; exact (hK.gone _ (by simpa [keepLoc] using hk)).symm
      · rw [St.upd_ne _ _ e]
    rw [e] at h1
    exact ⟨h1, hK⟩
end

section
variable {Γ : Env} {w0 : World} {A O0 : Nat → Prop} {ν0 : Nu} {N : Nat} {F : Fl} {D : Nat → Prop} {ν : Nu} {w : World}
theorem Rel.vals {keep : List Nat} : ∀ (L : List (Nat × Value)) (st : St) (tm : Array Value), (∀ x ∈ L, x.1 < N) → KInv keep st → Rel Γ w0 A O0 ν0 N F D st ν tm w →
    Rel Γ w0 A O0 ν0 N F D (st.upds (keptWs keep (L.map fun x => (.t x.1, .val x.2)))) ν (L.foldl (fun t x => t.setIfInBounds x.1 x.2) tm) w ∧ KInv keep (st.upds (keptWs keep (L.map fun x => (.t x.1, .val x.2))))
  | [], st, tm, _, hK, R => ⟨R, hK⟩
  | x :: L, st, tm, hL, hK, R => by
    obtain ⟨R1, hK1⟩ := R.setSlot hK (hL x (List.mem_cons_self ..)) (a := .val x.2) (v := x.2) (.data _ _ (.val _)) rfl
    have := Rel.vals L _ _ (fun y hy => hL y (List.mem_cons_of_mem _ hy)) hK1 R1
    simp only [List.map_cons, List.foldl_cons]
    by_cases hk : keep.contains x.1 = true
    · rw [if_pos hk] at this
      have e : keptWs keep ((Mv.Loc.t x.1, AV.val x.2) :: L.map fun x => (.t x.1, .val x.2)) = (Mv.Loc.t x.1, AV.val x.2) :: keptWs keep (L.map fun x => (.t x.1, .val x.2)) := by
        unfold keptWs; rw [List.filter_cons, if_pos (by exact hk)]
      rw [e]
      exact this
    · rw [if_neg hk] at this
      have e : keptWs keep ((Mv.Loc.t x.1, AV.val x.2) :: L.map fun x => (.t x.1, .val x.2)) = keptWs keep (L.map fun x => (.t x.1, .val x.2)) := by
        unfold keptWs; rw [List.filter_cons, if_neg (by exact hk)]
      rw [e]
      exact this
theorem Rel.asg {keep : List Nat} : ∀ (L : List (Nat × Nat)) (st : St) (tm : Array Value), (∀ x ∈ L, x.1 < N) → KInv keep st → Rel Γ w0 A O0 ν0 N F D st ν tm w →
    Rel Γ w0 A O0 ν0 N F D (asgS keep L st) ν (L.foldl (fun t x => t.setIfInBounds x.1 (t.getD x.2 undef)) tm) w ∧ KInv keep (asgS keep L st)
  | [], st, tm, _, hK, R => ⟨R, hK⟩
  | x :: L, st, tm, hL, hK, R => by
    have h0 : RS st ν w D (st (.t x.2)) (tm.getD x.2 undef) := by
      rcases Nat.lt_or_ge x.2 N with h | h
      · exact R.slots _ h
      · rw [R.high _ h]; exact .undef _
    obtain ⟨R1, hK1⟩ := R.setSlot hK (hL x (List.mem_cons_self ..)) h0 (hK.refs (.t x.2))
    exact Rel.asg L _ _ (fun y hy => hL y (List.mem_cons_of_mem _ hy)) hK1 R1
end

theorem asgOps_wp {ro : Option Nat} {n : Nat} {P : Program} {ops : Array Oper} {K : Act → World → Prop} {Fa : Exit → Act → World → Prop} {ds : List Deferred} {W : World} :
    ∀ (L : List Oper) (i0 : Nat) (l : List (Nat × Nat)) (t : Array Value), (∀ j, j < L.length → ops[i0 + j]? = L[j]?) → asgOps L = some l → K ⟨l.foldl (fun t x => t.setIfInBounds x.1 (t.getD x.2 undef)) t, ds⟩ W →
      wpOpsIn (Fr ro) n P ops (Exit.then K Fa) (List.range' i0 L.length) ⟨t, ds⟩ W
  | [], i0, l, t, _, hl, hK => by
    simp only [asgOps, Option.some.injEq] at hl
    subst hl
    exact hK
  | o :: L, i0, l, t, hL, hl, hK => by
    simp only [asgOps] at hl
    split at hl
    · rename_i d p l' hd ho hg hl'
      cases hl
      have h0 := hL 0 (by simp)
      simp only [Nat.add_zero, List.getElem?_cons_zero] at h0
      rw [List.length_cons, List.range'_succ, wpOpsIn_cons]
      unfold wpOpIn
      simp only [h0]
      have hw : Region.wanted o (yielded ops t) = true := by simp [Region.wanted, hg]
      simp only [hw, if_true]
      refine ⟨fun _ _ => trivial, ?_⟩
      have hrun : (o.semAt (Fr ro).round (Act.mk t ds).eval).run P W = .ok (.value ((Act.mk t ds).eval (.tmp p))) W := by
        rw [Oper.semAt_eq _ _ _ (by rw [ho]; intro c hc; cases hc)]
        simp [execOp, ho, Sem.run]
      rw [hrun, Oper.uponIn_value]
      have hput : (Act.mk t ds).put o.dst ((Act.mk t ds).eval (.tmp p)) = ⟨t.setIfInBounds d (t.getD p undef), ds⟩ := by
        rw [hd]; rfl
      rw [hput]
      exact asgOps_wp L (i0 + 1) l' _ (fun j hj => by
        have := hL (j + 1) (by simp; omega)
        rw [show i0 + 1 + j = i0 + (j + 1) by omega]; simpa using this) hl' hK
    · cases hl
theorem codeAsg_wp {ro : Option Nat} {n : Nat} {P : Program} {K : Act → World → Prop} {Fa : Exit → Act → World → Prop} {ds : List Deferred} {W : World} {c : Code} {l : List (Nat × Nat)} {t : Array Value} (hc : codeAsg c = some l)
    (hK : K ⟨l.foldl (fun t x => t.setIfInBounds x.1 (t.getD x.2 undef)) t, ds⟩ W) : c.wpIn (Fr ro) n P (Exit.then K Fa) ⟨t, ds⟩ W := by
  unfold codeAsg at hc
  split at hc
  · cases hc
    exact wpIn_skip hK
  · rename_i id ops
    refine wpIn_region ?_
    rw [List.range_eq_range', ← Array.length_toList]
    exact asgOps_wp ops.toList 0 l t (fun j hj => by simp) hc hK
  · cases hc
theorem codeAsg_dsts {c : Code} {l : List (Nat × Nat)} (hc : codeAsg c = some l) : ∀ x ∈ l, x.1 ∈ codeDsts c := by
  have key : ∀ (L : List Oper) (l : List (Nat × Nat)), asgOps L = some l → ∀ x ∈ l, x.1 ∈ L.flatMap fun o => o.dst.toList := by
    intro L
    induction L with
    | nil => intro l hl x hx; simp only [asgOps, Option.some.injEq] at hl; subst hl; cases hx
    | cons o L ih =>
      intro l hl x hx
      simp only [asgOps] at hl
      split at hl
      · rename_i d p l' hd ho hg hl'
        cases hl
        rw [List.flatMap_cons]
        rcases List.mem_cons.1 hx with rfl | hx
        · exact List.mem_append_left _ (by simp [hd])
        · exact List.mem_append_right _ (ih l' hl' x hx)
      · cases hl
  unfold codeAsg at hc
  split at hc
  · cases hc; intro x hx; cases hx
  · exact key _ _ hc
  · cases hc

/-- what is asked of an iterator -/
def KeepD (D : Nat → Prop) (W W' : World) : Prop := ∀ b, D b → W'.heap[b]? = W.heap[b]?
def IterOk (Γ : Env) (P : Program) (k : Nat) (caps : List AV) (xs : List (List Value)) : Prop :=
  ¬ Γ.mo ∧ Enters P k ∧ ∀ (w : World) (D : Nat → Prop) (lb : Array Value), (∀ b, D b → b < w.heap.size) → lb.size = caps.length → (∀ i c, caps[i]? = some c → RV w D c (lb.getD i undef)) → ∀ n, 1 ≤ n →
    SeqStopsK Fence.wide n P k lb (fun x : { y // y ∈ xs } => x.1.toArray) (KeepD D) (fun ys => ys.map (·.1) = xs) (fun _ => True) xs.length w
def SoundI (Γ : Env) (cx : Cx) : Prop := ∀ k F caps xs, cx.it k = some F → F caps = some xs → IterOk Γ cx.P k caps xs
end Go.Mv
end

section
namespace Go.Mv
open Go Go.RowKit

def exitOf : AExit → Exit
  | .normal => .normal
  | .exit i => .exit i
  | .ret => .ret

def dstsIn (Z : Nat → Prop) : Code → Prop
  | .region _ ops _ => ∀ (i : Nat) (o : Oper), ops[i]? = some o → ∀ d, o.dst = some d → Z d
  | .seq a b => dstsIn Z a ∧ dstsIn Z b
  | .cond _ a b => dstsIn Z a ∧ dstsIn Z b
  | .block _ b => dstsIn Z b
  | .loop b => dstsIn Z b
  | _ => True
theorem dstsIn_true : ∀ c : Code, dstsIn (fun _ => True) c
  | .region _ _ _ => fun _ _ _ _ _ => trivial
  | .seq a b => ⟨dstsIn_true a, dstsIn_true b⟩
  | .cond _ a b => ⟨dstsIn_true a, dstsIn_true b⟩
  | .block _ b => dstsIn_true b
  | .loop b => dstsIn_true b
  | .skip => trivial
  | .exit _ => trivial
  | .ret => trivial
  | .goto _ => trivial
  | .label _ => trivial
  | .scope _ => trivial
  | .refuse _ => trivial
  | .rangeFunc .. => trivial
theorem dstsIn_of {Z : Nat → Prop} : ∀ c : Code, (∀ d ∈ codeDsts c, Z d) → dstsIn Z c
  | .region _ ops _, h => fun i o ho d hd => h d (by
      simp only [codeDsts, List.mem_flatMap]
      exact ⟨o, Array.mem_toList_iff.2 (Array.mem_of_getElem? ho), by simp [hd]⟩)
  | .seq a b, h => ⟨dstsIn_of a fun d hd => h d (by simp [codeDsts, hd]), dstsIn_of b fun d hd => h d (by simp [codeDsts, hd])⟩
  | .cond _ a b, h => ⟨dstsIn_of a fun d hd => h d (by simp [codeDsts, hd]), dstsIn_of b fun d hd => h d (by simp [codeDsts, hd])⟩
  | .block _ b, h => dstsIn_of b fun d hd => h d (by simp [codeDsts, hd])
  | .loop b, h => dstsIn_of b fun d hd => h d (by simp [codeDsts, hd])
  | .skip, _ => trivial
  | .exit _, _ => trivial
  | .ret, _ => trivial
  | .goto _, _ => trivial
  | .label _, _ => trivial
  | .scope _, _ => trivial
  | .refuse _, _ => trivial
  | .rangeFunc .., _ => trivial

section
variable {C : Caller} {Γ : Env} {N : Nat}

theorem opA_val {w0 : World} {A O0 : Nat → Prop} {ν0 : Nu} {st : St} {D : Nat → Prop} {ν : Nu} {tm : Array Value} {w : World} {ds : List Deferred} (R : Rel Γ w0 A O0 ν0 N Fl.emp D st ν tm w) {c : Operand} {x : AV} (h : opA st c = x) (hx : x ≠ .undef) : RS st ν w D x ((Act.mk tm ds).eval c) := by
  refine rdO_sound (C := fun _ _ => none) (x := c) ?_ R
  cases c with
  | tmp t => simp only [rdO, ev_rd]; exact congrArg some h
  | const v => simp only [rdO, Rd.ev_ret]; exact congrArg some h
  | func f => simp [opA] at h; exact (hx h.symm).elim
  | global g => simp [opA] at h; exact (hx h.symm).elim

theorem opA_bool {T : (Nat → Prop) × Array Value} {w0 : World} {A O0 : Nat → Prop} {ν0 : Nu} {st : St} {a : Act} {w : World} (hR : Rg Γ T w0 A O0 ν0 N st a w) {c : Operand} {b : Bool} (h : opA st c = .val (.bool b)) : a.eval c = .bool b := by
  obtain ⟨tm, ds⟩ := a
  obtain ⟨hd, hT, D, ν, R⟩ := hR
  have : RS st ν w D (.val (.bool b)) ((Act.mk tm ds).eval c) := by
    refine rdO_sound (C := fun _ _ => none) (x := c) ?_ R
    cases c with
    | tmp t => simp only [rdO, ev_rd]; exact congrArg some h
    | const v => simp only [rdO, Rd.ev_ret]; exact congrArg some h
    | func f => simp [opA] at h
    | global g => simp [opA] at h
  exact this.val_inv

theorem dsts_region {n : Nat} {id : Nat} {ops : Array Oper} {draw : Bool} (h : dstsOk n (.region id ops draw) = true) : ∀ (i : Nat) (o : Oper), ops[i]? = some o → ∀ d, o.dst = some d → d < n := by
  intro i o ho d hd
  simp only [dstsOk, Array.all_eq_true] at h
  have hi := (Array.getElem?_eq_some_iff.1 ho)
  obtain ⟨hlt, he⟩ := hi
  have := h i hlt
  rw [he, hd] at this
  simpa using (of_decide_eq_true this).1

/-- the interpreter's soundness at this much fuel -/
def ExecS (cx : Cx) (Γ : Env) (C : Caller) (N : Nat) (keep : List Nat) (n : Nat) : Prop := ∀ (ro : Option Nat) (m : Nat) (T : (Nat → Prop) × Array Value) (w0 : World) (A O0 : Nat → Prop) (ν0 : Nu), (ro = none → 2 ≤ m) → (∀ b, O0 b → A b) →
    ∀ (c : Code) (st st' : St) (r : AExit) (a : Act) (w : World) (Q : Exit → Act → World → Prop), aexec C cx keep n c st = some (r, st') → dstsOk N c = true → dstsIn T.1 c → (ro = none ∨ noRange c = true) → KInv keep st → Rg Γ T w0 A O0 ν0 N st a w →
      (∀ a w, KInv keep st' → Rg Γ T w0 A O0 ν0 N st' a w → Q (exitOf r) a w) → c.wpIn (Fr ro) m cx.P Q a w

theorem foldl_other {β : Type} (f : Array Value → Nat × β → Value) (zl : List Nat) : ∀ (L : List (Nat × β)) (t : Array Value), (∀ x ∈ L, zl.contains x.1 = true) → ∀ i, zl.contains i = false → (L.foldl (fun t x => t.setIfInBounds x.1 (f t x)) t)[i]? = t[i]?
  | [], _, _, _, _ => rfl
  | x :: L, t, h, i, hi => by
    rw [List.foldl_cons, foldl_other f zl L _ (fun y hy => h y (List.mem_cons_of_mem _ hy)) i hi, Array.getElem?_setIfInBounds_ne]
    intro e
    have := h x (List.mem_cons_self ..)
    rw [e, hi] at this; cases this
theorem asgS_h (keep : List Nat) : ∀ (l : List (Nat × Nat)) (s : St) (id : Nat), asgS keep l s (.h id) = s (.h id)
  | [], _, _ => rfl
  | x :: l, s, id => by
    show asgS keep l _ (.h id) = _
    rw [asgS_h keep l]
    simp only
    split
    · exact upd_t_h _ _ _ _
    · rfl
theorem startS_h (keep ps : List Nat) (l : List (Nat × Nat)) (zl : List Nat) (vs : List Value) (s : St) (id : Nat) : startS keep ps l zl vs s (.h id) = s (.h id) := by
  unfold startS
  rw [asgS_h, St.upds_notin]
  · rfl
  · intro x hx
    have := (List.mem_filter.1 hx).1
    obtain ⟨y, _, rfl⟩ := List.mem_map.1 this
    intro e; cases e

theorem range_case (cx : Cx) (hI : SoundI Γ cx) {keep : List Nat} {n : Nat} (hX : ExecS cx Γ C N keep n) {ro : Option Nat} {m : Nat} {T : (Nat → Prop) × Array Value} {w0 : World} {A O0 : Nat → Prop} {ν0 : Nu} (hm1 : ro = none → 2 ≤ m) (hOA : ∀ b, O0 b → A b)
    {g : Operand} {ps : Array Tmp} {ac bc : Code} {st st' : St} {r : AExit} {a : Act} {w : World} {Q : Exit → Act → World → Prop} (h : aexec C cx keep (n + 1) (.rangeFunc g ps ac bc) st = some (r, st')) (hd : dstsOk N (.rangeFunc g ps ac bc) = true)
    (hn : ro = none ∨ noRange (.rangeFunc g ps ac bc) = true) (hK : KInv keep st) (hR : Rg Γ T w0 A O0 ν0 N st a w) (hQ : ∀ a w, KInv keep st' → Rg Γ T w0 A O0 ν0 N st' a w → Q (exitOf r) a w) : (Code.rangeFunc g ps ac bc).wpIn (Fr ro) m cx.P Q a w := by
  obtain rfl : ro = none := hn.resolve_right (by simp [noRange])
  have hm2 := hm1 rfl
  simp only [aexec] at h
  split at h
  · rename_i k caps l hg hl
    split at h
    · rename_i xs hxs
      split at h
      · rename_i hc
        obtain ⟨hnb, hip, hlen⟩ := hc
        unfold arange at h
        split at h
        · rename_i hall
          simp only [Option.map_eq_some_iff, Prod.mk.injEq] at h
          obtain ⟨sf, hsf, rfl, rfl⟩ := h
          obtain ⟨F, hF, hFc⟩ := Option.bind_eq_some_iff.1 hxs
          obtain ⟨hmo, hE, hseq0⟩ := hI k F caps xs hF hFc
          obtain ⟨tm, ds⟩ := a
          obtain ⟨hds, hT, D0, ν1, R⟩ := hR
          simp only at hds hT R
          have hgv := opA_val R (ds := ds) hg (by simp)
          obtain ⟨lb, hlb, hlbs, hlbr⟩ := hgv.clo_list
          have hrv : ∀ i c, caps[i]? = some c → RV w D0 c (lb.getD i undef) := fun i c hi => by
            obtain ⟨v, h1, h2⟩ := hlbr.2 i c hi
            have e : lb.getD i undef = v := by
              rw [Array.getD_eq_getD_getElem?]
              rw [Array.getElem?_toList] at h1
              rw [h1]; rfl
            rw [e]
            have hci : isIpt c = true := List.all_eq_true.1 hip c (List.mem_of_getElem? hi)
            cases c <;> simp [isIpt] at hci
            cases h2 with
            | data _ _ h => exact h
          obtain ⟨zl, hzl⟩ : ∃ zl, zl = codeDsts (.rangeFunc g ps ac bc) := ⟨_, rfl⟩
          rw [← hzl] at hall hsf
          simp only [dstsOk, Bool.and_eq_true] at hd
          obtain ⟨⟨hdp, hda⟩, hdb⟩ := hd
          have hdp' : ∀ p ∈ ps.toList, p < N := fun p hp => (of_decide_eq_true (List.all_eq_true.1 hdp p hp)).1
          have hpz : ∀ p ∈ ps.toList, zl.contains p = true := fun p hp => by rw [hzl, List.contains_iff_mem]; simp [codeDsts, hp]
          have hlz : ∀ x ∈ l, zl.contains x.1 = true := fun x hx => by rw [hzl, List.contains_iff_mem]; simp [codeDsts, codeAsg_dsts hl x hx]
          have hln : ∀ x ∈ l, x.1 < N := fun x hx => by
            have h1 := codeAsg_dsts hl x hx
            revert h1 hda
            unfold codeAsg at hl
            split at hl
            · intro _ h1; simp [codeDsts] at h1
            · intro hda h1
              simp only [codeDsts, List.mem_flatMap] at h1
              obtain ⟨o, ho, hx⟩ := h1
              obtain ⟨i, hi⟩ := List.mem_iff_getElem?.1 ho
              exact dsts_region hda i o (by simpa using hi) x.1 (by simpa using hx)
            · cases hl
          have hmk : ∀ vs s, startS keep ps.toList l zl vs (maskS zl s) = startS keep ps.toList l zl vs s := fun vs s => startS_mask
          obtain ⟨run, hrun0⟩ : ∃ run : St → Option (AExit × St), run = fun s => aexec C cx keep n bc s := ⟨_, rfl⟩
          rw [← hrun0] at hall hsf
          have hlt0 : ∀ b, D0 b → b < w.heap.size := fun b hb => (R.dlt b hb).1
          have hle0 := R.le
          refine wpIn_rangeFunc_ownG (F := Fr none) (n := m) rfl (by omega) (gf := k) (lb := lb) hlb trivial (fun args w => run_callFunc hE args w) (w0 := w) (N := xs.length) (hseq0 w D0 lb hlt0 hlbs hrv (m - 1) (by omega))
            (fun h1 h2 b hb => (h2 b hb).trans (h1 b hb)) (fun W l' o o' hl' _ _ _ b hb => World.putObj_heap_other (by have := hlt0 b hb; omega)) (Below.refl _ w)
            (fun x => by simpa using List.all_eq_true.1 hlen x.1 x.2)
            (fun ys W => ∃ s, arounds run (startS keep ps.toList l zl) (maskS zl) (ys.map (·.1)) st = some s ∧ KInv keep s ∧ KeepsOthers w W ∧ (∀ b, D0 b → W.heap[b]? = w.heap[b]?) ∧ ∃ D ν, (∀ b, D0 b → ¬ TB s ν Fl.emp b) ∧ Rel Γ w0 A O0 ν0 N Fl.emp D s ν tm W)
            (fun _ _ _ => False) ?_ (fun c s X Y row h _ _ => h) ?_
            (fun x => ⟨l.foldl (fun t x => t.setIfInBounds x.1 (t.getD x.2 undef)) ((ps.toList.zip x.1).foldl (fun t x => t.setIfInBounds x.1 x.2) tm), []⟩) ?_ ?_ ?_ (fun _ _ _ _ _ _ h _ => h.elim)
          · rintro ys X Y row ⟨s, h1, h2, h3, h4, D, ν, h5, R1⟩ hg' hr'
            refine ⟨s, h1, h2, ⟨Nat.le_trans h3.size hg'.size, fun k' o hk ho => ?_⟩, fun b hb => ?_, D, ν, h5, R1.turn hg' (fun r e => ⟨Nat.le_trans hle0 (hr' r e).1, (hr' r e).2⟩) (fun h => (hmo h).elim)⟩
            · have h6 := h3.same k' o hk ho
              rw [hg'.block k' (Array.getElem?_eq_some_iff.1 h6).1 (fun e => by have := (hr' k' e.symm).1; have := (Array.getElem?_eq_some_iff.1 hk).1; omega)]
              exact h6
            · have h6 := hlt0 b hb
              have h7 := h3.size
              rw [hg'.block b (by omega) (fun e => by have := (hr' b e.symm).1; omega)]
              exact h4 b hb
          · exact ⟨maskS zl st, rfl, hK.mask zl, KeepsOthers.refl w, fun _ _ => rfl, D0, ν1, fun b hb ht => R.dT b hb ((TB_congr (fun _ => rfl) b).1 ht), R.mask zl R.size (fun _ _ => rfl)⟩
          · intro l' x W K hK'
            have e : (ps.zip x.1.toArray).foldl (fun t (p, v) => t.setIfInBounds p v) tm = (ps.toList.zip x.1).foldl (fun t x => t.setIfInBounds x.1 x.2) tm := by
              rw [← Array.foldl_toList, Array.toList_zip]
            show ac.wpIn (Fr (some l')) _ _ _ ⟨(ps.zip x.1.toArray).foldl (fun t (p, v) => t.setIfInBounds p v) tm, []⟩ W
            rw [e]
            exact codeAsg_wp hl hK'
          · rintro l' pre x W ⟨s, h1, h2, h3, h4, D, ν, h5, R1⟩ hlt
            have hall' := hall (pre.map (·.1) ++ [x.1]) (fun y hy => by
              rcases List.mem_append.1 hy with hy | hy
              · obtain ⟨z, _, rfl⟩ := List.mem_map.1 hy; exact z.2
              · rw [List.mem_singleton.1 hy]; exact x.2) (by simp; omega)
            rw [arounds_snoc hmk, h1, Option.bind_some] at hall'
            cases hrun : run (startS keep ps.toList l zl x.1 s) with
            | none => simp [hrun] at hall'
            | some rr =>
              obtain ⟨e, s2⟩ := rr
              cases e with
              | exit i => simp [hrun] at hall'
              | ret => simp [hrun] at hall'
              | normal =>
                obtain ⟨Ra, hKa⟩ := Rel.vals (keep := keep) (ps.toList.zip x.1) (maskS zl s) tm (fun y hy => hdp' _ (List.of_mem_zip hy).1) (h2.mask zl) (R1.mask zl R1.size (fun _ _ => rfl))
                obtain ⟨Rb, hKb⟩ := Rel.asg l _ _ hln hKa Ra
                have hTB : ∀ b, TB (startS keep ps.toList l zl x.1 s) ν Fl.emp b → TB s ν Fl.emp b := fun b hb => (TB_congr (fun id => startS_h _ _ _ _ _ _ id) b).1 hb
                have Rb' : Rel Γ w0 A O0 ν0 N Fl.emp D (startS keep ps.toList l zl x.1 s) ν _ W := Rb
                refine hX (some l') (m - 1 - 1) (fun i => zl.contains i = true, tm) W _ _ ν0 (by intro h; cases h) (fun b hb => .inr hb) bc (startS keep ps.toList l zl x.1 s) s2 .normal _ W _ (by rw [hrun0] at hrun; exact hrun) hdb
                  (dstsIn_of bc fun d hd => by simp only [hzl, List.contains_iff_mem]; simp [codeDsts, hd]) (.inr hnb) hKb ⟨DefOk.nil _ _, fun i hi => ?_, D, ν, Rb'.rebase⟩ (fun a2 W2 hK2 hR2 => ?_)
                · have hi' : zl.contains i = false := by simpa using hi
                  rw [foldl_other (fun t x => t.getD x.2 undef) zl l _ hlz i hi', foldl_other (fun _ x => x.2) zl _ tm (fun y hy => hpz _ (List.of_mem_zip hy).1) i hi']
                · obtain ⟨_, hT2, D2, ν2, R2⟩ := hR2
                  have hko := Rb'.others R2
                  have h7 := h3.size
                  have hkp : ∀ b, D0 b → W2.heap[b]? = W.heap[b]? := fun b hb => R2.fr b (by have := hlt0 b hb; omega) (fun ht => h5 b hb (hTB b ht))
                  refine ⟨hko.from _, hkp, maskS zl s2, ?_, hK2.mask zl, h3.trans hko, fun b hb => (hkp b hb).trans (h4 b hb), D2, ν2, fun b hb ht => ?_, (Rb'.unbase hOA R2).mask zl R.size (fun i hi => hT2 i (by simpa using hi))⟩
                  · rw [List.map_append, List.map_cons, List.map_nil, arounds_snoc hmk, h1, Option.bind_some, hrun]
                  · rcases R2.tO b ((TB_congr (fun _ => rfl) b).1 ht) with h8 | h8
                    · exact h5 b hb (hTB b h8)
                    · have := hlt0 b hb; omega
          · rintro Dk ys W hle hS ⟨s, h1, h2, h3, h4, D, ν, h5, R1⟩ hmk'
            rw [hS, hsf] at h1
            cases h1
            exact hQ _ W h2 ⟨hds.cons h3 (by omega) hle hmk', hT, D, ν, R1⟩
        · cases h
      · cases h
    · cases h
  · cases h

theorem aexec_sound (cx : Cx) (hS : SoundC Γ cx C) (hI : SoundI Γ cx) (hm : cx.P.follows .mixedOrders = true) {keep : List Nat} : ∀ (n : Nat) (ro : Option Nat) (m : Nat) (T : (Nat → Prop) × Array Value) (w0 : World) (A O0 : Nat → Prop) (ν0 : Nu), (ro = none → 2 ≤ m) → (∀ b, O0 b → A b) →
    (∀ (c : Code) (st st' : St) (r : AExit) (a : Act) (w : World) (Q : Exit → Act → World → Prop), aexec C cx keep n c st = some (r, st') → dstsOk N c = true → dstsIn T.1 c → (ro = none ∨ noRange c = true) → KInv keep st → Rg Γ T w0 A O0 ν0 N st a w →
      (∀ a w, KInv keep st' → Rg Γ T w0 A O0 ν0 N st' a w → Q (exitOf r) a w) → c.wpIn (Fr ro) m cx.P Q a w) ∧
    (∀ (b : Code) (st st' : St) (r : AExit) (a : Act) (w : World) (Q : Exit → Act → World → Prop), aexec C cx keep n (.loop b) st = some (r, st') → dstsOk N b = true → dstsIn T.1 b → (ro = none ∨ noRange b = true) → KInv keep st → Rg Γ T w0 A O0 ν0 N st a w →
      (∀ a w, KInv keep st' → Rg Γ T w0 A O0 ν0 N st' a w → Q (exitOf r) a w) → Code.roundsIn (Fr ro) m cx.P b Q n a w) := by
  intro n
  induction n with
  | zero => exact fun ro m T w0 A O0 ν0 _ _ => ⟨fun c st st' r a w Q h => by simp [aexec] at h, fun b st st' r a w Q h => by simp [aexec] at h⟩
  | succ n ihAll =>
    intro ro m T w0 A O0 ν0 hm1 hOA
    obtain ⟨ih1, ih2⟩ := ihAll ro m T w0 A O0 ν0 hm1 hOA
    have hloop : ∀ (b : Code) (st st' : St) (r : AExit) (a : Act) (w : World) (Q : Exit → Act → World → Prop), aexec C cx keep (n + 1) (.loop b) st = some (r, st') → dstsOk N b = true → dstsIn T.1 b → (ro = none ∨ noRange b = true) → KInv keep st → Rg Γ T w0 A O0 ν0 N st a w →
        (∀ a w, KInv keep st' → Rg Γ T w0 A O0 ν0 N st' a w → Q (exitOf r) a w) → Code.roundsIn (Fr ro) m cx.P b Q (n + 1) a w := by
      intro b st st' r a w Q h hd hz hn hK hR hQ
      rw [roundsIn_succ]
      simp only [aexec] at h
      cases hb : aexec C cx keep n b st with
      | none => simp [hb] at h
      | some x =>
        obtain ⟨r1, st1⟩ := x
        refine ih1 b st st1 r1 a w _ hb hd hz hn hK hR fun a1 w1 hK1 hR1 => ?_
        cases r1 with
        | normal =>
          simp only [hb] at h
          exact ih2 b st1 st' r a1 w1 Q h hd hz hn hK1 hR1 hQ
        | exit i =>
          simp only [hb, Option.some.injEq, Prod.mk.injEq] at h
          obtain ⟨rfl, rfl⟩ := h
          exact hQ a1 w1 hK1 hR1
        | ret =>
          simp only [hb, Option.some.injEq, Prod.mk.injEq] at h
          obtain ⟨rfl, rfl⟩ := h
          exact hQ a1 w1 hK1 hR1
    refine ⟨fun c st st' r a w Q h hd hz hn hK hR hQ => ?_, hloop⟩
    cases c with
    | skip =>
      simp only [aexec, Option.some.injEq, Prod.mk.injEq] at h
      obtain ⟨rfl, rfl⟩ := h
      exact wpIn_skip (hQ a w hK hR)
    | region id ops draw =>
      simp only [aexec] at h
      cases hr : aregion C cx keep ops draw st with
      | none => simp [hr] at h
      | some st1 =>
        simp only [hr, Option.some.injEq, Prod.mk.injEq] at h
        obtain ⟨rfl, rfl⟩ := h
        exact aregion_sound cx hS hOA hm (dsts_region hd) hz hr hK hR hQ
    | seq x y =>
      simp only [dstsOk, Bool.and_eq_true] at hd
      simp only [noRange, Bool.and_eq_true] at hn
      simp only [aexec] at h
      refine wpIn_seq ?_
      cases hx : aexec C cx keep n x st with
      | none => simp [hx] at h
      | some z =>
        obtain ⟨r1, st1⟩ := z
        refine ih1 x st st1 r1 a w _ hx hd.1 hz.1 (hn.imp id (·.1)) hK hR fun a1 w1 hK1 hR1 => ?_
        cases r1 with
        | normal =>
          simp only [hx] at h
          exact ih1 y st1 st' r a1 w1 Q h hd.2 hz.2 (hn.imp id (·.2)) hK1 hR1 hQ
        | exit i =>
          simp only [hx, Option.some.injEq, Prod.mk.injEq] at h
          obtain ⟨rfl, rfl⟩ := h
          exact hQ a1 w1 hK1 hR1
        | ret =>
          simp only [hx, Option.some.injEq, Prod.mk.injEq] at h
          obtain ⟨rfl, rfl⟩ := h
          exact hQ a1 w1 hK1 hR1
    | cond c x y =>
      simp only [dstsOk, Bool.and_eq_true] at hd
      simp only [noRange, Bool.and_eq_true] at hn
      simp only [aexec] at h
      split at h
      · rename_i hc
        exact wpIn_cond_true (opA_bool hR hc) (ih1 x st st' r a w Q h hd.1 hz.1 (hn.imp id (·.1)) hK hR hQ)
      · rename_i hc
        exact wpIn_cond_false (opA_bool hR hc) (ih1 y st st' r a w Q h hd.2 hz.2 (hn.imp id (·.2)) hK hR hQ)
      · cases h
    | block id b =>
      simp only [dstsOk] at hd
      simp only [aexec] at h
      refine wpIn_block ?_
      cases hb : aexec C cx keep n b st with
      | none => simp [hb] at h
      | some z =>
        obtain ⟨r1, st1⟩ := z
        refine ih1 b st st1 r1 a w _ hb hd hz hn hK hR fun a1 w1 hK1 hR1 => ?_
        cases r1 with
        | normal =>
          simp only [hb, Option.some.injEq, Prod.mk.injEq] at h
          obtain ⟨rfl, rfl⟩ := h
          exact hQ a1 w1 hK1 hR1
        | exit i =>
          simp only [hb] at h
          by_cases hi : i = id
          · simp only [hi, if_true, Option.some.injEq, Prod.mk.injEq] at h
            obtain ⟨rfl, rfl⟩ := h
            simp only [exitOf, Exit.inBlock, hi, if_true]
            exact hQ a1 w1 hK1 hR1
          · simp only [hi, if_false, Option.some.injEq, Prod.mk.injEq] at h
            obtain ⟨rfl, rfl⟩ := h
            simp only [exitOf, Exit.inBlock, hi, if_false]
            exact hQ a1 w1 hK1 hR1
        | ret =>
          simp only [hb, Option.some.injEq, Prod.mk.injEq] at h
          obtain ⟨rfl, rfl⟩ := h
          exact hQ a1 w1 hK1 hR1
    | loop b => exact wpIn_loop_rounds (n + 1) (hloop b st st' r a w Q h (by simpa [dstsOk] using hd) hz hn hK hR hQ)
    | exit i =>
      simp only [aexec, Option.some.injEq, Prod.mk.injEq] at h
      obtain ⟨rfl, rfl⟩ := h
      exact wpIn_exit (hQ a w hK hR)
    | ret =>
      simp only [aexec, Option.some.injEq, Prod.mk.injEq] at h
      obtain ⟨rfl, rfl⟩ := h
      exact wpIn_ret (hQ a w hK hR)
    | rangeFunc g ps ac bc => exact range_case cx hI (fun ro m T w0 A O0 ν0 h1 h2 => (ihAll ro m T w0 A O0 ν0 h1 h2).1) hm1 hOA h hd hn hK hR hQ
    | _ => simp [aexec] at h
end
end Go.Mv
end

section
namespace Go.Mv
open Go

section
variable {P : Program} {C : Caller} {Γ : Env} {w0 : World} {A O0 : Nat → Prop} {ν0 : Nu} {N : Nat} {F : Fl} {D : Nat → Prop} {st : St} {ν : Nu} {tm : Array Value} {w : World}

theorem RO.ofBox {L : AV → Value → Prop} {φ : Path → Base} {bx : Prop} {s : Nat} {es : List AV} (h : RO w L φ bx s es) (hb : bx) : RO w L φ False (boxS es) es := by
  refine ⟨?_, h.sub⟩
  have ht := h.top
  cases hφ : φ none with
  | none =>
    rw [hφ] at ht
    exact ht
  | some q =>
    obtain ⟨b, o⟩ := q
    rw [hφ] at ht
    obtain ⟨c, ety, h1, h2, h3, h5, h4⟩ := ht
    have hle := h5 hb
    match es, hle, h2, h4 with
    | [], _, h2, _ => exact ⟨c, ety, h1, by simpa using h2, (fun _ e he => by cases he), (fun h => h.elim), (fun i j l hl => by simp [leafAt] at hl)⟩
    | [e], _, h2, h4 =>
      refine ⟨c, ety, h1, ?_, fun _ e' he => ?_, fun h => h.elim, fun i j l hl => ?_⟩
      · simp only [boxS, List.length_cons, List.length_nil, Nat.zero_add, Nat.one_mul]
        cases hn : (leaves e).length with
        | zero => simp at h2; omega
        | succ n =>
          obtain ⟨v, hv, _⟩ := h4 0 n ((leaves e)[n]'(by omega)) (by simp [leafAt])
          have := (Array.getElem?_eq_some_iff.1 hv).1
          omega
      · simp only [List.mem_singleton] at he
        subst he
        rfl
      · have hi : i = 0 := by
          unfold leafAt at hl
          cases i with
          | zero => rfl
          | succ i => simp at hl
        subst hi
        obtain ⟨v, hv, hr⟩ := h4 0 j l hl
        exact ⟨v, by simpa using hv, hr⟩
    | _ :: _ :: _, hle, _, _ => simp at hle

/-- a box is taken out of the frame's hands -/
theorem Rel.detachBox (R : Rel Γ w0 A O0 ν0 N F D st ν tm w) {id g s : Nat} {es : List AV} (h : st (.h id) = .obj g 3 s es) {κ : FK} (hκ : F κ = none) :
    Rel Γ w0 A O0 ν0 N (F.set κ (some ⟨ν id, boxS es, es⟩)) D (st.upd (.h id) (.dead g)) ν tm w := by
  have E : Ext st ν w (st.upd (.h id) (.dead g)) ν w := R.extUpd (by rw [h]; exact Nat.le_refl _) (by intro _ _ _ _ e; cases e) (fun _ _ => rfl) (fun _ _ => rfl)
  have hL : ∀ a v, RS st ν w D a v → RS (st.upd (.h id) (.dead g)) ν w D a v := fun a v h => h.same E (fun _ hb => hb)
  have hob : ∀ i g' m s' es', st.upd (.h id) (.dead g) (.h i) = .obj g' m s' es' → i ≠ id ∧ st (.h i) = .obj g' m s' es' := by
    intro i g' m s' es' hi
    by_cases e : i = id
    · subst e; rw [St.upd_eq] at hi; cases hi
    · rw [upd_h_h _ _ _ e] at hi; exact ⟨e, hi⟩
  refine R.ghost (fun i => upd_h_t _ _ _ _) E (fun _ hb => hb) ?_ ?_ ?_ (FrF κ id) ?_ ?_ (fun b hb hd => (hd hb).elim) ?_
  · intro i g' m s' es' hi
    exact (R.objs i g' m s' es' (hob _ _ _ _ _ hi).2).mono rfl (fun _ _ _ _ _ => rfl) (fun _ _ _ => rfl) (fun _ _ _ _ _ _ _ _ => rfl) hL
  · intro i g' s' es' hi
    exact R.frozen i g' s' es' (hob _ _ _ _ _ hi).2
  · intro k f hf
    by_cases e : k = κ
    · subst e
      rw [Fl.set_eq] at hf
      cases hf
      have := (R.objs id g 3 s es h).ofBox (.inl rfl)
      exact this.mono rfl (fun _ _ _ _ _ => rfl) (fun _ _ _ => rfl) (fun _ _ _ _ _ _ _ _ => rfl) hL
    · rw [Fl.set_ne _ _ e] at hf
      exact (R.flos k f hf).mono rfl (fun _ _ _ _ _ => rfl) (fun _ _ _ => rfl) (fun _ _ _ _ _ _ _ _ => rfl) hL
  · intro k b o hl hb
    cases k with
    | nd i p =>
      obtain ⟨g', m, s', es', h1, h2, h3⟩ := hl
      exact ⟨o, ⟨g', m, s', es', (hob _ _ _ _ _ h1).2, h2, h3⟩, hb⟩
    | fl k p =>
      obtain ⟨f, h1, h3⟩ := hl
      by_cases e : k = κ
      · subst e
        rw [Fl.set_eq] at h1
        cases h1
        simp only [baseOf, Fl.set_eq] at hb
        simp only [FrF, if_true]
        exact ⟨o, ⟨g, 3, s, es, h, by decide, h3⟩, hb⟩
      · rw [Fl.set_ne _ _ e] at h1
        simp only [baseOf, Fl.set_ne _ _ e] at hb
        simp only [FrF, e, if_false]
        exact ⟨o, ⟨f, h1, h3⟩, hb⟩
  · intro k1 k2 l1 l2 he
    have hid : ∀ p, ¬ live (st.upd (.h id) (.dead g)) (F.set κ (some ⟨ν id, boxS es, es⟩)) (.nd id p) := by
      rintro p ⟨g', m, s', es', h1, _⟩
      exact (hob _ _ _ _ _ h1).1 rfl
    cases k1 with
    | nd i p => cases k2 with
      | nd j q => exact he
      | fl k q =>
        simp only [FrF] at he
        split at he
        · cases he; exact (hid _ l1).elim
        · cases he
    | fl k p => cases k2 with
      | nd j q =>
        simp only [FrF] at he
        split at he
        · cases he; exact (hid _ l2).elim
        · cases he
      | fl k' q =>
        simp only [FrF] at he
        split at he <;> split at he
        · rename_i e1 e2; cases he; rw [e1, e2]
        · cases he
        · cases he
        · exact he
  · intro i g' m s' es' hi hm
    exact R.io i g' m s' es' (hob _ _ _ _ _ hi).2 hm


theorem retLeaf_sound (hOA : ∀ b, O0 b → A b) {κ : FK} (hκ : F κ = none) (R : Rel Γ w0 A O0 ν0 N F D st ν tm w) {v a : AV} {st' : St} {x : Value} (h : (retLeaf v).go C st = some (a, st')) (hv : RS st ν w D v x) :
    ∃ F' D', (∀ b, D b → D' b) ∧ Rel Γ w0 A O0 ν0 N F' D' st' ν tm w ∧ Ext st ν w st' ν w ∧ (∀ κ', κ' ≠ κ → F' κ' = F κ') ∧ LeafRes F' D' w κ a x ∧
      (∀ f, F' κ = some f → noRefL f.es = true ∧ hasListL f.es = hasList a) := by
  have same : st' = st → immLeaf a = true → RV w D a x → ∃ F' D', (∀ b, D b → D' b) ∧ Rel Γ w0 A O0 ν0 N F' D' st' ν tm w ∧ Ext st ν w st' ν w ∧ (∀ κ', κ' ≠ κ → F' κ' = F κ') ∧ LeafRes F' D' w κ a x ∧
      (∀ f, F' κ = some f → noRefL f.es = true ∧ hasListL f.es = hasList a) := by
    rintro rfl hi hr
    exact ⟨F, D, fun _ h => h, R, Ext.refl _ _ _, fun _ _ => rfl, .inr ⟨resLeaf_of hi, hr⟩, fun f hf => by rw [hκ] at hf; cases hf⟩
  unfold retLeaf at h
  split at h
  · rename_i id g p off n
    simp only [RW.go_bind, RW.go_up, Option.bind_eq_some_iff, Option.map_eq_some_iff] at h
    obtain ⟨_, ⟨⟨m, s, es⟩, h1, rfl⟩, h⟩ := h
    rw [ev_rdNode] at h1
    obtain ⟨_, _, _, hsl⟩ := hv.sl_inv
    have hsl := hsl _ _ _ h1
    simp only at h
    split at h
    · rename_i hc
      obtain ⟨rfl, rfl⟩ := hc
      simp only [RW.go_bind, RW.go_up, ev_need, Option.bind_eq_some_iff, Option.map_eq_some_iff] at h
      obtain ⟨_, ⟨_, h2, rfl⟩, h⟩ := h
      obtain ⟨hn, hnr⟩ := need_ev h2
      have hlen : (es.take n).length = n := by rw [List.length_take]; omega
      cases p with
      | none =>
        simp only [RW.go_bind, RW.go_wr, RW.go_pure, Option.bind_some, Option.some.injEq, Prod.mk.injEq] at h
        obtain ⟨rfl, rfl⟩ := h
        obtain ⟨R', E⟩ := R.takeObj (node_none h1) hκ n
        refine ⟨_, D, fun _ h => h, R', E, fun κ' h => Fl.set_ne _ _ h, .inl ⟨s, _, ν id, rfl, Fl.set_eq _ _ _, noRefL_take hnr n, by rw [hlen]; exact hsl⟩, fun f hf => ?_⟩
        rw [Fl.set_eq] at hf
        cases hf
        exact ⟨noRefL_take hnr n, rfl⟩
      | some q =>
        obtain ⟨i, j⟩ := q
        obtain ⟨s0, ps, hst, hp⟩ := node_obj h1
        rcases hp with ⟨hq, _⟩ | ⟨i', j', hq, hl⟩
        · cases hq
        · cases hq
          simp only [killLeaf, RW.go_bind, RW.go_up, ev_rd, Option.map_some, Option.bind_some, hst] at h
          cases he : ps[i]? with
          | none => simp [he] at h
          | some e =>
            simp only [he, RW.go_wr, RW.go_pure, Option.bind_some, Option.some.injEq, Prod.mk.injEq] at h
            obtain ⟨rfl, rfl⟩ := h
            obtain ⟨hRN, hno⟩ := R.node h1
            have hno := hno (by simp)
            obtain ⟨R', E⟩ := R.outSub hst (by decide) hl (leafSet_putAt (bx := (0 = 3 ∨ 0 = 4)) (s := s0) he hl (l := .undef) (by intro gs hh; cases hh)) κ hκ
              (.inl ⟨rfl, rfl, rfl⟩) hOA
            have R2 := R'.cut (κ := κ) (Fl.set_eq _ _ _) n
            rw [Fl.set_set] at R2
            refine ⟨_, D, fun _ h => h, R2, E, fun κ' h => Fl.set_ne _ _ h, .inl ⟨s, _, _, rfl, Fl.set_eq _ _ _, noRefL_take hnr n, by rw [hlen]; exact hsl⟩, fun f hf => ?_⟩
            rw [Fl.set_eq] at hf
            cases hf
            exact ⟨noRefL_take hnr n, rfl⟩
    · simp only [RW.go_bind, RW.go_pure, Option.bind_eq_some_iff] at h
      obtain ⟨⟨es', st1⟩, h2, h3⟩ := h
      cases h3
      obtain ⟨D', hD, R', E, hr⟩ := freeze_sound hOA hκ R h2 hv
      exact ⟨F, D', hD, R', E, fun _ _ => rfl, .inr ⟨rfl, hr⟩, fun f hf => by rw [hκ] at hf; cases hf⟩
  all_goals first
    | (simp only [RW.go_pure, Option.some.injEq, Prod.mk.injEq] at h; obtain ⟨rfl, rfl⟩ := h; exact same rfl rfl (hv.imm rfl))
    | simp at h

theorem retLeaves_sound (hOA : ∀ b, O0 b → A b) {k : Nat} : ∀ (fs us : List AV) (cs : List Value) (n : Nat) (F : Fl) (D : Nat → Prop) (st st' : St), (∀ j, n < j → F (5, k, j) = none) → Rel Γ w0 A O0 ν0 N F D st ν tm w →
    (retLeaves fs).go C st = some (us, st') → RL st ν w D fs cs →
    ∃ F' D', (∀ b, D b → D' b) ∧ Rel Γ w0 A O0 ν0 N F' D' st' ν tm w ∧ Ext st ν w st' ν w ∧ (∀ κ', (∀ j, n < j → κ' ≠ (5, k, j)) → F' κ' = F κ') ∧ us.length = fs.length ∧
      (∀ (j : Nat) (l : AV), us[j]? = some l → ∃ x : Value, cs[j]? = some x ∧ LeafRes F' D' w (5, k, n + j + 1) l x) ∧
      (∀ j f, n < j → F' (5, k, j) = some f → noRefL f.es = true ∧ (hasListL us = false → hasListL f.es = false)) := by
  intro fs
  induction fs with
  | nil =>
    intro us cs n F D st st' hF R h hr
    simp only [retLeaves, RW.go_pure, Option.some.injEq, Prod.mk.injEq] at h
    obtain ⟨rfl, rfl⟩ := h
    exact ⟨F, D, fun _ h => h, R, Ext.refl _ _ _, fun _ _ => rfl, rfl, fun j l hl => (by simp at hl), fun j f hj hf => by rw [hF j hj] at hf; cases hf⟩
  | cons v fs ih =>
    intro us cs n F D st st' hF R h hr
    simp only [retLeaves, RW.go_bind, RW.go_pure, Option.bind_eq_some_iff] at h
    obtain ⟨⟨u, st1⟩, h1, ⟨us', st2⟩, h2, h3⟩ := h
    cases h3
    cases cs with
    | nil => have := hr.1; simp at this
    | cons c cs =>
      obtain ⟨c', hc', hrc⟩ := hr.2 0 v rfl
      cases hc'
      obtain ⟨F1, D1, hD1, R1, E1, hF1, hl1, hf1⟩ := retLeaf_sound hOA (hF (n + 1) (Nat.lt_succ_self _)) R h1 hrc
      have hr1 : RL st1 ν w D1 fs cs := by
        have := hr.drop 1
        simp only [List.drop_succ_cons, List.drop_zero] at this
        exact ⟨this.1, fun i l hl => by obtain ⟨v, a, b⟩ := this.2 i l hl; exact ⟨v, a, b.same E1 hD1⟩⟩
      obtain ⟨F2, D2, hD2, R2, E2, hF2, hlen, hl2, hf2⟩ := ih us' cs (n + 1) F1 D1 st1 st2 (fun j hj => by
        rw [hF1 _ (by intro e; injection e with _ e; injection e with _ e; omega)]; exact hF j (by omega)) R1 h2 hr1
      have hk : F2 (5, k, n + 1) = F1 (5, k, n + 1) := hF2 _ fun j hj e => by injection e with _ e; injection e with _ e; omega
      refine ⟨F2, D2, fun b hb => hD2 b (hD1 b hb), R2, E1.trans E2, fun κ' hκ => ?_, by simp [hlen], fun j l hl => ?_, fun j f hj hf => ?_⟩
      · rw [hF2 κ' (fun j hj => hκ j (by omega)), hF1 κ' (hκ _ (Nat.lt_succ_self _))]
      · cases j with
        | zero =>
          simp only [List.getElem?_cons_zero, Option.some.injEq] at hl
          subst hl
          refine ⟨c, rfl, ?_⟩
          rcases hl1 with ⟨s, es, φ, q1, q2, q3⟩ | ⟨q1, q2⟩
          · exact .inl ⟨s, es, φ, q1, hk.trans q2, q3⟩
          · exact .inr ⟨q1, q2.wider hD2⟩
        | succ j =>
          simp only [List.getElem?_cons_succ] at hl ⊢
          obtain ⟨x, q1, q2⟩ := hl2 j l hl
          exact ⟨x, q1, by rw [show n + (j + 1) + 1 = n + 1 + j + 1 from by omega]; exact q2⟩
      · by_cases e : j = n + 1
        · subst e
          rw [hk] at hf
          obtain ⟨q1, q2⟩ := hf1 f hf
          refine ⟨q1, fun h => ?_⟩
          simp only [hasListL, Bool.or_eq_false_iff] at h
          rw [q2]; exact h.1
        · obtain ⟨q1, q2⟩ := hf2 j f (by omega) hf
          refine ⟨q1, fun h => ?_⟩
          simp only [hasListL, Bool.or_eq_false_iff] at h
          exact q2 h.2

theorem ret1_sound (hOA : ∀ b, O0 b → A b) {k : Nat} (hF : ∀ j, F (5, k, j) = none) (R : Rel Γ w0 A O0 ν0 N F D st ν tm w) {v a : AV} {st' : St} {x : Value} (h : (ret1 v).go C st = some (a, st')) (hv : RS st ν w D v x) :
    ∃ F' D', (∀ b, D b → D' b) ∧ Rel Γ w0 A O0 ν0 N F' D' st' ν tm w ∧ Ext st ν w st' ν w ∧ (∀ κ', (∀ j, κ' ≠ (5, k, j)) → F' κ' = F κ') ∧ OneRes F' D' w k a x ∧
      (∀ j f, F' (5, k, j) = some f → noRefL f.es = true ∧ (hasList a = false → hasListL f.es = false)) := by
  unfold ret1 at h
  split at h
  · rename_i fs
    obtain ⟨cs, rfl, hr⟩ := hv.agg_list
    simp only [RW.go_bind, RW.go_pure, Option.bind_eq_some_iff] at h
    obtain ⟨⟨us, st1⟩, h1, h2⟩ := h
    cases h2
    obtain ⟨F', D', hD, R', E, hF', hlen, hl, hf⟩ := retLeaves_sound hOA (k := k) fs us cs.toList 0 F D st st1 (fun j _ => hF j) R h1 hr
    have hsz := hr.1
    refine ⟨F', D', hD, R', E, fun κ' hκ => hF' κ' fun j _ => hκ j, .inl ⟨us, cs, rfl, rfl, by rw [hlen]; simpa using hsz, fun j l hjl => ?_⟩, fun j f hjf => ?_⟩
    · obtain ⟨x, q1, q2⟩ := hl j l hjl
      have q1 : cs[j]? = some x := by simpa using q1
      rw [Array.getD_eq_getD_getElem?, q1]
      rw [Nat.zero_add] at q2
      exact q2
    · cases j with
      | zero =>
        rw [hF' _ (fun j hj e => by injection e with _ e; injection e with _ e; omega), hF] at hjf
        cases hjf
      | succ j =>
        obtain ⟨q1, q2⟩ := hf (j + 1) f (Nat.succ_pos _) hjf
        exact ⟨q1, fun h => q2 (by simpa [hasList] using h)⟩
  · rename_i id g i j
    simp only [RW.go_bind, RW.go_up, RW.go_wr, RW.go_pure, ev_need, Option.bind_eq_some_iff, Option.map_eq_some_iff] at h
    obtain ⟨_, ⟨⟨m, s, es⟩, h1, rfl⟩, _, ⟨_, h2, rfl⟩, _, h3, h4⟩ := h
    rw [ev_rdNode] at h1
    obtain ⟨rfl, hi, rfl⟩ := need_ev h2
    cases h3
    cases h4
    obtain ⟨_, _, _, hp⟩ := hv.ptr_inv
    obtain ⟨b, o, hbo, rfl⟩ := hp _ _ _ h1
    have ho := node_none h1
    have R' := R.detachBox ho (hF 0)
    have E : Ext st ν w (st.upd (.h id) (.dead g)) ν w := R.extUpd (by rw [ho]; exact Nat.le_refl _) (by intro _ _ _ _ e; cases e) (fun _ _ => rfl) (fun _ _ => rfl)
    have hle : es.length ≤ 1 := by
      have ht := (R.objs _ _ _ _ _ ho).top
      rw [hbo] at ht
      obtain ⟨c, ety, k1, k2, k3, k5, k4⟩ := ht
      exact k5 (.inl rfl)
    refine ⟨_, D, fun _ h => h, R', E, fun κ' h => Fl.set_ne _ _ (h 0), .inr (.inl ⟨es, j, ν id, b, o, rfl, Fl.set_eq _ _ _, hi, hle, hbo, by simp⟩), fun j' f hf => ?_⟩
    by_cases e : j' = 0
    · subst e
      rw [Fl.set_eq] at hf
      cases hf
      refine ⟨?_, fun h => by simpa [hasList] using h⟩
      have := frzL_of_imm hi
      unfold noRefL
      rw [List.all_eq_true]
      intro e he
      have hie : immEl e = true := List.all_eq_true.1 hi e he
      cases e <;> simp_all [immEl, noRefEl]
    · rw [Fl.set_ne _ _ (by intro e'; injection e' with _ e'; injection e' with _ e'; exact e e'), hF] at hf
      cases hf
  · obtain ⟨F', D', hD, R', E, hF', hl, hf⟩ := retLeaf_sound hOA (hF 0) R h hv
    refine ⟨F', D', hD, R', E, fun κ' hκ => hF' κ' (hκ 0), .inr (.inr hl), fun j f hjf => ?_⟩
    by_cases e : j = 0
    · subst e
      obtain ⟨q1, q2⟩ := hf f hjf
      exact ⟨q1, fun h => by rw [q2]; exact h⟩
    · rw [hF' _ (by intro e'; injection e' with _ e'; injection e' with _ e'; exact e e'), hF] at hjf
      cases hjf
end
end Go.Mv
end

section
namespace Go.Mv
open Go

section
variable {P : Program} {C : Caller} {Γ : Env} {w0 : World} {A O0 : Nat → Prop} {ν0 : Nu} {N : Nat} {F : Fl} {D : Nat → Prop} {st : St} {ν : Nu} {tm : Array Value} {w : World}

/-- one result as the machine reads it -/
def resSem (tmps : Array Value) : ResultVar → Sem Value
  | .tmp t => pure (tmps.getD t undef)
  | .cell a t => do loadVar t (← asAddr (tmps.getD a undef))

theorem results_eq (fn : Func) (tmps : Array Value) : results fn tmps = (do
    let vs ← fn.results.toList.mapM (resSem tmps)
    pure (if h : vs.toArray.size = 1 then vs.toArray[0] else .tuple vs.toArray)) := by
  have : fn.results.mapM (resSem tmps) = Functor.map List.toArray (fn.results.toList.mapM (resSem tmps)) := by
    rw [Array.mapM_eq_mapM_toList]
  have h2 : results fn tmps = (do
      let vs ← fn.results.mapM (resSem tmps)
      pure (if h : vs.size = 1 then vs[0] else .tuple vs)) := by
    unfold results
    congr 1
  rw [h2, this]
  simp only [map_eq_pure_bind, bind_assoc, pure_bind]

theorem retVar_sound (hOA : ∀ b, O0 b → A b) {k : Nat} (hF : ∀ j, F (5, k, j) = none) (R : Rel Γ w0 A O0 ν0 N F D st ν tm w) {r : ResultVar} {a : AV} {st' : St} (h : (retVar P r).go C st = some (a, st')) :
    ∃ x F' D', (resSem tm r).run P w = .ok x w ∧ (∀ b, D b → D' b) ∧ Rel Γ w0 A O0 ν0 N F' D' st' ν tm w ∧ (∀ κ', (∀ j, κ' ≠ (5, k, j)) → F' κ' = F κ') ∧ OneRes F' D' w k a x ∧
      (∀ j f, F' (5, k, j) = some f → noRefL f.es = true ∧ (hasList a = false → hasListL f.es = false)) := by
  have slot : ∀ t, RS st ν w D (st (.t t)) (tm.getD t Go.undef) := by
    intro t
    rcases Nat.lt_or_ge t N with h | h
    · exact R.slots t h
    · rw [R.high t h]; exact .undef _
  cases r with
  | tmp t =>
    simp only [retVar, RW.go_bind, RW.go_up, ev_rd, Option.map_some, Option.bind_some] at h
    obtain ⟨F', D', hD, R', E, hF', h1, h2⟩ := ret1_sound hOA hF R h (slot t)
    exact ⟨_, F', D', rfl, hD, R', hF', h1, h2⟩
  | cell c T =>
    simp only [retVar, RW.go_bind, RW.go_up, ev_rd, Option.map_some, Option.bind_some] at h
    split at h
    · rename_i id g q i j hp
      simp only [RW.go_bind, RW.go_up, Option.bind_eq_some_iff, Option.map_eq_some_iff] at h
      obtain ⟨_, ⟨v, h1, rfl⟩, h⟩ := h
      have hs := slot c
      rw [hp] at hs
      obtain ⟨x, k1, k2⟩ := load_sound (P := P) R h1 hs
      obtain ⟨F', D', hD, R', E, hF', h3, h4⟩ := ret1_sound hOA hF R h k2
      refine ⟨x, F', D', ?_, hD, R', hF', h3, h4⟩
      obtain ⟨⟨b, o, hv⟩, _⟩ := hs.ptr_inv
      rw [hv] at k1
      simp only [Instr.loadAt, Instr.sureAddr, Sem.run_bind, Sem.run_pure, Result.andThen_ok] at k1
      simp only [resSem, hv, asAddr, Sem.run_bind, Sem.run_pure, Result.andThen_ok, k1]
    · simp at h

theorem retAll_sound (hOA : ∀ b, O0 b → A b) : ∀ (rs : List ResultVar) (us : List AV) (k : Nat) (F : Fl) (D : Nat → Prop) (st st' : St), (∀ i j, k ≤ i → F (5, i, j) = none) → Rel Γ w0 A O0 ν0 N F D st ν tm w →
    (retAll P rs).go C st = some (us, st') →
    ∃ xs F' D', (rs.mapM (resSem tm)).run P w = .ok xs w ∧ xs.length = us.length ∧ us.length = rs.length ∧ (∀ b, D b → D' b) ∧ Rel Γ w0 A O0 ν0 N F' D' st' ν tm w ∧ (∀ κ', (∀ i j, k ≤ i → κ' ≠ (5, i, j)) → F' κ' = F κ') ∧
      (∀ (j : Nat) (a : AV), us[j]? = some a → ∃ x : Value, xs[j]? = some x ∧ OneRes F' D' w (k + j) a x) ∧
      (∀ i j f, k ≤ i → F' (5, i, j) = some f → noRefL f.es = true ∧ (hasListL us = false → hasListL f.es = false)) := by
  intro rs
  induction rs with
  | nil =>
    intro us k F D st st' hF R h
    simp only [retAll, RW.go_pure, Option.some.injEq, Prod.mk.injEq] at h
    obtain ⟨rfl, rfl⟩ := h
    exact ⟨[], F, D, rfl, rfl, rfl, fun _ h => h, R, fun _ _ => rfl, fun j a ha => (by simp at ha), fun i j f hi hf => by rw [hF i j hi] at hf; cases hf⟩
  | cons r rs ih =>
    intro us k F D st st' hF R h
    simp only [retAll, RW.go_bind, RW.go_pure, Option.bind_eq_some_iff] at h
    obtain ⟨⟨u, st1⟩, h1, ⟨us', st2⟩, h2, h3⟩ := h
    cases h3
    obtain ⟨x, F1, D1, hx, hD1, R1, hF1, ho1, hf1⟩ := retVar_sound hOA (k := k) (fun j => hF k j (Nat.le_refl _)) R h1
    obtain ⟨xs, F2, D2, hxs, hl1, hl2, hD2, R2, hF2, ho2, hf2⟩ := ih us' (k + 1) F1 D1 st1 st2 (fun i j hi => by
      rw [hF1 _ (fun j' e => by injection e with _ e; injection e with e _; omega)]; exact hF i j (by omega)) R1 h2
    have hk : ∀ j, F2 (5, k, j) = F1 (5, k, j) := fun j => hF2 _ fun i' j' hi e => by injection e with _ e; injection e with e _; omega
    refine ⟨x :: xs, F2, D2, ?_, by simp [hl1], by simp [hl2], fun b hb => hD2 b (hD1 b hb), R2, fun κ' hκ => ?_, fun j a ha => ?_, fun i j f hi hf => ?_⟩
    · simp only [List.mapM_cons, Sem.run_bind, hx, Result.andThen_ok, hxs, Sem.run_pure]
    · rw [hF2 κ' (fun i j hi => hκ i j (by omega)), hF1 κ' (fun j => hκ k j (Nat.le_refl _))]
    · cases j with
      | zero =>
        simp only [List.getElem?_cons_zero, Option.some.injEq] at ha
        subst ha
        exact ⟨x, rfl, (ho1.keep hk).conv (.inr hD2)⟩
      | succ j =>
        simp only [List.getElem?_cons_succ] at ha ⊢
        obtain ⟨y, q1, q2⟩ := ho2 j a ha
        exact ⟨y, q1, by rw [show k + (j + 1) = k + 1 + j from by omega]; exact q2⟩
    · by_cases e : i = k
      · subst e
        rw [hk] at hf
        obtain ⟨q1, q2⟩ := hf1 j f hf
        refine ⟨q1, fun h => q2 ?_⟩
        simp only [hasListL, Bool.or_eq_false_iff] at h
        exact h.1
      · obtain ⟨q1, q2⟩ := hf2 i j f (by omega) hf
        refine ⟨q1, fun h => q2 ?_⟩
        simp only [hasListL, Bool.or_eq_false_iff] at h
        exact h.2
end
end Go.Mv
end

section
namespace Go.Mv
open Go

section
variable {P : Program} {C : Caller} {Γ : Env} {w0 : World} {A O0 : Nat → Prop} {ν0 : Nu} {N : Nat} {F : Fl} {D : Nat → Prop} {st : St} {ν : Nu} {tm : Array Value} {w : World}

theorem refsOkL_of {keep : List Nat} : ∀ (fs : List AV), (∀ l ∈ fs, refsOk keep l = true) → refsOkL keep fs = true := by
  intro fs
  induction fs with
  | nil => intro _; rfl
  | cons a r ih =>
    intro h
    simp only [refsOkL, Bool.and_eq_true]
    exact ⟨h a (List.mem_cons_self ..), ih fun l hl => h l (List.mem_cons_of_mem _ hl)⟩

theorem RV.refsOk {keep : List Nat} {a : AV} {v : Value} (h : RV w D a v) : refsOk keep a = true := by
  induction h with
  | agg fs cs hs hl ih =>
    simp only [Mv.refsOk]
    refine refsOkL_of fs fun l hl => ?_
    obtain ⟨i, hi⟩ := List.mem_iff_getElem?.1 hl
    exact ih i l hi
  | tup fs cs hs hl ih =>
    simp only [Mv.refsOk]
    refine refsOkL_of fs fun l hl => ?_
    obtain ⟨i, hi⟩ := List.mem_iff_getElem?.1 hl
    exact ih i l hi
  | clo f caps vs hs hl ih =>
    simp only [Mv.refsOk]
    refine refsOkL_of caps fun l hl => ?_
    obtain ⟨i, hi⟩ := List.mem_iff_getElem?.1 hl
    exact ih i l hi
  | _ => rfl

theorem immLeaf_refs {keep : List Nat} {l : AV} (h : immLeaf l = true) : refsOk keep l = true := by
  cases l with
  | clo f caps => cases caps with
    | nil => rfl
    | cons => simp [immLeaf] at h
  | _ => first | rfl | simp [immLeaf] at h

theorem immL_refs {keep : List Nat} {es : List AV} (h : immL es = true) : refsOkL keep es = true := by
  refine refsOkL_of es fun e he => ?_
  have := List.all_eq_true.1 h e he
  cases e with
  | agg fs =>
    simp only [refsOk]
    refine refsOkL_of fs fun l hl => immLeaf_refs ?_
    exact List.all_eq_true.1 (by simpa [immEl] using this) l hl
  | _ => exact immLeaf_refs this

theorem init_kinv {md : Nat → Nat} {as : List AV} {keep : List Nat} (hk : ∀ i, i < as.length → keep.contains i = true) (hlen : as.length ≤ 1000) (ha : ∀ a ∈ as, ArgOk w D a) : KInv keep (initLoc md as) := by
  refine ⟨fun l hl => ?_, fun l => ?_⟩
  · cases l with
    | t i =>
      have : as[i]? = none := by
        rcases Nat.lt_or_ge i as.length with h | h
        · have := hk i h
          simp only [keepLoc] at hl
          rw [this] at hl
          cases hl
        · exact List.getElem?_eq_none h
      simp only [initLoc, this]
    | h i =>
      have : as[i % 100000]? = none := by
        rcases Nat.lt_or_ge (i % 100000) as.length with h | h
        · have := hk _ h
          simp only [keepLoc] at hl
          rw [this] at hl
          cases hl
        · exact List.getElem?_eq_none h
      simp only [initLoc]
      split
      · rename_i hi
        rw [Nat.mod_eq_of_lt hi] at this
        simp only [this]
      · simp only [this]
  · cases l with
    | t i =>
      cases hi : as[i]? with
      | none => simp only [initLoc, hi]; rfl
      | some a =>
        have hlt : i < as.length := (List.getElem?_eq_some_iff.1 hi).1
        have hok := ha a (List.mem_of_getElem? hi)
        have hki : keep.contains (i % 100000) = true := by rw [Nat.mod_eq_of_lt (by omega)]; exact hk i hlt
        simp only [initLoc, hi]
        cases a with
        | own s es => simpa [refOkV, refsOk] using hki
        | ownp es a b => simpa [refOkV, refsOk] using hki
        | clo f caps =>
          simp only [refOkV, refsOk]
          refine refsOkL_of _ fun l hl => ?_
          obtain ⟨k, hkk⟩ := List.mem_iff_getElem?.1 hl
          rw [initCaps_nth] at hkk
          cases hc : caps[k]? with
          | none => simp [hc] at hkk
          | some c =>
            simp only [hc, Option.map_some, Option.some.injEq] at hkk
            subst hkk
            rcases hok c (List.mem_of_getElem? hc) with ⟨es, x, y, rfl, _⟩ | ⟨v, hv⟩
            · simp only [refsOk, fid]
              rw [show (100000 * (0 + k + 1) + i) % 100000 = i from by omega]
              exact hk i hlt
            · have := hv.refsOk (keep := keep)
              cases c <;> first | exact this | cases hv
        | _ => first
          | rfl
          | (obtain ⟨v, hv⟩ := hok; exact hv.refsOk)
          | (obtain ⟨v, hv⟩ := hok; cases hv)
    | h i =>
      cases ho : initLoc md as (.h i) with
      | obj g m s es =>
        simp only [initLoc] at ho
        simp only [refOkV]
        split at ho
        · split at ho
          · rename_i hi
            cases ho
            have hok : noRefL es = true := ha _ (List.mem_of_getElem? hi)
            by_cases hmd : md i = 2 <;> simp [hmd, hok]
          · rename_i hi
            cases ho
            have hok : immL es = true := ha _ (List.mem_of_getElem? hi)
            simp only [Nat.reduceEqDiff, or_true, if_true]
            exact immL_refs hok
          · cases ho
        · split at ho
          · rename_i hi
            split at ho
            · split at ho
              · rename_i hc
                cases ho
                have hok := ha _ (List.mem_of_getElem? hi)
                rcases hok _ (List.mem_of_getElem? hc) with ⟨es', x, y, he, hi'⟩ | ⟨v, hv⟩
                · cases he
                  simp only [Nat.reduceEqDiff, or_true, if_true]
                  exact immL_refs hi'
                · cases hv
              · cases ho
            · cases ho
          · cases ho
      | _ =>
        simp only [initLoc] at ho
        split at ho
        · split at ho
          · cases ho
          · cases ho
          · first | (cases ho; rfl) | cases ho
        · split at ho
          · split at ho
            · split at ho
              · cases ho
              · first | (cases ho; rfl) | cases ho
            · first | (cases ho; rfl) | cases ho
          · first | (cases ho; rfl) | cases ho

/-- more slots -/
theorem Rel.slotsUp (R : Rel Γ w0 A O0 ν0 N F D st ν tm w) {N' : Nat} (hN : N ≤ N') : Rel Γ w0 A O0 ν0 N' F D st ν (tm ++ Array.replicate (N' - tm.size) Go.undef) w := by
  have hsz := R.size
  refine ⟨by simp; omega, fun i hi => ?_, fun i hi => R.high i (by omega), R.objs, R.frozen, R.flos, R.inj, R.dT, R.dA, R.dlt, R.tO, R.le, R.os, R.tape, R.output, R.dr, R.fr, R.cs, R.io, R.gO, R.gi⟩
  rcases Nat.lt_or_ge i N with h | h
  · have : (tm ++ Array.replicate (N' - tm.size) Go.undef).getD i Go.undef = tm.getD i Go.undef := by
      rw [Array.getD_eq_getD_getElem?, Array.getD_eq_getD_getElem?, Array.getElem?_append_left (by omega)]
    rw [this]
    exact R.slots i h
  · rw [R.high i h]
    exact .undef _

def noSlots (st : St) : St := fun l => match l with
  | .t _ => .undef
  | .h i => st (.h i)

theorem Rel.noSlots (R : Rel Γ w0 A O0 ν0 N F D st ν tm w) : Rel Γ w0 A O0 ν0 0 F D (noSlots st) ν #[] w := by
  have E : Ext st ν w (Mv.noSlots st) ν w := Ext.of_same (fun _ => rfl) fun _ => rfl
  have hL : ∀ a v, RS st ν w D a v → RS (Mv.noSlots st) ν w D a v := fun a v h => h.mono E (fun b hb _ => ⟨rfl, hb⟩) (Nat.le_refl _)
  have hlv := live_congr (st := st) (st' := Mv.noSlots st) (F := F) (fun _ => rfl)
  refine ⟨rfl, fun i hi => by omega, fun i hi => rfl, ?_, fun id g s es h => R.frozen id g s es h, ?_, ?_, ?_, R.dA, R.dlt, ?_, R.le, R.os, R.tape, R.output, R.dr, R.fr, R.cs, fun id g m s es h => R.io id g m s es h, R.gO, R.gi⟩
  · intro id g m s es h
    exact (R.objs id g m s es h).mono rfl (fun _ _ _ _ _ => rfl) (fun _ _ _ => rfl) (fun _ _ _ _ _ _ _ _ => rfl) hL
  · intro k f h
    exact (R.flos k f h).mono rfl (fun _ _ _ _ _ => rfl) (fun _ _ _ => rfl) (fun _ _ _ _ _ _ _ _ => rfl) hL
  · intro k1 k2 b o1 o2 l1 l2
    exact R.inj k1 k2 b o1 o2 ((hlv _).1 l1) ((hlv _).1 l2)
  · rintro b hb ⟨k, o, hl, hbo⟩
    exact R.dT b hb ⟨k, o, (hlv _).1 hl, hbo⟩
  · rintro b ⟨k, o, hl, hbo⟩
    exact R.tO b ⟨k, o, (hlv _).1 hl, hbo⟩

theorem outsOf_congr {st st' : St} (h : ∀ i, st' (.h i) = st (.h i)) : ∀ (l : List Cid), outsOf st' l = outsOf st l := by
  intro l
  induction l with
  | nil => rfl
  | cons c l ih =>
    obtain ⟨cid, m, s⟩ := c
    simp only [outsOf, h, ih]

theorem keepOf_args {fn : Func} {c : Code} (hb : fn.body = some c) {i : Nat} (hi : i < fn.params.size + fn.nfree) : (keepOf fn).contains i = true := by
  simp only [keepOf, hb]
  rw [List.contains_iff_mem, List.mem_eraseDups]
  exact List.mem_append_left _ (List.mem_append_left _ (List.mem_append_left _ (List.mem_range.2 hi)))

/-- the functions that are not followed but taken at their word -/
def SoundX (Γ : Env) (cx : Cx) : Prop := ∀ f F as res outs, cx.ext f = some F → F as = some (res, outs) → Contract Γ cx.P (cx.md f) f as res outs ∧ Enters cx.P f

theorem acall_sound (cx : Cx) (hX : SoundX Γ cx) (hI : SoundI Γ cx) (hm : cx.P.follows .mixedOrders = true) : ∀ n, SoundC Γ cx (acall cx n) := by
  intro n
  induction n with
  | zero => intro f as res outs h; simp [acall] at h
  | succ n ih =>
    intro f as res outs h
    simp only [acall] at h
    split at h
    · rename_i F hF
      exact hX f F as res outs hF h
    · split at h
      · cases h
      · rename_i fn hf
        split at h
        · cases h
        · rename_i c hb
          split at h
          · rename_i hc
            obtain ⟨hd, hlen, hle, hle2, hnm⟩ := hc
            refine ⟨?_, fn, hf, hnm, by rw [hb]; rfl⟩
            intro w A O0 ν0 D vals hOA R hargs
            refine (callsIn_wide (n := 2)).1 (callsIn_of_wp_marks hf hb trivial ?_)
            have hsz := R.size
            have R0 := R.slotsUp (N' := fn.ntmps) hle
            have hK : KInv (keepOf fn) (initLoc (cx.md f) as) := init_kinv (fun i hi => keepOf_args hb (by omega)) hle2 hargs
            cases hx : aexec (acall cx n) cx (keepOf fn) n c (initLoc (cx.md f) as) with
            | none => simp [hx] at h
            | some r =>
              obtain ⟨r, st⟩ := r
              have hfin : ∀ st, (match Rd.run (α := List AV × Ws) (acall cx n) st (retAll cx.P fn.results.toList) with
                  | some ((vs, ws), _) => match outsOf (st.upds ws) (cidAll (cx.md f) 0 as) with
                    | some outs => some (wrapRes vs, outs)
                    | none => none
                  | none => none) = some (res, outs) → ∀ D1 ν1 tm w', Rel Γ w A O0 ν0 fn.ntmps Fl.emp D1 st ν1 tm w' → ∃ v, (results fn tm).run cx.P w' = .ok v w' ∧
                    ∃ v', Ending.returned v = .returned v' ∧ ∃ F' D' st' ν', Rel Γ w A O0 ν0 0 F' D' st' ν' #[] w' ∧ outsOf st' (cidAll (cx.md f) 0 as) = some outs ∧ AllRes F' D' w' res v' ∧ FloOk F' res := by
                intro st h D1 ν1 tm w' R1
                cases hr : Rd.run (α := List AV × Ws) (acall cx n) st (retAll cx.P fn.results.toList) with
                | none => simp [hr] at h
                | some z =>
                  obtain ⟨⟨us, ws⟩, ls⟩ := z
                  simp only [hr] at h
                  cases ho : outsOf (st.upds ws) (cidAll (cx.md f) 0 as) with
                  | none => simp [ho] at h
                  | some os =>
                    simp only [ho, Option.some.injEq, Prod.mk.injEq] at h
                    obtain ⟨rfl, rfl⟩ := h
                    have hgo : (retAll cx.P fn.results.toList).go (acall cx n) st = some (us, st.upds ws) := RW.go_of_ev (Rd.ev_of_run hr)
                    obtain ⟨xs, F', D', k1, k2, k3, k4, k5, k6, k7, k8⟩ := retAll_sound (P := cx.P) hOA fn.results.toList us 0 Fl.emp D1 st _ (fun _ _ _ => rfl) R1 hgo
                    have hflo : FloOk F' (wrapRes us) := by
                      intro κ f hf
                      by_cases hex : ∃ i j, κ = (5, i, j)
                      · obtain ⟨i, j, rfl⟩ := hex
                        obtain ⟨q1, q2⟩ := k8 i j f (Nat.zero_le _) hf
                        refine ⟨q1, fun h => q2 ?_⟩
                        match us, h with
                        | [v], h => simpa [wrapRes, hasListL] using h
                        | [], _ => rfl
                        | v :: v2 :: r, h => simpa [wrapRes, hasList] using h
                      · rw [k6 κ fun i j _ e => hex ⟨i, j, e⟩] at hf
                        cases hf
                    refine ⟨if h : xs.toArray.size = 1 then xs.toArray[0] else .tuple xs.toArray, ?_, _, rfl, F', D', noSlots (st.upds ws), ν1, k5.noSlots, (outsOf_congr (st := st.upds ws) (st' := Mv.noSlots (st.upds ws)) (fun _ => rfl) _).trans ho, ?_, hflo⟩
                    · rw [results_eq]
                      simp only [Sem.run_bind, k1, Result.andThen_ok, Sem.run_pure]
                    · by_cases h1 : xs.length = 1
                      · match xs, us, k2, h1, k7 with
                        | [x], [u], _, _, k7 =>
                          obtain ⟨y, q1, q2⟩ := k7 0 u rfl
                          simp only [List.getElem?_cons_zero, Option.some.injEq] at q1
                          subst q1
                          exact .inr q2
                      · have hw : wrapRes us = .tup us := by
                          match us, k2 with
                          | [], _ => rfl
                          | [u], k2 => exact (h1 (by simpa using k2)).elim
                          | _ :: _ :: _, _ => rfl
                        rw [hw]
                        simp only [List.size_toArray, h1, dif_neg, not_false_eq_true]
                        refine .inl ⟨us, xs.toArray, rfl, rfl, by simpa using k2, fun j a ha => ?_⟩
                        obtain ⟨y, q1, q2⟩ := k7 j a ha
                        rw [Array.getD_eq_getD_getElem?]
                        simp only [List.getElem?_toArray, q1, Option.getD_some]
                        rw [Nat.zero_add] at q2
                        exact q2
              have hR0 : Rg Γ (fun _ => True, #[]) w A O0 ν0 fn.ntmps (initLoc (cx.md f) as) { tmps := vals ++ Array.replicate (fn.ntmps - vals.size) undef, defers := [] } w := ⟨DefOk.nil _ _, fun i hi => (hi trivial).elim, D, ν0, R0⟩
              refine (aexec_sound cx ih hI hm n none 2 (fun _ => True, #[]) w A O0 ν0 (fun _ => Nat.le_refl 2) hOA).1 c _ st r _ w _ hx hd (dstsIn_true c) (.inl rfl) hK hR0 fun a1 w1 hK1 hR1 => ?_
              obtain ⟨tm1, ds1⟩ := a1
              obtain ⟨⟨ks, hks1, hks2, hks3⟩, _, D1, ν1, R1⟩ := hR1
              simp only at hks1 R1
              subst hks1
              cases r with
              | normal => simp only [hx] at h; exact leaves_marks (fun D ν w R => hfin st h D ν tm1 w R) ks D1 ν1 w1 hks2 hks3 R1
              | ret => simp only [hx] at h; exact leaves_marks (fun D ν w R => hfin st h D ν tm1 w R) ks D1 ν1 w1 hks2 hks3 R1
              | exit i => simp [hx] at h
          · cases h
end
end Go.Mv
end

section
namespace Go.Mv
open Go

/-- one caller answers all that another answers -/
def CLe (C C' : Caller) : Prop := ∀ f as r, C f as = some r → C' f as = some r

theorem run_mono {C C' : Caller} (h : CLe C C') {α : Type} {st : St} : ∀ (x : Rd α) {r : α × List Mv.Loc}, x.run C st = some r → x.run C' st = some r := by
  intro x
  induction x with
  | ret a => exact fun h => h
  | fail => exact fun h => h
  | read l k ih =>
    intro r hr
    simp only [Rd.run] at hr ⊢
    cases hk : (k (st l)).run C st with
    | none => simp [hk] at hr
    | some z => rw [ih _ hk]; simpa [hk] using hr
  | need p d k ih =>
    intro r hr
    cases d with
    | isTrue _ => exact ih hr
    | isFalse _ => exact hr
  | call f as k ih =>
    intro r hr
    simp only [Rd.run] at hr ⊢
    cases hc : C f as with
    | none => simp [hc] at hr
    | some z =>
      rw [h f as z hc]
      simp only [hc] at hr
      exact ih _ _ hr

theorem runOps_mono {C C' : Caller} (h : CLe C C') {cx : Cx} {ops : Array Oper} : ∀ (l : List Oper) (st : St) {r : Ws × List Log}, runOps C cx ops l st = some r → runOps C' cx ops l st = some r := by
  intro l
  induction l with
  | nil => exact fun st r h => h
  | cons o l ih =>
    intro st r hr
    simp only [runOps] at hr ⊢
    cases ho : Rd.run (α := Unit × Ws) C st (aoper cx ops o) with
    | none => simp [ho] at hr
    | some z =>
      obtain ⟨⟨u, ws⟩, rs⟩ := z
      rw [run_mono h _ ho]
      simp only [ho] at hr ⊢
      cases h2 : runOps C cx ops l (st.upds ws) with
      | none => simp [h2] at hr
      | some z2 => rw [ih _ h2]; simpa [h2] using hr

theorem aregion_mono {C C' : Caller} (h : CLe C C') {cx : Cx} {keep : List Nat} {ops : Array Oper} {draw : Bool} {st st' : St} (hr : aregion C cx keep ops draw st = some st') : aregion C' cx keep ops draw st = some st' := by
  unfold aregion at hr ⊢
  cases ho : runOps C cx ops ops.toList st with
  | none => simp [ho] at hr
  | some z => rw [runOps_mono h _ _ ho]; simpa [ho] using hr

theorem arounds_mono {run run' : St → Option (AExit × St)} (h : ∀ s r, run s = some r → run' s = some r) {start : List Value → St → St} {msk : St → St} : ∀ (xs : List (List Value)) (st : St) {s : St}, arounds run start msk xs st = some s → arounds run' start msk xs st = some s
  | [], st, s, hs => hs
  | v :: xs, st, s, hs => by
    simp only [arounds] at hs ⊢
    cases hr : run (start v st) with
    | none => simp [hr] at hs
    | some z =>
      obtain ⟨e, s1⟩ := z
      rw [h _ _ hr]
      cases e with
      | normal => simp only [hr] at hs ⊢; exact arounds_mono h xs s1 hs
      | exit i => simp [hr] at hs
      | ret => simp [hr] at hs
theorem arange_mono {run run' : St → Option (AExit × St)} (h : ∀ s r, run s = some r → run' s = some r) {start : List Value → St → St} {msk : St → St} {xs : List (List Value)} {st : St} {r : AExit × St} (hr : arange run start msk xs st = some r) : arange run' start msk xs st = some r := by
  unfold arange at hr ⊢
  split at hr
  · rename_i hc
    rw [if_pos fun ys h1 h2 => by
      obtain ⟨s, hs⟩ := Option.isSome_iff_exists.1 (hc ys h1 h2)
      rw [arounds_mono h ys st hs]; rfl]
    simp only [Option.map_eq_some_iff] at hr ⊢
    obtain ⟨s, hs, e⟩ := hr
    exact ⟨s, arounds_mono h xs st hs, e⟩
  · cases hr
theorem arounds_compact {runW : St → Option (AExit × St)} {run : Nat → St → Option (AExit × St)} (hm : ∀ m k, m ≤ k → ∀ s r, run m s = some r → run k s = some r) (hc : ∀ s r, runW s = some r → ∃ m, run m s = some r) {start : List Value → St → St} {msk : St → St} :
    ∀ (xs : List (List Value)) (st : St) {s : St}, arounds runW start msk xs st = some s → ∃ m, arounds (run m) start msk xs st = some s
  | [], st, s, hs => ⟨0, hs⟩
  | v :: xs, st, s, hs => by
    simp only [arounds] at hs
    cases hr : runW (start v st) with
    | none => simp [hr] at hs
    | some z =>
      obtain ⟨e, s1⟩ := z
      obtain ⟨m1, h1⟩ := hc _ _ hr
      cases e with
      | normal =>
        simp only [hr] at hs
        obtain ⟨m2, h2⟩ := arounds_compact hm hc xs s1 hs
        refine ⟨max m1 m2, ?_⟩
        simp only [arounds, hm _ _ (Nat.le_max_left m1 m2) _ _ h1]
        exact arounds_mono (hm _ _ (Nat.le_max_right m1 m2)) xs s1 h2
      | exit i => simp [hr] at hs
      | ret => simp [hr] at hs
def listsTo (xs : List (List Value)) : Nat → List (List (List Value))
  | 0 => [[]]
  | n + 1 => [] :: xs.flatMap fun x => (listsTo xs n).map (x :: ·)
theorem mem_listsTo {xs : List (List Value)} : ∀ {n : Nat} {ys : List (List Value)}, (∀ y ∈ ys, y ∈ xs) → ys.length ≤ n → ys ∈ listsTo xs n
  | 0, [], _, _ => by simp [listsTo]
  | 0, _ :: _, _, h => by simp at h
  | n + 1, [], _, _ => by simp [listsTo]
  | n + 1, y :: ys, hy, h => by
    simp only [listsTo, List.mem_cons, List.mem_flatMap, List.mem_map]
    exact .inr ⟨y, hy y (List.mem_cons_self ..), ys, mem_listsTo (fun z hz => hy z (List.mem_cons_of_mem _ hz)) (by simpa using h), rfl⟩
theorem arange_compact {runW : St → Option (AExit × St)} {run : Nat → St → Option (AExit × St)} (hm : ∀ m k, m ≤ k → ∀ s r, run m s = some r → run k s = some r) (hc : ∀ s r, runW s = some r → ∃ m, run m s = some r) {start : List Value → St → St} {msk : St → St}
    {xs : List (List Value)} {st : St} {r : AExit × St} (hr : arange runW start msk xs st = some r) : ∃ m, arange (run m) start msk xs st = some r := by
  unfold arange at hr
  split at hr
  · rename_i hall
    simp only [Option.map_eq_some_iff] at hr
    obtain ⟨s, hs, e⟩ := hr
    have key : ∀ L : List (List (List Value)), (∀ ys ∈ L, (arounds runW start msk ys st).isSome = true) → ∃ m, ∀ ys ∈ L, (arounds (run m) start msk ys st).isSome = true := by
      intro L
      induction L with
      | nil => exact fun _ => ⟨0, fun _ h => by cases h⟩
      | cons y L ih =>
        intro h
        obtain ⟨m1, h1⟩ := ih fun ys hy => h ys (List.mem_cons_of_mem _ hy)
        obtain ⟨s1, hs1⟩ := Option.isSome_iff_exists.1 (h y (List.mem_cons_self ..))
        obtain ⟨m2, h2⟩ := arounds_compact hm hc y st hs1
        refine ⟨max m1 m2, fun ys hy => ?_⟩
        rcases List.mem_cons.1 hy with rfl | hy
        · rw [arounds_mono (hm _ _ (Nat.le_max_right m1 m2)) _ st h2]; rfl
        · obtain ⟨s3, hs3⟩ := Option.isSome_iff_exists.1 (h1 ys hy)
          rw [arounds_mono (hm _ _ (Nat.le_max_left m1 m2)) _ st hs3]; rfl
    obtain ⟨m1, h1⟩ := key ((listsTo xs xs.length).filter fun ys => (arounds runW start msk ys st).isSome) (fun ys hy => (List.mem_filter.1 hy).2)
    obtain ⟨m2, h2⟩ := arounds_compact hm hc xs st hs
    refine ⟨max m1 m2, ?_⟩
    unfold arange
    rw [if_pos fun ys k1 k2 => by
      obtain ⟨s3, hs3⟩ := Option.isSome_iff_exists.1 (h1 ys (List.mem_filter.2 ⟨mem_listsTo k1 k2, hall ys k1 k2⟩))
      rw [arounds_mono (hm _ _ (Nat.le_max_left m1 m2)) ys st hs3]; rfl]
    rw [arounds_mono (hm _ _ (Nat.le_max_right m1 m2)) xs st h2]
    rw [← e]; rfl
  · cases hr

theorem aexec_mono {C C' : Caller} (h : CLe C C') {cx : Cx} {keep : List Nat} : ∀ (n m : Nat) (c : Code) (st : St) {r : AExit × St}, n ≤ m → aexec C cx keep n c st = some r → aexec C' cx keep m c st = some r := by
  intro n
  induction n with
  | zero => intro m c st r _ hr; simp [aexec] at hr
  | succ n ih =>
    intro m c st r hm hr
    obtain ⟨m, rfl⟩ : ∃ k, m = k + 1 := ⟨m - 1, by omega⟩
    have hm : n ≤ m := by omega
    cases c with
    | region id ops draw =>
      simp only [aexec] at hr ⊢
      cases ho : aregion C cx keep ops draw st with
      | none => simp [ho] at hr
      | some z => rw [aregion_mono h ho]; simpa [ho] using hr
    | seq a b =>
      simp only [aexec] at hr ⊢
      cases ha : aexec C cx keep n a st with
      | none => simp [ha] at hr
      | some z =>
        rw [ih m a st hm ha]
        obtain ⟨e, st1⟩ := z
        cases e with
        | normal => simp only [ha] at hr ⊢; exact ih m b st1 hm hr
        | exit i => simpa [ha] using hr
        | ret => simpa [ha] using hr
    | cond x a b =>
      simp only [aexec] at hr ⊢
      split at hr
      · exact ih m a st hm hr
      · exact ih m b st hm hr
      · cases hr
    | block i b =>
      simp only [aexec] at hr ⊢
      cases ha : aexec C cx keep n b st with
      | none => simp [ha] at hr
      | some z => rw [ih m b st hm ha]; simpa [ha] using hr
    | loop b =>
      simp only [aexec] at hr ⊢
      cases ha : aexec C cx keep n b st with
      | none => simp [ha] at hr
      | some z =>
        rw [ih m b st hm ha]
        obtain ⟨e, st1⟩ := z
        cases e with
        | normal => simp only [ha] at hr ⊢; exact ih m (.loop b) st1 hm hr
        | exit i => simpa [ha] using hr
        | ret => simpa [ha] using hr
    | rangeFunc g ps a b =>
      simp only [aexec] at hr ⊢
      split at hr
      · split at hr
        · rename_i xs hxs
          split at hr
          · rename_i hc
            simp only [hxs, if_pos hc]
            exact arange_mono (fun s r hs => ih m b s hm hs) hr
          · cases hr
        · cases hr
      · cases hr
    | _ => first | (simp [aexec] at hr; done) | simpa [aexec] using hr

/-- one step of a call, over what calls mean -/
noncomputable def acallF (C : Caller) (cx : Cx) (n : Nat) : Caller := fun f args =>
  match cx.ext f with
    | some F => F args
    | none => match cx.P.funcs[f]? with
      | none => none
      | some fn => match fn.body with
        | none => none
        | some c =>
          if dstsOk fn.ntmps c = true ∧ args.length = fn.params.size + fn.nfree ∧ args.length ≤ fn.ntmps ∧ args.length ≤ 1000 ∧ (fn.name == "runtime.NumGoroutine") = false then
            match aexec C cx (keepOf fn) n c (initLoc (cx.md f) args) with
            | some (.exit _, _) => none
            | some (_, st) => match Rd.run (α := List AV × Ws) C st (retAll cx.P fn.results.toList) with
              | some ((vs, ws), _) => match outsOf (st.upds ws) (cidAll (cx.md f) 0 args) with
                | some outs => some (wrapRes vs, outs)
                | none => none
              | none => none
            | none => none
          else none

theorem acall_succ (cx : Cx) (n : Nat) : acall cx (n + 1) = acallF (acall cx n) cx n := by
  funext f args
  simp only [acall, acallF]
  rfl

theorem acallF_mono {C C' : Caller} (h : CLe C C') {cx : Cx} {n m : Nat} (hm : n ≤ m) : CLe (acallF C cx n) (acallF C' cx m) := by
  intro f as r hr
  unfold acallF at hr ⊢
  split at hr
  · exact hr
  · split at hr
    · exact hr
    · rename_i fn hf
      split at hr
      · exact hr
      · rename_i c hb
        split at hr
        · rename_i hc
          rw [if_pos hc]
          cases hx : aexec C cx (keepOf fn) n c (initLoc (cx.md f) as) with
          | none => simp [hx] at hr
          | some z =>
            rw [aexec_mono h n m _ _ hm hx]
            obtain ⟨e, st⟩ := z
            have key : ∀ st, (match Rd.run (α := List AV × Ws) C st (retAll cx.P fn.results.toList) with
              | some ((vs, ws), _) => match outsOf (st.upds ws) (cidAll (cx.md f) 0 as) with
                | some outs => some (wrapRes vs, outs)
                | none => none
              | none => none) = some r → (match Rd.run (α := List AV × Ws) C' st (retAll cx.P fn.results.toList) with
              | some ((vs, ws), _) => match outsOf (st.upds ws) (cidAll (cx.md f) 0 as) with
                | some outs => some (wrapRes vs, outs)
                | none => none
              | none => none) = some r := by
              intro st h2
              cases hr2 : Rd.run (α := List AV × Ws) C st (retAll cx.P fn.results.toList) with
              | none => simp [hr2] at h2
              | some z2 => rw [run_mono h _ hr2]; simpa [hr2] using h2
            cases e with
            | exit i => simp [hx] at hr
            | normal => simp only [hx] at hr ⊢; exact key st hr
            | ret => simp only [hx] at hr ⊢; exact key st hr
        · cases hr

theorem acall_le_succ (cx : Cx) : ∀ n, CLe (acall cx n) (acall cx (n + 1)) := by
  intro n
  induction n with
  | zero => intro f as r h; simp [acall] at h
  | succ n ih => rw [acall_succ cx n, acall_succ cx (n + 1)]; exact acallF_mono ih (Nat.le_succ n)

theorem acall_mono (cx : Cx) {n m : Nat} (h : n ≤ m) : CLe (acall cx n) (acall cx m) := by
  induction h with
  | refl => exact fun _ _ _ h => h
  | step _ ih => exact fun f as r hr => acall_le_succ cx _ f as r (ih f as r hr)

open Classical in
/-- what a call answers, with as much fuel as it takes -/
noncomputable def CW (cx : Cx) : Caller := fun f as => if h : ∃ n r, acall cx n f as = some r then some (Classical.choose (Classical.choose_spec h)) else none

theorem CW_iff (cx : Cx) (f : Nat) (as : List AV) (r : AV × List (List AV)) : CW cx f as = some r ↔ ∃ n, acall cx n f as = some r := by
  unfold CW
  constructor
  · intro h
    split at h
    · rename_i hx
      have := Classical.choose_spec (Classical.choose_spec hx)
      simp only [Option.some.injEq] at h
      rw [h] at this
      exact ⟨_, this⟩
    · cases h
  · rintro ⟨n, hn⟩
    have hx : ∃ n r, acall cx n f as = some r := ⟨n, r, hn⟩
    rw [dif_pos hx]
    have := Classical.choose_spec (Classical.choose_spec hx)
    have h1 := acall_mono cx (Nat.le_max_left n (Classical.choose hx)) f as _ hn
    have h2 := acall_mono cx (Nat.le_max_right n (Classical.choose hx)) f as _ this
    rw [h1] at h2
    exact h2.symm

theorem CW_le (cx : Cx) (n : Nat) : CLe (acall cx n) (CW cx) := fun f as r h => (CW_iff cx f as r).2 ⟨n, h⟩

theorem run_compact {cx : Cx} {α : Type} {st : St} : ∀ (x : Rd α) {r : α × List Mv.Loc}, x.run (CW cx) st = some r → ∃ n, x.run (acall cx n) st = some r := by
  intro x
  induction x with
  | ret a => exact fun h => ⟨0, h⟩
  | fail => intro r h; simp [Rd.run] at h
  | read l k ih =>
    intro r hr
    simp only [Rd.run] at hr ⊢
    cases hk : (k (st l)).run (CW cx) st with
    | none => simp [hk] at hr
    | some z =>
      obtain ⟨n, hn⟩ := ih _ hk
      exact ⟨n, by rw [hn]; simpa [hk] using hr⟩
  | need p d k ih =>
    intro r hr
    cases d with
    | isTrue _ => exact ih hr
    | isFalse _ => simp [Rd.run] at hr
  | call f as k ih =>
    intro r hr
    simp only [Rd.run] at hr ⊢
    cases hc : CW cx f as with
    | none => simp [hc] at hr
    | some z =>
      simp only [hc] at hr
      obtain ⟨n, hn⟩ := ih _ _ hr
      obtain ⟨m, hm⟩ := (CW_iff cx f as z).1 hc
      refine ⟨max n m, ?_⟩
      rw [acall_mono cx (Nat.le_max_right n m) f as z hm]
      exact run_mono (acall_mono cx (Nat.le_max_left n m)) _ hn

theorem runOps_compact {cx : Cx} {ops : Array Oper} : ∀ (l : List Oper) (st : St) {r : Ws × List Log}, runOps (CW cx) cx ops l st = some r → ∃ n, runOps (acall cx n) cx ops l st = some r := by
  intro l
  induction l with
  | nil => exact fun st r h => ⟨0, h⟩
  | cons o l ih =>
    intro st r hr
    simp only [runOps] at hr ⊢
    cases ho : Rd.run (α := Unit × Ws) (CW cx) st (aoper cx ops o) with
    | none => simp [ho] at hr
    | some z =>
      obtain ⟨⟨u, ws⟩, rs⟩ := z
      simp only [ho] at hr
      obtain ⟨n, hn⟩ := run_compact _ ho
      cases h2 : runOps (CW cx) cx ops l (st.upds ws) with
      | none => simp [h2] at hr
      | some z2 =>
        obtain ⟨m, hm⟩ := ih _ h2
        refine ⟨max n m, ?_⟩
        rw [run_mono (acall_mono cx (Nat.le_max_left n m)) _ hn]
        simp only
        rw [runOps_mono (acall_mono cx (Nat.le_max_right n m)) _ _ hm]
        simpa [h2] using hr

theorem aregion_compact {cx : Cx} {keep : List Nat} {ops : Array Oper} {draw : Bool} {st st' : St} (hr : aregion (CW cx) cx keep ops draw st = some st') : ∃ n, aregion (acall cx n) cx keep ops draw st = some st' := by
  unfold aregion at hr ⊢
  cases ho : runOps (CW cx) cx ops ops.toList st with
  | none => simp [ho] at hr
  | some z =>
    obtain ⟨n, hn⟩ := runOps_compact _ _ ho
    exact ⟨n, by rw [hn]; simpa [ho] using hr⟩

theorem aexec_compact {cx : Cx} {keep : List Nat} : ∀ (n : Nat) (c : Code) (st : St) {r : AExit × St}, aexec (CW cx) cx keep n c st = some r → ∃ m, aexec (acall cx m) cx keep n c st = some r := by
  intro n
  induction n with
  | zero => intro c st r hr; simp [aexec] at hr
  | succ n ih =>
    intro c st r hr
    cases c with
    | region id ops draw =>
      simp only [aexec] at hr ⊢
      cases ho : aregion (CW cx) cx keep ops draw st with
      | none => simp [ho] at hr
      | some z =>
        obtain ⟨m, hm⟩ := aregion_compact ho
        exact ⟨m, by rw [hm]; simpa [ho] using hr⟩
    | seq a b =>
      simp only [aexec] at hr ⊢
      cases ha : aexec (CW cx) cx keep n a st with
      | none => simp [ha] at hr
      | some z =>
        obtain ⟨m, hm⟩ := ih a st ha
        obtain ⟨e, st1⟩ := z
        cases e with
        | normal =>
          simp only [ha] at hr
          obtain ⟨m2, hm2⟩ := ih b st1 hr
          refine ⟨max m m2, ?_⟩
          rw [aexec_mono (acall_mono cx (Nat.le_max_left m m2)) n n _ _ (Nat.le_refl _) hm]
          exact aexec_mono (acall_mono cx (Nat.le_max_right m m2)) n n _ _ (Nat.le_refl _) hm2
        | exit i => exact ⟨m, by rw [hm]; simpa [ha] using hr⟩
        | ret => exact ⟨m, by rw [hm]; simpa [ha] using hr⟩
    | cond x a b =>
      simp only [aexec] at hr ⊢
      split at hr
      · exact ih a st hr
      · exact ih b st hr
      · cases hr
    | block i b =>
      simp only [aexec] at hr ⊢
      cases ha : aexec (CW cx) cx keep n b st with
      | none => simp [ha] at hr
      | some z =>
        obtain ⟨m, hm⟩ := ih b st ha
        exact ⟨m, by rw [hm]; simpa [ha] using hr⟩
    | loop b =>
      simp only [aexec] at hr ⊢
      cases ha : aexec (CW cx) cx keep n b st with
      | none => simp [ha] at hr
      | some z =>
        obtain ⟨m, hm⟩ := ih b st ha
        obtain ⟨e, st1⟩ := z
        cases e with
        | normal =>
          simp only [ha] at hr
          obtain ⟨m2, hm2⟩ := ih (.loop b) st1 hr
          refine ⟨max m m2, ?_⟩
          rw [aexec_mono (acall_mono cx (Nat.le_max_left m m2)) n n _ _ (Nat.le_refl _) hm]
          exact aexec_mono (acall_mono cx (Nat.le_max_right m m2)) n n _ _ (Nat.le_refl _) hm2
        | exit i => exact ⟨m, by rw [hm]; simpa [ha] using hr⟩
        | ret => exact ⟨m, by rw [hm]; simpa [ha] using hr⟩
    | rangeFunc g ps a b =>
      simp only [aexec] at hr ⊢
      split at hr
      · split at hr
        · rename_i xs hxs
          split at hr
          · rename_i hc
            simp only [hxs, if_pos hc]
            exact arange_compact (runW := fun s => aexec (CW cx) cx keep n b s) (run := fun m s => aexec (acall cx m) cx keep n b s) (fun m k hmk s r hs => aexec_mono (acall_mono cx hmk) n n _ _ (Nat.le_refl _) hs) (fun s r hs => ih b s hs) hr
          · cases hr
        · cases hr
      · cases hr
    | _ => exact ⟨0, by first | (simp [aexec] at hr; done) | simpa [aexec] using hr⟩

/-- what one step over the limit answers, the limit answers -/
theorem CW_intro (cx : Cx) {n f : Nat} {as : List AV} {r : AV × List (List AV)} (h : acallF (CW cx) cx n f as = some r) : CW cx f as = some r := by
  have hm : ∃ m, acallF (acall cx m) cx n f as = some r := by
    unfold acallF at h ⊢
    split at h
    · exact ⟨0, h⟩
    · split at h
      · cases h
      · rename_i fn hf
        split at h
        · cases h
        · rename_i c hb
          split at h
          · rename_i hc
            simp only [if_pos hc]
            cases hx : aexec (CW cx) cx (keepOf fn) n c (initLoc (cx.md f) as) with
            | none => simp [hx] at h
            | some z =>
              obtain ⟨m, hm⟩ := aexec_compact n _ _ hx
              obtain ⟨e, st⟩ := z
              have key : ∀ st, (match Rd.run (α := List AV × Ws) (CW cx) st (retAll cx.P fn.results.toList) with
                | some ((vs, ws), _) => match outsOf (st.upds ws) (cidAll (cx.md f) 0 as) with
                  | some outs => some (wrapRes vs, outs)
                  | none => none
                | none => none) = some r → ∃ m2, ∀ k, m2 ≤ k → (match Rd.run (α := List AV × Ws) (acall cx k) st (retAll cx.P fn.results.toList) with
                | some ((vs, ws), _) => match outsOf (st.upds ws) (cidAll (cx.md f) 0 as) with
                  | some outs => some (wrapRes vs, outs)
                  | none => none
                | none => none) = some r := by
                intro st h2
                cases hr2 : Rd.run (α := List AV × Ws) (CW cx) st (retAll cx.P fn.results.toList) with
                | none => simp [hr2] at h2
                | some z2 =>
                  obtain ⟨m2, hm2⟩ := run_compact _ hr2
                  refine ⟨m2, fun k hk => ?_⟩
                  rw [run_mono (acall_mono cx hk) _ hm2]
                  simpa [hr2] using h2
              cases e with
              | exit i => simp [hx] at h
              | normal =>
                simp only [hx] at h
                obtain ⟨m2, hm2⟩ := key st h
                refine ⟨max m m2, ?_⟩
                rw [aexec_mono (acall_mono cx (Nat.le_max_left m m2)) n n _ _ (Nat.le_refl _) hm]
                exact hm2 _ (Nat.le_max_right m m2)
              | ret =>
                simp only [hx] at h
                obtain ⟨m2, hm2⟩ := key st h
                refine ⟨max m m2, ?_⟩
                rw [aexec_mono (acall_mono cx (Nat.le_max_left m m2)) n n _ _ (Nat.le_refl _) hm]
                exact hm2 _ (Nat.le_max_right m m2)
          · cases h
  obtain ⟨m, hm⟩ := hm
  refine (CW_iff cx f as r).2 ⟨max n m + 1, ?_⟩
  rw [acall_succ]
  exact acallF_mono (acall_mono cx (Nat.le_max_right n m)) (Nat.le_max_left n m) f as r hm

/-- no function is ranged over -/
theorem SoundI.none {Γ : Env} {cx : Cx} (h : cx.it = fun _ => none) : SoundI Γ cx := fun k F caps xs hF => by rw [h] at hF; cases hF

theorem CW_ext (cx : Cx) {f : Nat} {F : List AV → Option (AV × List (List AV))} (hx : cx.ext f = some F) {as : List AV} {r : AV × List (List AV)} (h : F as = some r) : CW cx f as = some r := by
  refine CW_intro cx (n := 0) ?_
  unfold acallF
  simp only [hx]
  exact h

theorem CW_sound {Γ : Env} (cx : Cx) (hX : SoundX Γ cx) (hI : SoundI Γ cx) (hm : cx.P.follows .mixedOrders = true) : SoundC Γ cx (CW cx) := by
  intro f as res outs h
  obtain ⟨n, hn⟩ := (CW_iff cx f as _).1 h
  exact acall_sound cx hX hI hm n f as res outs hn
end Go.Mv
end

section
namespace Go.Mv
open Go

/-- what is known of a state -/
abbrev Asr := List (Mv.Loc × AV)

def look : Asr → Mv.Loc → Option AV
  | [], _ => none
  | (k, a) :: r, l => match Loc.beq l k with
    | true => some a
    | false => look r l

def put : Asr → Mv.Loc → AV → Asr
  | [], l, a => [(l, a)]
  | (k, b) :: r, l, a => match Loc.beq l k with
    | true => (k, a) :: r
    | false => (k, b) :: put r l a

def puts : Asr → Ws → Asr
  | A, [] => A
  | A, (l, a) :: r => puts (put A l a) r

def Sat (st : St) (A : Asr) : Prop := ∀ l a, look A l = some a → st l = a

theorem look_put (A : Asr) (l k : Mv.Loc) (a : AV) : look (put A l a) k = if Loc.beq k l then some a else look A k := by
  induction A with
  | nil => simp only [put, look]; cases Loc.beq k l <;> rfl
  | cons x A ih =>
    obtain ⟨m, b⟩ := x
    simp only [put]
    cases hlm : Loc.beq l m with
    | true =>
      have := (Loc.beq_iff _ _).1 hlm
      subst this
      simp only [look]
      cases Loc.beq k l <;> rfl
    | false =>
      simp only [look, ih]
      cases hkm : Loc.beq k m with
      | true =>
        have := (Loc.beq_iff _ _).1 hkm
        subst this
        have : Loc.beq k l = false := by
          rw [Loc.beq_false] at hlm ⊢
          exact fun e => hlm e.symm
        simp [this]
      | false => rfl

theorem Sat.put {st : St} {A : Asr} (h : Sat st A) (l : Mv.Loc) (a : AV) : Sat (st.upd l a) (put A l a) := by
  intro k b hk
  rw [look_put] at hk
  unfold St.upd
  cases hb : Loc.beq k l with
  | true => simp only [hb, if_true, Option.some.injEq] at hk ⊢; exact hk
  | false => simp only [hb, Bool.false_eq_true, if_false] at hk ⊢; exact h k b hk

theorem Sat.puts : ∀ (ws : Ws) {st : St} {A : Asr}, Sat st A → Sat (st.upds ws) (puts A ws) := by
  intro ws
  induction ws with
  | nil => exact fun h => h
  | cons x ws ih => obtain ⟨l, a⟩ := x; exact fun h => ih (h.put l a)

/-- what must stand for a computation to answer what is wanted -/
def wpA {α : Type} (C : Caller) (A : Asr) : Rd α → (α → List Mv.Loc → Prop) → Prop
  | .ret a, Q => Q a []
  | .fail, _ => False
  | .read l k, Q => match look A l with
    | some v => wpA C A (k v) fun a ls => Q a (l :: ls)
    | none => ∀ v, wpA C A (k v) fun a ls => Q a (l :: ls)
  | .need p _ k, Q => p ∧ wpA C A k Q
  | .call f as k, Q => ∃ r o, C f as = some (r, o) ∧ wpA C A (k r o) Q

theorem wpA_sound {α : Type} {C : Caller} {A : Asr} {st : St} (hs : Sat st A) : ∀ (x : Rd α) (Q : α → List Mv.Loc → Prop), wpA C A x Q → ∃ a ls, x.run C st = some (a, ls) ∧ Q a ls := by
  intro x
  induction x with
  | ret a => exact fun Q h => ⟨a, [], rfl, h⟩
  | fail => exact fun Q h => h.elim
  | read l k ih =>
    intro Q h
    simp only [wpA] at h
    have : wpA C A (k (st l)) fun a ls => Q a (l :: ls) := by
      cases hl : look A l with
      | none => simp only [hl] at h; exact h _
      | some v => simp only [hl] at h; rw [hs l v hl]; exact h
    obtain ⟨a, ls, h1, h2⟩ := ih _ _ this
    exact ⟨a, l :: ls, by simp only [Rd.run, h1], h2⟩
  | need p d k ih =>
    intro Q h
    obtain ⟨a, ls, h1, h2⟩ := ih Q h.2
    refine ⟨a, ls, ?_, h2⟩
    cases d with
    | isTrue _ => exact h1
    | isFalse hn => exact (hn h.1).elim
  | call f as k ih =>
    intro Q h
    obtain ⟨r, o, hc, h⟩ := h
    obtain ⟨a, ls, h1, h2⟩ := ih _ _ Q h
    exact ⟨a, ls, by simp only [Rd.run, hc, h1], h2⟩

theorem wpA_bind' {α β : Type} {C : Caller} {A : Asr} : ∀ (x : Rd α) (f : α → Rd β) (Q : β → List Mv.Loc → Prop),
    wpA C A (x.bind f) Q = wpA C A x fun a ls => wpA C A (f a) fun b ms => Q b (ls ++ ms) := by
  intro x
  induction x with
  | ret a => intro f Q; rfl
  | fail => intro f Q; rfl
  | read l k ih =>
    intro f Q
    simp only [Rd.bind, wpA, ih]
    rfl
  | need p d k ih =>
    intro f Q
    simp only [Rd.bind, wpA, ih]
  | call g as k ih =>
    intro f Q
    simp only [Rd.bind, wpA, ih]

theorem wpA_mono {α : Type} {C : Caller} {A : Asr} {x : Rd α} : ∀ {Q Q' : α → List Mv.Loc → Prop}, (∀ a ls, Q a ls → Q' a ls) → wpA C A x Q → wpA C A x Q' := by
  induction x with
  | ret a => exact fun hq h => hq _ _ h
  | fail => exact fun _ h => h
  | read l k ih =>
    intro Q Q' hq h
    simp only [wpA] at h ⊢
    cases hl : look A l with
    | none => simp only [hl] at h ⊢; exact fun v => ih v (fun a ls h => hq a _ h) (h v)
    | some v => simp only [hl] at h ⊢; exact ih v (fun a ls h => hq a _ h) h
  | need p d k ih => exact fun hq h => ⟨h.1, ih hq h.2⟩
  | call f as k ih =>
    intro Q Q' hq h
    obtain ⟨r, o, hc, h⟩ := h
    exact ⟨r, o, hc, ih _ _ hq h⟩

def wmap (ws : Ws) : List Mv.Loc := ws.map (·.1)

theorem run_over {α : Type} {C : Caller} {st : St} (ws : Ws) : ∀ (y : Rd α) {b : α} {ms : List Mv.Loc}, y.run C (st.upds ws) = some (b, ms) → ∃ ms', (y.over ws).run C st = some (b, ms') ∧ ∀ l ∈ ms', l ∈ ms := by
  intro y
  induction y with
  | ret a => intro b ms h; simp only [Rd.run, Option.some.injEq, Prod.mk.injEq] at h; obtain ⟨rfl, rfl⟩ := h; exact ⟨[], rfl, fun _ h => h⟩
  | fail => intro b ms h; simp [Rd.run] at h
  | read l k ih =>
    intro b ms h
    simp only [Rd.run] at h
    cases hk : (k (st.upds ws l)).run C (st.upds ws) with
    | none => simp [hk] at h
    | some z =>
      obtain ⟨b', ms1⟩ := z
      simp only [hk, Option.some.injEq, Prod.mk.injEq] at h
      obtain ⟨rfl, rfl⟩ := h
      obtain ⟨ms', h1, h2⟩ := ih _ hk
      rw [look_upds] at h1
      simp only [Rd.over]
      cases hl : Ws.look ws l with
      | some v =>
        simp only [hl, Option.getD_some] at h1
        exact ⟨ms', h1, fun m hm => List.mem_cons_of_mem _ (h2 m hm)⟩
      | none =>
        simp only [hl, Option.getD_none] at h1
        refine ⟨l :: ms', by simp only [Rd.run, h1], fun m hm => ?_⟩
        cases hm with
        | head => exact List.mem_cons_self ..
        | tail _ hm => exact List.mem_cons_of_mem _ (h2 m hm)
  | need p d k ih =>
    intro b ms h
    cases d with
    | isTrue _ => exact ih h
    | isFalse _ => simp [Rd.run] at h
  | call f as k ih =>
    intro b ms h
    simp only [Rd.run] at h
    simp only [Rd.over, Rd.run]
    cases hc : C f as with
    | none => simp [hc] at h
    | some z => simp only [hc] at h ⊢; exact ih _ _ h

/-- the same for what writes -/
def wpW {α : Type} (C : Caller) (A : Asr) (x : RW α) (R : α → Ws → List Mv.Loc → Prop) : Prop :=
  ∀ st, Sat st A → ∃ a ws ls ls', Rd.run (α := α × Ws) C st x = some ((a, ws), ls) ∧ (∀ l ∈ ls, l ∈ ls') ∧ R a ws ls'

theorem wpW_pure {α : Type} {C : Caller} {A : Asr} {a : α} {R : α → Ws → List Mv.Loc → Prop} (h : R a [] []) : wpW C A (pure a) R :=
  fun st _ => ⟨a, [], [], [], rfl, fun _ h => h, h⟩
theorem wpW_wr {C : Caller} {A : Asr} {ws : Ws} {R : Unit → Ws → List Mv.Loc → Prop} (h : R () ws []) : wpW C A (wr ws) R :=
  fun st _ => ⟨(), ws, [], [], rfl, fun _ h => h, h⟩
theorem run_up {α : Type} {C : Caller} {st : St} (x : Rd α) {a : α} {ls : List Mv.Loc} (h : x.run C st = some (a, ls)) : Rd.run (α := α × Ws) C st (up x) = some ((a, []), ls) := by
  show Rd.run (α := α × Ws) C st (Rd.bind x fun a => .ret (a, [])) = _
  induction x generalizing ls with
  | ret b => simp only [Rd.run, Option.some.injEq, Prod.mk.injEq] at h; obtain ⟨rfl, rfl⟩ := h; rfl
  | fail => simp [Rd.run] at h
  | read l k ih =>
    simp only [Rd.run] at h
    cases hk : (k (st l)).run C st with
    | none => simp [hk] at h
    | some z =>
      obtain ⟨b', ms1⟩ := z
      simp only [hk, Option.some.injEq, Prod.mk.injEq] at h
      obtain ⟨rfl, rfl⟩ := h
      have := ih _ hk
      simp only [Rd.bind, Rd.run, this]
  | need p d k ih =>
    cases d with
    | isTrue _ => exact ih h
    | isFalse _ => simp [Rd.run] at h
  | call f as k ih =>
    simp only [Rd.run] at h
    simp only [Rd.bind, Rd.run]
    cases hc : C f as with
    | none => simp [hc] at h
    | some z => simp only [hc] at h ⊢; exact ih _ _ h

theorem wpW_up {α : Type} {C : Caller} {A : Asr} {x : Rd α} {R : α → Ws → List Mv.Loc → Prop} (h : wpA C A x fun a ls => R a [] ls) : wpW C A (up x) R := by
  intro st hs
  obtain ⟨a, ls, h1, h2⟩ := wpA_sound hs _ _ h
  exact ⟨a, [], ls, ls, run_up x h1, fun _ h => h, h2⟩

theorem run_bind2 {α β : Type} {C : Caller} {st : St} (x : Rd α) (f : α → Rd β) {a : α} {ls ms : List Mv.Loc} {b : β} (h : x.run C st = some (a, ls)) (h2 : (f a).run C st = some (b, ms)) : (x.bind f).run C st = some (b, ls ++ ms) := by
  induction x generalizing ls with
  | ret c => simp only [Rd.run, Option.some.injEq, Prod.mk.injEq] at h; obtain ⟨rfl, rfl⟩ := h; exact h2
  | fail => simp [Rd.run] at h
  | read l k ih =>
    simp only [Rd.run] at h
    cases hk : (k (st l)).run C st with
    | none => simp [hk] at h
    | some z =>
      obtain ⟨b', ms1⟩ := z
      simp only [hk, Option.some.injEq, Prod.mk.injEq] at h
      obtain ⟨rfl, rfl⟩ := h
      have := ih _ hk
      simp only [Rd.bind, Rd.run, this, List.cons_append]
  | need p d k ih =>
    cases d with
    | isTrue _ => exact ih h
    | isFalse _ => simp [Rd.run] at h
  | call f as k ih =>
    simp only [Rd.run] at h
    simp only [Rd.bind, Rd.run]
    cases hc : C f as with
    | none => simp [hc] at h
    | some z => simp only [hc] at h ⊢; exact ih _ _ h

theorem wpW_bind {α β : Type} {C : Caller} {A : Asr} {x : RW α} {f : α → RW β} {R : β → Ws → List Mv.Loc → Prop}
    (h : wpW C A x fun a ws ls => wpW C (puts A ws) (f a) fun b ws' ls' => R b (ws ++ ws') (ls ++ ls')) : wpW C A (x >>= f) R := by
  intro st hs
  obtain ⟨a, ws, ls, ls', h1, h2, h3⟩ := h st hs
  obtain ⟨b, ws', ms, ms', k1, k2, k3⟩ := h3 _ (hs.puts ws)
  obtain ⟨ms2, k4, k5⟩ := run_over ws _ k1
  refine ⟨b, ws ++ ws', ls ++ ms2, ls' ++ ms', ?_, fun l hl => ?_, k3⟩
  · show Rd.run (α := β × Ws) C st (Rd.bind (α := α × Ws) x fun a => Rd.bind (α := β × Ws) (Rd.over a.2 (f a.1)) fun b => .ret (b.1, a.2 ++ b.2)) = _
    refine run_bind2 _ _ h1 ?_
    have := run_bind2 (α := β × Ws) (β := β × Ws) _ (fun b => .ret (b.1, ws ++ b.2)) k4 (b := (b, ws ++ ws')) (ms := []) rfl
    simpa using this
  · rcases List.mem_append.1 hl with hl | hl
    · exact List.mem_append_left _ (h2 l hl)
    · exact List.mem_append_right _ (k2 l (k5 l hl))

theorem wpW_mono {α : Type} {C : Caller} {A : Asr} {x : RW α} {R R' : α → Ws → List Mv.Loc → Prop} (h : wpW C A x R) (hr : ∀ a ws ls, R a ws ls → R' a ws ls) : wpW C A x R' := by
  intro st hs
  obtain ⟨a, ws, ls, ls', h1, h2, h3⟩ := h st hs
  exact ⟨a, ws, ls, ls', h1, h2, hr _ _ _ h3⟩

/-- logs that read no more and write the same -/
def LogLe : List Log → List Log → Prop
  | [], [] => True
  | a :: x, b :: y => (∀ l ∈ a.1, l ∈ b.1) ∧ a.2 = b.2 ∧ LogLe x y
  | _, _ => False

theorem clash_mono {a a' b b' : Log} (ha : ∀ l ∈ a.1, l ∈ a'.1) (ha2 : a.2 = a'.2) (hb : ∀ l ∈ b.1, l ∈ b'.1) (hb2 : b.2 = b'.2) (h : clash a' b' = false) : clash a b = false := by
  simp only [clash, Bool.or_eq_false_iff, List.any_eq_false, Bool.or_eq_true, not_or, Bool.not_eq_true] at h ⊢
  obtain ⟨h1, h2⟩ := h
  have hm : ∀ (x y : List Mv.Loc) l, (∀ l ∈ x, l ∈ y) → hasLoc y l = false → hasLoc x l = false := by
    intro x y l hxy hy
    rw [← Bool.not_eq_true] at hy ⊢
    exact fun hx => hy ((hasLoc_iff _ _).2 (hxy l ((hasLoc_iff _ _).1 hx)))
  refine ⟨fun l hl => ?_, fun l hl => ?_⟩
  · rw [ha2] at hl
    have := h1 l hl
    exact ⟨hm _ _ _ hb this.1, by rw [hb2]; exact this.2⟩
  · rw [hb2]; exact h2 l (ha l hl)

theorem raceFree_mono : ∀ (os : List Oper) (lg lg' : List Log) (prev prev' : List (Log × Nat)), LogLe lg lg' → prev.length = prev'.length → (∀ (i : Nat) x x', prev[i]? = some x → prev'[i]? = some x' → (∀ l ∈ x.1.1, l ∈ x'.1.1) ∧ x.1.2 = x'.1.2 ∧ x.2 = x'.2) →
    raceFree os lg' prev' = true → raceFree os lg prev = true := by
  intro os
  induction os with
  | nil => intro lg lg' prev prev' _ _ _ _; rfl
  | cons o os ih =>
    intro lg lg' prev prev' hl hlen hp h
    cases lg with
    | nil => rfl
    | cons a lg => cases lg' with
      | nil => exact hl.elim
      | cons b lg' =>
        obtain ⟨q1, q2, q3⟩ := hl
        simp only [raceFree, Bool.and_eq_true] at h ⊢
        have hmap : prev.map (·.2) = prev'.map (·.2) := by
          apply List.ext_getElem?
          intro i
          rw [List.getElem?_map, List.getElem?_map]
          rcases Nat.lt_or_ge i prev.length with hi | hi
          · have e1 : prev[i]? = some prev[i] := List.getElem?_eq_getElem hi
            have e2 : prev'[i]? = some (prev'[i]'(by omega)) := List.getElem?_eq_getElem (by omega)
            rw [e1, e2]
            simp [(hp i _ _ e1 e2).2.2]
          · rw [List.getElem?_eq_none hi, List.getElem?_eq_none (by omega)]
        rw [hmap]
        refine ⟨?_, ih lg lg' _ _ q3 (by simp [hlen]) (fun i x x' hx hx' => ?_) h.2⟩
        · rw [List.all_eq_true]
          rintro ⟨x, i⟩ hx
          obtain ⟨k, hk⟩ := List.mem_iff_getElem?.1 hx
          rw [List.getElem?_zipIdx] at hk
          cases hpk : prev[k]? with
          | none => simp [hpk] at hk
          | some y =>
            simp only [hpk, Option.map_some, Option.some.injEq, Prod.mk.injEq] at hk
            obtain ⟨rfl, rfl⟩ := hk
            have hkl : k < prev.length := (List.getElem?_eq_some_iff.1 hpk).1
            have e2 : prev'[k]? = some (prev'[k]'(by omega)) := List.getElem?_eq_getElem (by omega)
            obtain ⟨r1, r2, r3⟩ := hp k _ _ hpk e2
            have := List.all_eq_true.1 h.1 (prev'[k]'(by omega), 0 + k) (by
              rw [List.mem_iff_getElem?]
              exact ⟨k, by rw [List.getElem?_zipIdx, e2]; rfl⟩)
            simp only [Bool.or_eq_true, Bool.not_eq_true'] at this ⊢
            exact this.imp (fun h => clash_mono r1 r2 q1 q2 h) fun h => h
        · by_cases hi : i < prev.length
          · rw [List.getElem?_append_left hi] at hx
            rw [List.getElem?_append_left (by omega)] at hx'
            exact hp i x x' hx hx'
          · rw [List.getElem?_append_right (by omega)] at hx
            rw [List.getElem?_append_right (by omega), ← hlen] at hx'
            cases hii : i - prev.length with
            | zero =>
              simp only [hii, List.getElem?_cons_zero, Option.some.injEq] at hx hx'
              subst hx hx'
              exact ⟨q1, q2, rfl⟩
            | succ n => simp [hii] at hx

/-- the operations of a region that are still to be done -/
def XR (cx : Cx) (keep : List Nat) (ops0 : Array Oper) (rest : List Oper) (A : Asr) (Q : Asr → List Log → Prop) : Prop :=
  ∀ st, Sat st A → ∃ ws lg lg', runOps (CW cx) cx ops0 rest st = some (ws, lg) ∧ LogLe lg lg' ∧ tRefsOk keep (keptWs keep ws) = true ∧ ∃ A', Sat (st.upds ws) A' ∧ Q A' lg'

theorem tRefsOk_append {keep : List Nat} (a b : Ws) : tRefsOk keep (keptWs keep (a ++ b)) = (tRefsOk keep (keptWs keep a) && tRefsOk keep (keptWs keep b)) := by
  simp only [tRefsOk, keptWs, List.filter_append, List.all_append]

theorem xr_nil {cx : Cx} {keep : List Nat} {ops0 : Array Oper} {A : Asr} {Q : Asr → List Log → Prop} (h : Q A []) : XR cx keep ops0 [] A Q :=
  fun st hs => ⟨[], [], [], rfl, trivial, rfl, A, hs, h⟩

theorem xr_cons {cx : Cx} {keep : List Nat} {ops0 : Array Oper} {o : Oper} {r : List Oper} {A : Asr} {Q : Asr → List Log → Prop}
    (h : wpW (CW cx) A (aoper cx ops0 o) fun _ ws ls => tRefsOk keep (keptWs keep ws) = true ∧ XR cx keep ops0 r (puts A ws) fun A' lg => Q A' ((ls, wmap ws) :: lg)) :
    XR cx keep ops0 (o :: r) A Q := by
  intro st hs
  obtain ⟨⟨⟩, ws, ls, ls', h1, h1', h2, h3⟩ := h st hs
  obtain ⟨ws', lg, lg', k1, kl, k2, A', k3, k4⟩ := h3 _ (hs.puts ws)
  refine ⟨ws ++ ws', (ls, wmap ws) :: lg, (ls', wmap ws) :: lg', ?_, ⟨h1', rfl, kl⟩, ?_, A', ?_, k4⟩
  · simp only [runOps, h1, k1]; rfl
  · rw [tRefsOk_append, h2, k2]; rfl
  · rw [St.upds_append]; exact k3
end Go.Mv
end

section
namespace Go.Mv
open Go

def opd (A : Asr) : Operand → Option AV
  | .tmp t => look A (.t t)
  | .const v => some (ofConst v)
  | .func f => some (.clo f [])
  | .global _ => none
def rds : Operand → List Mv.Loc
  | .tmp t => [.t t]
  | _ => []

def slotOk (keep : List Nat) (l : Mv.Loc) (v : AV) : Bool := !keepLoc keep l || refOkV keep v

section
variable {C : Caller} {A : Asr}

theorem wpA_bind {α β : Type} (x : Rd α) (f : α → Rd β) (Q : β → List Mv.Loc → Prop) :
    wpA C A (x >>= f) Q = wpA C A x fun a ls => wpA C A (f a) fun b ms => Q b (ls ++ ms) := wpA_bind' x f Q
theorem wpA_ret {α : Type} (a : α) (Q : α → List Mv.Loc → Prop) : wpA C A (.ret a) Q = Q a [] := rfl
theorem wpA_pure {α : Type} (a : α) (Q : α → List Mv.Loc → Prop) : wpA C A (pure a) Q = Q a [] := rfl
theorem wpA_needc {α : Type} (p : Prop) (d : Decidable p) (k : Rd α) (Q : α → List Mv.Loc → Prop) : wpA C A (.need p d k) Q = (p ∧ wpA C A k Q) := rfl
theorem wpA_need (p : Prop) [Decidable p] (Q : Unit → List Mv.Loc → Prop) : wpA C A (need p) Q = (p ∧ Q () []) := rfl
theorem wpA_read {α : Type} {l : Mv.Loc} {v : AV} (h : look A l = some v) (k : AV → Rd α) (Q : α → List Mv.Loc → Prop) : wpA C A (.read l k) Q = wpA C A (k v) fun a ls => Q a (l :: ls) := by
  simp only [wpA, h]
theorem wpA_rd {l : Mv.Loc} {v : AV} (h : look A l = some v) (Q : AV → List Mv.Loc → Prop) : wpA C A (rd l) Q = Q v [l] := wpA_read h _ Q
theorem wpA_rdO {x : Operand} {v : AV} (h : opd A x = some v) (Q : AV → List Mv.Loc → Prop) : wpA C A (rdO x) Q = Q v (rds x) := by
  cases x with
  | tmp t => exact wpA_rd h Q
  | const c => simp only [opd, Option.some.injEq] at h; subst h; rfl
  | func f => simp only [opd, Option.some.injEq] at h; subst h; rfl
  | global g => simp [opd] at h
end

section
variable {cx : Cx} {keep : List Nat} {ops0 : Array Oper} {r : List Oper} {A : Asr} {Q : Asr → List Log → Prop}

/-- weaker knowledge -/
def Wk (A B : Asr) : Prop := ∀ l a, look B l = some a → look A l = some a

theorem XR.wk {A B : Asr} (h : Wk A B) (hx : XR cx keep ops0 r B Q) : XR cx keep ops0 r A Q :=
  fun st hs => hx st fun l a hl => hs l a (h l a hl)

theorem look_cons_eq (A : Asr) (l : Mv.Loc) (a : AV) : ∀ k, look ((l, a) :: A) k = look (put A l a) k := by
  intro k
  rw [look_put]
  simp only [look]
  cases Loc.beq k l <;> rfl

theorem tRefs_one {keep : List Nat} {l : Mv.Loc} {v : AV} (h : slotOk keep l v = true) : tRefsOk keep (keptWs keep [(l, v)]) = true := by
  unfold slotOk at h
  unfold keptWs tRefsOk
  cases hk : keepLoc keep l with
  | false => simp [List.filter, hk]
  | true =>
    simp only [hk, Bool.not_true, Bool.false_or] at h
    simp only [List.filter, hk, List.all_cons, List.all_nil, Bool.and_true]
    exact h

theorem tRefs_cons {keep : List Nat} {l : Mv.Loc} {v : AV} {ws : Ws} (h : slotOk keep l v = true) (h' : tRefsOk keep (keptWs keep ws) = true) : tRefsOk keep (keptWs keep ((l, v) :: ws)) = true := by
  have := tRefsOk_append (keep := keep) [(l, v)] ws
  simp only [List.singleton_append] at this
  rw [this, tRefs_one h, h']
  rfl

/-- an operation that only reads -/
theorem x_val {d : Nat} {op : Op} {ty : Nat} {pos : String} {aft : Array Edge} {v : AV} {l : List Mv.Loc} (hv : ∀ o : Oper, o.op = op → aopV cx o = up (opV cx op)) (hop : wpA (CW cx) A (opV cx op) fun a ls => a = v ∧ ls = l)
    (hk : slotOk keep (.t d) v = true) (h : XR cx keep ops0 r ((.t d, v) :: A) fun A' lg => Q A' ((l, [.t d]) :: lg)) : XR cx keep ops0 (⟨some d, op, ty, pos, aft, none⟩ :: r) A Q := by
  refine xr_cons ?_
  have : aoper cx ops0 ⟨some d, op, ty, pos, aft, none⟩ = aop cx ⟨some d, op, ty, pos, aft, none⟩ := rfl
  rw [this]
  unfold aop
  refine wpW_bind ?_
  rw [hv _ rfl]
  refine wpW_up (wpA_mono ?_ hop)
  rintro a ls ⟨rfl, rfl⟩
  refine wpW_wr ?_
  refine ⟨tRefs_one hk, ?_⟩
  simp only [List.append_nil]
  exact XR.wk (fun k b hb => by
    show look (put A (.t d) a) k = some b
    rw [← look_cons_eq]; exact hb) h
end
end Go.Mv
end

section
namespace Go.Mv
open Go

abbrev iV (n : Int) : AV := .val (.int .i64 n)
abbrev bV (b : Bool) : AV := .val (.bool b)
abbrev sV (s : ByteArray) : AV := .val (.string s)
abbrev uV (n : Int) : AV := .val (.int .u8 n)

theorem inI64 {x : Int} (h : -9223372036854775808 ≤ x ∧ x ≤ 9223372036854775807) : inI .i64 x := h

section
variable {cx : Cx} {keep : List Nat} {ops0 : Array Oper} {r : List Oper} {A : Asr} {Q : Asr → List Log → Prop} {d : Nat} {ty : Nat} {pos : String} {aft : Array Edge}

theorem x_move {x : Operand} {v : AV} (hx : opd A x = some v) (hk : slotOk keep (.t d) v = true) (h : XR cx keep ops0 r ((.t d, v) :: A) fun A' lg => Q A' ((rds x, [.t d]) :: lg)) :
    XR cx keep ops0 (⟨some d, .move x, ty, pos, aft, none⟩ :: r) A Q :=
  x_val (fun o ho => by simp only [aopV, ho]) (by simp only [opV, wpA_rdO hx, and_self]) hk h

theorem x_pick {c a b : Operand} {t : Bool} {va vb : AV} (hc : opd A c = some (.val (.bool t))) (ha : opd A a = some va) (hb : opd A b = some vb) (hk : slotOk keep (.t d) (if t then va else vb) = true)
    (h : XR cx keep ops0 r ((.t d, if t then va else vb) :: A) fun A' lg => Q A' ((rds c ++ (if t then rds a else rds b), [.t d]) :: lg)) :
    XR cx keep ops0 (⟨some d, .pick c a b, ty, pos, aft, none⟩ :: r) A Q :=
  x_val (fun o ho => by simp only [aopV, ho]) (by cases t <;> simp [opV, wpA_bind, wpA_rdO hc, wpA_rdO ha, wpA_rdO hb]) hk h

theorem x_add {T z : Nat} {a b : Operand} {k : IntKind} {x y : Int} (ha : opd A a = some (.val (.int k x))) (hb : opd A b = some (.val (.int k y))) (hi : inI k (x + y))
    (h : XR cx keep ops0 r ((.t d, .val (.int k (x + y))) :: A) fun A' lg => Q A' ((rds a ++ rds b, [.t d]) :: lg)) : XR cx keep ops0 (⟨some d, .binOp .add T a b z, ty, pos, aft, none⟩ :: r) A Q :=
  x_val (fun o ho => by simp only [aopV, ho]) (by simp only [opV, wpA_bind, wpA_rdO ha, wpA_rdO hb, wpA_need, wpA_ret, binA, intBin, eqOk, List.append_nil, List.nil_append, true_and, and_self, and_true]; exact hi) (by simp [slotOk, refOkV, refsOk]) h

theorem x_sub {T z : Nat} {a b : Operand} {k : IntKind} {x y : Int} (ha : opd A a = some (.val (.int k x))) (hb : opd A b = some (.val (.int k y))) (hi : inI k (x - y))
    (h : XR cx keep ops0 r ((.t d, .val (.int k (x - y))) :: A) fun A' lg => Q A' ((rds a ++ rds b, [.t d]) :: lg)) : XR cx keep ops0 (⟨some d, .binOp .sub T a b z, ty, pos, aft, none⟩ :: r) A Q :=
  x_val (fun o ho => by simp only [aopV, ho]) (by simp only [opV, wpA_bind, wpA_rdO ha, wpA_rdO hb, wpA_need, wpA_ret, binA, intBin, eqOk, List.append_nil, List.nil_append, true_and, and_self, and_true]; exact hi) (by simp [slotOk, refOkV, refsOk]) h

theorem x_mul {T z : Nat} {a b : Operand} {k : IntKind} {x y : Int} (ha : opd A a = some (.val (.int k x))) (hb : opd A b = some (.val (.int k y))) (hi : inI k (x * y))
    (h : XR cx keep ops0 r ((.t d, .val (.int k (x * y))) :: A) fun A' lg => Q A' ((rds a ++ rds b, [.t d]) :: lg)) : XR cx keep ops0 (⟨some d, .binOp .mul T a b z, ty, pos, aft, none⟩ :: r) A Q :=
  x_val (fun o ho => by simp only [aopV, ho]) (by simp only [opV, wpA_bind, wpA_rdO ha, wpA_rdO hb, wpA_need, wpA_ret, binA, intBin, eqOk, List.append_nil, List.nil_append, true_and, and_self, and_true]; exact hi) (by simp [slotOk, refOkV, refsOk]) h

theorem x_quo {T z : Nat} {a b : Operand} {k : IntKind} {x y : Int} (ha : opd A a = some (.val (.int k x))) (hb : opd A b = some (.val (.int k y))) (hi : y ≠ 0 ∧ inI k (x.tdiv y))
    (h : XR cx keep ops0 r ((.t d, .val (.int k (x.tdiv y))) :: A) fun A' lg => Q A' ((rds a ++ rds b, [.t d]) :: lg)) : XR cx keep ops0 (⟨some d, .binOp .quo T a b z, ty, pos, aft, none⟩ :: r) A Q :=
  x_val (fun o ho => by simp only [aopV, ho]) (by simp only [opV, wpA_bind, wpA_rdO ha, wpA_rdO hb, wpA_need, wpA_ret, binA, intBin, eqOk, List.append_nil, List.nil_append, true_and, and_self, and_true]; exact hi) (by simp [slotOk, refOkV, refsOk]) h

theorem x_rem {T z : Nat} {a b : Operand} {k : IntKind} {x y : Int} (ha : opd A a = some (.val (.int k x))) (hb : opd A b = some (.val (.int k y))) (hi : y ≠ 0)
    (h : XR cx keep ops0 r ((.t d, .val (.int k (x.tmod y))) :: A) fun A' lg => Q A' ((rds a ++ rds b, [.t d]) :: lg)) : XR cx keep ops0 (⟨some d, .binOp .rem T a b z, ty, pos, aft, none⟩ :: r) A Q :=
  x_val (fun o ho => by simp only [aopV, ho]) (by simp only [opV, wpA_bind, wpA_rdO ha, wpA_rdO hb, wpA_need, wpA_ret, binA, intBin, eqOk, List.append_nil, List.nil_append, true_and, and_self, and_true]; exact hi) (by simp [slotOk, refOkV, refsOk]) h

theorem x_eql {T z : Nat} {a b : Operand} {k : IntKind} {x y : Int} (ha : opd A a = some (.val (.int k x))) (hb : opd A b = some (.val (.int k y)))
    (h : XR cx keep ops0 r ((.t d, .val (.bool (x == y))) :: A) fun A' lg => Q A' ((rds a ++ rds b, [.t d]) :: lg)) : XR cx keep ops0 (⟨some d, .binOp .eql T a b z, ty, pos, aft, none⟩ :: r) A Q :=
  x_val (fun o ho => by simp only [aopV, ho]) (by simp only [opV, wpA_bind, wpA_rdO ha, wpA_rdO hb, wpA_need, wpA_ret, binA, intBin, eqOk, List.append_nil, List.nil_append, true_and, and_self, and_true]) (by simp [slotOk, refOkV, refsOk]) h

theorem x_neq {T z : Nat} {a b : Operand} {k : IntKind} {x y : Int} (ha : opd A a = some (.val (.int k x))) (hb : opd A b = some (.val (.int k y)))
    (h : XR cx keep ops0 r ((.t d, .val (.bool (x != y))) :: A) fun A' lg => Q A' ((rds a ++ rds b, [.t d]) :: lg)) : XR cx keep ops0 (⟨some d, .binOp .neq T a b z, ty, pos, aft, none⟩ :: r) A Q :=
  x_val (fun o ho => by simp only [aopV, ho]) (by simp only [opV, wpA_bind, wpA_rdO ha, wpA_rdO hb, wpA_need, wpA_ret, binA, intBin, eqOk, List.append_nil, List.nil_append, true_and, and_self, and_true]) (by simp [slotOk, refOkV, refsOk]) h

theorem x_lss {T z : Nat} {a b : Operand} {k : IntKind} {x y : Int} (ha : opd A a = some (.val (.int k x))) (hb : opd A b = some (.val (.int k y)))
    (h : XR cx keep ops0 r ((.t d, .val (.bool (decide (x < y)))) :: A) fun A' lg => Q A' ((rds a ++ rds b, [.t d]) :: lg)) : XR cx keep ops0 (⟨some d, .binOp .lss T a b z, ty, pos, aft, none⟩ :: r) A Q :=
  x_val (fun o ho => by simp only [aopV, ho]) (by simp only [opV, wpA_bind, wpA_rdO ha, wpA_rdO hb, wpA_need, wpA_ret, binA, intBin, eqOk, List.append_nil, List.nil_append, true_and, and_self, and_true]) (by simp [slotOk, refOkV, refsOk]) h

theorem x_leq {T z : Nat} {a b : Operand} {k : IntKind} {x y : Int} (ha : opd A a = some (.val (.int k x))) (hb : opd A b = some (.val (.int k y)))
    (h : XR cx keep ops0 r ((.t d, .val (.bool (decide (x ≤ y)))) :: A) fun A' lg => Q A' ((rds a ++ rds b, [.t d]) :: lg)) : XR cx keep ops0 (⟨some d, .binOp .leq T a b z, ty, pos, aft, none⟩ :: r) A Q :=
  x_val (fun o ho => by simp only [aopV, ho]) (by simp only [opV, wpA_bind, wpA_rdO ha, wpA_rdO hb, wpA_need, wpA_ret, binA, intBin, eqOk, List.append_nil, List.nil_append, true_and, and_self, and_true]) (by simp [slotOk, refOkV, refsOk]) h

theorem x_gtr {T z : Nat} {a b : Operand} {k : IntKind} {x y : Int} (ha : opd A a = some (.val (.int k x))) (hb : opd A b = some (.val (.int k y)))
    (h : XR cx keep ops0 r ((.t d, .val (.bool (decide (y < x)))) :: A) fun A' lg => Q A' ((rds a ++ rds b, [.t d]) :: lg)) : XR cx keep ops0 (⟨some d, .binOp .gtr T a b z, ty, pos, aft, none⟩ :: r) A Q :=
  x_val (fun o ho => by simp only [aopV, ho]) (by simp only [opV, wpA_bind, wpA_rdO ha, wpA_rdO hb, wpA_need, wpA_ret, binA, intBin, eqOk, List.append_nil, List.nil_append, true_and, and_self, and_true]) (by simp [slotOk, refOkV, refsOk]) h

theorem x_geq {T z : Nat} {a b : Operand} {k : IntKind} {x y : Int} (ha : opd A a = some (.val (.int k x))) (hb : opd A b = some (.val (.int k y)))
    (h : XR cx keep ops0 r ((.t d, .val (.bool (decide (y ≤ x)))) :: A) fun A' lg => Q A' ((rds a ++ rds b, [.t d]) :: lg)) : XR cx keep ops0 (⟨some d, .binOp .geq T a b z, ty, pos, aft, none⟩ :: r) A Q :=
  x_val (fun o ho => by simp only [aopV, ho]) (by simp only [opV, wpA_bind, wpA_rdO ha, wpA_rdO hb, wpA_need, wpA_ret, binA, intBin, eqOk, List.append_nil, List.nil_append, true_and, and_self, and_true]) (by simp [slotOk, refOkV, refsOk]) h

theorem x_and {T z : Nat} {a b : Operand} {k : IntKind} {x y : Int} (ha : opd A a = some (.val (.int k x))) (hb : opd A b = some (.val (.int k y)))
    (h : XR cx keep ops0 r ((.t d, .val (.int k (k.wrap ((BitVec.ofInt k.bits x &&& BitVec.ofInt k.bits y).toNat)))) :: A) fun A' lg => Q A' ((rds a ++ rds b, [.t d]) :: lg)) : XR cx keep ops0 (⟨some d, .binOp .and T a b z, ty, pos, aft, none⟩ :: r) A Q :=
  x_val (fun o ho => by simp only [aopV, ho]) (by simp only [opV, wpA_bind, wpA_rdO ha, wpA_rdO hb, wpA_need, wpA_ret, binA, intBin, eqOk, List.append_nil, List.nil_append, true_and, and_self, and_true]) (by simp [slotOk, refOkV, refsOk]) h

theorem x_or {T z : Nat} {a b : Operand} {k : IntKind} {x y : Int} (ha : opd A a = some (.val (.int k x))) (hb : opd A b = some (.val (.int k y)))
    (h : XR cx keep ops0 r ((.t d, .val (.int k (k.wrap ((BitVec.ofInt k.bits x ||| BitVec.ofInt k.bits y).toNat)))) :: A) fun A' lg => Q A' ((rds a ++ rds b, [.t d]) :: lg)) : XR cx keep ops0 (⟨some d, .binOp .or T a b z, ty, pos, aft, none⟩ :: r) A Q :=
  x_val (fun o ho => by simp only [aopV, ho]) (by simp only [opV, wpA_bind, wpA_rdO ha, wpA_rdO hb, wpA_need, wpA_ret, binA, intBin, eqOk, List.append_nil, List.nil_append, true_and, and_self, and_true]) (by simp [slotOk, refOkV, refsOk]) h

theorem x_xor {T z : Nat} {a b : Operand} {k : IntKind} {x y : Int} (ha : opd A a = some (.val (.int k x))) (hb : opd A b = some (.val (.int k y)))
    (h : XR cx keep ops0 r ((.t d, .val (.int k (k.wrap ((BitVec.ofInt k.bits x ^^^ BitVec.ofInt k.bits y).toNat)))) :: A) fun A' lg => Q A' ((rds a ++ rds b, [.t d]) :: lg)) : XR cx keep ops0 (⟨some d, .binOp .xor T a b z, ty, pos, aft, none⟩ :: r) A Q :=
  x_val (fun o ho => by simp only [aopV, ho]) (by simp only [opV, wpA_bind, wpA_rdO ha, wpA_rdO hb, wpA_need, wpA_ret, binA, intBin, eqOk, List.append_nil, List.nil_append, true_and, and_self, and_true]) (by simp [slotOk, refOkV, refsOk]) h

theorem x_shl {T z : Nat} {a b : Operand} {k k' : IntKind} {x y : Int} (ha : opd A a = some (.val (.int k x))) (hb : opd A b = some (.val (.int k' y))) (hi : 0 ≤ y ∧ y < k.bits ∧ inI k (x * 2 ^ y.toNat))
    (h : XR cx keep ops0 r ((.t d, .val (.int k (x * 2 ^ y.toNat))) :: A) fun A' lg => Q A' ((rds a ++ rds b, [.t d]) :: lg)) : XR cx keep ops0 (⟨some d, .binOp .shl T a b z, ty, pos, aft, none⟩ :: r) A Q :=
  x_val (fun o ho => by simp only [aopV, ho]) (by simp only [opV, wpA_bind, wpA_rdO ha, wpA_rdO hb, wpA_need, wpA_ret, binA, intBin, eqOk, List.append_nil, List.nil_append, true_and, and_self, and_true]; exact hi) (by simp [slotOk, refOkV, refsOk]) h

theorem x_shr {T z : Nat} {a b : Operand} {k k' : IntKind} {x y : Int} (ha : opd A a = some (.val (.int k x))) (hb : opd A b = some (.val (.int k' y))) (hi : 0 ≤ y ∧ y < k.bits)
    (h : XR cx keep ops0 r ((.t d, .val (.int k (x.fdiv (2 ^ y.toNat)))) :: A) fun A' lg => Q A' ((rds a ++ rds b, [.t d]) :: lg)) : XR cx keep ops0 (⟨some d, .binOp .shr T a b z, ty, pos, aft, none⟩ :: r) A Q :=
  x_val (fun o ho => by simp only [aopV, ho]) (by simp only [opV, wpA_bind, wpA_rdO ha, wpA_rdO hb, wpA_need, wpA_ret, binA, intBin, eqOk, List.append_nil, List.nil_append, true_and, and_self, and_true]; exact hi) (by simp [slotOk, refOkV, refsOk]) h

theorem x_beq {T z : Nat} {a b : Operand} {x y : Bool} (hT : (match (tyS cx.P T).k with | .bool => true | _ => false) = true) (ha : opd A a = some (.val (.bool x))) (hb : opd A b = some (.val (.bool y)))
    (h : XR cx keep ops0 r ((.t d, bV (x == y)) :: A) fun A' lg => Q A' ((rds a ++ rds b, [.t d]) :: lg)) : XR cx keep ops0 (⟨some d, .binOp .eql T a b z, ty, pos, aft, none⟩ :: r) A Q :=
  x_val (fun o ho => by simp only [aopV, ho]) (by simp only [opV, wpA_bind, wpA_rdO ha, wpA_rdO hb, wpA_need, wpA_ret, binA, eqOk, List.append_nil, List.nil_append, and_self, and_true]; exact ⟨hT, trivial, by simp⟩) (by simp [slotOk, refOkV, refsOk]) h

theorem x_bne {T z : Nat} {a b : Operand} {x y : Bool} (hT : (match (tyS cx.P T).k with | .bool => true | _ => false) = true) (ha : opd A a = some (.val (.bool x))) (hb : opd A b = some (.val (.bool y)))
    (h : XR cx keep ops0 r ((.t d, bV (!(x == y))) :: A) fun A' lg => Q A' ((rds a ++ rds b, [.t d]) :: lg)) : XR cx keep ops0 (⟨some d, .binOp .neq T a b z, ty, pos, aft, none⟩ :: r) A Q :=
  x_val (fun o ho => by simp only [aopV, ho]) (by simp only [opV, wpA_bind, wpA_rdO ha, wpA_rdO hb, wpA_need, wpA_ret, binA, eqOk, List.append_nil, List.nil_append, and_self, and_true]; exact ⟨hT, trivial, by simp⟩) (by simp [slotOk, refOkV, refsOk]) h

theorem x_sadd {T z : Nat} {a b : Operand} {x y : ByteArray} (ha : opd A a = some (.val (.string x))) (hb : opd A b = some (.val (.string y))) (hi : x.size + y.size ≤ maxL)
    (h : XR cx keep ops0 r ((.t d, .val (.string (x ++ y))) :: A) fun A' lg => Q A' ((rds a ++ rds b, [.t d]) :: lg)) : XR cx keep ops0 (⟨some d, .binOp .add T a b z, ty, pos, aft, none⟩ :: r) A Q :=
  x_val (fun o ho => by simp only [aopV, ho]) (by simp only [opV, wpA_bind, wpA_rdO ha, wpA_rdO hb, wpA_need, wpA_ret, binA, strBin, eqOk, List.append_nil, List.nil_append, true_and, and_self, and_true]; exact hi) (by simp [slotOk, refOkV, refsOk]) h

theorem x_seq {T z : Nat} {a b : Operand} {x y : ByteArray} (ha : opd A a = some (.val (.string x))) (hb : opd A b = some (.val (.string y)))
    (h : XR cx keep ops0 r ((.t d, bV (x.toList == y.toList)) :: A) fun A' lg => Q A' ((rds a ++ rds b, [.t d]) :: lg)) : XR cx keep ops0 (⟨some d, .binOp .eql T a b z, ty, pos, aft, none⟩ :: r) A Q :=
  x_val (fun o ho => by simp only [aopV, ho]) (by simp only [opV, wpA_bind, wpA_rdO ha, wpA_rdO hb, wpA_need, wpA_ret, binA, strBin, eqOk, List.append_nil, List.nil_append, true_and, and_self, and_true]) (by simp [slotOk, refOkV, refsOk]) h

theorem x_sne {T z : Nat} {a b : Operand} {x y : ByteArray} (ha : opd A a = some (.val (.string x))) (hb : opd A b = some (.val (.string y)))
    (h : XR cx keep ops0 r ((.t d, bV (!(x.toList == y.toList))) :: A) fun A' lg => Q A' ((rds a ++ rds b, [.t d]) :: lg)) : XR cx keep ops0 (⟨some d, .binOp .neq T a b z, ty, pos, aft, none⟩ :: r) A Q :=
  x_val (fun o ho => by simp only [aopV, ho]) (by simp only [opV, wpA_bind, wpA_rdO ha, wpA_rdO hb, wpA_need, wpA_ret, binA, strBin, eqOk, List.append_nil, List.nil_append, true_and, and_self, and_true]) (by simp [slotOk, refOkV, refsOk]) h

theorem x_aeq {T z : Nat} {p q : Operand} {xs ys : List AV} {b : Bool} (ha : opd A p = some (.agg xs)) (hb : opd A q = some (.agg ys)) (hT : eqTyOk cx.P T = true) (he : aggEq (fieldKs cx.P T) xs ys = some b)
    (h : XR cx keep ops0 r ((.t d, bV (b)) :: A) fun A' lg => Q A' ((rds p ++ rds q, [.t d]) :: lg)) : XR cx keep ops0 (⟨some d, .binOp .eql T p q z, ty, pos, aft, none⟩ :: r) A Q :=
  x_val (fun o ho => by simp only [aopV, ho]) (by simp only [opV, wpA_bind, wpA_rdO ha, wpA_rdO hb, wpA_need, wpA_ret, binA, eqOk, he, List.append_nil, List.nil_append, and_self, and_true]; exact ⟨hT, trivial, by simp⟩) (by simp [slotOk, refOkV, refsOk]) h

theorem x_ane {T z : Nat} {p q : Operand} {xs ys : List AV} {b : Bool} (ha : opd A p = some (.agg xs)) (hb : opd A q = some (.agg ys)) (hT : eqTyOk cx.P T = true) (he : aggEq (fieldKs cx.P T) xs ys = some b)
    (h : XR cx keep ops0 r ((.t d, bV (!b)) :: A) fun A' lg => Q A' ((rds p ++ rds q, [.t d]) :: lg)) : XR cx keep ops0 (⟨some d, .binOp .neq T p q z, ty, pos, aft, none⟩ :: r) A Q :=
  x_val (fun o ho => by simp only [aopV, ho]) (by simp only [opV, wpA_bind, wpA_rdO ha, wpA_rdO hb, wpA_need, wpA_ret, binA, eqOk, he, List.append_nil, List.nil_append, and_self, and_true]; exact ⟨hT, trivial, by simp⟩) (by simp [slotOk, refOkV, refsOk]) h

theorem x_neg {T : Nat} {a : Operand} {k : IntKind} {x : Int} (ha : opd A a = some (.val (.int k x))) (hi : inI k (0 - x))
    (h : XR cx keep ops0 r ((.t d, .val (.int k (-x))) :: A) fun A' lg => Q A' ((rds a, [.t d]) :: lg)) : XR cx keep ops0 (⟨some d, .unOp .neg T a, ty, pos, aft, none⟩ :: r) A Q :=
  x_val (fun o ho => by simp only [aopV, ho]) (by simp only [opV, wpA_bind, wpA_rdO ha, wpA_need, wpA_ret, unA, List.append_nil, List.nil_append, and_self, and_true]; exact hi) (by simp [slotOk, refOkV, refsOk]) h

theorem x_not {T : Nat} {a : Operand} {x : Bool} (ha : opd A a = some (.val (.bool x)))
    (h : XR cx keep ops0 r ((.t d, bV (!x)) :: A) fun A' lg => Q A' ((rds a, [.t d]) :: lg)) : XR cx keep ops0 (⟨some d, .unOp .not T a, ty, pos, aft, none⟩ :: r) A Q :=
  x_val (fun o ho => by simp only [aopV, ho]) (by simp only [opV, wpA_bind, wpA_rdO ha, wpA_ret, unA, List.append_nil, and_self]) (by simp [slotOk, refOkV, refsOk]) h

/-- len -/
theorem x_len_list {x : Operand} {T : Nat} {es : List AV} (hx : opd A x = some (.list es)) (hT : isSliceK (tyS cx.P T).k = true)
    (h : XR cx keep ops0 r ((.t d, iV es.length) :: A) fun A' lg => Q A' ((rds x, [.t d]) :: lg)) : XR cx keep ops0 (⟨some d, .call ⟨.builtin .len, #[x], #[T]⟩, ty, pos, aft, none⟩ :: r) A Q := by
  refine x_val (fun o ho => by simp only [aopV, ho]) ?_ (by simp [slotOk, refOkV, refsOk]) h
  simp only [opV, wpA_bind, wpA_rdO hx, wpA_need, wpA_ret, lenA, List.append_nil, List.nil_append, and_self, and_true]
  unfold isSliceK at hT
  unfold lenOk
  split at hT
  · rename_i e he; rw [he]; trivial
  · cases hT

theorem x_len_map {α : Type} {f : α → AV} {xs : List α} {x : Operand} {T : Nat} (hx : opd A x = some (.list (xs.map f))) (hT : isSliceK (tyS cx.P T).k = true)
    (h : XR cx keep ops0 r ((.t d, iV xs.length) :: A) fun A' lg => Q A' ((rds x, [.t d]) :: lg)) : XR cx keep ops0 (⟨some d, .call ⟨.builtin .len, #[x], #[T]⟩, ty, pos, aft, none⟩ :: r) A Q :=
  x_len_list hx hT (by rw [List.length_map]; exact h)

theorem x_len_nil {x : Operand} {T : Nat} (hx : opd A x = some .nil) (hT : isSliceK (tyS cx.P T).k = true)
    (h : XR cx keep ops0 r ((.t d, iV 0) :: A) fun A' lg => Q A' ((rds x, [.t d]) :: lg)) : XR cx keep ops0 (⟨some d, .call ⟨.builtin .len, #[x], #[T]⟩, ty, pos, aft, none⟩ :: r) A Q := by
  refine x_val (fun o ho => by simp only [aopV, ho]) ?_ (by simp [slotOk, refOkV, refsOk]) h
  simp only [opV, wpA_bind, wpA_rdO hx, wpA_need, wpA_ret, lenA, List.append_nil, List.nil_append, and_self, and_true]
  unfold isSliceK at hT
  unfold lenOk
  split at hT
  · rename_i e he; rw [he]; trivial
  · cases hT

theorem x_len_sl {x : Operand} {T id g off n : Nat} {p : Option (Nat × Nat)} (hx : opd A x = some (.sl id g p off n)) (hT : isSliceK (tyS cx.P T).k = true)
    (h : XR cx keep ops0 r ((.t d, iV n) :: A) fun A' lg => Q A' ((rds x, [.t d]) :: lg)) : XR cx keep ops0 (⟨some d, .call ⟨.builtin .len, #[x], #[T]⟩, ty, pos, aft, none⟩ :: r) A Q := by
  refine x_val (fun o ho => by simp only [aopV, ho]) ?_ (by simp [slotOk, refOkV, refsOk]) h
  simp only [opV, wpA_bind, wpA_rdO hx, wpA_need, wpA_ret, lenA, List.append_nil, List.nil_append, and_self, and_true]
  unfold isSliceK at hT
  unfold lenOk
  split at hT
  · rename_i e he; rw [he]; trivial
  · cases hT

def isStrK : TK → Bool
  | .string => true
  | _ => false

theorem x_len_str {x : Operand} {T : Nat} {s : ByteArray} (hx : opd A x = some (.val (.string s))) (hT : isStrK (tyS cx.P T).k = true)
    (h : XR cx keep ops0 r ((.t d, iV s.size) :: A) fun A' lg => Q A' ((rds x, [.t d]) :: lg)) : XR cx keep ops0 (⟨some d, .call ⟨.builtin .len, #[x], #[T]⟩, ty, pos, aft, none⟩ :: r) A Q := by
  refine x_val (fun o ho => by simp only [aopV, ho]) ?_ (by simp [slotOk, refOkV, refsOk]) h
  simp only [opV, wpA_bind, wpA_rdO hx, wpA_need, wpA_ret, lenA, List.append_nil, List.nil_append, and_self, and_true]
  unfold isStrK at hT
  unfold lenOk
  split at hT
  · rename_i he; rw [he]; trivial
  · cases hT

theorem x_max {a b : Operand} {Ts : Array Nat} {k : IntKind} {x y : Int} (ha : opd A a = some (.val (.int k x))) (hb : opd A b = some (.val (.int k y)))
    (h : XR cx keep ops0 r ((.t d, .val (.int k (max x y))) :: A) fun A' lg => Q A' ((rds a ++ rds b, [.t d]) :: lg)) : XR cx keep ops0 (⟨some d, .call ⟨.builtin .max, #[a, b], Ts⟩, ty, pos, aft, none⟩ :: r) A Q :=
  x_val (fun o ho => by simp only [aopV, ho]) (by simp only [opV, rdOs, wpA_bind, wpA_rdO ha, wpA_rdO hb, wpA_need, wpA_ret, foldA, max2, List.append_nil, List.nil_append, true_and, and_self, List.append_assoc]) (by simp [slotOk, refOkV, refsOk]) h
theorem x_min {a b : Operand} {Ts : Array Nat} {k : IntKind} {x y : Int} (ha : opd A a = some (.val (.int k x))) (hb : opd A b = some (.val (.int k y)))
    (h : XR cx keep ops0 r ((.t d, .val (.int k (min x y))) :: A) fun A' lg => Q A' ((rds a ++ rds b, [.t d]) :: lg)) : XR cx keep ops0 (⟨some d, .call ⟨.builtin .min, #[a, b], Ts⟩, ty, pos, aft, none⟩ :: r) A Q :=
  x_val (fun o ho => by simp only [aopV, ho]) (by simp only [opV, rdOs, wpA_bind, wpA_rdO ha, wpA_rdO hb, wpA_need, wpA_ret, foldA, min2, List.append_nil, List.nil_append, true_and, and_self, List.append_assoc]) (by simp [slotOk, refOkV, refsOk]) h

/-- the types of a slice's elements -/
def elemT (P : Program) (T : Nat) : Option (Nat × Nat) := match (tyS P T).k with
  | .slice e => if isBad (tyS P e).k = false then some (e, (tyS P e).size) else none
  | _ => none

theorem wpA_elemOf {C : Caller} {P : Program} {T E s : Nat} (hT : elemT P T = some (E, s)) (Q : Nat → List Mv.Loc → Prop) : wpA C A (elemOf P T) Q = Q E [] ∧ (tyS P E).size = s := by
  unfold elemT at hT
  unfold elemOf
  split at hT
  · rename_i e he
    split at hT
    · rename_i hb
      cases hT
      simp only [he, wpA_bind, wpA_need, hb, wpA_ret, true_and, List.append_nil, and_self]
    · cases hT
  · cases hT

theorem wpA_asNat {C : Caller} {k : IntKind} {n : Int} (h : 0 ≤ n) (Q : Nat → List Mv.Loc → Prop) : wpA C A (asNat (.val (.int k n))) Q = Q n.toNat [] := by
  simp only [asNat, wpA_bind, wpA_need, h, wpA_ret, true_and, List.append_nil]

theorem x_index_list {α : Type} [Inhabited α] {x i : Operand} {T E s : Nat} {f : α → AV} {xs : List α} {k : IntKind} {n : Int} (hx : opd A x = some (.list (xs.map f))) (hi : opd A i = some (.val (.int k n)))
    (hT : elemT cx.P T = some (E, s)) (hs : ∀ a, (leaves (f a)).length = s) (hn : 0 ≤ n ∧ n < xs.length)
    (h : XR cx keep ops0 r ((.t d, .ipt (f (xs.getD n.toNat default)) 0) :: A) fun A' lg => Q A' ((rds x ++ rds i, [.t d]) :: lg)) : XR cx keep ops0 (⟨some d, .indexAddr T x i, ty, pos, aft, none⟩ :: r) A Q := by
  refine x_val (fun o ho => by simp only [aopV, ho]) ?_ (by simp [slotOk, refOkV, refsOk]) h
  have hlt : n.toNat < xs.length := by omega
  have hg : (xs.map f)[n.toNat]? = some (f (xs.getD n.toNat default)) := by
    rw [List.getElem?_map, List.getElem?_eq_getElem hlt, List.getD_eq_getElem?_getD, List.getElem?_eq_getElem hlt]; rfl
  simp only [opV, wpA_bind, wpA_rdO hx, wpA_rdO hi, indexAddrA, wpA_asNat hn.1, (wpA_elemOf hT _).1, hg, wpA_need, wpA_ret, hs, List.append_nil, List.nil_append, and_self, and_true]
  exact (wpA_elemOf (C := fun _ _ => none) (A := A) hT fun _ _ => True).2.symm

theorem x_index_sl {x i : Operand} {T E s id g m off ln : Nat} {es : List AV} {k : IntKind} {n : Int} (hx : opd A x = some (.sl id g none off ln)) (hi : opd A i = some (.val (.int k n))) (ho : look A (.h id) = some (.obj g m s es))
    (hT : elemT cx.P T = some (E, s)) (hn : 0 ≤ n ∧ n < ln) (hl : off + ln ≤ es.length) (hk : slotOk keep (.t d) (.ptr id g none (off + n.toNat) 0) = true)
    (h : XR cx keep ops0 r ((.t d, .ptr id g none (off + n.toNat) 0) :: A) fun A' lg => Q A' ((rds x ++ (rds i ++ [.h id]), [.t d]) :: lg)) : XR cx keep ops0 (⟨some d, .indexAddr T x i, ty, pos, aft, none⟩ :: r) A Q := by
  refine x_val (fun o ho => by simp only [aopV, ho]) ?_ hk h
  have hs := (wpA_elemOf (C := fun _ _ => none) (A := A) hT fun _ _ => True).2
  have h2 : n.toNat < ln := by omega
  simp only [opV, wpA_bind, wpA_rdO hx, wpA_rdO hi, indexAddrA, wpA_asNat hn.1, (wpA_elemOf hT _).1, rdNode, wpA_read ho, wpA_need, wpA_ret, List.append_nil, List.nil_append, true_and, h2, hl, hs, and_self, List.append_assoc, List.singleton_append]

/-- a part of an element -/
def partF (P : Program) (T : Nat) (ls : List AV) : Option AV :=
  if isAggK (tyS P T).k = true then (if (tyS P T).size ≤ ls.length then some (.agg (ls.take (tyS P T).size)) else none)
  else if (tyS P T).size = 1 ∧ isBad (tyS P T).k = false then ls.head? else none

theorem wpA_partOf {C : Caller} {P : Program} {T : Nat} {ls : List AV} {v : AV} (h : partF P T ls = some v) (Q : AV → List Mv.Loc → Prop) : wpA C A (partOf P T ls) Q = Q v [] := by
  unfold partF at h
  unfold partOf
  split at h
  · rename_i ha
    split at h
    · rename_i hl
      cases h
      simp only [ha, if_true, wpA_bind, wpA_need, hl, wpA_ret, true_and, List.append_nil]
    · cases h
  · rename_i ha
    split at h
    · rename_i hl
      cases ls with
      | nil => simp at h
      | cons l ls =>
        simp only [List.head?_cons, Option.some.injEq] at h
        subst h
        simp only [ha, wpA_bind, wpA_need, hl, wpA_ret, true_and, List.append_nil, Bool.false_eq_true, if_false, and_self]
    · cases h

theorem x_load_ipt {a : Operand} {T j : Nat} {e v : AV} (ha : opd A a = some (.ipt e j)) (hp : partF cx.P T ((leaves e).drop j) = some v) (hk : slotOk keep (.t d) v = true)
    (h : XR cx keep ops0 r ((.t d, v) :: A) fun A' lg => Q A' ((rds a, [.t d]) :: lg)) : XR cx keep ops0 (⟨some d, .load T a, ty, pos, aft, none⟩ :: r) A Q :=
  x_val (fun o ho => by simp only [aopV, ho]) (by simp only [opV, wpA_bind, wpA_rdO ha, loadA, wpA_partOf hp, List.append_nil, and_self]) hk h

theorem x_load_ptr {a : Operand} {T id g m s i j : Nat} {es : List AV} {e v : AV} (ha : opd A a = some (.ptr id g none i j)) (ho : look A (.h id) = some (.obj g m s es)) (he : es[i]? = some e)
    (hp : partF cx.P T (viewLeaves id g none i j ((leaves e).drop j)) = some v) (hk : slotOk keep (.t d) v = true)
    (h : XR cx keep ops0 r ((.t d, v) :: A) fun A' lg => Q A' ((rds a ++ [.h id], [.t d]) :: lg)) : XR cx keep ops0 (⟨some d, .load T a, ty, pos, aft, none⟩ :: r) A Q :=
  x_val (fun o ho => by simp only [aopV, ho]) (by simp only [opV, wpA_bind, wpA_rdO ha, loadA, rdNode, wpA_read ho, wpA_need, wpA_ret, he, wpA_partOf hp, List.append_nil, List.nil_append, true_and, and_self]) hk h

/-- a list's element in an object -/
theorem x_load_map {α : Type} [Inhabited α] {f : α → AV} {xs : List α} {a : Operand} {T id g m s i : Nat} {v : AV} (ha : opd A a = some (.ptr id g none i 0)) (ho : look A (.h id) = some (.obj g m s (xs.map f))) (hi : i < xs.length)
    (hp : partF cx.P T (viewLeaves id g none i 0 (leaves (f (xs.getD i default)))) = some v) (hk : slotOk keep (.t d) v = true)
    (h : XR cx keep ops0 r ((.t d, v) :: A) fun A' lg => Q A' ((rds a ++ [.h id], [.t d]) :: lg)) : XR cx keep ops0 (⟨some d, .load T a, ty, pos, aft, none⟩ :: r) A Q :=
  x_load_ptr (e := f (xs.getD i default)) ha ho (by rw [List.getElem?_map, List.getElem?_eq_getElem hi, List.getD_eq_getElem?_getD, List.getElem?_eq_getElem hi]; rfl) hp hk h

theorem x_fieldAddr {x : Operand} {S f o ft : Nat} {v v' : AV} (hx : opd A x = some v) (hT : (match (tyS cx.P S).k with | .struct fs => fs[f]? | _ => none) = some (o, ft)) (hs : (tyS cx.P ft).size ≠ 0)
    (hv : (match v with | .ptr id g p i j => some (.ptr id g p i (j + o)) | .ipt e j => some (.ipt e (j + o)) | _ => none) = some v') (hk : slotOk keep (.t d) v' = true)
    (h : XR cx keep ops0 r ((.t d, v') :: A) fun A' lg => Q A' ((rds x, [.t d]) :: lg)) : XR cx keep ops0 (⟨some d, .fieldAddr S x f, ty, pos, aft, none⟩ :: r) A Q := by
  refine x_val (fun o ho => by simp only [aopV, ho]) ?_ hk h
  simp only [opV, wpA_bind, wpA_rdO hx, fieldAddrA]
  split at hT
  · rename_i fs hfs
    simp only [hfs, hT, wpA_bind, wpA_need]
    refine ⟨hs, ?_⟩
    split at hv
    · cases hv; simp only [wpA_ret, List.append_nil, and_self]
    · cases hv; simp only [wpA_ret, List.append_nil, and_self]
    · cases hv
  · cases hT

theorem x_extract {x : Operand} {i : Nat} {vs : List AV} {v : AV} (hx : opd A x = some (.tup vs)) (hv : vs[i]? = some v) (hk : slotOk keep (.t d) v = true)
    (h : XR cx keep ops0 r ((.t d, v) :: A) fun A' lg => Q A' ((rds x, [.t d]) :: lg)) : XR cx keep ops0 (⟨some d, .extract x i, ty, pos, aft, none⟩ :: r) A Q :=
  x_val (fun o ho => by simp only [aopV, ho]) (by simp only [opV, wpA_bind, wpA_rdO hx, hv, wpA_ret, List.append_nil, and_self]) hk h

theorem x_nilCheck {x : Operand} {v : AV} (hx : opd A x = some v) (hv : (match v with | .ptr .. => true | .ipt .. => true | _ => false) = true) (hk : slotOk keep (.t d) v = true)
    (h : XR cx keep ops0 r ((.t d, v) :: A) fun A' lg => Q A' ((rds x, [.t d]) :: lg)) : XR cx keep ops0 (⟨some d, .nilCheck x, ty, pos, aft, none⟩ :: r) A Q := by
  refine x_val (fun o ho => by simp only [aopV, ho]) ?_ hk h
  simp only [opV, wpA_bind, wpA_rdO hx]
  cases v <;> first | (cases hv; done) | simp [wpA_ret]

/-- an index into a text -/
theorem x_index_str {x i : Operand} {T : Nat} {s : ByteArray} {k : IntKind} {n : Int} {b : UInt8} (hT : isStrK (tyS cx.P T).k = true) (hx : opd A x = some (.val (.string s))) (hi : opd A i = some (.val (.int k n))) (hn : 0 ≤ n)
    (hb : s.data.toList[n.toNat]? = some b)
    (h : XR cx keep ops0 r ((.t d, uV b.toNat) :: A) fun A' lg => Q A' ((rds x ++ rds i, [.t d]) :: lg)) : XR cx keep ops0 (⟨some d, .index T x i, ty, pos, aft, none⟩ :: r) A Q := by
  refine x_val (fun o ho => by simp only [aopV, ho]) ?_ (by simp [slotOk, refOkV, refsOk]) h
  unfold isStrK at hT
  split at hT
  · rename_i he
    simp only [opV, wpA_bind, wpA_rdO hx, wpA_rdO hi, indexA, wpA_asNat hn, he, hb, wpA_ret, List.append_nil, List.nil_append, and_self]
  · cases hT

theorem x_conv {S T : Nat} {x : Operand} {k k0 k' : IntKind} {n : Int} (hS : (tyS cx.P S).k = .int k0) (hT : (tyS cx.P T).k = .int k) (hx : opd A x = some (.val (.int k' n))) (hi : inI k n)
    (h : XR cx keep ops0 r ((.t d, .val (.int k n)) :: A) fun A' lg => Q A' ((rds x, [.t d]) :: lg)) : XR cx keep ops0 (⟨some d, .convert S T x, ty, pos, aft, none⟩ :: r) A Q :=
  x_val (fun o ho => by simp only [aopV, ho]) (by simp only [opV, wpA_bind, wpA_rdO hx, convA, hS, hT, wpA_need, wpA_ret, List.append_nil, List.nil_append, and_self, and_true]; exact hi) (by simp [slotOk, refOkV, refsOk]) h

theorem x_slice_list {x : Operand} {T E : Nat} {lo hi : Option Operand} {es : List AV} {l m : Nat} {ls1 ls2 : List Mv.Loc} (hx : opd A x = some (.list es)) (hT : (tyS cx.P T).k = .slice E) (hb : isBad (tyS cx.P E).k = false)
    (hz : sizedL (tyS cx.P E).size es = true) (hh : wpA (CW cx) A (optNat hi es.length) fun n ls => n = m ∧ ls = ls1) (hl : wpA (CW cx) A (optNat lo 0) fun n ls => n = l ∧ ls = ls2) (hc : l ≤ m ∧ m ≤ es.length)
    (h : XR cx keep ops0 r ((.t d, .list ((es.drop l).take (m - l))) :: A) fun A' lg => Q A' ((rds x ++ (ls1 ++ ls2), [.t d]) :: lg)) : XR cx keep ops0 (⟨some d, .slice T x lo hi none, ty, pos, aft, none⟩ :: r) A Q := by
  refine x_val (fun o ho => by simp only [aopV, ho]) ?_ (by simp [slotOk, refOkV, refsOk]) h
  simp only [opV, wpA_bind, wpA_rdO hx, sliceA, hT, optNat, wpA_ret, List.nil_append]
  refine wpA_mono ?_ hh
  rintro _ _ ⟨rfl, rfl⟩
  refine wpA_mono ?_ hl
  rintro _ _ ⟨rfl, rfl⟩
  simp only [wpA_need, hb, hz, wpA_ret, ne_eq, not_true_eq_false, false_and, if_false, List.append_nil, List.nil_append, and_self, and_true, true_and, true_or, Nat.le_refl, hc]
end
end Go.Mv
end

section
namespace Go.Mv
open Go

theorem over_nil' {α : Type} (x : Rd α) : x.over [] = x := by
  induction x with
  | ret a => rfl
  | fail => rfl
  | read l k ih => simp only [Rd.over, Ws.look, ih]
  | need p d k ih => simp only [Rd.over, ih]
  | call f as k ih => simp only [Rd.over, ih]

section
variable {cx : Cx} {keep : List Nat} {ops0 : Array Oper} {r : List Oper} {A : Asr} {Q : Asr → List Log → Prop} {d : Nat} {ty : Nat} {pos : String} {aft : Array Edge}

/-- any operation, by what it answers and writes -/
theorem x_op {o : Oper} (hg : o.guard = none) {v : AV} {ws : Ws} {ls : List Mv.Loc} {A1 : Asr} (h : wpW (CW cx) A (aopV cx o) fun a w l => a = v ∧ w = ws ∧ l = ls)
    (hk : tRefsOk keep (keptWs keep (ws ++ setD o v)) = true) (hA : Wk (puts A (ws ++ setD o v)) A1) (hx : XR cx keep ops0 r A1 fun A' lg => Q A' ((ls, wmap (ws ++ setD o v)) :: lg)) : XR cx keep ops0 (o :: r) A Q := by
  refine xr_cons ?_
  have : aoper cx ops0 o = aop cx o := by unfold aoper; simp only [hg]
  rw [this]
  unfold aop
  refine wpW_bind (wpW_mono h ?_)
  rintro _ _ _ ⟨rfl, rfl, rfl⟩
  refine wpW_wr ?_
  simp only [List.append_nil]
  exact ⟨hk, XR.wk hA hx⟩

/-- the same, the stamp of a new object left open -/
theorem x_opG {o : Oper} (hg : o.guard = none) {v : Nat → AV} {ws : Nat → Ws} {ls : List Mv.Loc} {lw : List Mv.Loc} {A1 : Nat → Asr} (h : wpW (CW cx) A (aopV cx o) fun a w l => ∃ g, a = v g ∧ w = ws g ∧ l = ls)
    (hk : ∀ g, tRefsOk keep (keptWs keep (ws g ++ setD o (v g))) = true) (hw : ∀ g, wmap (ws g ++ setD o (v g)) = lw) (hA : ∀ g, Wk (puts A (ws g ++ setD o (v g))) (A1 g))
    (hx : ∀ g, XR cx keep ops0 r (A1 g) fun A' lg => Q A' ((ls, lw) :: lg)) : XR cx keep ops0 (o :: r) A Q := by
  refine xr_cons ?_
  have : aoper cx ops0 o = aop cx o := by unfold aoper; simp only [hg]
  rw [this]
  unfold aop
  refine wpW_bind (wpW_mono h ?_)
  rintro _ _ _ ⟨g, rfl, rfl, rfl⟩
  refine wpW_wr ?_
  simp only [List.append_nil]
  refine ⟨hk g, XR.wk (hA g) ?_⟩
  rw [hw g]
  exact hx g

theorem wpW_rdO {C : Caller} {x : Operand} {v : AV} (h : opd A x = some v) {R : AV → Ws → List Mv.Loc → Prop} (hr : R v [] (rds x)) : wpW C A (up (rdO x)) R :=
  wpW_up (by rw [wpA_rdO h]; exact hr)
theorem wpW_need {C : Caller} {p : Prop} [Decidable p] (h : p) {R : Unit → Ws → List Mv.Loc → Prop} (hr : R () [] []) : wpW C A (up (need p)) R :=
  wpW_up (by rw [wpA_need]; exact ⟨h, hr⟩)
theorem wpW_node {C : Caller} {id g m s : Nat} {es : List AV} (ho : look A (.h id) = some (.obj g m s es)) {R : Nat × Nat × List AV → Ws → List Mv.Loc → Prop} (hr : R (m, s, es) [] [.h id]) : wpW C A (up (rdNode id g none)) R :=
  wpW_up (by simp only [rdNode, wpA_read ho, wpA_bind, wpA_need, wpA_ret, true_and, List.append_nil]; exact hr)
theorem wpW_elem {C : Caller} {P : Program} {T E s : Nat} (hT : elemT P T = some (E, s)) {R : Nat → Ws → List Mv.Loc → Prop} (hr : R E [] []) : wpW C A (up (elemOf P T)) R :=
  wpW_up (by rw [(wpA_elemOf hT _).1]; exact hr)
theorem wpW_stamp {C : Caller} {l : Mv.Loc} {R : AV → Ws → List Mv.Loc → Prop} (hr : ∀ v, R v [] [l]) : wpW C A (up (rd l)) R := by
  refine wpW_up ?_
  unfold rd
  simp only [wpA]
  cases look A l with
  | some v => exact hr v
  | none => exact hr
theorem elemT_size {P : Program} {T E s : Nat} (hT : elemT P T = some (E, s)) : (tyS P E).size = s :=
  (wpA_elemOf (C := fun _ _ => none) (A := []) hT fun _ _ => True).2

def asgPlain : AV → Bool
  | .nil => false
  | .sl _ _ none 0 _ => false
  | .ptr _ _ none _ _ => false
  | _ => true

theorem asgPlain_eq {P : Program} {T X : Nat} {v : AV} (h : asgPlain v = true) : assignA P T X v = pure v := by
  unfold assignA
  split
  · simp [asgPlain] at h
  · simp [asgPlain] at h
  · simp [asgPlain] at h
  · rfl

theorem wk_put2 (A : Asr) (l k : Mv.Loc) (a b : AV) : Wk (put (put A l a) k b) ((k, b) :: (l, a) :: A) := by
  intro m c h
  rw [look_put, look_put]
  simp only [look] at h
  cases h1 : Loc.beq m k <;> cases h2 : Loc.beq m l <;> simp_all

theorem wk_put1 (A : Asr) (l : Mv.Loc) (a : AV) : Wk (put A l a) ((l, a) :: A) := by
  intro m c h
  rw [← look_cons_eq]; exact h

theorem wk_put3 (A : Asr) (l k n : Mv.Loc) (a b e : AV) : Wk (put (put (put A l a) k b) n e) ((n, e) :: (k, b) :: (l, a) :: A) := by
  intro m c h
  rw [look_put, look_put, look_put]
  simp only [look] at h
  cases h1 : Loc.beq m n <;> cases h2 : Loc.beq m k <;> cases h3 : Loc.beq m l <;> simp_all

theorem wk_put4 (A : Asr) (l k n q : Mv.Loc) (a b e f : AV) : Wk (put (put (put (put A l a) k b) n e) q f) ((q, f) :: (n, e) :: (k, b) :: (l, a) :: A) := by
  intro m c h
  rw [look_put, look_put, look_put, look_put]
  simp only [look] at h
  cases h1 : Loc.beq m n <;> cases h2 : Loc.beq m k <;> cases h3 : Loc.beq m l <;> cases h4 : Loc.beq m q <;> simp_all

/-- an assignment of what is no object of the frame's -/
theorem x_assign {x : Operand} {v : AV} (hx : opd A x = some v) (hp : asgPlain v = true) (hk : slotOk keep (.t d) v = true) (h : XR cx keep ops0 r ((.t d, v) :: A) fun A' lg => Q A' ((rds x, [.t d]) :: lg)) :
    XR cx keep ops0 (⟨some d, .assign x, ty, pos, aft, none⟩ :: r) A Q := by
  refine x_op (v := v) (ws := []) (ls := rds x) rfl ?_ (tRefs_one hk) (wk_put1 _ _ _) h
  simp only [aopV]
  refine wpW_bind (wpW_rdO hx ?_)
  simp only [asgPlain_eq hp]
  exact wpW_pure (by simp)

theorem x_assign_nil {x : Operand} {E s : Nat} (hx : opd A x = some .nil) (hT : elemT cx.P ty = some (E, s)) (hk : ∀ g, slotOk keep (.t d) (.sl d g none 0 0) = true)
    (h : ∀ g, XR cx keep ops0 r ((.t d, .sl d g none 0 0) :: (.h d, .obj g 0 s []) :: A) fun A' lg => Q A' ((rds x ++ [.h d], [.h d, .t d]) :: lg)) :
    XR cx keep ops0 (⟨some d, .assign x, ty, pos, aft, none⟩ :: r) A Q := by
  refine x_opG (v := fun g => .sl d g none 0 0) (ws := fun g => [(.h d, .obj g 0 s [])]) (ls := rds x ++ [.h d]) rfl ?_ (fun g => tRefs_cons (by simp [slotOk, refOkV, noRefL]) (tRefs_one (hk g))) (fun g => rfl) (fun g => wk_put2 _ _ _ _ _) h
  have hs := elemT_size hT
  simp only [aopV]
  refine wpW_bind (wpW_rdO hx ?_)
  simp only [assignA]
  refine wpW_bind (wpW_elem hT (wpW_bind (wpW_stamp fun o => ?_)))
  refine wpW_bind (wpW_wr (wpW_pure ?_))
  exact ⟨_, rfl, by simp [hs], by simp⟩

/-- an owned slice goes over to a variable -/
theorem x_assign_own {x : Operand} {id g s n : Nat} {es : List AV} (hx : opd A x = some (.sl id g none 0 n)) (ho : look A (.h id) = some (.obj g 0 s es)) (hn : n = es.length) (hne : Loc.beq (.h d) (.h id) = false)
    (hko : ∀ g, slotOk keep (.h d) (.obj g 0 s es) = true) (hk : ∀ g, slotOk keep (.t d) (.sl d g none 0 n) = true)
    (h : ∀ g', XR cx keep ops0 r ((.t d, .sl d g' none 0 n) :: (.h d, .obj g' 0 s es) :: (.h id, .dead g) :: A) fun A' lg => Q A' ((rds x ++ [.h id, .h d], [.h id, .h d, .t d]) :: lg)) :
    XR cx keep ops0 (⟨some d, .assign x, ty, pos, aft, none⟩ :: r) A Q := by
  have hid : ¬ id = d := fun e => by rw [e] at hne; simp [Loc.beq] at hne
  refine x_opG (v := fun g => .sl d g none 0 n) (ws := fun g' => [(.h id, .dead g), (.h d, .obj g' 0 s es)]) (ls := rds x ++ [.h id, .h d]) rfl ?_
    (fun g => tRefs_cons (by simp [slotOk, refOkV]) (tRefs_cons (hko g) (tRefs_one (hk g)))) (fun g => rfl) (fun g => wk_put3 _ _ _ _ _ _ _) h
  subst hn
  simp only [aopV]
  refine wpW_bind (wpW_rdO hx ?_)
  simp only [assignA]
  refine wpW_bind (wpW_node ho ?_)
  simp only [if_true]
  refine wpW_bind (wpW_need (Nat.le_refl _) ?_)
  simp only [hid, if_false]
  refine wpW_bind (wpW_wr (wpW_bind (wpW_stamp fun o => wpW_bind (wpW_wr (wpW_pure ?_)))))
  exact ⟨_, rfl, by simp, by simp⟩

theorem x_assign_self {x : Operand} {g s n : Nat} {es : List AV} (hx : opd A x = some (.sl d g none 0 n)) (ho : look A (.h d) = some (.obj g 0 s es)) (hn : n = es.length)
    (hko : slotOk keep (.h d) (.obj g 0 s es) = true) (hk : slotOk keep (.t d) (.sl d g none 0 n) = true)
    (h : XR cx keep ops0 r ((.t d, .sl d g none 0 n) :: (.h d, .obj g 0 s es) :: A) fun A' lg => Q A' ((rds x ++ [.h d], [.h d, .t d]) :: lg)) :
    XR cx keep ops0 (⟨some d, .assign x, ty, pos, aft, none⟩ :: r) A Q := by
  refine x_op (v := .sl d g none 0 n) (ws := [(.h d, .obj g 0 s es)]) (ls := rds x ++ [.h d]) rfl ?_ (tRefs_cons hko (tRefs_one hk)) (wk_put2 _ _ _ _ _) h
  subst hn
  simp only [aopV]
  refine wpW_bind (wpW_rdO hx ?_)
  simp only [assignA]
  refine wpW_bind (wpW_node ho ?_)
  simp only [if_true]
  refine wpW_bind (wpW_need (Nat.le_refl _) (wpW_bind (wpW_wr (wpW_pure ?_))))
  exact ⟨rfl, by simp, by simp⟩

/-- a slice that is not the frame's own -/
theorem x_assign_in {x : Operand} {id g m s n : Nat} {es : List AV} (hx : opd A x = some (.sl id g none 0 n)) (ho : look A (.h id) = some (.obj g m s es)) (hm : m ≠ 0) (hk : slotOk keep (.t d) (.sl id g none 0 n) = true)
    (h : XR cx keep ops0 r ((.t d, .sl id g none 0 n) :: A) fun A' lg => Q A' ((rds x ++ [.h id], [.t d]) :: lg)) :
    XR cx keep ops0 (⟨some d, .assign x, ty, pos, aft, none⟩ :: r) A Q := by
  refine x_op (v := .sl id g none 0 n) (ws := []) (ls := rds x ++ [.h id]) rfl ?_ (tRefs_one hk) (wk_put1 _ _ _) h
  simp only [aopV]
  refine wpW_bind (wpW_rdO hx ?_)
  simp only [assignA]
  refine wpW_bind (wpW_node ho ?_)
  simp only [hm, if_false]
  exact wpW_pure (by simp)

/-- a pointer that keeps its box -/
theorem x_assign_ptr {x : Operand} {id g m s i j : Nat} {es : List AV} (hx : opd A x = some (.ptr id g none i j)) (ho : look A (.h id) = some (.obj g m s es)) (hm : (m == 3 && immL es) = false) (hk : slotOk keep (.t d) (.ptr id g none i j) = true)
    (h : XR cx keep ops0 r ((.t d, .ptr id g none i j) :: A) fun A' lg => Q A' ((rds x ++ [.h id], [.t d]) :: lg)) :
    XR cx keep ops0 (⟨some d, .assign x, ty, pos, aft, none⟩ :: r) A Q := by
  have hc : ¬ (m = 3 ∧ id ≠ d ∧ immL es = true) := by
    rintro ⟨rfl, _, hi⟩
    simp [hi] at hm
  refine x_op (v := .ptr id g none i j) (ws := []) (ls := rds x ++ [.h id]) rfl ?_ (tRefs_one hk) (wk_put1 _ _ _) h
  simp only [aopV]
  refine wpW_bind (wpW_rdO hx ?_)
  simp only [assignA]
  refine wpW_bind (wpW_node ho ?_)
  simp only [hc, if_false]
  exact wpW_pure (by simp)

/-- a box goes over to a variable -/
theorem x_assign_box {x : Operand} {id g s i j : Nat} {es : List AV} (hx : opd A x = some (.ptr id g none i j)) (ho : look A (.h id) = some (.obj g 3 s es)) (hi : immL es = true) (hne : Loc.beq (.h d) (.h id) = false)
    (hko : ∀ g, slotOk keep (.h d) (.obj g 3 s es) = true) (hk : ∀ g, slotOk keep (.t d) (.ptr d g none i j) = true)
    (h : ∀ g', XR cx keep ops0 r ((.t d, .ptr d g' none i j) :: (.h d, .obj g' 3 s es) :: (.h id, .dead g) :: A) fun A' lg => Q A' ((rds x ++ [.h id, .h d], [.h id, .h d, .t d]) :: lg)) :
    XR cx keep ops0 (⟨some d, .assign x, ty, pos, aft, none⟩ :: r) A Q := by
  have hid : id ≠ d := fun e => by rw [e] at hne; simp [Loc.beq] at hne
  refine x_opG (v := fun g => .ptr d g none i j) (ws := fun g' => [(.h id, .dead g), (.h d, .obj g' 3 s es)]) (ls := rds x ++ [.h id, .h d]) rfl ?_
    (fun g => tRefs_cons (by simp [slotOk, refOkV]) (tRefs_cons (hko g) (tRefs_one (hk g)))) (fun g => rfl) (fun g => wk_put3 _ _ _ _ _ _ _) h
  simp only [aopV]
  refine wpW_bind (wpW_rdO hx ?_)
  simp only [assignA]
  refine wpW_bind (wpW_node ho ?_)
  simp only [hid, hi, ne_eq, not_false_eq_true, and_self, if_true]
  refine wpW_bind (wpW_wr (wpW_bind (wpW_stamp fun o => wpW_bind (wpW_wr (wpW_pure ?_)))))
  exact ⟨_, rfl, by simp, by simp⟩

/-! ### guards -/
def addRd (l : Mv.Loc) : List Log → List Log
  | (r, w) :: lg => (l :: r, w) :: lg
  | [] => []

theorem aoper_guard {o : Oper} {g : Nat} {want : Bool} {dg : Nat} (hg : o.guard = some (g, want)) (hd : (ops0[g]?).bind (·.dst) = some dg) :
    aoper cx ops0 o = (do
      let v ← up (rd (.t dg))
      match v with
      | .val (.bool b) => if b = want then aop cx o else wr (setD o (.val Go.undef))
      | .val (.tuple _) => wr (setD o (.val Go.undef))
      | _ => RW.fail) := by
  unfold aoper
  simp only [hg, hd]
  rfl

/-- the guard lets it be done -/
theorem x_guard_t {op : Op} {dst : Option Nat} {g dg : Nat} {want b : Bool} (hd : (ops0[g]?).bind (·.dst) = some dg) (hb : look A (.t dg) = some (.val (.bool b))) (hw : b = want)
    (h : XR cx keep ops0 (⟨dst, op, ty, pos, aft, none⟩ :: r) A fun A' lg => Q A' (addRd (.t dg) lg)) : XR cx keep ops0 (⟨dst, op, ty, pos, aft, some (g, want)⟩ :: r) A Q := by
  intro st hs
  obtain ⟨ws, lg, lg', h1, hl, h2, h3⟩ := h st hs
  have hst := hs _ _ hb
  simp only [runOps] at h1 ⊢
  cases ho : Rd.run (α := Unit × Ws) (CW cx) st (aoper cx ops0 ⟨dst, op, ty, pos, aft, none⟩) with
  | none => simp [ho] at h1
  | some z =>
    obtain ⟨⟨⟨⟩, ws1⟩, rs⟩ := z
    have haop : aop cx ⟨dst, op, ty, pos, aft, some (g, want)⟩ = aop cx ⟨dst, op, ty, pos, aft, none⟩ := by
      unfold aop aopV
      cases op <;> rfl
    have hrun : Rd.run (α := Unit × Ws) (CW cx) st (aoper cx ops0 ⟨dst, op, ty, pos, aft, some (g, want)⟩) = some (((), ws1), Mv.Loc.t dg :: rs) := by
      rw [aoper_guard rfl hd]
      have ho' : Rd.run (α := Unit × Ws) (CW cx) st (aop cx ⟨dst, op, ty, pos, aft, none⟩) = some (((), ws1), rs) := ho
      refine run_bind2 (α := AV × Ws) (β := Unit × Ws) (up (rd (.t dg))) _ (a := (.val (.bool b), [])) (ls := [.t dg]) (ms := rs) ?_ ?_
      · refine run_up (rd (.t dg)) ?_
        simp only [rd, Rd.run, hst]
      · simp only [hw, if_true, haop]
        have e := over_nil' (α := Unit × Ws) (aop cx ⟨dst, op, ty, pos, aft, none⟩)
        have ho2 : Rd.run (α := Unit × Ws) (CW cx) st (Rd.over (α := Unit × Ws) [] (aop cx ⟨dst, op, ty, pos, aft, none⟩)) = some (((), ws1), rs) :=
          (congrArg (fun y => Rd.run (α := Unit × Ws) (CW cx) st y) e).trans ho'
        have := run_bind2 (α := Unit × Ws) (β := Unit × Ws) _ (fun b => .ret (b.1, [] ++ b.2)) ho2 (b := ((), ws1)) (ms := []) rfl
        simpa using this
    rw [hrun]
    simp only [ho] at h1 ⊢
    cases h5 : runOps (CW cx) cx ops0 r (st.upds ws1) with
    | none => simp [h5] at h1
    | some z2 =>
      obtain ⟨ws2, lg2⟩ := z2
      simp only [h5, Option.some.injEq, Prod.mk.injEq] at h1 ⊢
      obtain ⟨rfl, rfl⟩ := h1
      cases lg' with
      | nil => exact hl.elim
      | cons a lg' =>
        obtain ⟨q1, q2, q3⟩ := hl
        refine ⟨_, _, addRd (.t dg) (a :: lg'), ⟨rfl, rfl⟩, ⟨fun l hl => ?_, q2, q3⟩, h2, h3⟩
        cases hl with
        | head => exact List.mem_cons_self ..
        | tail _ hl => exact List.mem_cons_of_mem _ (q1 l hl)

/-- the guard passes it over -/
theorem x_guard_f {op : Op} {g dg : Nat} {want b : Bool} (hd : (ops0[g]?).bind (·.dst) = some dg) (hb : look A (.t dg) = some (.val (.bool b))) (hw : b = !want)
    (h : XR cx keep ops0 r ((.t d, .val (.tuple #[])) :: A) fun A' lg => Q A' (([.t dg], [.t d]) :: lg)) : XR cx keep ops0 (⟨some d, op, ty, pos, aft, some (g, want)⟩ :: r) A Q := by
  refine xr_cons ?_
  rw [aoper_guard rfl hd]
  refine wpW_bind (wpW_up ?_)
  rw [wpA_rd hb]
  have : ¬ b = want := by subst hw; cases want <;> decide
  simp only [this, if_false]
  exact wpW_wr ⟨tRefs_one (by simp [slotOk, refOkV, refsOk, Go.undef]), XR.wk (wk_put1 _ _ _) h⟩

theorem x_guard_fn {op : Op} {g dg : Nat} {want b : Bool} (hd : (ops0[g]?).bind (·.dst) = some dg) (hb : look A (.t dg) = some (.val (.bool b))) (hw : b = !want)
    (h : XR cx keep ops0 r A fun A' lg => Q A' (([.t dg], []) :: lg)) : XR cx keep ops0 (⟨none, op, ty, pos, aft, some (g, want)⟩ :: r) A Q := by
  refine xr_cons ?_
  rw [aoper_guard rfl hd]
  refine wpW_bind (wpW_up ?_)
  rw [wpA_rd hb]
  have : ¬ b = want := by subst hw; cases want <;> decide
  simp only [this, if_false]
  exact wpW_wr ⟨rfl, h⟩

/-- its guard was itself passed over -/
theorem x_guard_u {op : Op} {g dg : Nat} {want : Bool} {t : Array Value} (hd : (ops0[g]?).bind (·.dst) = some dg) (hb : look A (.t dg) = some (.val (.tuple t)))
    (h : XR cx keep ops0 r ((.t d, .val (.tuple #[])) :: A) fun A' lg => Q A' (([.t dg], [.t d]) :: lg)) : XR cx keep ops0 (⟨some d, op, ty, pos, aft, some (g, want)⟩ :: r) A Q := by
  refine xr_cons ?_
  rw [aoper_guard rfl hd]
  refine wpW_bind (wpW_up ?_)
  rw [wpA_rd hb]
  exact wpW_wr ⟨tRefs_one (by simp [slotOk, refOkV, refsOk, Go.undef]), XR.wk (wk_put1 _ _ _) h⟩

theorem x_guard_split {op : Op} {g dg : Nat} {want b : Bool} (hd : (ops0[g]?).bind (·.dst) = some dg) (hb : look A (.t dg) = some (.val (.bool b)))
    (h1 : b = want → XR cx keep ops0 (⟨some d, op, ty, pos, aft, none⟩ :: r) A fun A' lg => Q A' (addRd (.t dg) lg))
    (h2 : b = !want → XR cx keep ops0 r ((.t d, .val (.tuple #[])) :: A) fun A' lg => Q A' (([.t dg], [.t d]) :: lg)) : XR cx keep ops0 (⟨some d, op, ty, pos, aft, some (g, want)⟩ :: r) A Q := by
  by_cases h : b = want
  · exact x_guard_t hd hb h (h1 h)
  · have : b = !want := by cases b <;> cases want <;> simp_all
    exact x_guard_f hd hb this (h2 this)

theorem x_pick_t {c a b : Operand} {t : Bool} {va : AV} (hc : opd A c = some (.val (.bool t))) (ht : t = true) (ha : opd A a = some va) (hk : slotOk keep (.t d) va = true)
    (h : XR cx keep ops0 r ((.t d, va) :: A) fun A' lg => Q A' ((rds c ++ rds a, [.t d]) :: lg)) : XR cx keep ops0 (⟨some d, .pick c a b, ty, pos, aft, none⟩ :: r) A Q :=
  x_val (fun o ho => by simp only [aopV, ho]) (by subst ht; simp [opV, wpA_bind, wpA_rdO hc, wpA_rdO ha]) hk h
theorem x_pick_f {c a b : Operand} {t : Bool} {vb : AV} (hc : opd A c = some (.val (.bool t))) (ht : t = false) (hb : opd A b = some vb) (hk : slotOk keep (.t d) vb = true)
    (h : XR cx keep ops0 r ((.t d, vb) :: A) fun A' lg => Q A' ((rds c ++ rds b, [.t d]) :: lg)) : XR cx keep ops0 (⟨some d, .pick c a b, ty, pos, aft, none⟩ :: r) A Q :=
  x_val (fun o ho => by simp only [aopV, ho]) (by subst ht; simp [opV, wpA_bind, wpA_rdO hc, wpA_rdO hb]) hk h

theorem slot_obj {g s : Nat} {es : List AV} (h : noRefL es = true) : slotOk keep (.h d) (.obj g 0 s es) = true := by simp [slotOk, refOkV, h]
theorem slot_obj1 {g s : Nat} {es : List AV} (h : noRefL es = true) : slotOk keep (.h d) (.obj g 1 s es) = true := by simp [slotOk, refOkV, h]
theorem slot_box {g s : Nat} {es : List AV} (h : immL es = true) : slotOk keep (.h d) (.obj g 3 s es) = true := by simp [slotOk, refOkV, immL_refs h]
theorem slot_box4 {g s : Nat} {es : List AV} (h : immL es = true) : slotOk keep (.h d) (.obj g 4 s es) = true := by simp [slotOk, refOkV, immL_refs h]
end
theorem noRef_map {α : Type} {f : α → AV} {xs : List α} (h : ∀ a, noRefEl (f a) = true) : noRefL (xs.map f) = true := by
  unfold noRefL
  rw [List.all_map, List.all_eq_true]
  exact fun a _ => h a
theorem imm_map {α : Type} {f : α → AV} {xs : List α} (h : ∀ a, immEl (f a) = true) : immL (xs.map f) = true := by
  unfold immL
  rw [List.all_map, List.all_eq_true]
  exact fun a _ => h a
theorem frzL_map {α : Type} {f : α → AV} {xs : List α} (h : ∀ a, immEl (f a) = true) : frzL (xs.map f) = xs.map f := frzL_of_imm (imm_map h)
end Go.Mv
end

section
namespace Go.Mv
open Go

/-- what a piece of code does, from what is known to what is known -/
def XA (cx : Cx) (keep : List Nat) (c : Code) (A : Asr) (Q : AExit → Asr → Prop) : Prop :=
  ∀ st, Sat st A → ∃ n r st', aexec (CW cx) cx keep n c st = some (r, st') ∧ ∃ A', Sat st' A' ∧ Q r A'

def HasL (A : Asr) : Asr → Prop
  | [] => True
  | (l, a) :: r => look A l = some a ∧ HasL A r

def KeepL (keep : List Nat) (A : Asr) : Asr → Prop
  | [] => True
  | (l, a) :: r => keepLoc keep l = true ∧ look A l = some a ∧ KeepL keep A r

theorem look_mem {l : Mv.Loc} {a : AV} : ∀ {B : Asr}, look B l = some a → (l, a) ∈ B := by
  intro B
  induction B with
  | nil => intro h; cases h
  | cons x B ih =>
    intro h
    obtain ⟨k, b⟩ := x
    simp only [look] at h
    cases hb : Loc.beq l k with
    | true =>
      simp only [hb, Option.some.injEq] at h
      have := (Loc.beq_iff _ _).1 hb
      subst this h
      exact List.mem_cons_self ..
    | false =>
      simp only [hb] at h
      exact List.mem_cons_of_mem _ (ih h)

theorem HasL.mem {A : Asr} : ∀ {B : Asr}, HasL A B → ∀ {l a}, (l, a) ∈ B → look A l = some a := by
  intro B
  induction B with
  | nil => intro _ l a h; cases h
  | cons x B ih =>
    intro h l a hm
    cases hm with
    | head => exact h.1
    | tail _ hm => exact ih h.2 hm

theorem KeepL.mem {keep : List Nat} {A : Asr} : ∀ {B : Asr}, KeepL keep A B → ∀ {l a}, (l, a) ∈ B → keepLoc keep l = true ∧ look A l = some a := by
  intro B
  induction B with
  | nil => intro _ l a h; cases h
  | cons x B ih =>
    intro h l a hm
    cases hm with
    | head => exact ⟨h.1, h.2.1⟩
    | tail _ hm => exact ih h.2.2 hm

theorem HasL.sat {A B : Asr} {st : St} (h : HasL A B) (hs : Sat st A) : Sat st B := fun l a hl => hs l a (h.mem (look_mem hl))

section
variable {cx : Cx} {keep : List Nat} {A : Asr} {Q : AExit → Asr → Prop}

theorem XA.wk {c : Code} {B : Asr} (h : HasL A B) (hx : XA cx keep c B Q) : XA cx keep c A Q := fun st hs => hx st (h.sat hs)

theorem XA.mono {c : Code} {Q' : AExit → Asr → Prop} (h : XA cx keep c A Q) (hq : ∀ r A, Q r A → Q' r A) : XA cx keep c A Q' := by
  intro st hs
  obtain ⟨n, r, st', h1, A', h2, h3⟩ := h st hs
  exact ⟨n, r, st', h1, A', h2, hq r A' h3⟩

theorem xa_skip (h : Q .normal A) : XA cx keep .skip A Q := fun st hs => ⟨1, .normal, st, rfl, A, hs, h⟩
theorem xa_exit {i : Nat} (h : Q (.exit i) A) : XA cx keep (.exit i) A Q := fun st hs => ⟨1, .exit i, st, rfl, A, hs, h⟩
theorem xa_ret (h : Q .ret A) : XA cx keep .ret A Q := fun st hs => ⟨1, .ret, st, rfl, A, hs, h⟩

theorem xa_region {id : Nat} {ops : Array Oper} {draw : Bool}
    (h : XR cx keep ops ops.toList A fun A' lg => (draw = true → raceFree ops.toList lg [] = true ∧ topoAny ops = true) ∧ ∃ B, KeepL keep A' B ∧ Q .normal B) : XA cx keep (.region id ops draw) A Q := by
  intro st hs
  obtain ⟨ws, lg, lg', h1, h2, h3, A', h4, h5, B, h6, h7⟩ := h st hs
  refine ⟨1, .normal, st.upds (keptWs keep ws), ?_, B, fun l a hl => ?_, h7⟩
  · simp only [aexec, aregion, h1]
    have : (draw = true → raceFree ops.toList lg [] = true ∧ topoAny ops = true) ∧ tRefsOk keep (keptWs keep ws) = true :=
      ⟨fun hd => ⟨raceFree_mono _ _ _ _ _ h2 rfl (fun i x x' hx => by simp at hx) (h5 hd).1, (h5 hd).2⟩, h3⟩
    rw [if_pos this]
  · obtain ⟨k1, k2⟩ := h6.mem (look_mem hl)
    rw [upds_kept k1]
    exact h4 l a k2

theorem aexec_up (cx : Cx) {keep : List Nat} {n m : Nat} {c : Code} {st : St} {r : AExit × St} (h : aexec (CW cx) cx keep n c st = some r) (hm : n ≤ m) : aexec (CW cx) cx keep m c st = some r :=
  aexec_mono (fun _ _ _ h => h) n m c st hm h

theorem xa_seq {a b : Code} (h : XA cx keep a A fun r A' => match r with
    | .normal => XA cx keep b A' Q
    | r => Q r A') : XA cx keep (.seq a b) A Q := by
  intro st hs
  obtain ⟨n, r, st1, h1, A', h2, h3⟩ := h st hs
  cases r with
  | normal =>
    obtain ⟨m, r2, st2, k1, A2, k2, k3⟩ := h3 st1 h2
    refine ⟨max n m + 1, r2, st2, ?_, A2, k2, k3⟩
    simp only [aexec, aexec_up cx h1 (Nat.le_max_left n m), aexec_up cx k1 (Nat.le_max_right n m)]
  | exit i => exact ⟨n + 1, _, st1, by simp only [aexec, h1], A', h2, h3⟩
  | ret => exact ⟨n + 1, _, st1, by simp only [aexec, h1], A', h2, h3⟩

theorem xa_cond {c : Operand} {a b : Code} {t : Bool} (hc : opd A c = some (.val (.bool t))) (h1 : t = true → XA cx keep a A Q) (h2 : t = false → XA cx keep b A Q) : XA cx keep (.cond c a b) A Q := by
  intro st hs
  have hv : opA st c = .val (.bool t) := by
    cases c with
    | tmp x => exact hs _ _ hc
    | const v => simpa [opd, opA] using hc
    | func f => simp [opd] at hc
    | global g => simp [opd] at hc
  cases t with
  | true =>
    obtain ⟨n, r, st', k1, k2⟩ := h1 rfl st hs
    exact ⟨n + 1, r, st', by simp only [aexec, hv, k1], k2⟩
  | false =>
    obtain ⟨n, r, st', k1, k2⟩ := h2 rfl st hs
    exact ⟨n + 1, r, st', by simp only [aexec, hv, k1], k2⟩

theorem xa_block {id : Nat} {b : Code} (h : XA cx keep b A fun r A' => match r with
    | .exit i => if i = id then Q .normal A' else Q (.exit i) A'
    | r => Q r A') : XA cx keep (.block id b) A Q := by
  intro st hs
  obtain ⟨n, r, st1, h1, A', h2, h3⟩ := h st hs
  cases r with
  | normal => exact ⟨n + 1, _, st1, by simp only [aexec, h1], A', h2, h3⟩
  | ret => exact ⟨n + 1, _, st1, by simp only [aexec, h1], A', h2, h3⟩
  | exit i =>
    by_cases hi : i = id
    · simp only [hi, if_true] at h3
      exact ⟨n + 1, .normal, st1, by simp only [aexec, h1, hi, if_true], A', h2, h3⟩
    · simp only [hi, if_false] at h3
      exact ⟨n + 1, .exit i, st1, by simp only [aexec, h1, hi, if_false], A', h2, h3⟩

/-- a loop: what stands each time around, and what grows less -/
theorem xa_loop {β : Type} {body : Code} (I : β → Asr) (P : β → Prop) (m : β → Nat) (b0 : β) (hA : HasL A (I b0)) (h0 : P b0)
    (hs : ∀ b, P b → XA cx keep body (I b) fun r A' => match r with
      | .normal => ∃ b', P b' ∧ m b' < m b ∧ HasL A' (I b')
      | r => Q r A') : XA cx keep (.loop body) A Q := by
  have key : ∀ n b, m b = n → P b → XA cx keep (.loop body) (I b) Q := by
    intro n
    induction n using Nat.strongRecOn with
    | _ n ih =>
      intro b hb hP st hst
      obtain ⟨k, r, st1, h1, A', h2, h3⟩ := hs b hP st hst
      cases r with
      | normal =>
        obtain ⟨b', hP', hlt, hL⟩ := h3
        obtain ⟨k2, r2, st2, g1, A2, g2, g3⟩ := ih (m b') (hb ▸ hlt) b' rfl hP' st1 (hL.sat h2)
        refine ⟨max k k2 + 1, r2, st2, ?_, A2, g2, g3⟩
        simp only [aexec, aexec_up cx h1 (Nat.le_max_left k k2), aexec_up cx g1 (Nat.le_max_right k k2)]
      | exit i => exact ⟨k + 1, _, st1, by simp only [aexec, h1], A', h2, h3⟩
      | ret => exact ⟨k + 1, _, st1, by simp only [aexec, h1], A', h2, h3⟩
  exact XA.wk hA (key _ b0 rfl h0)
end

/-! ### functions -/
/-- what a function knows as it begins -/
def initA (md : Nat → Nat) : Nat → List AV → Asr
  | _, [] => []
  | i, a :: r => (match a with
    | .own s es => [(.t i, .sl i 1 none 0 es.length), (.h i, .obj 1 (if md i = 2 then 0 else 1) s es)]
    | .ownp es x y => [(.t i, .ptr i 1 none x y), (.h i, .obj 1 4 0 es)]
    | .clo f caps => [(.t i, .clo f (initCaps i 0 caps))]
    | a => [(.t i, a)]) ++ initA md (i + 1) r

theorem initA_mem {md : Nat → Nat} {l : Mv.Loc} {v : AV} : ∀ (as : List AV) (k : Nat), (l, v) ∈ initA md k as → ∃ (j : Nat) (a : AV), as[j]? = some a ∧
    (match a with
    | .own s es => (l = .t (k + j) ∧ v = .sl (k + j) 1 none 0 es.length) ∨ (l = .h (k + j) ∧ v = .obj 1 (if md (k + j) = 2 then 0 else 1) s es)
    | .ownp es x y => (l = .t (k + j) ∧ v = .ptr (k + j) 1 none x y) ∨ (l = .h (k + j) ∧ v = .obj 1 4 0 es)
    | .clo f caps => l = .t (k + j) ∧ v = .clo f (initCaps (k + j) 0 caps)
    | a => l = .t (k + j) ∧ v = a) := by
  intro as
  induction as with
  | nil => intro k h; cases h
  | cons x as ih =>
    intro k h
    simp only [initA] at h
    rcases List.mem_append.1 h with h | h
    · refine ⟨0, x, rfl, ?_⟩
      cases x <;> simp only [List.mem_cons, List.mem_singleton, Prod.mk.injEq, List.not_mem_nil, or_false] at h ⊢ <;> exact h
    · obtain ⟨j, a, h1, h2⟩ := ih (k + 1) h
      refine ⟨j + 1, a, h1, ?_⟩
      rw [show k + (j + 1) = k + 1 + j from by omega]
      exact h2

theorem sat_init {md : Nat → Nat} {as : List AV} (hlen : as.length ≤ 1000) : Sat (initLoc md as) (initA md 0 as) := by
  intro l v hl
  obtain ⟨j, a, h1, h2⟩ := initA_mem as 0 (look_mem hl)
  have hj : j < as.length := (List.getElem?_eq_some_iff.1 h1).1
  simp only [Nat.zero_add] at h2
  cases a with
  | own s es =>
    rcases h2 with ⟨rfl, rfl⟩ | ⟨rfl, rfl⟩
    · simp only [initLoc, h1]
    · exact init_own h1 (by omega)
  | ownp es x y =>
    rcases h2 with ⟨rfl, rfl⟩ | ⟨rfl, rfl⟩
    · simp only [initLoc, h1]
    · exact init_ownp h1 (by omega)
  | _ => obtain ⟨rfl, rfl⟩ := h2; simp only [initLoc, h1]

/-- what a function answers, from what is known at its end -/
def RetA (cx : Cx) (rs : List ResultVar) (cids : List Cid) (A : Asr) (res : AV) (outs : List (List AV)) : Prop :=
  ∀ st, Sat st A → ∃ us ws ls, Rd.run (α := List AV × Ws) (CW cx) st (retAll cx.P rs) = some ((us, ws), ls) ∧ outsOf (st.upds ws) cids = some outs ∧ wrapRes us = res

def FnQ (cx : Cx) (rs : List ResultVar) (cids : List Cid) (res : AV) (outs : List (List AV)) : AExit → Asr → Prop := fun r A =>
  match r with
  | .exit _ => False
  | _ => RetA cx rs cids A res outs

theorem fn_intro {cx : Cx} {f : Nat} {fn : Func} {c : Code} {as : List AV} {res : AV} {outs : List (List AV)} {keep : List Nat} (hx : cx.ext f = none) (hf : cx.P.funcs[f]? = some fn) (hb : fn.body = some c)
    (hc : dstsOk fn.ntmps c = true ∧ as.length = fn.params.size + fn.nfree ∧ as.length ≤ fn.ntmps ∧ as.length ≤ 1000 ∧ (fn.name == "runtime.NumGoroutine") = false) (hk : keepOf fn = keep)
    (h : XA cx keep c (initA (cx.md f) 0 as) (FnQ cx fn.results.toList (cidAll (cx.md f) 0 as) res outs)) : CW cx f as = some (res, outs) := by
  subst hk
  obtain ⟨n, r, st', h1, A', h2, h3⟩ := h _ (sat_init hc.2.2.2.1)
  refine CW_intro cx (n := n) ?_
  unfold acallF
  simp only [hx, hf, hb]
  rw [if_pos hc, h1]
  cases r with
  | exit i => exact h3.elim
  | normal =>
    obtain ⟨us, ws, ls, k1, k2, rfl⟩ := h3 _ h2
    simp only [k1, k2]
  | ret =>
    obtain ⟨us, ws, ls, k1, k2, rfl⟩ := h3 _ h2
    simp only [k1, k2]

/-! ### results -/
def OutsA (A : Asr) : List Cid → List (List AV) → Prop
  | [], [] => True
  | (cid, m, s) :: r, o :: os => look A (.h cid) = some (.obj 1 m s o) ∧ immL o = true ∧ OutsA A r os
  | _, _ => False

theorem OutsA.run {A : Asr} {st : St} (hs : Sat st A) : ∀ (cids : List Cid) (outs : List (List AV)), OutsA A cids outs → outsOf st cids = some outs := by
  intro cids
  induction cids with
  | nil =>
    intro outs h
    cases outs with
    | nil => rfl
    | cons => exact h.elim
  | cons c cids ih =>
    intro outs h
    obtain ⟨cid, m, s⟩ := c
    cases outs with
    | nil => exact h.elim
    | cons o os =>
      obtain ⟨h1, h2, h3⟩ := h
      simp only [outsOf, hs _ _ h1, h2, and_self, if_true, ih os h3, Option.map_some]

theorem ret_of {cx : Cx} {A : Asr} {rs : List ResultVar} {cids : List Cid} {res : AV} {outs : List (List AV)}
    (h : wpW (CW cx) A (retAll cx.P rs) fun us ws _ => wrapRes us = res ∧ OutsA (puts A ws) cids outs) : RetA cx rs cids A res outs := by
  intro st hs
  obtain ⟨us, ws, ls, _, h1, _, h2, h3⟩ := h st hs
  exact ⟨us, ws, ls, h1, h3.run (hs.puts ws) cids outs, h2⟩

section
variable {C : Caller} {A : Asr}

theorem wpW_retLeaf {v : AV} (hv : immLeaf v = true) {R : AV → Ws → List Mv.Loc → Prop} (hr : R v [] []) : wpW C A (retLeaf v) R := by
  cases v with
  | clo f caps => cases caps with
    | nil => exact wpW_pure hr
    | cons => simp [immLeaf] at hv
  | _ => first | exact wpW_pure hr | simp [immLeaf] at hv

theorem wpW_retOwn {id g s n : Nat} {es : List AV} (ho : look A (.h id) = some (.obj g 0 s es)) (hn : n = es.length) (hi : noRefL es = true) {R : AV → Ws → List Mv.Loc → Prop} (hr : R (.own s es) [(.h id, .dead g)] [.h id]) :
    wpW C A (retLeaf (.sl id g none 0 n)) R := by
  subst hn
  unfold retLeaf
  refine wpW_bind (wpW_node ho ?_)
  simp only [and_self, if_true]
  refine wpW_bind (wpW_need ⟨Nat.le_refl _, hi⟩ (wpW_bind (wpW_wr (wpW_pure ?_))))
  simpa using hr

theorem wpW_retLeaves {R : List AV → Ws → List Mv.Loc → Prop} : ∀ (fs : List AV), fs.all immLeaf = true → R fs [] [] → wpW C A (retLeaves fs) R := by
  intro fs
  induction fs generalizing R with
  | nil => exact fun _ hr => wpW_pure hr
  | cons v fs ih =>
    intro h hr
    simp only [List.all_cons, Bool.and_eq_true] at h
    exact wpW_bind (wpW_retLeaf h.1 (wpW_bind (ih h.2 (wpW_pure (by simpa using hr)))))

theorem ret1_leaf {v : AV} (h1 : ∀ fs, v ≠ .agg fs) (h2 : ∀ id g i j, v ≠ .ptr id g none i j) : ret1 v = retLeaf v := by
  unfold ret1
  split
  · exact (h1 _ rfl).elim
  · exact (h2 _ _ _ _ rfl).elim
  · rfl

theorem immEl_leaf {v : AV} (h1 : ∀ fs, v ≠ .agg fs) (h : immEl v = true) : immLeaf v = true := by
  unfold immEl at h
  split at h
  · exact (h1 _ rfl).elim
  · exact h

theorem wpW_ret1 {v : AV} (hv : immEl v = true) {R : AV → Ws → List Mv.Loc → Prop} (hr : R v [] []) : wpW C A (ret1 v) R := by
  by_cases h : ∃ fs, v = .agg fs
  · obtain ⟨fs, rfl⟩ := h
    exact wpW_bind (wpW_retLeaves fs (by simpa [immEl] using hv) (wpW_pure (by simpa using hr)))
  · have h1 : ∀ fs, v ≠ .agg fs := fun fs e => h ⟨fs, e⟩
    have hl := immEl_leaf h1 hv
    rw [ret1_leaf h1 (fun id g i j e => by subst e; simp [immLeaf] at hl)]
    exact wpW_retLeaf hl hr

theorem wpW_ret1Own {id g s n : Nat} {es : List AV} (ho : look A (.h id) = some (.obj g 0 s es)) (hn : n = es.length) (hi : noRefL es = true) {R : AV → Ws → List Mv.Loc → Prop} (hr : R (.own s es) [(.h id, .dead g)] [.h id]) :
    wpW C A (ret1 (.sl id g none 0 n)) R := wpW_retOwn ho hn hi hr

theorem wpW_ret1Box {id g s j : Nat} {es : List AV} (ho : look A (.h id) = some (.obj g 3 s es)) (hi : immL es = true) {R : AV → Ws → List Mv.Loc → Prop} (hr : R (.ownp es 0 j) [(.h id, .dead g)] [.h id]) :
    wpW C A (ret1 (.ptr id g none 0 j)) R := by
  unfold ret1
  refine wpW_bind (wpW_node ho (wpW_bind (wpW_need ⟨rfl, hi, rfl⟩ (wpW_bind (wpW_wr (wpW_pure ?_))))))
  simpa using hr

theorem wpW_retTmp {P : Program} {t : Nat} {v : AV} (hv : look A (.t t) = some v) {R : AV → Ws → List Mv.Loc → Prop} (h : wpW C A (ret1 v) fun a ws ls => R a ws (.t t :: ls)) : wpW C A (retVar P (.tmp t)) R := by
  unfold retVar
  refine wpW_bind (wpW_up ?_)
  rw [wpA_rd hv]
  refine wpW_mono h fun a ws ls h => ?_
  simpa using h

theorem wpW_all {P : Program} {r : ResultVar} {rs : List ResultVar} {R : List AV → Ws → List Mv.Loc → Prop} (h : wpW C A (retVar P r) fun a ws ls => wpW C (puts A ws) (retAll P rs) fun us ws' ls' => R (a :: us) (ws ++ ws') (ls ++ ls')) :
    wpW C A (retAll P (r :: rs)) R := by
  refine wpW_bind (wpW_mono h fun a ws ls h => wpW_bind (wpW_mono h fun us ws' ls' h => wpW_pure ?_))
  simpa using h
end

/-- one plain value -/
theorem ret_val {cx : Cx} {A : Asr} {t : Nat} {v : AV} (hv : look A (.t t) = some v) (hi : immEl v = true) {cids : List Cid} {outs : List (List AV)} (ho : OutsA A cids outs) : RetA cx [.tmp t] cids A v outs :=
  ret_of (wpW_all (wpW_retTmp hv (wpW_ret1 hi (wpW_pure ⟨rfl, ho⟩))))

/-- one slice of the frame's own -/
theorem ret_own {cx : Cx} {A : Asr} {t id g s n : Nat} {es : List AV} (hv : look A (.t t) = some (.sl id g none 0 n)) (hob : look A (.h id) = some (.obj g 0 s es)) (hn : n = es.length) (hi : noRefL es = true)
    {cids : List Cid} {outs : List (List AV)} (ho : OutsA (put A (.h id) (.dead g)) cids outs) : RetA cx [.tmp t] cids A (.own s es) outs :=
  ret_of (wpW_all (wpW_retTmp hv (wpW_ret1Own hob hn hi (wpW_pure ⟨rfl, ho⟩))))

theorem ret_none {cx : Cx} {A : Asr} {cids : List Cid} {outs : List (List AV)} (ho : OutsA A cids outs) : RetA cx [] cids A (.tup []) outs :=
  ret_of (wpW_pure ⟨rfl, ho⟩)

theorem ret_val' {cx : Cx} {A : Asr} {t : Nat} {v res : AV} (hv : look A (.t t) = some v) (hi : immEl v = true) {cids : List Cid} {outs : List (List AV)} (ho : OutsA A cids outs) (he : v = res) : RetA cx [.tmp t] cids A res outs := by
  subst he; exact ret_val hv hi ho
theorem ret_own' {cx : Cx} {A : Asr} {t id g s n : Nat} {es : List AV} {res : AV} (hv : look A (.t t) = some (.sl id g none 0 n)) (hob : look A (.h id) = some (.obj g 0 s es)) (hn : n = es.length) (hi : noRefL es = true)
    {cids : List Cid} {outs : List (List AV)} (ho : OutsA (put A (.h id) (.dead g)) cids outs) (he : .own s es = res) : RetA cx [.tmp t] cids A res outs := by
  subst he; exact ret_own hv hob hn hi ho
end Go.Mv
end

section
/- A range over a function, from what is known to what is known. -/
namespace Go.Mv
open Go

theorem bnd {α : Type} (P : Nat → α → Prop) (hm : ∀ m k a, m ≤ k → P m a → P k a) : ∀ L : List α, (∀ a ∈ L, ∃ n, P n a) → ∃ n, ∀ a ∈ L, P n a
  | [], _ => ⟨0, fun _ h => by cases h⟩
  | a :: L, h => by
    obtain ⟨n, hn⟩ := bnd P hm L fun b hb => h b (List.mem_cons_of_mem _ hb)
    obtain ⟨k, hk⟩ := h a (List.mem_cons_self ..)
    refine ⟨max n k, fun b hb => ?_⟩
    rcases List.mem_cons.1 hb with rfl | hb
    · exact hm _ _ _ (Nat.le_max_right n k) hk
    · exact hm _ _ _ (Nat.le_max_left n k) (hn b hb)
theorem Sat.cons {st : St} {A : Asr} (h : Sat st A) (l : Mv.Loc) (a : AV) : Sat (st.upd l a) ((l, a) :: A) := by
  intro k b hk
  simp only [look] at hk
  unfold St.upd
  cases hb : Loc.beq k l with
  | true => simp only [hb, if_true, Option.some.injEq] at hk ⊢; exact hk
  | false => simp only [hb, Bool.false_eq_true, if_false] at hk ⊢; exact h k b hk

def valsA (keep : List Nat) : List (Nat × Value) → Asr → Asr
  | [], A => A
  | x :: L, A => valsA keep L (if keep.contains x.1 then (.t x.1, .val x.2) :: A else A)
def asgA (keep : List Nat) : List (Nat × Nat) → Asr → Asr
  | [], A => A
  | x :: L, A => asgA keep L (if keep.contains x.1 then (match look A (.t x.2) with | some a => (.t x.1, a) :: A | none => []) else A)
def startA (keep ps : List Nat) (l : List (Nat × Nat)) (vs : List Value) (A : Asr) : Asr := asgA keep l (valsA keep (ps.zip vs) A)
theorem valsA_sat {keep : List Nat} : ∀ (L : List (Nat × Value)) {st : St} {A : Asr}, Sat st A → Sat (st.upds (keptWs keep (L.map fun x => (.t x.1, .val x.2)))) (valsA keep L A)
  | [], st, A, h => h
  | x :: L, st, A, h => by
    simp only [List.map_cons, valsA]
    by_cases hk : keep.contains x.1 = true
    · have e : keptWs keep ((Mv.Loc.t x.1, AV.val x.2) :: L.map fun x => (.t x.1, .val x.2)) = (Mv.Loc.t x.1, AV.val x.2) :: keptWs keep (L.map fun x => (.t x.1, .val x.2)) := by
        unfold keptWs; rw [List.filter_cons, if_pos (by exact hk)]
      rw [e, if_pos hk]
      exact valsA_sat L (h.cons _ _)
    · have e : keptWs keep ((Mv.Loc.t x.1, AV.val x.2) :: L.map fun x => (.t x.1, .val x.2)) = keptWs keep (L.map fun x => (.t x.1, .val x.2)) := by
        unfold keptWs; rw [List.filter_cons, if_neg (by exact hk)]
      rw [e, if_neg hk]
      exact valsA_sat L h
theorem sat_nil (st : St) : Sat st [] := fun _ _ h => by cases h
theorem asgA_sat {keep : List Nat} : ∀ (L : List (Nat × Nat)) {st : St} {A : Asr}, Sat st A → Sat (asgS keep L st) (asgA keep L A)
  | [], st, A, h => h
  | x :: L, st, A, h => by
    show Sat (asgS keep L (if keep.contains x.1 then st.upd (.t x.1) (st (.t x.2)) else st)) (asgA keep L _)
    refine asgA_sat L ?_
    split
    · cases hl : look A (.t x.2) with
      | none => exact sat_nil _
      | some a =>
        rw [h _ _ hl]
        exact h.cons _ _
    · exact h
def okKey (zl : List Nat) (l : Mv.Loc) : Bool := match l with
  | .t i => !zl.contains i
  | .h _ => true
theorem mask_sat {zl : List Nat} {st : St} {A : Asr} (h : Sat st A) (hz : ∀ x ∈ A, okKey zl x.1 = true) : Sat (maskS zl st) A := by
  intro l a hl
  have h1 := h l a hl
  have h2 := hz _ (look_mem hl)
  cases l with
  | t i =>
    simp only [okKey, Bool.not_eq_true'] at h2
    simp only [maskS, h2, Bool.false_eq_true, if_false]
    exact h1
  | h i => exact h1

theorem xa_range {cx : Cx} {keep : List Nat} {A : Asr} {Q : AExit → Asr → Prop} {β σ : Type} {items : List β} {enc : β → List Value} {gt : Nat} {ps : Array Tmp} {a b : Code} {k : Nat} {caps : List AV} {l : List (Nat × Nat)}
    {F : List AV → Option (List (List Value))} (I : List β → σ → Asr) (Pr : List β → σ → Prop) (hg : opd A (.tmp gt) = some (.clo k caps)) (hl : codeAsg a = some l) (hF : cx.it k = some F) (hx : F caps = some (items.map enc)) (hnb : noRange b = true) (hip : caps.all isIpt = true)
    (hlen : ∀ z, (enc z).length = ps.size) (hz : ∀ zs s, ∀ x ∈ I zs s, okKey (codeDsts (.rangeFunc (.tmp gt) ps a b)) x.1 = true) (s0 : σ) (h0 : HasL A (I [] s0)) (hp0 : Pr [] s0)
    (hs : ∀ zs z s, (∀ y ∈ zs, y ∈ items) → z ∈ items → zs.length < items.length → Pr zs s → XA cx keep b (startA keep ps.toList l (enc z) (I zs s)) fun r A' => r = .normal ∧ ∃ s', Pr (zs ++ [z]) s' ∧ HasL A' (I (zs ++ [z]) s'))
    (h : ∀ s, Pr items s → Q .normal (I items s)) : XA cx keep (.rangeFunc (.tmp gt) ps a b) A Q := by
  intro st hst
  obtain ⟨zl, hzl⟩ : ∃ zl, zl = codeDsts (.rangeFunc (.tmp gt) ps a b) := ⟨_, rfl⟩
  rw [← hzl] at hz
  have hmk : ∀ vs s, startS keep ps.toList l zl vs (maskS zl s) = startS keep ps.toList l zl vs s := fun vs s => startS_mask
  have up : ∀ m n, m ≤ n → ∀ s r, aexec (CW cx) cx keep m b s = some r → aexec (CW cx) cx keep n b s = some r := fun m n hmn s r hr => aexec_up cx hr hmn
  have key : ∀ m (zs : List β), zs.length = m → (∀ y ∈ zs, y ∈ items) → m ≤ items.length → ∃ n s, arounds (fun s => aexec (CW cx) cx keep n b s) (startS keep ps.toList l zl) (maskS zl) (zs.map enc) st = some s ∧ ∃ u, Pr zs u ∧ Sat s (I zs u) := by
    intro m
    induction m with
    | zero =>
      intro zs hzs _ _
      obtain rfl := List.length_eq_zero_iff.1 hzs
      exact ⟨0, _, rfl, s0, hp0, mask_sat (h0.sat hst) (hz [] s0)⟩
    | succ m ih =>
      intro zs hzs hmem hle
      obtain ⟨zs', z, rfl⟩ : ∃ zs' z, zs = zs' ++ [z] := by
        have hne : zs ≠ [] := fun e => by rw [e] at hzs; simp at hzs
        exact ⟨zs.dropLast, zs.getLast hne, (List.dropLast_concat_getLast hne).symm⟩
      have hl' : zs'.length = m := by simpa using hzs
      obtain ⟨n, s, h1, u, hu, h2⟩ := ih zs' hl' (fun y hy => hmem y (List.mem_append_left _ hy)) (by omega)
      have hsat : Sat (startS keep ps.toList l zl (enc z) s) (startA keep ps.toList l (enc z) (I zs' u)) := by
        unfold startS startA
        exact asgA_sat l (valsA_sat _ (mask_sat h2 (hz zs' u)))
      obtain ⟨n2, r, s2, k1, A', k2, rfl, u', hu', k3⟩ := hs zs' z u (fun y hy => hmem y (List.mem_append_left _ hy)) (hmem z (by simp)) (by omega) hu _ hsat
      refine ⟨max n n2, maskS zl s2, ?_, u', hu', mask_sat (k3.sat k2) (hz _ _)⟩
      rw [List.map_append, List.map_cons, List.map_nil, arounds_snoc hmk, arounds_mono (up _ _ (Nat.le_max_left n n2)) _ st h1, Option.bind_some, up _ _ (Nat.le_max_right n n2) _ _ k1]
  have lift : ∀ ys : List (List Value), (∀ y ∈ ys, y ∈ items.map enc) → ∃ zs : List β, ys = zs.map enc ∧ ∀ z ∈ zs, z ∈ items := by
    intro ys
    induction ys with
    | nil => exact fun _ => ⟨[], rfl, fun _ h => by cases h⟩
    | cons y ys ih =>
      intro hy
      obtain ⟨zs, rfl, h2⟩ := ih fun w hw => hy w (List.mem_cons_of_mem _ hw)
      obtain ⟨z, hz1, rfl⟩ := List.mem_map.1 (hy y (List.mem_cons_self ..))
      exact ⟨z :: zs, rfl, fun w hw => by rcases List.mem_cons.1 hw with rfl | hw; exact hz1; exact h2 w hw⟩
  have hall : ∀ ys : List (List Value), (∀ y ∈ ys, y ∈ items.map enc) → ys.length ≤ (items.map enc).length → ∃ n, (arounds (fun s => aexec (CW cx) cx keep n b s) (startS keep ps.toList l zl) (maskS zl) ys st).isSome = true := by
    intro ys h1 h2
    obtain ⟨zs, rfl, h3⟩ := lift ys h1
    obtain ⟨n, s, h4, _, _, _⟩ := key _ zs rfl h3 (by simpa using h2)
    exact ⟨n, by rw [h4]; rfl⟩
  obtain ⟨n1, hn1⟩ := bnd (fun n ys => (∀ y ∈ ys, y ∈ items.map enc) → ys.length ≤ (items.map enc).length → (arounds (fun s => aexec (CW cx) cx keep n b s) (startS keep ps.toList l zl) (maskS zl) ys st).isSome = true)
    (fun m n ys hmn hP h1 h2 => by
      obtain ⟨s, hs'⟩ := Option.isSome_iff_exists.1 (hP h1 h2)
      rw [arounds_mono (up _ _ hmn) ys st hs']; rfl)
    (listsTo (items.map enc) (items.map enc).length) (fun ys _ => by
      by_cases hc : (∀ y ∈ ys, y ∈ items.map enc) ∧ ys.length ≤ (items.map enc).length
      · obtain ⟨n, hn⟩ := hall ys hc.1 hc.2
        exact ⟨n, fun _ _ => hn⟩
      · exact ⟨0, fun h1 h2 => (hc ⟨h1, h2⟩).elim⟩)
  obtain ⟨n2, s, h4, u, hu, h5⟩ := key _ items rfl (fun _ h => h) (Nat.le_refl _)
  have hv : opA st (.tmp gt) = .clo k caps := hst _ _ hg
  refine ⟨max n1 n2 + 1, .normal, s, ?_, I items u, h5, h u hu⟩
  have hlen' : ((items.map enc).all fun vs => vs.length == ps.size) = true := by
    rw [List.all_eq_true]
    intro v hv
    obtain ⟨z, _, rfl⟩ := List.mem_map.1 hv
    simp [hlen z]
  simp only [aexec, hv, hl, hF, hx, Option.bind_some, ← hzl]
  rw [if_pos ⟨hnb, hip, hlen'⟩]
  unfold arange
  rw [if_pos fun ys k1 k2 => by
    obtain ⟨s', hs'⟩ := Option.isSome_iff_exists.1 (hn1 ys (mem_listsTo k1 k2) k1 k2)
    rw [arounds_mono (up _ _ (Nat.le_max_left n1 n2)) ys st hs']; rfl]
  rw [arounds_mono (up _ _ (Nat.le_max_right n1 n2)) _ st h4]
  rfl
end Go.Mv
end

section
namespace Go.Mv
open Go

def consW : Asr → Ws → Asr
  | A, [] => A
  | A, x :: r => consW (x :: A) r

theorem wk_cons {A B : Asr} (h : ∀ k, look A k = look B k) (l : Mv.Loc) (a : AV) : ∀ k, look (put A l a) k = look ((l, a) :: B) k := by
  intro k
  rw [look_put]
  simp only [look, ← h k]
  cases Loc.beq k l <;> rfl

theorem look_consW (ws : Ws) : ∀ (A B : Asr), (∀ k, look A k = look B k) → ∀ k, look (puts A ws) k = look (consW B ws) k := by
  induction ws with
  | nil => exact fun A B h => h
  | cons x ws ih =>
    intro A B h
    obtain ⟨l, a⟩ := x
    exact ih _ _ (wk_cons h l a)

theorem wk_consW (A : Asr) (ws : Ws) : Wk (puts A ws) (consW A ws) := fun k a h => by rw [look_consW ws A A fun _ => rfl]; exact h

def opds (A : Asr) : List Operand → Option (List AV)
  | [] => some []
  | x :: r => match opd A x with
    | some v => (opds A r).map (v :: ·)
    | none => none
def rdsL (l : List Operand) : List Mv.Loc := l.flatMap rds

section
variable {cx : Cx} {keep : List Nat} {ops0 : Array Oper} {r : List Oper} {A : Asr} {Q : Asr → List Log → Prop} {d : Nat} {ty : Nat} {pos : String} {aft : Array Edge}

theorem wpA_rdOs {C : Caller} : ∀ (xs : List Operand) {vs : List AV}, opds A xs = some vs → ∀ (R : List AV → List Mv.Loc → Prop), R vs (rdsL xs) → wpA C A (rdOs xs) R := by
  intro xs
  induction xs with
  | nil => intro vs h R hr; simp only [opds, Option.some.injEq] at h; subst h; exact hr
  | cons x xs ih =>
    intro vs h R hr
    simp only [opds] at h
    split at h
    · rename_i v hv
      simp only [Option.map_eq_some_iff] at h
      obtain ⟨us, h1, rfl⟩ := h
      simp only [rdOs, wpA_bind, wpA_rdO hv]
      refine ih h1 _ ?_
      simp only [wpA_ret, List.append_nil]
      exact hr
    · cases h

/-- an argument, handed over -/
def PassArg (C : Caller) (A : Asr) (md : Nat) (v a : AV) (ids : List (Nat × Bool)) (ws : Ws) (ls : List Mv.Loc) : Prop :=
  wpW C A (passA md v) fun x w l => x = (a, ids) ∧ w = ws ∧ l = ls

def PassAll (C : Caller) (A : Asr) (md : Nat → Nat) (i : Nat) (vs as : List AV) (ids : List (Nat × Bool)) (ws : Ws) (ls : List Mv.Loc) : Prop :=
  wpW C A (passAll md i vs) fun x w l => x = (as, ids) ∧ w = ws ∧ l = ls

theorem pa_nil {C : Caller} {md : Nat → Nat} {i : Nat} : PassAll C A md i [] [] [] [] [] := wpW_pure ⟨rfl, rfl, rfl⟩

theorem pa_cons {C : Caller} {md : Nat → Nat} {i : Nat} {v a : AV} {vs as : List AV} {ids ids' : List (Nat × Bool)} {ws ws' : Ws} {ls ls' : List Mv.Loc} (h : PassArg C A (md i) v a ids ws ls)
    (t : PassAll C (puts A ws) md (i + 1) vs as ids' ws' ls') : PassAll C A md i (v :: vs) (a :: as) (ids ++ ids') (ws ++ ws') (ls ++ ls') := by
  refine wpW_bind (wpW_mono h ?_)
  rintro _ _ _ ⟨rfl, rfl, rfl⟩
  refine wpW_bind (wpW_mono t ?_)
  rintro _ _ _ ⟨rfl, rfl, rfl⟩
  exact wpW_pure ⟨rfl, by simp, by simp⟩

theorem pa_keepW {C : Caller} {md : Nat → Nat} {i : Nat} {v a : AV} {vs as : List AV} {ids ids' : List (Nat × Bool)} {ws' : Ws} {ls ls' : List Mv.Loc} (h : PassArg C A (md i) v a ids [] ls)
    (t : PassAll C A md (i + 1) vs as ids' ws' ls') : PassAll C A md i (v :: vs) (a :: as) (ids ++ ids') ws' (ls ++ ls') := pa_cons h t

def plainArg : AV → Bool
  | .val _ => true
  | .list _ => true
  | .ifc => true
  | .ipt _ _ => true
  | .clo _ [] => true
  | .agg fs => fs.all fun l => match l with
    | .val _ => true
    | .list _ => true
    | .clo _ [] => true
    | .ifc => true
    | _ => false
  | _ => false

theorem passLeaves_plain {C : Caller} : ∀ (fs : List AV), (fs.all fun l => match l with
    | .val _ => true
    | .list _ => true
    | .clo _ [] => true
    | .ifc => true
    | _ => false) = true → ∀ (R : List AV → List Mv.Loc → Prop), R fs [] → wpA C A (passLeaves fs) R := by
  intro fs
  induction fs with
  | nil => intro _ R hr; exact hr
  | cons f fs ih =>
    intro h R hr
    simp only [List.all_cons, Bool.and_eq_true] at h
    simp only [passLeaves, wpA_bind]
    have hf : ∀ (R : AV → List Mv.Loc → Prop), R f [] → wpA C A (passLeaf f) R := by
      intro R hr
      have := h.1
      cases f with
      | clo k caps => cases caps with
        | nil => exact hr
        | cons => simp at this
      | _ => first | exact hr | simp at this
    refine hf _ (ih h.2 _ ?_)
    simp only [wpA_ret, List.append_nil]
    exact hr

theorem slIds_plain {b : Bool} : ∀ (fs : List AV), (fs.all fun l => match l with
    | .val _ => true
    | .list _ => true
    | .clo _ [] => true
    | .ifc => true
    | _ => false) = true → slIds b fs = [] := by
  intro fs
  induction fs with
  | nil => intro _; rfl
  | cons f fs ih =>
    intro h
    simp only [List.all_cons, Bool.and_eq_true] at h
    have := ih h.2
    unfold slIds at this ⊢
    rw [List.filterMap_cons]
    cases f <;> simp at h <;> exact this

theorem keepLeaves_plain {C : Caller} : ∀ (fs : List AV), (fs.all fun l => match l with
    | .val _ => true
    | .list _ => true
    | .clo _ [] => true
    | .ifc => true
    | _ => false) = true → ∀ {A : Asr} (R : List AV → Ws → List Mv.Loc → Prop), R fs [] [] → wpW C A (keepLeaves fs) R := by
  intro fs
  induction fs with
  | nil => intro _ A R hr; exact wpW_pure hr
  | cons f fs ih =>
    intro h A R hr
    simp only [List.all_cons, Bool.and_eq_true] at h
    have hf : ∀ {A : Asr} (R : AV → Ws → List Mv.Loc → Prop), R f [] [] → wpW C A (keepLeaf f) R := by
      intro A R hr
      have := h.1
      cases f with
      | clo k caps => cases caps with
        | nil => exact wpW_up hr
        | cons => simp at this
      | _ => first | exact wpW_up hr | simp at this
    refine wpW_bind (hf _ (wpW_bind (ih h.2 _ (wpW_pure ?_))))
    simpa using hr

theorem pa_plain {C : Caller} {md : Nat} {v : AV} (h : plainArg v = true) : PassArg C A md v v [] [] [] := by
  unfold PassArg passA
  cases v with
  | val v =>
    refine wpW_bind (wpW_up ?_)
    show wpW C (puts A []) (pure (AV.val v, ([] : List (Nat × Bool)))) _
    exact wpW_pure ⟨rfl, rfl, rfl⟩
  | list es =>
    refine wpW_bind (wpW_up ?_)
    show wpW C (puts A []) (pure (AV.list es, ([] : List (Nat × Bool)))) _
    exact wpW_pure ⟨rfl, rfl, rfl⟩
  | ifc =>
    refine wpW_bind (wpW_up ?_)
    show wpW C (puts A []) (pure (AV.ifc, ([] : List (Nat × Bool)))) _
    exact wpW_pure ⟨rfl, rfl, rfl⟩
  | ipt e j => exact wpW_pure ⟨rfl, rfl, rfl⟩
  | clo f caps =>
    cases caps with
    | nil =>
      simp only
      split
      · exact wpW_bind (wpW_pure (wpW_pure ⟨rfl, rfl, rfl⟩))
      · split
        · refine wpW_bind (wpW_up ?_)
          show wpW C (puts A []) (pure (AV.clo f [], ([] : List (Nat × Bool)))) _
          exact wpW_pure ⟨rfl, rfl, rfl⟩
        · refine wpW_bind (wpW_up ?_)
          show wpW C (puts A []) (pure (AV.clo f [], ([] : List (Nat × Bool)))) _
          exact wpW_pure ⟨rfl, rfl, rfl⟩
    | cons => simp [plainArg] at h
  | agg fs =>
    simp only [plainArg] at h
    simp only
    split
    · exact wpW_bind (keepLeaves_plain fs h _ (wpW_pure ⟨by rw [slIds_plain fs h], rfl, rfl⟩))
    · exact wpW_bind (wpW_up (passLeaves_plain fs h _ (wpW_pure ⟨by rw [slIds_plain fs h], rfl, rfl⟩)))
  | _ => simp [plainArg] at h

theorem pa_nil0 {C : Caller} {md : Nat} (h : md = 0 ∨ md = 3) : PassArg C A md .nil (.list []) [] [] [] := by
  unfold PassArg passA
  simp only [h, if_true]
  exact wpW_pure ⟨rfl, rfl, rfl⟩

/-- a slice lent to be read -/
theorem pa_lend {C : Caller} {md id g m s n : Nat} {es : List AV} (hmd : md = 0) (ho : look A (.h id) = some (.obj g m s es)) (hb : bxB m none = false) (hn : n = es.length) (hr : noRefL es = true) :
    PassArg C A md (.sl id g none 0 n) (.list (frzL es)) [(id, false)] [] [.h id] := by
  subst hmd hn
  unfold PassArg passA
  simp only [if_true]
  refine wpW_bind (wpW_up ?_)
  simp only [passLeaf, slc, rdNode, wpA_bind, wpA_read ho, wpA_need, wpA_ret, hb, List.append_nil, List.nil_append, List.drop_zero, List.take_length, hr, Nat.zero_add, Nat.le_refl, and_self, true_and]
  exact wpW_pure ⟨rfl, rfl, by simp⟩

theorem pa_lend_map {α : Type} {f : α → AV} {xs : List α} {C : Caller} {md id g m s n : Nat} (hmd : md = 0) (ho : look A (.h id) = some (.obj g m s (xs.map f))) (hb : bxB m none = false) (hn : n = (xs.map f).length) (hf : ∀ a, immEl (f a) = true) :
    PassArg C A md (.sl id g none 0 n) (.list (xs.map f)) [(id, false)] [] [.h id] := by
  have hr : noRefL (xs.map f) = true := noRef_map fun a => by
    have := hf a
    cases hfa : f a <;> rw [hfa] at this <;> simp_all [immEl, noRefEl]
  have := pa_lend (C := C) hmd ho hb hn hr
  rwa [frzL_map hf] at this

/-- a slice lent to be written -/
theorem pa_write {C : Caller} {md id g m s n : Nat} {es : List AV} (hmd : md = 1) (ho : look A (.h id) = some (.obj g m s es)) (hm : m ≠ 2 ∧ bxB m none = false) (hn : n = es.length) (hi : immL es = true) :
    PassArg C A md (.sl id g none 0 n) (.own s es) [(id, true)] [] [.h id] := by
  subst hmd hn
  unfold PassArg passA
  simp only [show ¬ ((1 : Nat) = 0) from by decide, if_false, if_true]
  refine wpW_bind (wpW_node ho ?_)
  simp only [hi, Bool.true_eq_false, and_false, if_false]
  refine wpW_bind (wpW_need (by simp [hm.1, hm.2]) (wpW_pure ⟨rfl, rfl, by simp⟩))

/-- a slice given away -/
theorem pa_give {C : Caller} {md id g s n : Nat} {es : List AV} (hmd : md = 2) (ho : look A (.h id) = some (.obj g 0 s es)) (hn : n = es.length) (hi : noRefL es = true) :
    PassArg C A md (.sl id g none 0 n) (.own s es) [(id, true)] [(.h id, .dead g)] [.h id] := by
  subst hmd hn
  unfold PassArg passA
  simp only [show ¬ ((2 : Nat) = 0) from by decide, show ¬ ((2 : Nat) = 1) from by decide, if_false, if_true]
  refine wpW_bind (wpW_node ho (wpW_bind (wpW_need (by simp [hi]) (wpW_bind (wpW_wr (wpW_pure ⟨?_, by simp, by simp⟩))))))
  simp

/-- a slice given for good, to be read -/
theorem pa_keep {C : Caller} {md id g s n : Nat} {es : List AV} (hmd : md = 3) (ho : look A (.h id) = some (.obj g 0 s es)) (hn : n = es.length) (hi : noRefL es = true) :
    PassArg C A md (.sl id g none 0 n) (.list (frzL es)) [(id, true)] [(.h id, .obj g 2 s (frzL es))] [.h id] := by
  subst hmd hn
  unfold PassArg passA
  simp only [show ¬ ((3 : Nat) = 0) from by decide, show ¬ ((3 : Nat) = 1) from by decide, show ¬ ((3 : Nat) = 2) from by decide, if_false, freeze]
  refine wpW_bind (wpW_bind (wpW_node ho (wpW_bind (wpW_need (by simp [bxB]) ?_))))
  simp only [show ¬ ((0 : Nat) = 2) from by decide, if_false]
  refine wpW_bind (wpW_need (by simp [hi]) (wpW_bind (wpW_wr (wpW_pure (wpW_pure ⟨?_, by simp, by simp⟩)))))
  have : (frzL es).take es.length = frzL es := by rw [← frzL_length es, List.take_length]
  simp [this]

theorem pa_keep2 {C : Caller} {md id g s n : Nat} {es : List AV} (hmd : md = 3) (ho : look A (.h id) = some (.obj g 2 s es)) (hn : n = es.length) :
    PassArg C A md (.sl id g none 0 n) (.list es) [(id, true)] [] [.h id] := by
  subst hmd hn
  unfold PassArg passA
  simp only [show ¬ ((3 : Nat) = 0) from by decide, show ¬ ((3 : Nat) = 1) from by decide, show ¬ ((3 : Nat) = 2) from by decide, if_false, freeze]
  refine wpW_bind (wpW_bind (wpW_node ho (wpW_bind (wpW_need (by simp [bxB]) ?_))))
  simp only [if_true]
  exact wpW_pure (wpW_pure ⟨by simp, by simp, by simp⟩)

/-- a variable lent to be written -/
theorem pa_box {C : Caller} {md id g m s j : Nat} {es : List AV} (ho : look A (.h id) = some (.obj g m s es)) (hm : m = 3 ∨ m = 4) (hi : immL es = true) : PassArg C A md (.ptr id g none 0 j) (.ownp es 0 j) [(id, true)] [] [.h id] := by
  unfold PassArg passA
  exact wpW_bind (wpW_node ho (wpW_bind (wpW_need ⟨hm, hi, rfl⟩ (wpW_pure ⟨rfl, by simp, by simp⟩))))

/-- what comes back -/
def Back (C : Caller) (A : Asr) (T : List Tg) (outs : List (List AV)) (ws : Ws) (ls : List Mv.Loc) : Prop := wpW C A (backAll T outs) fun _ w l => w = ws ∧ l = ls

theorem back_nil {C : Caller} : Back C A [] [] [] [] := wpW_pure ⟨rfl, rfl⟩
theorem back_cons {C : Caller} {id g m s : Nat} {es o : List AV} {T : List Tg} {outs : List (List AV)} {ws : Ws} {ls : List Mv.Loc} (ho : look A (.h id) = some (.obj g m s es)) (hl : o.length = es.length) (hn : nilFit es o = true)
    (h : Back C (puts A [(.h id, .obj g m s o)]) T outs ws ls) : Back C A ((id, g, none) :: T) (o :: outs) ((.h id, .obj g m s o) :: ws) (.h id :: .h id :: ls) := by
  unfold Back backAll
  refine wpW_bind ?_
  unfold backNode
  refine wpW_bind (wpW_node ho (wpW_bind (wpW_need ⟨hl, hn⟩ (wpW_bind (wpW_up ?_)))))
  simp only [wrNode, wpA_read ho, wpA_ret]
  have ho' : look (puts (puts A []) []) (.h id) = some (.obj g m s es) := ho
  rw [wpA_read ho']
  simp only [wpA_ret]
  refine wpW_wr (wpW_mono h ?_)
  rintro _ _ _ ⟨rfl, rfl⟩
  exact ⟨by simp, by simp⟩

/-- how a result comes to lie in the caller's hands -/
def InstR (C : Caller) (A : Asr) (d : Nat) (res : AV) {G : Type} (v : G → AV) (ws : G → Ws) (ls : List Mv.Loc) : Prop := wpW C A (inst d res) fun a w l => ∃ g, a = v g ∧ w = ws g ∧ l = ls

theorem wpW_instLeaf {C : Caller} {id : Nat} {v : AV} (h : immLeaf v = true) {R : AV → Ws → List Mv.Loc → Prop} (hr : R v [] []) : wpW C A (instLeaf id v) R := by
  cases v with
  | clo f caps => cases caps with
    | nil => exact wpW_pure hr
    | cons => simp [immLeaf] at h
  | _ => first | exact wpW_pure hr | simp [immLeaf] at h

theorem wpW_instLeaves {C : Caller} {d : Nat} : ∀ (fs : List AV) (k : Nat) {A : Asr}, fs.all immLeaf = true → ∀ {R : List AV → Ws → List Mv.Loc → Prop}, R fs [] [] → wpW C A (instLeaves d k fs) R := by
  intro fs
  induction fs with
  | nil => intro k A _ R hr; exact wpW_pure hr
  | cons f fs ih =>
    intro k A h R hr
    simp only [List.all_cons, Bool.and_eq_true] at h
    refine wpW_bind (wpW_instLeaf h.1 (wpW_bind (ih (k + 1) h.2 (wpW_pure ?_))))
    simpa using hr

theorem inst1_leaf {d k : Nat} {v : AV} (h1 : ∀ fs, v ≠ .agg fs) (h2 : ∀ es i j, v ≠ .ownp es i j) : inst1 d k v = instLeaf (tid d k) v := by
  unfold inst1
  split
  · exact (h1 _ rfl).elim
  · exact (h2 _ _ _ rfl).elim
  · rfl

theorem wpW_inst1 {C : Caller} {d k : Nat} {v : AV} (h : immEl v = true) {R : AV → Ws → List Mv.Loc → Prop} (hr : R v [] []) : wpW C A (inst1 d k v) R := by
  by_cases he : ∃ fs, v = .agg fs
  · obtain ⟨fs, rfl⟩ := he
    refine wpW_bind (wpW_instLeaves fs _ (by simpa [immEl] using h) (wpW_pure ?_))
    simpa using hr
  · have h1 : ∀ fs, v ≠ .agg fs := fun fs e => he ⟨fs, e⟩
    have hl := immEl_leaf h1 h
    rw [inst1_leaf h1 (fun es i j e => by subst e; simp [immLeaf] at hl)]
    exact wpW_instLeaf hl hr

theorem wpW_inst1Own {C : Caller} {d k s : Nat} {es : List AV} {R : AV → Ws → List Mv.Loc → Prop} (hr : ∀ g, R (.sl (tid d k) g none 0 es.length) [(.h (tid d k), .obj g 0 s es)] [.h (tid d k)]) : wpW C A (inst1 d k (.own s es)) R := by
  show wpW C A (instLeaf (tid d k) (.own s es)) R
  refine wpW_bind (wpW_stamp fun o => wpW_bind (wpW_wr (wpW_pure ?_)))
  have := hr (stamp o + 1)
  simpa using this

theorem inst_one {d : Nat} {v : AV} (h : ∀ vs, v ≠ .tup vs) : inst d v = inst1 d 0 v := by
  unfold inst
  split
  · exact (h _ rfl).elim
  · rfl

theorem inst_plain {C : Caller} {d : Nat} {v : AV} (h : immEl v = true) : InstR C A d v (fun _ : Unit => v) (fun _ => []) [] := by
  unfold InstR
  rw [inst_one (fun vs e => by subst e; simp [immEl, immLeaf] at h)]
  exact wpW_inst1 h ⟨(), rfl, rfl, rfl⟩

theorem inst_own {C : Caller} {d s : Nat} {es : List AV} : InstR C A d (.own s es) (fun g : Nat => .sl (tid d 0) g none 0 es.length) (fun g => [(.h (tid d 0), .obj g 0 s es)]) [.h (tid d 0)] := by
  unfold InstR
  rw [inst_one (fun vs e => by cases e)]
  exact wpW_inst1Own fun g => ⟨g, rfl, rfl, rfl⟩

theorem inst_box {C : Caller} {d i j : Nat} {es : List AV} : InstR C A d (.ownp es i j) (fun g : Nat => .ptr (tid d 0) g none i j) (fun g => [(.h (tid d 0), .obj g 3 (boxS es) es)]) [.h (tid d 0)] := by
  unfold InstR
  rw [inst_one (fun vs e => by cases e)]
  refine wpW_bind (wpW_stamp fun o => wpW_bind (wpW_wr (wpW_pure ?_)))
  exact ⟨_, rfl, by simp, by simp⟩

theorem wpW_instAll_plain {C : Caller} {d : Nat} : ∀ (vs : List AV) (k : Nat) {A : Asr}, vs.all immEl = true → ∀ {R : List AV → Ws → List Mv.Loc → Prop}, R vs [] [] → wpW C A (instAll d k vs) R := by
  intro vs
  induction vs with
  | nil => intro k A _ R hr; exact wpW_pure hr
  | cons f fs ih =>
    intro k A h R hr
    simp only [List.all_cons, Bool.and_eq_true] at h
    refine wpW_bind (wpW_inst1 h.1 (wpW_bind (ih (k + 16) h.2 (wpW_pure ?_))))
    simpa using hr

theorem inst_tup {C : Caller} {d : Nat} {vs : List AV} (h : vs.all immEl = true) : InstR C A d (.tup vs) (fun _ : Unit => .tup vs) (fun _ => []) [] := by
  refine wpW_bind (wpW_instAll_plain vs 16 h (wpW_pure ⟨(), rfl, rfl, rfl⟩))

/-- the same with an index of any type -/
theorem x_opT {G : Type} {o : Oper} (hg : o.guard = none) {v : G → AV} {ws : G → Ws} {ls : List Mv.Loc} {A1 : G → Asr} (h : wpW (CW cx) A (aopV cx o) fun a w l => ∃ g, a = v g ∧ w = ws g ∧ l = ls)
    (hk : ∀ g, tRefsOk keep (keptWs keep (ws g ++ setD o (v g))) = true) (hA : ∀ g, Wk (puts A (ws g ++ setD o (v g))) (A1 g))
    (hx : ∀ g, XR cx keep ops0 r (A1 g) fun A' lg => Q A' ((ls, wmap (ws g ++ setD o (v g))) :: lg)) : XR cx keep ops0 (o :: r) A Q := by
  refine xr_cons ?_
  have : aoper cx ops0 o = aop cx o := by unfold aoper; simp only [hg]
  rw [this]
  unfold aop
  refine wpW_bind (wpW_mono h ?_)
  rintro _ _ _ ⟨g, rfl, rfl, rfl⟩
  refine wpW_wr ?_
  simp only [List.append_nil]
  exact ⟨hk g, XR.wk (hA g) (hx g)⟩

/-- a call -/
theorem x_call {G : Type} {k : Nat} {args : Array Operand} {Ts : Array Nat} {vs as : List AV} {ids : List (Nat × Bool)} {wp wb : Ws} {lp lb li : List Mv.Loc} {res : AV} {outs : List (List AV)} {v : G → AV} {wi : G → Ws}
    (hv : opds A args.toList = some vs) (hp : PassAll (CW cx) A (cx.md k) 0 vs as ids wp lp) (hC : CW cx k as = some (res, outs))
    (hc : apartIds ids = true ∧ nodupB ((tgAll (cx.md k) 0 vs).map (·.1)) = true ∧ nodupB ((cidAll (cx.md k) 0 as).map (·.1)) = true ∧ as.length ≤ 1000 ∧ capsOk as = true)
    (hl : ids.all (fun x => x.2) = true ∨ (hasList res = false ∧ outs.any hasListL = false))
    (hb : Back (CW cx) (puts A wp) (tgAll (cx.md k) 0 vs) outs wb lb) (hi : InstR (CW cx) (puts (puts A wp) wb) d res v wi li)
    (hk : ∀ g, tRefsOk keep (keptWs keep (wp ++ (wb ++ (wi g ++ [(.t d, v g)])))) = true)
    (h : ∀ g, XR cx keep ops0 r (consW A (wp ++ (wb ++ (wi g ++ [(.t d, v g)])))) fun A' lg => Q A' ((rdsL args.toList ++ (lp ++ (lb ++ li)), wmap (wp ++ (wb ++ (wi g ++ [(.t d, v g)])))) :: lg)) :
    XR cx keep ops0 (⟨some d, .call ⟨.value (.func k), args, Ts⟩, ty, pos, aft, none⟩ :: r) A Q := by
  refine x_opT (G := G) (v := v) (ws := fun g => wp ++ (wb ++ wi g)) (ls := rdsL args.toList ++ (lp ++ (lb ++ li))) rfl ?_ (fun g => ?_) (fun g => ?_) (fun g => ?_) (A1 := fun g => consW A (wp ++ (wb ++ (wi g ++ [(.t d, v g)]))))
  · simp only [aopV]
    refine wpW_bind (wpW_rdO (v := .clo k []) rfl (wpW_bind (wpW_up (wpA_rdOs _ hv _ ?_))))
    simp only [callA, List.append_nil]
    refine wpW_bind (wpW_mono hp ?_)
    rintro _ _ _ ⟨rfl, rfl, rfl⟩
    refine wpW_bind (wpW_need hc (wpW_bind (wpW_up ?_)))
    refine ⟨res, outs, hC, ?_⟩
    refine wpW_bind (wpW_need hl (wpW_bind (wpW_mono hb ?_)))
    rintro _ _ _ ⟨rfl, rfl⟩
    refine wpW_mono hi ?_
    rintro _ _ _ ⟨g, rfl, rfl, rfl⟩
    exact ⟨g, rfl, by simp, by simp [rds]⟩
  · have := hk g
    simpa [setD] using this
  · have := wk_consW A (wp ++ (wb ++ (wi g ++ [(.t d, v g)])))
    simpa [setD] using this
  · have := h g
    simpa [setD] using this
end
end Go.Mv
end
