/- The functions of Go's library keep the contracts that the abstract machine asks of them. Conditions: none. -/
import Derived.Test.YtcpmbhfnapijaaaGreatDoorSb
import Derived.Shelf.Strings.Split
import Derived.Shelf.Strings.OnBuilder
import Derived.Shelf.Small.Wraps
import Derived.Shelf.Strconv.Itoa3
import Derived.Shelf.Strconv.AtoiAll
import Derived.Lib.SplitLaws
import Derived.Shelf.SlicesE.Clone
import Derived.Shelf.SortM.Plain
import Derived.Shelf.SortM.SortNone
import Derived.Ground.NamesProg
import Derived.Shelf.SlLaysE0
import Derived.Ground.SlgnProg
import Derived.Shelf.SlLaysM
import Derived.Ground.SlgmProg

set_option linter.unusedVariables false
set_option linter.unusedSimpArgs false
section
/- Functions of the library over texts: that they keep the contracts which the abstract machine asks of them. -/
open Go Go.Mv Go.Proofs Go.Shelf Go.RowKit
namespace Go.Mv
section
variable {P : Program} {Γ : Env} {w0 : World} {A O0 : Nat → Prop} {ν0 : Nu} {N : Nat} {F : Fl} {D : Nat → Prop} {st : St} {ν : Nu} {tm : Array Value} {w : World}
theorem a6w {xs : List Value} {i j : Nat} {l : AV} (h : leafAt (xs.map AV.val) i j = some l) : ∃ x, xs[i]? = some x ∧ j = 0 ∧ l = .val x := by
  unfold leafAt at h
  rw [List.getElem?_map] at h
  cases hx : xs[i]? with
  | none => simp [hx] at h
  | some x =>
    simp only [hx, Option.map_some] at h
    cases j with
    | zero => simp [leaves] at h; exact ⟨x, rfl, rfl, h.symm⟩
    | succ j => simp [leaves] at h
/-- plain values in a new block -/
theorem Rel.ownNewV (R : Rel Γ w0 A O0 ν0 N Fl.emp D st ν tm w) {w' : World} {g : Nat} (W : WStep Γ w w' g) (hg : w.heap.size ≤ g) {c : Array Value} {ety : TypeId}
    (hc : w'.heap[g]? = some (.cells c ety (0, 0))) {xs : List Value} (hsz : xs.length ≤ c.size) (hv : ∀ (i : Nat) (x : Value), xs[i]? = some x → c[i]? = some x) (κ : FK) :
    Rel Γ w0 A O0 ν0 N (Fl.emp.set κ (some ⟨fun q => match q with | none => some (g, 0) | some _ => none, 1, xs.map AV.val⟩)) D st ν tm w' := by
  refine R.compose W (fun _ => False) κ (.inl rfl) ⟨fun q => match q with | none => some (g, 0) | some _ => none, 1, xs.map AV.val⟩ none (fun _ _ => (κ, none)) ⟨0, rfl⟩ (.inl ⟨rfl, hg⟩)
    ?_ ?_ ?_ (fun _ h => by cases h) (Fl.set_eq _ _ _) (fun _ _ h => h.elim) (fun k hk _ => Fl.set_ne _ _ hk)
  · refine ⟨c, ety, hc, by simpa using hsz, fun _ e he => ?_, fun h => h.elim, fun i j l hl => ?_⟩
    · obtain ⟨x, _, rfl⟩ := List.mem_map.1 he
      rfl
    · obtain ⟨x, hx, rfl, rfl⟩ := a6w hl
      exact ⟨_, by simpa using hv i x hx, RS.data _ _ (.val _)⟩
  · intro i j s' es' hl
    obtain ⟨x, _, _, h⟩ := a6w hl
    cases h
  · intro i j i' j' s1 e1 s2 e2 hl
    obtain ⟨x, _, _, h⟩ := a6w hl
    cases h
theorem b7f (xs : List Value) : G0 (xs.map AV.val) = false := by
  induction xs with
  | nil => rfl
  | cons x xs ih => simp [G0, hasList, ih]
/-- scalars in, something immutable out -/
theorem R8 (hmo : ¬ Γ.mo) {f : Nat} {md : Nat → Nat} (vs : List Value) (res : AV) (hn : hasList res = false)
    (h : ∀ w, Γ.G w → Calls P f vs.toArray w fun e w' => ∃ v, e = .returned v ∧ (∀ D, AllRes Fl.emp D w' res v) ∧ Below w.heap.size w w') : P0 Γ P md f (vs.map AV.val) res [] := by
  intro w A O0 ν0 D vals hOA R hA
  have hsz : vals.size = vs.length := by simpa using R.size
  have hv : vals = vs.toArray := by
    apply Array.ext (by simpa using hsz)
    intro i h1 h2
    have h3 : i < vs.length := by rw [← hsz]; exact h1
    have h0 := R.slots i (by simpa using h3)
    have e : initLoc md (vs.map AV.val) (.t i) = .val vs[i] := by
      unfold initLoc
      have : (vs.map AV.val)[i]? = some (.val vs[i]) := by rw [List.getElem?_map, List.getElem?_eq_getElem h3]; rfl
      show (match (vs.map AV.val)[i]? with
        | some (AV.own s es) => AV.sl i 1 none 0 es.length
        | some (AV.ownp es a b) => AV.ptr i 1 none a b
        | some (AV.clo f caps) => AV.clo f (initCaps i 0 caps)
        | some a => a
        | none => AV.undef) = _
      rw [this]
    rw [e] at h0
    have := h0.val_inv
    rw [Array.getD_eq_getD_getElem?, Array.getElem?_eq_getElem h1] at this
    simpa using this
  subst hv
  have R0 := R.noSlots
  refine (h w R.G).mono ?_
  rintro e w' ⟨v, rfl, hr, hB⟩
  have hc : ∀ (i : Nat) (l : List Value), cidAll md i (l.map AV.val) = [] := by
    intro i l
    induction l generalizing i with
    | nil => rfl
    | cons x l ih => simp only [List.map_cons, cidAll]; rw [ih]; rfl
  refine ⟨_, rfl, _, D, _, ν0, R0.stay (a0b (fun h => (hmo h).elim) hB (bt := w.heap.size)) (Nat.le_refl _), ?_, hr D, fun κ f hf => by cases hf⟩
  rw [hc]; rfl
theorem b3y {v : Value} : AllRes Fl.emp D w (.val v) v := .inr (.inr (.inr (.inr ⟨rfl, .val _⟩)))
theorem a1p {u v : Value} {a b : AV} (ha : a0q a = true ∧ RV w D a u) (hb : a0q b = true ∧ RV w D b v) : AllRes Fl.emp D w (.tup [a, b]) (.tuple #[u, v]) := by
  refine .inl ⟨_, _, rfl, rfl, rfl, fun k l hl => ?_⟩
  match k, hl with
  | 0, hl => cases hl; exact .inr (.inr (.inr ha))
  | 1, hl => cases hl; exact .inr (.inr (.inr hb))
/-- texts in a new block come back -/
theorem b7x (hmo : ¬ Γ.mo) {f : Nat} {md : Nat → Nat} (vs ys : List Value)
    (h : ∀ w, Γ.G w → Calls P f vs.toArray w fun e w' => ∃ n, e = .returned (.slice (some ⟨w.heap.size, 0, none⟩) n n) ∧ n = ys.length ∧ ∃ T, w' = w.alloc (.cells ys.toArray T)) : P0 Γ P md f (vs.map AV.val) (.own 1 (ys.map AV.val)) [] := by
  intro w A O0 ν0 D vals hOA R hA
  have hsz : vals.size = vs.length := by simpa using R.size
  have hv : vals = vs.toArray := by
    apply Array.ext (by simpa using hsz)
    intro i h1 h2
    have h3 : i < vs.length := by rw [← hsz]; exact h1
    have h0 := R.slots i (by simpa using h3)
    have e : initLoc md (vs.map AV.val) (.t i) = .val vs[i] := by
      unfold initLoc
      have : (vs.map AV.val)[i]? = some (.val vs[i]) := by rw [List.getElem?_map, List.getElem?_eq_getElem h3]; rfl
      show (match (vs.map AV.val)[i]? with
        | some (AV.own s es) => AV.sl i 1 none 0 es.length
        | some (AV.ownp es a b) => AV.ptr i 1 none a b
        | some (AV.clo f caps) => AV.clo f (initCaps i 0 caps)
        | some a => a
        | none => AV.undef) = _
      rw [this]
    rw [e] at h0
    have := h0.val_inv
    rw [Array.getD_eq_getD_getElem?, Array.getElem?_eq_getElem h1] at this
    simpa using this
  subst hv
  have R0 := R.noSlots
  refine (h w R.G).mono ?_
  rintro e w' ⟨n, rfl, rfl, T, rfl⟩
  have hc : ∀ (i : Nat) (l : List Value), cidAll md i (l.map AV.val) = [] := by
    intro i l
    induction l generalizing i with
    | nil => rfl
    | cons x l ih => simp only [List.map_cons, cidAll]; rw [ih]; rfl
  have hB : Below w.heap.size w (w.alloc (.cells ys.toArray T)) := (Below.refl _ _).alloc (Nat.le_refl _) _
  have hcell : (w.alloc (.cells ys.toArray T)).heap[w.heap.size]? = some (.cells ys.toArray T (0, 0)) := heap_alloc_new w _
  have hn1 : G3 (ys.map AV.val) = true := A7 fun _ => rfl
  refine ⟨_, rfl, _, D, _, ν0, R0.ownNewV (a0b (fun h => (hmo h).elim) hB (bt := w.heap.size)) (Nat.le_refl _) hcell (by simp) (fun i x hi => by simpa using hi) (5, 0, 0), ?_, .inr (.inr (.inr (.inl ⟨1, ys.map AV.val, _, rfl, Fl.set_eq _ _ _, hn1, ?_⟩))), a8m hn1 (b7f ys)⟩
  · rw [hc]; rfl
  · refine ⟨_, ys.length, by rw [List.length_map], by rw [List.length_map]; exact Nat.le_refl _, .inr ⟨w.heap.size, 0, rfl, by simp, ?_⟩⟩
    have : csize (w.alloc (.cells ys.toArray T)) w.heap.size = ys.length := by unfold csize; rw [hcell]; simp
    rw [this]; simp
end
/-! ### the cut -/
theorem index_one_nil (c : UInt8) : Lib.index [] [c] = -1 := rfl
theorem a6o (c : UInt8) (l : List UInt8) : Lib.index (c :: l) [c] = 0 := by simp [Lib.index, List.isPrefixOf]
theorem a7i {b c : UInt8} (l : List UInt8) (h : b ≠ c) : Lib.index (b :: l) [c] = if Lib.index l [c] == -1 then -1 else Lib.index l [c] + 1 := by
  have : ([c] : List UInt8).isPrefixOf (b :: l) = false := by simp [List.isPrefixOf, Ne.symm h]
  rw [Lib.index, this]; rfl
theorem a4o {c : UInt8} : ∀ {l : List UInt8}, Lib.index l [c] = -1 → l.count c = 0
  | [], _ => rfl
  | b :: l, h => by
    by_cases e : b = c
    · subst e; rw [a6o] at h; cases h
    · rw [a7i l e] at h
      split at h
      · rename_i h2
        rw [List.count_cons_of_ne e, a4o (by simpa using h2)]
      · have := Lib.index_ge l [c]; omega
theorem b2a (c : UInt8) : ∀ (s : List UInt8), Lib.splitK [c] 0 (s.count c) s = splitB c s
  | [] => rfl
  | b :: l => by
    have ih := b2a c l
    by_cases e : b = c
    · subst e
      rw [List.count_cons_self, splitB, if_pos rfl, ← ih, Lib.splitK, a6o]
      simp
    · rw [List.count_cons_of_ne e, splitB, if_neg e, ← ih]
      cases hk : l.count c with
      | zero => rfl
      | succ k =>
        have hi : Lib.index l [c] ≠ -1 := fun h => by have := a4o h; omega
        have hge := Lib.index_ge l [c]
        have e0 : Lib.index (b :: l) [c] = Lib.index l [c] + 1 := by rw [a7i l e, if_neg (by simpa using hi)]
        rw [Lib.splitK, e0, if_neg (by simp; omega), Lib.splitK, if_neg (by simpa using hi)]
        have e1 : (Lib.index l [c] + 1).toNat = (Lib.index l [c]).toNat + 1 := by omega
        rw [e1]
        simp [W5, Nat.add_right_comm]
theorem c8f (c : UInt8) : ∀ ps : List (List UInt8), Lib.join ps [c] = joinB c ps
  | [] => rfl
  | [p] => by simp [Lib.join, joinB]
  | p :: q :: r => by
    have := c8f c (q :: r)
    simp only [Lib.join] at this ⊢
    rw [joinB, ← this]
    simp [List.intercalate, List.intersperse]
theorem a7t (n : Nat) : Lib.decDigits n = decN n := by
  induction n using Nat.strongRecOn with
  | _ n ih =>
    rw [Lib.decDigits, decN]
    split
    · rfl
    · rw [ih _ (by omega)]
theorem d1l (n : Int) : Lib.itoa n = dec n := by
  rw [Lib.itoa, dec, a7t, a7t]
  split
  · rw [show n.natAbs = (-n).toNat by omega]
  · rfl
theorem c9q (b : UInt8) (l : List UInt8) : Lib.trimPrefix l [b] = a4e b l ∧ Lib.hasPrefix l [b] = decide (l.head? = some b) := by
  cases l with
  | nil => exact ⟨rfl, rfl⟩
  | cons c r =>
    by_cases h : c = b
    · subst h; simp [Lib.trimPrefix, Lib.hasPrefix, a4e, List.isPrefixOf]
    · have h' : (b == c) = false := by simp [Ne.symm h]
      simp [Lib.trimPrefix, Lib.hasPrefix, a4e, List.isPrefixOf, h, h']
theorem c4c (b : UInt8) (l : List UInt8) : Lib.hasSuffix l [b] = decide (l.getLast? = some b) := by
  have h1 : Lib.hasSuffix l [b] = true ↔ l.getLast? = some b := by
    rw [Lib.hasSuffix, List.isSuffixOf_iff_suffix]
    constructor
    · rintro ⟨t, rfl⟩; simp
    · intro h
      obtain ⟨t, rfl⟩ := List.getLast?_eq_some_iff.1 h
      exact ⟨t, rfl⟩
  cases hb : Lib.hasSuffix l [b] with
  | true => exact (decide_eq_true (h1.1 hb)).symm
  | false => exact (decide_eq_false fun h => by rw [h1.2 h] at hb; cases hb).symm
theorem c9a (b : UInt8) (l : List UInt8) : Lib.trimSuffix l [b] = b4s b l := by
  rw [Lib.trimSuffix, c4c, b4s]
  by_cases h : l.getLast? = some b
  · rw [if_pos (decide_eq_true h), if_pos h, List.dropLast_eq_take]; rfl
  · rw [if_neg (by simpa using h), if_neg h]
end Go.Mv
namespace Go.Mv
/-- what these functions ask of the world: four package variables -/
def txtEnv (P : Program) (gM gP gS gR : Nat) (hP : P.globalNamed "internal/strconv.uint64pow10" = some gP) : Env where
  mo := False
  gb b := b = gM ∨ b = gP ∨ b = gS ∨ b = gR
  G w := (∃ m, w.cell? ⟨gM, 0, none⟩ = some (.int .i64 m)) ∧ Lib.TabIs P w "internal/strconv.uint64pow10" .u64 Lib.pow10Tab ∧
    (∃ ev, w.cell? ⟨gS, 0, none⟩ = some ev ∧ (ev = .nilIface ∨ ∃ te pe, ev = .iface te pe)) ∧ (∃ ev, w.cell? ⟨gR, 0, none⟩ = some ev ∧ (ev = .nilIface ∨ ∃ te pe, ev = .iface te pe))
  stable w w' hb h := by
    obtain ⟨⟨m, h1⟩, h2, ⟨e1, h3, h4⟩, ⟨e2, h5, h6⟩⟩ := h
    refine ⟨⟨m, ?_⟩, ?_, ⟨e1, ?_, h4⟩, ⟨e2, ?_, h6⟩⟩
    · rw [cell?_congr (w := w) (hb gM (.inl rfl))]; exact h1
    · unfold Lib.TabIs World.var? at h2 ⊢
      rw [hP, Option.bind_some] at h2 ⊢
      rw [hb gP (.inr (.inl rfl))]; exact h2
    · rw [cell?_congr (w := w) (hb gS (.inr (.inr (.inl rfl))))]; exact h3
    · rw [cell?_congr (w := w) (hb gR (.inr (.inr (.inr rfl))))]; exact h5
theorem c3s (s : ByteArray) (b : UInt8) : Lib.splitB (bA [b]) 0 (Lib.countB s (bA [b])) s = (splitB b s.data.toList).map bA ∧ (splitB b s.data.toList).length = Lib.countB s (bA [b]) + 1 := by
  have h1 := Lib.splitB_data (bA [b]) 0 (Lib.countB s (bA [b])) s
  have hc : Lib.countB s (bA [b]) = s.data.toList.count b := Lib.count_one b _
  have h2 : (Lib.splitB (bA [b]) 0 (Lib.countB s (bA [b])) s).map (·.data.toList) = splitB b s.data.toList := by
    rw [h1, hc]; exact b2a b _
  refine ⟨?_, ?_⟩
  · rw [← h2, List.map_map]
    have : (bA ∘ fun x : ByteArray => x.data.toList) = id := by funext x; exact a8i x
    rw [this, List.map_id]
  · rw [← h2, List.length_map]
    exact Lib.splitB_all (bA [b]) (Nat.le_refl 1) 0 _ s rfl
end Go.Mv
namespace Go.Proofs
variable {P : Program} {ρ : Ren}
theorem b6j {Γ : Env} (hmo : ¬ Γ.mo) {f : Nat} {md : Nat → Nat} (L : Lays.n146 P ρ) (hi9 : (P.info? (ρ.t 9)).map (fun i => (i.zero, i.size, i.bytes)) = some (some (.string ByteArray.empty), 1, 16)) (hf : ρ.f 146 = f)
    (hg : ∀ w, Γ.G w → ∃ m, w.cell? ⟨ρ.g 1, 0, none⟩ = some (.int .i64 m)) {args : List AV} {res : AV} {outs : List (List AV)} (h : b1v args = some (res, outs)) : P0 Γ P md f args res outs := by
  unfold b1v at h
  split at h
  · rename_i s c
    obtain ⟨b, hb, h2⟩ := Option.bind_eq_some_iff.1 h
    split at h2
    · rename_i hs
      cases h2
      have hc := one?_some hb
      subst hc
      subst hf
      obtain ⟨e1, e2⟩ := c3s s b
      have := b7x (P := P) hmo (f := ρ.f 146) (md := md) [.string s, .string (bA [b])] ((splitB b s.data.toList).map fun p => Value.string (bA p)) (fun w hw => by
        obtain ⟨m, hm⟩ := hg w hw
        refine (Any.strings_Split L hi9 s (bA [b]) m w hs hm (Nat.le_refl 1)).mono ?_
        rintro e w' ⟨rfl, rfl⟩
        refine ⟨_, rfl, by rw [List.length_map, e2], ρ.t 9, ?_⟩
        rw [e1, List.map_map]; rfl)
      rw [List.map_map] at this
      exact this
    · cases h2
  · cases h
theorem c0e {Γ : Env} (hmo : ¬ Γ.mo) {f : Nat} {md : Nat → Nat} (L : Lays.n103 P ρ) (hf : ρ.f 103 = f) {args : List AV} {res : AV} {outs : List (List AV)} (h : b7n args = some (res, outs)) : P0 Γ P md f args res outs := by
  unfold b7n at h
  split at h
  · rename_i s c
    obtain ⟨b, hb, h2⟩ := Option.bind_eq_some_iff.1 h
    cases h2
    have hc := one?_some hb
    subst hc
    subst hf
    obtain ⟨e1, e2⟩ := c9q b s.data.toList
    exact R8 hmo [.string s, .string (bA [b])] _ rfl fun w _ => (Any.strings_CutPrefix L s (bA [b]) w).mono fun e w' ⟨he, hw⟩ => by
      subst hw
      refine ⟨_, he, fun D => ?_, Below.refl _ _⟩
      rw [show (bA [b]).data.toList = [b] from rfl, e1, e2]
      exact a1p ⟨rfl, .val _⟩ ⟨rfl, .val _⟩
  · cases h
theorem c1f {Γ : Env} (hmo : ¬ Γ.mo) {f : Nat} {md : Nat → Nat} (L : Lays.n104 P ρ) (hf : ρ.f 104 = f) {args : List AV} {res : AV} {outs : List (List AV)} (h : b7o args = some (res, outs)) : P0 Γ P md f args res outs := by
  unfold b7o at h
  split at h
  · rename_i s c
    obtain ⟨b, hb, h2⟩ := Option.bind_eq_some_iff.1 h
    split at h2
    · rename_i hs
      cases h2
      have hc := one?_some hb
      subst hc
      subst hf
      exact R8 hmo [.string s, .string (bA [b])] _ rfl fun w _ => (Any.strings_CutSuffix L s (bA [b]) w (by omega)).mono fun e w' ⟨he, hw⟩ => by
        subst hw
        refine ⟨_, he, fun D => ?_, Below.refl _ _⟩
        rw [show (bA [b]).data.toList = [b] from rfl, c9a, c4c]
        exact a1p ⟨rfl, .val _⟩ ⟨rfl, .val _⟩
    · cases h2
  · cases h
theorem b9e {Γ : Env} (hmo : ¬ Γ.mo) {f : Nat} {md : Nat → Nat} (L : LaysM.n171 P ρ) (hf : ρ.f 171 = f) (hg : ∀ w, Γ.G w → Lib.TabIs P w "internal/strconv.uint64pow10" .u64 Lib.pow10Tab) {args : List AV} {res : AV} {outs : List (List AV)} (h : b1t args = some (res, outs)) : P0 Γ P md f args res outs := by
  unfold b1t at h
  split at h
  · rename_i n
    split at h
    · rename_i hn
      cases h
      subst hf
      exact R8 hmo [.int .i64 n] _ rfl fun w hw => (Any.strconv_Itoa L n hn.1 hn.2 w (hg w hw)).mono fun e w' ⟨he, k, os, hw'⟩ => by
        subst hw'
        refine ⟨_, he, fun D => ?_, ⟨rfl, rfl, rfl, by simp [Sort.grow, World.drewN], fun j hj => ?_⟩⟩
        · rw [d1l]; exact b3y
        · simp only [Sort.grow, World.drewN]
          exact Array.getElem?_append_left hj
    · cases h
  · cases h
theorem c0x {Γ : Env} (hmo : ¬ Γ.mo) {f : Nat} {md : Nat → Nat} (L : LaysC.n172 P ρ) (hf : ρ.f 172 = f) (hs : ∀ w, Γ.G w → ∃ ev, w.cell? ⟨ρ.g 15, 0, none⟩ = some ev ∧ (ev = .nilIface ∨ ∃ te pe, ev = .iface te pe))
    (hr : ∀ w, Γ.G w → ∃ ev, w.cell? ⟨ρ.g 16, 0, none⟩ = some ev ∧ (ev = .nilIface ∨ ∃ te pe, ev = .iface te pe)) {args : List AV} {res : AV} {outs : List (List AV)} (h : b6g args = some (res, outs)) : P0 Γ P md f args res outs := by
  unfold b6g at h
  split at h
  · rename_i s
    split at h
    · rename_i hsz
      cases h
      subst hf
      cases ha : Lib.atoiAll s.data.toList with
      | ok v =>
        have e : atR s.data.toList = .tup [iV v, .val .nilIface] := by rw [atR, ha]
        rw [e]
        exact R8 hmo [.string s] _ rfl fun w _ => (Any.strconv_Atoi_ok L s (by omega) v ha w).mono fun e w' ⟨he, hw⟩ => by
          refine ⟨_, he, fun D => a1p ⟨rfl, .val _⟩ ⟨rfl, .val _⟩, ?_⟩
          rcases hw with rfl | ⟨t, rfl⟩
          · exact Below.refl _ _
          · exact ⟨rfl, rfl, rfl, by rw [Lib.bytesWorld_size]; omega, fun j hj => Lib.bytesWorld_at_old w (ρ.t 5) t j hj⟩
      | range =>
        have e : atR s.data.toList = .tup [iV (Lib.atoiSat s.data.toList), .ifc] := by rw [atR, ha]
        rw [e]
        exact R8 hmo [.string s] _ rfl fun w hw => by
          obtain ⟨ev, hv, hev⟩ := hr w hw
          exact (Any.strconv_Atoi_range L s (by omega) ha ev w hv hev).mono fun e w' ⟨N, he, _, _, hB⟩ => ⟨_, he, fun D => a1p ⟨rfl, .val _⟩ ⟨rfl, .ifc _ _⟩, hB⟩
      | _ =>
        have e : atR s.data.toList = .tup [iV 0, .ifc] := by rw [atR, ha]
        rw [e]
        exact R8 hmo [.string s] _ rfl fun w hw => by
          obtain ⟨ev, hv, hev⟩ := hs w hw
          exact (Any.strconv_Atoi_syntax L s (by omega) ha ev w hv hev).mono fun e w' ⟨N, he, _, _, hB⟩ => ⟨_, he, fun D => a1p ⟨rfl, .val _⟩ ⟨rfl, .ifc _ _⟩, hB⟩
    · cases h
  · cases h
end Go.Proofs
namespace Go.Proofs
variable {P : Program} {ρ : Ren}
theorem c8x : ∀ {es : List AV} {ps : List (List UInt8)}, unT es = some ps → es = ps.map tV
  | [], ps, h => by cases h; rfl
  | .val (.string s) :: r, ps, h => by
    simp only [unT, Option.map_eq_some_iff] at h
    obtain ⟨qs, h1, rfl⟩ := h
    rw [c8x h1, List.map_cons]
theorem c1c {Γ : Env} (hmo : ¬ Γ.mo) {f : Nat} {md : Nat → Nat} (L : Lays.n156 P ρ) (X : Builder.Extra P ρ) (hf : ρ.f 156 = f) {args : List AV} {res : AV} {outs : List (List AV)} (h : b6e args = some (res, outs)) : P0 Γ P md f args res outs := by
  unfold b6e at h
  split at h
  · rename_i es c
    obtain ⟨b, hb, h2⟩ := Option.bind_eq_some_iff.1 h
    obtain ⟨ps, hp, h3⟩ := Option.bind_eq_some_iff.1 h2
    split at h3
    · rename_i hl
      cases h3
      have hc := one?_some hb
      subst hc
      have := c8x hp
      subst this
      subst hf
      intro w A O0 ν0 D vals hOA R hA
      have h0 := R.slots 0 (by simp)
      have h1 := R.slots 1 (by simp)
      have hsz : vals.size = 2 := by simpa using R.size
      obtain ⟨v, u, rfl⟩ : ∃ v u, vals = #[v, u] := by
        match vals, hsz with
        | ⟨[v, u]⟩, _ => exact ⟨v, u, rfl⟩
      have hv : RV w D (.list (ps.map tV)) v := RS.list_inv h0
      have hu : u = .string (bA [b]) := RS.val_inv (u := .string (bA [b])) h1
      subst hu
      have R0 := R.noSlots
      have hc : ∀ w' : World, Below w.heap.size w w' → ∃ F' D' st' ν', Rel Γ w A O0 ν0 0 F' D' st' ν' #[] w' ∧ outsOf st' (cidAll md 0 [.list (ps.map tV), tV [b]]) = some [] ∧ AllRes F' D' w' (tV (joinB b ps)) (.string (bA (joinB b ps))) ∧ b8u F' (tV (joinB b ps)) := by
        intro w' hB
        exact ⟨_, _, _, ν0, R0.stay (a0b (fun h => (hmo h).elim) hB (bt := w.heap.size)) (Nat.le_refl _), rfl, b3y, fun κ f hf => by cases hf⟩
      generalize hes : ps.map tV = es at hv
      cases hv with
      | list _ a cap bk o s cc hcap ha hs hcl hlf =>
        subst hes
        rw [List.length_map] at hcap ⊢
        cases ps with
        | nil =>
          refine (Any.strings_Join_none L X a cap (bA [b]) w).mono ?_
          rintro e w' ⟨rfl, rfl⟩
          exact ⟨_, rfl, hc w' (Below.refl _ _)⟩
        | cons p r =>
          obtain ⟨rfl, _, hbk⟩ := ha (by simp)
          have hs1 : s = 1 := (hs (tV p) (by simp)).symm
          subst hs1
          have e1 : Lib.join (((p :: r).map bA).map (·.data.toList)) (bA [b]).data.toList = joinB b (p :: r) := by
            rw [List.map_map]
            have : ((fun x : ByteArray => x.data.toList) ∘ bA) = id := by funext x; rfl
            rw [this, List.map_id]
            exact c8f b (p :: r)
          have hj := Any.strings_Join L X bk o cap ((p :: r).map bA) (bA [b]) w (fun j x hj => by
            rw [List.getElem?_map] at hj
            cases hq : (p :: r)[j]? with
            | none => rw [hq] at hj; cases hj
            | some q =>
              rw [hq] at hj
              cases hj
              have hl0 : leafAt ((p :: r).map tV) j 0 = some (tV q) := by
                unfold leafAt
                rw [List.getElem?_map, hq]
                rfl
              have h4 := hcl j 0 _ hl0
              have h5 := hlf j 0 _ hl0
              have h6 : cc j 0 = .string (bA q) := by
                generalize cc j 0 = z at h5
                cases h5
                rfl
              rw [h6] at h4
              simpa using h4) hbk (by have := hl.1; simp only [H7, List.length_map] at *; omega) (by simpa using hcap) (by rw [e1]; have := hl.2; simp only [H7] at this; omega)
          rw [List.length_map] at hj
          refine hj.mono ?_
          rintro e w' ⟨rfl, hB⟩
          refine ⟨_, rfl, ?_⟩
          rw [e1]
          exact hc w' hB
    · cases h3
  · cases h
end Go.Proofs
end
section
/- Functions of the library: that they keep the contracts which the abstract machine asks of them. -/
open Go Go.Mv Go.Proofs Go.Shelf Go.RowKit Go.Lib
namespace Go.Mv
theorem b0q (xs : List Int) : (xs.mergeSort fun x y => decide (x ≤ y)) = a0n xs := by
  refine List.Perm.eq_of_pairwise (le := (· ≤ ·)) (fun a b _ _ h1 h2 => by omega) ?_ (a7l xs) ((List.mergeSort_perm _ _).trans (b2v xs).symm)
  have := List.pairwise_mergeSort (le := fun x y : Int => decide (x ≤ y)) (fun a b c h1 h2 => by simp at *; omega) (fun a b => by simp; omega) xs
  simpa using this
end Go.Mv
namespace Go.Proofs
variable {P : Program} {ρ : Ren}
set_option maxHeartbeats 2000000 in
set_option maxRecDepth 100000 in
theorem c1e (L : SlLaysE0.n41 P ρ) (z23 : ∀ w, (Go.sizeOf (ρ.t 23)).run P w = .ok 1 w) (a : Addr) (c : Nat) (w : World) :
    Calls P (ρ.f 41) #[.slice (some a) 0 c] w fun e w' => e = .returned (.slice (some ⟨w.heap.size, 0, none⟩) 0 0) ∧ w' = w.alloc (.cells #[] (ρ.t 23)) := by
  have mixed := L.mixed; have t4 := L.t4; have a4 := L.a4; have z4 := L.z4; have v4 := L.v4; have t22 := L.t22; have a22 := L.a22; have z22 := L.z22; have v22 := L.v22
  have q22 : ∀ (w : World) (a : Option Addr) (n c n' c' : Nat), (binOp .eql (ρ.t 22) (.slice a n c) (.slice none n' c')).run P w = .ok (.bool a.isNone) w := fun w a n c n' c' => Lib.run_eql_slice_nil w _ _ a n c n' c' L.t22
  have u22 : ∀ w, Sem.run P (underlying (ρ.t 22)) w = .ok (TypeDesc.slice (ρ.t 23)) w := run_underlying t22
  obtain ⟨_, _, FG⟩ := L.f41
  go_enter FG, SlBodyN.n41_ntmps ρ
  go_wp2
  go_ret
  exact ⟨rfl, rfl⟩

theorem c5i (L : SlLaysE0.n41 P ρ) (i0 : TypeInfo) (z : Value) (hi : P.info? (ρ.t 23) = some i0) (hz0 : i0.zero = some z) (hz1 : i0.size = 1) (hz2 : i0.bytes = 8) (hzs : z.cells.size = 1)
    (z23 : ∀ w, (Go.sizeOf (ρ.t 23)).run P w = .ok 1 w) (w : World) (a : Option Addr) (n c : Nat) (news : List Value) (hl : news.length = n) (hn : n ≤ H7)
    (hc : n ≠ 0 → ∃ b o, a = some ⟨b, o, none⟩ ∧ ∀ (j : Nat) u, news[j]? = some u → w.cell? ⟨b, o + j, none⟩ = some u) (h1 : ∀ u ∈ news, ∃ x, u = Value.int .i64 x) :
    Calls P (ρ.f 41) #[.slice a n c] w fun e w' => ∃ v', e = .returned v' ∧ w'.ownsRow w.heap.size (ρ.t 23) 1 v' n news ∧ Below w.heap.size w w' := by
  simp only [H7] at hn
  cases a with
  | none =>
    have h0 : n = 0 := Classical.byContradiction fun h => by obtain ⟨_, _, h2, _⟩ := hc h; cases h2
    subst h0
    refine (AnyE.slices_Clone_nil L 0 c w).mono ?_
    rintro e w' ⟨rfl, rfl⟩
    exact ⟨_, rfl, ⟨by simpa using hl, .inl ⟨rfl, rfl⟩⟩, .refl _ _⟩
  | some a =>
    by_cases h0 : n = 0
    · subst h0
      refine (c1e L z23 a c w).mono ?_
      rintro e w' ⟨rfl, rfl⟩
      refine ⟨_, rfl, ⟨by simpa using hl, .inr ⟨w.heap.size, 0, #[], rfl, Nat.le_refl _, heap_alloc_new w _, Nat.le_refl _, by simp [maxLen], rfl, ?_⟩⟩, (Below.refl _ _).alloc (Nat.le_refl _) _⟩
      have : news = [] := List.length_eq_zero_iff.1 hl
      subst this
      rfl
    · obtain ⟨b, o, he, hcl⟩ := hc h0
      cases he
      refine (AnyE.slices_Clone L i0 z 1 8 hi hz0 hz1 hz2 hzs (by decide) z23 b o n c news w (by omega) (by simp [maxLen]; omega) (by omega) hcl (fun u hu => by obtain ⟨x, rfl⟩ := h1 u hu; rfl)).mono ?_
      rintro e w' ⟨v', rfl, hown, _, hB⟩
      exact ⟨v', rfl, hown, hB⟩

theorem c2u : ∀ {es : List AV} {xs : List Int}, unI es = some xs → es = xs.map iV
  | [], xs, h => by cases h; rfl
  | .val (.int .i64 n) :: r, xs, h => by
    simp only [unI, Option.map_eq_some_iff] at h
    obtain ⟨ys, h1, rfl⟩ := h
    rw [c2u h1]
    rfl

theorem b8d {Γ : Env} (hmo : ¬ Γ.mo) (f : Nat) (md : Nat → Nat) (L : SlLaysE0.n41 P ρ) (i0 : TypeInfo) (z : Value) (hi : P.info? (ρ.t 23) = some i0) (hz0 : i0.zero = some z) (hz1 : i0.size = 1) (hz2 : i0.bytes = 8) (hzs : z.cells.size = 1)
    (z23 : ∀ w, (Go.sizeOf (ρ.t 23)).run P w = .ok 1 w) (hf : ρ.f 41 = f) {args : List AV} {res : AV} {outs : List (List AV)} (h : a7k args = some (res, outs)) : P0 Γ P md f args res outs := by
  unfold a7k at h
  split at h
  · rename_i es
    split at h
    · rename_i hl
      simp only [Option.map_eq_some_iff, Prod.mk.injEq] at h
      obtain ⟨xs, h1, rfl, rfl⟩ := h
      have := c2u h1
      subst this
      subst hf
      exact b3t hmo xs (by simpa using hl) (fun w a n c news => c5i L i0 z hi hz0 hz1 hz2 hzs z23 w a n c news)
    · cases h
  · cases h

theorem b9p {Γ : Env} (f : Nat) (md : Nat → Nat) (L : SlLaysM.n5 P ρ) (hf : ρ.f 5 = f) (hmd : md 0 = 1) {args : List AV} {res : AV} {outs : List (List AV)} (h : b1m args = some (res, outs)) : P0 Γ P md f args res outs := by
  unfold b1m at h
  split at h
  · rename_i es
    split at h
    · rename_i hl
      simp only [Option.map_eq_some_iff, Prod.mk.injEq] at h
      obtain ⟨xs, h1, rfl, rfl⟩ := h
      have := c2u h1
      subst this
      subst hf
      refine b4z xs (a0n xs) (by simpa using hl) (by simp) hmd (fun w a c => AnyM.slices_Sort_int_none L a c w) (fun w b o c hH hb hx => ?_)
      have := AnyM.slices_Sort_int L b o c xs w hH hb (by simp only [H7] at hx; omega)
      rwa [b0q] at this
    · cases h
  · cases h
end Go.Proofs
namespace Go.Proofs
theorem c6s {tb : List (Nat × (List AV → Option (AV × List (List AV))))} {f : Nat} {F : List AV → Option (AV × List (List AV))} (h : c4b tb f = some F) : (f, F) ∈ tb := by
  unfold c4b at h
  split at h
  · rename_i x hx
    cases h
    have h1 := List.mem_of_find?_eq_some hx
    have h2 : (x.1 == f) = true := by simpa using List.find?_some hx
    rw [← eq_of_beq h2]
    exact h1
  · cases h
def d2a (i : TypeInfo) : Bool := i.size == 1 && i.bytes == 8 && (match i.zero with | some (.int .i64 0) => true | _ => false)
theorem c9e {P : Program} {T : Nat} (h : (match P.info? T with | some i => d2a i | none => false) = true) :
    ∃ i0 z, P.info? T = some i0 ∧ i0.zero = some z ∧ i0.size = 1 ∧ i0.bytes = 8 ∧ z.cells.size = 1 := by
  split at h
  · rename_i i hi
    simp only [d2a, Bool.and_eq_true, beq_iff_eq] at h
    obtain ⟨⟨h1, h2⟩, h3⟩ := h
    split at h3
    · rename_i hz
      exact ⟨i, _, hi, hz, h1, h2, rfl⟩
    · cases h3
  · cases h
theorem T1 {P : Program} {f : Nat} {fn : Func} (h : P.funcs[f]? = some fn) (h1 : (fn.name == "runtime.NumGoroutine") = false) (h2 : fn.body.isNone = false) : Mv.Enters P f := ⟨fn, h, h1, h2⟩
end Go.Proofs
end
open Go Go.Mv Go.Proofs Go.Proofs.YtcpmbhfnapijaaaGreatDoor Go.Shelf Go.RowKit Go.Lib
namespace Go.Proofs
def Tryz.lSplit_ren : Go.Shelf.Ren := ⟨fun | 146 => 121 | 221 => 144 | 268 => 166 | 138 => 167 | 143 => 168 | 195 => 185 | 197 => 186 | 218 => 187 | 219 => 188 | 260 => 196 | 217 => 197 | 225 => 198 | 224 => 199 | 267 => 200 | 266 => 207 | 314 => 208 | n => n, fun | 9 => 9 | 31 => 31 | 3 => 3 | 4 => 4 | 0 => 0 | 105 => 173 | 21 => 21 | 5 => 5 | 46 => 136 | 119 => 196 | 139 => 199 | 138 => 198 | 146 => 200 | 51 => 154 | n => n, fun | 1 => 3 | 3 => 4 | 4 => 5 | n => n⟩
theorem Tryz.lSplit : Go.Proofs.Lays.n146 Tryz.prog Tryz.lSplit_ren := {
  mixed := by kernel_rfl
  f138 := Tryz.func167.trans (congrArg some (by kernel_rfl))
  f143 := Tryz.func168.trans (congrArg some (by kernel_rfl))
  f146 := Tryz.func121.trans (congrArg some (by kernel_rfl))
  f195 := Tryz.func185.trans (congrArg some (by kernel_rfl))
  f197 := Tryz.func186.trans (congrArg some (by kernel_rfl))
  f217 := Tryz.func197.trans (congrArg some (by kernel_rfl))
  f218 := Tryz.func187.trans (congrArg some (by kernel_rfl))
  f219 := Tryz.func188.trans (congrArg some (by kernel_rfl))
  f221 := Tryz.func144.trans (congrArg some (by kernel_rfl))
  f224 := Tryz.func199.trans (congrArg some (by kernel_rfl))
  f225 := Tryz.func198.trans (congrArg some (by kernel_rfl))
  f260 := Tryz.func196.trans (congrArg some (by kernel_rfl))
  f266 := Tryz.func207.trans (congrArg some (by kernel_rfl))
  f267 := Tryz.func200.trans (congrArg some (by kernel_rfl))
  f268 := Tryz.func166.trans (congrArg some (by kernel_rfl))
  f314 := Tryz.func208.trans (congrArg some (by kernel_rfl))
  t0 := Tryz.underlying0
  a0 := Tryz.isAgg0
  z0 := Tryz.sizeOf0
  v0 := Tryz.zeroValue0
  t3 := Tryz.underlying3
  a3 := Tryz.isAgg3
  z3 := Tryz.sizeOf3
  v3 := Tryz.zeroValue3
  t4 := Tryz.underlying4
  a4 := Tryz.isAgg4
  z4 := Tryz.sizeOf4
  v4 := Tryz.zeroValue4
  t5 := Tryz.underlying5
  a5 := Tryz.isAgg5
  z5 := Tryz.sizeOf5
  v5 := Tryz.zeroValue5
  t9 := Tryz.underlying9
  a9 := Tryz.isAgg9
  z9 := Tryz.sizeOf9
  v9 := Tryz.zeroValue9
  t21 := Tryz.underlying21
  a21 := Tryz.isAgg21
  z21 := Tryz.sizeOf21
  v21 := Tryz.zeroValue21
  t31 := Tryz.underlying31
  a31 := Tryz.isAgg31
  z31 := Tryz.sizeOf31
  v31 := Tryz.zeroValue31
  t46 := Tryz.underlying136
  a46 := Tryz.isAgg136
  z46 := Tryz.sizeOf136
  v46 := Tryz.zeroValue136
  t51 := Tryz.underlying154
  a51 := Tryz.isAgg154
  z51 := Tryz.sizeOf154
  v51 := Tryz.zeroValue154
  t105 := Tryz.underlying173
  a105 := Tryz.isAgg173
  z105 := Tryz.sizeOf173
  v105 := Tryz.zeroValue173
  t119 := Tryz.underlying196
  a119 := Tryz.isAgg196
  z119 := Tryz.sizeOf196
  t138 := Tryz.underlying198
  a138 := Tryz.isAgg198
  z138 := Tryz.sizeOf198
  v138 := Tryz.zeroValue198
  t139 := Tryz.underlying199
  a139 := Tryz.isAgg199
  z139 := Tryz.sizeOf199
  v139 := Tryz.zeroValue199
  t146 := Tryz.underlying200
  a146 := Tryz.isAgg200
  z146 := Tryz.sizeOf200
  v146 := Tryz.zeroValue200
  g1 := by kernel_rfl
  g3 := by kernel_rfl
  g4 := by kernel_rfl }
def Tryz.lJoin_ren : Go.Shelf.Ren := ⟨fun | 156 => 122 | 165 => 145 | 166 => 146 | 169 => 147 | 240 => 169 | 241 => 170 | 276 => 189 | 277 => 190 | n => n, fun | 31 => 31 | 9 => 9 | 3 => 3 | 4 => 4 | 0 => 0 | 20 => 20 | 72 => 142 | 76 => 132 | 70 => 140 | 37 => 22 | 75 => 131 | 127 => 160 | 164 => 176 | 5 => 5 | 80 => 117 | n => n, fun | n => n⟩
theorem Tryz.lJoin : Go.Proofs.Lays.n156 Tryz.prog Tryz.lJoin_ren := {
  mixed := by kernel_rfl
  f156 := Tryz.func122.trans (congrArg some (by kernel_rfl))
  f165 := Tryz.func145.trans (congrArg some (by kernel_rfl))
  f166 := Tryz.func146.trans (congrArg some (by kernel_rfl))
  f169 := Tryz.func147.trans (congrArg some (by kernel_rfl))
  f240 := Tryz.func169.trans (congrArg some (by kernel_rfl))
  f241 := Tryz.func170.trans (congrArg some (by kernel_rfl))
  f276 := Tryz.func189.trans (congrArg some (by kernel_rfl))
  f277 := Tryz.func190.trans (congrArg some (by kernel_rfl))
  t0 := Tryz.underlying0
  a0 := Tryz.isAgg0
  z0 := Tryz.sizeOf0
  v0 := Tryz.zeroValue0
  t3 := Tryz.underlying3
  a3 := Tryz.isAgg3
  z3 := Tryz.sizeOf3
  v3 := Tryz.zeroValue3
  t4 := Tryz.underlying4
  a4 := Tryz.isAgg4
  z4 := Tryz.sizeOf4
  v4 := Tryz.zeroValue4
  t9 := Tryz.underlying9
  a9 := Tryz.isAgg9
  z9 := Tryz.sizeOf9
  v9 := Tryz.zeroValue9
  t20 := Tryz.underlying20
  a20 := Tryz.isAgg20
  z20 := Tryz.sizeOf20
  v20 := Tryz.zeroValue20
  t31 := Tryz.underlying31
  a31 := Tryz.isAgg31
  z31 := Tryz.sizeOf31
  v31 := Tryz.zeroValue31
  t37 := Tryz.underlying22
  a37 := Tryz.isAgg22
  z37 := Tryz.sizeOf22
  v37 := Tryz.zeroValue22
  t70 := Tryz.underlying140
  a70 := Tryz.isAgg140
  z70 := Tryz.sizeOf140
  v70 := Tryz.zeroValue140
  t72 := Tryz.underlying142
  a72 := Tryz.isAgg142
  z72 := Tryz.sizeOf142
  v72 := Tryz.zeroValue142
  t75 := Tryz.underlying131
  a75 := Tryz.isAgg131
  z75 := Tryz.sizeOf131
  v75 := Tryz.zeroValue131
  t76 := Tryz.underlying132
  a76 := Tryz.isAgg132
  z76 := Tryz.sizeOf132
  v76 := Tryz.zeroValue132
  t127 := Tryz.underlying160
  a127 := Tryz.isAgg160
  z127 := Tryz.sizeOf160
  v127 := Tryz.zeroValue160
  t164 := Tryz.underlying176
  a164 := Tryz.isAgg176
  z164 := Tryz.sizeOf176
  v164 := Tryz.zeroValue176 }
def Tryz.lCutP_ren : Go.Shelf.Ren := ⟨fun | 103 => 136 | 210 => 149 | 206 => 171 | n => n, fun | 9 => 9 | 4 => 4 | 24 => 128 | 3 => 3 | n => n, fun | n => n⟩
theorem Tryz.lCutP : Go.Proofs.Lays.n103 Tryz.prog Tryz.lCutP_ren := {
  mixed := by kernel_rfl
  f103 := Tryz.func136.trans (congrArg some (by kernel_rfl))
  f206 := Tryz.func171.trans (congrArg some (by kernel_rfl))
  f210 := Tryz.func149.trans (congrArg some (by kernel_rfl))
  t3 := Tryz.underlying3
  a3 := Tryz.isAgg3
  z3 := Tryz.sizeOf3
  v3 := Tryz.zeroValue3
  t4 := Tryz.underlying4
  a4 := Tryz.isAgg4
  z4 := Tryz.sizeOf4
  v4 := Tryz.zeroValue4
  t9 := Tryz.underlying9
  a9 := Tryz.isAgg9
  z9 := Tryz.sizeOf9
  v9 := Tryz.zeroValue9
  t24 := Tryz.underlying128
  a24 := Tryz.isAgg128
  z24 := Tryz.sizeOf128
  v24 := Tryz.zeroValue128 }
def Tryz.lCutS_ren : Go.Shelf.Ren := ⟨fun | 104 => 137 | 211 => 150 | 207 => 172 | n => n, fun | 9 => 9 | 4 => 4 | 24 => 128 | 3 => 3 | n => n, fun | n => n⟩
theorem Tryz.lCutS : Go.Proofs.Lays.n104 Tryz.prog Tryz.lCutS_ren := {
  mixed := by kernel_rfl
  f104 := Tryz.func137.trans (congrArg some (by kernel_rfl))
  f207 := Tryz.func172.trans (congrArg some (by kernel_rfl))
  f211 := Tryz.func150.trans (congrArg some (by kernel_rfl))
  t3 := Tryz.underlying3
  a3 := Tryz.isAgg3
  z3 := Tryz.sizeOf3
  v3 := Tryz.zeroValue3
  t4 := Tryz.underlying4
  a4 := Tryz.isAgg4
  z4 := Tryz.sizeOf4
  v4 := Tryz.zeroValue4
  t9 := Tryz.underlying9
  a9 := Tryz.isAgg9
  z9 := Tryz.sizeOf9
  v9 := Tryz.zeroValue9
  t24 := Tryz.underlying128
  a24 := Tryz.isAgg128
  z24 := Tryz.sizeOf128
  v24 := Tryz.zeroValue128 }
def Tryz.lItoa_ren : Go.Shelf.Ren := ⟨fun | 171 => 165 | 243 => 184 | 246 => 195 | 283 => 203 | 284 => 204 | 285 => 205 | 286 => 206 | 129 => 163 | 317 => 209 | 318 => 210 | 319 => 211 | 320 => 212 | 337 => 213 | 338 => 214 | n => n, fun | 3 => 3 | 9 => 9 | 2 => 2 | 4 => 4 | 171 => 192 | 0 => 0 | 53 => 156 | 37 => 22 | 5 => 5 | 173 => 194 | 212 => 203 | 51 => 154 | 20 => 20 | 213 => 204 | 46 => 136 | 232 => 205 | 233 => 206 | n => n, fun | 17 => 6 | 18 => 7 | 19 => 8 | n => n⟩
theorem Tryz.lItoa : Go.Proofs.LaysM.n171 Tryz.prog Tryz.lItoa_ren := {
  mixed := by kernel_rfl
  f129 := Tryz.func163.trans (congrArg some (by kernel_rfl))
  f171 := Tryz.func165.trans (congrArg some (by kernel_rfl))
  f243 := Tryz.func184.trans (congrArg some (by kernel_rfl))
  f246 := Tryz.func195.trans (congrArg some (by kernel_rfl))
  f283 := Tryz.func203.trans (congrArg some (by kernel_rfl))
  f284 := Tryz.func204.trans (congrArg some (by kernel_rfl))
  f285 := Tryz.func205.trans (congrArg some (by kernel_rfl))
  f286 := Tryz.func206.trans (congrArg some (by kernel_rfl))
  f317 := Tryz.func209.trans (congrArg some (by kernel_rfl))
  f318 := Tryz.func210.trans (congrArg some (by kernel_rfl))
  f319 := Tryz.func211.trans (congrArg some (by kernel_rfl))
  f320 := Tryz.func212.trans (congrArg some (by kernel_rfl))
  f337 := Tryz.func213.trans (congrArg some (by kernel_rfl))
  f338 := Tryz.func214.trans (congrArg some (by kernel_rfl))
  t0 := Tryz.underlying0
  a0 := Tryz.isAgg0
  z0 := Tryz.sizeOf0
  v0 := Tryz.zeroValue0
  t2 := Tryz.underlying2
  a2 := Tryz.isAgg2
  z2 := Tryz.sizeOf2
  v2 := Tryz.zeroValue2
  t3 := Tryz.underlying3
  a3 := Tryz.isAgg3
  z3 := Tryz.sizeOf3
  v3 := Tryz.zeroValue3
  t4 := Tryz.underlying4
  a4 := Tryz.isAgg4
  z4 := Tryz.sizeOf4
  v4 := Tryz.zeroValue4
  t5 := Tryz.underlying5
  a5 := Tryz.isAgg5
  z5 := Tryz.sizeOf5
  v5 := Tryz.zeroValue5
  t9 := Tryz.underlying9
  a9 := Tryz.isAgg9
  z9 := Tryz.sizeOf9
  v9 := Tryz.zeroValue9
  t20 := Tryz.underlying20
  a20 := Tryz.isAgg20
  z20 := Tryz.sizeOf20
  v20 := Tryz.zeroValue20
  t37 := Tryz.underlying22
  a37 := Tryz.isAgg22
  z37 := Tryz.sizeOf22
  v37 := Tryz.zeroValue22
  t46 := Tryz.underlying136
  a46 := Tryz.isAgg136
  z46 := Tryz.sizeOf136
  v46 := Tryz.zeroValue136
  t51 := Tryz.underlying154
  a51 := Tryz.isAgg154
  z51 := Tryz.sizeOf154
  v51 := Tryz.zeroValue154
  t53 := Tryz.underlying156
  a53 := Tryz.isAgg156
  z53 := Tryz.sizeOf156
  v53 := Tryz.zeroValue156
  t171 := Tryz.underlying192
  a171 := Tryz.isAgg192
  z171 := Tryz.sizeOf192
  v171 := Tryz.zeroValue192
  t173 := Tryz.underlying194
  a173 := Tryz.isAgg194
  z173 := Tryz.sizeOf194
  v173 := Tryz.zeroValue194
  t212 := Tryz.underlying203
  a212 := Tryz.isAgg203
  z212 := Tryz.sizeOf203
  v212 := Tryz.zeroValue203
  t213 := Tryz.underlying204
  a213 := Tryz.isAgg204
  z213 := Tryz.sizeOf204
  t232 := Tryz.underlying205
  a232 := Tryz.isAgg205
  z232 := Tryz.sizeOf205
  v232 := Tryz.zeroValue205
  t233 := Tryz.underlying206
  a233 := Tryz.isAgg206
  z233 := Tryz.sizeOf206
  v233 := Tryz.zeroValue206
  g17 := by kernel_rfl
  g18 := by kernel_rfl
  g19 := by kernel_rfl
  i0 := by kernel_rfl
  i2 := by kernel_rfl
  i3 := by kernel_rfl
  i4 := by kernel_rfl
  i5 := by kernel_rfl
  i9 := by kernel_rfl
  i20 := by kernel_rfl
  i37 := by kernel_rfl
  i46 := by kernel_rfl
  i51 := by kernel_rfl
  i53 := by kernel_rfl
  i171 := by kernel_rfl
  i173 := by kernel_rfl
  i212 := by kernel_rfl
  i232 := by kernel_rfl
  i233 := by kernel_rfl
  m17 := by kernel_rfl
  m18 := by kernel_rfl
  m19 := by kernel_rfl }
def Tryz.lAtoi_ren : Go.Shelf.Ren := ⟨fun | 172 => 138 | 244 => 151 | 245 => 152 | 247 => 173 | 279 => 174 | 280 => 175 | 281 => 176 | 282 => 177 | 287 => 191 | 316 => 192 | 171 => 165 | 205 => 193 | 321 => 201 | 322 => 202 | 243 => 184 | 246 => 195 | 283 => 203 | 284 => 204 | 285 => 205 | 286 => 206 | 129 => 163 | 317 => 209 | 318 => 210 | 319 => 211 | 320 => 212 | 337 => 213 | 338 => 214 | n => n, fun | 9 => 9 | 3 => 3 | 75 => 131 | 76 => 132 | 4 => 4 | 5 => 5 | 167 => 162 | 37 => 22 | 0 => 0 | 85 => 163 | 2 => 2 | 168 => 165 | 53 => 156 | 175 => 179 | 46 => 136 | 210 => 182 | 127 => 160 | 145 => 191 | 143 => 189 | 21 => 21 | 171 => 192 | 173 => 194 | 212 => 203 | 51 => 154 | 20 => 20 | 213 => 204 | 232 => 205 | 233 => 206 | 80 => 117 | n => n, fun | 15 => 1 | 16 => 2 | 17 => 6 | 18 => 7 | 19 => 8 | n => n⟩
theorem Tryz.lAtoi : Go.Proofs.LaysC.n172 Tryz.prog Tryz.lAtoi_ren := {
  mixed := by kernel_rfl
  f129 := Tryz.func163.trans (congrArg some (by kernel_rfl))
  f171 := Tryz.func165.trans (congrArg some (by kernel_rfl))
  f172 := Tryz.func138.trans (congrArg some (by kernel_rfl))
  f205 := Tryz.func193.trans (congrArg some (by kernel_rfl))
  f243 := Tryz.func184.trans (congrArg some (by kernel_rfl))
  f244 := Tryz.func151.trans (congrArg some (by kernel_rfl))
  f245 := Tryz.func152.trans (congrArg some (by kernel_rfl))
  f246 := Tryz.func195.trans (congrArg some (by kernel_rfl))
  f247 := Tryz.func173.trans (congrArg some (by kernel_rfl))
  f279 := Tryz.func174.trans (congrArg some (by kernel_rfl))
  f280 := Tryz.func175.trans (congrArg some (by kernel_rfl))
  f281 := Tryz.func176.trans (congrArg some (by kernel_rfl))
  f282 := Tryz.func177.trans (congrArg some (by kernel_rfl))
  f283 := Tryz.func203.trans (congrArg some (by kernel_rfl))
  f284 := Tryz.func204.trans (congrArg some (by kernel_rfl))
  f285 := Tryz.func205.trans (congrArg some (by kernel_rfl))
  f286 := Tryz.func206.trans (congrArg some (by kernel_rfl))
  f287 := Tryz.func191.trans (congrArg some (by kernel_rfl))
  f316 := Tryz.func192.trans (congrArg some (by kernel_rfl))
  f317 := Tryz.func209.trans (congrArg some (by kernel_rfl))
  f318 := Tryz.func210.trans (congrArg some (by kernel_rfl))
  f319 := Tryz.func211.trans (congrArg some (by kernel_rfl))
  f320 := Tryz.func212.trans (congrArg some (by kernel_rfl))
  f321 := Tryz.func201.trans (congrArg some (by kernel_rfl))
  f322 := Tryz.func202.trans (congrArg some (by kernel_rfl))
  f337 := Tryz.func213.trans (congrArg some (by kernel_rfl))
  f338 := Tryz.func214.trans (congrArg some (by kernel_rfl))
  t0 := Tryz.underlying0
  a0 := Tryz.isAgg0
  z0 := Tryz.sizeOf0
  v0 := Tryz.zeroValue0
  t2 := Tryz.underlying2
  a2 := Tryz.isAgg2
  z2 := Tryz.sizeOf2
  v2 := Tryz.zeroValue2
  t3 := Tryz.underlying3
  a3 := Tryz.isAgg3
  z3 := Tryz.sizeOf3
  v3 := Tryz.zeroValue3
  t4 := Tryz.underlying4
  a4 := Tryz.isAgg4
  z4 := Tryz.sizeOf4
  v4 := Tryz.zeroValue4
  t5 := Tryz.underlying5
  a5 := Tryz.isAgg5
  z5 := Tryz.sizeOf5
  v5 := Tryz.zeroValue5
  t9 := Tryz.underlying9
  a9 := Tryz.isAgg9
  z9 := Tryz.sizeOf9
  v9 := Tryz.zeroValue9
  t20 := Tryz.underlying20
  a20 := Tryz.isAgg20
  z20 := Tryz.sizeOf20
  v20 := Tryz.zeroValue20
  t21 := Tryz.underlying21
  a21 := Tryz.isAgg21
  z21 := Tryz.sizeOf21
  v21 := Tryz.zeroValue21
  t37 := Tryz.underlying22
  a37 := Tryz.isAgg22
  z37 := Tryz.sizeOf22
  v37 := Tryz.zeroValue22
  t46 := Tryz.underlying136
  a46 := Tryz.isAgg136
  z46 := Tryz.sizeOf136
  v46 := Tryz.zeroValue136
  t51 := Tryz.underlying154
  a51 := Tryz.isAgg154
  z51 := Tryz.sizeOf154
  v51 := Tryz.zeroValue154
  t53 := Tryz.underlying156
  a53 := Tryz.isAgg156
  z53 := Tryz.sizeOf156
  v53 := Tryz.zeroValue156
  t75 := Tryz.underlying131
  a75 := Tryz.isAgg131
  z75 := Tryz.sizeOf131
  v75 := Tryz.zeroValue131
  t76 := Tryz.underlying132
  a76 := Tryz.isAgg132
  z76 := Tryz.sizeOf132
  v76 := Tryz.zeroValue132
  t85 := Tryz.underlying163
  a85 := Tryz.isAgg163
  z85 := Tryz.sizeOf163
  v85 := Tryz.zeroValue163
  t127 := Tryz.underlying160
  a127 := Tryz.isAgg160
  z127 := Tryz.sizeOf160
  v127 := Tryz.zeroValue160
  t143 := Tryz.underlying189
  a143 := Tryz.isAgg189
  z143 := Tryz.sizeOf189
  v143 := Tryz.zeroValue189
  t145 := Tryz.underlying191
  a145 := Tryz.isAgg191
  z145 := Tryz.sizeOf191
  v145 := Tryz.zeroValue191
  t167 := Tryz.underlying162
  a167 := Tryz.isAgg162
  z167 := Tryz.sizeOf162
  v167 := Tryz.zeroValue162
  t168 := Tryz.underlying165
  a168 := Tryz.isAgg165
  z168 := Tryz.sizeOf165
  v168 := Tryz.zeroValue165
  t171 := Tryz.underlying192
  a171 := Tryz.isAgg192
  z171 := Tryz.sizeOf192
  v171 := Tryz.zeroValue192
  t173 := Tryz.underlying194
  a173 := Tryz.isAgg194
  z173 := Tryz.sizeOf194
  v173 := Tryz.zeroValue194
  t175 := Tryz.underlying179
  a175 := Tryz.isAgg179
  z175 := Tryz.sizeOf179
  v175 := Tryz.zeroValue179
  t210 := Tryz.underlying182
  a210 := Tryz.isAgg182
  z210 := Tryz.sizeOf182
  v210 := Tryz.zeroValue182
  t212 := Tryz.underlying203
  a212 := Tryz.isAgg203
  z212 := Tryz.sizeOf203
  v212 := Tryz.zeroValue203
  t213 := Tryz.underlying204
  a213 := Tryz.isAgg204
  z213 := Tryz.sizeOf204
  t232 := Tryz.underlying205
  a232 := Tryz.isAgg205
  z232 := Tryz.sizeOf205
  v232 := Tryz.zeroValue205
  t233 := Tryz.underlying206
  a233 := Tryz.isAgg206
  z233 := Tryz.sizeOf206
  v233 := Tryz.zeroValue206
  g15 := by kernel_rfl
  g16 := by kernel_rfl
  g17 := by kernel_rfl
  g18 := by kernel_rfl
  g19 := by kernel_rfl
  t80 := Tryz.underlying117
  a80 := Tryz.isAgg117
  z80 := Tryz.sizeOf117
  v80 := Tryz.zeroValue117
  i0 := by kernel_rfl
  i2 := by kernel_rfl
  i3 := by kernel_rfl
  i4 := by kernel_rfl
  i5 := by kernel_rfl
  i9 := by kernel_rfl
  i20 := by kernel_rfl
  i21 := by kernel_rfl
  i37 := by kernel_rfl
  i46 := by kernel_rfl
  i51 := by kernel_rfl
  i53 := by kernel_rfl
  i75 := by kernel_rfl
  i76 := by kernel_rfl
  i80 := by kernel_rfl
  i85 := by kernel_rfl
  i127 := by kernel_rfl
  i143 := by kernel_rfl
  i145 := by kernel_rfl
  i167 := by kernel_rfl
  i168 := by kernel_rfl
  i171 := by kernel_rfl
  i173 := by kernel_rfl
  i175 := by kernel_rfl
  i210 := by kernel_rfl
  i212 := by kernel_rfl
  i232 := by kernel_rfl
  i233 := by kernel_rfl
  m15 := by kernel_rfl
  m16 := by kernel_rfl
  m17 := by kernel_rfl
  m18 := by kernel_rfl
  m19 := by kernel_rfl
  c0 := by kernel_rfl
  c2 := by kernel_rfl
  c3 := by kernel_rfl
  c4 := by kernel_rfl
  c5 := by kernel_rfl
  c9 := by kernel_rfl
  c20 := by kernel_rfl
  c21 := by kernel_rfl
  c37 := by kernel_rfl
  c46 := by kernel_rfl
  c51 := by kernel_rfl
  c53 := by kernel_rfl
  c75 := by kernel_rfl
  c76 := by kernel_rfl
  c80 := by kernel_rfl
  c85 := by kernel_rfl
  c127 := by kernel_rfl
  c143 := by kernel_rfl
  c145 := by kernel_rfl
  c167 := by kernel_rfl
  c168 := by kernel_rfl
  c171 := by kernel_rfl
  c173 := by kernel_rfl
  c175 := by kernel_rfl
  c210 := by kernel_rfl
  c212 := by kernel_rfl
  c213 := by kernel_rfl
  c232 := by kernel_rfl
  c233 := by kernel_rfl }
def Tryz.lClone_ren : Go.Shelf.Ren := ⟨fun | 41 => 106 | n => n, fun | 22 => 26 | 23 => 3 | 4 => 4 | n => n, fun | n => n⟩
theorem Tryz.lClone : Go.Proofs.SlLaysE0.n41 Tryz.prog Tryz.lClone_ren := {
  mixed := by kernel_rfl
  f41 := ⟨Tryz.f106.name, by decide, Tryz.func106.trans (congrArg some (by kernel_rfl))⟩
  t4 := Tryz.underlying4
  a4 := Tryz.isAgg4
  z4 := Tryz.sizeOf4
  v4 := Tryz.zeroValue4
  t22 := Tryz.underlying26
  a22 := Tryz.isAgg26
  z22 := Tryz.sizeOf26
  v22 := Tryz.zeroValue26 }
def Tryz.lSort_ren : Go.Shelf.Ren := ⟨fun | 5 => 107 | 8 => 140 | 7 => 139 | 19 => 162 | 20 => 163 | 10 => 153 | 11 => 154 | 12 => 155 | 13 => 156 | 14 => 157 | 15 => 158 | 16 => 159 | 17 => 160 | 18 => 161 | 30 => 178 | 31 => 179 | 32 => 180 | 33 => 181 | 34 => 182 | 35 => 183 | 40 => 194 | n => n, fun | 23 => 26 | 25 => 3 | 3 => 3 | 32 => 136 | 22 => 26 | 0 => 0 | 44 => 154 | 46 => 156 | 4 => 4 | 36 => 147 | 35 => 146 | 41 => 151 | 5 => 5 | 9 => 9 | 53 => 168 | 57 => 112 | 63 => 184 | 64 => 185 | n => n, fun | n => n⟩
theorem Tryz.lSort : Go.Proofs.SlLaysM.n5 Tryz.prog Tryz.lSort_ren := {
  mixed := by kernel_rfl
  f5 := ⟨Tryz.f107.name, by decide, Tryz.func107.trans (congrArg some (by kernel_rfl))⟩
  f7 := ⟨Tryz.f139.name, by decide, Tryz.func139.trans (congrArg some (by kernel_rfl))⟩
  f8 := Tryz.func140.trans (congrArg some (by kernel_rfl))
  f10 := ⟨Tryz.f153.name, by decide, Tryz.func153.trans (congrArg some (by kernel_rfl))⟩
  f11 := ⟨Tryz.f154.name, by decide, Tryz.func154.trans (congrArg some (by kernel_rfl))⟩
  f12 := ⟨Tryz.f155.name, by decide, Tryz.func155.trans (congrArg some (by kernel_rfl))⟩
  f13 := ⟨Tryz.f156.name, by decide, Tryz.func156.trans (congrArg some (by kernel_rfl))⟩
  f14 := ⟨Tryz.f157.name, by decide, Tryz.func157.trans (congrArg some (by kernel_rfl))⟩
  f15 := ⟨Tryz.f158.name, by decide, Tryz.func158.trans (congrArg some (by kernel_rfl))⟩
  f16 := ⟨Tryz.f159.name, by decide, Tryz.func159.trans (congrArg some (by kernel_rfl))⟩
  f17 := ⟨Tryz.f160.name, by decide, Tryz.func160.trans (congrArg some (by kernel_rfl))⟩
  f18 := ⟨Tryz.f161.name, by decide, Tryz.func161.trans (congrArg some (by kernel_rfl))⟩
  f19 := Tryz.func162.trans (congrArg some (by kernel_rfl))
  f20 := Tryz.func163.trans (congrArg some (by kernel_rfl))
  f30 := ⟨Tryz.f178.name, by decide, Tryz.func178.trans (congrArg some (by kernel_rfl))⟩
  f31 := Tryz.func179.trans (congrArg some (by kernel_rfl))
  f32 := Tryz.func180.trans (congrArg some (by kernel_rfl))
  f33 := ⟨Tryz.f181.name, by decide, Tryz.func181.trans (congrArg some (by kernel_rfl))⟩
  f34 := ⟨Tryz.f182.name, by decide, Tryz.func182.trans (congrArg some (by kernel_rfl))⟩
  f35 := ⟨Tryz.f183.name, by decide, Tryz.func183.trans (congrArg some (by kernel_rfl))⟩
  f40 := ⟨Tryz.f194.name, by decide, Tryz.func194.trans (congrArg some (by kernel_rfl))⟩
  t0 := Tryz.underlying0
  a0 := Tryz.isAgg0
  z0 := Tryz.sizeOf0
  v0 := Tryz.zeroValue0
  t3 := Tryz.underlying3
  a3 := Tryz.isAgg3
  z3 := Tryz.sizeOf3
  v3 := Tryz.zeroValue3
  t4 := Tryz.underlying4
  a4 := Tryz.isAgg4
  z4 := Tryz.sizeOf4
  v4 := Tryz.zeroValue4
  t5 := Tryz.underlying5
  a5 := Tryz.isAgg5
  z5 := Tryz.sizeOf5
  v5 := Tryz.zeroValue5
  t9 := Tryz.underlying9
  a9 := Tryz.isAgg9
  z9 := Tryz.sizeOf9
  v9 := Tryz.zeroValue9
  t22 := Tryz.underlying26
  a22 := Tryz.isAgg26
  z22 := Tryz.sizeOf26
  v22 := Tryz.zeroValue26
  t23 := Tryz.underlying26
  a23 := Tryz.isAgg26
  z23 := Tryz.sizeOf26
  v23 := Tryz.zeroValue26
  t25 := Tryz.underlying3
  a25 := Tryz.isAgg3
  z25 := Tryz.sizeOf3
  v25 := Tryz.zeroValue3
  t32 := Tryz.underlying136
  a32 := Tryz.isAgg136
  z32 := Tryz.sizeOf136
  v32 := Tryz.zeroValue136
  t35 := Tryz.underlying146
  a35 := Tryz.isAgg146
  z35 := Tryz.sizeOf146
  v35 := Tryz.zeroValue146
  t36 := Tryz.underlying147
  a36 := Tryz.isAgg147
  z36 := Tryz.sizeOf147
  v36 := Tryz.zeroValue147
  t41 := Tryz.underlying151
  a41 := Tryz.isAgg151
  z41 := Tryz.sizeOf151
  v41 := Tryz.zeroValue151
  t44 := Tryz.underlying154
  a44 := Tryz.isAgg154
  z44 := Tryz.sizeOf154
  v44 := Tryz.zeroValue154
  t46 := Tryz.underlying156
  a46 := Tryz.isAgg156
  z46 := Tryz.sizeOf156
  v46 := Tryz.zeroValue156
  t53 := Tryz.underlying168
  a53 := Tryz.isAgg168
  z53 := Tryz.sizeOf168
  v53 := Tryz.zeroValue168
  t57 := Tryz.underlying112
  a57 := Tryz.isAgg112
  z57 := Tryz.sizeOf112
  v57 := Tryz.zeroValue112
  t63 := Tryz.underlying184
  a63 := Tryz.isAgg184
  z63 := Tryz.sizeOf184
  v63 := Tryz.zeroValue184
  t64 := Tryz.underlying185
  a64 := Tryz.isAgg185
  z64 := Tryz.sizeOf185
  v64 := Tryz.zeroValue185 }
abbrev Tryz.env : Env := txtEnv Tryz.prog 3 6 1 2 (by kernel_rfl)
theorem Tryz.extraJoin : Builder.Extra Tryz.prog Tryz.lJoin_ren := { sizeBuilder := by kernel_rfl, liesBuilder := by kernel_rfl, t5 := Tryz.underlying5, a5 := Tryz.isAgg5, z5 := Tryz.sizeOf5, v5 := Tryz.zeroValue5, infoByte := by kernel_rfl, cellsByte := by kernel_rfl, sizeByte := by kernel_rfl, neB5 := by decide }
theorem Tryz.soundX : c3g (Tryz.env) (cxT none) := by
  intro f F args res outs hF h
  have hm := c6s (show c4b d2t f = some F from hF)
  simp only [d2t, List.mem_cons, Prod.mk.injEq, List.not_mem_nil, or_false] at hm
  rcases hm with ⟨rfl, rfl⟩ | ⟨rfl, rfl⟩ | ⟨rfl, rfl⟩ | ⟨rfl, rfl⟩ | ⟨rfl, rfl⟩ | ⟨rfl, rfl⟩ | ⟨rfl, rfl⟩ | ⟨rfl, rfl⟩
  · obtain ⟨i0, z, hi, hz0, hz1, hz2, hzs⟩ := c9e (P := Tryz.prog) (T := 3) (by kernel_rfl)
    exact ⟨b8d (fun h => h) _ _ Tryz.lClone i0 z hi hz0 hz1 hz2 hzs Tryz.sizeOf3 rfl h, T1 Tryz.func106 (by kernel_rfl) (by kernel_rfl)⟩
  · exact ⟨b9p _ _ Tryz.lSort rfl rfl h, T1 Tryz.func107 (by kernel_rfl) (by kernel_rfl)⟩
  · exact ⟨b6j (Γ := Tryz.env) (fun h => h) Tryz.lSplit (by kernel_rfl) rfl (fun w h => h.1) h, T1 Tryz.func121 (by kernel_rfl) (by kernel_rfl)⟩
  · exact ⟨c1c (fun h => h) Tryz.lJoin Tryz.extraJoin rfl h, T1 Tryz.func122 (by kernel_rfl) (by kernel_rfl)⟩
  · exact ⟨c0e (fun h => h) Tryz.lCutP rfl h, T1 Tryz.func136 (by kernel_rfl) (by kernel_rfl)⟩
  · exact ⟨c1f (fun h => h) Tryz.lCutS rfl h, T1 Tryz.func137 (by kernel_rfl) (by kernel_rfl)⟩
  · exact ⟨c0x (Γ := Tryz.env) (fun h => h) Tryz.lAtoi rfl (fun w h => h.2.2.1) (fun w h => h.2.2.2) h, T1 Tryz.func138 (by kernel_rfl) (by kernel_rfl)⟩
  · exact ⟨b9e (Γ := Tryz.env) (fun h => h) Tryz.lItoa rfl (fun w h => h.2.1) h, T1 Tryz.func165 (by kernel_rfl) (by kernel_rfl)⟩
theorem Tryz.soundI : a5q (Tryz.env) (cxT none) := a5q.none rfl
theorem Tryz.sound : SoundC (Tryz.env) (cxT none) (CW (cxT none)) := c8h (cxT none) (GlOk.none rfl rfl) Tryz.soundX Tryz.soundI (by kernel_rfl)
end Go.Proofs
