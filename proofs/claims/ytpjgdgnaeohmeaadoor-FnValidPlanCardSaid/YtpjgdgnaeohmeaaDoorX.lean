/- The functions of Go's library keep the contracts that the abstract machine asks of them. Conditions: none. -/
import Derived.Test.YtpjgdgnaeohmeaaDoorSa
import Derived.Shelf.Strings.Split
import Derived.Shelf.Strings.OnBuilder
import Derived.Shelf.Small.Wraps
import Derived.Shelf.Strconv.Itoa3
import Derived.Shelf.Strconv.AtoiAll
import Derived.Lib.SplitLaws
import Derived.Shelf.SlicesE.Clone
import Derived.Shelf.SortM.Plain
import Derived.Shelf.SortM.SortNone
import Derived.Ground.NamesProg

set_option linter.unusedVariables false
set_option linter.unusedSimpArgs false
section
/- Functions of the library over texts: that they keep the contracts which the abstract machine asks of them. -/
open Go Go.Mv Go.Proofs Go.Shelf Go.RowKit
namespace Go.Mv
section
variable {P : Program} {Γ : Env} {w0 : World} {A O0 : Nat → Prop} {ν0 : Nu} {N : Nat} {F : Fl} {D : Nat → Prop} {st : St} {ν : Nu} {tm : Array Value} {w : World}
theorem a5o {xs : List Value} {i j : Nat} {l : AV} (h : leafAt (xs.map AV.val) i j = some l) : ∃ x, xs[i]? = some x ∧ j = 0 ∧ l = .val x := by
  unfold leafAt at h
  rw [List.getElem?_map] at h
  cases hx : xs[i]? with
  | none => simp [hx] at h
  | some x =>
    simp only [hx, Option.map_some] at h
    cases j with
    | zero => simp [leaves] at h; exact ⟨x, rfl, rfl, h.symm⟩
    | succ j => simp [leaves] at h
/-- plain values in a new block -/
theorem Rel.ownNewV (R : Rel Γ w0 A O0 ν0 N Fl.emp D st ν tm w) {w' : World} {g : Nat} (W : WStep Γ w w' g) (hg : w.heap.size ≤ g) {c : Array Value} {ety : TypeId}
    (hc : w'.heap[g]? = some (.cells c ety (0, 0))) {xs : List Value} (hsz : xs.length ≤ c.size) (hv : ∀ (i : Nat) (x : Value), xs[i]? = some x → c[i]? = some x) (κ : FK) :
    Rel Γ w0 A O0 ν0 N (Fl.emp.set κ (some ⟨fun q => match q with | none => some (g, 0) | some _ => none, 1, xs.map AV.val⟩)) D st ν tm w' := by
  refine R.compose W (fun _ => False) κ (.inl rfl) ⟨fun q => match q with | none => some (g, 0) | some _ => none, 1, xs.map AV.val⟩ none (fun _ _ => (κ, none)) ⟨0, rfl⟩ (.inl ⟨rfl, hg⟩)
    ?_ ?_ ?_ (fun _ h => by cases h) (Fl.set_eq _ _ _) (fun _ _ h => h.elim) (fun k hk _ => Fl.set_ne _ _ hk)
  · refine ⟨c, ety, hc, by simpa using hsz, fun _ e he => ?_, fun h => h.elim, fun i j l hl => ?_⟩
    · obtain ⟨x, _, rfl⟩ := List.mem_map.1 he
      rfl
    · obtain ⟨x, hx, rfl, rfl⟩ := a5o hl
      exact ⟨_, by simpa using hv i x hx, RS.data _ _ (.val _)⟩
  · intro i j s' es' hl
    obtain ⟨x, _, _, h⟩ := a5o hl
    cases h
  · intro i j i' j' s1 e1 s2 e2 hl
    obtain ⟨x, _, _, h⟩ := a5o hl
    cases h
theorem b6n (xs : List Value) : E6 (xs.map AV.val) = false := by
  induction xs with
  | nil => rfl
  | cons x xs ih => simp [E6, hasList, ih]
/-- scalars in, something immutable out -/
theorem O7 (hmo : ¬ Γ.mo) {f : Nat} {md : Nat → Nat} (vs : List Value) (res : AV) (hn : hasList res = false)
    (h : ∀ w, Γ.G w → Calls P f vs.toArray w fun e w' => ∃ v, e = .returned v ∧ (∀ D, AllRes Fl.emp D w' res v) ∧ Below w.heap.size w w') : M0 Γ P md f (vs.map AV.val) res [] := by
  intro w A O0 ν0 D vals hOA R hA
  have hsz : vals.size = vs.length := by simpa using R.size
  have hv : vals = vs.toArray := by
    apply Array.ext (by simpa using hsz)
    intro i h1 h2
    have h3 : i < vs.length := by rw [← hsz]; exact h1
    have h0 := R.slots i (by simpa using h3)
    have e : initLoc md (vs.map AV.val) (.t i) = .val vs[i] := by
      unfold initLoc
      have : (vs.map AV.val)[i]? = some (.val vs[i]) := by rw [List.getElem?_map, List.getElem?_eq_getElem h3]; rfl
      show (match (vs.map AV.val)[i]? with
        | some (AV.own s es) => AV.sl i 1 none 0 es.length
        | some (AV.ownp es a b) => AV.ptr i 1 none a b
        | some (AV.clo f caps) => AV.clo f (initCaps i 0 caps)
        | some a => a
        | none => AV.undef) = _
      rw [this]
    rw [e] at h0
    have := h0.val_inv
    rw [Array.getD_eq_getD_getElem?, Array.getElem?_eq_getElem h1] at this
    simpa using this
  subst hv
  have R0 := R.noSlots
  refine (h w R.G).mono ?_
  rintro e w' ⟨v, rfl, hr, hB⟩
  have hc : ∀ (i : Nat) (l : List Value), cidAll md i (l.map AV.val) = [] := by
    intro i l
    induction l generalizing i with
    | nil => rfl
    | cons x l ih => simp only [List.map_cons, cidAll]; rw [ih]; rfl
  refine ⟨_, rfl, _, D, _, ν0, R0.stay (X8 (fun h => (hmo h).elim) hB (bt := w.heap.size)) (Nat.le_refl _), ?_, hr D, fun κ f hf => by cases hf⟩
  rw [hc]; rfl
theorem b2h {v : Value} : AllRes Fl.emp D w (.val v) v := .inr (.inr (.inr (.inr ⟨rfl, .val _⟩)))
theorem a0g {u v : Value} {a b : AV} (ha : Z4 a = true ∧ RV w D a u) (hb : Z4 b = true ∧ RV w D b v) : AllRes Fl.emp D w (.tup [a, b]) (.tuple #[u, v]) := by
  refine .inl ⟨_, _, rfl, rfl, rfl, fun k l hl => ?_⟩
  match k, hl with
  | 0, hl => cases hl; exact .inr (.inr (.inr ha))
  | 1, hl => cases hl; exact .inr (.inr (.inr hb))
/-- texts in a new block come back -/
theorem b5w (hmo : ¬ Γ.mo) {f : Nat} {md : Nat → Nat} (vs ys : List Value)
    (h : ∀ w, Γ.G w → Calls P f vs.toArray w fun e w' => ∃ n, e = .returned (.slice (some ⟨w.heap.size, 0, none⟩) n n) ∧ n = ys.length ∧ ∃ T, w' = w.alloc (.cells ys.toArray T)) : M0 Γ P md f (vs.map AV.val) (.own 1 (ys.map AV.val)) [] := by
  intro w A O0 ν0 D vals hOA R hA
  have hsz : vals.size = vs.length := by simpa using R.size
  have hv : vals = vs.toArray := by
    apply Array.ext (by simpa using hsz)
    intro i h1 h2
    have h3 : i < vs.length := by rw [← hsz]; exact h1
    have h0 := R.slots i (by simpa using h3)
    have e : initLoc md (vs.map AV.val) (.t i) = .val vs[i] := by
      unfold initLoc
      have : (vs.map AV.val)[i]? = some (.val vs[i]) := by rw [List.getElem?_map, List.getElem?_eq_getElem h3]; rfl
      show (match (vs.map AV.val)[i]? with
        | some (AV.own s es) => AV.sl i 1 none 0 es.length
        | some (AV.ownp es a b) => AV.ptr i 1 none a b
        | some (AV.clo f caps) => AV.clo f (initCaps i 0 caps)
        | some a => a
        | none => AV.undef) = _
      rw [this]
    rw [e] at h0
    have := h0.val_inv
    rw [Array.getD_eq_getD_getElem?, Array.getElem?_eq_getElem h1] at this
    simpa using this
  subst hv
  have R0 := R.noSlots
  refine (h w R.G).mono ?_
  rintro e w' ⟨n, rfl, rfl, T, rfl⟩
  have hc : ∀ (i : Nat) (l : List Value), cidAll md i (l.map AV.val) = [] := by
    intro i l
    induction l generalizing i with
    | nil => rfl
    | cons x l ih => simp only [List.map_cons, cidAll]; rw [ih]; rfl
  have hB : Below w.heap.size w (w.alloc (.cells ys.toArray T)) := (Below.refl _ _).alloc (Nat.le_refl _) _
  have hcell : (w.alloc (.cells ys.toArray T)).heap[w.heap.size]? = some (.cells ys.toArray T (0, 0)) := heap_alloc_new w _
  have hn1 : F3 (ys.map AV.val) = true := B0 fun _ => rfl
  refine ⟨_, rfl, _, D, _, ν0, R0.ownNewV (X8 (fun h => (hmo h).elim) hB (bt := w.heap.size)) (Nat.le_refl _) hcell (by simp) (fun i x hi => by simpa using hi) (5, 0, 0), ?_, .inr (.inr (.inr (.inl ⟨1, ys.map AV.val, _, rfl, Fl.set_eq _ _ _, hn1, ?_⟩))), a7r hn1 (b6n ys)⟩
  · rw [hc]; rfl
  · refine ⟨_, ys.length, by rw [List.length_map], by rw [List.length_map]; exact Nat.le_refl _, .inr ⟨w.heap.size, 0, rfl, by simp, ?_⟩⟩
    have : csize (w.alloc (.cells ys.toArray T)) w.heap.size = ys.length := by unfold csize; rw [hcell]; simp
    rw [this]; simp
end
/-! ### the cut -/
theorem index_one_nil (c : UInt8) : Lib.index [] [c] = -1 := rfl
theorem a5c (c : UInt8) (l : List UInt8) : Lib.index (c :: l) [c] = 0 := by simp [Lib.index, List.isPrefixOf]
theorem a6f {b c : UInt8} (l : List UInt8) (h : b ≠ c) : Lib.index (b :: l) [c] = if Lib.index l [c] == -1 then -1 else Lib.index l [c] + 1 := by
  have : ([c] : List UInt8).isPrefixOf (b :: l) = false := by simp [List.isPrefixOf, Ne.symm h]
  rw [Lib.index, this]; rfl
theorem a3e {c : UInt8} : ∀ {l : List UInt8}, Lib.index l [c] = -1 → l.count c = 0
  | [], _ => rfl
  | b :: l, h => by
    by_cases e : b = c
    · subst e; rw [a5c] at h; cases h
    · rw [a6f l e] at h
      split at h
      · rename_i h2
        rw [List.count_cons_of_ne e, a3e (by simpa using h2)]
      · have := Lib.index_ge l [c]; omega
theorem b1l (c : UInt8) : ∀ (s : List UInt8), Lib.splitK [c] 0 (s.count c) s = splitB c s
  | [] => rfl
  | b :: l => by
    have ih := b1l c l
    by_cases e : b = c
    · subst e
      rw [List.count_cons_self, splitB, if_pos rfl, ← ih, Lib.splitK, a5c]
      simp
    · rw [List.count_cons_of_ne e, splitB, if_neg e, ← ih]
      cases hk : l.count c with
      | zero => rfl
      | succ k =>
        have hi : Lib.index l [c] ≠ -1 := fun h => by have := a3e h; omega
        have hge := Lib.index_ge l [c]
        have e0 : Lib.index (b :: l) [c] = Lib.index l [c] + 1 := by rw [a6f l e, if_neg (by simpa using hi)]
        rw [Lib.splitK, e0, if_neg (by simp; omega), Lib.splitK, if_neg (by simpa using hi)]
        have e1 : (Lib.index l [c] + 1).toNat = (Lib.index l [c]).toNat + 1 := by omega
        rw [e1]
        simp [T7, Nat.add_right_comm]
theorem c7l (c : UInt8) : ∀ ps : List (List UInt8), Lib.join ps [c] = joinB c ps
  | [] => rfl
  | [p] => by simp [Lib.join, joinB]
  | p :: q :: r => by
    have := c7l c (q :: r)
    simp only [Lib.join] at this ⊢
    rw [joinB, ← this]
    simp [List.intercalate, List.intersperse]
theorem a6m (n : Nat) : Lib.decDigits n = decN n := by
  induction n using Nat.strongRecOn with
  | _ n ih =>
    rw [Lib.decDigits, decN]
    split
    · rfl
    · rw [ih _ (by omega)]
theorem d1a (n : Int) : Lib.itoa n = dec n := by
  rw [Lib.itoa, dec, a6m, a6m]
  split
  · rw [show n.natAbs = (-n).toNat by omega]
  · rfl
theorem c7z (b : UInt8) (l : List UInt8) : Lib.trimPrefix l [b] = a2u b l ∧ Lib.hasPrefix l [b] = decide (l.head? = some b) := by
  cases l with
  | nil => exact ⟨rfl, rfl⟩
  | cons c r =>
    by_cases h : c = b
    · subst h; simp [Lib.trimPrefix, Lib.hasPrefix, a2u, List.isPrefixOf]
    · have h' : (b == c) = false := by simp [Ne.symm h]
      simp [Lib.trimPrefix, Lib.hasPrefix, a2u, List.isPrefixOf, h, h']
theorem c3k (b : UInt8) (l : List UInt8) : Lib.hasSuffix l [b] = decide (l.getLast? = some b) := by
  have h1 : Lib.hasSuffix l [b] = true ↔ l.getLast? = some b := by
    rw [Lib.hasSuffix, List.isSuffixOf_iff_suffix]
    constructor
    · rintro ⟨t, rfl⟩; simp
    · intro h
      obtain ⟨t, rfl⟩ := List.getLast?_eq_some_iff.1 h
      exact ⟨t, rfl⟩
  cases hb : Lib.hasSuffix l [b] with
  | true => exact (decide_eq_true (h1.1 hb)).symm
  | false => exact (decide_eq_false fun h => by rw [h1.2 h] at hb; cases hb).symm
theorem c6a (b : UInt8) (l : List UInt8) : Lib.trimSuffix l [b] = b2x b l := by
  rw [Lib.trimSuffix, c3k, b2x]
  by_cases h : l.getLast? = some b
  · rw [if_pos (decide_eq_true h), if_pos h, List.dropLast_eq_take]; rfl
  · rw [if_neg (by simpa using h), if_neg h]
end Go.Mv
namespace Go.Mv
/-- what these functions ask of the world: four package variables -/
def txtEnv (P : Program) (gM gP gS gR : Nat) (hP : P.globalNamed "internal/strconv.uint64pow10" = some gP) : Env where
  mo := False
  gb b := b = gM ∨ b = gP ∨ b = gS ∨ b = gR
  G w := (∃ m, w.cell? ⟨gM, 0, none⟩ = some (.int .i64 m)) ∧ Lib.TabIs P w "internal/strconv.uint64pow10" .u64 Lib.pow10Tab ∧
    (∃ ev, w.cell? ⟨gS, 0, none⟩ = some ev ∧ (ev = .nilIface ∨ ∃ te pe, ev = .iface te pe)) ∧ (∃ ev, w.cell? ⟨gR, 0, none⟩ = some ev ∧ (ev = .nilIface ∨ ∃ te pe, ev = .iface te pe))
  stable w w' hb h := by
    obtain ⟨⟨m, h1⟩, h2, ⟨e1, h3, h4⟩, ⟨e2, h5, h6⟩⟩ := h
    refine ⟨⟨m, ?_⟩, ?_, ⟨e1, ?_, h4⟩, ⟨e2, ?_, h6⟩⟩
    · rw [cell?_congr (w := w) (hb gM (.inl rfl))]; exact h1
    · unfold Lib.TabIs World.var? at h2 ⊢
      rw [hP, Option.bind_some] at h2 ⊢
      rw [hb gP (.inr (.inl rfl))]; exact h2
    · rw [cell?_congr (w := w) (hb gS (.inr (.inr (.inl rfl))))]; exact h3
    · rw [cell?_congr (w := w) (hb gR (.inr (.inr (.inr rfl))))]; exact h5
theorem c0x (s : ByteArray) (b : UInt8) : Lib.splitB (bA [b]) 0 (Lib.countB s (bA [b])) s = (splitB b s.data.toList).map bA ∧ (splitB b s.data.toList).length = Lib.countB s (bA [b]) + 1 := by
  have h1 := Lib.splitB_data (bA [b]) 0 (Lib.countB s (bA [b])) s
  have hc : Lib.countB s (bA [b]) = s.data.toList.count b := Lib.count_one b _
  have h2 : (Lib.splitB (bA [b]) 0 (Lib.countB s (bA [b])) s).map (·.data.toList) = splitB b s.data.toList := by
    rw [h1, hc]; exact b1l b _
  refine ⟨?_, ?_⟩
  · rw [← h2, List.map_map]
    have : (bA ∘ fun x : ByteArray => x.data.toList) = id := by funext x; exact c3q x
    rw [this, List.map_id]
  · rw [← h2, List.length_map]
    exact Lib.splitB_all (bA [b]) (Nat.le_refl 1) 0 _ s rfl
end Go.Mv
namespace Go.Proofs
variable {P : Program} {ρ : Ren}
theorem b5o {Γ : Env} (hmo : ¬ Γ.mo) {f : Nat} {md : Nat → Nat} (L : Lays.n146 P ρ) (hi9 : (P.info? (ρ.t 9)).map (fun i => (i.zero, i.size, i.bytes)) = some (some (.string ByteArray.empty), 1, 16)) (hf : ρ.f 146 = f)
    (hg : ∀ w, Γ.G w → ∃ m, w.cell? ⟨ρ.g 1, 0, none⟩ = some (.int .i64 m)) {args : List AV} {res : AV} {outs : List (List AV)} (h : b1e args = some (res, outs)) : M0 Γ P md f args res outs := by
  unfold b1e at h
  split at h
  · rename_i s c
    obtain ⟨b, hb, h2⟩ := Option.bind_eq_some_iff.1 h
    split at h2
    · rename_i hs
      cases h2
      have hc := one?_some hb
      subst hc
      subst hf
      obtain ⟨e1, e2⟩ := c0x s b
      have := b5w (P := P) hmo (f := ρ.f 146) (md := md) [.string s, .string (bA [b])] ((splitB b s.data.toList).map fun p => Value.string (bA p)) (fun w hw => by
        obtain ⟨m, hm⟩ := hg w hw
        refine (Any.strings_Split L hi9 s (bA [b]) m w hs hm (Nat.le_refl 1)).mono ?_
        rintro e w' ⟨rfl, rfl⟩
        refine ⟨_, rfl, by rw [List.length_map, e2], ρ.t 9, ?_⟩
        rw [e1, List.map_map]; rfl)
      rw [List.map_map] at this
      exact this
    · cases h2
  · cases h
theorem b7l {Γ : Env} (hmo : ¬ Γ.mo) {f : Nat} {md : Nat → Nat} (L : Lays.n103 P ρ) (hf : ρ.f 103 = f) {args : List AV} {res : AV} {outs : List (List AV)} (h : b5v args = some (res, outs)) : M0 Γ P md f args res outs := by
  unfold b5v at h
  split at h
  · rename_i s c
    obtain ⟨b, hb, h2⟩ := Option.bind_eq_some_iff.1 h
    cases h2
    have hc := one?_some hb
    subst hc
    subst hf
    obtain ⟨e1, e2⟩ := c7z b s.data.toList
    exact O7 hmo [.string s, .string (bA [b])] _ rfl fun w _ => (Any.strings_CutPrefix L s (bA [b]) w).mono fun e w' ⟨he, hw⟩ => by
      subst hw
      refine ⟨_, he, fun D => ?_, Below.refl _ _⟩
      rw [show (bA [b]).data.toList = [b] from rfl, e1, e2]
      exact a0g ⟨rfl, .val _⟩ ⟨rfl, .val _⟩
  · cases h
theorem b8p {Γ : Env} (hmo : ¬ Γ.mo) {f : Nat} {md : Nat → Nat} (L : Lays.n104 P ρ) (hf : ρ.f 104 = f) {args : List AV} {res : AV} {outs : List (List AV)} (h : b6q args = some (res, outs)) : M0 Γ P md f args res outs := by
  unfold b6q at h
  split at h
  · rename_i s c
    obtain ⟨b, hb, h2⟩ := Option.bind_eq_some_iff.1 h
    split at h2
    · rename_i hs
      cases h2
      have hc := one?_some hb
      subst hc
      subst hf
      exact O7 hmo [.string s, .string (bA [b])] _ rfl fun w _ => (Any.strings_CutSuffix L s (bA [b]) w (by omega)).mono fun e w' ⟨he, hw⟩ => by
        subst hw
        refine ⟨_, he, fun D => ?_, Below.refl _ _⟩
        rw [show (bA [b]).data.toList = [b] from rfl, c6a, c3k]
        exact a0g ⟨rfl, .val _⟩ ⟨rfl, .val _⟩
    · cases h2
  · cases h
theorem b8s {Γ : Env} (hmo : ¬ Γ.mo) {f : Nat} {md : Nat → Nat} (L : LaysM.n171 P ρ) (hf : ρ.f 171 = f) (hg : ∀ w, Γ.G w → Lib.TabIs P w "internal/strconv.uint64pow10" .u64 Lib.pow10Tab) {args : List AV} {res : AV} {outs : List (List AV)} (h : b0a args = some (res, outs)) : M0 Γ P md f args res outs := by
  unfold b0a at h
  split at h
  · rename_i n
    split at h
    · rename_i hn
      cases h
      subst hf
      exact O7 hmo [.int .i64 n] _ rfl fun w hw => (Any.strconv_Itoa L n hn.1 hn.2 w (hg w hw)).mono fun e w' ⟨he, k, os, hw'⟩ => by
        subst hw'
        refine ⟨_, he, fun D => ?_, ⟨rfl, rfl, rfl, by simp [Sort.grow, World.drewN], fun j hj => ?_⟩⟩
        · rw [d1a]; exact b2h
        · simp only [Sort.grow, World.drewN]
          exact Array.getElem?_append_left hj
    · cases h
  · cases h
theorem b9q {Γ : Env} (hmo : ¬ Γ.mo) {f : Nat} {md : Nat → Nat} (L : LaysC.n172 P ρ) (hf : ρ.f 172 = f) (hs : ∀ w, Γ.G w → ∃ ev, w.cell? ⟨ρ.g 15, 0, none⟩ = some ev ∧ (ev = .nilIface ∨ ∃ te pe, ev = .iface te pe))
    (hr : ∀ w, Γ.G w → ∃ ev, w.cell? ⟨ρ.g 16, 0, none⟩ = some ev ∧ (ev = .nilIface ∨ ∃ te pe, ev = .iface te pe)) {args : List AV} {res : AV} {outs : List (List AV)} (h : b5h args = some (res, outs)) : M0 Γ P md f args res outs := by
  unfold b5h at h
  split at h
  · rename_i s
    split at h
    · rename_i hsz
      cases h
      subst hf
      cases ha : Lib.atoiAll s.data.toList with
      | ok v =>
        have e : atR s.data.toList = .tup [iV v, .val .nilIface] := by rw [atR, ha]
        rw [e]
        exact O7 hmo [.string s] _ rfl fun w _ => (Any.strconv_Atoi_ok L s (by omega) v ha w).mono fun e w' ⟨he, hw⟩ => by
          refine ⟨_, he, fun D => a0g ⟨rfl, .val _⟩ ⟨rfl, .val _⟩, ?_⟩
          rcases hw with rfl | ⟨t, rfl⟩
          · exact Below.refl _ _
          · exact ⟨rfl, rfl, rfl, by rw [Lib.bytesWorld_size]; omega, fun j hj => Lib.bytesWorld_at_old w (ρ.t 5) t j hj⟩
      | range =>
        have e : atR s.data.toList = .tup [iV (Lib.atoiSat s.data.toList), .ifc] := by rw [atR, ha]
        rw [e]
        exact O7 hmo [.string s] _ rfl fun w hw => by
          obtain ⟨ev, hv, hev⟩ := hr w hw
          exact (Any.strconv_Atoi_range L s (by omega) ha ev w hv hev).mono fun e w' ⟨N, he, _, _, hB⟩ => ⟨_, he, fun D => a0g ⟨rfl, .val _⟩ ⟨rfl, .ifc _ _⟩, hB⟩
      | _ =>
        have e : atR s.data.toList = .tup [iV 0, .ifc] := by rw [atR, ha]
        rw [e]
        exact O7 hmo [.string s] _ rfl fun w hw => by
          obtain ⟨ev, hv, hev⟩ := hs w hw
          exact (Any.strconv_Atoi_syntax L s (by omega) ha ev w hv hev).mono fun e w' ⟨N, he, _, _, hB⟩ => ⟨_, he, fun D => a0g ⟨rfl, .val _⟩ ⟨rfl, .ifc _ _⟩, hB⟩
    · cases h
  · cases h
end Go.Proofs
namespace Go.Proofs
variable {P : Program} {ρ : Ren}
theorem c6k : ∀ {es : List AV} {ps : List (List UInt8)}, unT es = some ps → es = ps.map tV
  | [], ps, h => by cases h; rfl
  | .val (.string s) :: r, ps, h => by
    simp only [unT, Option.map_eq_some_iff] at h
    obtain ⟨qs, h1, rfl⟩ := h
    rw [c6k h1, List.map_cons]
theorem b7f {Γ : Env} (hmo : ¬ Γ.mo) {f : Nat} {md : Nat → Nat} (L : Lays.n156 P ρ) (X : Builder.Extra P ρ) (hf : ρ.f 156 = f) {args : List AV} {res : AV} {outs : List (List AV)} (h : b5s args = some (res, outs)) : M0 Γ P md f args res outs := by
  unfold b5s at h
  split at h
  · rename_i es c
    obtain ⟨b, hb, h2⟩ := Option.bind_eq_some_iff.1 h
    obtain ⟨ps, hp, h3⟩ := Option.bind_eq_some_iff.1 h2
    split at h3
    · rename_i hl
      cases h3
      have hc := one?_some hb
      subst hc
      have := c6k hp
      subst this
      subst hf
      intro w A O0 ν0 D vals hOA R hA
      have h0 := R.slots 0 (by simp)
      have h1 := R.slots 1 (by simp)
      have hsz : vals.size = 2 := by simpa using R.size
      obtain ⟨v, u, rfl⟩ : ∃ v u, vals = #[v, u] := by
        match vals, hsz with
        | ⟨[v, u]⟩, _ => exact ⟨v, u, rfl⟩
      have hv : RV w D (.list (ps.map tV)) v := RS.list_inv h0
      have hu : u = .string (bA [b]) := RS.val_inv (u := .string (bA [b])) h1
      subst hu
      have R0 := R.noSlots
      have hc : ∀ w' : World, Below w.heap.size w w' → ∃ F' D' st' ν', Rel Γ w A O0 ν0 0 F' D' st' ν' #[] w' ∧ outsOf st' (cidAll md 0 [.list (ps.map tV), tV [b]]) = some [] ∧ AllRes F' D' w' (tV (joinB b ps)) (.string (bA (joinB b ps))) ∧ b9x F' (tV (joinB b ps)) := by
        intro w' hB
        exact ⟨_, _, _, ν0, R0.stay (X8 (fun h => (hmo h).elim) hB (bt := w.heap.size)) (Nat.le_refl _), rfl, b2h, fun κ f hf => by cases hf⟩
      generalize hes : ps.map tV = es at hv
      cases hv with
      | list _ a cap bk o s cc hcap ha hs hcl hlf =>
        subst hes
        rw [List.length_map] at hcap ⊢
        cases ps with
        | nil =>
          refine (Any.strings_Join_none L X a cap (bA [b]) w).mono ?_
          rintro e w' ⟨rfl, rfl⟩
          exact ⟨_, rfl, hc w' (Below.refl _ _)⟩
        | cons p r =>
          obtain ⟨rfl, _, hbk⟩ := ha (by simp)
          have hs1 : s = 1 := (hs (tV p) (by simp)).symm
          subst hs1
          have e1 : Lib.join (((p :: r).map bA).map (·.data.toList)) (bA [b]).data.toList = joinB b (p :: r) := by
            rw [List.map_map]
            have : ((fun x : ByteArray => x.data.toList) ∘ bA) = id := by funext x; rfl
            rw [this, List.map_id]
            exact c7l b (p :: r)
          have hj := Any.strings_Join L X bk o cap ((p :: r).map bA) (bA [b]) w (fun j x hj => by
            rw [List.getElem?_map] at hj
            cases hq : (p :: r)[j]? with
            | none => rw [hq] at hj; cases hj
            | some q =>
              rw [hq] at hj
              cases hj
              have hl0 : leafAt ((p :: r).map tV) j 0 = some (tV q) := by
                unfold leafAt
                rw [List.getElem?_map, hq]
                rfl
              have h4 := hcl j 0 _ hl0
              have h5 := hlf j 0 _ hl0
              have h6 : cc j 0 = .string (bA q) := by
                generalize cc j 0 = z at h5
                cases h5
                rfl
              rw [h6] at h4
              simpa using h4) hbk (by have := hl.1; simp only [G8, List.length_map] at *; omega) (by simpa using hcap) (by rw [e1]; have := hl.2; simp only [G8] at this; omega)
          rw [List.length_map] at hj
          refine hj.mono ?_
          rintro e w' ⟨rfl, hB⟩
          refine ⟨_, rfl, ?_⟩
          rw [e1]
          exact hc w' hB
    · cases h3
  · cases h
end Go.Proofs
end
section
/- Functions of the library: that they keep the contracts which the abstract machine asks of them. -/
open Go Go.Mv Go.Proofs Go.Shelf Go.RowKit Go.Lib
namespace Go.Mv
theorem a9n (xs : List Int) : (xs.mergeSort fun x y => decide (x ≤ y)) = sortI xs := by
  refine List.Perm.eq_of_pairwise (le := (· ≤ ·)) (fun a b _ _ h1 h2 => by omega) ?_ (Z0 xs) ((List.mergeSort_perm _ _).trans (b2c xs).symm)
  have := List.pairwise_mergeSort (le := fun x y : Int => decide (x ≤ y)) (fun a b c h1 h2 => by simp at *; omega) (fun a b => by simp; omega) xs
  simpa using this
end Go.Mv
namespace Go.Proofs
variable {P : Program} {ρ : Ren}
set_option maxHeartbeats 2000000 in
set_option maxRecDepth 100000 in
theorem b9g (L : SlLaysE0.n41 P ρ) (z23 : ∀ w, (Go.sizeOf (ρ.t 23)).run P w = .ok 1 w) (a : Addr) (c : Nat) (w : World) :
    Calls P (ρ.f 41) #[.slice (some a) 0 c] w fun e w' => e = .returned (.slice (some ⟨w.heap.size, 0, none⟩) 0 0) ∧ w' = w.alloc (.cells #[] (ρ.t 23)) := by
  have mixed := L.mixed; have t4 := L.t4; have a4 := L.a4; have z4 := L.z4; have v4 := L.v4; have t22 := L.t22; have a22 := L.a22; have z22 := L.z22; have v22 := L.v22
  have q22 : ∀ (w : World) (a : Option Addr) (n c n' c' : Nat), (binOp .eql (ρ.t 22) (.slice a n c) (.slice none n' c')).run P w = .ok (.bool a.isNone) w := fun w a n c n' c' => Lib.run_eql_slice_nil w _ _ a n c n' c' L.t22
  have u22 : ∀ w, Sem.run P (underlying (ρ.t 22)) w = .ok (TypeDesc.slice (ρ.t 23)) w := run_underlying t22
  obtain ⟨_, _, FG⟩ := L.f41
  go_enter FG, SlBodyN.n41_ntmps ρ
  go_wp2
  go_ret
  exact ⟨rfl, rfl⟩

theorem c5i (L : SlLaysE0.n41 P ρ) (i0 : TypeInfo) (z : Value) (hi : P.info? (ρ.t 23) = some i0) (hz0 : i0.zero = some z) (hz1 : i0.size = 1) (hz2 : i0.bytes = 8) (hzs : z.cells.size = 1)
    (z23 : ∀ w, (Go.sizeOf (ρ.t 23)).run P w = .ok 1 w) (w : World) (a : Option Addr) (n c : Nat) (news : List Value) (hl : news.length = n) (hn : n ≤ G8)
    (hc : n ≠ 0 → ∃ b o, a = some ⟨b, o, none⟩ ∧ ∀ (j : Nat) u, news[j]? = some u → w.cell? ⟨b, o + j, none⟩ = some u) (h1 : ∀ u ∈ news, ∃ x, u = Value.int .i64 x) :
    Calls P (ρ.f 41) #[.slice a n c] w fun e w' => ∃ v', e = .returned v' ∧ w'.ownsRow w.heap.size (ρ.t 23) 1 v' n news ∧ Below w.heap.size w w' := by
  simp only [G8] at hn
  cases a with
  | none =>
    have h0 : n = 0 := Classical.byContradiction fun h => by obtain ⟨_, _, h2, _⟩ := hc h; cases h2
    subst h0
    refine (AnyE.slices_Clone_nil L 0 c w).mono ?_
    rintro e w' ⟨rfl, rfl⟩
    exact ⟨_, rfl, ⟨by simpa using hl, .inl ⟨rfl, rfl⟩⟩, .refl _ _⟩
  | some a =>
    by_cases h0 : n = 0
    · subst h0
      refine (b9g L z23 a c w).mono ?_
      rintro e w' ⟨rfl, rfl⟩
      refine ⟨_, rfl, ⟨by simpa using hl, .inr ⟨w.heap.size, 0, #[], rfl, Nat.le_refl _, heap_alloc_new w _, Nat.le_refl _, by simp [maxLen], rfl, ?_⟩⟩, (Below.refl _ _).alloc (Nat.le_refl _) _⟩
      have : news = [] := List.length_eq_zero_iff.1 hl
      subst this
      rfl
    · obtain ⟨b, o, he, hcl⟩ := hc h0
      cases he
      refine (AnyE.slices_Clone L i0 z 1 8 hi hz0 hz1 hz2 hzs (by decide) z23 b o n c news w (by omega) (by simp [maxLen]; omega) (by omega) hcl (fun u hu => by obtain ⟨x, rfl⟩ := h1 u hu; rfl)).mono ?_
      rintro e w' ⟨v', rfl, hown, _, hB⟩
      exact ⟨v', rfl, hown, hB⟩

theorem c1h : ∀ {es : List AV} {xs : List Int}, unI es = some xs → es = xs.map iV
  | [], xs, h => by cases h; rfl
  | .val (.int .i64 n) :: r, xs, h => by
    simp only [unI, Option.map_eq_some_iff] at h
    obtain ⟨ys, h1, rfl⟩ := h
    rw [c1h h1]
    rfl

theorem soundX_clone {Γ : Env} (hmo : ¬ Γ.mo) (f : Nat) (md : Nat → Nat) (L : SlLaysE0.n41 P ρ) (i0 : TypeInfo) (z : Value) (hi : P.info? (ρ.t 23) = some i0) (hz0 : i0.zero = some z) (hz1 : i0.size = 1) (hz2 : i0.bytes = 8) (hzs : z.cells.size = 1)
    (z23 : ∀ w, (Go.sizeOf (ρ.t 23)).run P w = .ok 1 w) (hf : ρ.f 41 = f) {args : List AV} {res : AV} {outs : List (List AV)} (h : b8u args = some (res, outs)) : M0 Γ P md f args res outs := by
  unfold b8u at h
  split at h
  · rename_i es
    split at h
    · rename_i hl
      simp only [Option.map_eq_some_iff, Prod.mk.injEq] at h
      obtain ⟨xs, h1, rfl, rfl⟩ := h
      have := c1h h1
      subst this
      subst hf
      exact b1a hmo xs (by simpa using hl) (fun w a n c news => c5i L i0 z hi hz0 hz1 hz2 hzs z23 w a n c news)
    · cases h
  · cases h

theorem soundX_sort {Γ : Env} (f : Nat) (md : Nat → Nat) (L : SlLaysM.n5 P ρ) (hf : ρ.f 5 = f) (hmd : md 0 = 1) {args : List AV} {res : AV} {outs : List (List AV)} (h : c2v args = some (res, outs)) : M0 Γ P md f args res outs := by
  unfold c2v at h
  split at h
  · rename_i es
    split at h
    · rename_i hl
      simp only [Option.map_eq_some_iff, Prod.mk.injEq] at h
      obtain ⟨xs, h1, rfl, rfl⟩ := h
      have := c1h h1
      subst this
      subst hf
      refine b3e xs (sortI xs) (by simpa using hl) (by simp) hmd (fun w a c => AnyM.slices_Sort_int_none L a c w) (fun w b o c hH hb hx => ?_)
      have := AnyM.slices_Sort_int L b o c xs w hH hb (by simp only [G8] at hx; omega)
      rwa [a9n] at this
    · cases h
  · cases h
end Go.Proofs
namespace Go.Proofs
theorem c4k {tb : List (Nat × (List AV → Option (AV × List (List AV))))} {f : Nat} {F : List AV → Option (AV × List (List AV))} (h : c2y tb f = some F) : (f, F) ∈ tb := by
  unfold c2y at h
  split at h
  · rename_i x hx
    cases h
    have h1 := List.mem_of_find?_eq_some hx
    have h2 : (x.1 == f) = true := by simpa using List.find?_some hx
    rw [← eq_of_beq h2]
    exact h1
  · cases h
def d1i (i : TypeInfo) : Bool := i.size == 1 && i.bytes == 8 && (match i.zero with | some (.int .i64 0) => true | _ => false)
theorem infoI_of {P : Program} {T : Nat} (h : (match P.info? T with | some i => d1i i | none => false) = true) :
    ∃ i0 z, P.info? T = some i0 ∧ i0.zero = some z ∧ i0.size = 1 ∧ i0.bytes = 8 ∧ z.cells.size = 1 := by
  split at h
  · rename_i i hi
    simp only [d1i, Bool.and_eq_true, beq_iff_eq] at h
    obtain ⟨⟨h1, h2⟩, h3⟩ := h
    split at h3
    · rename_i hz
      exact ⟨i, _, hi, hz, h1, h2, rfl⟩
    · cases h3
  · cases h
theorem V9 {P : Program} {f : Nat} {fn : Func} (h : P.funcs[f]? = some fn) (h1 : (fn.name == "runtime.NumGoroutine") = false) (h2 : fn.body.isNone = false) : Mv.Enters P f := ⟨fn, h, h1, h2⟩
end Go.Proofs
end
open Go Go.Mv Go.Proofs Go.Proofs.YtpjgdgnaeohmeaaDoor Go.Shelf Go.RowKit Go.Lib
namespace Go.Proofs
def Tryd.lSplit_ren : Go.Shelf.Ren := ⟨fun | 146 => 49 | 221 => 57 | 268 => 66 | 138 => 67 | 143 => 68 | 195 => 74 | 197 => 75 | 218 => 76 | 219 => 77 | 260 => 85 | 217 => 86 | 225 => 87 | 224 => 88 | 267 => 89 | 266 => 99 | 314 => 100 | n => n, fun | 9 => 9 | 31 => 24 | 3 => 3 | 4 => 4 | 0 => 0 | 105 => 93 | 21 => 21 | 5 => 5 | 46 => 102 | 119 => 111 | 139 => 114 | 138 => 113 | 146 => 116 | 51 => 115 | n => n, fun | 1 => 1 | 3 => 2 | 4 => 3 | n => n⟩
theorem Tryd.lSplit : Go.Proofs.Lays.n146 Tryd.prog Tryd.lSplit_ren := {
  mixed := by kernel_rfl
  f138 := Tryd.func67.trans (congrArg some (by kernel_rfl))
  f143 := Tryd.func68.trans (congrArg some (by kernel_rfl))
  f146 := Tryd.func49.trans (congrArg some (by kernel_rfl))
  f195 := Tryd.func74.trans (congrArg some (by kernel_rfl))
  f197 := Tryd.func75.trans (congrArg some (by kernel_rfl))
  f217 := Tryd.func86.trans (congrArg some (by kernel_rfl))
  f218 := Tryd.func76.trans (congrArg some (by kernel_rfl))
  f219 := Tryd.func77.trans (congrArg some (by kernel_rfl))
  f221 := Tryd.func57.trans (congrArg some (by kernel_rfl))
  f224 := Tryd.func88.trans (congrArg some (by kernel_rfl))
  f225 := Tryd.func87.trans (congrArg some (by kernel_rfl))
  f260 := Tryd.func85.trans (congrArg some (by kernel_rfl))
  f266 := Tryd.func99.trans (congrArg some (by kernel_rfl))
  f267 := Tryd.func89.trans (congrArg some (by kernel_rfl))
  f268 := Tryd.func66.trans (congrArg some (by kernel_rfl))
  f314 := Tryd.func100.trans (congrArg some (by kernel_rfl))
  t0 := Tryd.underlying0
  a0 := Tryd.isAgg0
  z0 := Tryd.sizeOf0
  v0 := Tryd.zeroValue0
  t3 := Tryd.underlying3
  a3 := Tryd.isAgg3
  z3 := Tryd.sizeOf3
  v3 := Tryd.zeroValue3
  t4 := Tryd.underlying4
  a4 := Tryd.isAgg4
  z4 := Tryd.sizeOf4
  v4 := Tryd.zeroValue4
  t5 := Tryd.underlying5
  a5 := Tryd.isAgg5
  z5 := Tryd.sizeOf5
  v5 := Tryd.zeroValue5
  t9 := Tryd.underlying9
  a9 := Tryd.isAgg9
  z9 := Tryd.sizeOf9
  v9 := Tryd.zeroValue9
  t21 := Tryd.underlying21
  a21 := Tryd.isAgg21
  z21 := Tryd.sizeOf21
  v21 := Tryd.zeroValue21
  t31 := Tryd.underlying24
  a31 := Tryd.isAgg24
  z31 := Tryd.sizeOf24
  v31 := Tryd.zeroValue24
  t46 := Tryd.underlying102
  a46 := Tryd.isAgg102
  z46 := Tryd.sizeOf102
  v46 := Tryd.zeroValue102
  t51 := Tryd.underlying115
  a51 := Tryd.isAgg115
  z51 := Tryd.sizeOf115
  v51 := Tryd.zeroValue115
  t105 := Tryd.underlying93
  a105 := Tryd.isAgg93
  z105 := Tryd.sizeOf93
  v105 := Tryd.zeroValue93
  t119 := Tryd.underlying111
  a119 := Tryd.isAgg111
  z119 := Tryd.sizeOf111
  t138 := Tryd.underlying113
  a138 := Tryd.isAgg113
  z138 := Tryd.sizeOf113
  v138 := Tryd.zeroValue113
  t139 := Tryd.underlying114
  a139 := Tryd.isAgg114
  z139 := Tryd.sizeOf114
  v139 := Tryd.zeroValue114
  t146 := Tryd.underlying116
  a146 := Tryd.isAgg116
  z146 := Tryd.sizeOf116
  v146 := Tryd.zeroValue116
  g1 := by kernel_rfl
  g3 := by kernel_rfl
  g4 := by kernel_rfl }
def Tryd.lJoin_ren : Go.Shelf.Ren := ⟨fun | 156 => 50 | 165 => 58 | 166 => 59 | 169 => 60 | 240 => 69 | 241 => 70 | 276 => 78 | 277 => 79 | n => n, fun | 31 => 24 | 9 => 9 | 3 => 3 | 4 => 4 | 0 => 0 | 20 => 20 | 72 => 79 | 76 => 83 | 70 => 77 | 37 => 29 | 75 => 82 | 127 => 91 | 164 => 96 | 5 => 5 | 80 => 85 | n => n, fun | n => n⟩
theorem Tryd.lJoin : Go.Proofs.Lays.n156 Tryd.prog Tryd.lJoin_ren := {
  mixed := by kernel_rfl
  f156 := Tryd.func50.trans (congrArg some (by kernel_rfl))
  f165 := Tryd.func58.trans (congrArg some (by kernel_rfl))
  f166 := Tryd.func59.trans (congrArg some (by kernel_rfl))
  f169 := Tryd.func60.trans (congrArg some (by kernel_rfl))
  f240 := Tryd.func69.trans (congrArg some (by kernel_rfl))
  f241 := Tryd.func70.trans (congrArg some (by kernel_rfl))
  f276 := Tryd.func78.trans (congrArg some (by kernel_rfl))
  f277 := Tryd.func79.trans (congrArg some (by kernel_rfl))
  t0 := Tryd.underlying0
  a0 := Tryd.isAgg0
  z0 := Tryd.sizeOf0
  v0 := Tryd.zeroValue0
  t3 := Tryd.underlying3
  a3 := Tryd.isAgg3
  z3 := Tryd.sizeOf3
  v3 := Tryd.zeroValue3
  t4 := Tryd.underlying4
  a4 := Tryd.isAgg4
  z4 := Tryd.sizeOf4
  v4 := Tryd.zeroValue4
  t9 := Tryd.underlying9
  a9 := Tryd.isAgg9
  z9 := Tryd.sizeOf9
  v9 := Tryd.zeroValue9
  t20 := Tryd.underlying20
  a20 := Tryd.isAgg20
  z20 := Tryd.sizeOf20
  v20 := Tryd.zeroValue20
  t31 := Tryd.underlying24
  a31 := Tryd.isAgg24
  z31 := Tryd.sizeOf24
  v31 := Tryd.zeroValue24
  t37 := Tryd.underlying29
  a37 := Tryd.isAgg29
  z37 := Tryd.sizeOf29
  v37 := Tryd.zeroValue29
  t70 := Tryd.underlying77
  a70 := Tryd.isAgg77
  z70 := Tryd.sizeOf77
  v70 := Tryd.zeroValue77
  t72 := Tryd.underlying79
  a72 := Tryd.isAgg79
  z72 := Tryd.sizeOf79
  v72 := Tryd.zeroValue79
  t75 := Tryd.underlying82
  a75 := Tryd.isAgg82
  z75 := Tryd.sizeOf82
  v75 := Tryd.zeroValue82
  t76 := Tryd.underlying83
  a76 := Tryd.isAgg83
  z76 := Tryd.sizeOf83
  v76 := Tryd.zeroValue83
  t127 := Tryd.underlying91
  a127 := Tryd.isAgg91
  z127 := Tryd.sizeOf91
  v127 := Tryd.zeroValue91
  t164 := Tryd.underlying96
  a164 := Tryd.isAgg96
  z164 := Tryd.sizeOf96
  v164 := Tryd.zeroValue96 }
def Tryd.lCutP_ren : Go.Shelf.Ren := ⟨fun | 103 => 80 | 210 => 90 | 206 => 101 | n => n, fun | 9 => 9 | 4 => 4 | 24 => 99 | 3 => 3 | n => n, fun | n => n⟩
theorem Tryd.lCutP : Go.Proofs.Lays.n103 Tryd.prog Tryd.lCutP_ren := {
  mixed := by kernel_rfl
  f103 := Tryd.func80.trans (congrArg some (by kernel_rfl))
  f206 := Tryd.func101.trans (congrArg some (by kernel_rfl))
  f210 := Tryd.func90.trans (congrArg some (by kernel_rfl))
  t3 := Tryd.underlying3
  a3 := Tryd.isAgg3
  z3 := Tryd.sizeOf3
  v3 := Tryd.zeroValue3
  t4 := Tryd.underlying4
  a4 := Tryd.isAgg4
  z4 := Tryd.sizeOf4
  v4 := Tryd.zeroValue4
  t9 := Tryd.underlying9
  a9 := Tryd.isAgg9
  z9 := Tryd.sizeOf9
  v9 := Tryd.zeroValue9
  t24 := Tryd.underlying99
  a24 := Tryd.isAgg99
  z24 := Tryd.sizeOf99
  v24 := Tryd.zeroValue99 }
def Tryd.lCutS_ren : Go.Shelf.Ren := ⟨fun | 104 => 81 | 211 => 91 | 207 => 102 | n => n, fun | 9 => 9 | 4 => 4 | 24 => 99 | 3 => 3 | n => n, fun | n => n⟩
theorem Tryd.lCutS : Go.Proofs.Lays.n104 Tryd.prog Tryd.lCutS_ren := {
  mixed := by kernel_rfl
  f104 := Tryd.func81.trans (congrArg some (by kernel_rfl))
  f207 := Tryd.func102.trans (congrArg some (by kernel_rfl))
  f211 := Tryd.func91.trans (congrArg some (by kernel_rfl))
  t3 := Tryd.underlying3
  a3 := Tryd.isAgg3
  z3 := Tryd.sizeOf3
  v3 := Tryd.zeroValue3
  t4 := Tryd.underlying4
  a4 := Tryd.isAgg4
  z4 := Tryd.sizeOf4
  v4 := Tryd.zeroValue4
  t9 := Tryd.underlying9
  a9 := Tryd.isAgg9
  z9 := Tryd.sizeOf9
  v9 := Tryd.zeroValue9
  t24 := Tryd.underlying99
  a24 := Tryd.isAgg99
  z24 := Tryd.sizeOf99
  v24 := Tryd.zeroValue99 }
def Tryd.lItoa_ren : Go.Shelf.Ren := ⟨fun | 171 => 65 | 243 => 73 | 246 => 84 | 283 => 95 | 284 => 96 | 285 => 97 | 286 => 98 | 129 => 112 | 317 => 111 | 318 => 113 | 319 => 114 | 320 => 115 | 337 => 120 | 338 => 121 | n => n, fun | 3 => 3 | 9 => 9 | 2 => 2 | 4 => 4 | 171 => 105 | 0 => 0 | 53 => 106 | 37 => 29 | 5 => 5 | 173 => 109 | 212 => 128 | 51 => 115 | 20 => 20 | 213 => 129 | 46 => 102 | 232 => 142 | 233 => 143 | n => n, fun | 17 => 4 | 18 => 7 | 19 => 8 | n => n⟩
theorem Tryd.lItoa : Go.Proofs.LaysM.n171 Tryd.prog Tryd.lItoa_ren := {
  mixed := by kernel_rfl
  f129 := Tryd.func112.trans (congrArg some (by kernel_rfl))
  f171 := Tryd.func65.trans (congrArg some (by kernel_rfl))
  f243 := Tryd.func73.trans (congrArg some (by kernel_rfl))
  f246 := Tryd.func84.trans (congrArg some (by kernel_rfl))
  f283 := Tryd.func95.trans (congrArg some (by kernel_rfl))
  f284 := Tryd.func96.trans (congrArg some (by kernel_rfl))
  f285 := Tryd.func97.trans (congrArg some (by kernel_rfl))
  f286 := Tryd.func98.trans (congrArg some (by kernel_rfl))
  f317 := Tryd.func111.trans (congrArg some (by kernel_rfl))
  f318 := Tryd.func113.trans (congrArg some (by kernel_rfl))
  f319 := Tryd.func114.trans (congrArg some (by kernel_rfl))
  f320 := Tryd.func115.trans (congrArg some (by kernel_rfl))
  f337 := Tryd.func120.trans (congrArg some (by kernel_rfl))
  f338 := Tryd.func121.trans (congrArg some (by kernel_rfl))
  t0 := Tryd.underlying0
  a0 := Tryd.isAgg0
  z0 := Tryd.sizeOf0
  v0 := Tryd.zeroValue0
  t2 := Tryd.underlying2
  a2 := Tryd.isAgg2
  z2 := Tryd.sizeOf2
  v2 := Tryd.zeroValue2
  t3 := Tryd.underlying3
  a3 := Tryd.isAgg3
  z3 := Tryd.sizeOf3
  v3 := Tryd.zeroValue3
  t4 := Tryd.underlying4
  a4 := Tryd.isAgg4
  z4 := Tryd.sizeOf4
  v4 := Tryd.zeroValue4
  t5 := Tryd.underlying5
  a5 := Tryd.isAgg5
  z5 := Tryd.sizeOf5
  v5 := Tryd.zeroValue5
  t9 := Tryd.underlying9
  a9 := Tryd.isAgg9
  z9 := Tryd.sizeOf9
  v9 := Tryd.zeroValue9
  t20 := Tryd.underlying20
  a20 := Tryd.isAgg20
  z20 := Tryd.sizeOf20
  v20 := Tryd.zeroValue20
  t37 := Tryd.underlying29
  a37 := Tryd.isAgg29
  z37 := Tryd.sizeOf29
  v37 := Tryd.zeroValue29
  t46 := Tryd.underlying102
  a46 := Tryd.isAgg102
  z46 := Tryd.sizeOf102
  v46 := Tryd.zeroValue102
  t51 := Tryd.underlying115
  a51 := Tryd.isAgg115
  z51 := Tryd.sizeOf115
  v51 := Tryd.zeroValue115
  t53 := Tryd.underlying106
  a53 := Tryd.isAgg106
  z53 := Tryd.sizeOf106
  v53 := Tryd.zeroValue106
  t171 := Tryd.underlying105
  a171 := Tryd.isAgg105
  z171 := Tryd.sizeOf105
  v171 := Tryd.zeroValue105
  t173 := Tryd.underlying109
  a173 := Tryd.isAgg109
  z173 := Tryd.sizeOf109
  v173 := Tryd.zeroValue109
  t212 := Tryd.underlying128
  a212 := Tryd.isAgg128
  z212 := Tryd.sizeOf128
  v212 := Tryd.zeroValue128
  t213 := Tryd.underlying129
  a213 := Tryd.isAgg129
  z213 := Tryd.sizeOf129
  t232 := Tryd.underlying142
  a232 := Tryd.isAgg142
  z232 := Tryd.sizeOf142
  v232 := Tryd.zeroValue142
  t233 := Tryd.underlying143
  a233 := Tryd.isAgg143
  z233 := Tryd.sizeOf143
  v233 := Tryd.zeroValue143
  g17 := by kernel_rfl
  g18 := by kernel_rfl
  g19 := by kernel_rfl
  i0 := by kernel_rfl
  i2 := by kernel_rfl
  i3 := by kernel_rfl
  i4 := by kernel_rfl
  i5 := by kernel_rfl
  i9 := by kernel_rfl
  i20 := by kernel_rfl
  i37 := by kernel_rfl
  i46 := by kernel_rfl
  i51 := by kernel_rfl
  i53 := by kernel_rfl
  i171 := by kernel_rfl
  i173 := by kernel_rfl
  i212 := by kernel_rfl
  i232 := by kernel_rfl
  i233 := by kernel_rfl
  m17 := by kernel_rfl
  m18 := by kernel_rfl
  m19 := by kernel_rfl }
def Tryd.lAtoi_ren : Go.Shelf.Ren := ⟨fun | 172 => 82 | 244 => 92 | 245 => 93 | 247 => 103 | 279 => 104 | 280 => 105 | 281 => 106 | 282 => 107 | 287 => 116 | 316 => 117 | 171 => 65 | 205 => 118 | 321 => 122 | 322 => 123 | 243 => 73 | 246 => 84 | 283 => 95 | 284 => 96 | 285 => 97 | 286 => 98 | 129 => 112 | 317 => 111 | 318 => 113 | 319 => 114 | 320 => 115 | 337 => 120 | 338 => 121 | n => n, fun | 9 => 9 | 3 => 3 | 75 => 82 | 76 => 83 | 4 => 4 | 5 => 5 | 167 => 119 | 37 => 29 | 0 => 0 | 85 => 120 | 2 => 2 | 168 => 122 | 53 => 106 | 175 => 131 | 46 => 102 | 210 => 134 | 127 => 91 | 145 => 141 | 143 => 139 | 21 => 21 | 171 => 105 | 173 => 109 | 212 => 128 | 51 => 115 | 20 => 20 | 213 => 129 | 232 => 142 | 233 => 143 | 80 => 85 | n => n, fun | 15 => 5 | 16 => 6 | 17 => 4 | 18 => 7 | 19 => 8 | n => n⟩
theorem Tryd.lAtoi : Go.Proofs.LaysC.n172 Tryd.prog Tryd.lAtoi_ren := {
  mixed := by kernel_rfl
  f129 := Tryd.func112.trans (congrArg some (by kernel_rfl))
  f171 := Tryd.func65.trans (congrArg some (by kernel_rfl))
  f172 := Tryd.func82.trans (congrArg some (by kernel_rfl))
  f205 := Tryd.func118.trans (congrArg some (by kernel_rfl))
  f243 := Tryd.func73.trans (congrArg some (by kernel_rfl))
  f244 := Tryd.func92.trans (congrArg some (by kernel_rfl))
  f245 := Tryd.func93.trans (congrArg some (by kernel_rfl))
  f246 := Tryd.func84.trans (congrArg some (by kernel_rfl))
  f247 := Tryd.func103.trans (congrArg some (by kernel_rfl))
  f279 := Tryd.func104.trans (congrArg some (by kernel_rfl))
  f280 := Tryd.func105.trans (congrArg some (by kernel_rfl))
  f281 := Tryd.func106.trans (congrArg some (by kernel_rfl))
  f282 := Tryd.func107.trans (congrArg some (by kernel_rfl))
  f283 := Tryd.func95.trans (congrArg some (by kernel_rfl))
  f284 := Tryd.func96.trans (congrArg some (by kernel_rfl))
  f285 := Tryd.func97.trans (congrArg some (by kernel_rfl))
  f286 := Tryd.func98.trans (congrArg some (by kernel_rfl))
  f287 := Tryd.func116.trans (congrArg some (by kernel_rfl))
  f316 := Tryd.func117.trans (congrArg some (by kernel_rfl))
  f317 := Tryd.func111.trans (congrArg some (by kernel_rfl))
  f318 := Tryd.func113.trans (congrArg some (by kernel_rfl))
  f319 := Tryd.func114.trans (congrArg some (by kernel_rfl))
  f320 := Tryd.func115.trans (congrArg some (by kernel_rfl))
  f321 := Tryd.func122.trans (congrArg some (by kernel_rfl))
  f322 := Tryd.func123.trans (congrArg some (by kernel_rfl))
  f337 := Tryd.func120.trans (congrArg some (by kernel_rfl))
  f338 := Tryd.func121.trans (congrArg some (by kernel_rfl))
  t0 := Tryd.underlying0
  a0 := Tryd.isAgg0
  z0 := Tryd.sizeOf0
  v0 := Tryd.zeroValue0
  t2 := Tryd.underlying2
  a2 := Tryd.isAgg2
  z2 := Tryd.sizeOf2
  v2 := Tryd.zeroValue2
  t3 := Tryd.underlying3
  a3 := Tryd.isAgg3
  z3 := Tryd.sizeOf3
  v3 := Tryd.zeroValue3
  t4 := Tryd.underlying4
  a4 := Tryd.isAgg4
  z4 := Tryd.sizeOf4
  v4 := Tryd.zeroValue4
  t5 := Tryd.underlying5
  a5 := Tryd.isAgg5
  z5 := Tryd.sizeOf5
  v5 := Tryd.zeroValue5
  t9 := Tryd.underlying9
  a9 := Tryd.isAgg9
  z9 := Tryd.sizeOf9
  v9 := Tryd.zeroValue9
  t20 := Tryd.underlying20
  a20 := Tryd.isAgg20
  z20 := Tryd.sizeOf20
  v20 := Tryd.zeroValue20
  t21 := Tryd.underlying21
  a21 := Tryd.isAgg21
  z21 := Tryd.sizeOf21
  v21 := Tryd.zeroValue21
  t37 := Tryd.underlying29
  a37 := Tryd.isAgg29
  z37 := Tryd.sizeOf29
  v37 := Tryd.zeroValue29
  t46 := Tryd.underlying102
  a46 := Tryd.isAgg102
  z46 := Tryd.sizeOf102
  v46 := Tryd.zeroValue102
  t51 := Tryd.underlying115
  a51 := Tryd.isAgg115
  z51 := Tryd.sizeOf115
  v51 := Tryd.zeroValue115
  t53 := Tryd.underlying106
  a53 := Tryd.isAgg106
  z53 := Tryd.sizeOf106
  v53 := Tryd.zeroValue106
  t75 := Tryd.underlying82
  a75 := Tryd.isAgg82
  z75 := Tryd.sizeOf82
  v75 := Tryd.zeroValue82
  t76 := Tryd.underlying83
  a76 := Tryd.isAgg83
  z76 := Tryd.sizeOf83
  v76 := Tryd.zeroValue83
  t85 := Tryd.underlying120
  a85 := Tryd.isAgg120
  z85 := Tryd.sizeOf120
  v85 := Tryd.zeroValue120
  t127 := Tryd.underlying91
  a127 := Tryd.isAgg91
  z127 := Tryd.sizeOf91
  v127 := Tryd.zeroValue91
  t143 := Tryd.underlying139
  a143 := Tryd.isAgg139
  z143 := Tryd.sizeOf139
  v143 := Tryd.zeroValue139
  t145 := Tryd.underlying141
  a145 := Tryd.isAgg141
  z145 := Tryd.sizeOf141
  v145 := Tryd.zeroValue141
  t167 := Tryd.underlying119
  a167 := Tryd.isAgg119
  z167 := Tryd.sizeOf119
  v167 := Tryd.zeroValue119
  t168 := Tryd.underlying122
  a168 := Tryd.isAgg122
  z168 := Tryd.sizeOf122
  v168 := Tryd.zeroValue122
  t171 := Tryd.underlying105
  a171 := Tryd.isAgg105
  z171 := Tryd.sizeOf105
  v171 := Tryd.zeroValue105
  t173 := Tryd.underlying109
  a173 := Tryd.isAgg109
  z173 := Tryd.sizeOf109
  v173 := Tryd.zeroValue109
  t175 := Tryd.underlying131
  a175 := Tryd.isAgg131
  z175 := Tryd.sizeOf131
  v175 := Tryd.zeroValue131
  t210 := Tryd.underlying134
  a210 := Tryd.isAgg134
  z210 := Tryd.sizeOf134
  v210 := Tryd.zeroValue134
  t212 := Tryd.underlying128
  a212 := Tryd.isAgg128
  z212 := Tryd.sizeOf128
  v212 := Tryd.zeroValue128
  t213 := Tryd.underlying129
  a213 := Tryd.isAgg129
  z213 := Tryd.sizeOf129
  t232 := Tryd.underlying142
  a232 := Tryd.isAgg142
  z232 := Tryd.sizeOf142
  v232 := Tryd.zeroValue142
  t233 := Tryd.underlying143
  a233 := Tryd.isAgg143
  z233 := Tryd.sizeOf143
  v233 := Tryd.zeroValue143
  g15 := by kernel_rfl
  g16 := by kernel_rfl
  g17 := by kernel_rfl
  g18 := by kernel_rfl
  g19 := by kernel_rfl
  t80 := Tryd.underlying85
  a80 := Tryd.isAgg85
  z80 := Tryd.sizeOf85
  v80 := Tryd.zeroValue85
  i0 := by kernel_rfl
  i2 := by kernel_rfl
  i3 := by kernel_rfl
  i4 := by kernel_rfl
  i5 := by kernel_rfl
  i9 := by kernel_rfl
  i20 := by kernel_rfl
  i21 := by kernel_rfl
  i37 := by kernel_rfl
  i46 := by kernel_rfl
  i51 := by kernel_rfl
  i53 := by kernel_rfl
  i75 := by kernel_rfl
  i76 := by kernel_rfl
  i80 := by kernel_rfl
  i85 := by kernel_rfl
  i127 := by kernel_rfl
  i143 := by kernel_rfl
  i145 := by kernel_rfl
  i167 := by kernel_rfl
  i168 := by kernel_rfl
  i171 := by kernel_rfl
  i173 := by kernel_rfl
  i175 := by kernel_rfl
  i210 := by kernel_rfl
  i212 := by kernel_rfl
  i232 := by kernel_rfl
  i233 := by kernel_rfl
  m15 := by kernel_rfl
  m16 := by kernel_rfl
  m17 := by kernel_rfl
  m18 := by kernel_rfl
  m19 := by kernel_rfl
  c0 := by kernel_rfl
  c2 := by kernel_rfl
  c3 := by kernel_rfl
  c4 := by kernel_rfl
  c5 := by kernel_rfl
  c9 := by kernel_rfl
  c20 := by kernel_rfl
  c21 := by kernel_rfl
  c37 := by kernel_rfl
  c46 := by kernel_rfl
  c51 := by kernel_rfl
  c53 := by kernel_rfl
  c75 := by kernel_rfl
  c76 := by kernel_rfl
  c80 := by kernel_rfl
  c85 := by kernel_rfl
  c127 := by kernel_rfl
  c143 := by kernel_rfl
  c145 := by kernel_rfl
  c167 := by kernel_rfl
  c168 := by kernel_rfl
  c171 := by kernel_rfl
  c173 := by kernel_rfl
  c175 := by kernel_rfl
  c210 := by kernel_rfl
  c212 := by kernel_rfl
  c213 := by kernel_rfl
  c232 := by kernel_rfl
  c233 := by kernel_rfl }
abbrev Tryd.env : Env := txtEnv Tryd.prog 1 4 5 6 (by kernel_rfl)
theorem Tryd.extraJoin : Builder.Extra Tryd.prog Tryd.lJoin_ren := { sizeBuilder := by kernel_rfl, liesBuilder := by kernel_rfl, t5 := Tryd.underlying5, a5 := Tryd.isAgg5, z5 := Tryd.sizeOf5, v5 := Tryd.zeroValue5, infoByte := by kernel_rfl, cellsByte := by kernel_rfl, sizeByte := by kernel_rfl, neB5 := by decide }
theorem Tryd.soundX : c1p (Tryd.env) (cxT none) := by
  intro f F args res outs hF h
  have hm := c4k (show c2y d2w f = some F from hF)
  simp only [d2w, List.mem_cons, Prod.mk.injEq, List.not_mem_nil, or_false] at hm
  rcases hm with ⟨rfl, rfl⟩ | ⟨rfl, rfl⟩ | ⟨rfl, rfl⟩ | ⟨rfl, rfl⟩ | ⟨rfl, rfl⟩ | ⟨rfl, rfl⟩
  · exact ⟨b5o (Γ := Tryd.env) (fun h => h) Tryd.lSplit (by kernel_rfl) rfl (fun w h => h.1) h, V9 Tryd.func49 (by kernel_rfl) (by kernel_rfl)⟩
  · exact ⟨b7f (fun h => h) Tryd.lJoin Tryd.extraJoin rfl h, V9 Tryd.func50 (by kernel_rfl) (by kernel_rfl)⟩
  · exact ⟨b8s (Γ := Tryd.env) (fun h => h) Tryd.lItoa rfl (fun w h => h.2.1) h, V9 Tryd.func65 (by kernel_rfl) (by kernel_rfl)⟩
  · exact ⟨b7l (fun h => h) Tryd.lCutP rfl h, V9 Tryd.func80 (by kernel_rfl) (by kernel_rfl)⟩
  · exact ⟨b8p (fun h => h) Tryd.lCutS rfl h, V9 Tryd.func81 (by kernel_rfl) (by kernel_rfl)⟩
  · exact ⟨b9q (Γ := Tryd.env) (fun h => h) Tryd.lAtoi rfl (fun w h => h.2.2.1) (fun w h => h.2.2.2) h, V9 Tryd.func82 (by kernel_rfl) (by kernel_rfl)⟩
theorem Tryd.soundI : a4a (Tryd.env) (cxT none) := a4a.none rfl
theorem Tryd.sound : SoundC (Tryd.env) (cxT none) (CW (cxT none)) := c6g (cxT none) (GlOk.none rfl rfl) Tryd.soundX Tryd.soundI (by kernel_rfl)
end Go.Proofs
