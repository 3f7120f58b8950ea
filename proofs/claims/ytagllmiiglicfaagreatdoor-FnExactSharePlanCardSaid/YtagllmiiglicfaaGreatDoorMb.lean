/- The abstract machine, part 2 of 4: it runs the model's code on abstract values and is proved sound over any program. Conditions: none. -/
import Derived.Test.YtagllmiiglicfaaGreatDoorMa

set_option linter.unusedVariables false
set_option linter.unusedSimpArgs false
section
namespace Go.Mv
open Go
section
variable {P : Program} {C : Caller} {Γ : Env} {w0 : World} {A O0 : Nat → Prop} {ν0 : Nu} {N : Nat} {D : Nat → Prop} {st : St} {ν : Nu} {tm : Array Value} {w : World}
def LOk (m : Nat) (c : AV) (F' : Fl) (κ : FK) (st' : St) (ν' : Nu) (w : World) (D' : Nat → Prop) (l : AV) (x : Value) : Prop :=
 x.oneCell' = true ∧ (I0 l = true → I0 c = true) ∧ (∀ gs, l ≠ .agg gs) ∧
 ((isOwn l = false ∧ F' κ = none ∧ RS st' ν' w D' l x) ∨
  (∃ s es φ, l = .own s es ∧ I0 c = true ∧ m = 0 ∧ F' κ = some ⟨φ, s, es⟩ ∧ Z0 es ∧ SlV w (φ none) s 0 es.length x))
theorem a5z (hOA : ∀ b, O0 b → A b) {m f : Nat} {kf : Nat → FK} (hkf : ∀ i j, kf i = kf j → i = j) :
  ∀ (vs : List AV) (j : Nat) (cs : List AV) (F : Fl) (D : Nat → Prop) (st : St) (ν : Nu) (vs' : List AV) (st' : St) (xs : List Value),
   Rel Γ w0 A O0 ν0 N F D st ν tm w → (∀ k, j ≤ k → F (kf k) = none) → (absorbLeaves m f j cs vs).go C st = some (vs', st') → RL st ν w D vs xs →
   ∃ F' D' ν', Rel Γ w0 A O0 ν0 N F' D' st' ν' tm w ∧ Ext st ν w st' ν' w ∧ (∀ b, D b → D' b) ∧ vs'.length = vs.length ∧
    (∀ κ, (∀ k, j ≤ k → k < j + vs.length → κ ≠ kf k) → F' κ = F κ) ∧
    ∀ (i : Nat) (l : AV), vs'[i]? = some l → ∃ x : Value, xs[i]? = some x ∧ LOk m ((cs[i]?).getD .undef) F' (kf (j + i)) st' ν' w D' l x := by
 intro vs
 induction vs with
 | nil =>
  intro j cs F D st ν vs' st' xs R hF h hr
  simp only [absorbLeaves, RW.go_pure, Option.some.injEq, Prod.mk.injEq] at h
  obtain ⟨rfl, rfl⟩ := h
  exact ⟨F, D, ν, R, Ext.refl _ _ _, fun _ h => h, rfl, fun _ _ => rfl, fun i l hl => by simp at hl⟩
 | cons v vs ih =>
  intro j cs F D st ν vs' st' xs R hF h hr
  cases xs with
  | nil => have := hr.1; simp at this
  | cons x xs =>
   simp only [absorbLeaves, RW.go_bind, RW.go_pure, Option.bind_eq_some_iff] at h
   obtain ⟨⟨v1, st1⟩, h1, ⟨vs1, st2⟩, h2, h3⟩ := h
   cases h3
   obtain ⟨x', hx', hrx⟩ := hr.2 0 v rfl
   cases hx'
   obtain ⟨F1, D1, ν1, R1, E1, hD1, hc, hn, ha, hl⟩ := a1n hOA (hF j (Nat.le_refl _)) R h1 hrx
   have hF1 : ∀ κ, κ ≠ kf j → F1 κ = F κ := by
    intro κ hk
    rcases hl with ⟨_, rfl, _⟩ | ⟨s, es, φ, _, _, _, rfl, _⟩
    ·rfl
    ·exact Fl.set_ne _ _ hk
   have hr1 : RL st1 ν1 w D1 vs xs := by
    have := hr.drop 1
    simp only [List.drop_succ_cons, List.drop_zero] at this
    exact ⟨this.1, fun i l hl => by obtain ⟨v, a, b⟩ := this.2 i l hl; exact ⟨v, a, b.same E1 hD1⟩⟩
   obtain ⟨F2, D2, ν2, R2, E2, hD2, hlen, hF2, hrest⟩ := ih (j + 1) cs.tail F1 D1 st1 ν1 vs1 st2 xs R1
    (fun k hk => by rw [hF1 _ (fun e => by have := hkf _ _ e; omega)]; exact hF k (by omega)) h2 hr1
   refine ⟨F2, D2, ν2, R2, E1.trans E2, fun b hb => hD2 b (hD1 b hb), by simp [hlen], fun κ hκ => ?_, fun i l hil => ?_⟩
   ·rw [hF2 κ (fun k a b => hκ k (by omega) (by simp; omega)), hF1 κ (hκ j (Nat.le_refl _) (by simp))]
   ·cases i with
    | zero =>
     simp only [List.getElem?_cons_zero, Option.some.injEq] at hil
     subst hil
     refine ⟨x, rfl, hc, ?_, ha, ?_⟩
     ·cases cs <;> exact hn
     ·have hF2j : F2 (kf (j + 0)) = F1 (kf j) := hF2 _ (fun k a b e => by have := hkf _ _ e; omega)
      rcases hl with ⟨ho, hFe, hrs⟩ | ⟨s, es, φ, rfl, hcn, hm, hFe, hno, hsl⟩
      ·refine .inl ⟨ho, ?_, hrs.same E2 hD2⟩
       rw [hF2j, hFe]; exact hF j (Nat.le_refl _)
      ·refine .inr ⟨s, es, φ, rfl, ?_, hm, ?_, hno, hsl⟩
       ·cases cs <;> exact hcn
       ·rw [hF2j, hFe, Fl.set_eq]
    | succ i =>
     simp only [List.getElem?_cons_succ] at hil ⊢
     obtain ⟨y, hy, hok⟩ := hrest i l hil
     refine ⟨y, hy, ?_⟩
     rw [show j + (i + 1) = j + 1 + i by omega]
     cases cs with
     | nil => simpa using hok
     | cons c cs => simpa using hok
theorem a2e (hOA : ∀ b, O0 b → A b) {F : Fl} {m f j : Nat} {kf : Nat → FK} (hkf : ∀ i j, kf i = kf j → i = j) (R : Rel Γ w0 A O0 ν0 N F D st ν tm w)
  (hF : ∀ k, j ≤ k → F (kf k) = none) {cs : List AV} {v v' : AV} {st' : St} {x : Value} (h : (absorb m f j cs v).go C st = some (v', st')) (hx : RS st ν w D v x) :
  ∃ F' D' ν', Rel Γ w0 A O0 ν0 N F' D' st' ν' tm w ∧ Ext st ν w st' ν' w ∧ (∀ b, D b → D' b) ∧ (leaves v').length = (leaves v).length ∧ x.cells.size = (leaves v).length ∧
   (∀ κ, (∀ k, j ≤ k → κ ≠ kf k) → F' κ = F κ) ∧ (∀ κ, F' κ = F κ ∨ ∃ k, κ = kf (j + k) ∧ k < (leaves v).length) ∧
   ((∃ gs, v' = .agg gs) ∨ leaves v' = [v']) ∧
   ∀ (i : Nat) (l : AV), (leaves v')[i]? = some l → ∃ y : Value, x.cells.toList[i]? = some y ∧ LOk m ((cs[i]?).getD .undef) F' (kf (j + i)) st' ν' w D' l y := by
 unfold absorb at h
 split at h
 ·rename_i fs
  obtain ⟨cs', rfl, hr⟩ := hx.agg_list
  simp only [RW.go_bind, RW.go_pure, Option.bind_eq_some_iff] at h
  obtain ⟨⟨fs', st1⟩, h1, h2⟩ := h
  cases h2
  obtain ⟨F', D', ν', R', E, hD, hlen, hFo, hl⟩ := a5z hOA hkf fs j cs F D st ν fs' st1 cs'.toList R hF h1 hr
  refine ⟨F', D', ν', R', E, hD, hlen, by simpa [leaves, Value.cells] using hr.1, fun κ hκ => hFo κ (fun k a _ => hκ k a), fun κ => ?_, .inl ⟨fs', rfl⟩, hl⟩
  by_cases hk : ∃ k, j ≤ k ∧ k < j + fs.length ∧ κ = kf k
  ·obtain ⟨k, a, b, rfl⟩ := hk
   exact .inr ⟨k - j, by congr 1; omega, by simp only [leaves]; omega⟩
  ·exact .inl (hFo κ fun k a b e => hk ⟨k, a, b, e⟩)
 ·rename_i hna
  have hlv : leaves v = [v] := by cases v <;> first | rfl | exact (hna _ rfl).elim
  obtain ⟨F', D', ν', R', E, hD, hc, hn, ha, hl⟩ := a1n hOA (hF j (Nat.le_refl _)) R h hx
  have hlv' : leaves v' = [v'] := by cases v' <;> first | rfl | exact (ha _ rfl).elim
  have hcl : x.cells = #[x] := by cases x <;> simp [Value.cells, Value.oneCell'] at hc ⊢
  refine ⟨F', D', ν', R', E, hD, by rw [hlv, hlv']; rfl, by rw [hcl, hlv]; rfl, fun κ hκ => ?_, fun κ => ?_, .inr hlv', fun i l hil => ?_⟩
  ·rcases hl with ⟨_, rfl, _⟩ | ⟨s, es, φ, _, _, _, rfl, _⟩
   ·rfl
   ·exact Fl.set_ne _ _ (hκ j (Nat.le_refl _))
  ·rcases hl with ⟨_, rfl, _⟩ | ⟨s, es, φ, _, _, _, rfl, _⟩
   ·exact .inl rfl
   ·by_cases e : κ = kf j
    ·exact .inr ⟨0, e, by rw [hlv]; exact Nat.one_pos⟩
    ·exact .inl (Fl.set_ne _ _ e)
  ·rw [hlv'] at hil
   cases i with
   | succ i => simp at hil
   | zero =>
    simp only [List.getElem?_cons_zero, Option.some.injEq] at hil
    subst hil
    refine ⟨x, by rw [hcl]; rfl, hc, ?_, ha, ?_⟩
    ·cases cs <;> exact hn
    ·rcases hl with ⟨ho, hFe, hrs⟩ | ⟨s, es, φ, rfl, hcn, hm, hFe, hno, hsl⟩
     ·exact .inl ⟨ho, by rw [hFe]; exact hF j (Nat.le_refl _), hrs⟩
     ·refine .inr ⟨s, es, φ, rfl, ?_, hm, by rw [hFe]; exact Fl.set_eq _ _ _, hno, hsl⟩
      cases cs <;> exact hcn
end
section
variable {P : Program} {C : Caller} {Γ : Env} {w0 : World} {A O0 : Nat → Prop} {ν0 : Nu} {N : Nat} {D : Nat → Prop} {st : St} {ν : Nu} {tm : Array Value} {w : World}
theorem Z4 (v : AV) : (∃ gs, v = .agg gs) ∨ ((∀ gs, v ≠ .agg gs) ∧ leaves v = [v]) := by
 cases v <;> first | exact .inl ⟨_, rfl⟩ | exact .inr ⟨(fun gs h => by cases h), rfl⟩
theorem a7h {e v : AV} {j : Nat} (h0 : 0 < (leaves v).length) (hle : j + (leaves v).length ≤ (leaves e).length) :
  leaves (putAt e j v) = (leaves e).take j ++ leaves v ++ (leaves e).drop (j + (leaves v).length) := by
 rcases Z4 e with ⟨fs, rfl⟩ | ⟨hna, he⟩
 ·rcases Z4 v with ⟨gs, rfl⟩ | ⟨hnv, hv⟩
  ·rfl
  ·have h1 : putAt (.agg fs) j v = .agg (fs.set j v) := by
    cases v <;> first | rfl | exact (hnv _ rfl).elim
   rw [hv] at hle ⊢
   rw [h1]
   change fs.set j v = fs.take j ++ [v] ++ fs.drop (j + 1)
   change j + 1 ≤ fs.length at hle
   rw [List.set_eq_take_append_cons_drop, if_pos (by omega)]
   simp
 ·rw [he] at hle ⊢
  simp only [List.length_cons, List.length_nil] at hle
  have hj : j = 0 := by omega
  subst hj
  have : putAt e 0 v = v := by
   cases e <;> first | (cases v <;> rfl) | exact (hna _ rfl).elim
  rw [this]
  simp only [List.take_zero, List.nil_append]
  rw [List.drop_eq_nil_of_le (by simp; omega), List.append_nil]
theorem a9a {e v : AV} {j : Nat} (h0 : 0 < (leaves v).length) (hle : j + (leaves v).length ≤ (leaves e).length) (k : Nat) :
  (leaves (putAt e j v))[k]? = if j ≤ k ∧ k < j + (leaves v).length then (leaves v)[k - j]? else (leaves e)[k]? := by
 rw [a7h h0 hle]
 have hl : ((leaves e).take j).length = j := by simp; omega
 split
 ·rename_i hk
  rw [List.getElem?_append_left (by simp; omega), List.getElem?_append_right (by omega), hl]
 ·rename_i hk
  by_cases hjk : k < j
  ·rw [List.getElem?_append_left (by simp; omega), List.getElem?_append_left (by omega), List.getElem?_take, if_pos hjk]
  ·rw [List.getElem?_append_right (by simp; omega), List.getElem?_drop, List.length_append, hl]
   congr 1; omega
theorem c7d {e v : AV} {j : Nat} (h0 : 0 < (leaves v).length) (hle : j + (leaves v).length ≤ (leaves e).length) :
  (leaves (putAt e j v)).length = (leaves e).length := by
 rw [a7h h0 hle]; simp; omega
theorem V9 {es : List AV} {i : Nat} {e' : AV} (hi : i < es.length) (x y : Nat) : leafAt (es.set i e') x y = if x = i then (leaves e')[y]? else leafAt es x y := by
 unfold leafAt
 split
 ·rename_i e; subst e; rw [List.getElem?_set_self hi]; rfl
 ·rename_i e; rw [List.getElem?_set_ne (Ne.symm e)]
theorem RN.put {L : AV → Value → Prop} {φ φ' : Path → Base} {b o : Nat} {bx : Prop} {s : Nat} {es : List AV} (h : RN w L φ (some (b, o)) bx s es) {i j : Nat} {e v : AV} {xs : List Value}
  {c : Array Value} {ety : TypeId} (hw : w.heap[b]? = some (.cells c ety (0, 0))) (he : es[i]? = some e) (h0 : 0 < (leaves v).length)
  (hle : j + (leaves v).length ≤ (leaves e).length) (hxs : xs.length = (leaves v).length)
  (hφ : ∀ x y s' es', leafAt es x y = some (.own s' es') → ¬ (x = i ∧ j ≤ y ∧ y < j + (leaves v).length) → φ' (some (x, y)) = φ (some (x, y)))
  (hcs : ∀ x y s' es' b' o', leafAt es x y = some (.own s' es') → φ (some (x, y)) = some (b', o') → b' < w.heap.size)
  (hl : ∀ (k : Nat) (l : AV), (leaves v)[k]? = some l → ∃ x : Value, xs[k]? = some x ∧ S0 (Y8 w b (S2 c (o + i * s + j) xs) ety) L φ' i (j + k) l x) :
  RN (Y8 w b (S2 c (o + i * s + j) xs) ety) L φ' (some (b, o)) bx s (es.set i (putAt e j v)) ∧ o + i * s + j + xs.length ≤ c.size := by
 obtain ⟨c', ety', h1, h2, h3, h5, h4⟩ := h
 rw [hw] at h1
 cases h1
 have hi : i < es.length := (List.getElem?_eq_some_iff.1 he).1
 have hlt : b < w.heap.size := (Array.getElem?_eq_some_iff.1 hw).1
 have hbd : o + i * s + j + xs.length ≤ c.size := by
  have hk : j + (leaves v).length - 1 < (leaves e).length := by omega
  obtain ⟨v0, hv0, _⟩ := h4 i (j + (leaves v).length - 1) ((leaves e)[j + (leaves v).length - 1]) (by simp only [leafAt, he, Option.bind_some, List.getElem?_eq_getElem hk])
  have := (Array.getElem?_eq_some_iff.1 hv0).1
  omega
 have hsz : (S2 c (o + i * s + j) xs).size = c.size := R6 _ _ _
 refine ⟨⟨S2 c (o + i * s + j) xs, ety, a0q hlt, by rw [hsz]; simpa using h2, fun hb e' he' => ?_, fun hb => by simpa using h5 hb, fun x y l hxy => ?_⟩, hbd⟩
 ·rcases List.mem_or_eq_of_mem_set he' with h | h
  ·exact h3 hb e' h
  ·subst h
   rw [c7d h0 hle]
   exact h3 hb e (List.mem_of_getElem? he)
 ·rw [V9 hi] at hxy
  rw [a2c _ _ _ _ hbd]
  have hother : ∀ l0, leafAt es x y = some l0 → ¬ (x = i ∧ j ≤ y ∧ y < j + (leaves v).length) →
    ∃ v0, (if o + i * s + j ≤ o + x * s + y ∧ o + x * s + y < o + i * s + j + xs.length then xs[o + x * s + y - (o + i * s + j)]? else c[o + x * s + y]?) = some v0 ∧
     S0 (Y8 w b (S2 c (o + i * s + j) xs) ety) L φ' x y l0 v0 := by
   intro l0 hl0 hne
   obtain ⟨v0, hv0, hr0⟩ := h4 x y l0 hl0
   have hout : ¬ (o + i * s + j ≤ o + x * s + y ∧ o + x * s + y < o + i * s + j + xs.length) := by
    rintro ⟨a1, a2⟩
    by_cases hx : x = i
    ·subst hx
     exact hne ⟨rfl, by omega, by omega⟩
    ·by_cases hb : bx
     ·have := h5 hb
      have hxl : x < es.length := by
       unfold leafAt at hl0
       cases hxe : es[x]? with
       | none => simp [hxe] at hl0
       | some e0 => exact (List.getElem?_eq_some_iff.1 hxe).1
      omega
     ·have hsi : (leaves e).length = s := h3 hb e (List.mem_of_getElem? he)
      have hy : y < s := by
       unfold leafAt at hl0
       cases hxe : es[x]? with
       | none => simp [hxe] at hl0
       | some e0 =>
        have := h3 hb e0 (List.mem_of_getElem? hxe)
        simp only [hxe, Option.bind_some] at hl0
        have := (List.getElem?_eq_some_iff.1 hl0).1
        omega
      rcases Nat.lt_or_gt_of_ne hx with hlt' | hgt
      ·have := Nat.mul_le_mul_right s (show x + 1 ≤ i by omega)
       rw [Nat.add_mul] at this
       omega
      ·have := Nat.mul_le_mul_right s (show i + 1 ≤ x by omega)
       rw [Nat.add_mul] at this
       omega
   rw [if_neg hout]
   refine ⟨v0, hv0, hr0.mono (fun _ _ h => h) (fun s' es' e => hφ x y s' es' (e ▸ hl0) hne) (fun s' es' b' o' e hb' => ?_)⟩
   by_cases eb : b' = b
   ·subst eb; simp [csize, a0q hlt, hw, hsz]
   ·exact L3 (b1c eb)
  split at hxy
  ·rename_i hx
   subst hx
   rw [a9a h0 hle] at hxy
   split at hxy
   ·rename_i hy
    obtain ⟨x0, hx0, hr0⟩ := hl _ _ hxy
    refine ⟨x0, ?_, ?_⟩
    ·rw [if_pos (by omega), show o + x * s + y - (o + x * s + j) = y - j by omega]
     exact hx0
    ·rwa [show j + (y - j) = y by omega] at hr0
   ·rename_i hy
    exact hother l (by simpa [leafAt, he] using hxy) (fun h => hy h.2)
  ·rename_i hx
   exact hother l hxy (fun h => hx h.1)
theorem b5e : ∀ (ls cs : List AV), T4 ls cs = true → ∀ (k : Nat) (l : AV), ls[k]? = some l → isOwn l = true ∨ I0 l = true → ∃ c, cs[k]? = some c ∧ I0 c = true := by
 intro ls
 induction ls with
 | nil => intro cs _ k l hl; simp at hl
 | cons a ls ih =>
  intro cs h k l hl ho
  cases cs with
  | nil => simp [T4] at h
  | cons c cs =>
   simp only [T4, Bool.and_eq_true, Bool.or_eq_true, Bool.not_eq_true'] at h
   cases k with
   | zero =>
    simp only [List.getElem?_cons_zero, Option.some.injEq] at hl
    subst hl
    refine ⟨c, rfl, ?_⟩
    rcases h.1 with ⟨h1, h2⟩ | h1
    ·rcases ho with ho | ho <;> simp_all
    ·exact h1
   | succ k =>
    simp only [List.getElem?_cons_succ] at hl ⊢
    exact ih cs h.2 k l hl ho
theorem c8f {a : AV} (h : I0 a = true) : a = .nil := by cases a <;> simp [I0] at h; rfl
def kfS (k : Nat) : FK := (0, k, 0)
theorem b7z : ∀ i j, kfS i = kfS j → i = j := by
 intro i j h
 simp only [kfS, Prod.mk.injEq] at h
 exact h.2.1
open Classical in
theorem a4p (hOA : ∀ b, O0 b → A b) (R : Rel Γ w0 A O0 ν0 N Fl.emp D st ν tm w) {T : Nat} {a v : AV} {st' : St} {va vv : Value}
  (h : (a5u P T a v).go C st = some ((), st')) (ha : RS st ν w D a va) (hv : RS st ν w D v vv) :
  ∃ D' ν' w', (Instr.storeAt T va vv).run P w = .ok () w' ∧ Rel Γ w0 A O0 ν0 N Fl.emp D' st' ν' tm w' := by
 unfold a5u at h
 split at h
 ·rename_i id g p i j
  simp only [RW.go_bind, RW.go_up, Option.bind_eq_some_iff, Option.map_eq_some_iff] at h
  obtain ⟨_, ⟨⟨m, s, es⟩, h1, rfl⟩, h⟩ := h
  rw [G3] at h1
  simp only at h
  split at h
  ·rename_i e he
   simp only [RW.go_bind, RW.go_up, Option.bind_eq_some_iff, Option.map_eq_some_iff] at h
   obtain ⟨⟨v', st1⟩, h2, _, ⟨⟨m', s', es'⟩, h3, rfl⟩, h⟩ := h
   rw [G3] at h3
   simp only at h h2
   split at h
   ·rename_i e' he'
    simp only [RW.go_bind, RW.go_up, RW.go_wr, C1, Option.bind_eq_some_iff, Option.map_eq_some_iff] at h
    obtain ⟨_, ⟨_, h4, rfl⟩, _, ⟨wl, h5, rfl⟩, h6⟩ := h
    obtain ⟨rfl, hm2, hsz, h0, hle, hfit, himm⟩ := C4 h4
    cases h6
    obtain ⟨F1, D1, ν1, R1, E1, hD1, hlen, hcl, hFo, hFw, hshape, hleaf⟩ := a2e hOA b7z R (fun _ _ => rfl) h2 hv
    have ha1 := ha.same E1 hD1
    obtain ⟨_, _, _, hptr⟩ := ha1.ptr_inv
    obtain ⟨b, o, hbo, rfl⟩ := hptr _ _ _ h3
    obtain ⟨hRN, hnoO⟩ := R1.node h3
    have hRN0 := hRN
    rw [hbo] at hRN
    have hRN2 := hRN
    obtain ⟨c, ety, hw, hcsz, _, _, _⟩ := hRN2
    have hi : i < es'.length := (List.getElem?_eq_some_iff.1 he').1
    have hlv : (leaves v').length = (leaves v).length := hlen
    have hone : ∀ y ∈ vv.cells.toList, y.oneCell' = true := by
     intro y hy
     obtain ⟨k, hk, rfl⟩ := List.mem_iff_getElem.1 hy
     have hk' : k < (leaves v').length := by rw [hlv, ← hcl]; simpa using hk
     obtain ⟨y', hy', hok⟩ := hleaf k _ (List.getElem?_eq_getElem hk')
     rw [List.getElem?_eq_getElem hk] at hy'
     cases hy'
     exact hok.1
    have hxs : vv.cells.toList.length = (leaves v').length := by rw [hlv, ← hcl]; simp
    have hTsz : (tyS P T).size ≠ 0 := by omega
    obtain ⟨inf, hinf, hinfs⟩ := a3x hTsz
    -- what the cells hold behind it
    have W : WStep Γ w (Y8 w b (S2 c (o + i * s' + j) vv.cells.toList) ety) b := a2u hw (R6 _ _ _)
    have run : ∀ (hb : o + i * s' + j + vv.cells.toList.length ≤ c.size),
      (Instr.storeAt T (.pointer (some ⟨b, o + i * s' + j, none⟩)) vv).run P w = .ok () (Y8 w b (S2 c (o + i * s' + j) vv.cells.toList) ety) := by
     intro hb
     have hne : vv.cells.toList ≠ [] := by
      intro e0
      have := hxs
      rw [e0] at this
      simp only [List.length_nil] at this
      omega
     have hcs : ¬ vv.cells.size ≠ inf.size := by rw [hcl, hsz, hinfs]; exact fun h => h rfl
     simp only [Instr.storeAt, Instr.sureAddr, storeVar, Sem.run_bind, Sem.run_pure, Result.andThen_ok, I3 hinf, hcs, if_false]
     rw [V4 P _ 0 c w hw hone (by simpa using hb)]
     simp [hne]
    cases p with
    | none =>
     simp only [if_true] at hleaf h2
     obtain ⟨s0, es0, hst, hp⟩ := J9 h3
     change st1 (.h id) = _ at hst
     rcases hp with ⟨_, rfl, rfl⟩ | ⟨_, _, hq, _⟩
     ·simp only [wrNode, Rd.ev_read, hst, Rd.ev_ret, Option.some.injEq] at h5
      subst h5
      -- the bases of the parts
      let φ : Path → Base := fun q => match q with
       | some (x, y) => if x = i ∧ j ≤ y ∧ y < j + (leaves v').length then (match F1 (kfS y) with | some f => f.φ none | none => ν1 id q) else ν1 id q
       | none => ν1 id none
      have hφ : ∀ x y, ¬ (x = i ∧ j ≤ y ∧ y < j + (leaves v').length) → φ (some (x, y)) = ν1 id (some (x, y)) := fun x y hn => by simp only [φ]; rw [if_neg hn]
      have hput := RN.put (φ' := φ) (v := v') (j := j) (xs := vv.cells.toList) hRN hw he' (by omega) (by omega) hxs
       (fun x y s2 es2 _ hn => hφ x y hn)
       (fun x y s2 es2 b2 o2 hl2 hb2 => R1.hlt hst (p := some (x, y)) (fun q hq => by cases hq; exact ⟨s2, es2, hl2⟩) hb2)
       (fun k l hk => by
        obtain ⟨y, hy, h1', h2', h3', hc⟩ := hleaf k l hk
        refine ⟨y, hy, ?_⟩
        have hkl : k < (leaves v').length := (List.getElem?_eq_some_iff.1 hk).1
        rcases hc with ⟨hno, _, hrs⟩ | ⟨s2, es2, φ2, rfl, _, _, hf, hno2, hsl⟩
        ·cases l with
         | own => simp [isOwn] at hno
         | _ => exact hrs
        ·have he2 : φ (some (i, j + k)) = φ2 none := by
          simp only [φ]
          rw [if_pos (by first | exact ⟨rfl, by omega, by omega⟩ | exact ⟨trivial, by omega, by omega⟩), hf]
         have hlt2 : ∀ b2 o2, φ2 none = some (b2, o2) → b2 < w.heap.size := fun b2 o2 hb2 =>
          R1.live_lt (k := .fl (kfS (j + k)) none) ⟨_, hf, fun _ hq => by cases hq⟩ (by simp only [baseOf, hf]; exact hb2)
         exact SlV.mono hsl he2 (fun b2 o2 hb2 => W.cs b2 (hlt2 b2 o2 hb2)))
      obtain ⟨hnew, hbd⟩ := hput
      have hreg : ∀ x y l, leafAt (es0.set i (putAt e' j v')) x y = some l → (x = i ∧ j ≤ y ∧ y < j + (leaves v').length ∧ (leaves v')[y - j]? = some l) ∨
        (¬ (x = i ∧ j ≤ y ∧ y < j + (leaves v').length) ∧ leafAt es0 x y = some l) := by
       intro x y l hl
       rw [V9 hi] at hl
       split at hl
       ·rename_i hx
        subst hx
        rw [a9a (by omega) (by omega)] at hl
        split at hl
        ·rename_i hy; exact .inl ⟨rfl, hy.1, hy.2, hl⟩
        ·rename_i hy; exact .inr ⟨fun h => hy h.2, by simpa [leafAt, he'] using hl⟩
       ·rename_i hx; exact .inr ⟨fun h => hx h.1, hl⟩
      have hold : ∀ y l, j ≤ y → (leaves v')[y - j]? = some l → isOwn l = true ∨ I0 l = true → leafAt es0 i y = some .nil := by
       intro y l hy hl ho
       obtain ⟨c0, hc0, hcn⟩ := b5e _ _ hfit (y - j) l hl ho
       rw [List.getElem?_drop, show j + (y - j) = y by omega] at hc0
       rw [c8f hcn] at hc0
       simp [leafAt, he', hc0]
      obtain ⟨R2, E2⟩ := R1.storeTop (F' := Fl.emp) W hst hm2 ⟨o, hbo⟩ φ rfl (by
        show RN _ _ φ (ν1 id none) _ _ _
        rw [hbo]
        simp only [c2y, true_and] at hnew
        exact hnew)
       (fun x y hl => by
        rcases hreg x y _ hl with ⟨rfl, hy, _, hl'⟩ | ⟨_, hl'⟩
        ·exact hold y _ hy hl' (.inr rfl)
        ·exact hl')
       (fun x y => x = i ∧ j ≤ y ∧ y < j + (leaves v').length) (fun x y => kfS y) (fun κ => F1 κ ≠ none)
       (fun x y s2 es2 hl => by
        rcases hreg x y _ hl with ⟨rfl, hy, hy2, hl'⟩ | ⟨hn, hl'⟩
        ·obtain ⟨y', hy', _, _, _, hc⟩ := hleaf (y - j) _ hl'
         rcases hc with ⟨hno, _⟩ | ⟨s3, es3, φ3, heq, _, _, hf, hno3, hsl⟩
         ·simp [isOwn] at hno
         ·cases heq
          rw [show j + (y - j) = y by omega] at hf
          refine .inr ⟨⟨rfl, hy, hy2⟩, hold y _ hy hl' (.inl rfl), by rw [hf]; simp, _, hf, ?_, rfl, rfl, hno3⟩
          simp only [φ]
          rw [if_pos (by first | exact ⟨rfl, hy, hy2⟩ | exact ⟨trivial, hy, hy2⟩), hf]
        ·exact .inl ⟨hn, hl', hφ x y hn⟩)
       (fun x y x' y' s2 e2 s3 e3 _ _ hf1 hf2 hσ => ⟨hf1.1.trans hf2.1.symm, b7z _ _ hσ⟩)
       (fun hm => by
        funext q
        simp only [φ]
        split
        ·rename_i x y
         split
         ·rename_i hxy
          have hk' : y - j < (leaves v').length := by omega
          obtain ⟨y', _, _, _, _, hc⟩ := hleaf (y - j) _ (List.getElem?_eq_getElem hk')
          rcases hc with ⟨_, hf, _⟩ | ⟨_, _, _, _, _, hm0, _⟩
          ·rw [show j + (y - j) = y by omega] at hf
           rw [hf]
          ·omega
         ·rfl
        ·rfl)
       (fun κ hk => rfl) (fun κ hk => by
        have : F1 κ = none := Classical.byContradiction fun h => hk h
        rw [this]; rfl)
      exact ⟨D1, _, _, run hbd, R2⟩
     ·cases hq
    | some q =>
     obtain ⟨x0, y0⟩ := q
     have himm' : M3 (es'.set i (putAt e' j v')) = true := by rcases himm with h | h; cases h; exact h
     simp only [reduceCtorEq, if_false] at hleaf h2
     obtain ⟨s0, es0, hst, hp⟩ := J9 h3
     change st1 (.h id) = _ at hst
     rcases hp with ⟨hq, _⟩ | ⟨x1, y1, hq, hl0⟩
     ·cases hq
     ·cases hq
      have hF1 : F1 = Fl.emp := by
       funext κ
       rcases hFw κ with h | ⟨k, rfl, hk⟩
       ·exact h
       ·have hk' : k < (leaves v').length := by omega
        obtain ⟨y', _, _, _, _, hc⟩ := hleaf k _ (List.getElem?_eq_getElem hk')
        rcases hc with ⟨_, hf, _⟩ | ⟨_, _, _, _, _, hm0, _⟩
        ·exact hf
        ·cases hm0
      subst hF1
      cases he0 : es0[x0]? with
      | none => simp [leafAt, he0] at hl0
      | some ep =>
       simp only [wrNode, Rd.ev_read, hst, he0, hl0, Rd.ev_ret, Option.some.injEq] at h5
       subst h5
       obtain ⟨hnew, hbd⟩ := RN.put (φ' := ν1 id) (v := v') (j := j) (xs := vv.cells.toList) hRN hw he' (by omega) (by omega) hxs
        (fun x y s2 es2 _ hn => rfl)
        (fun x y s2 es2 b2 o2 hl2 hb2 => by have := hnoO (by simp) _ _ _ hl2; simp [immLeaf] at this)
        (fun k l hk => by
         obtain ⟨y, hy, h1', h2', h3', hc⟩ := hleaf k l hk
         refine ⟨y, hy, ?_⟩
         rcases hc with ⟨hno, _, hrs⟩ | ⟨_, _, _, _, _, hm0, _⟩
         ·cases l with
          | own => simp [isOwn] at hno
          | _ => exact hrs
         ·cases hm0)
       obtain ⟨R2, E2⟩ := R1.storeSub W hst hm2 hl0 ⟨o, hbo⟩ (S5 (bx := (m' = 3 ∨ m' = 4)) (s := s0) he0 hl0 (l := .own s' (es'.set i (putAt e' j v'))) (by intro gs hh; cases hh))
        (by simp) (by rw [hbo]; exact hnew.unbx (by rintro ⟨h, _⟩; cases h)) (V6 himm')
       exact ⟨D1, _, _, run hbd, R2⟩
   ·simp at h
  ·simp at h
 ·simp at h
theorem b6y (hOA : ∀ b, O0 b → A b) (R : Rel Γ w0 A O0 ν0 N Fl.emp D st ν tm w) {T : Nat} {a v : AV} {st' : St} {va vv : Value} (hs : b1y v = true)
  (h : (b8i P T a v).go C st = some ((), st')) (ha : RS st ν w D a va) (hv : RS st ν w D v vv) :
  ∃ D' ν' w', (Instr.storeAt T va vv).run P w = .ok () w' ∧ Rel Γ w0 A O0 ν0 N Fl.emp D' st' ν' tm w' := by
 unfold b8i at h
 split at h
 ·rename_i id g i j
  simp only [RW.go_bind, RW.go_up, Option.bind_eq_some_iff, Option.map_eq_some_iff] at h
  obtain ⟨_, ⟨⟨m, s, es⟩, h1, rfl⟩, h⟩ := h
  rw [G3] at h1
  simp only at h
  split at h
  ·rename_i hm
   subst hm
   split at h
   ·rename_i e he
    simp only [RW.go_bind, RW.go_up, RW.go_wr, C1, Option.bind_eq_some_iff, Option.map_eq_some_iff] at h
    obtain ⟨_, ⟨_, h4, rfl⟩, h6⟩ := h
    obtain ⟨hsz, hj⟩ := C4 h4
    cases h6
    obtain ⟨id2, g2, off, n, rfl⟩ : ∃ id2 g2 off n, v = .sl id2 g2 none off n := by
     cases v with
     | sl id2 g2 p off n => cases p with
      | none => exact ⟨_, _, _, _, rfl⟩
      | some => simp [b1y] at hs
     | _ => simp [b1y] at hs
    obtain ⟨⟨x0, cap, rfl, _⟩, _⟩ := hv.sl_inv
    obtain ⟨_, _, _, hptr⟩ := ha.ptr_inv
    obtain ⟨b, o, hbo, rfl⟩ := hptr _ _ _ h1
    obtain ⟨hRN, _⟩ := R.node h1
    rw [hbo] at hRN
    have hRN2 := hRN
    obtain ⟨c, ety, hw, hcsz, _, _, _⟩ := hRN2
    have hi : i < es.length := (List.getElem?_eq_some_iff.1 he).1
    have W : WStep Γ w (Y8 w b (S2 c (o + i * s + j) [.slice x0 n cap]) ety) b := a2u hw (R6 _ _ _)
    obtain ⟨s0, es0, hst, hp⟩ := J9 h1
    change st (.h id) = _ at hst
    rcases hp with ⟨_, rfl, rfl⟩ | ⟨_, _, hq, _⟩
    ·have hput := RN.put (φ' := ν id) (v := .sl id2 g2 none off n) (j := j) (xs := [.slice x0 n cap]) hRN hw he Nat.one_pos (by show j + 1 ≤ _; exact hj) rfl
      (fun x y s2 es2 _ hn => rfl)
      (fun x y s2 es2 b2 o2 hl2 hb2 => R.hlt hst (p := some (x, y)) (fun q hq => by cases hq; exact ⟨s2, es2, hl2⟩) hb2)
      (fun k l hk => by
       match k, hk with
       | 0, hk =>
        cases hk
        exact ⟨_, rfl, hv⟩)
     obtain ⟨hnew, hbd⟩ := hput
     have hreg : ∀ x y l, leafAt (es0.set i (putAt e j (.sl id2 g2 none off n))) x y = some l → l = .sl id2 g2 none off n ∨ leafAt es0 x y = some l := by
      intro x y l hl
      rw [V9 hi] at hl
      split at hl
      ·rename_i hx
       subst hx
       rw [a9a (e := e) (v := .sl id2 g2 none off n) (j := j) Nat.one_pos (by show j + 1 ≤ _; exact hj)] at hl
       split at hl
       ·rename_i hy
        have h0 : y - j = 0 := by have : y < j + 1 := hy.2; omega
        rw [h0] at hl
        cases hl
        exact .inl rfl
       ·rename_i hy; exact .inr (by simpa [leafAt, he] using hl)
      ·rename_i hx; exact .inr hl
     obtain ⟨inf, hinf, hinfs⟩ := a3x (P := P) (T := T) (by omega)
     obtain ⟨R2, E2⟩ := R.storeTop (F' := Fl.emp) W hst (by decide) ⟨o, hbo⟩ (ν id) rfl (by
       rw [hbo]
       simpa only [c2y, true_and] using hnew)
      (fun x y hl => by
       rcases hreg x y _ hl with h | h
       ·cases h
       ·exact h)
      (fun _ _ => False) (fun _ _ => (0, 0, 0)) (fun _ => False)
      (fun x y s2 es2 hl => by
       rcases hreg x y _ hl with h | h
       ·cases h
       ·exact .inl ⟨fun h => h, h, rfl⟩)
      (fun x y x' y' s2 e2 s3 e3 _ _ hf1 => hf1.elim) (fun _ => rfl) (fun κ hk => hk.elim) (fun κ _ => rfl)
     refine ⟨D, _, _, ?_, R2⟩
     have hcs : ¬ (Value.slice x0 n cap).cells.size ≠ inf.size := by rw [← hinfs, hsz]; exact fun h => h rfl
     simp only [Instr.storeAt, Instr.sureAddr, storeVar, Sem.run_bind, Sem.run_pure, Result.andThen_ok, I3 hinf, hcs, if_false]
     have hone : ∀ y ∈ (Value.slice x0 n cap).cells.toList, y.oneCell' = true := by
      intro y hy
      have : y = .slice x0 n cap := by simpa [Value.cells] using hy
      subst this; rfl
     rw [V4 P _ 0 c w hw hone (by simpa [Value.cells] using hbd)]
     simp [Value.cells]
    ·cases hq
   ·simp at h
  ·exact a4p hOA R h ha hv
 ·exact a4p hOA R h ha hv
end
section
variable {P : Program} {C : Caller} {Γ : Env} {w0 : World} {A O0 : Nat → Prop} {ν0 : Nu} {N : Nat} {D : Nat → Prop} {st : St} {ν : Nu} {tm : Array Value} {w : World}
def ELS (F : Fl) (σ : Nat → Nat → FK) (st : St) (ν : Nu) (w : World) (D : Nat → Prop) (s : Nat) (es : List AV) (c : Array Value) : Prop :=
 (∀ e ∈ es, (leaves e).length = s) ∧ es.length * s ≤ c.size ∧
 (∀ i j l, leafAt es i j = some l → ∃ v, c[i * s + j]? = some v ∧ ((isOwn l = false ∧ RS st ν w D l v) ∨
  ∃ s' es' φ, l = .own s' es' ∧ F (σ i j) = some ⟨φ, s', es'⟩ ∧ Z0 es' ∧ SlV w (φ none) s' 0 es'.length v)) ∧
 (∀ i j i' j' s1 e1 s2 e2, leafAt es i j = some (.own s1 e1) → leafAt es i' j' = some (.own s2 e2) → σ i j = σ i' j' → i = i' ∧ j = j')
open Classical in
theorem Rel.newObj {F : Fl} (R : Rel Γ w0 A O0 ν0 N F D st ν tm w) {id g m0 s : Nat} {es : List AV} {c : Array Value} {σ : Nat → Nat → FK} (ety : TypeId)
  (hg : F9 (st (.h id)) < g) (hm0 : m0 = 0 ∨ m0 = 3 ∧ es.length ≤ 1) (hel : ELS F σ st ν w D s es c) {κ0 : FK} (hκ0 : F κ0 = none) :
  ∃ ν', Rel Γ w0 A O0 ν0 N Fl.emp D (st.upd (.h id) (.obj g m0 s es)) ν' tm (w.alloc (.cells c ety (0, 0))) ∧
   Ext st ν w (st.upd (.h id) (.obj g m0 s es)) ν' (w.alloc (.cells c ety (0, 0))) ∧ ν' id none = some (w.heap.size, 0) := by
 obtain ⟨hs, hsz, hl, hσ⟩ := hel
 have W := c2b (Γ := Γ) w (.cells c ety (0, 0))
 let φ : Path → Base := fun q => match q with
  | some (x, y) => (match F (σ x y) with | some f => f.φ none | none => none)
  | none => some (w.heap.size, 0)
 have hφ : ∀ i j s' es' φ0, F (σ i j) = some ⟨φ0, s', es'⟩ → φ (some (i, j)) = φ0 none := by
  intro i j s' es' φ0 h
  simp only [φ]; rw [h]
 have hflt : ∀ κ f b o, F κ = some f → f.φ none = some (b, o) → b < w.heap.size := fun κ f b o hf hb =>
  R.live_lt (k := .fl κ none) ⟨_, hf, fun _ hq => by cases hq⟩ (by simp only [baseOf, hf]; exact hb)
 have R1 := R.compose (F' := fun k => if k = κ0 then some ⟨φ, s, es⟩ else none) W (fun κ => F κ ≠ none) κ0 (.inl hκ0) ⟨φ, s, es⟩ none (fun i j => (σ i j, none)) ⟨0, rfl⟩ (.inl ⟨rfl, Nat.le_refl _⟩)
  (by
   refine ⟨c, ety, heap_alloc_new w _, by simpa using hsz, fun _ => hs, fun h => h.elim, fun i j l hl' => ?_⟩
   obtain ⟨v, hv, hc⟩ := hl i j l hl'
   refine ⟨v, by simpa using hv, ?_⟩
   rcases hc with ⟨hno, hr⟩ | ⟨s', es', φ0, rfl, hf, hno, hsl⟩
   ·cases l with
    | own => simp [isOwn] at hno
    | _ => exact hr
   ·exact SlV.mono hsl (hφ i j s' es' φ0 hf) (fun b o hb => W.cs b (hflt _ _ b o hf hb)))
  (fun i j s' es' hl' => by
   obtain ⟨v, hv, hc⟩ := hl i j _ hl'
   rcases hc with ⟨hno, hr⟩ | ⟨s1, es1, φ0, heq, hf, hno, hsl⟩
   ·simp [isOwn] at hno
   ·cases heq
    refine ⟨by rw [hf]; simp, ⟨_, hf, (fun _ hq => by cases hq), (hφ i j _ _ φ0 hf).symm, ?_⟩, hno⟩
    exact (R.flos _ _ hf).top)
  (fun i j i' j' s1 e1 s2 e2 h1 h2 h => hσ i j i' j' s1 e1 s2 e2 h1 h2 (congrArg Prod.fst h))
  (fun kt h => by cases h) (by simp) (fun k hk hkc => by simp [hk]) (fun k hk hkc => by
   have : F k = none := Classical.byContradiction fun h => hkc h
   simp [hk, this])
 obtain ⟨R2, E2⟩ := R1.attach (κ := κ0) (f := ⟨φ, s, es⟩) (by simp) id g hg m0 hm0
 have hF : (Fl.set (fun k => if k = κ0 then some ⟨φ, s, es⟩ else none) κ0 none) = Fl.emp := by
  funext k
  by_cases h : k = κ0 <;> simp [Fl.set, Fl.emp, h]
 rw [hF] at R2
 exact ⟨_, R2, (R.extW W).trans E2, by rw [Nu.set_eq]⟩
theorem c5e (st : St) (ν' : Nu) (w : World) (D : Nat → Prop) (id g m s : Nat) (es : List AV) (b : Nat) (h : ν' id none = some (b, 0)) :
  RS (st.upd (.h id) (.obj g m s es)) ν' w D (.ptr id g none 0 0) (.pointer (some ⟨b, 0, none⟩)) := by
 refine .ptr id g none 0 0 _ ⟨_, _, rfl⟩ (by rw [St.upd_eq]; exact Nat.le_refl _) (fun _ _ _ _ _ _ hq => by cases hq) fun m' s' es' hn => ?_
 exact ⟨b, 0, h, by simp⟩
theorem c8d (st : St) (ν' : Nu) (w : World) (D : Nat → Prop) (id g m s : Nat) (es : List AV) (b n cap : Nat) (h : ν' id none = some (b, 0)) (hc : n ≤ cap) (hs : cap * s ≤ csize w b) :
  RS (st.upd (.h id) (.obj g m s es)) ν' w D (.sl id g none 0 n) (.slice (some ⟨b, 0, none⟩) n cap) := by
 refine .sl id g none 0 n _ ⟨_, _, rfl, hc⟩ (by rw [St.upd_eq]; exact Nat.le_refl _) (fun _ _ _ _ _ _ hq => by cases hq) fun m' s' es' hn => ?_
 unfold nodeAt at hn
 rw [St.upd_eq] at hn
 simp only [if_true, Option.some.injEq, Prod.mk.injEq] at hn
 obtain ⟨_, rfl, _⟩ := hn
 exact ⟨_, cap, rfl, hc, .inr ⟨b, 0, h, by simp, by simpa using hs⟩⟩
theorem a3n (w : World) (c : Array Value) (ety : TypeId) : csize (w.alloc (.cells c ety (0, 0))) w.heap.size = c.size := by
 unfold csize; rw [heap_alloc_new]
theorem c4y {T : Nat} (ho : L5 (tyS P T).zero = true) : ∃ (i : TypeInfo) (v : Value), P.info? T = some i ∧ i.zero = some v ∧ (tyS P T).zero = ofConst v ∧
  (tyS P T).size = i.size ∧ (tyS P T).bytes = i.bytes ∧ RL st ν w D (leaves (tyS P T).zero) v.cells.toList := by
 unfold tyS at ho ⊢
 cases hi : P.info? T with
 | none => simp [hi, L5] at ho
 | some i =>
  simp only [hi] at ho ⊢
  cases hz : i.zero with
  | none => simp [hz, L5] at ho
  | some v =>
   simp only [hz] at ho ⊢
   exact ⟨i, v, rfl, hz, rfl, rfl, rfl, b9m (.data _ _ (RV.ofConst v)) ho⟩
theorem RS.notOwn {a : AV} {v : Value} (h : RS st ν w D a v) : isOwn a = false := by
 cases h with
 | data _ _ h => cases h <;> rfl
 | _ => rfl
theorem c5b {a : AV} {v : Value} {F : Fl} {σ : Nat → Nat → FK} (h : RL st ν w D (leaves a) v.cells.toList) : ELS F σ st ν w D (leaves a).length [a] v.cells := by
 refine ⟨fun e he => by simp at he; rw [he], by have := h.1; simp at this; simp; omega, fun i j l hl => ?_, fun i j i' j' s1 e1 s2 e2 h1 _ _ => ?_⟩
 ·cases i with
  | succ i => simp [leafAt] at hl
  | zero =>
   simp only [leafAt, List.getElem?_cons_zero, Option.bind_some] at hl
   obtain ⟨x, hx, hr⟩ := h.2 j l hl
   exact ⟨x, by simpa using hx, .inl ⟨hr.notOwn, hr⟩⟩
 ·cases i with
  | succ i => simp [leafAt] at h1
  | zero =>
   simp only [leafAt, List.getElem?_cons_zero, Option.bind_some] at h1
   obtain ⟨x, hx, hr⟩ := h.2 j _ h1
   have := hr.notOwn
   simp [isOwn] at this
theorem c2a (R : Rel Γ w0 A O0 ν0 N Fl.emp D st ν tm w) {T d g : Nat} (hg : F9 (st (.h d)) < g) (hsz : (leaves (tyS P T).zero).length = (tyS P T).size) (ho : L5 (tyS P T).zero = true) :
  ∃ ν' w', (Instr.alloc T true (.tuple #[])).run P w = .ok (.pointer (some ⟨w.heap.size, 0, none⟩)) w' ∧
   Rel Γ w0 A O0 ν0 N Fl.emp D (st.upd (.h d) (.obj g 3 (tyS P T).size [(tyS P T).zero])) ν' tm w' ∧
   RS (st.upd (.h d) (.obj g 3 (tyS P T).size [(tyS P T).zero])) ν' w' D (.ptr d g none 0 0) (.pointer (some ⟨w.heap.size, 0, none⟩)) := by
 obtain ⟨i, v, hi, hz, hzv, _, _, hr⟩ := c4y (P := P) (st := st) (ν := ν) (w := w) (D := D) ho
 have hel : ELS Fl.emp (fun _ _ => (0, 0, 0)) st ν w D (tyS P T).size [(tyS P T).zero] v.cells := by
  have := c5b (F := Fl.emp) (σ := fun _ _ => (0, 0, 0)) hr
  rwa [hsz] at this
 obtain ⟨ν', R', E, hν⟩ := R.newObj (m0 := 3) T hg (.inr ⟨rfl, by simp⟩) hel (κ0 := (0, 0, 0)) rfl
 refine ⟨ν', _, ?_, R', c5e _ _ _ _ _ _ _ _ _ _ hν⟩
 simp only [Instr.alloc, Sem.run_bind, a1u hi hz, Result.andThen_ok]
 simp [newVar, newRow]
theorem c5j (hOA : ∀ b, O0 b → A b) (R : Rel Γ w0 A O0 ν0 N Fl.emp D st ν tm w) {d : Nat} {cs : List AV} {v v' : AV} {st1 : St} {vv : Value} (T : Nat)
  (h : (absorb 3 d 0 cs v).go C st = some (v', st1)) (hv : RS st ν w D v vv) {g : Nat} (hg : F9 (st1 (.h d)) < g) :
  ∃ D' ν' w', (Instr.box T vv).run P w = .ok (.pointer (some ⟨w.heap.size, 0, none⟩)) w' ∧
   Rel Γ w0 A O0 ν0 N Fl.emp D' (st1.upd (.h d) (.obj g 3 (leaves v).length [v'])) ν' tm w' ∧
   RS (st1.upd (.h d) (.obj g 3 (leaves v).length [v'])) ν' w' D' (.ptr d g none 0 0) (.pointer (some ⟨w.heap.size, 0, none⟩)) := by
 obtain ⟨F1, D1, ν1, R1, E1, hD1, hlen, hcl, hFo, hFw, hshape, hleaf⟩ := a2e hOA b7z R (fun _ _ => rfl) h hv
 have hRL : RL st1 ν1 w D1 (leaves v') vv.cells.toList := by
  refine ⟨by simp [hcl, hlen], fun i l hl => ?_⟩
  obtain ⟨y, hy, _, _, _, hc⟩ := hleaf i l hl
  rcases hc with ⟨_, _, hr⟩ | ⟨_, _, _, _, _, hm0, _⟩
  ·exact ⟨y, hy, hr⟩
  ·cases hm0
 have hF1 : F1 = Fl.emp := by
  funext κ
  rcases hFw κ with h | ⟨k, rfl, hk⟩
  ·exact h
  ·have hk' : k < (leaves v').length := by omega
   obtain ⟨y', _, _, _, _, hc⟩ := hleaf k _ (List.getElem?_eq_getElem hk')
   rcases hc with ⟨_, hf, _⟩ | ⟨_, _, _, _, _, hm0, _⟩
   ·exact hf
   ·cases hm0
 subst hF1
 have hel : ELS Fl.emp (fun _ _ => (0, 0, 0)) st1 ν1 w D1 (leaves v).length [v'] vv.cells := by
  have := c5b (F := Fl.emp) (σ := fun _ _ => (0, 0, 0)) hRL
  rwa [hlen] at this
 obtain ⟨ν', R', E, hν⟩ := R1.newObj (m0 := 3) T hg (.inr ⟨rfl, by simp⟩) hel (κ0 := (0, 0, 0)) rfl
 exact ⟨D1, ν', _, by simp [Instr.box, newVar, newRow], R', c5e _ _ _ _ _ _ _ _ _ _ hν⟩
theorem b5s {T n : Nat} {v : Value} {F : Fl} {σ : Nat → Nat → FK} (hr : RL st ν w D (leaves (tyS P T).zero) v.cells.toList) (hsz : (leaves (tyS P T).zero).length = (tyS P T).size)
  (zs : Array Value) (hzs : n * (tyS P T).size ≠ 0 → zs = v.cells) :
  ELS F σ st ν w D (tyS P T).size (List.replicate n (tyS P T).zero) ((Array.range (n * (tyS P T).size)).map (zs[· % zs.size]!)) := by
 have hown : ∀ i j l, leafAt (List.replicate n (tyS P T).zero) i j = some l → i < n ∧ (leaves (tyS P T).zero)[j]? = some l := by
  intro i j l hl
  unfold leafAt at hl
  rw [List.getElem?_replicate] at hl
  split at hl
  ·rename_i hi; exact ⟨hi, hl⟩
  ·simp at hl
 have hcs : v.cells.size = (tyS P T).size := by have := hr.1; simp at this; omega
 refine ⟨fun e he => by rw [List.eq_of_mem_replicate he]; exact hsz, by simp, fun i j l hl => ?_, fun i j i' j' s1 e1 s2 e2 h1 _ _ => ?_⟩
 ·obtain ⟨hi, hl'⟩ := hown i j l hl
  obtain ⟨x, hx, hrx⟩ := hr.2 j l hl'
  have hj : j < (tyS P T).size := by rw [← hsz]; exact (List.getElem?_eq_some_iff.1 hl').1
  have hb : i * (tyS P T).size + j < n * (tyS P T).size := by
   have := Nat.mul_le_mul_right (tyS P T).size (show i + 1 ≤ n from hi)
   rw [Nat.add_mul] at this; omega
  refine ⟨x, ?_, .inl ⟨hrx.notOwn, hrx⟩⟩
  have hz := hzs (by omega)
  subst hz
  have hx' : v.cells[j]? = some x := by simpa using hx
  have hjc : j < v.cells.size := by omega
  rw [Array.getElem?_map, Array.getElem?_range, if_pos hb]
  simp only [Option.map_some, Option.some.injEq]
  have hmod : (i * (tyS P T).size + j) % v.cells.size = j := by
   rw [hcs, Nat.add_comm, Nat.add_mul_mod_self_right, Nat.mod_eq_of_lt hj]
  rw [hmod, getElem!_pos v.cells j hjc]
  rw [Array.getElem?_eq_getElem hjc] at hx'
  exact Option.some.inj hx'
 ·obtain ⟨_, hl'⟩ := hown i j _ h1
  obtain ⟨x, hx, hrx⟩ := hr.2 j _ hl'
  have := hrx.notOwn
  simp [isOwn] at this
theorem b0v (R : Rel Γ w0 A O0 ν0 N Fl.emp D st ν tm w) {T E id n : Nat} {k k' : IntKind} (hE : (tyS P T).k = .slice E) (hn : n ≤ I8) (hb : (tyS P E).bytes ≤ 4096)
  (hsz : (leaves (tyS P E).zero).length = (tyS P E).size) (ho : L5 (tyS P E).zero = true) {g : Nat} (hg : F9 (st (.h id)) < g) :
  ∃ ν' w', (Instr.makeSlice T (.int k n) (.int k' n)).run P w = .ok (.slice (some ⟨w.heap.size, 0, none⟩) n n) w' ∧
   Rel Γ w0 A O0 ν0 N Fl.emp D (st.upd (.h id) (.obj g 0 (tyS P E).size (List.replicate n (tyS P E).zero))) ν' tm w' ∧
   RS (st.upd (.h id) (.obj g 0 (tyS P E).size (List.replicate n (tyS P E).zero))) ν' w' D (.sl id g none 0 n) (.slice (some ⟨w.heap.size, 0, none⟩) n n) := by
 obtain ⟨i, v, hi, hz, hzv, hs1, hb1, hr⟩ := c4y (P := P) (st := st) (ν := ν) (w := w) (D := D) ho
 let zs : Array Value := if n * i.size = 0 then #[] else v.cells
 have hel := b5s (P := P) (F := Fl.emp) (σ := fun _ _ => (0, 0, 0)) (n := n) hr hsz zs (fun h => by simp only [zs]; rw [if_neg (by rw [← hs1]; exact h)])
 obtain ⟨ν', R', Ex, hν⟩ := R.newObj (m0 := 0) E hg (.inl rfl) hel (κ0 := (0, 0, 0)) rfl
 refine ⟨ν', _, ?_, R', c8d _ _ _ _ _ _ _ _ _ _ _ _ hν (Nat.le_refl _) (by rw [a3n]; simp)⟩
 have hw : IntKind.i64.wrap (n : Int) = n := a2i ⟨by have : IntKind.i64.min = -9223372036854775808 := rfl; omega, by have : IntKind.i64.max = 9223372036854775807 := rfl; have h5 : n ≤ 4294967296 := hn; omega⟩
 have hbig : ¬ ((i.bytes : Int) * (n : Int) > 2 ^ 48) := by
  have h1 : i.bytes * n ≤ 4096 * 4294967296 := Nat.mul_le_mul (hb1 ▸ hb) hn
  have h2 : ((i.bytes * n : Nat) : Int) = (i.bytes : Int) * (n : Int) := Int.natCast_mul _ _
  omega
 have hneg : ¬ ((n : Int) < 0) := by omega
 simp only [Instr.makeSlice, asInt, asIntOf, Sem.run_bind, Sem.run_pure, Result.andThen_ok, F8 (K3 hE), b1i hi, hw, hbig, hneg, I3 hi]
 simp only [decide_false, Bool.or_false, Bool.false_eq_true, if_false, Int.lt_irrefl, gt_iff_lt, Sem.run_bind, run_askRoom, Result.andThen_ok, I3 hi, Int.toNat_natCast]
 by_cases h0 : n * i.size = 0
 ·simp only [h0, if_true, Sem.run_pure, Result.andThen_ok, Sem.run_bind, newRow, run_newObj]
  simp [zs, h0, hs1]
 ·simp only [h0, if_false, Sem.run_bind, a1u hi hz, Sem.run_pure, Result.andThen_ok, newRow, run_newObj]
  simp [zs, h0, hs1]
end
section
variable {P : Program} {C : Caller} {Γ : Env} {w0 : World} {A O0 : Nat → Prop} {ν0 : Nu} {N : Nat} {D : Nat → Prop} {st : St} {ν : Nu} {tm : Array Value} {w : World}
def kfQ (q : Nat) (k : Nat) : FK := (q, k, 0)
theorem c4u (q : Nat) : ∀ i j, kfQ q i = kfQ q j → i = j := by
 intro i j h
 simp only [kfQ, Prod.mk.injEq] at h
 exact h.2.1
theorem b4l (hOA : ∀ b, O0 b → A b) {mk s : Nat} {ds : List Deferred} : ∀ (parts : List (Nat × Operand)) (q : Nat) (es : List AV) (c : Array Value) (F : Fl) (D : Nat → Prop) (st : St) (ν : Nu) (σ : Nat → Nat → FK)
   (es' : List AV) (st' : St), Rel Γ w0 A O0 ν0 N F D st ν tm w → (∀ κ : FK, q ≤ κ.1 → F κ = none) → ELS F σ st ν w D s es c →
   (∀ i j s1 e1, leafAt es i j = some (.own s1 e1) → (σ i j).1 < q) → (X4 mk s es parts).go C st = some (es', st') →
   ∃ F' D' ν' σ' c', Instr.fill (fun i => some (i * s, s)) c (parts.map fun x => (x.1, (Act.mk tm ds).eval x.2)) = some c' ∧
    Rel Γ w0 A O0 ν0 N F' D' st' ν' tm w ∧ Ext st ν w st' ν' w ∧ ELS F' σ' st' ν' w D' s es' c' ∧ (∀ κ : FK, q + parts.length ≤ κ.1 → F' κ = none) := by
 intro parts
 induction parts with
 | nil =>
  intro q es c F D st ν σ es' st' R hF hel hq h
  simp only [X4, RW.go_pure, Option.some.injEq, Prod.mk.injEq] at h
  obtain ⟨rfl, rfl⟩ := h
  exact ⟨F, D, ν, σ, c, rfl, R, Ext.refl _ _ _, hel, by simpa using hF⟩
 | cons p parts ih =>
  obtain ⟨i, x⟩ := p
  intro q es c F D st ν σ es' st' R hF hel hq h
  simp only [X4, RW.go_bind, RW.go_up, C1, Option.bind_eq_some_iff, Option.map_eq_some_iff] at h
  obtain ⟨_, ⟨v, h1, rfl⟩, _, ⟨_, h2, rfl⟩, ⟨v', st1⟩, h3, h4⟩ := h
  obtain ⟨hvs, hi⟩ := C4 h2
  have hrv := D7 h1 R (ds := ds)
  obtain ⟨F1, D1, ν1, R1, E1, hD1, hlen, hcl, hFo, hFw, hshape, hleaf⟩ := a2e hOA (c4u q) R (fun k _ => hF _ (Nat.le_refl _)) h3 hrv
  obtain ⟨e1, e2, e3, e4⟩ := hel
  have hcells : ((Act.mk tm ds).eval x).cells.size = s := by rw [hcl, hvs]
  have hoff : i * s + s ≤ c.size := by
   have := Nat.mul_le_mul_right s (show i + 1 ≤ es.length from hi)
   rw [Nat.add_mul] at this; omega
  let σ1 : Nat → Nat → FK := fun x y => if x = i then kfQ q y else σ x y
  have hnew : ELS F1 σ1 st1 ν1 w D1 s (es.set i v') (S2 c (i * s) ((Act.mk tm ds).eval x).cells.toList) := by
   refine ⟨fun e he => ?_, by rw [R6]; simpa using e2, fun a b l hl => ?_, fun a b a' b' s1 x1 s2 x2 h1' h2' he => ?_⟩
   ·rcases List.mem_or_eq_of_mem_set he with h | h
    ·exact e1 e h
    ·subst h; rw [hlen, hvs]
   ·rw [V9 hi] at hl
    rw [a2c _ _ _ _ (by simp only [Array.length_toList]; omega)]
    simp only [Array.length_toList, hcells]
    split at hl
    ·rename_i ha
     subst ha
     obtain ⟨y, hy, hok⟩ := hleaf b l hl
     have hb : b < s := by have := (List.getElem?_eq_some_iff.1 hl).1; omega
     refine ⟨y, by rw [if_pos (by omega), show a * s + b - a * s = b by omega]; exact hy, ?_⟩
     obtain ⟨_, _, _, hc⟩ := hok
     rcases hc with ⟨hno, _, hr⟩ | ⟨s1, es1, φ, rfl, _, _, hf, hno, hsl⟩
     ·exact .inl ⟨hno, hr⟩
     ·refine .inr ⟨s1, es1, φ, rfl, ?_, hno, hsl⟩
      simp only [σ1, if_true]
      rw [Nat.zero_add] at hf
      exact hf
    ·rename_i ha
     obtain ⟨y, hy, hc⟩ := e3 a b l hl
     have hb : b < s := by
      unfold leafAt at hl
      cases hae : es[a]? with
      | none => simp [hae] at hl
      | some ea =>
       simp only [hae, Option.bind_some] at hl
       have := (List.getElem?_eq_some_iff.1 hl).1
       rw [e1 ea (List.mem_of_getElem? hae)] at this
       exact this
     refine ⟨y, ?_, ?_⟩
     ·rw [if_neg]
      ·exact hy
      ·rintro ⟨a1, a2⟩
       rcases Nat.lt_or_gt_of_ne ha with h' | h'
       ·have := Nat.mul_le_mul_right s (show a + 1 ≤ i by omega)
        rw [Nat.add_mul] at this; omega
       ·have := Nat.mul_le_mul_right s (show i + 1 ≤ a by omega)
        rw [Nat.add_mul] at this; omega
     ·rcases hc with ⟨hno, hr⟩ | ⟨s1, es1, φ, rfl, hf, hno, hsl⟩
      ·exact .inl ⟨hno, hr.same E1 hD1⟩
      ·refine .inr ⟨s1, es1, φ, rfl, ?_, hno, hsl⟩
       simp only [σ1, ha, if_false]
       rw [hFo (σ a b) (fun k _ e => ?_)]
       ·exact hf
       ·have := hq _ _ _ _ hl
        rw [e] at this
        simp only [kfQ] at this
        omega
   ·have key : ∀ a b s1 x1, leafAt (es.set i v') a b = some (.own s1 x1) → (a ≠ i → leafAt es a b = some (.own s1 x1)) := by
     intro a b s1 x1 hl ha
     rw [V9 hi, if_neg ha] at hl
     exact hl
    by_cases ha : a = i <;> by_cases ha' : a' = i
    ·simp only [σ1, ha, ha', if_true] at he
     exact ⟨ha.trans ha'.symm, c4u _ _ _ he⟩
    ·simp only [σ1, ha, ha', if_true, if_false] at he
     have := hq _ _ _ _ (key _ _ _ _ h2' ha')
     rw [← he] at this
     simp only [kfQ] at this; omega
    ·simp only [σ1, ha, ha', if_true, if_false] at he
     have := hq _ _ _ _ (key _ _ _ _ h1' ha)
     rw [he] at this
     simp only [kfQ] at this; omega
    ·simp only [σ1, ha, ha', if_false] at he
     exact e4 _ _ _ _ _ _ _ _ (key _ _ _ _ h1' ha) (key _ _ _ _ h2' ha') he
  have hF1 : ∀ κ : FK, q + 1 ≤ κ.1 → F1 κ = none := by
   intro κ hκ
   rw [hFo κ (fun k _ e => by rw [e] at hκ; simp only [kfQ] at hκ; omega)]
   exact hF κ (by omega)
  have hq1 : ∀ a b s1 x1, leafAt (es.set i v') a b = some (.own s1 x1) → (σ1 a b).1 < q + 1 := by
   intro a b s1 x1 hl
   simp only [σ1]
   split
   ·simp [kfQ]
   ·rename_i ha
    rw [V9 hi, if_neg ha] at hl
    have := hq _ _ _ _ hl
    omega
  obtain ⟨F2, D2, ν2, σ2, c2, f1, R2, E2, hel2, hF2⟩ := ih (q + 1) _ _ F1 D1 st1 ν1 σ1 es' st' R1 hF1 hnew hq1 h4
  refine ⟨F2, D2, ν2, σ2, c2, ?_, R2, E1.trans E2, hel2, fun κ hκ => hF2 κ (by simp only [List.length_cons] at hκ; omega)⟩
  simp only [List.map_cons, Instr.fill]
  have hcond : ((((Act.mk tm ds).eval x).cells.size ≠ s || i * s + ((Act.mk tm ds).eval x).cells.size > c.size) : Bool) = false := by
   simp [hcells]; omega
  simp only [ne_eq, decide_not] at hcond ⊢
  rw [hcond]
  simp only [Bool.false_eq_true, if_false]
  rw [a8m]
  exact f1
theorem a8x (hOA : ∀ b, O0 b → A b) (R : Rel Γ w0 A O0 ν0 N Fl.emp D st ν tm w) {ds : List Deferred} {T E n mk : Nat} {parts : Array (Nat × Operand)} {es : List AV} {st1 : St}
  (hE : (tyS P T).k = .slice E) (hn : n * (tyS P E).size ≤ 16777216) (hsz : (leaves (tyS P E).zero).length = (tyS P E).size) (ho : L5 (tyS P E).zero = true)
  (h : (X4 mk (tyS P E).size (List.replicate n (tyS P E).zero) parts.toList).go C st = some (es, st1)) {id g : Nat} (hg : F9 (st1 (.h id)) < g) (hs0 : 0 < (tyS P E).size) :
  ∃ D' ν' w', (Instr.buildSlice T n (parts.map fun x => (x.1, (Act.mk tm ds).eval x.2))).run P w = .ok (.slice (some ⟨w.heap.size, 0, none⟩) n n) w' ∧
   Rel Γ w0 A O0 ν0 N Fl.emp D' (st1.upd (.h id) (.obj g 0 (tyS P E).size es)) ν' tm w' ∧
   RS (st1.upd (.h id) (.obj g 0 (tyS P E).size es)) ν' w' D' (.sl id g none 0 n) (.slice (some ⟨w.heap.size, 0, none⟩) n n) := by
 obtain ⟨i, v, hi, hz, hzv, hs1, hb1, hr⟩ := c4y (P := P) (st := st) (ν := ν) (w := w) (D := D) ho
 let zs : Array Value := if n * i.size = 0 then #[] else v.cells
 have hel := b5s (P := P) (F := Fl.emp) (σ := fun _ _ => (0, 0, 0)) (n := n) hr hsz zs (fun h => by simp only [zs]; rw [if_neg (by rw [← hs1]; exact h)])
 obtain ⟨F1, D1, ν1, σ1, c1, f1, R1, E1, hel1, hF1⟩ := b4l hOA (ds := ds) parts.toList 1 _ _ Fl.emp D st ν _ es st1 R (fun _ _ => rfl) hel
  (fun i j s1 e1 hl => by decide) h
 have hc1 : n * (tyS P E).size ≤ c1.size := by
  have hsize : ∀ (ps : List (Nat × Value)) (c0 c' : Array Value), Instr.fill (fun i => some (i * (tyS P E).size, (tyS P E).size)) c0 ps = some c' → c'.size = c0.size := by
   intro ps
   induction ps with
   | nil => intro c0 c' h; simp only [Instr.fill, Option.some.injEq] at h; rw [h]
   | cons p ps ih =>
    obtain ⟨a, y⟩ := p
    intro c0 c' h
    simp only [Instr.fill] at h
    split at h
    ·cases h
    ·rw [a8m] at h
     rw [ih _ _ h, R6]
  rw [hsize _ _ _ f1]
  simp
 obtain ⟨ν', R', Ex, hν⟩ := R1.newObj (m0 := 0) E hg (.inl rfl) hel1 (κ0 := (1 + parts.toList.length, 0, 0)) (hF1 _ (Nat.le_refl _))
 refine ⟨D1, ν', _, ?_, R', c8d _ _ _ _ _ _ _ _ _ _ _ _ hν (Nat.le_refl _) (by rw [a3n]; exact hc1)⟩
 have hbig : ¬ (n * i.size > 2 ^ 24) := by rw [← hs1]; omega
 rw [hs1] at f1
 simp only [Instr.buildSlice, Sem.run_bind, F8 (K3 hE), Result.andThen_ok, I3 hi, hbig, if_false, Sem.run_pure]
 by_cases h0 : n * i.size = 0
 ·simp only [h0, if_true, Sem.run_pure, Result.andThen_ok, Sem.run_bind, newRow, run_newObj]
  have : zs = #[] := by simp only [zs, h0, if_true]
  rw [this, h0] at f1
  simp only [Array.toList_map, f1]
  simp
 ·simp only [h0, if_false, Sem.run_bind, a1u hi hz, Sem.run_pure, Result.andThen_ok, newRow, run_newObj]
  have : zs = v.cells := by simp only [zs, h0, if_false]
  rw [this] at f1
  simp only [Array.toList_map, f1]
  simp
theorem Rel.rename (R : Rel Γ w0 A O0 ν0 N Fl.emp D st ν tm w) {id X g g' m s : Nat} {es : List AV} (h : st (.h id) = .obj g m s es) (hm : m = 0 ∨ m = 3) (hne : id ≠ X)
  (hg' : F9 (st (.h X)) < g') :
  Rel Γ w0 A O0 ν0 N Fl.emp D ((st.upd (.h id) (.dead g)).upd (.h X) (.obj g' m s es)) (ν.set X (ν id)) tm w ∧
   Ext st ν w ((st.upd (.h id) (.dead g)).upd (.h X) (.obj g' m s es)) (ν.set X (ν id)) w := by
 have E0 : Ext st ν w (st.upd (.h id) (.dead g)) ν w := R.extUpd (by rw [h]; exact Nat.le_refl _) (by intro _ _ _ _ e; cases e) (fun _ _ => rfl) (fun _ _ => rfl)
 have hob : ∀ i g1 m1 s1 es1, ((st.upd (.h id) (.dead g)).upd (.h X) (.obj g' m s es)) (.h i) = .obj g1 m1 s1 es1 →
   (i = X ∧ g1 = g' ∧ m1 = m ∧ s1 = s ∧ es1 = es) ∨ (i ≠ X ∧ i ≠ id ∧ st (.h i) = .obj g1 m1 s1 es1) := by
  intro i g1 m1 s1 es1 hi
  by_cases e : i = X
  ·subst e; rw [St.upd_eq] at hi; cases hi; exact .inl ⟨rfl, rfl, rfl, rfl, rfl⟩
  ·rw [J4 _ _ _ e] at hi
   by_cases e2 : i = id
   ·subst e2; rw [St.upd_eq] at hi; cases hi
   ·rw [J4 _ _ _ e2] at hi; exact .inr ⟨e, e2, hi⟩
 have E : Ext st ν w ((st.upd (.h id) (.dead g)).upd (.h X) (.obj g' m s es)) (ν.set X (ν id)) w := by
  refine ⟨fun i => ?_, fun i g1 m1 s1 es1 hg hi => ?_⟩
  ·by_cases e : i = X
   ·subst e; rw [St.upd_eq]; exact Nat.le_of_lt hg'
   ·rw [J4 _ _ _ e]; exact E0.stamps i
  ·rcases hob _ _ _ _ _ hi with ⟨rfl, rfl, _⟩ | ⟨e1, e2, hi'⟩
   ·omega
   ·exact ⟨m1, es1, hi', by rw [Nu.set_ne _ _ e1], fun _ _ _ => rfl, fun x y => ⟨fun z => z, fun s2 es2 z => .inr ⟨es2, z, by rw [Nu.set_ne _ _ e1], fun _ _ _ => rfl⟩⟩⟩
 have hL : ∀ a v, RS st ν w D a v → RS ((st.upd (.h id) (.dead g)).upd (.h X) (.obj g' m s es)) (ν.set X (ν id)) w D a v := fun a v h => h.same E (fun _ hb => hb)
 refine ⟨R.ghost (fun i => by rw [P8, P8]) E (fun _ hb => hb) ?_ ?_ (fun k f hf => by cases hf) (fun k => match k with | .nd i p => if i = X then .nd id p else .nd i p | .fl k p => .fl k p) ?_ ?_ (fun b hb hd => (hd hb).elim) ?_, E⟩
 ·intro i g1 m1 s1 es1 hi
  rcases hob _ _ _ _ _ hi with ⟨rfl, rfl, rfl, rfl, rfl⟩ | ⟨e1, e2, hi'⟩
  ·rw [Nu.set_eq]
   exact (R.objs id g m1 s1 es1 h).mono rfl (fun _ _ _ _ _ => rfl) (fun _ _ _ => rfl) (fun _ _ _ _ _ _ _ _ => rfl) hL
  ·rw [Nu.set_ne _ _ e1]
   exact (R.objs i g1 m1 s1 es1 hi').mono rfl (fun _ _ _ _ _ => rfl) (fun _ _ _ => rfl) (fun _ _ _ _ _ _ _ _ => rfl) hL
 ·intro i g1 s1 es1 hi
  rcases hob _ _ _ _ _ hi with ⟨rfl, rfl, rfl, rfl, rfl⟩ | ⟨e1, e2, hi'⟩
  ·omega
  ·rw [Nu.set_ne _ _ e1]; exact R.frozen i g1 s1 es1 hi'
 ·intro k b o hl hb
  cases k with
  | fl k p => obtain ⟨f, h1, _⟩ := hl; cases h1
  | nd i p =>
   obtain ⟨g1, m1, s1, es1, h1, h2, h3⟩ := hl
   rcases hob _ _ _ _ _ h1 with ⟨rfl, rfl, rfl, rfl, rfl⟩ | ⟨e1, e2, hi'⟩
   ·simp only [baseOf, Nu.set_eq] at hb
    simp only [if_true]
    exact ⟨o, ⟨g, m1, s1, es1, h, h2, h3⟩, hb⟩
   ·simp only [baseOf, Nu.set_ne _ _ e1] at hb
    simp only [e1, if_false]
    exact ⟨o, ⟨g1, m1, s1, es1, hi', h2, h3⟩, hb⟩
 ·intro k1 k2 l1 l2 he
  cases k1 with
  | fl k p => obtain ⟨f, h1, _⟩ := l1; cases h1
  | nd i p =>
   cases k2 with
   | fl k p => obtain ⟨f, h1, _⟩ := l2; cases h1
   | nd j q =>
    obtain ⟨g1, m1, s1, es1, h1, _⟩ := l1
    obtain ⟨g2, m2, s2, es2, h2, _⟩ := l2
    rcases hob _ _ _ _ _ h1 with ⟨rfl, _⟩ | ⟨e1, e2, _⟩ <;> rcases hob _ _ _ _ _ h2 with ⟨rfl, _⟩ | ⟨e3, e4, _⟩
    ·simp only [if_true] at he; cases he; rfl
    ·simp only [if_true, e3, if_false] at he; cases he; exact (e4 rfl).elim
    ·simp only [if_true, e1, if_false] at he; cases he; exact (e2 rfl).elim
    ·simp only [e1, e3, if_false] at he; exact he
 ·intro i g1 m1 s1 es1 hi hmm
  rcases hob _ _ _ _ _ hi with ⟨rfl, rfl, rfl, rfl, rfl⟩ | ⟨e1, e2, hi'⟩
  ·omega
  ·rw [Nu.set_ne _ _ e1]; exact R.io i g1 m1 s1 es1 hi' hmm
theorem Rel.newEmpty (R : Rel Γ w0 A O0 ν0 N Fl.emp D st ν tm w) {X g' s : Nat} (hg' : F9 (st (.h X)) < g') :
  Rel Γ w0 A O0 ν0 N Fl.emp D (st.upd (.h X) (.obj g' 0 s [])) (ν.set X fun _ => none) tm w ∧ Ext st ν w (st.upd (.h X) (.obj g' 0 s [])) (ν.set X fun _ => none) w := by
 have E : Ext st ν w (st.upd (.h X) (.obj g' 0 s [])) (ν.set X fun _ => none) w :=
  R.extUpd (Nat.le_of_lt hg') (by intro _ _ _ _ e; cases e; exact hg') (fun i hi => Nu.set_ne _ _ hi) (fun _ _ => rfl)
 have hL : ∀ a v, RS st ν w D a v → RS (st.upd (.h X) (.obj g' 0 s [])) (ν.set X fun _ => none) w D a v := fun a v h => h.same E (fun _ hb => hb)
 have hob : ∀ i g1 m1 s1 es1, i ≠ X → st.upd (.h X) (.obj g' 0 s []) (.h i) = .obj g1 m1 s1 es1 → st (.h i) = .obj g1 m1 s1 es1 := by
  intro i g1 m1 s1 es1 e hi
  rw [J4 _ _ _ e] at hi; exact hi
 refine ⟨R.ghost (fun i => P8 _ _ _ _) E (fun _ hb => hb) ?_ ?_ (fun k f hf => by cases hf) id ?_ (fun _ _ _ _ h => h) (fun b hb hd => (hd hb).elim) ?_, E⟩
 ·intro i g1 m1 s1 es1 hi
  by_cases e : i = X
  ·subst e
   rw [St.upd_eq] at hi
   cases hi
   rw [Nu.set_eq]
   exact ⟨rfl, fun i j s' es' hl => by simp [leafAt] at hl⟩
  ·rw [Nu.set_ne _ _ e]
   exact (R.objs i g1 m1 s1 es1 (hob _ _ _ _ _ e hi)).mono rfl (fun _ _ _ _ _ => rfl) (fun _ _ _ => rfl) (fun _ _ _ _ _ _ _ _ => rfl) hL
 ·intro i g1 s1 es1 hi
  by_cases e : i = X
  ·subst e; rw [St.upd_eq] at hi; cases hi
  ·rw [Nu.set_ne _ _ e]; exact R.frozen i g1 s1 es1 (hob _ _ _ _ _ e hi)
 ·intro k b o hl hb
  cases k with
  | fl k p => obtain ⟨f, h1, _⟩ := hl; cases h1
  | nd i p =>
   obtain ⟨g1, m1, s1, es1, h1, h2, h3⟩ := hl
   by_cases e : i = X
   ·subst e; simp only [baseOf, Nu.set_eq] at hb; cases hb
   ·simp only [baseOf, Nu.set_ne _ _ e] at hb
    exact ⟨o, ⟨g1, m1, s1, es1, hob _ _ _ _ _ e h1, h2, h3⟩, hb⟩
 ·intro i g1 m1 s1 es1 hi hmm
  by_cases e : i = X
  ·subst e; rw [St.upd_eq] at hi; cases hi; omega
  ·rw [Nu.set_ne _ _ e]; exact R.io i g1 m1 s1 es1 (hob _ _ _ _ _ e hi) hmm
theorem Rel.cutObj (R : Rel Γ w0 A O0 ν0 N Fl.emp D st ν tm w) {id g s : Nat} {es : List AV} (h : st (.h id) = .obj g 0 s es) (n : Nat) :
  Rel Γ w0 A O0 ν0 N Fl.emp D (st.upd (.h id) (.obj g 0 s (es.take n))) ν tm w ∧ Ext st ν w (st.upd (.h id) (.obj g 0 s (es.take n))) ν w := by
 have E : Ext st ν w (st.upd (.h id) (.obj g 0 s (es.take n))) ν w :=
  R.extSame h (fun _ _ => rfl) (fun _ _ => rfl) rfl fun i j => ⟨fun hn => J1 hn, fun s2 es2 ho => .inr ⟨es2, J1 ho, rfl⟩⟩
 have hL : ∀ a v, RS st ν w D a v → RS (st.upd (.h id) (.obj g 0 s (es.take n))) ν w D a v := fun a v h => h.same E (fun _ hb => hb)
 have hob : ∀ i g1 m1 s1 es1, i ≠ id → st.upd (.h id) (.obj g 0 s (es.take n)) (.h i) = .obj g1 m1 s1 es1 → st (.h i) = .obj g1 m1 s1 es1 := by
  intro i g1 m1 s1 es1 e hi
  rw [J4 _ _ _ e] at hi; exact hi
 refine ⟨R.ghost (fun i => P8 _ _ _ _) E (fun _ hb => hb) ?_ ?_ (fun k f hf => by cases hf) (fun k => k) ?_ (fun _ _ _ _ h => h) (fun b hb hd => (hd hb).elim) ?_, E⟩
 ·intro i g1 m1 s1 es1 hi
  by_cases e : i = id
  ·subst e
   rw [St.upd_eq] at hi
   cases hi
   exact ((R.objs i g 0 s es h).cut n).mono rfl (fun _ _ _ _ _ => rfl) (fun _ _ _ => rfl) (fun _ _ _ _ _ _ _ _ => rfl) hL
  ·exact (R.objs i g1 m1 s1 es1 (hob _ _ _ _ _ e hi)).mono rfl (fun _ _ _ _ _ => rfl) (fun _ _ _ => rfl) (fun _ _ _ _ _ _ _ _ => rfl) hL
 ·intro i g1 s1 es1 hi
  by_cases e : i = id
  ·subst e; rw [St.upd_eq] at hi; cases hi
  ·exact R.frozen i g1 s1 es1 (hob _ _ _ _ _ e hi)
 ·intro k b o hl hb
  cases k with
  | fl k p => obtain ⟨f, h1, _⟩ := hl; cases h1
  | nd i p =>
   obtain ⟨g1, m1, s1, es1, h1, h2, h3⟩ := hl
   by_cases e : i = id
   ·subst e
    rw [St.upd_eq] at h1
    cases h1
    exact ⟨o, ⟨g, 0, s, es, h, h2, a5n h3⟩, hb⟩
   ·exact ⟨o, ⟨g1, m1, s1, es1, hob _ _ _ _ _ e h1, h2, h3⟩, hb⟩
 ·intro i g1 m1 s1 es1 hi hmm
  by_cases e : i = id
  ·subst e; rw [St.upd_eq] at hi; cases hi; omega
  ·exact R.io i g1 m1 s1 es1 (hob _ _ _ _ _ e hi) hmm
theorem K4 {id g m s : Nat} {es : List AV} (h : nodeAt st id g none = some (m, s, es)) : st (.h id) = .obj g m s es := by
 obtain ⟨s0, es0, h1, h2⟩ := J9 h
 rcases h2 with ⟨_, rfl, rfl⟩ | ⟨i, j, hq, _⟩
 ·exact h1
 ·cases hq
theorem W0 (st : St) (id g m s : Nat) (es : List AV) : nodeAt (st.upd (.h id) (.obj g m s es)) id g none = some (m, s, es) := by
 unfold nodeAt; rw [St.upd_eq]; simp
theorem b7q (R : Rel Γ w0 A O0 ν0 N Fl.emp D st ν tm w) {T X : Nat} {v u : AV} {st' : St} {val : Value} (h : (a2p P T X v).go C st = some (u, st')) (hv : RS st ν w D v val) :
  ∃ ν', Rel Γ w0 A O0 ν0 N Fl.emp D st' ν' tm w ∧ RS st' ν' w D u val := by
 have same : st' = st → u = v → ∃ ν', Rel Γ w0 A O0 ν0 N Fl.emp D st' ν' tm w ∧ RS st' ν' w D u val := by
  rintro rfl rfl; exact ⟨ν, R, hv⟩
 unfold a2p at h
 split at h
 ·simp only [RW.go_bind, RW.go_up, RW.go_wr, RW.go_pure, S1, Option.map_some, Option.bind_some, Option.bind_eq_some_iff, Option.map_eq_some_iff] at h
  obtain ⟨_, ⟨E, h1, rfl⟩, h2⟩ := h
  cases h2
  obtain ⟨R', E'⟩ := R.newEmpty (X := X) (s := (tyS P E).size) (Nat.lt_succ_self _)
  obtain ⟨a, rfl⟩ := hv.nil_inv
  refine ⟨_, R', .sl X _ none 0 0 _ ⟨a, 0, rfl, Nat.le_refl _⟩ (by simp only [St.upds]; rw [St.upd_eq]; exact Nat.le_refl _) (fun _ _ _ _ _ _ hq => by cases hq) fun m' s' es' hn => ?_⟩
  exact ⟨a, 0, rfl, Nat.le_refl _, .inl rfl⟩
 ·rename_i id g n
  simp only [RW.go_bind, RW.go_up, Option.bind_eq_some_iff, Option.map_eq_some_iff] at h
  obtain ⟨_, ⟨⟨m, s, es⟩, h1, rfl⟩, h⟩ := h
  rw [G3] at h1
  have hst := K4 h1
  simp only at h
  split at h
  ·rename_i hm
   subst hm
   simp only [RW.go_bind, RW.go_up, C1, Option.bind_eq_some_iff, Option.map_eq_some_iff] at h
   obtain ⟨_, ⟨_, h2, rfl⟩, h⟩ := h
   have h2 := C4 h2
   obtain ⟨⟨a, cap, rfl, hcap⟩, _, _, hsl⟩ := hv.sl_inv
   split at h
   ·rename_i hX
    subst hX
    simp only [RW.go_bind, RW.go_wr, RW.go_pure, Option.bind_some, Option.some.injEq, Prod.mk.injEq] at h
    obtain ⟨rfl, rfl⟩ := h
    obtain ⟨R', E'⟩ := R.cutObj hst n
    exact ⟨ν, R', hv.same E' (fun _ hb => hb)⟩
   ·rename_i hX
    simp only [RW.go_bind, RW.go_up, RW.go_wr, RW.go_pure, S1, Option.map_some, Option.bind_some, Option.some.injEq, Prod.mk.injEq] at h
    obtain ⟨rfl, rfl⟩ := h
    have hκ : Fl.emp (0, 0, 0) = none := rfl
    obtain ⟨R1, E1⟩ := R.takeObj hst hκ n
    obtain ⟨R2, E2⟩ := R1.attach (κ := (0, 0, 0)) (Fl.set_eq _ _ _) X (F9 ((st.upd (.h id) (.dead g)) (.h X)) + 1) (Nat.lt_succ_self _) 0 (.inl rfl)
    rw [Fl.set_set, Fl.set_none _ hκ] at R2
    refine ⟨_, R2, .sl X _ none 0 n _ ⟨a, cap, rfl, hcap⟩ ?_ (fun _ _ _ _ _ _ hq => by cases hq) fun m2 s2 es2 hn => ?_⟩
    ·simp only [St.upds]
     rw [St.upd_eq]
     exact Nat.le_refl _
    ·simp only [St.upds] at hn
     rw [W0] at hn
     cases hn
     rw [Nu.set_eq]
     exact hsl _ _ _ h1
  ·simp only [RW.go_pure, Option.some.injEq, Prod.mk.injEq] at h
   exact same h.2.symm h.1.symm
 ·rename_i id g i j
  simp only [RW.go_bind, RW.go_up, Option.bind_eq_some_iff, Option.map_eq_some_iff] at h
  obtain ⟨_, ⟨⟨m, s, es⟩, h1, rfl⟩, h⟩ := h
  rw [G3] at h1
  have hst := K4 h1
  simp only at h
  split at h
  ·rename_i hm
   obtain ⟨rfl, hX, _⟩ := hm
   simp only [RW.go_bind, RW.go_up, RW.go_wr, RW.go_pure, S1, Option.map_some, Option.bind_some, Option.some.injEq, Prod.mk.injEq] at h
   obtain ⟨rfl, rfl⟩ := h
   obtain ⟨hsh, _, _, hptr⟩ := hv.ptr_inv
   have hXs : (st.upd (.h id) (.dead g)) (.h X) = st (.h X) := J4 _ _ _ (Ne.symm hX)
   obtain ⟨R', E'⟩ := R.rename (X := X) (g' := F9 (st (.h X)) + 1) hst (.inr rfl) hX (Nat.lt_succ_self _)
   simp only [St.upds, hXs]
   refine ⟨_, R', .ptr X _ none i j _ hsh ?_ (fun _ _ _ _ _ _ hq => by cases hq) fun m2 s2 es2 hn => ?_⟩
   ·rw [St.upd_eq]; exact Nat.le_refl _
   ·rw [W0] at hn
    cases hn
    rw [Nu.set_eq]
    exact hptr _ _ _ h1
  ·simp only [RW.go_pure, Option.some.injEq, Prod.mk.injEq] at h
   exact same h.2.symm h.1.symm
 ·simp only [RW.go_pure, Option.some.injEq, Prod.mk.injEq] at h
  exact same h.2.symm h.1.symm
end
section
variable {P : Program} {C : Caller} {Γ : Env} {w0 : World} {A O0 : Nat → Prop} {ν0 : Nu} {N : Nat} {D : Nat → Prop} {st : St} {ν : Nu} {tm : Array Value} {w : World}
def SlS (w : World) (L : AV → Value → Prop) (φ : Path → Base) (s : Nat) (xs : List AV) (va : Value) : Prop :=
 ∃ a cap, va = .slice a xs.length cap ∧ xs.length ≤ cap ∧ (∀ e ∈ xs, (leaves e).length = s) ∧
  (xs ≠ [] → ∃ b o, a = some ⟨b, o, none⟩ ∧ ∀ i j l, leafAt xs i j = some l → ∃ v, w.cell? ⟨b, o + i * s + j, none⟩ = some v ∧ S0 w L φ i j l v)
theorem c1h {φ : Path → Base} {i j : Nat} {l : AV} {v : Value} (h : RS st ν w D l v) : S0 w (RS st ν w D) φ i j l v := by
 have := h.notOwn
 cases l <;> first | exact h | simp [isOwn] at this
theorem O4 {s : Nat} {xs : List AV} (h : ∀ e ∈ xs, (leaves e).length = s) {i j : Nat} {l : AV} (hl : leafAt xs i j = some l) : i < xs.length ∧ j < s := by
 unfold leafAt at hl
 cases he : xs[i]? with
 | none => simp [he] at hl
 | some e =>
  simp only [he, Option.bind_some] at hl
  have h1 := (List.getElem?_eq_some_iff.1 hl).1
  rw [h e (List.mem_of_getElem? he)] at h1
  exact ⟨(List.getElem?_eq_some_iff.1 he).1, h1⟩
theorem SlS.load {φ : Path → Base} {L : AV → Value → Prop} {s : Nat} {xs : List AV} {va : Value} (h : SlS w L φ s xs va) :
  ∃ vs : List Value, (Builtin.firstCells s xs.length va).run P w = .ok vs.toArray w ∧ vs.length = xs.length * s ∧
   ∀ i j l, leafAt xs i j = some l → ∃ v, vs[i * s + j]? = some v ∧ S0 w L φ i j l v := by
 obtain ⟨a, cap, rfl, hc, hs, hx⟩ := h
 by_cases hes : xs = []
 ·subst hes
  refine ⟨[], ?_, by simp, fun i j l hl => by simp [leafAt] at hl⟩
  cases a with
  | none => simp [Builtin.firstCells]
  | some a => simp [Builtin.firstCells, loadCells, loadCellsFrom]
 ·obtain ⟨b, o, rfl, hl⟩ := hx hes
  have hcell : ∀ k, k < xs.length * s → ∃ x, w.cell? ⟨b, o + k, none⟩ = some x := by
   intro k hk
   have h1 := a1o xs hs k
   rw [List.getElem?_eq_getElem (by rw [X7 xs hs]; exact hk)] at h1
   obtain ⟨x, hx1, hx2⟩ := hl _ _ _ h1.symm
   refine ⟨x, ?_⟩
   rw [← hx1]
   congr 2
   have := Nat.div_add_mod k s
   rw [Nat.mul_comm] at this
   omega
  refine ⟨(List.range (xs.length * s)).map fun k => (w.cell? ⟨b, o + k, none⟩).getD Go.undef, ?_, by simp, fun i j l hij => ?_⟩
  ·exact a8p w b o (xs.length * s) _ fun j hj => by
    obtain ⟨x, h1⟩ := hcell j hj
    rw [h1]; rfl
  ·obtain ⟨v, hv, hr⟩ := hl i j l hij
   obtain ⟨hi, hj⟩ := O4 hs hij
   have hk : i * s + j < xs.length * s := by
    have := Nat.mul_le_mul_right s (show i + 1 ≤ xs.length from hi)
    rw [Nat.add_mul] at this; omega
   refine ⟨v, ?_, hr⟩
   rw [List.getElem?_map, List.getElem?_range hk]
   simp only [Option.map_some, ← Nat.add_assoc, hv, Option.getD_some]
theorem c3r {φ : Path → Base} {s : Nat} {xs : List AV} {va : Value} (h : RV w D (.list xs) va) (hs : ∀ e ∈ xs, (leaves e).length = s) : SlS w (RS st ν w D) φ s xs va := by
 cases h with
 | list _ a cap b o s' c hcap ha hls hc hl =>
  refine ⟨a, cap, rfl, hcap, hs, fun hne => ?_⟩
  obtain ⟨rfl, _, _⟩ := ha hne
  obtain ⟨e, he⟩ := List.exists_mem_of_ne_nil xs hne
  obtain rfl : s' = s := by rw [← hls e he, hs e he]
  exact ⟨b, o, rfl, fun i j l hx => ⟨c i j, hc i j l hx, c1h (.data _ _ (hl i j l hx))⟩⟩
theorem b9x {φ : Path → Base} {base : Base} {s n : Nat} {es : List AV} {v : Value} {L : AV → Value → Prop} (hRN : RN w L φ base False s es) (hv : SlV w base s 0 n v)
  (hle : n ≤ es.length) : SlS w L φ s (es.take n) v := by
 obtain ⟨a, cap, rfl, h1, h2⟩ := hv
 have hlen : (es.take n).length = n := by simp; omega
 cases base with
 | none =>
  have he : es = [] := hRN
  subst he
  simp only [List.length_nil, Nat.le_zero] at hle
  subst hle
  exact ⟨a, cap, rfl, h1, by simp, fun h => (h (by simp)).elim⟩
 | some q =>
  obtain ⟨b, o⟩ := q
  have hsz : ∀ e ∈ es, (leaves e).length = s := by
   obtain ⟨c, ety, k1, k2, k3, _, k4⟩ := hRN
   exact k3 (fun h => h)
  refine ⟨a, cap, by rw [hlen], by omega, fun e he => hsz e (List.mem_of_mem_take he), fun hne => ?_⟩
  have hn : 0 < n := by rw [← hlen]; exact List.length_pos_iff.2 hne
  rcases h2 with h2 | ⟨b', o', hbo, ha, hsz⟩
  ·omega
  ·cases hbo
   refine ⟨b, o, by simpa using ha, fun i j l hl => hRN.cell (J1 hl)⟩
theorem c5p {φ φ' : Path → Base} {base : Base} {s off n : Nat} {es : List AV} {v : Value} (hRN : RN w (RS st ν w D) φ base False s es) (hv : SlV w base s off n v)
  (hle : off + n ≤ es.length) (himm : M3 ((es.drop off).take n) = true) : SlS w (RS st ν w D) φ' s ((es.drop off).take n) v := by
 obtain ⟨a, cap, rfl, h1, h2⟩ := hv
 have hlen : ((es.drop off).take n).length = n := by simp; omega
 have hsz : ∀ e ∈ es, (leaves e).length = s := by
  cases base with
  | none => have he : es = [] := hRN; subst he; simp
  | some q =>
   obtain ⟨c, ety, k1, k2, k3, _, k4⟩ := hRN
   exact k3 (fun h => h)
 refine ⟨a, cap, by rw [hlen], by omega, fun e he => hsz e (List.mem_of_mem_drop (List.mem_of_mem_take he)), fun hne => ?_⟩
 have hn : 0 < n := by rw [← hlen]; exact List.length_pos_iff.2 hne
 rcases h2 with h2 | ⟨b, o, hbo, ha, hsz'⟩
 ·omega
 ·subst hbo
  have hsub : ∀ i j l, leafAt ((es.drop off).take n) i j = some l → leafAt es (off + i) j = some l := by
   intro i j l hl
   have := J1 hl
   unfold leafAt at this ⊢
   rwa [List.getElem?_drop] at this
  refine ⟨b, o + off * s, ha, fun i j l hl => ?_⟩
  obtain ⟨v, hv, hr⟩ := hRN.cell (hsub i j l hl)
  refine ⟨v, by rw [show o + off * s + i * s + j = o + (off + i) * s + j from by rw [Nat.add_mul]; omega]; exact hv, ?_⟩
  have hi := I6 himm hl
  cases l with
  | own => simp [immLeaf] at hi
  | _ => exact hr
theorem c6j {id g : Nat} {p : Path} {off n m s : Nat} {es ys : List AV} {st' : St} (h : (freeze (.sl id g p off n)).go C st = some (ys, st')) (hn : nodeAt st id g p = some (m, s, es)) :
  (ys = (es.drop off).take n ∨ ys = ((frzL es).drop off).take n) ∧ bxB m p = false := by
 unfold freeze at h
 simp only [RW.go_bind, RW.go_up, C1, Option.bind_eq_some_iff, Option.map_eq_some_iff] at h
 obtain ⟨_, ⟨⟨m', s', es'⟩, h1, rfl⟩, _, ⟨_, h2, rfl⟩, h⟩ := h
 rw [G3] at h1
 rw [hn] at h1
 cases h1
 obtain ⟨hbx, _⟩ := C4 h2
 refine ⟨?_, hbx⟩
 simp only at h
 split at h
 ·simp only [RW.go_pure, Option.some.injEq, Prod.mk.injEq] at h
  exact .inl h.1.symm
 ·simp only [RW.go_bind, RW.go_up, C1, Option.bind_eq_some_iff, Option.map_eq_some_iff] at h
  obtain ⟨_, ⟨_, h3, rfl⟩, h⟩ := h
  cases p with
  | none =>
   simp only [RW.go_bind, RW.go_wr, RW.go_pure, Option.bind_some, Option.some.injEq, Prod.mk.injEq] at h
   exact .inr h.1.symm
  | some q =>
   obtain ⟨i, j⟩ := q
   simp only [RW.go_bind, RW.go_up, S1, Option.map_some, Option.bind_some] at h
   split at h
   ·split at h
    ·simp only [RW.go_bind, RW.go_wr, RW.go_pure, Option.bind_some, Option.some.injEq, Prod.mk.injEq] at h
     exact .inr h.1.symm
    ·simp at h
   ·simp at h
theorem RN.sized {L : AV → Value → Prop} {φ : Path → Base} {base : Base} {s : Nat} {es : List AV} (h : RN w L φ base False s es) : ∀ e ∈ es, (leaves e).length = s := by
 cases base with
 | none => have he : es = [] := h; subst he; simp
 | some q =>
  obtain ⟨c, ety, k1, k2, k3, _, k4⟩ := h
  exact k3 (fun h => h)
def a8g (ys : List AV) : Prop := ∀ i j s1 e1, leafAt ys i j ≠ some (.own s1 e1)
theorem c3u (hOA : ∀ b, O0 b → A b) {F : Fl} {κ : FK} (hκ : F κ = none) (R : Rel Γ w0 A O0 ν0 N F D st ν tm w) {s : Nat} {v : AV} {ys : List AV} {st1 : St} {vb : Value}
  (h : (c4e s v).go C st = some (ys, st1)) (hv : RS st ν w D v vb) :
  ∃ F1 D1 φ, Rel Γ w0 A O0 ν0 N F1 D1 st1 ν tm w ∧ Ext st ν w st1 ν w ∧ (∀ b, D b → D1 b) ∧ SlS w (RS st1 ν w D1) φ s ys vb ∧
   ((F1 = F ∧ a8g ys) ∨ F1 = F.set κ (some ⟨φ, s, ys⟩)) := by
 unfold c4e at h
 split at h
 ·rename_i id g p off n
  simp only [RW.go_bind, RW.go_up, C1, Option.bind_eq_some_iff, Option.map_eq_some_iff] at h
  obtain ⟨_, ⟨⟨m, s', es⟩, h1, rfl⟩, _, ⟨_, h2, rfl⟩, h⟩ := h
  rw [G3] at h1
  have h2 := C4 h2
  obtain ⟨_, _, _, hsl⟩ := hv.sl_inv
  have hsl := hsl _ _ _ h1
  simp only at h h2
  subst h2
  split at h
  ·rename_i hc
   obtain ⟨_, rfl, rfl, rfl, rfl⟩ := hc
   simp only [RW.go_bind, RW.go_wr, RW.go_pure, Option.bind_some, Option.some.injEq, Prod.mk.injEq] at h
   obtain ⟨rfl, rfl⟩ := h
   have hst := K4 h1
   obtain ⟨R1, E1⟩ := R.takeObj hst hκ es.length
   rw [List.take_length] at R1
   have hRN := (R1.flos κ _ (Fl.set_eq _ _ _)).top
   refine ⟨_, D, ν id, R1, E1, fun _ h => h, ?_, .inr rfl⟩
   have := b9x hRN hsl (Nat.le_refl _)
   rwa [List.take_length] at this
  ·simp only [RW.go_bind, RW.go_up, Option.bind_eq_some_iff, Option.map_eq_some_iff] at h
   obtain ⟨_, ⟨ys', h3, rfl⟩, h⟩ := h
   simp only at h
   split at h
   ·rename_i himm
    simp only [RW.go_pure, Option.some.injEq, Prod.mk.injEq] at h
    obtain ⟨rfl, rfl⟩ := h
    simp only [slc, Rd.ev_bind, C1, Rd.ev_ret, Option.bind_eq_some_iff] at h3
    obtain ⟨⟨m2, s2, es2⟩, h4, _, h5, h6⟩ := h3
    rw [G3, h1] at h4
    cases h4
    obtain ⟨hbx, hle⟩ := C4 h5
    cases h6
    exact ⟨F, D, fun _ => none, R, Ext.refl _ _ _, fun _ h => h, c5p ((R.node h1).1.unbx (O1 hbx)) hsl hle himm,
     .inl ⟨rfl, fun i j s1 e1 hl => by have := I6 himm hl; simp [immLeaf] at this⟩⟩
   ·obtain ⟨D1, hD, R1, E1, hr⟩ := R4 hOA hκ R h hv
    obtain ⟨hys, hbx⟩ := c6j h h1
    have hsz := ((R.node h1).1.unbx (O1 hbx)).sized
    have hysz : ∀ e ∈ ys, (leaves e).length = s' := by
     rcases hys with rfl | rfl
     ·exact fun e he => hsz e (List.mem_of_mem_drop (List.mem_of_mem_take he))
     ·intro e he
      have := List.mem_of_mem_drop (List.mem_of_mem_take he)
      rw [M2] at this
      obtain ⟨e0, he0, rfl⟩ := List.mem_map.1 this
      rw [W6, List.length_map]
      exact hsz e0 he0
    refine ⟨F, D1, fun _ => none, R1, E1, hD, c3r hr hysz, .inl ⟨rfl, fun i j s1 e1 hl => ?_⟩⟩
    cases hr with
    | list _ a cap b o s2 c hcap ha hls hc hl2 =>
     have := hl2 i j _ hl
     cases this
 ·rename_i hnsl
  simp only [RW.go_bind, RW.go_up, RW.go_pure, C1, Option.bind_eq_some_iff, Option.map_eq_some_iff] at h
  obtain ⟨_, ⟨ys', h1, rfl⟩, _, ⟨_, h2, rfl⟩, h3⟩ := h
  have h2 := C4 h2
  cases h3
  have hsz := a3r h2
  unfold slc at h1
  split at h1
  ·simp only [Rd.ev_ret, Option.some.injEq] at h1
   subst h1
   have hr := hv.list_inv
   refine ⟨F, D, fun _ => none, R, Ext.refl _ _ _, fun _ h => h, c3r hr hsz, .inl ⟨rfl, fun i j s1 e1 hl => ?_⟩⟩
   cases hr with
   | list _ a cap b o s2 c hcap ha hls hc hl2 =>
    have := hl2 i j _ hl
    cases this
  ·simp only [Rd.ev_ret, Option.some.injEq] at h1
   subst h1
   obtain ⟨a, rfl⟩ := hv.nil_inv
   exact ⟨F, D, fun _ => none, R, Ext.refl _ _ _, fun _ h => h, c3r (RV.list_nil a) hsz, .inl ⟨rfl, fun i j s1 e1 hl => by simp [leafAt] at hl⟩⟩
  ·exact (hnsl _ _ _ _ _ rfl).elim
  ·simp at h1
end
theorem c6y (m : Nat) : ∀ (r c : Nat), c ≤ 2 * m + 1024 → Builtin.growBy m r c ≤ 2 * m + 1024 := by
 intro r
 induction r with
 | zero => intro c h; exact h
 | succ r ih =>
  intro c h
  unfold Builtin.growBy
  split
  ·exact h
  ·exact ih _ (by omega)
theorem b0x {m old : Nat} (h : old < m) : Builtin.nextslicecap m old ≤ 2 * m + 1024 := by
 unfold Builtin.nextslicecap
 split
 ·omega
 ·split
  ·omega
  ·exact c6y m 4 old (by omega)
section
variable {P : Program} {w : World}
theorem a3w {T T' E E' T0 n cap k : Nat} {a : Option Addr} {vb : Value} {i : TypeInfo} {new : Array Value} (hu : P.underlying T = some (.slice E)) (hu' : P.underlying T' = some (.slice E'))
  (hi : P.info? E = some i) (hlen : (Builtin.lenOf vb).run P w = .ok k w) (hnew : (Builtin.firstCells i.size k vb).run P w = .ok new w) (hfit : n + k ≤ cap) {w' : World}
  (hst : ∀ a', a = some a' → (storeCells (a'.add (n * i.size)) new.toList).run P w = .ok () w') (hn : a = none → w' = w) :
  (Builtin.append_ #[T, T'] T0 #[.slice a n cap, vb]).run P w = .ok (.slice a (n + k) cap) w' := by
 cases a with
 | none => simp [Builtin.append_, F8 hu, F8 hu', I3 hi, hlen, hnew, hfit, hn rfl]
 | some a' => simp [Builtin.append_, F8 hu, F8 hu', I3 hi, hlen, hnew, hfit, hst a' rfl]
theorem a8k {T T' E E' T0 n cap k : Nat} {a : Option Addr} {vb : Value} {i : TypeInfo} {old new : Array Value} {z : Value} (hu : P.underlying T = some (.slice E)) (hu' : P.underlying T' = some (.slice E'))
  (hi : P.info? E = some i) (hz0 : i.zero = some z) (hlen : (Builtin.lenOf vb).run P w = .ok k w)
  (hold : ∀ w' : World, w'.heap = w.heap → (Builtin.firstCells i.size n (.slice a n cap)).run P w' = .ok old w')
  (hnew : ∀ w' : World, w'.heap = w.heap → (Builtin.firstCells i.size k vb).run P w' = .ok new w') (hfit : ¬ n + k ≤ cap)
  (hm : n + k ≤ I8) (hb : i.bytes ≤ 4096) :
  ∃ r, (Builtin.append_ #[T, T'] T0 #[.slice a n cap, vb]).run P w =
   .ok (.slice (some ⟨w.heap.size, 0, none⟩) (n + k) (n + k + r)) ({ w with drawn := w.drawn + 1 }.alloc (.cells (old ++ new ++ Builtin.zeroCells z.cells r) E (0, 0))) := by
 refine ⟨w.tape w.drawn (.appendCap (n + k) cap E) % (2 ^ 63 - (n + k)), ?_⟩
 have h1 : ¬ ((9223372036854775807 : Int) < (n : Int) + (k : Int)) := by
  have h5 : n + k ≤ 4294967296 := hm
  omega
 have h2 : ¬ (281474976710656 < Builtin.nextslicecap (n + k) cap * i.bytes) := by
  have h3 := b0x (m := n + k) (old := cap) (by omega)
  have h4 := Nat.mul_le_mul h3 hb
  have h5 : n + k ≤ 4294967296 := hm
  have h6 : (2 * (n + k) + 1024) * 4096 ≤ (2 * 4294967296 + 1024) * 4096 := Nat.mul_le_mul_right _ (by omega)
  omega
 have ho := hold w.drew rfl
 have hn := hnew w.drew rfl
 simp [Builtin.append_, F8 hu, F8 hu', I3 hi, b1i hi, zeroValue, hz0, hlen, hfit, h1, h2, Question.forced, Question.cut, ho, hn, newRow]
end
section
variable {P : Program} {C : Caller} {Γ : Env} {w0 : World} {A O0 : Nat → Prop} {ν0 : Nu} {N : Nat} {D : Nat → Prop} {st : St} {ν : Nu} {tm : Array Value} {w : World}
def κs : FK := (1, 0, 0)
def κd : FK := (2, 0, 0)
def κ0 : FK := (3, 0, 0)
theorem a5m {xs ys : List AV} (i j : Nat) : leafAt (xs ++ ys) i j = if i < xs.length then leafAt xs i j else leafAt ys (i - xs.length) j := by
 unfold leafAt
 rw [List.getElem?_append]
 split <;> rfl
theorem SlS.same {st' : St} {ν' : Nu} {D' : Nat → Prop} {φ : Path → Base} {s : Nat} {xs : List AV} {va : Value} (h : SlS w (RS st ν w D) φ s xs va) (E : Ext st ν w st' ν' w) (hD : ∀ b, D b → D' b) :
  SlS w (RS st' ν' w D') φ s xs va := by
 obtain ⟨a, cap, rfl, h1, h2, h3⟩ := h
 refine ⟨a, cap, rfl, h1, h2, fun hne => ?_⟩
 obtain ⟨b, o, rfl, h4⟩ := h3 hne
 exact ⟨b, o, rfl, fun i j l hl => by
  obtain ⟨v, hv, hr⟩ := h4 i j l hl
  exact ⟨v, hv, hr.mono (fun a v h => h.same E hD) (fun _ _ _ => rfl) (fun _ _ _ _ _ _ => rfl)⟩⟩
def φ2 (n : Nat) (base : Base) (φd φs : Path → Base) : Path → Base
 | none => base
 | some (i, j) => if i < n then φd (some (i, j)) else φs (some (i - n, j))
open Classical in
theorem Rel.joined {F2 : Fl} (R : Rel Γ w0 A O0 ν0 N F2 D st ν tm w) {w' : World} {bt : Nat} (W : WStep Γ w w' bt) {s : Nat} {xs ys : List AV} {φd φs : Path → Base} {c : Array Value} {ety o : Nat}
  (hw' : w'.heap[bt]? = some (.cells c ety (0, 0))) (hsz : o + (xs.length + ys.length) * s ≤ c.size) (hxs : ∀ e ∈ xs, (leaves e).length = s) (hys : ∀ e ∈ ys, (leaves e).length = s)
  (hcx : ∀ i j l, leafAt xs i j = some l → ∃ v, c[o + i * s + j]? = some v ∧ S0 w (RS st ν w D) φd i j l v)
  (hcy : ∀ i j l, leafAt ys i j = some l → ∃ v, c[o + (xs.length + i) * s + j]? = some v ∧ S0 w (RS st ν w D) φs i j l v)
  (hd : a8g xs ∨ F2 κd = some ⟨φd, s, xs⟩) (hs : a8g ys ∨ F2 κs = some ⟨φs, s, ys⟩) (h0 : F2 κ0 = none)
  (hbt : w.heap.size ≤ bt ∨ (F2 κd = some ⟨φd, s, xs⟩ ∧ ∃ o', φd none = some (bt, o'))) {id g : Nat} (hg : F9 (st (.h id)) < g) :
  ∃ ν', Rel Γ w0 A O0 ν0 N Fl.emp D (st.upd (.h id) (.obj g 0 s (xs ++ ys))) ν' tm w' ∧ ν' id none = some (bt, o) := by
 have hlvx : ∀ i j s' es', leafAt xs i j = some (.own s' es') → F2 κd = some ⟨φd, s, xs⟩ := fun i j s' es' hl => hd.resolve_left fun h => h _ _ _ _ hl
 have hlvy : ∀ i j s' es', leafAt ys i j = some (.own s' es') → F2 κs = some ⟨φs, s, ys⟩ := fun i j s' es' hl => hs.resolve_left fun h => h _ _ _ _ hl
 have hltx : ∀ i j s' es' b o, leafAt xs i j = some (.own s' es') → φd (some (i, j)) = some (b, o) → b < w.heap.size := fun i j s' es' b o hl hb =>
  R.live_lt (k := .fl κd (some (i, j))) ⟨_, hlvx _ _ _ _ hl, fun q hq => by cases hq; exact ⟨s', es', hl⟩⟩ (by simp only [baseOf, hlvx _ _ _ _ hl]; exact hb)
 have hlty : ∀ i j s' es' b o, leafAt ys i j = some (.own s' es') → φs (some (i, j)) = some (b, o) → b < w.heap.size := fun i j s' es' b o hl hb =>
  R.live_lt (k := .fl κs (some (i, j))) ⟨_, hlvy _ _ _ _ hl, fun q hq => by cases hq; exact ⟨s', es', hl⟩⟩ (by simp only [baseOf, hlvy _ _ _ _ hl]; exact hb)
 have R1 := R.compose (F' := fun k => if k = κ0 then some ⟨φ2 xs.length (some (bt, o)) φd φs, s, xs ++ ys⟩ else none) W (fun κ => F2 κ ≠ none) κ0 (.inl h0)
  ⟨φ2 xs.length (some (bt, o)) φd φs, s, xs ++ ys⟩ (if w.heap.size ≤ bt then none else some κd)
  (fun i j => if i < xs.length then (κd, some (i, j)) else (κs, some (i - xs.length, j))) ⟨o, rfl⟩
  (by
   by_cases hb : w.heap.size ≤ bt
   ·exact .inl (by simp [hb])
   ·simp only [hb, if_false]
    obtain ⟨h1, o', h2⟩ := hbt.resolve_left hb
    exact .inr ⟨κd, _, o', rfl, by rw [h1]; simp, h1, h2⟩)
  (by
   refine ⟨c, ety, hw', by rw [List.length_append]; exact hsz, fun _ e he => ?_, fun h => h.elim, fun i j l hl => ?_⟩
   ·rcases List.mem_append.1 he with h | h
    ·exact hxs e h
    ·exact hys e h
   ·rw [a5m] at hl
    split at hl
    ·rename_i hi
     obtain ⟨v, hv, hr⟩ := hcx i j l hl
     refine ⟨v, hv, hr.mono (fun _ _ h => h) (fun s' es' e => by simp only [φ2, hi, if_true]) (fun s' es' b' o' e hb => W.cs b' (hltx i j s' es' b' o' (e ▸ hl) hb))⟩
    ·rename_i hi
     obtain ⟨v, hv, hr⟩ := hcy (i - xs.length) j l hl
     rw [show xs.length + (i - xs.length) = i by omega] at hv
     refine ⟨v, hv, ?_⟩
     cases l with
     | own s' es' =>
      have hr : SlV w (φs (some (i - xs.length, j))) s' 0 es'.length v := hr
      exact SlV.mono hr (by simp only [φ2, hi, if_false]) (fun b' o' hb => W.cs b' (hlty _ _ _ _ b' o' hl hb))
     | _ => exact hr)
  (fun i j s' es' hl => by
   simp only at hl
   rw [a5m] at hl
   split at hl
   ·rename_i hi
    have hF := hlvx _ _ _ _ hl
    obtain ⟨q1, q2⟩ := (R.flos _ _ hF).sub _ _ _ _ hl
    simp only [hi, if_true]
    refine ⟨by rw [hF]; simp, ⟨_, hF, fun q hq => by cases hq; exact ⟨s', es', hl⟩, by simp only [φ2, hi, if_true], q1⟩, q2⟩
   ·rename_i hi
    have hF := hlvy _ _ _ _ hl
    obtain ⟨q1, q2⟩ := (R.flos _ _ hF).sub _ _ _ _ hl
    simp only [hi, if_false]
    refine ⟨by rw [hF]; simp, ⟨_, hF, fun q hq => by cases hq; exact ⟨s', es', hl⟩, by simp only [φ2, hi, if_false], q1⟩, q2⟩)
  (fun i j i' j' s1 e1 s2 e2 h1 h2 h => by
   by_cases hi : i < xs.length <;> by_cases hi' : i' < xs.length
   ·simp only [hi, hi', if_true, Prod.mk.injEq, Option.some.injEq, true_and] at h; exact h
   ·simp only [hi, hi', if_true, if_false, Prod.mk.injEq] at h; exact absurd h.1 (by decide)
   ·simp only [hi, hi', if_true, if_false, Prod.mk.injEq] at h; exact absurd h.1 (by decide)
   ·simp only [hi, hi', if_false, Prod.mk.injEq, Option.some.injEq, true_and] at h; omega)
  (fun kt h i j s' es' hl => by
   intro e
   by_cases hi : i < xs.length
   ·simp only [hi, if_true, Prod.mk.injEq] at e; cases e.2
   ·simp only [hi, if_false, Prod.mk.injEq] at e; cases e.2)
  (by simp) (fun k hk hkc => by simp [hk]) (fun k hk hkc => by
   have : F2 k = none := Classical.byContradiction fun h => hkc h
   simp [hk, this])
 obtain ⟨R2, E2⟩ := R1.attach (κ := κ0) (f := ⟨φ2 xs.length (some (bt, o)) φd φs, s, xs ++ ys⟩) (by simp) id g hg 0 (.inl rfl)
 have hF : (Fl.set (fun k => if k = κ0 then some ⟨φ2 xs.length (some (bt, o)) φd φs, s, xs ++ ys⟩ else none) κ0 none) = Fl.emp := by
  funext k
  by_cases h : k = κ0 <;> simp [Fl.set, Fl.emp, h]
 rw [hF] at R2
 exact ⟨_, R2, by rw [Nu.set_eq]; rfl⟩
theorem Rel.dropAll {F2 : Fl} (R : Rel Γ w0 A O0 ν0 N F2 D st ν tm w) : Rel Γ w0 A O0 ν0 N Fl.emp D st ν tm w := by
 have E := Ext.refl st ν w
 refine R.ghost (fun _ => rfl) E (fun _ h => h) R.objs R.frozen (fun k f hf => by cases hf) (fun k => k) (fun k b o hl hb => ?_) (fun _ _ _ _ h => h) (fun b hb hd => (hd hb).elim) R.io
 cases k with
 | nd i p => exact ⟨o, hl, hb⟩
 | fl k p => obtain ⟨f, h1, _⟩ := hl; cases h1
theorem b0h {s n : Nat} {v : Value} {cs : Array Value} {w w' : World} (h : (Builtin.firstCells s n v).run P w = .ok cs w) (hh : w'.heap = w.heap) (hv : ∃ a k cap, v = .slice a k cap)
  (hload : ∀ a k cap, v = .slice (some a) k cap → ∀ j, j < n * s → ∃ x, w.cell? (a.add j) = some x) : (Builtin.firstCells s n v).run P w' = .ok cs w' := by
 obtain ⟨a, k, cap, rfl⟩ := hv
 cases a with
 | none => simpa [Builtin.firstCells] using h
 | some a =>
  simp only [Builtin.firstCells] at h ⊢
  have hc : ∀ j, j < n * s → w.cell? (a.add j) = some ((w.cell? (a.add j)).getD Go.undef) := by
   intro j hj
   obtain ⟨x, hx⟩ := hload a k cap rfl j hj
   rw [hx]; rfl
  rw [run_loadCells w a (n * s) _ hc] at h
  have hc' : ∀ j, j < n * s → w'.cell? (a.add j) = some ((w.cell? (a.add j)).getD Go.undef) := by
   intro j hj
   rw [← hc j hj]
   unfold World.cell?
   rw [hh]
  rw [run_loadCells w' a (n * s) _ hc']
  cases h
  rfl
theorem SlS.load' {φ : Path → Base} {L : AV → Value → Prop} {s : Nat} {xs : List AV} {va : Value} (h : SlS w L φ s xs va) :
  ∃ vs : List Value, (∀ w' : World, w'.heap = w.heap → (Builtin.firstCells s xs.length va).run P w' = .ok vs.toArray w') ∧ vs.length = xs.length * s ∧
   ∀ i j l, leafAt xs i j = some l → ∃ v, vs[i * s + j]? = some v ∧ S0 w L φ i j l v := by
 have h2 := h
 obtain ⟨vs, h1, h3, h4⟩ := h.load (P := P)
 refine ⟨vs, fun w' hw' => b0h h1 hw' ?_ ?_, h3, h4⟩
 ·obtain ⟨a, cap, rfl, _⟩ := h2
  exact ⟨a, _, cap, rfl⟩
 ·obtain ⟨a, cap, rfl, hc, hs, hx⟩ := h2
  intro a' k cap' he j hj
  cases he
  by_cases hes : xs = []
  ·subst hes; simp at hj
  ·obtain ⟨b, o, he, hl⟩ := hx hes
   cases he
   have h5 := a1o xs hs j
   rw [List.getElem?_eq_getElem (by rw [X7 xs hs]; exact hj)] at h5
   obtain ⟨x, hx1, _⟩ := hl _ _ _ h5.symm
   refine ⟨x, ?_⟩
   rw [a0n, ← hx1]
   congr 2
   have := Nat.div_add_mod j s
   rw [Nat.mul_comm] at this
   omega
theorem c3k {es : List AV} (h : a9j es = true) {i j : Nat} {l : AV} (hl : leafAt es i j = some l) : cellLeaf l = true := by
 unfold leafAt at hl
 cases he : es[i]? with
 | none => simp [he] at hl
 | some e =>
  simp only [he, Option.bind_some] at hl
  exact List.all_eq_true.1 (List.all_eq_true.1 h e (List.mem_of_getElem? he)) l (List.mem_of_getElem? hl)
theorem c0m {φ : Path → Base} {i j : Nat} {l : AV} {v : Value} (h : cellLeaf l = true) (hr : S0 w (RS st ν w D) φ i j l v) : v.oneCell' = true := by
 cases l with
 | own s es => obtain ⟨a, cap, rfl, _⟩ := (hr : SlV w _ _ _ _ _); rfl
 | agg => simp [cellLeaf] at h
 | undef => simp [cellLeaf, L5] at h
 | tup => simp [cellLeaf, L5] at h
 | val u => obtain rfl := RS.val_inv hr; exact b6e (by simpa [cellLeaf, L5] using h)
 | nil => obtain ⟨a, rfl⟩ := RS.nil_inv hr; rfl
 | list es => cases RS.list_inv hr with | list _ a cap b o s c => rfl
 | ownp es i j => cases (hr : RS st ν w D _ _) with | data _ _ h => cases h
 | sl id g p off n => obtain ⟨⟨a, cap, rfl, _⟩, _⟩ := RS.sl_inv hr; rfl
 | ptr id g p i j => obtain ⟨⟨a, cap, rfl⟩, _⟩ := RS.ptr_inv hr; rfl
 | ipt e j => cases RS.ipt_inv hr with | ipt _ _ b o c => rfl
 | clo f cs => obtain ⟨vs, rfl, _⟩ := RS.clo_inv hr; rfl
 | obj g m s es => cases (hr : RS st ν w D _ _) with | data _ _ h => cases h
 | dead g => cases (hr : RS st ν w D _ _) with | data _ _ h => cases h
 | ifc => obtain ⟨t, x, rfl⟩ := RS.ifc_inv hr; rfl
 | asl id g i j n => obtain ⟨⟨a, cap, rfl⟩, _⟩ := RS.asl_inv hr; rfl
theorem id' {p : Prop} (h : p) : p := h
theorem b0b {F2 : Fl} (R : Rel Γ w0 A O0 ν0 N F2 D st ν tm w) {T T' T0 E E' s id g : Nat} {xs ys : List AV} {φd φs : Path → Base} {va vb : Value}
  (hT : (tyS P T).k = .slice E) (hT' : (tyS P T').k = .slice E') (hb : (tyS P E).bytes ≤ 4096) (hz : (leaves (tyS P E).zero).length = (tyS P E).size) (hzo : L5 (tyS P E).zero = true)
  (hsE : s = (tyS P E).size) (hx : SlS w (RS st ν w D) φd s xs va)
  (hdst : (xs = [] ∧ ∃ a, va = .slice a 0 0) ∨ (F2 κd = some ⟨φd, s, xs⟩ ∧ SlV w (φd none) s 0 xs.length va))
  (hy : SlS w (RS st ν w D) φs s ys vb) (hsrc : a8g ys ∨ F2 κs = some ⟨φs, s, ys⟩) (h0 : F2 κ0 = none) (hcl : a9j ys = true) (hmax : xs.length + ys.length ≤ I8) (hg : F9 (st (.h id)) < g) :
  ∃ v w' ν', (Builtin.append_ #[T, T'] T0 #[va, vb]).run P w = .ok v w' ∧ Rel Γ w0 A O0 ν0 N Fl.emp D (st.upd (.h id) (.obj g 0 s (xs ++ ys))) ν' tm w' ∧
   RS (st.upd (.h id) (.obj g 0 s (xs ++ ys))) ν' w' D (.sl id g none 0 (xs.length + ys.length)) v := by
 obtain ⟨inf, z, hi, hiz, hzv, hs1, hb1, hzr⟩ := c4y (P := P) (st := st) (ν := ν) (w := w) (D := D) hzo
 have hu := K3 hT
 have hu' := K3 hT'
 have hse : s = inf.size := hsE.trans hs1
 obtain ⟨vx, hldx, hlx, hcx⟩ := hx.load' (P := P)
 obtain ⟨vy, hldy, hly, hcy⟩ := hy.load' (P := P)
 obtain ⟨b', cap', rfl, hcap', hsy, _⟩ := id' hy
 obtain ⟨a, cap, rfl, hcap, hsx, _⟩ := id' hx
 have hlen : (Builtin.lenOf (.slice b' ys.length cap')).run P w = .ok ys.length w := by simp [Builtin.lenOf]
 have hd' : a8g xs ∨ F2 κd = some ⟨φd, s, xs⟩ := by
  rcases hdst with ⟨rfl, _⟩ | ⟨h, _⟩
  ·exact .inl fun i j s1 e1 hl => by simp [leafAt] at hl
  ·exact .inr h
 subst hse
 have hflat : ∀ (zs : List AV) (vs : List Value), vs.length = zs.length * inf.size → ∀ i j, i < zs.length → j < inf.size → i * inf.size + j < vs.length := by
  intro zs vs h i j h1 h2
  have := Nat.mul_le_mul_right inf.size (show i + 1 ≤ zs.length from h1)
  rw [Nat.add_mul] at this; omega
 by_cases hfit : xs.length + ys.length ≤ cap
 ·by_cases hcap0 : cap = 0 ∨ ∃ a0, Value.slice a xs.length cap = .slice a0 0 0
  ·-- nothing at all
   have hc0 : cap = 0 := by
    rcases hcap0 with h | ⟨a0, h⟩
    ·exact h
    ·simp only [Value.slice.injEq] at h; exact h.2.2
   subst hc0
   have hx0 : xs = [] := List.length_eq_zero_iff.1 (by omega)
   have hy0 : ys = [] := List.length_eq_zero_iff.1 (by omega)
   subst hx0
   subst hy0
   obtain ⟨R', E'⟩ := R.dropAll.newEmpty (X := id) (s := inf.size) hg
   refine ⟨.slice a 0 0, w, _, ?_, R', ?_⟩
   ·refine a3w (w' := w) hu hu' hi hlen (hldy w rfl) hfit (fun a' _ => ?_) (fun _ => rfl)
    have : vy = [] := List.length_eq_zero_iff.1 (by simpa using hly)
    subst this
    simp [storeCells]
   ·refine .sl id _ none 0 0 _ ⟨a, 0, rfl, Nat.le_refl _⟩ (by rw [St.upd_eq]; exact Nat.le_refl _) (fun _ _ _ _ _ _ hq => by cases hq) fun m' s' es' hn => ⟨a, 0, rfl, Nat.le_refl _, .inl rfl⟩
  ·-- room enough
   have hcap1 : cap ≠ 0 := fun h => hcap0 (.inl h)
   rcases hdst with ⟨_, a0, h⟩ | ⟨hF, hsl⟩
   ·exact (hcap0 (.inr ⟨a0, h⟩)).elim
   ·obtain ⟨a1, cap1, he, _, hbase⟩ := hsl
    cases he
    rcases hbase with h | ⟨b, o, hbo, rfl, hcs⟩
    ·exact (hcap1 h).elim
    ·simp only [Nat.zero_mul, Nat.add_zero, Nat.zero_add] at hcs hbo ⊢
     have hRN := (R.flos κd _ hF).top
     simp only at hRN
     rw [hbo] at hRN
     have hRN2 := hRN
     obtain ⟨c, ety, hw, hcz, _, _, h4⟩ := hRN2
     have hcsz : csize w b = c.size := by simp [csize, hw]
     rw [hcsz] at hcs
     have hroom : o + xs.length * inf.size + vy.length ≤ c.size := by
      have := Nat.mul_le_mul_right inf.size hfit
      rw [Nat.add_mul] at this
      omega
     have hone : ∀ v ∈ vy, v.oneCell' = true := by
      intro v hv
      obtain ⟨k, hk, rfl⟩ := List.mem_iff_getElem.1 hv
      have h1 := a1o ys hsy k
      rw [List.getElem?_eq_getElem (by rw [X7 ys hsy]; omega)] at h1
      obtain ⟨v2, hv2, hr2⟩ := hcy _ _ _ h1.symm
      have hkk : k / inf.size * inf.size + k % inf.size = k := by rw [Nat.mul_comm]; exact Nat.div_add_mod k inf.size
      rw [hkk, List.getElem?_eq_getElem hk] at hv2
      cases hv2
      exact c0m (c3k hcl h1.symm) hr2
     let w' : World := if vy = [] then w else Y8 w b (S2 c (o + xs.length * inf.size) vy) ety
     have W : WStep Γ w w' b := by
      simp only [w']
      split
      ·exact WStep.refl w b
      ·exact a2u hw (R6 _ _ _)
     have hput : (S2 c (o + xs.length * inf.size) vy).size = c.size := R6 _ _ _
     have hw' : w'.heap[b]? = some (.cells (S2 c (o + xs.length * inf.size) vy) ety (0, 0)) := by
      simp only [w']
      split
      ·rename_i e; rw [e]; exact hw
      ·exact a0q (Array.getElem?_eq_some_iff.1 hw).1
     obtain ⟨ν', R', hν⟩ := R.joined (w' := w') (bt := b) (o := o) (s := inf.size) (xs := xs) (ys := ys) (φd := φd) (φs := φs) W hw' (by
       rw [hput]
       have := Nat.mul_le_mul_right inf.size hfit
       omega) hsx hsy
      (fun i j l hl => by
       obtain ⟨v, hv, hr⟩ := h4 i j l hl
       obtain ⟨hi', hj'⟩ := O4 hsx hl
       refine ⟨v, ?_, hr⟩
       have hlt : i * inf.size + j < xs.length * inf.size := by
        have := Nat.mul_le_mul_right inf.size (show i + 1 ≤ xs.length from hi')
        rw [Nat.add_mul] at this; omega
       rw [a2c _ _ _ _ hroom, if_neg (by omega)]
       exact hv)
      (fun i j l hl => by
       obtain ⟨v, hv, hr⟩ := hcy i j l hl
       obtain ⟨hi', hj'⟩ := O4 hsy hl
       refine ⟨v, ?_, hr⟩
       have := hflat ys vy hly i j hi' hj'
       rw [a2c _ _ _ _ hroom, if_pos (by rw [Nat.add_mul]; omega)]
       rw [show o + (xs.length + i) * inf.size + j - (o + xs.length * inf.size) = i * inf.size + j by rw [Nat.add_mul]; omega]
       exact hv)
      hd' hsrc h0 (.inr ⟨hF, o, hbo⟩) hg
     refine ⟨.slice (some ⟨b, o, none⟩) (xs.length + ys.length) cap, w', ν', ?_, R', ?_⟩
     ·refine a3w hu hu' hi hlen (hldy w rfl) hfit (fun a' ha' => ?_) (fun h => by cases h)
      cases ha'
      rw [a0n]
      have := V4 P (b := b) (o := o + xs.length * inf.size) (ety := ety) vy 0 c w hw hone (by simpa using hroom)
      simpa using this
     ·refine .sl id _ none 0 _ _ ⟨_, _, rfl, hfit⟩ (by rw [St.upd_eq]; exact Nat.le_refl _) (fun _ _ _ _ _ _ hq => by cases hq) fun m' s' es' hn => ?_
      rw [W0] at hn
      cases hn
      refine ⟨_, cap, rfl, hfit, .inr ⟨b, o, hν, by simp, ?_⟩⟩
      rw [W.cs b (Array.getElem?_eq_some_iff.1 hw).1, hcsz]
      simpa using hcs
 ·-- a new row
  obtain ⟨r, hrun⟩ := a8k (T0 := T0) (a := a) (old := vx.toArray) (new := vy.toArray) hu hu' hi hiz hlen hldx hldy hfit hmax (hb1 ▸ hb)
  have W : WStep Γ w ({ w with drawn := w.drawn + 1 }.alloc (.cells (vx.toArray ++ vy.toArray ++ Builtin.zeroCells z.cells r) E (0, 0))) w.heap.size :=
   ⟨by simp, rfl, rfl, rfl, fun _ => Nat.le_succ _, fun b hb _ => heap_alloc_old { w with drawn := w.drawn + 1 } _ hb, fun b hb => L3 (heap_alloc_old { w with drawn := w.drawn + 1 } _ hb)⟩
  have hzs : z.cells.size = inf.size := by have := hzr.1; rw [Array.length_toList] at this; omega
  have hcz : (vx.toArray ++ vy.toArray ++ Builtin.zeroCells z.cells r).size = (xs.length + ys.length + r) * inf.size := by
   simp [Builtin.zeroCells, hlx, hly, hzs, Nat.add_mul]
  obtain ⟨ν', R', hν⟩ := R.joined (bt := w.heap.size) (o := 0) (s := inf.size) (xs := xs) (ys := ys) (φd := φd) (φs := φs) W (heap_alloc_new { w with drawn := w.drawn + 1 } _) (by
    rw [hcz, Nat.zero_add]
    exact Nat.mul_le_mul_right _ (Nat.le_add_right _ _)) hsx hsy
   (fun i j l hl => by
    obtain ⟨v, hv, hr⟩ := hcx i j l hl
    obtain ⟨hi', hj'⟩ := O4 hsx hl
    have := hflat xs vx hlx i j hi' hj'
    refine ⟨v, ?_, hr⟩
    rw [Nat.zero_add, Array.getElem?_append, if_pos (by simp; omega), Array.getElem?_append, if_pos (by simpa using this)]
    simpa using hv)
   (fun i j l hl => by
    obtain ⟨v, hv, hr⟩ := hcy i j l hl
    obtain ⟨hi', hj'⟩ := O4 hsy hl
    have := hflat ys vy hly i j hi' hj'
    refine ⟨v, ?_, hr⟩
    rw [Nat.zero_add, Array.getElem?_append, if_pos (by simp [hlx, Nat.add_mul]; omega), Array.getElem?_append, if_neg (by simp [hlx, Nat.add_mul]; omega)]
    simp only [List.size_toArray, hlx]
    rw [show (xs.length + i) * inf.size + j - xs.length * inf.size = i * inf.size + j by rw [Nat.add_mul]; omega]
    simpa using hv)
   hd' hsrc h0 (.inl (Nat.le_refl _)) hg
  refine ⟨_, _, ν', hrun, R', ?_⟩
  refine .sl id _ none 0 _ _ ⟨_, _, rfl, Nat.le_add_right _ _⟩ (by rw [St.upd_eq]; exact Nat.le_refl _) (fun _ _ _ _ _ _ hq => by cases hq) fun m' s' es' hn => ?_
  rw [W0] at hn
  cases hn
  refine ⟨_, _, rfl, Nat.le_add_right _ _, .inr ⟨w.heap.size, 0, hν, by simp, ?_⟩⟩
  have : csize ({ w with drawn := w.drawn + 1 }.alloc (.cells (vx.toArray ++ vy.toArray ++ Builtin.zeroCells z.cells r) E (0, 0))) w.heap.size = (vx.toArray ++ vy.toArray ++ Builtin.zeroCells z.cells r).size :=
   a3n { w with drawn := w.drawn + 1 } _ _
  rw [this, hcz]
  simp
theorem b8e (hOA : ∀ b, O0 b → A b) (R : Rel Γ w0 A O0 ν0 N Fl.emp D st ν tm w) {T T' T0 d : Nat} {a b u : AV} {st' : St} {va vb : Value}
  (h : (a2o P d T a b).go C st = some (u, st')) (ha : RS st ν w D a va) (hb : RS st ν w D b vb) (hT' : K1 (tyS P T').k = true) :
  ∃ v w' D' ν', (Builtin.append_ #[T, T'] T0 #[va, vb]).run P w = .ok v w' ∧ Rel Γ w0 A O0 ν0 N Fl.emp D' st' ν' tm w' ∧ RS st' ν' w' D' u v := by
 have hT2 : ∃ E', (tyS P T').k = .slice E' := by
  cases hk : (tyS P T').k <;> simp [hk, K1] at hT'
  exact ⟨_, rfl⟩
 obtain ⟨E', hT2⟩ := hT2
 unfold a2o at h
 simp only [RW.go_bind, RW.go_up, C1, Option.bind_eq_some_iff, Option.map_eq_some_iff] at h
 obtain ⟨_, ⟨E, h1, rfl⟩, _, ⟨_, h2, rfl⟩, ⟨ys, st1⟩, h3, _, ⟨_, h4, rfl⟩, h⟩ := h
 obtain ⟨hT, hEb⟩ := a0c h1
 obtain ⟨hb4, hz, hzo⟩ := C4 h2
 have hcl := C4 h4
 obtain ⟨F1, D1, φs, R1, E1, hD1, hy, hsrc⟩ := c3u hOA (κ := κs) rfl R h3 hb
 have ha1 := ha.same E1 hD1
 have hsrc' : a8g ys ∨ F1 κs = some ⟨φs, (tyS P E).size, ys⟩ := by
  rcases hsrc with ⟨_, h⟩ | rfl
  ·exact .inl h
  ·exact .inr (Fl.set_eq _ _ _)
 have hF1 : ∀ κ, κ ≠ κs → F1 κ = none := by
  intro κ hκ
  rcases hsrc with ⟨rfl, _⟩ | rfl
  ·rfl
  ·exact Fl.set_ne _ _ hκ
 simp only at h hcl
 split at h
 ·simp only [RW.go_bind, RW.go_up, RW.go_wr, RW.go_pure, C1, S1, Option.map_some, Option.bind_some, Option.bind_eq_some_iff, Option.map_eq_some_iff] at h
  obtain ⟨_, ⟨_, h5, rfl⟩, h6⟩ := h
  have h5 := C4 h5
  cases h6
  obtain ⟨a0, rfl⟩ := ha1.nil_inv
  obtain ⟨v, w', ν', k1, k2, k3⟩ := b0b (T0 := T0) (xs := []) (φd := fun _ => none) (id := tid d 0) R1 hT hT2 hb4 hz hzo rfl
   ⟨a0, 0, rfl, Nat.le_refl _, by simp, fun h => (h rfl).elim⟩ (.inl ⟨rfl, a0, rfl⟩) hy hsrc' (hF1 _ (by decide)) hcl (by simpa using h5) (Nat.lt_succ_self _)
  simp only [List.nil_append, List.length_nil, Nat.zero_add] at k1 k2 k3
  exact ⟨v, w', D1, ν', k1, k2, k3⟩
 ·rename_i id g n
  simp only [RW.go_bind, RW.go_up, RW.go_wr, RW.go_pure, C1, S1, Option.map_some, Option.bind_some, Option.bind_eq_some_iff, Option.map_eq_some_iff] at h
  obtain ⟨_, ⟨⟨m, s, es⟩, h5, rfl⟩, _, ⟨_, h6, rfl⟩, h7⟩ := h
  rw [G3] at h5
  obtain ⟨rfl, hn, hs, hmx⟩ := C4 h6
  simp only at hs hn
  subst hs
  cases h7
  have hst := K4 h5
  obtain ⟨_, _, _, hsl⟩ := ha1.sl_inv
  have hsl := hsl _ _ _ h5
  obtain ⟨R2, E2⟩ := R1.takeObj hst (hF1 κd (by decide)) n
  have hlen : (es.take n).length = n := by simp; omega
  have hx := b9x ((R1.node h5).1.unbx (c2w (by decide))) hsl hn
  have hFd : (F1.set κd (some ⟨ν id, (tyS P E).size, es.take n⟩)) κs = F1 κs := Fl.set_ne _ _ (by decide)
  obtain ⟨v, w', ν', k1, k2, k3⟩ := b0b (T0 := T0) (id := tid d 0) (g := F9 ((st1.upd (.h id) (.dead g)) (.h (tid d 0))) + 1) R2 hT hT2 hb4 hz hzo rfl (hx.same E2 (fun _ h => h))
   (.inr ⟨Fl.set_eq _ _ _, by rw [hlen]; exact hsl⟩) (hy.same E2 (fun _ h => h)) (by rw [hFd]; exact hsrc') (by rw [Fl.set_ne _ _ (by decide)]; exact hF1 _ (by decide)) hcl (by rw [hlen]; exact hmx) (Nat.lt_succ_self _)
  rw [hlen] at k3
  exact ⟨v, w', D1, ν', k1, k2, k3⟩
 ·simp at h
end
section
variable {P : Program} {C : Caller} {Γ : Env} {w0 : World} {A O0 : Nat → Prop} {ν0 : Nu} {N : Nat} {D : Nat → Prop} {st : St} {ν : Nu} {tm : Array Value} {w : World}
theorem c7a {w : World} {b : Nat} {c : Array Value} {ety : TypeId} (h : w.heap[b]? = some (.cells c ety (0, 0))) : Y8 w b c ety = w := by
 unfold Y8
 have : w.heap.setIfInBounds b (.cells c ety (0, 0)) = w.heap := by
  apply Array.ext_getElem?
  intro k
  by_cases e : k = b
  ·subst e
   rw [Array.getElem?_setIfInBounds_self_of_lt (Array.getElem?_eq_some_iff.1 h).1, h]
  ·rw [Array.getElem?_setIfInBounds_ne (Ne.symm e)]
 rw [this]
theorem c4t {q : AV → Bool} {es : List AV} (h : (es.all fun e => (leaves e).all q) = true) {i j : Nat} {l : AV} (hl : leafAt es i j = some l) : q l = true := by
 unfold leafAt at hl
 cases he : es[i]? with
 | none => simp [he] at hl
 | some e =>
  simp only [he, Option.bind_some] at hl
  exact List.all_eq_true.1 (List.all_eq_true.1 h e (List.mem_of_getElem? he)) l (List.mem_of_getElem? hl)
theorem a1d {es ys : List AV} {off k : Nat} (hk : off + k ≤ es.length) (hy : ys.length = k) (x y : Nat) :
  leafAt (es.take off ++ ys ++ es.drop (off + k)) x y = if off ≤ x ∧ x < off + k then leafAt ys (x - off) y else leafAt es x y := by
 unfold leafAt
 have h1 : (es.take off).length = off := by simp; omega
 split
 ·rename_i hx
  rw [List.getElem?_append_left (by simp; omega), List.getElem?_append_right (by omega), h1]
 ·rename_i hx
  by_cases hxo : x < off
  ·rw [List.getElem?_append_left (by simp; omega), List.getElem?_append_left (by omega), List.getElem?_take, if_pos hxo]
  ·rw [List.getElem?_append_right (by simp; omega), List.getElem?_drop, List.length_append, h1]
   congr 2; omega
theorem RN.putMany {L : AV → Value → Prop} {φ φ' : Path → Base} {b o s : Nat} {es ys : List AV} (h : RN w L φ (some (b, o)) False s es) {off k : Nat} {xs : List Value}
  {c : Array Value} {ety : TypeId} (hw : w.heap[b]? = some (.cells c ety (0, 0))) (hk : off + k ≤ es.length) (hy : ys.length = k) (hys : ∀ e ∈ ys, (leaves e).length = s) (hxs : xs.length = k * s)
  (hφ : ∀ x y s' es', leafAt es x y = some (.own s' es') → ¬ (off ≤ x ∧ x < off + k) → φ' (some (x, y)) = φ (some (x, y)))
  (hcs : ∀ x y s' es' b' o', leafAt es x y = some (.own s' es') → φ (some (x, y)) = some (b', o') → b' < w.heap.size)
  (hl : ∀ i j l, leafAt ys i j = some l → ∃ x : Value, xs[i * s + j]? = some x ∧ S0 (Y8 w b (S2 c (o + off * s) xs) ety) L φ' (off + i) j l x) :
  RN (Y8 w b (S2 c (o + off * s) xs) ety) L φ' (some (b, o)) False s (es.take off ++ ys ++ es.drop (off + k)) ∧ o + off * s + xs.length ≤ c.size := by
 obtain ⟨c', ety', h1, h2, h3, h5, h4⟩ := h
 rw [hw] at h1
 cases h1
 have hs := h3 (fun h => h)
 have hlt : b < w.heap.size := (Array.getElem?_eq_some_iff.1 hw).1
 have hbd : o + off * s + xs.length ≤ c.size := by
  have := Nat.mul_le_mul_right s hk
  rw [Nat.add_mul] at this
  omega
 have hsz : (S2 c (o + off * s) xs).size = c.size := R6 _ _ _
 have hlen : (es.take off ++ ys ++ es.drop (off + k)).length = es.length := by simp; omega
 refine ⟨⟨S2 c (o + off * s) xs, ety, a0q hlt, by rw [hsz, hlen]; exact h2, fun _ e he => ?_, fun h => h.elim, fun x y l hxy => ?_⟩, hbd⟩
 ·rcases List.mem_append.1 he with h | h
  ·rcases List.mem_append.1 h with h | h
   ·exact hs e (List.mem_of_mem_take h)
   ·exact hys e h
  ·exact hs e (List.mem_of_mem_drop h)
 ·rw [a1d hk hy] at hxy
  rw [a2c _ _ _ _ hbd]
  split at hxy
  ·rename_i hx
   obtain ⟨v, hv, hr⟩ := hl _ _ _ hxy
   obtain ⟨hi, hj⟩ := O4 hys hxy
   rw [show off + (x - off) = x by omega] at hr
   have e1 : x * s = off * s + (x - off) * s := by rw [← Nat.add_mul]; congr 1; omega
   have e2 : (x - off) * s + y < k * s := by
    have := Nat.mul_le_mul_right s (show x - off + 1 ≤ k by omega)
    rw [Nat.add_mul] at this; omega
   refine ⟨v, ?_, hr⟩
   rw [if_pos (by omega), show o + x * s + y - (o + off * s) = (x - off) * s + y by omega]
   exact hv
  ·rename_i hx
   obtain ⟨v, hv, hr⟩ := h4 _ _ _ hxy
   obtain ⟨hi, hj⟩ := O4 hs hxy
   refine ⟨v, ?_, hr.mono (fun _ _ h => h) (fun s' es' e => hφ x y s' es' (e ▸ hxy) hx) (fun s' es' b' o' e hb' => ?_)⟩
   ·rw [if_neg]
    ·exact hv
    ·rintro ⟨a1, a2⟩
     by_cases hxo : x < off
     ·have := Nat.mul_le_mul_right s (show x + 1 ≤ off by omega)
      rw [Nat.add_mul] at this; omega
     ·have := Nat.mul_le_mul_right s (show off + k ≤ x by omega)
      rw [Nat.add_mul] at this; omega
   ·by_cases eb : b' = b
    ·subst eb; simp [csize, a0q hlt, hw, hsz]
    ·exact L3 (b1c eb)
theorem S9 {l : AV} (h : a4x l = true) : immLeaf l = true ∧ I0 l = false ∧ isOwn l = false ∧ cellLeaf l = true := by
 cases l <;> simp [a4x] at h <;> simp [immLeaf, I0, isOwn, cellLeaf, L5, h]
theorem c3i (hOA : ∀ b, O0 b → A b) (R : Rel Γ w0 A O0 ν0 N Fl.emp D st ν tm w) {T T' T0 : Nat} {a b u : AV} {st' : St} {va vb : Value}
  (h : (d0b P T a b).go C st = some (u, st')) (ha : RS st ν w D a va) (hb : RS st ν w D b vb) :
  ∃ v w' ν', (Builtin.copy_ #[T, T'] T0 #[va, vb]).run P w = .ok v w' ∧ Rel Γ w0 A O0 ν0 N Fl.emp D st' ν' tm w' ∧ RS st' ν' w' D u v := by
 unfold d0b at h
 simp only [RW.go_bind, RW.go_up, C1, Option.bind_eq_some_iff, Option.map_eq_some_iff] at h
 obtain ⟨_, ⟨E, h1, rfl⟩, _, ⟨ys, h2, rfl⟩, _, ⟨_, h3, rfl⟩, h⟩ := h
 obtain ⟨hT, hEb⟩ := a0c h1
 obtain ⟨hpl, hsz⟩ := C4 h3
 have hysz := a3r hsz
 obtain ⟨inf, d0, hi, hd0, his, _⟩ := L7 hEb
 simp only at h
 split at h
 ·rename_i id g p off n
  simp only [RW.go_bind, RW.go_up, RW.go_wr, RW.go_pure, C1, Option.bind_some, Option.bind_eq_some_iff, Option.map_eq_some_iff] at h
  obtain ⟨_, ⟨⟨m, s, es⟩, h4, rfl⟩, _, ⟨_, h5, rfl⟩, _, ⟨wl, h6, rfl⟩, h7⟩ := h
  rw [G3] at h4
  obtain ⟨hm2, hbx, hle, hs, hno, hkm⟩ := C4 h5
  simp only at hs hle hno h6 hm2 hbx
  cases h7
  obtain ⟨⟨aa, cap, rfl, hcap⟩, _, _, hsl⟩ := ha.sl_inv
  have hsl := hsl _ _ _ h4
  obtain ⟨hRN, hnoO⟩ := R.node h4
  have hRN := hRN.unbx (O1 hbx)
  have hSC := b5u R h2 hb
  obtain ⟨ab, capb, vs, rfl, hvl, hvs, hload⟩ := hSC.load (P := P) hysz (min ys.length n) (Nat.min_le_left _ _)
  rw [his] at hs hvl hvs hload
  subst hs
  have hfc : (Builtin.firstCells inf.size (min ys.length n) (.slice ab ys.length capb)).run P w = .ok vs.toArray w := by
   rcases hload with ⟨rfl, h0⟩ | ⟨a', rfl, hl⟩
   ·have : vs = [] := List.length_eq_zero_iff.1 (by rw [hvl, h0]; simp)
    subst this
    simp [Builtin.firstCells]
   ·simpa [Builtin.firstCells] using hl
  have hrun : ∀ w', (∀ a', aa = some a' → (storeCells a' vs).run P w = .ok () w') → (aa = none → w' = w) →
    (Builtin.copy_ #[T, T'] T0 #[.slice aa n cap, .slice ab ys.length capb]).run P w = .ok (.int .i64 (min ys.length n : Nat)) w' := by
   intro w' h1 h2
   have hmm : Nat.min ys.length n = min ys.length n := rfl
   cases aa with
   | none => simp [Builtin.copy_, F8 (K3 hT), I3 hi, Builtin.lenOf, hmm, hfc, goInt, h2 rfl]
   | some a' => simp [Builtin.copy_, F8 (K3 hT), I3 hi, Builtin.lenOf, hmm, hfc, goInt, h1 a' rfl]
  have hyk : (ys.take (min ys.length n)).length = min ys.length n := by rw [List.length_take]; omega
  have hplk : ∀ i j l, leafAt (ys.take (min ys.length n)) i j = some l → a4x l = true := fun i j l hl => c4t hpl (J1 hl)
  have hvs' : ∀ i j l, leafAt (ys.take (min ys.length n)) i j = some l → ∃ x, vs[i * inf.size + j]? = some x ∧ RS st ν w D l x := by
   intro i j l hl
   have hl' := J1 hl
   rw [his] at hysz
   obtain ⟨hi', hj'⟩ := O4 (s := inf.size) (fun e he => hysz e (List.mem_of_mem_take he)) hl
   rw [hyk] at hi'
   have hk : i * inf.size + j < min ys.length n * inf.size := by
    have := Nat.mul_le_mul_right inf.size (show i + 1 ≤ min ys.length n from hi')
    rw [Nat.add_mul] at this; omega
   have hf := a1o ys hysz (i * inf.size + j)
   have hs0 : 0 < inf.size := by omega
   rw [Nat.mul_comm i, Nat.mul_add_div hs0, Nat.div_eq_of_lt hj', Nat.mul_add_mod, Nat.mod_eq_of_lt hj', Nat.add_zero, hl', Nat.mul_comm] at hf
   obtain ⟨x, hx, hr⟩ := hvs _ _ hk hf
   exact ⟨x, hx, hr (S9 (hplk _ _ _ hl)).2.2.1⟩
  have hret : ∀ (st' : St) (ν' : Nu) (w' : World), RS st' ν' w' D (.val (.int .i64 (min ys.length n : Nat))) (.int .i64 (min ys.length n : Nat)) := fun _ _ _ => .data _ _ (.val _)
  have hone : ∀ v ∈ vs, v.oneCell' = true := by
   intro v hv
   obtain ⟨k, hk, rfl⟩ := List.mem_iff_getElem.1 hv
   have h1 := a1o ys hysz k
   have h2 := X7 ys hysz
   rw [his] at h1 h2
   have hkl : k < ys.length * inf.size := Nat.lt_of_lt_of_le (hvl ▸ hk) (Nat.mul_le_mul_right _ (Nat.min_le_left _ _))
   have h3 : (ys.flatMap leaves)[k]? = some (ys.flatMap leaves)[k] := List.getElem?_eq_getElem (by omega)
   rw [h3] at h1
   have hpk := S9 (c4t hpl h1.symm)
   obtain ⟨x, hx, hr⟩ := hvs k _ (hvl ▸ hk) h3
   rw [List.getElem?_eq_getElem hk] at hx
   cases hx
   exact c0m (φ := fun _ => none) (i := 0) (j := 0) hpk.2.2.2 (c1h (hr hpk.2.2.1))
  have hspl : es.take off ++ ys.take (min ys.length n) ++ es.drop (off + min ys.length n) = es.take off ++ (ys.take (min ys.length n)) ++ es.drop (off + min ys.length n) := rfl
  obtain ⟨aa', cap', he, _, hbase⟩ := hsl
  cases he
  by_cases hcap0 : cap = 0
  ·-- nothing is copied
   have hn0 : n = 0 := by omega
   subst hn0
   have hes : es.take off ++ ys.take (min ys.length 0) ++ es.drop (off + min ys.length 0) = es := by simp
   rw [hes] at h6
   have hv0 : vs = [] := List.length_eq_zero_iff.1 (by rw [hvl]; simp)
   subst hv0
   have hst : st.upds wl = st := by
    obtain ⟨s0, es0, ho, hp⟩ := J9 h4
    rcases hp with ⟨rfl, rfl, rfl⟩ | ⟨x, y, rfl, hl0⟩
    ·simp only [wrNode, Rd.ev_read, ho, Rd.ev_ret, Option.some.injEq] at h6
     subst h6
     funext l
     simp only [St.upds]
     by_cases e : l = .h id
     ·subst e; rw [St.upd_eq, ho]
     ·rw [St.upd_ne _ _ e]
    ·cases hep : es0[x]? with
     | none => simp [leafAt, hep] at hl0
     | some ep =>
      simp only [wrNode, Rd.ev_read, ho, hep, hl0, Rd.ev_ret, Option.some.injEq] at h6
      subst h6
      have hset : es0.set x (putAt ep y (.own inf.size es)) = es0 := by
       have hpe : putAt ep y (.own inf.size es) = ep := by
        simp only [leafAt, hep, Option.bind_some] at hl0
        rcases Z4 ep with ⟨fs, rfl⟩ | ⟨hna, hlv⟩
        ·simp only [leaves] at hl0
         obtain ⟨hy1, hy2⟩ := List.getElem?_eq_some_iff.1 hl0
         simp only [putAt]
         rw [← hy2, List.set_getElem_self]
        ·rw [hlv] at hl0
         cases y with
         | zero =>
          simp only [List.getElem?_cons_zero, Option.some.injEq] at hl0
          rw [hl0]; rfl
         | succ y => simp at hl0
       obtain ⟨hx1, hx2⟩ := List.getElem?_eq_some_iff.1 hep
       rw [hpe, ← hx2, List.set_getElem_self]
      rw [hset]
      funext l
      simp only [St.upds]
      by_cases e : l = .h id
      ·subst e; rw [St.upd_eq, ho]
      ·rw [St.upd_ne _ _ e]
   refine ⟨_, w, ν, hrun w (fun a' _ => by simp [storeCells]) (fun _ => rfl), ?_, hret _ _ _⟩
   change Rel Γ w0 A O0 ν0 N Fl.emp D (st.upds wl) ν tm w
   rw [hst]
   exact R
  ·rcases hbase with h | ⟨b, o, hbo, rfl, hcs⟩
   ·exact (hcap0 h).elim
   ·rw [hbo] at hRN
    have hRN2 := hRN
    obtain ⟨c, ety, hw, hcz, _, _, h4'⟩ := hRN2
    have W : WStep Γ w (Y8 w b (S2 c (o + off * inf.size) vs) ety) b := a2u hw (R6 _ _ _)
    rw [his] at hysz
    obtain ⟨hnew, hbd⟩ := RN.putMany (φ' := ν id) (ys := ys.take (min ys.length n)) hRN (off := off) (k := min ys.length n) (xs := vs) hw (by omega) hyk (fun e he => hysz e (List.mem_of_mem_take he)) hvl
     (fun x y s' es' _ _ => rfl)
     (fun x y s' es' b' o' hl' hb' => by
      obtain ⟨s0, es0, ho, hp⟩ := J9 h4
      rcases hp with ⟨rfl, rfl, rfl⟩ | ⟨x1, y1, rfl, hl0⟩
      ·exact R.hlt ho (p := some (x, y)) (fun q hq => by cases hq; exact ⟨s', es', hl'⟩) hb'
      ·have := hnoO (by simp) _ _ _ hl'; simp [immLeaf] at this)
     (fun i j l hl => by
      obtain ⟨x, hx, hr⟩ := hvs' i j l hl
      refine ⟨x, hx, ?_⟩
      have hno2 := (S9 (hplk _ _ _ hl)).2.2.1
      cases l with
      | own => simp [isOwn] at hno2
      | _ => exact hr)
    have hstore : (storeCells ⟨b, o + off * inf.size, none⟩ vs).run P w = .ok () (Y8 w b (S2 c (o + off * inf.size) vs) ety) := by
     have := V4 P (b := b) (o := o + off * inf.size) (ety := ety) vs 0 c w hw hone (by simpa using hbd)
     rw [this]
     split
     ·rename_i e; subst e; rw [show S2 c (o + off * inf.size) [] = c from rfl, c7a hw]
     ·rfl
    have hrun' := hrun (Y8 w b (S2 c (o + off * inf.size) vs) ety) (fun a' ha' => by cases ha'; exact hstore) (fun h => by cases h)
    have hregion : ∀ x y l, leafAt (es.take off ++ ys.take (min ys.length n) ++ es.drop (off + min ys.length n)) x y = some l → isOwn l = true ∨ I0 l = true →
      ¬ (off ≤ x ∧ x < off + min ys.length n) ∧ leafAt es x y = some l := by
     intro x y l hl hor
     rw [a1d (by omega) hyk] at hl
     split at hl
     ·have := S9 (hplk _ _ _ hl)
      rcases hor with h | h
      ·rw [this.2.2.1] at h; cases h
      ·rw [this.2.1] at h; cases h
     ·rename_i hx; exact ⟨hx, hl⟩
    obtain ⟨s0, es0, ho, hp⟩ := J9 h4
    rcases hp with ⟨rfl, rfl, rfl⟩ | ⟨x1, y1, rfl, hl0⟩
    ·simp only [wrNode, Rd.ev_read, ho, Rd.ev_ret, Option.some.injEq] at h6
     subst h6
     obtain ⟨R2, E2⟩ := R.storeTop (F' := Fl.emp) W ho hm2 ⟨o, hbo⟩ (ν id) rfl (by
       rw [hbo]
       have hq : ¬ (m = 3 ∨ m = 4) := fun h => O1 hbx ⟨rfl, h⟩
       obtain ⟨c2, e2, q1, q2, q3, q5, q4⟩ := hnew
       exact ⟨c2, e2, q1, q2, fun _ => q3 (fun h => h), fun h => (hq h).elim, q4⟩)
      (fun x y hl => (hregion x y _ hl (.inr rfl)).2) (fun _ _ => False) (fun _ _ => (0, 0, 0)) (fun _ => False)
      (fun x y s' es2 hl => .inl ⟨fun h => h, (hregion x y _ hl (.inl rfl)).2, rfl⟩)
      (fun x y x' y' s1 e1 s2 e2 _ _ h _ _ => h.elim) (fun _ => rfl) (fun _ h => h.elim) (fun _ _ => rfl)
     exact ⟨_, _, _, hrun', R2, hret _ _ _⟩
    ·cases hep : es0[x1]? with
     | none => simp [leafAt, hep] at hl0
     | some ep =>
      simp only [wrNode, Rd.ev_read, ho, hep, hl0, Rd.ev_ret, Option.some.injEq] at h6
      subst h6
      have hno2 := hnoO (by simp)
      obtain ⟨R2, E2⟩ := R.storeSub W ho hm2 hl0 ⟨o, hbo⟩ (S5 (bx := (m = 3 ∨ m = 4)) (s := s0) hep hl0
       (l := .own inf.size (es.take off ++ ys.take (min ys.length n) ++ es.drop (off + min ys.length n))) (by intro gs hh; cases hh))
       (by simp; omega) (by rw [hbo]; exact hnew) (fun i j l hl => by
        rw [a1d (by omega) hyk] at hl
        split at hl
        ·exact (S9 (hplk _ _ _ hl)).1
        ·exact hno2 _ _ _ hl)
      exact ⟨_, _, _, hrun', R2, hret _ _ _⟩
 ·simp at h
end
section
variable {P : Program} {C : Caller} {Γ : Env} {w0 : World} {A O0 : Nat → Prop} {ν0 : Nu} {N : Nat} {D : Nat → Prop} {st : St} {ν : Nu} {tm : Array Value} {w : World}
theorem a3d {P : Program} {w w' : World} {s : Sem Value} {v : Value} (h : s.run P w = .ok v w') : (do pure (Next.value (← s)) : Sem Next).run P w = .ok (.value v) w' := by
 simp [h]
theorem d4c {α : Type} {xs : Array α} {x : α} (h : xs.toList = [x]) : xs = #[x] := by
 obtain ⟨l⟩ := xs; simp at h; subst h; rfl
theorem d1v {α : Type} {xs : Array α} {x y : α} (h : xs.toList = [x, y]) : xs = #[x, y] := by
 obtain ⟨l⟩ := xs; simp at h; subst h; rfl
structure GlOk (Γ : Env) (cx : Cx) : Prop where
 gl : ∀ g a, cx.gl g = some a → ∀ w, Γ.G w → ∃ v, w.cell? ⟨g, 0, none⟩ = some v ∧ RV w (fun _ => False) a v
 mp : ∀ r tb, cx.mp r = some tb → ∀ w, Γ.G w → ∃ es clock, w.heap[r]? = some (.map es clock) ∧ ∀ s, ∃ rr, Instr.findNow .string (.string s) es.toList 0 = some rr ∧ rr.map (·.2) = c2n s tb
theorem GlOk.none {Γ : Env} {cx : Cx} (h1 : cx.gl = fun _ => none) (h2 : cx.mp = fun _ => none) : GlOk Γ cx :=
 ⟨(fun g a h => by rw [h1] at h; cases h), (fun r tb h => by rw [h2] at h; cases h)⟩
theorem Rel.G (R : Rel Γ w0 A O0 ν0 N Fl.emp D st ν tm w) : Γ.G w := Γ.stable w0 w (fun b hb => R.fr b (R.gO b hb).2 (R.gO b hb).1) R.gi
theorem b9j {cx : Cx} (hg : GlOk Γ cx) (R : Rel Γ w0 A O0 ν0 N Fl.emp D st ν tm w) {T : Nat} {a u : AV} {va : Value} (h : (loadG cx T a).ev C st = some u) (ha : RS st ν w D a va) :
  ∃ v, (Instr.loadAt T va).run cx.P w = .ok v w ∧ RS st ν w D u v := by
 unfold loadG at h
 split at h
 ·rename_i g
  obtain rfl := ha.val_inv
  split at h
  ·rename_i a hga
   obtain ⟨v, h1, h2⟩ := hg.gl g a hga w R.G
   obtain ⟨v', k1, k2⟩ := a1f (w := w) (ν := ν) (D := D) (b := g) (q := 0) h (fun k l hl => by
    cases k with
    | zero =>
     simp only [List.getElem?_cons_zero, Option.some.injEq] at hl
     subst hl
     exact ⟨v, h1, .data _ _ (h2.mono (fun b hb _ => hb.elim) (Nat.le_refl _))⟩
    | succ k => simp at hl)
   exact ⟨v', by simp only [Instr.loadAt, Instr.sureAddr, Sem.run_bind, Sem.run_pure, Result.andThen_ok, k1], k2⟩
  ·simp at h
 ·exact b3j R h ha
theorem b7x {cx : Cx} (hg : GlOk Γ cx) (R : Rel Γ w0 A O0 ν0 N Fl.emp D st ν tm w) {T : Nat} {m k u : AV} {vm vk : Value} {ok : Bool} (h : (lookupA cx T m k ok).ev C st = some u) (hm : RS st ν w D m vm) (hk : RS st ν w D k vk) :
  ∃ v, (Instr.lookup T vm vk ok).run cx.P w = .ok v w ∧ RS st ν w D u v := by
 unfold lookupA at h
 split at h
 ·rename_i r s
  obtain rfl := hm.val_inv
  obtain rfl := hk.val_inv
  split at h
  ·rename_i tb key elem hmp hT
   obtain ⟨es, clock, h1, h2⟩ := hg.mp r tb hmp w R.G
   simp only [Rd.ev_bind, C1, Option.bind_eq_some_iff] at h
   obtain ⟨_, h3, h4⟩ := h
   have h3 := C4 h3
   have hkey : cx.P.underlying key = some .string := by
    unfold a3y at h3
    split at h3
    ·rename_i e; exact Q8 e
    ·cases h3
   obtain ⟨rr, hf1, hf2⟩ := h2 s
   have hgo : (getObj r).run cx.P w = .ok (.map es clock) w := by simp [getObj, Sem.run, h1]
   have hck : (Instr.checkKey es.isEmpty 10000 key (.string s)).run cx.P w = .ok () w := by
    unfold Instr.checkKey
    simp only [Sem.run_bind, F8 hkey, Result.andThen_ok]
    rfl
   have hfk : (Instr.findKey key (.string s) es.toList).run cx.P w = .ok rr w := by
    unfold Instr.findKey
    simp only [Sem.run_bind, F8 hkey, Result.andThen_ok, hf1]
    rfl
   have key2 : ∀ (v : Value) (b : Bool) (a : AV), RS st ν w D a v → RS st ν w D (if ok then .tup [a, .val (.bool b)] else a) (if ok then .tuple #[v, .bool b] else v) := by
    intro v b a ha
    cases ok
    ·exact ha
    ·refine .tup _ _ rfl fun i l hl => ?_
     match i, hl with
     | 0, hl => cases hl; exact ha
     | 1, hl => cases hl; exact .data _ _ (.val _)
     | i + 2, hl => simp at hl
   split at h4
   ·rename_i v hv
    rw [hv] at hf2
    simp only [Rd.ev_ret, Option.some.injEq] at h4
    subst h4
    cases rr with
    | none => cases hf2
    | some q =>
     cases hf2
     refine ⟨_, ?_, key2 q.2 true (ofConst q.2) (.data _ _ (RV.ofConst _))⟩
     unfold Instr.lookup
     simp only [Sem.run_bind, F8 hT, Result.andThen_ok, hgo, hck, hfk, Sem.run_pure]
   ·rename_i hv
    rw [hv] at hf2
    simp only [Rd.ev_bind, C1, Option.bind_eq_some_iff, Rd.ev_ret] at h4
    obtain ⟨_, h5, h6⟩ := h4
    obtain ⟨hb, ho⟩ := C4 h5
    simp only [Option.some.injEq] at h6
    subst h6
    obtain ⟨i, d, hi, hd, _, _, hz1, hz2⟩ := L7 hb
    cases hz : i.zero with
    | none => rw [hz2 hz] at ho; cases ho
    | some z =>
     rw [hz1 z hz]
     cases rr with
     | some q => cases hf2
     | none =>
      refine ⟨_, ?_, key2 z false (ofConst z) (.data _ _ (RV.ofConst _))⟩
      unfold Instr.lookup
      simp only [Sem.run_bind, F8 hT, Result.andThen_ok, hgo, hck, hfk, Sem.run_pure, a1u hi hz]
  ·simp at h
 ·simp at h
theorem c7j (cx : Cx) (hgl : GlOk Γ cx) (R : Rel Γ w0 A O0 ν0 N Fl.emp D st ν tm w) {ds : List Deferred} {o : Oper} {a : AV} (h : (opV cx o.op).ev C st = some a) :
  ∃ v, (execOp (Act.mk tm ds).eval o).run cx.P w = .ok (.value v) w ∧ RS st ν w D a v := by
 unfold opV at h
 split at h
 ·rename_i x ho
  exact ⟨_, by simp only [execOp, ho]; rfl, D7 h R⟩
 ·rename_i c x y ho
  simp only [Rd.ev_bind, Option.bind_eq_some_iff] at h
  obtain ⟨vc, h1, h2⟩ := h
  have hc := D7 h1 R (ds := ds)
  split at h2
  ·have hc := hc.val_inv
   refine ⟨(Act.mk tm ds).eval x, ?_, D7 h2 R⟩
   simp only [execOp, ho, hc]
   simp [asBool]
  ·have hc := hc.val_inv
   refine ⟨(Act.mk tm ds).eval y, ?_, D7 h2 R⟩
   simp only [execOp, ho, hc]
   simp [asBool]
  ·simp at h2
 ·rename_i T parts ho
  obtain ⟨v, h1, h2⟩ := c1x R (ds := ds) h
  refine ⟨v, ?_, h2⟩
  simp only [execOp, ho]
  exact a3d h1
 ·rename_i T x ho
  simp only [Rd.ev_bind, Option.bind_eq_some_iff] at h
  obtain ⟨vx, h1, h2⟩ := h
  obtain ⟨v, h3, h4⟩ := b9j hgl R h2 (D7 h1 R (ds := ds))
  refine ⟨v, ?_, h4⟩
  simp only [execOp, ho]
  exact a3d h3
 ·rename_i T x k ok ho
  simp only [Rd.ev_bind, Option.bind_eq_some_iff] at h
  obtain ⟨vx, h1, vk, h2, h3⟩ := h
  obtain ⟨v, h4, h5⟩ := b7x hgl R h3 (D7 h1 R (ds := ds)) (D7 h2 R (ds := ds))
  refine ⟨v, ?_, h5⟩
  simp only [execOp, ho]
  exact a3d h4
 ·rename_i x ho
  simp only [Rd.ev_bind, Option.bind_eq_some_iff] at h
  obtain ⟨vx, h1, h2⟩ := h
  have hx := D7 h1 R (ds := ds)
  split at h2
  ·simp only [Rd.ev_ret, Option.some.injEq] at h2
   subst h2
   obtain ⟨⟨b, q, hv⟩, _⟩ := hx.ptr_inv
   refine ⟨_, ?_, hx⟩
   simp only [execOp, ho, hv]
   rfl
  ·simp only [Rd.ev_ret, Option.some.injEq] at h2
   subst h2
   have hi := hx.ipt_inv
   generalize hv : (Act.mk tm ds).eval x = vv at hx hi
   cases hi with
   | ipt _ _ b o c hab hc hl =>
    refine ⟨_, ?_, hx⟩
    simp only [execOp, ho, hv]
    rfl
  ·simp at h2
 ·rename_i op T x y z ho
  simp only [Rd.ev_bind, C1, Option.bind_eq_some_iff] at h
  obtain ⟨va, h1, vb, h2, _, h3, h4⟩ := h
  obtain ⟨v, k1, k2, k3⟩ := c7k h4 (C4 h3) (D7 h1 R (ds := ds)) (D7 h2 R (ds := ds))
  refine ⟨v, ?_, k3⟩
  simp only [execOp, ho]
  refine a3d ?_
  simp only [Sem.run_bind, k1, Result.andThen_ok, k2]
 ·rename_i op T x ho
  simp only [Rd.ev_bind, Option.bind_eq_some_iff] at h
  obtain ⟨va, h1, h2⟩ := h
  obtain ⟨v, k1, k2⟩ := c9l (P := cx.P) h2 (D7 h1 R (ds := ds))
  refine ⟨v, ?_, k2⟩
  simp only [execOp, ho]
  exact a3d k1
 ·rename_i S T x ho
  simp only [Rd.ev_bind, Option.bind_eq_some_iff] at h
  obtain ⟨va, h1, h2⟩ := h
  have hx := D7 h1 R (ds := ds)
  split at h2
  ·have hx := hx.val_inv
   obtain ⟨v, k1, k2⟩ := c4a (st := st) (ν := ν) (w := w) (D := D) h2
   refine ⟨v, ?_, k2⟩
   simp only [execOp, ho, hx]
   exact a3d k1
  ·obtain ⟨v, k1, k2⟩ := c0c R h2 hx
   refine ⟨v, ?_, k2⟩
   simp only [execOp, ho]
   exact a3d k1
 ·rename_i f first caps ho
  simp only [Rd.ev_bind, C1, Rd.ev_ret, Option.bind_eq_some_iff] at h
  obtain ⟨_, h1, cs, h2, h3⟩ := h
  have h1 := C4 h1
  cases h3
  obtain rfl : first = #[] := Array.eq_empty_of_size_eq_zero h1
  have hr := a2y R (ds := ds) _ h2
  refine ⟨.func (.func f) #[] (caps.map (Act.mk tm ds).eval), ?_, .clo f cs _ ?_ fun i l hl => ?_⟩
  ·simp only [execOp, ho]
   exact a3d (by simp [Instr.makeFunc])
  ·have := hr.1; simp at this; simpa using this
  ·obtain ⟨v, hv, hrv⟩ := hr.2 i l hl
   have : (caps.map (Act.mk tm ds).eval)[i]? = some v := by rw [← Array.getElem?_toList, Array.toList_map]; exact hv
   rw [Array.getD_eq_getD_getElem?, this]
   exact hrv
 ·rename_i T x lo hi mx ho
  simp only [Rd.ev_bind, Option.bind_eq_some_iff] at h
  obtain ⟨va, h1, h2⟩ := h
  obtain ⟨v, k1, k2⟩ := c0p R (ds := ds) h2 (D7 h1 R (ds := ds))
  refine ⟨v, ?_, k2⟩
  simp only [execOp, ho]
  exact a3d k1
 ·rename_i T x f ho
  simp only [Rd.ev_bind, Option.bind_eq_some_iff] at h
  obtain ⟨va, h1, h2⟩ := h
  obtain ⟨v, k1, k2⟩ := b0t (P := cx.P) h2 (D7 h1 R (ds := ds))
  refine ⟨v, ?_, k2⟩
  simp only [execOp, ho]
  exact a3d k1
 ·rename_i T x f ho
  simp only [Rd.ev_bind, Option.bind_eq_some_iff] at h
  obtain ⟨va, h1, h2⟩ := h
  obtain ⟨v, k1, k2⟩ := c0a (P := cx.P) h2 (D7 h1 R (ds := ds))
  refine ⟨v, ?_, k2⟩
  simp only [execOp, ho]
  exact a3d k1
 ·rename_i T x i ho
  simp only [Rd.ev_bind, Option.bind_eq_some_iff] at h
  obtain ⟨va, h1, vi, h2, h3⟩ := h
  obtain ⟨v, k1, k2⟩ := b0n (P := cx.P) R h3 (D7 h1 R (ds := ds)) (D7 h2 R (ds := ds))
  refine ⟨v, ?_, k2⟩
  simp only [execOp, ho]
  exact a3d k1
 ·rename_i T x i ho
  simp only [Rd.ev_bind, Option.bind_eq_some_iff] at h
  obtain ⟨va, h1, vi, h2, h3⟩ := h
  obtain ⟨v, k1, k2⟩ := c1m (P := cx.P) h3 (D7 h1 R (ds := ds)) (D7 h2 R (ds := ds))
  refine ⟨v, ?_, k2⟩
  simp only [execOp, ho]
  exact a3d k1
 ·rename_i x i ho
  simp only [Rd.ev_bind, Option.bind_eq_some_iff] at h
  obtain ⟨va, h1, h2⟩ := h
  have hx := D7 h1 R (ds := ds)
  split at h2
  ·split at h2
   ·rename_i vs _ u hu
    simp only [Rd.ev_ret, Option.some.injEq] at h2
    subst h2
    obtain ⟨cs, hv, hsz, hl⟩ := hx.tup_inv
    have hi : i < vs.length := (List.getElem?_eq_some_iff.1 hu).1
    refine ⟨cs.getD i Go.undef, ?_, hl i _ hu⟩
    have hcs : cs[i]? = some (cs.getD i Go.undef) := by simp [Array.getD, show i < cs.size by omega]
    simp only [execOp, ho, hv]
    refine a3d ?_
    simp only [Instr.extract, hcs]
    rfl
   ·simp at h2
  ·simp at h2
 ·rename_i c ho
  split at h
  ·rename_i hcal
   split at h
   ·rename_i x T hx hT
    simp only [Rd.ev_bind, C1, Option.bind_eq_some_iff] at h
    obtain ⟨va, h1, _, h2, h3⟩ := h
    obtain ⟨v, k1, k2⟩ := c7h (P := cx.P) h3 (C4 h2) (D7 h1 R (ds := ds)) c.argTypes (by rw [d4c hT]; rfl) o.type
    refine ⟨v, ?_, k2⟩
    simp only [execOp, ho, resolve, hcal, d4c hx]
    simp only [Sem.run_bind, Sem.run_pure, Result.andThen_ok, invoke, builtin, List.map_toArray, List.map_cons, List.map_nil]
    rw [k1]
    rfl
   ·simp at h
  ·rename_i hcal
   simp only [Rd.ev_bind, Option.bind_eq_some_iff] at h
   obtain ⟨vs, h1, h2⟩ := h
   split at h2
   ·rename_i a0 r
    have hr := a2y R (ds := ds) _ h1
    have hargs : (c.args.map (Act.mk tm ds).eval).toList = c.args.toList.map (Act.mk tm ds).eval := Array.toList_map ..
    cases hl : c.args.toList.map (Act.mk tm ds).eval with
    | nil => rw [hl] at hr; have := hr.1; simp at this
    | cons v0 vr =>
     rw [hl] at hr
     obtain ⟨y, hy, hr0⟩ := hr.2 0 a0 rfl
     cases hy
     obtain ⟨v, k1, k2⟩ := c8v (P := cx.P) (w := w) (a := .undef) (va := Go.undef) r vr a0 v0 h2 hr0 (by simpa using hr.drop 1)
     refine ⟨v, ?_, k2⟩
     simp only [execOp, ho, resolve, hcal]
     simp only [Sem.run_bind, Sem.run_pure, Result.andThen_ok, invoke, builtin, Builtin.max_, hargs, hl]
     rw [k1]
     rfl
   ·simp at h2
  ·rename_i hcal
   simp only [Rd.ev_bind, Option.bind_eq_some_iff] at h
   obtain ⟨vs, h1, h2⟩ := h
   split at h2
   ·rename_i a0 r
    have hr := a2y R (ds := ds) _ h1
    have hargs : (c.args.map (Act.mk tm ds).eval).toList = c.args.toList.map (Act.mk tm ds).eval := Array.toList_map ..
    cases hl : c.args.toList.map (Act.mk tm ds).eval with
    | nil => rw [hl] at hr; have := hr.1; simp at this
    | cons v0 vr =>
     rw [hl] at hr
     obtain ⟨y, hy, hr0⟩ := hr.2 0 a0 rfl
     cases hy
     obtain ⟨v, k1, k2⟩ := c9s (P := cx.P) (w := w) (a := .undef) (va := Go.undef) r vr a0 v0 h2 hr0 (by simpa using hr.drop 1)
     refine ⟨v, ?_, k2⟩
     simp only [execOp, ho, resolve, hcal]
     simp only [Sem.run_bind, Sem.run_pure, Result.andThen_ok, invoke, builtin, Builtin.min_, hargs, hl]
     rw [k1]
     rfl
   ·simp at h2
  ·simp at h
 ·simp at h
def a2s : Op → Bool
 | .call c => match c.callee with
  | .value _ => true
  | _ => false
 | _ => false
theorem c3h (cx : Cx) (hgl : GlOk Γ cx) (hOA : ∀ b, O0 b → A b) (R : Rel Γ w0 A O0 ν0 N Fl.emp D st ν tm w) {ds : List Deferred} {o : Oper} {a : AV} {st' : St} (hc : a2s o.op = false)
  (h : (aopV cx o).go C st = some (a, st')) :
  ∃ D' ν' w', Rel Γ w0 A O0 ν0 N Fl.emp D' st' ν' tm w' ∧ ((∃ v, (execOp (Act.mk tm ds).eval o).run cx.P w = .ok (.value v) w' ∧ RS st' ν' w' D' a v) ∨
   ((execOp (Act.mk tm ds).eval o).run cx.P w = .ok .skip w' ∧ o.dst = none)) := by
 have viaV : (up (opV cx o.op)).go C st = some (a, st') → ∃ D' ν' w', Rel Γ w0 A O0 ν0 N Fl.emp D' st' ν' tm w' ∧ ((∃ v, (execOp (Act.mk tm ds).eval o).run cx.P w = .ok (.value v) w' ∧ RS st' ν' w' D' a v) ∨
   ((execOp (Act.mk tm ds).eval o).run cx.P w = .ok .skip w' ∧ o.dst = none)) := by
  intro h
  simp only [RW.go_up, Option.map_eq_some_iff] at h
  obtain ⟨a', h1, h2⟩ := h
  cases h2
  obtain ⟨v, k1, k2⟩ := c7j cx hgl R (ds := ds) h1
  exact ⟨D, ν, w, R, .inl ⟨v, k1, k2⟩⟩
 unfold aopV at h
 split at h
 ·rename_i x ho
  simp only [RW.go_bind, RW.go_up, Option.bind_eq_some_iff, Option.map_eq_some_iff] at h
  obtain ⟨_, ⟨v, h1, rfl⟩, h⟩ := h
  have hx := D7 h1 R (ds := ds)
  simp only at h
  split at h
  ·obtain ⟨ν', R', hr⟩ := b7q R h hx
   exact ⟨D, ν', w, R', .inl ⟨_, by simp only [execOp, ho]; rfl, hr⟩⟩
  ·simp only [RW.go_pure, Option.some.injEq, Prod.mk.injEq] at h
   obtain ⟨rfl, rfl⟩ := h
   exact ⟨D, ν, w, R, .inl ⟨_, by simp only [execOp, ho]; rfl, hx⟩⟩
 ·rename_i T ho
  simp only [RW.go_bind, RW.go_up, RW.go_wr, RW.go_pure, C1, S1, Option.map_some, Option.bind_some, Option.bind_eq_some_iff, Option.map_eq_some_iff] at h
  obtain ⟨_, ⟨d, h1, rfl⟩, _, ⟨_, h2, rfl⟩, h3⟩ := h
  obtain ⟨q1, q2⟩ := C4 h2
  cases h3
  obtain ⟨ν', w', k1, k2, k3⟩ := c2a (P := cx.P) R (T := T) (d := d) (Nat.lt_succ_self _) q1 q2
  exact ⟨D, ν', w', k2, .inl ⟨_, by simp only [execOp, ho]; exact a3d k1, k3⟩⟩
 ·rename_i T x ho
  simp only [RW.go_bind, RW.go_up, RW.go_wr, RW.go_pure, C1, S1, Option.map_some, Option.bind_some, Option.bind_eq_some_iff, Option.map_eq_some_iff] at h
  obtain ⟨_, ⟨d, h1, rfl⟩, _, ⟨v, h2, rfl⟩, ⟨v', st1⟩, h3, h4⟩ := h
  cases h4
  obtain ⟨D', ν', w', k1, k2, k3⟩ := c5j (P := cx.P) hOA R T h3 (D7 h2 R (ds := ds)) (g := F9 (st1 (.h d)) + 1) (Nat.lt_succ_self _)
  exact ⟨D', ν', w', k2, .inl ⟨_, by simp only [execOp, ho]; exact a3d k1, k3⟩⟩
 ·rename_i T n parts ho
  simp only [RW.go_bind, RW.go_up, RW.go_wr, RW.go_pure, C1, S1, Option.map_some, Option.bind_some, Option.bind_eq_some_iff, Option.map_eq_some_iff] at h
  obtain ⟨_, ⟨d, h1, rfl⟩, _, ⟨E, h2, rfl⟩, _, ⟨_, h3, rfl⟩, ⟨es, st1⟩, h4, h5⟩ := h
  obtain ⟨hE, hEb⟩ := a0c h2
  obtain ⟨q1, q2, q3, q4⟩ := C4 h3
  cases h5
  obtain ⟨D', ν', w', k1, k2, k3⟩ := a8x (P := cx.P) hOA R (ds := ds) hE q1 q2 q3 h4 (id := tid d 0) (g := F9 (st1 (.h (tid d 0))) + 1) (Nat.lt_succ_self _) q4
  exact ⟨D', ν', w', k2, .inl ⟨_, by simp only [execOp, ho]; exact a3d k1, k3⟩⟩
 ·rename_i T l c ho
  simp only [RW.go_bind, RW.go_up, RW.go_wr, RW.go_pure, C1, S1, Option.map_some, Option.bind_some, Option.bind_eq_some_iff, Option.map_eq_some_iff] at h
  obtain ⟨_, ⟨d, h1, rfl⟩, _, ⟨vl, h2, rfl⟩, _, ⟨vc, h3, rfl⟩, _, ⟨n, h4, rfl⟩, _, ⟨n', h5, rfl⟩, _, ⟨E, h6, rfl⟩, _, ⟨_, h7, rfl⟩, h8⟩ := h
  obtain ⟨hE, hEb⟩ := a0c h6
  obtain ⟨q0, q1, q2, q3, q4, q5⟩ := C4 h7
  cases h8
  obtain ⟨kl, rfl⟩ := a3t h4
  obtain ⟨kc, rfl⟩ := a3t h5
  have hl := (D7 h2 R (ds := ds)).val_inv
  have hcc := (D7 h3 R (ds := ds)).val_inv
  simp only at q0 q1
  subst q0
  obtain ⟨ν', w', k1, k2, k3⟩ := b0v (P := cx.P) R (k := kl) (k' := kc) hE q1 q2 q3 q4 (id := tid d 0) (g := F9 (st (.h (tid d 0))) + 1) (Nat.lt_succ_self _)
  exact ⟨D, ν', w', k2, .inl ⟨_, by simp only [execOp, ho, hl, hcc]; exact a3d k1, k3⟩⟩
 ·rename_i c ho
  split at h
  ·rename_i hcal
   split at h
   ·rename_i x y T T' hx hT
    simp only [RW.go_bind, RW.go_up, C1, Option.bind_eq_some_iff, Option.map_eq_some_iff] at h
    obtain ⟨_, ⟨d, h1, rfl⟩, _, ⟨_, h2, rfl⟩, _, ⟨va, h3, rfl⟩, _, ⟨vb, h4, rfl⟩, h5⟩ := h
    obtain ⟨v, w', D', ν', k1, k2, k3⟩ := b8e hOA R (P := cx.P) (T0 := o.type) h5 (D7 h3 R (ds := ds)) (D7 h4 R (ds := ds)) (C4 h2)
    refine ⟨D', ν', w', k2, .inl ⟨v, ?_, k3⟩⟩
    simp only [execOp, ho, resolve, hcal, d1v hx]
    simp only [Sem.run_bind, Sem.run_pure, Result.andThen_ok, invoke, builtin, List.map_toArray, List.map_cons, List.map_nil]
    rw [d1v hT, k1]
    rfl
   ·simp at h
  ·rename_i hcal
   split at h
   ·rename_i x y T T' hx hT
    simp only [RW.go_bind, RW.go_up, Option.bind_eq_some_iff, Option.map_eq_some_iff] at h
    obtain ⟨_, ⟨va, h3, rfl⟩, _, ⟨vb, h4, rfl⟩, h5⟩ := h
    obtain ⟨v, w', ν', k1, k2, k3⟩ := c3i hOA R (P := cx.P) (T' := T') (T0 := o.type) h5 (D7 h3 R (ds := ds)) (D7 h4 R (ds := ds))
    refine ⟨D, ν', w', k2, .inl ⟨v, ?_, k3⟩⟩
    simp only [execOp, ho, resolve, hcal, d1v hx]
    simp only [Sem.run_bind, Sem.run_pure, Result.andThen_ok, invoke, builtin, List.map_toArray, List.map_cons, List.map_nil]
    rw [d1v hT, k1]
    rfl
   ·simp at h
  ·rename_i f hcal
   rw [ho] at hc
   simp [a2s, hcal] at hc
  ·exact viaV h
 ·rename_i T x y ho
  simp only [RW.go_bind, RW.go_up, RW.go_pure, C1, Option.bind_eq_some_iff, Option.map_eq_some_iff] at h
  obtain ⟨_, ⟨_, h1, rfl⟩, _, ⟨p, h2, rfl⟩, _, ⟨v, h3, rfl⟩, ⟨⟨⟩, st1⟩, h4, h5⟩ := h
  have hd := C4 h1
  cases h5
  obtain ⟨D', ν', w', k1, k2⟩ : ∃ D' ν' w', (Instr.storeAt T (Act.eval ⟨tm, ds⟩ x) (Act.eval ⟨tm, ds⟩ y)).run cx.P w = .ok () w' ∧ Rel Γ w0 A O0 ν0 N Fl.emp D' st1 ν' tm w' := by
   unfold b3x at h4
   split at h4
   ·rename_i hsl
    exact b6y hOA R hsl (P := cx.P) h4 (D7 h2 R (ds := ds)) (D7 h3 R (ds := ds))
   ·exact a4p hOA R (P := cx.P) h4 (D7 h2 R (ds := ds)) (D7 h3 R (ds := ds))
  refine ⟨D', ν', w', k2, .inr ⟨?_, hd⟩⟩
  simp only [execOp, ho, Sem.run_bind, k1]
  rfl
 ·exact viaV h
theorem d2u (cx : Cx) (hgl : GlOk Γ cx) (hOA : ∀ b, O0 b → A b) (R : Rel Γ w0 A O0 ν0 N Fl.emp D st ν tm w) {ds : List Deferred} {o : Oper} {st' : St} (hc : a2s o.op = false) (hd : ∀ d, o.dst = some d → d < N)
  (h : (aop cx o).go C st = some ((), st')) {next : Act → World → Prop} {Q : Exit → Act → World → Prop}
  (hn : ∀ D' ν' tm' w', Rel Γ w0 A O0 ν0 N Fl.emp D' st' ν' tm' w' → next ⟨tm', ds⟩ w') : o.wp cx.P ⟨tm, ds⟩ w next Q := by
 unfold aop at h
 simp only [RW.go_bind, RW.go_wr, Option.bind_eq_some_iff, Option.some.injEq] at h
 obtain ⟨⟨a, st1⟩, h1, h2⟩ := h
 cases h2
 obtain ⟨D', ν', w', R', hr⟩ := c3h cx hgl hOA R (ds := ds) hc h1
 rcases hr with ⟨v, hrun, hv⟩ | ⟨hrun, hd0⟩
 ·exact c2l (ws := []) (st := st1) hrun R' hv hd hn
 ·rw [Oper.wp, hrun, Oper.upon_skip]
  have : setD o a = [] := by unfold setD; rw [hd0]
  rw [this] at hn
  simp only [Act.put, hd0]
  exact hn _ _ _ _ R'
end
section
variable {P : Program} {C : Caller} {Γ : Env} {w0 : World} {A O0 : Nat → Prop} {ν0 : Nu} {N : Nat} {F : Fl} {D : Nat → Prop} {st : St} {ν : Nu} {tm : Array Value} {w : World}
theorem b6j {φ : Path → Base} {base : Base} {s off n : Nat} {es : List AV} {v : Value} {D2 : Nat → Prop} (hRN : RN w (RS st ν w D) φ base False s es)
  (hsub : ∀ i j s' es', leafAt es i j = some (.own s' es') → RN w (RS st ν w D) φ (φ (some (i, j))) False s' es' ∧ Z0 es')
  (hr : D6 ((es.drop off).take n) = true) (hD : ∀ b, D b → D2 b) (hb : ∀ b o, base = some (b, o) → D2 b)
  (hb' : ∀ i j s' es' b o, leafAt es i j = some (.own s' es') → φ (some (i, j)) = some (b, o) → D2 b) (hv : SlV w base s off n v) (hle : off + n ≤ es.length) :
  RV w D2 (.list (frzL ((es.drop off).take n))) v := by
 obtain ⟨a, cap, rfl, h1, h2⟩ := hv
 have hlen : (frzL ((es.drop off).take n)).length = n := by rw [Q5]; simp; omega
 have key : RV w D2 (.list (frzL ((es.drop off).take n))) (.slice a (frzL ((es.drop off).take n)).length cap) := by
  rcases h2 with h2 | ⟨b, o, hbo, ha, hsz⟩
  ·have hn : n = 0 := by omega
   subst hn
   simp only [List.take_zero, frzL, List.length_nil]
   exact .list [] a cap 0 0 0 (fun _ _ => Go.undef) (by simp) (fun hne => (hne rfl).elim) (fun e he => by cases he) (fun i j l hl => by simp [leafAt] at hl) (fun i j l hl => by simp [leafAt] at hl)
  ·subst hbo
   have hsized := hRN.sized
   obtain ⟨c, ety, k1, k2, k3, _, k4⟩ := hRN
   have hsub2 : ∀ i j l, leafAt (frzL ((es.drop off).take n)) i j = some l → ∃ l0, l = frz l0 ∧ leafAt ((es.drop off).take n) i j = some l0 ∧ leafAt es (off + i) j = some l0 := by
    intro i j l hl
    rw [M0] at hl
    cases hl0 : leafAt ((es.drop off).take n) i j with
    | none => simp [hl0] at hl
    | some l0 =>
     simp only [hl0, Option.map_some, Option.some.injEq] at hl
     refine ⟨l0, hl.symm, rfl, ?_⟩
     have := J1 hl0
     unfold leafAt at this ⊢
     rwa [List.getElem?_drop] at this
   refine .list _ a cap b (o + off * s) s (fun i j => (c[o + (off + i) * s + j]?).getD Go.undef) (by rw [hlen]; exact h1)
    (fun hne => ⟨ha, hb b o rfl, ?_⟩) (fun e he => ?_) (fun i j l hl => ?_) (fun i j l hl => ?_)
   ·rcases Nat.lt_or_ge b w.heap.size with h' | h'
    ·exact h'
    ·rw [Array.getElem?_eq_none h'] at k1; cases k1
   ·rw [M2] at he
    obtain ⟨e0, he0, rfl⟩ := List.mem_map.1 he
    rw [W6, List.length_map]
    exact hsized e0 (List.mem_of_mem_drop (List.mem_of_mem_take he0))
   ·obtain ⟨l0, rfl, _, hl0⟩ := hsub2 i j l hl
    obtain ⟨x, hx, _⟩ := k4 _ _ _ hl0
    simp only [World.cell?, k1]
    rw [hx, show o + off * s + i * s + j = o + (off + i) * s + j from by rw [Nat.add_mul]; omega, hx]
    rfl
   ·obtain ⟨l0, rfl, hl1, hl0⟩ := hsub2 i j l hl
    obtain ⟨x, hx, hr'⟩ := k4 _ _ _ hl0
    simp only [hx, Option.getD_some]
    rcases N2 hr hl1 with ho | hi
    ·cases l0 <;> simp [isOwn] at ho
     rename_i s2 es2
     obtain ⟨q1, q2⟩ := hsub _ _ _ _ hl0
     have hfr : frzL es2 = es2 := U2 (a2r q2)
     simp only [frz, hfr]
     have := Q4 (st := st) (ν := ν) (D := D2)
      (q1.mono rfl (fun _ _ _ => rfl) (fun a v h => h.same (Ext.refl _ _ _) hD) (fun _ _ _ _ _ => ⟨rfl, fun _ _ _ => rfl⟩)) q2 (fun b o hbb => hb' _ _ _ _ b o hl0 hbb) (off := 0) (n := es2.length) hr' (by omega)
     simpa only [List.drop_zero, List.take_length] using this
    ·rw [V5 hi]
     have : RS st ν w D l0 x := by cases l0 <;> first | exact hr' | simp [immLeaf] at hi
     exact (this.imm hi).mono (fun b hb _ => ⟨rfl, hD b hb⟩) (Nat.le_refl _)
 rwa [hlen] at key
def Blk (st : St) (F : Fl) (ν : Nu) (id b : Nat) : Prop := ∃ q o, live st F (.nd id q) ∧ ν id q = some (b, o)
def slId : AV → Nat → Prop
 | .sl id _ _ _ _, i => i = id
 | _, _ => False
theorem b3y (R : Rel Γ w0 A O0 ν0 N F D st ν tm w) {v v' : AV} {val : Value} (h : (passLeaf v).ev C st = some v') (hv : RS st ν w D v val) :
  RV w (fun b => D b ∨ ∃ id, slId v id ∧ Blk st F ν id b) v' val := by
 have viaD : ∀ {u : AV}, RV w D u val → RV w (fun b => D b ∨ ∃ id, slId v id ∧ Blk st F ν id b) u val := fun h => h.mono (fun b hb _ => ⟨rfl, .inl hb⟩) (Nat.le_refl _)
 unfold passLeaf at h
 split at h
 ·rename_i id g p off n
  simp only [Rd.ev_bind, C1, Rd.ev_ret, Option.bind_eq_some_iff] at h
  obtain ⟨es, h1, _, h2, h3⟩ := h
  have h2 := C4 h2
  cases h3
  simp only [slc, Rd.ev_bind, C1, Rd.ev_ret, Option.bind_eq_some_iff] at h1
  obtain ⟨⟨m, s, es0⟩, h4, _, h5, h6⟩ := h1
  rw [G3] at h4
  obtain ⟨hbx, hle⟩ := C4 h5
  cases h6
  obtain ⟨_, _, _, hsl⟩ := hv.sl_inv
  have hsl := hsl _ _ _ h4
  obtain ⟨hRN, hno⟩ := R.node h4
  have hRN := hRN.unbx (O1 hbx)
  obtain ⟨s1, es1, ho, hp⟩ := J9 h4
  have hRO := R.objs id g m s1 es1 ho
  have hblk : ∀ q b o, livePath es1 q → ν id q = some (b, o) → D b ∨ ∃ id', slId (.sl id g p off n) id' ∧ Blk st F ν id' b := by
   intro q b o hq hb
   by_cases hm : m = 2
   ·subst hm
    obtain ⟨hf1, hf2⟩ := R.frozen id g s1 es1 ho
    cases q with
    | none => exact .inl (hf1 b o hb)
    | some q =>
     obtain ⟨s', es', hl⟩ := hq q rfl
     have := I6 hf2 hl
     simp [immLeaf] at this
   ·exact .inr ⟨id, rfl, q, o, ⟨g, m, s1, es1, ho, hm, hq⟩, hb⟩
  rcases hp with ⟨rfl, rfl, rfl⟩ | ⟨i, j, rfl, hl⟩
  ·exact b6j hRN (fun i j s' es' hl => hRO.sub i j s' es' hl) h2 (fun b hb => .inl hb) (fun b o hb => hblk none b o (fun _ hq => by cases hq) hb)
    (fun i j s' es' b o hl hb => hblk (some (i, j)) b o (fun q hq => by cases hq; exact ⟨s', es', hl⟩) hb) hsl hle
  ·have hno := hno (by simp)
   exact b6j (φ := ν id) hRN (fun i' j' s' es' hl' => by have := hno _ _ _ hl'; simp [immLeaf] at this) h2 (fun b hb => .inl hb)
    (fun b o hb => hblk (some (i, j)) b o (fun q hq => by cases hq; exact ⟨_, _, hl⟩) hb)
    (fun i' j' s' es' b o hl' hb => by have := hno _ _ _ hl'; simp [immLeaf] at this) hsl hle
 ·simp only [Rd.ev_ret, Option.some.injEq] at h
  subst h
  obtain ⟨a, rfl⟩ := hv.nil_inv
  exact RV.list_nil a
 ·simp only [Rd.ev_ret, Option.some.injEq] at h
  subst h
  obtain rfl := hv.val_inv
  exact .val _
 ·simp only [Rd.ev_ret, Option.some.injEq] at h
  subst h
  exact viaD hv.list_inv
 ·simp only [Rd.ev_ret, Option.some.injEq] at h
  subst h
  exact viaD (hv.imm rfl)
 ·simp only [Rd.ev_ret, Option.some.injEq] at h
  subst h
  exact viaD (hv.imm rfl)
 ·simp at h
end
section
variable {P : Program} {C : Caller} {Γ : Env} {w0 : World} {A O0 : Nat → Prop} {ν0 : Nu} {N : Nat} {F : Fl} {D : Nat → Prop} {st : St} {ν : Nu} {tm : Array Value} {w : World}
def DL (D : Nat → Prop) (st : St) (F : Fl) (ν : Nu) (ids : List (Nat × Bool)) (b : Nat) : Prop := D b ∨ ∃ id, (id, false) ∈ ids ∧ Blk st F ν id b
theorem DL.mono {ids ids' : List (Nat × Bool)} (h : ∀ x ∈ ids, x ∈ ids') {b : Nat} (hb : DL D st F ν ids b) : DL D st F ν ids' b := by
 rcases hb with hb | ⟨id, hi, hb⟩
 ·exact .inl hb
 ·exact .inr ⟨id, h _ hi, hb⟩
theorem RV.wider {D2 : Nat → Prop} {a : AV} {v : Value} (h : RV w D a v) (hD : ∀ b, D b → D2 b) : RV w D2 a v := h.mono (fun b hb _ => ⟨rfl, hD b hb⟩) (Nat.le_refl _)
theorem a8t {b : Bool} {fs : List AV} {id : Nat} : (id, b) ∈ slIds b fs ↔ ∃ l ∈ fs, slId l id := by
 unfold slIds
 rw [List.mem_filterMap]
 constructor
 ·rintro ⟨l, hl, h⟩
  refine ⟨l, hl, ?_⟩
  cases l <;> simp at h
  exact h.symm
 ·rintro ⟨l, hl, h⟩
  refine ⟨l, hl, ?_⟩
  cases l <;> simp [slId] at h
  rw [h]
theorem U1 (R : Rel Γ w0 A O0 ν0 N F D st ν tm w) {v v' : AV} {val : Value} {ids : List (Nat × Bool)} (h : (passLeaf v).ev C st = some v') (hv : RS st ν w D v val)
  (hids : ∀ x ∈ slIds false [v], x ∈ ids) : RV w (DL D st F ν ids) v' val := by
 refine (b3y R h hv).wider fun b hb => ?_
 rcases hb with hb | ⟨id, h1, h2⟩
 ·exact .inl hb
 ·exact .inr ⟨id, hids _ (a8t.2 ⟨v, List.mem_cons_self .., h1⟩), h2⟩
theorem X0 (R : Rel Γ w0 A O0 ν0 N F D st ν tm w) {ids : List (Nat × Bool)} : ∀ (fs fs' : List AV) (cs : List Value), (passLeaves fs).ev C st = some fs' → RL st ν w D fs cs →
  (∀ x ∈ slIds false fs, x ∈ ids) → fs'.length = fs.length ∧ ∀ (i : Nat) (l : AV), fs'[i]? = some l → ∃ x : Value, cs[i]? = some x ∧ RV w (DL D st F ν ids) l x := by
 intro fs
 induction fs with
 | nil =>
  intro fs' cs h hr _
  simp only [passLeaves, Rd.ev_ret, Option.some.injEq] at h
  subst h
  exact ⟨rfl, fun i l hl => by simp at hl⟩
 | cons f fs ih =>
  intro fs' cs h hr hids
  simp only [passLeaves, Rd.ev_bind, Rd.ev_ret, Option.bind_eq_some_iff] at h
  obtain ⟨f', h1, r', h2, h3⟩ := h
  cases h3
  cases cs with
  | nil => have := hr.1; simp at this
  | cons c cs =>
   obtain ⟨c', hc', hrc⟩ := hr.2 0 f rfl
   cases hc'
   have hh : ∀ x ∈ slIds false [f], x ∈ ids := fun x hx => hids x (by
    obtain ⟨a, b⟩ := x
    unfold slIds at hx ⊢
    rw [List.mem_filterMap] at hx ⊢
    obtain ⟨l, hl, he⟩ := hx
    exact ⟨l, by simp at hl; rw [hl]; exact List.mem_cons_self .., he⟩)
   have ht : ∀ x ∈ slIds false fs, x ∈ ids := fun x hx => hids x (by
    unfold slIds at hx ⊢
    rw [List.mem_filterMap] at hx ⊢
    obtain ⟨l, hl, he⟩ := hx
    exact ⟨l, List.mem_cons_of_mem _ hl, he⟩)
   obtain ⟨q1, q2⟩ := ih r' cs h2 (by simpa using hr.drop 1) ht
   refine ⟨by simp [q1], fun i l hl => ?_⟩
   cases i with
   | zero =>
    simp only [List.getElem?_cons_zero, Option.some.injEq] at hl
    subst hl
    exact ⟨c, rfl, U1 R h1 hrc hh⟩
   | succ i =>
    simp only [List.getElem?_cons_succ] at hl ⊢
    exact q2 i l hl
theorem RV.agg' {fs : List AV} {cs : Array Value} (hs : cs.size = fs.length) (h : ∀ (i : Nat) (l : AV), fs[i]? = some l → ∃ x : Value, cs[i]? = some x ∧ RV w D l x) : RV w D (.agg fs) (.agg cs) := by
 refine .agg fs cs hs fun i l hl => ?_
 obtain ⟨x, hx, hr⟩ := h i l hl
 rw [Array.getD_eq_getD_getElem?, hx]
 exact hr
theorem Y6 {v v' : AV} (h : (passLeaf v).ev C st = some v') : isOwn v = false ∧ leaves v' = [v'] := by
 unfold passLeaf at h
 split at h <;> (try simp only [Rd.ev_bind, Rd.ev_ret, Rd.ev_fail, Option.bind_eq_some_iff, Option.some.injEq, reduceCtorEq] at h)
 ·obtain ⟨_, _, _, _, rfl⟩ := h; exact ⟨rfl, rfl⟩
 all_goals (subst h; exact ⟨rfl, rfl⟩)
theorem V0 : ∀ (fs fs' : List AV), (passLeaves fs).ev C st = some fs' → ∀ l ∈ fs, isOwn l = false := by
 intro fs
 induction fs with
 | nil => intro _ _ l hl; cases hl
 | cons f fs ih =>
  intro fs' h l hl
  simp only [passLeaves, Rd.ev_bind, Rd.ev_ret, Option.bind_eq_some_iff] at h
  obtain ⟨f', h1, r', h2, _⟩ := h
  cases hl with
  | head => exact (Y6 h1).1
  | tail _ hl => exact ih r' h2 l hl
theorem c5g {L : AV → Value → Prop} {φ : Path → Base} {b o s : Nat} {bx : Prop} {es : List AV} (hRN : RN w (RS st ν w D) φ (some (b, o)) bx s es) {i : Nat} {e : AV} (he : es[i]? = some e)
  (hno : ∀ l ∈ leaves e, isOwn l = false) :
  RL st ν w D (leaves e) ((List.range (leaves e).length).map fun k => (w.cell? ⟨b, o + i * s + k, none⟩).getD Go.undef) ∧
   ∀ k, k < (leaves e).length → w.cell? ⟨b, o + i * s + k, none⟩ = some ((w.cell? ⟨b, o + i * s + k, none⟩).getD Go.undef) := by
 have hc : ∀ k l0, (leaves e)[k]? = some l0 → ∃ x, w.cell? ⟨b, o + i * s + k, none⟩ = some x ∧ RS st ν w D l0 x := by
  intro k l0 hk
  obtain ⟨x, hx, hr⟩ := hRN.cell (i := i) (j := k) (l := l0) (by simp [leafAt, he, hk])
  exact ⟨x, hx, hr.notOwn (hno l0 (List.mem_of_getElem? hk))⟩
 refine ⟨⟨by simp, fun k l hk => ?_⟩, fun k hk => ?_⟩
 ·obtain ⟨x, hx, hr⟩ := hc k l hk
  have hkl := (List.getElem?_eq_some_iff.1 hk).1
  refine ⟨x, ?_, hr⟩
  rw [List.getElem?_map, List.getElem?_range hkl]
  simp [hx]
 ·obtain ⟨x, hx, _⟩ := hc k _ (List.getElem?_eq_getElem hk)
  rw [hx]; rfl
theorem a1i (R : Rel Γ w0 A O0 ν0 N F D st ν tm w) {v v' : AV} {val : Value} {a ids : List (Nat × Bool)} (h : (passCap v).ev C st = some (v', a)) (hv : RS st ν w D v val)
  (hids : ∀ x ∈ a, x ∈ ids) : RV w (DL D st F ν ids) v' val := by
 unfold passCap at h
 split at h
 ·simp only [Rd.ev_ret, Option.some.injEq, Prod.mk.injEq] at h
  obtain ⟨rfl, rfl⟩ := h
  exact hv.ipt_inv.wider fun b hb => .inl hb
 ·rename_i id g i j
  simp only [Rd.ev_bind, Option.bind_eq_some_iff] at h
  obtain ⟨⟨m, s, es⟩, h1, h2⟩ := h
  rw [G3] at h1
  have hst := K4 h1
  obtain ⟨_, _, _, hp⟩ := hv.ptr_inv
  obtain ⟨b, o, hbo, rfl⟩ := hp _ _ _ h1
  obtain ⟨hRN, _⟩ := R.node h1
  rw [hbo] at hRN
  have hlt : b < w.heap.size := hRN.lt rfl
  have hblk : (id, false) ∈ ids → DL D st F ν ids b := by
   intro hi
   by_cases hm : m = 2
   ·subst hm
    exact .inl ((R.frozen id g s es hst).1 b o hbo)
   ·exact .inr ⟨id, hi, none, o, ⟨g, m, s, es, hst, hm, fun _ hq => by cases hq⟩, hbo⟩
  have fin : ∀ (e e' : AV), es[i]? = some e → (∀ l ∈ leaves e, isOwn l = false) → (id, false) ∈ ids → (leaves e').length = (leaves e).length →
    (∀ (cs : List Value), RL st ν w D (leaves e) cs → ∀ (k : Nat) (l : AV), (leaves e')[k]? = some l → ∃ x : Value, cs[k]? = some x ∧ RV w (DL D st F ν ids) l x) →
    RV w (DL D st F ν ids) (.ipt e' j) (.pointer (some ⟨b, o + i * s + j, none⟩)) := by
   intro e e' he hno hi hlen hl
   obtain ⟨hRL, hcell⟩ := c5g (L := fun _ _ => True) hRN he hno
   have hl := hl _ hRL
   refine .ipt e' j b (o + i * s) (fun k => (w.cell? ⟨b, o + i * s + k, none⟩).getD Go.undef) ⟨hblk hi, hlt⟩ (fun k l hk => ?_) (fun k l hk => ?_)
   ·have hkl : k < (leaves e).length := by have := (List.getElem?_eq_some_iff.1 hk).1; omega
    exact hcell k hkl
   ·have hkl : k < (leaves e).length := by have := (List.getElem?_eq_some_iff.1 hk).1; omega
    obtain ⟨x, hx, hr⟩ := hl k l hk
    rw [List.getElem?_map, List.getElem?_range hkl] at hx
    simp only [Option.map_some, Option.some.injEq] at hx
    rw [hx]
    exact hr
  simp only at h2
  split at h2
  ·rename_i fs he
   simp only [Rd.ev_bind, Rd.ev_ret, Option.bind_eq_some_iff] at h2
   obtain ⟨fs', h3, h4⟩ := h2
   cases h4
   refine fin (.agg fs) (.agg fs') he (V0 fs fs' h3) (hids _ (List.mem_cons_self ..)) ?_ fun cs hcs => ?_
   ·have hRL0 := (c5g (L := fun _ _ => True) hRN he (V0 fs fs' h3)).1
    exact (X0 R fs fs' _ h3 hRL0 (fun x hx => hids x (List.mem_cons_of_mem _ hx))).1
   ·exact (X0 R fs fs' cs h3 hcs (fun x hx => hids x (List.mem_cons_of_mem _ hx))).2
  ·rename_i e hna he
   simp only [Rd.ev_bind, Rd.ev_ret, Option.bind_eq_some_iff] at h2
   obtain ⟨e', h3, h4⟩ := h2
   cases h4
   have hle : leaves e = [e] := by
    rcases Z4 e with ⟨fs, rfl⟩ | ⟨_, h⟩
    ·exact (hna fs rfl).elim
    ·exact h
   obtain ⟨hno, hle'⟩ := Y6 h3
   refine fin e e' he (fun l hl => by rw [hle] at hl; simp at hl; rw [hl]; exact hno) (hids _ (List.mem_cons_self ..)) (by rw [hle, hle']; rfl) fun cs hcs k l hk => ?_
   rw [hle'] at hk
   rw [hle] at hcs
   cases k with
   | succ k => simp at hk
   | zero =>
    simp only [List.getElem?_cons_zero, Option.some.injEq] at hk
    subst hk
    obtain ⟨x, hx, hr⟩ := hcs.2 0 e rfl
    exact ⟨x, hx, U1 R h3 hr (fun x hx => hids x (List.mem_cons_of_mem _ hx))⟩
  ·simp at h2
 ·simp only [Rd.ev_bind, Rd.ev_ret, Option.bind_eq_some_iff] at h
  obtain ⟨v1, h1, h2⟩ := h
  cases h2
  exact U1 R h1 hv hids
end
section
variable {P : Program} {C : Caller} {Γ : Env} {w0 : World} {A O0 : Nat → Prop} {ν0 : Nu} {N : Nat} {F : Fl} {D : Nat → Prop} {st : St} {ν : Nu} {tm : Array Value} {w : World}
theorem c0x (R : Rel Γ w0 A O0 ν0 N F D st ν tm w) {ids : List (Nat × Bool)} : ∀ (fs fs' : List AV) (a : List (Nat × Bool)) (cs : List Value), (passCaps fs).ev C st = some (fs', a) → RL st ν w D fs cs →
  (∀ x ∈ a, x ∈ ids) → fs'.length = fs.length ∧ ∀ (i : Nat) (l : AV), fs'[i]? = some l → ∃ x : Value, cs[i]? = some x ∧ RV w (DL D st F ν ids) l x := by
 intro fs
 induction fs with
 | nil =>
  intro fs' a cs h hr _
  simp only [passCaps, Rd.ev_ret, Option.some.injEq, Prod.mk.injEq] at h
  obtain ⟨rfl, rfl⟩ := h
  exact ⟨rfl, fun i l hl => by simp at hl⟩
 | cons f fs ih =>
  intro fs' a cs h hr hids
  simp only [passCaps, Rd.ev_bind, Rd.ev_ret, Option.bind_eq_some_iff] at h
  obtain ⟨⟨f', a1⟩, h1, ⟨r', a2⟩, h2, h3⟩ := h
  cases h3
  cases cs with
  | nil => have := hr.1; simp at this
  | cons c cs =>
   obtain ⟨c', hc', hrc⟩ := hr.2 0 f rfl
   cases hc'
   obtain ⟨q1, q2⟩ := ih r' a2 cs h2 (by simpa using hr.drop 1) (fun x hx => hids x (List.mem_append_right _ hx))
   refine ⟨by simp [q1], fun i l hl => ?_⟩
   cases i with
   | zero =>
    simp only [List.getElem?_cons_zero, Option.some.injEq] at hl
    subst hl
    exact ⟨c, rfl, a1i R h1 hrc (fun x hx => hids x (List.mem_append_left _ hx))⟩
   | succ i =>
    simp only [List.getElem?_cons_succ] at hl ⊢
    exact q2 i l hl
theorem a6p {v : AV} {es : List AV} {st' : St} (h : (freeze v).go C st = some (es, st')) : ∀ k, ¬ slId v k → st' (.h k) = st (.h k) := by
 intro k hk
 unfold freeze at h
 split at h
 ·simp only [RW.go_pure, Option.some.injEq, Prod.mk.injEq] at h; rw [h.2]
 ·simp only [RW.go_pure, Option.some.injEq, Prod.mk.injEq] at h; rw [h.2]
 ·rename_i id g p off n
  have hne : k ≠ id := fun e => hk e
  simp only [RW.go_bind, RW.go_up, C1, Option.bind_eq_some_iff, Option.map_eq_some_iff] at h
  obtain ⟨_, ⟨⟨m', s', es'⟩, h1, rfl⟩, _, ⟨_, h2, rfl⟩, h⟩ := h
  simp only at h
  split at h
  ·simp only [RW.go_pure, Option.some.injEq, Prod.mk.injEq] at h; rw [← h.2]
  ·simp only [RW.go_bind, RW.go_up, C1, Option.bind_eq_some_iff, Option.map_eq_some_iff] at h
   obtain ⟨_, ⟨_, h3, rfl⟩, h⟩ := h
   cases p with
   | none =>
    simp only [RW.go_bind, RW.go_wr, RW.go_pure, Option.bind_some, Option.some.injEq, Prod.mk.injEq] at h
    rw [← h.2]
    exact J4 _ _ _ hne
   | some q =>
    obtain ⟨i, j⟩ := q
    simp only [RW.go_bind, RW.go_up, S1, Option.map_some, Option.bind_some] at h
    split at h
    ·split at h
     ·simp only [RW.go_bind, RW.go_wr, RW.go_pure, Option.bind_some, Option.some.injEq, Prod.mk.injEq] at h
      rw [← h.2]
      exact J4 _ _ _ hne
     ·simp at h
    ·simp at h
 ·simp at h
theorem b5z {v : AV} (h : ∀ id g p off n, v ≠ .sl id g p off n) (b : Bool) : slIds b [v] = [] := by
 cases v <;> first | rfl | exact (h _ _ _ _ _ rfl).elim
theorem a3v (hOA : ∀ b, O0 b → A b) {κ : FK} (hκ : F κ = none) (R : Rel Γ w0 A O0 ν0 N F D st ν tm w) {v v' : AV} {st' : St} {val : Value}
  (h : (keepLeaf v).go C st = some (v', st')) (hv : RS st ν w D v val) :
  ∃ D' : Nat → Prop, (∀ b, D b → D' b) ∧ Rel Γ w0 A O0 ν0 N F D' st' ν tm w ∧ Ext st ν w st' ν w ∧ RV w D' v' val ∧ ∀ k, ¬ slId v k → st' (.h k) = st (.h k) := by
 unfold keepLeaf at h
 split at h
 ·simp only [RW.go_bind, RW.go_pure, Option.bind_eq_some_iff] at h
  obtain ⟨⟨es, st1⟩, h1, h2⟩ := h
  cases h2
  obtain ⟨D', hD, R', E, hr⟩ := R4 hOA hκ R h1 hv
  exact ⟨D', hD, R', E, hr, a6p h1⟩
 ·rename_i hns
  simp only [RW.go_up, Option.map_eq_some_iff] at h
  obtain ⟨u, h1, h2⟩ := h
  cases h2
  have := U1 (ids := []) R h1 hv (by rw [b5z (fun id g p off n e => hns id g p off n e)]; simp)
  exact ⟨D, fun _ h => h, R, Ext.refl _ _ _, this.wider (fun b hb => by rcases hb with hb | ⟨id, h, _⟩; exact hb; cases h), fun _ _ => rfl⟩
theorem a8j (hOA : ∀ b, O0 b → A b) {κ : FK} (hκ : F κ = none) : ∀ (fs fs' : List AV) (cs : List Value) (D : Nat → Prop) (st st' : St),
  Rel Γ w0 A O0 ν0 N F D st ν tm w → (keepLeaves fs).go C st = some (fs', st') → RL st ν w D fs cs →
  ∃ D' : Nat → Prop, (∀ b, D b → D' b) ∧ Rel Γ w0 A O0 ν0 N F D' st' ν tm w ∧ Ext st ν w st' ν w ∧ (∀ k, (∀ l ∈ fs, ¬ slId l k) → st' (.h k) = st (.h k)) ∧
   fs'.length = fs.length ∧ ∀ (i : Nat) (l : AV), fs'[i]? = some l → ∃ x : Value, cs[i]? = some x ∧ RV w D' l x := by
 intro fs
 induction fs with
 | nil =>
  intro fs' cs D st st' R h hr
  simp only [keepLeaves, RW.go_pure, Option.some.injEq, Prod.mk.injEq] at h
  obtain ⟨rfl, rfl⟩ := h
  exact ⟨D, fun _ h => h, R, Ext.refl _ _ _, fun _ _ => rfl, rfl, fun i l hl => by simp at hl⟩
 | cons f fs ih =>
  intro fs' cs D st st' R h hr
  simp only [keepLeaves, RW.go_bind, RW.go_pure, Option.bind_eq_some_iff] at h
  obtain ⟨⟨f', st1⟩, h1, ⟨r', st2⟩, h2, h3⟩ := h
  cases h3
  cases cs with
  | nil => have := hr.1; simp at this
  | cons c cs =>
   obtain ⟨c', hc', hrc⟩ := hr.2 0 f rfl
   cases hc'
   obtain ⟨D1, hD1, R1, E1, hv1, hf1⟩ := a3v hOA hκ R h1 hrc
   have hr1 : RL st1 ν w D1 fs cs := by
    have := hr.drop 1
    simp only [List.drop_succ_cons, List.drop_zero] at this
    exact ⟨this.1, fun i l hl => by obtain ⟨v, a, b⟩ := this.2 i l hl; exact ⟨v, a, b.same E1 hD1⟩⟩
   obtain ⟨D2, hD2, R2, E2, hf2, hlen, hl2⟩ := ih r' cs D1 st1 st2 R1 h2 hr1
   refine ⟨D2, fun b hb => hD2 b (hD1 b hb), R2, E1.trans E2, fun k hk => ?_, by simp [hlen], fun i l hl => ?_⟩
   ·exact (hf2 k (fun l hl => hk l (List.mem_cons_of_mem _ hl))).trans (hf1 k (hk f (List.mem_cons_self ..)))
   ·cases i with
    | zero =>
     simp only [List.getElem?_cons_zero, Option.some.injEq] at hl
     subst hl
     exact ⟨c, rfl, hv1.wider hD2⟩
    | succ i =>
     simp only [List.getElem?_cons_succ] at hl ⊢
     exact hl2 i l hl
end
section
variable {P : Program} {C : Caller} {Γ : Env} {w0 : World} {A O0 : Nat → Prop} {ν0 : Nu} {N : Nat} {F : Fl} {D : Nat → Prop} {st : St} {ν : Nu} {tm : Array Value} {w : World}
def κA (i : Nat) : FK := (10 + i, 0, 0)
theorem P7 {es : List AV} (h : M3 es = true) : D6 es = true := by
 unfold D6
 rw [List.all_eq_true]
 intro e he
 have hie : I5 e = true := List.all_eq_true.1 h e he
 cases e <;> simp_all [I5, J5]
def Sep (a b : List (Nat × Bool)) : Prop := ∀ x ∈ a, ∀ y ∈ b, x.1 = y.1 → x.2 = false ∧ y.2 = false
theorem a3b {a b : List (Nat × Bool)} (h : apartIds (a ++ b) = true) : apartIds a = true ∧ apartIds b = true ∧ Sep a b := by
 induction a with
 | nil => exact ⟨rfl, h, fun x hx => by cases hx⟩
 | cons x a ih =>
  obtain ⟨i, f⟩ := x
  simp only [List.cons_append, apartIds, Bool.and_eq_true, List.all_append] at h
  obtain ⟨⟨h1, h2⟩, h3⟩ := h
  obtain ⟨q1, q2, q3⟩ := ih h3
  refine ⟨by simp [apartIds, h1, q1], q2, fun y hy z hz e => ?_⟩
  cases hy with
  | head =>
   have := List.all_eq_true.1 h2 z hz
   simp only at e
   simp only [Bool.or_eq_true, bne_iff_ne, ne_eq, Bool.and_eq_true, Bool.not_eq_true'] at this
   rcases this with h | h
   ·exact (h e.symm).elim
   ·exact h
  | tail _ hy => exact q3 y hy z hz e
def BoxR (st : St) (ν : Nu) (ids : List (Nat × Bool)) (v a : AV) (val : Value) : Prop :=
 ∃ id g j m s es b o, v = .ptr id g none 0 j ∧ a = .ownp es 0 j ∧ st (.h id) = .obj g m s es ∧ (m = 3 ∨ m = 4) ∧ M3 es = true ∧ (id, true) ∈ ids ∧
  ν id none = some (b, o) ∧ val = .pointer (some ⟨b, o + j, none⟩)
inductive PArg (F : Fl) (D : Nat → Prop) (st : St) (ν : Nu) (w : World) (ids : List (Nat × Bool)) (i md : Nat) : AV → AV → Value → Prop
 | data (v a : AV) (val : Value) (hq : X8 md v = []) (hr : RV w (DL D st F ν ids) a val) : PArg F D st ν w ids i md v a val
 | moved (id g n s : Nat) (es : List AV) (φ : Path → Base) (val : Value) (hmd : md = 2) (hF : F (κA i) = some ⟨φ, s, es⟩) (hv : SlV w (φ none) s 0 es.length val) (hr : D6 es = true) (hid : (id, true) ∈ ids) :
   PArg F D st ν w ids i md (.sl id g none 0 n) (.own s es) val
 | lentS (id g : Nat) (p : Path) (m s : Nat) (es : List AV) (val : Value) (hmd : md = 1 ∨ md = 4) (hn : nodeAt st id g p = some (m, s, es)) (hm : m ≠ 2) (hbx : bxB m p = false) (hi : D6 es = true ∧ (M3 es = true ∨ p = none))
   (hid : (id, true) ∈ ids) (hv : SlV w (ν id p) s 0 es.length val) : PArg F D st ν w ids i md (.sl id g p 0 es.length) (.own s es) val
 | lentP (v a : AV) (val : Value) (h : BoxR st ν ids v a val) : PArg F D st ν w ids i md v a val
 | clo (f : Nat) (caps caps' : List AV) (cs : Array Value) (M : Nat → List (Nat × Bool)) (hmd : md = 1) (hl : caps'.length = caps.length) (hs : cs.size = caps.length)
   (hM : ∀ (k : Nat) x, x ∈ M k → x ∈ ids) (hsep : ∀ j j', j < j' → Sep (M j) (M j'))
   (h : ∀ (k : Nat) (c c' : AV), caps[k]? = some c → caps'[k]? = some c' → (RV w (DL D st F ν ids) c' (cs.getD k Go.undef) ∧ (∀ id g p i j, c ≠ .ptr id g p i j) ∧ (∀ es i j, c' ≠ .ownp es i j)) ∨ BoxR st ν (M k) c c' (cs.getD k Go.undef)) :
   PArg F D st ν w ids i md (.clo f caps) (.clo f caps') (.func (.func f) #[] cs)
theorem b3v (R : Rel Γ w0 A O0 ν0 N F D st ν tm w) {ids : List (Nat × Bool)} : ∀ (fs fs' : List AV) (a : List (Nat × Bool)) (cs : List Value), (passVars fs).ev C st = some (fs', a) → RL st ν w D fs cs →
  (∀ x ∈ a, x ∈ ids) → apartIds a = true → fs'.length = fs.length ∧ ∃ M : Nat → List (Nat × Bool), (∀ (k : Nat) x, x ∈ M k → x ∈ a) ∧ (∀ j j', j < j' → Sep (M j) (M j')) ∧ ∀ (k : Nat) (c c' : AV), fs[k]? = some c → fs'[k]? = some c' →
   ∃ x : Value, cs[k]? = some x ∧ ((RV w (DL D st F ν ids) c' x ∧ (∀ id g p i j, c ≠ .ptr id g p i j) ∧ (∀ es i j, c' ≠ .ownp es i j)) ∨ BoxR st ν (M k) c c' x) := by
 intro fs
 induction fs with
 | nil =>
  intro fs' a cs h hr _ _
  simp only [passVars, Rd.ev_ret, Option.some.injEq, Prod.mk.injEq] at h
  obtain ⟨rfl, rfl⟩ := h
  exact ⟨rfl, fun _ => [], fun _ _ hx => hx, fun _ _ _ x hx => (by cases hx), fun i c c' hl => by simp at hl⟩
 | cons f fs ih =>
  intro fs' a cs h hr hids hap
  simp only [passVars, Rd.ev_bind, Rd.ev_ret, Option.bind_eq_some_iff] at h
  obtain ⟨⟨f', a1⟩, h1, ⟨r', a2⟩, h2, h3⟩ := h
  cases h3
  obtain ⟨hap1, hap2, hsep⟩ := a3b hap
  cases cs with
  | nil => have := hr.1; simp at this
  | cons c cs =>
   obtain ⟨c', hc', hrc⟩ := hr.2 0 f rfl
   cases hc'
   obtain ⟨q1, M, hM, hS, q2⟩ := ih r' a2 cs h2 (by simpa using hr.drop 1) (fun x hx => hids x (List.mem_append_right _ hx)) hap2
   refine ⟨by simp [q1], fun k => match k with | 0 => a1 | k + 1 => M k, fun k x hx => ?_, fun j j' hj => ?_, fun k x x' hx hx' => ?_⟩
   ·cases k with
    | zero => exact List.mem_append_left _ hx
    | succ k => exact List.mem_append_right _ (hM k x hx)
   ·cases j' with
    | zero => omega
    | succ j' => cases j with
     | zero => exact fun x hx y hy => hsep x hx y (hM j' y hy)
     | succ j => exact hS j j' (by omega)
   cases k with
   | zero =>
    simp only [List.getElem?_cons_zero, Option.some.injEq] at hx hx'
    subst hx hx'
    refine ⟨c, rfl, ?_⟩
    split at h1
    ·rename_i id g i j
     simp only [Rd.ev_bind, C1, Rd.ev_ret, Option.bind_eq_some_iff] at h1
     obtain ⟨⟨m, s, es⟩, h4, _, h5, h6⟩ := h1
     rw [G3] at h4
     obtain ⟨hm, hi, rfl⟩ := C4 h5
     cases h6
     obtain ⟨_, _, _, hp⟩ := hrc.ptr_inv
     obtain ⟨b, o, hbo, rfl⟩ := hp _ _ _ h4
     exact .inr ⟨id, g, j, m, s, es, b, o, rfl, rfl, K4 h4, hm, hi, List.mem_cons_self .., hbo, by simp⟩
    ·rename_i hnp
     refine .inl ⟨a1i R h1 hrc (fun x hx => hids x (List.mem_append_left _ hx)), ?_, ?_⟩
     ·intro id g p i j e
      subst e
      cases p with
      | none => exact hnp _ _ _ _ rfl
      | some q => simp [passCap, passLeaf] at h1
     ·intro es i j e
      subst e
      have := a1i R h1 hrc (fun x hx => hids x (List.mem_append_left _ hx))
      cases this
   | succ k =>
    simp only [List.getElem?_cons_succ] at hx hx' ⊢
    exact q2 k x x' hx hx'
theorem RV.ofRS_clo {f : Nat} {caps caps' : List AV} {cs : Array Value} {D2 : Nat → Prop} (hl : caps'.length = caps.length) (hs : cs.size = caps.length)
  (h : ∀ (i : Nat) (l : AV), caps'[i]? = some l → ∃ x : Value, cs.toList[i]? = some x ∧ RV w D2 l x) : RV w D2 (.clo f caps') (.func (.func f) #[] cs) := by
 refine .clo f caps' cs (by omega) fun i l hil => ?_
 obtain ⟨x, hx, hr⟩ := h i l hil
 have hx : cs[i]? = some x := by simpa using hx
 rw [Array.getD_eq_getD_getElem?, hx]
 exact hr
theorem RS.clo_list {f : Nat} {caps : List AV} {v : Value} (h : RS st ν w D (.clo f caps) v) : ∃ cs : Array Value, v = .func (.func f) #[] cs ∧ cs.size = caps.length ∧ RL st ν w D caps cs.toList := by
 obtain ⟨cs, rfl, h1, h2⟩ := h.clo_inv
 refine ⟨cs, rfl, h1, by simpa using h1, fun i l hl => ?_⟩
 have hi : i < caps.length := (List.getElem?_eq_some_iff.1 hl).1
 have := h2 i l hl
 refine ⟨cs[i]'(by omega), by simp [show i < cs.size by omega], ?_⟩
 simpa [Array.getD, show i < cs.size by omega] using this
theorem RV.toDL {D2 : Nat → Prop} {ids : List (Nat × Bool)} {a : AV} {v : Value} (h : RV w D2 a v) : RV w (DL D2 st F ν ids) a v := h.wider fun b hb => .inl hb
theorem b5b (hOA : ∀ b, O0 b → A b) {κ : FK} (hκ : F κ = none) (R : Rel Γ w0 A O0 ν0 N F D st ν tm w) {v v' : AV} {st' : St} {val : Value}
  (h : (keepCap v).go C st = some (v', st')) (hv : RS st ν w D v val) :
  ∃ D' : Nat → Prop, (∀ b, D b → D' b) ∧ Rel Γ w0 A O0 ν0 N F D' st' ν tm w ∧ Ext st ν w st' ν w ∧ RV w D' v' val ∧ ∀ k, ¬ slId v k → st' (.h k) = st (.h k) := by
 unfold keepCap at h
 split at h
 ·simp only [RW.go_pure, Option.some.injEq, Prod.mk.injEq] at h
  obtain ⟨rfl, rfl⟩ := h
  exact ⟨D, fun _ h => h, R, Ext.refl _ _ _, hv.ipt_inv, fun _ _ => rfl⟩
 ·exact a3v hOA hκ R h hv
theorem b1q (hOA : ∀ b, O0 b → A b) {κ : FK} (hκ : F κ = none) : ∀ (fs fs' : List AV) (cs : List Value) (D : Nat → Prop) (st st' : St),
  Rel Γ w0 A O0 ν0 N F D st ν tm w → (keepCaps fs).go C st = some (fs', st') → RL st ν w D fs cs →
  ∃ D' : Nat → Prop, (∀ b, D b → D' b) ∧ Rel Γ w0 A O0 ν0 N F D' st' ν tm w ∧ Ext st ν w st' ν w ∧ (∀ k, (∀ l ∈ fs, ¬ slId l k) → st' (.h k) = st (.h k)) ∧
   fs'.length = fs.length ∧ ∀ (i : Nat) (l : AV), fs'[i]? = some l → ∃ x : Value, cs[i]? = some x ∧ RV w D' l x := by
 intro fs
 induction fs with
 | nil =>
  intro fs' cs D st st' R h hr
  simp only [keepCaps, RW.go_pure, Option.some.injEq, Prod.mk.injEq] at h
  obtain ⟨rfl, rfl⟩ := h
  exact ⟨D, fun _ h => h, R, Ext.refl _ _ _, fun _ _ => rfl, rfl, fun i l hl => by simp at hl⟩
 | cons f fs ih =>
  intro fs' cs D st st' R h hr
  simp only [keepCaps, RW.go_bind, RW.go_pure, Option.bind_eq_some_iff] at h
  obtain ⟨⟨f', st1⟩, h1, ⟨r', st2⟩, h2, h3⟩ := h
  cases h3
  cases cs with
  | nil => have := hr.1; simp at this
  | cons c cs =>
   obtain ⟨c', hc', hrc⟩ := hr.2 0 f rfl
   cases hc'
   obtain ⟨D1, hD1, R1, E1, hv1, hf1⟩ := b5b hOA hκ R h1 hrc
   have hr1 : RL st1 ν w D1 fs cs := by
    have := hr.drop 1
    simp only [List.drop_succ_cons, List.drop_zero] at this
    exact ⟨this.1, fun i l hl => by obtain ⟨v, a, b⟩ := this.2 i l hl; exact ⟨v, a, b.same E1 hD1⟩⟩
   obtain ⟨D2, hD2, R2, E2, hf2, hlen, hl2⟩ := ih r' cs D1 st1 st2 R1 h2 hr1
   refine ⟨D2, fun b hb => hD2 b (hD1 b hb), R2, E1.trans E2, fun k hk => ?_, by simp [hlen], fun i l hl => ?_⟩
   ·exact (hf2 k (fun l hl => hk l (List.mem_cons_of_mem _ hl))).trans (hf1 k (hk f (List.mem_cons_self ..)))
   ·cases i with
    | zero =>
     simp only [List.getElem?_cons_zero, Option.some.injEq] at hl
     subst hl
     exact ⟨c, rfl, hv1.wider hD2⟩
    | succ i =>
     simp only [List.getElem?_cons_succ] at hl ⊢
     exact hl2 i l hl
theorem b3z : ∀ (fs fs' : List AV), (passLeaves fs).ev C st = some fs' → ∀ e ∈ fs', leaves e = [e] := by
 intro fs
 induction fs with
 | nil =>
  intro fs' h e he
  simp only [passLeaves, Rd.ev_ret, Option.some.injEq] at h
  subst h; cases he
 | cons f fs ih =>
  intro fs' h e he
  simp only [passLeaves, Rd.ev_bind, Rd.ev_ret, Option.bind_eq_some_iff] at h
  obtain ⟨f', h1, r', h2, h3⟩ := h
  cases h3
  cases he with
  | head => exact (Y6 h1).2
  | tail _ he => exact ih r' h2 e he
theorem c8q (R : Rel Γ w0 A O0 ν0 N F D st ν tm w) {id g i j n m s : Nat} {es fs : List AV} {e : AV} {val : Value} {ids : List (Nat × Bool)}
  (h1 : nodeAt st id g none = some (m, s, es)) (he : es[i]? = some e) (hle : j + n ≤ (leaves e).length) (h : (passLeaves (((leaves e).drop j).take n)).ev C st = some fs)
  (hv : RS st ν w D (.asl id g i j n) val) (hid : (id, false) ∈ ids) (hids : ∀ x ∈ slIds false (((leaves e).drop j).take n), x ∈ ids) : RV w (DL D st F ν ids) (.list fs) val := by
 obtain ⟨_, _, hp⟩ := hv.asl_inv
 obtain ⟨b, o, hbo, rfl⟩ := hp _ _ _ h1
 have hst := K4 h1
 obtain ⟨hRN, _⟩ := R.node h1
 rw [hbo] at hRN
 have hlt : b < w.heap.size := hRN.lt rfl
 have hblk : DL D st F ν ids b := by
  by_cases hm : m = 2
  ·subst hm
   exact .inl ((R.frozen id g s es hst).1 b o hbo)
  ·exact .inr ⟨id, hid, none, o, ⟨g, m, s, es, hst, hm, fun _ hq => by cases hq⟩, hbo⟩
 have hno := V0 _ _ h
 have hcell : ∀ k l0, (((leaves e).drop j).take n)[k]? = some l0 → ∃ x, w.cell? ⟨b, o + i * s + j + k, none⟩ = some x ∧ RS st ν w D l0 x := by
  intro k l0 hk
  have hk' : (leaves e)[j + k]? = some l0 := by
   rw [List.getElem?_take] at hk
   split at hk
   ·rwa [List.getElem?_drop] at hk
   ·cases hk
  obtain ⟨x, hx, hr⟩ := hRN.cell (i := i) (j := j + k) (l := l0) (by simp [leafAt, he, hk'])
  exact ⟨x, by rw [← hx]; congr 2; omega, hr.notOwn (hno l0 (List.mem_of_getElem? hk))⟩
 have hlen0 : (((leaves e).drop j).take n).length = n := by rw [List.length_take, List.length_drop]; omega
 have hRL : RL st ν w D (((leaves e).drop j).take n) ((List.range n).map fun k => (w.cell? ⟨b, o + i * s + j + k, none⟩).getD Go.undef) := by
  refine ⟨by simp [hlen0], fun k l hk => ?_⟩
  obtain ⟨x, hx, hr⟩ := hcell k l hk
  have hkl := (List.getElem?_eq_some_iff.1 hk).1
  rw [hlen0] at hkl
  exact ⟨x, by rw [List.getElem?_map, List.getElem?_range hkl]; simp [hx], hr⟩
 obtain ⟨hlen, hl⟩ := X0 (ids := ids) R _ fs _ h hRL hids
 have hone := b3z _ _ h
 have hat : ∀ a c l, leafAt fs a c = some l → c = 0 ∧ fs[a]? = some l := by
  intro a c l hl
  unfold leafAt at hl
  cases hfa : fs[a]? with
  | none => simp [hfa] at hl
  | some e' =>
   simp only [hfa, Option.bind_some, hone e' (List.mem_of_getElem? hfa)] at hl
   cases c with
   | zero => simp at hl; exact ⟨rfl, by rw [hl]⟩
   | succ c => simp at hl
 have key : RV w (DL D st F ν ids) (.list fs) (.slice (some ⟨b, o + i * s + j, none⟩) fs.length n) := by
  refine .list fs _ n b (o + i * s + j) 1 (fun a c => (w.cell? ⟨b, o + i * s + j + a, none⟩).getD Go.undef) (by omega) (fun _ => ⟨rfl, hblk, hlt⟩) (fun e he => by rw [hone e he]; rfl) (fun a c l hl' => ?_) (fun a c l hl' => ?_)
  ·obtain ⟨rfl, hfa⟩ := hat a c l hl'
   have hk : a < n := by have := (List.getElem?_eq_some_iff.1 hfa).1; omega
   obtain ⟨x, hx, _⟩ := hcell a _ (List.getElem?_eq_getElem (by omega))
   rw [Nat.mul_one, Nat.add_zero, hx]; rfl
  ·obtain ⟨rfl, hfa⟩ := hat a c l hl'
   have hk : a < n := by have := (List.getElem?_eq_some_iff.1 hfa).1; omega
   obtain ⟨x, hx, hr⟩ := hl a l hfa
   rw [List.getElem?_map, List.getElem?_range hk] at hx
   simp only [Option.map_some, Option.some.injEq] at hx
   rw [hx]; exact hr
 rwa [hlen, hlen0] at key
theorem b9s (hOA : ∀ b, O0 b → A b) {i md : Nat} (hκ : F (κA i) = none) (R : Rel Γ w0 A O0 ν0 N F D st ν tm w) {v a : AV} {ids : List (Nat × Bool)} {st' : St} {val : Value} (hap : apartIds ids = true)
  (h : (a2a md v).go C st = some ((a, ids), st')) (hv : RS st ν w D v val) :
  ∃ F' D', (∀ b, D b → D' b) ∧ Rel Γ w0 A O0 ν0 N F' D' st' ν tm w ∧ Ext st ν w st' ν w ∧ (∀ κ, κ ≠ κA i → F' κ = F κ) ∧ (∀ k, (k, true) ∉ ids → st' (.h k) = st (.h k)) ∧
   PArg F' D' st' ν w ids i md v a val := by
 have same : st' = st → PArg F D st ν w ids i md v a val → ∃ F' D', (∀ b, D b → D' b) ∧ Rel Γ w0 A O0 ν0 N F' D' st' ν tm w ∧ Ext st ν w st' ν w ∧ (∀ κ, κ ≠ κA i → F' κ = F κ) ∧
   (∀ k, (k, true) ∉ ids → st' (.h k) = st (.h k)) ∧ PArg F' D' st' ν w ids i md v a val := by
  rintro rfl hp
  exact ⟨F, D, fun _ h => h, R, Ext.refl _ _ _, fun _ _ => rfl, fun _ _ => rfl, hp⟩
 unfold a2a at h
 split at h
 ·rename_i fs
  obtain ⟨cs, rfl, hr⟩ := hv.agg_list
  split at h
  ·rename_i hmd
   simp only [RW.go_bind, RW.go_pure, Option.bind_eq_some_iff] at h
   obtain ⟨⟨fs', st1⟩, h1, h2⟩ := h
   cases h2
   obtain ⟨D', hD, R', E, hf, hlen, hl⟩ := a8j hOA hκ fs fs' cs.toList D st st1 R h1 hr
   refine ⟨F, D', hD, R', E, fun _ _ => rfl, fun k hk => hf k fun l hl hs => hk (a8t.2 ⟨l, hl, hs⟩), .data _ _ _ rfl (RV.toDL (RV.agg' (by have h0 := hr.1; rw [Array.length_toList] at h0; exact h0.trans hlen.symm) fun i l hil => ?_))⟩
   obtain ⟨x, hx, hrx⟩ := hl i l hil
   exact ⟨x, by simpa using hx, hrx⟩
  ·simp only [RW.go_bind, RW.go_up, RW.go_pure, Option.bind_eq_some_iff, Option.map_eq_some_iff] at h
   obtain ⟨_, ⟨fs', h1, rfl⟩, h2⟩ := h
   cases h2
   obtain ⟨hlen, hl⟩ := X0 (ids := slIds false fs) R fs fs' cs.toList h1 hr (fun _ h => h)
   refine same rfl (.data _ _ _ rfl (RV.agg' (by have h0 := hr.1; rw [Array.length_toList] at h0; exact h0.trans hlen.symm) fun i l hil => ?_))
   obtain ⟨x, hx, hrx⟩ := hl i l hil
   exact ⟨x, by simpa using hx, hrx⟩
 ·rename_i f caps
  obtain ⟨cs, rfl, hsz, hr⟩ := hv.clo_list
  split at h
  ·rename_i hmd
   simp only [RW.go_bind, RW.go_pure, Option.bind_eq_some_iff] at h
   obtain ⟨⟨fs', st1⟩, h1, h2⟩ := h
   cases h2
   obtain ⟨D', hD, R', E, hf, hlen, hl⟩ := b1q hOA hκ caps fs' cs.toList D st st1 R h1 hr
   exact ⟨F, D', hD, R', E, fun _ _ => rfl, fun k hk => hf k fun l hl hs => hk (a8t.2 ⟨l, hl, hs⟩), .data _ _ _ (by simp [X8, hmd]) (RV.toDL (RV.ofRS_clo hlen hsz hl))⟩
  ·split at h
   ·rename_i hmd
    simp only [RW.go_bind, RW.go_up, RW.go_pure, Option.bind_eq_some_iff, Option.map_eq_some_iff] at h
    obtain ⟨_, ⟨⟨fs', a1⟩, h1, rfl⟩, h2⟩ := h
    cases h2
    obtain ⟨hlen, M, hM, hS, hl⟩ := b3v (ids := a1) R caps fs' a1 cs.toList h1 hr (fun _ h => h) hap
    refine same rfl (.clo f caps fs' cs M hmd hlen hsz hM hS fun k c c' hc hc' => ?_)
    obtain ⟨x, hx, hrx⟩ := hl k c c' hc hc'
    have hx : cs[k]? = some x := by simpa using hx
    rw [Array.getD_eq_getD_getElem?, hx]
    exact hrx
   ·rename_i hmd1
    simp only [RW.go_bind, RW.go_up, RW.go_pure, Option.bind_eq_some_iff, Option.map_eq_some_iff] at h
    obtain ⟨_, ⟨⟨fs', a1⟩, h1, rfl⟩, h2⟩ := h
    cases h2
    obtain ⟨hlen, hl⟩ := c0x (ids := a1) R caps fs' a1 cs.toList h1 hr (fun _ h => h)
    exact same rfl (.data _ _ _ (by simp [X8, hmd1]) (RV.ofRS_clo hlen hsz hl))
 ·simp only [RW.go_pure, Option.some.injEq, Prod.mk.injEq] at h
  obtain ⟨⟨rfl, rfl⟩, rfl⟩ := h
  exact same rfl (.data _ _ _ rfl hv.ipt_inv.toDL)
 ·rename_i id g i0 j0 n
  simp only [RW.go_bind, RW.go_up, Option.bind_eq_some_iff, Option.map_eq_some_iff, C1] at h
  obtain ⟨_, ⟨_, _, rfl⟩, _, ⟨⟨m, s, es⟩, h1, rfl⟩, h⟩ := h
  rw [G3] at h1
  simp only at h
  split at h
  ·rename_i e he
   simp only [RW.go_bind, RW.go_up, RW.go_pure, Option.bind_eq_some_iff, Option.map_eq_some_iff, C1] at h
   obtain ⟨_, ⟨_, h2, rfl⟩, _, ⟨fs, h3, rfl⟩, h4⟩ := h
   cases h4
   exact same rfl (.data _ _ _ rfl (c8q R h1 he (C4 h2) h3 hv (List.mem_cons_self ..) fun x hx => List.mem_cons_of_mem _ hx))
  ·simp at h
 ·rename_i id g i0 j0
  simp only [RW.go_bind, RW.go_up, RW.go_pure, Option.bind_eq_some_iff, Option.map_eq_some_iff, C1] at h
  obtain ⟨_, ⟨⟨m, s, es⟩, h1, rfl⟩, _, ⟨_, h2, rfl⟩, h3⟩ := h
  rw [G3] at h1
  obtain ⟨hm, hi, rfl⟩ := C4 h2
  cases h3
  obtain ⟨_, _, _, hp⟩ := hv.ptr_inv
  obtain ⟨b, o, hbo, rfl⟩ := hp _ _ _ h1
  exact same rfl (.lentP _ _ _ ⟨id, g, j0, m, s, es, b, o, rfl, rfl, K4 h1, hm, hi, List.mem_cons_self .., hbo, by simp⟩)
 ·rename_i id g p off n
  split at h
  ·rename_i hmd
   simp only [RW.go_bind, RW.go_up, RW.go_pure, Option.bind_eq_some_iff, Option.map_eq_some_iff] at h
   obtain ⟨_, ⟨v', h1, rfl⟩, h2⟩ := h
   cases h2
   exact same rfl (.data _ _ _ (by simp [X8, hmd]) (U1 R h1 hv (by simp [slIds])))
  ·split at h
   ·rename_i hmd
    simp only [RW.go_bind, RW.go_up, Option.bind_eq_some_iff, Option.map_eq_some_iff] at h
    obtain ⟨_, ⟨⟨m, s, es⟩, h1, rfl⟩, h⟩ := h
    rw [G3] at h1
    obtain ⟨_, _, _, hsl⟩ := hv.sl_inv
    simp only at h
    split at h
    ·rename_i hc
     obtain ⟨rfl, rfl, _⟩ := hc
     simp only [RW.go_bind, RW.go_up, RW.go_wr, RW.go_pure, Option.bind_eq_some_iff, Option.map_eq_some_iff, C1] at h
     obtain ⟨_, ⟨_, h2, rfl⟩, _, h3, h4⟩ := h
     obtain ⟨rfl, rfl, hnr⟩ := C4 h2
     cases h3
     cases h4
     obtain ⟨D', hD, R', E⟩ := R.freezeIn (K4 h1) hnr (fun b hb => (R.tO b hb).imp (hOA b) fun h => h)
     refine ⟨F, D', hD, R', E, fun _ _ => rfl, fun k hk => J4 _ _ _ (fun e => hk (by rw [e]; exact List.mem_cons_self ..)), ?_⟩
     have := hsl _ _ _ h1
     have hl := Q5 es
     rw [← hl] at this ⊢
     exact .lentS id g none 0 s (frzL es) _ (.inl hmd) (W0 _ _ _ _ _ _) (by decide) rfl ⟨P7 (a1r hnr), .inr rfl⟩ (List.mem_cons_self ..) this
    ·simp only [RW.go_bind, RW.go_up, RW.go_pure, Option.bind_eq_some_iff, Option.map_eq_some_iff, C1] at h
     obtain ⟨_, ⟨_, h2, rfl⟩, h3⟩ := h
     obtain ⟨hm, hbx, rfl, rfl, hi⟩ := C4 h2
     cases h3
     exact same rfl (.lentS id g p m s es _ (.inl hmd) h1 hm hbx ⟨P7 hi, .inl hi⟩ (List.mem_cons_self ..) (hsl _ _ _ h1))
   ·split at h
    ·rename_i hmd
     simp only [RW.go_bind, RW.go_up, RW.go_wr, RW.go_pure, Option.bind_eq_some_iff, Option.map_eq_some_iff, C1] at h
     obtain ⟨_, ⟨⟨m, s, es⟩, h1, rfl⟩, _, ⟨_, h2, rfl⟩, _, h3, h4⟩ := h
     rw [G3] at h1
     obtain ⟨rfl, rfl, hn, rfl, hnr⟩ := C4 h2
     cases h3
     cases h4
     obtain ⟨R', E⟩ := R.takeObj (K4 h1) hκ n
     obtain ⟨_, _, _, hsl⟩ := hv.sl_inv
     refine ⟨_, D, fun _ h => h, R', E, fun κ hκ' => Fl.set_ne _ _ hκ', fun k hk => J4 _ _ _ (fun e => hk (by rw [e]; exact List.mem_cons_self ..)), ?_⟩
     exact .moved id g n s _ (ν id) val hmd (Fl.set_eq _ _ _) (by rw [List.length_take, Nat.min_eq_left hn]; exact hsl _ _ _ h1) (Q3 hnr n) (List.mem_cons_self ..)
    ·rename_i _ hmd1 _
     split at h
     ·rename_i hmd4
      simp only [RW.go_bind, RW.go_up, RW.go_pure, Option.bind_eq_some_iff, Option.map_eq_some_iff, C1] at h
      obtain ⟨_, ⟨⟨m, s, es⟩, h1, rfl⟩, _, ⟨_, h2, rfl⟩, h3⟩ := h
      rw [G3] at h1
      obtain ⟨rfl, hm, hbx, rfl, rfl, hnr⟩ := C4 h2
      cases h3
      obtain ⟨_, _, _, hsl⟩ := hv.sl_inv
      exact same rfl (.lentS id g none m s es _ (.inr hmd4) h1 hm hbx ⟨hnr, .inr rfl⟩ (List.mem_cons_self ..) (hsl _ _ _ h1))
     ·rename_i hmd4
      simp only [RW.go_bind, RW.go_pure, Option.bind_eq_some_iff] at h
      obtain ⟨⟨es, st1⟩, h1, h2⟩ := h
      cases h2
      obtain ⟨D', hD, R', E, hr⟩ := R4 hOA hκ R h1 hv
      exact ⟨F, D', hD, R', E, fun _ _ => rfl, fun k hk => a6p h1 k (fun e => hk (by cases e; exact List.mem_cons_self ..)), .data _ _ _ (by simp [X8, hmd1, hmd4]) hr.toDL⟩
 ·split at h
  ·simp only [RW.go_pure, Option.some.injEq, Prod.mk.injEq] at h
   obtain ⟨⟨rfl, rfl⟩, rfl⟩ := h
   obtain ⟨a, rfl⟩ := hv.nil_inv
   exact same rfl (.data _ _ _ rfl (RV.list_nil a))
  ·simp only [RW.go_pure, Option.some.injEq, Prod.mk.injEq] at h
   obtain ⟨⟨rfl, rfl⟩, rfl⟩ := h
   obtain ⟨a, rfl⟩ := hv.nil_inv
   exact same rfl (.data _ _ _ rfl (.nil a))
 ·rename_i hn1 hn2 hn3 hn4 hn5 hns _
  simp only [RW.go_bind, RW.go_up, RW.go_pure, Option.bind_eq_some_iff, Option.map_eq_some_iff] at h
  obtain ⟨_, ⟨v', h1, rfl⟩, h2⟩ := h
  cases h2
  exact same rfl (.data _ _ _ (by unfold X8; split <;> first | rfl | (exact (hn5 _ _ _ _ rfl).elim) | (exact (hns _ _ _ _ _ rfl).elim) | (exact (hn2 _ _ rfl).elim)) (U1 R h1 hv (by rw [b5z (fun id g p off n e => hns id g p off n e)]; simp)))
end
section
variable {P : Program} {C : Caller} {Γ : Env} {w0 : World} {A O0 : Nat → Prop} {ν0 : Nu} {N : Nat} {F : Fl} {D : Nat → Prop} {st : St} {ν : Nu} {tm : Array Value} {w : World}
theorem Blk.congr {st' : St} {F' : Fl} {id b : Nat} (h : st' (.h id) = st (.h id)) (hb : Blk st F ν id b) : Blk st' F' ν id b := by
 obtain ⟨q, o, ⟨g, m, s, es, h1, h2, h3⟩, h4⟩ := hb
 exact ⟨q, o, ⟨g, m, s, es, by rw [h]; exact h1, h2, h3⟩, h4⟩
theorem Z6 {st' : St} {id g : Nat} {p : Path} (h : st' (.h id) = st (.h id)) : nodeAt st' id g p = nodeAt st id g p := by
 unfold nodeAt; rw [h]
theorem BoxR.carry {st' : St} {ids : List (Nat × Bool)} {v a : AV} {val : Value} (h : BoxR st ν ids v a val) (hf : ∀ k b, (k, b) ∈ ids → st' (.h k) = st (.h k)) : BoxR st' ν ids v a val := by
 obtain ⟨id, g, j, m, s, es, b, o, h1, h2, h3, h4, h5, h6, h7, h8⟩ := h
 exact ⟨id, g, j, m, s, es, b, o, h1, h2, by rw [hf _ _ h6]; exact h3, h4, h5, h6, h7, h8⟩
theorem DL.carry {F' : Fl} {D' : Nat → Prop} {st' : St} {ids : List (Nat × Bool)} (hD : ∀ b, D b → D' b) (hf : ∀ k b, (k, b) ∈ ids → st' (.h k) = st (.h k)) {b : Nat} (h : DL D st F ν ids b) : DL D' st' F' ν ids b := by
 rcases h with h | ⟨id, h1, h2⟩
 ·exact .inl (hD b h)
 ·exact .inr ⟨id, h1, h2.congr (hf _ _ h1)⟩
theorem PArg.carry {F' : Fl} {D' : Nat → Prop} {st' : St} {ids : List (Nat × Bool)} {i md : Nat} {v a : AV} {val : Value} (h : PArg F D st ν w ids i md v a val)
  (hD : ∀ b, D b → D' b) (hf : ∀ k b, (k, b) ∈ ids → st' (.h k) = st (.h k)) (hF : F' (κA i) = F (κA i)) : PArg F' D' st' ν w ids i md v a val := by
 cases h with
 | data _ _ _ hq hr => exact .data _ _ _ hq (hr.wider fun b hb => hb.carry hD hf)
 | moved id g n s es φ val hmd hF' hv hr hid => exact .moved id g n s es φ val hmd (hF.trans hF') hv hr hid
 | lentS id g p m s es val hmd hn hm hbx hi hid hv => exact .lentS id g p m s es val hmd (by rw [Z6 (hf _ _ hid)]; exact hn) hm hbx hi hid hv
 | lentP _ _ _ h => exact .lentP _ _ _ (h.carry hf)
 | clo f caps caps' cs M hmd hl hs hM hsep h =>
  refine .clo f caps caps' cs M hmd hl hs hM hsep fun k c c' hc hc' => ?_
  rcases h k c c' hc hc' with ⟨h1, h2, h3⟩ | h1
  ·exact .inl ⟨h1.wider fun b hb => hb.carry hD hf, h2, h3⟩
  ·exact .inr (h1.carry fun k b hk => hf k b (hM _ _ hk))
theorem b5a (hOA : ∀ b, O0 b → A b) (md : Nat → Nat) : ∀ (vs as : List AV) (ids : List (Nat × Bool)) (vals : List Value) (i : Nat) (F : Fl) (D : Nat → Prop) (st st' : St),
  (∀ j, i ≤ j → F (κA j) = none) → Rel Γ w0 A O0 ν0 N F D st ν tm w → (passAll md i vs).go C st = some ((as, ids), st') → apartIds ids = true → RL st ν w D vs vals →
  ∃ (F' : Fl) (D' : Nat → Prop) (L : Nat → List (Nat × Bool)), (∀ b, D b → D' b) ∧ Rel Γ w0 A O0 ν0 N F' D' st' ν tm w ∧ Ext st ν w st' ν w ∧ (∀ κ, (∀ j, i ≤ j → j < i + vs.length → κ ≠ κA j) → F' κ = F κ) ∧
   (∀ k, (k, true) ∉ ids → st' (.h k) = st (.h k)) ∧ as.length = vs.length ∧ (∀ (j : Nat) x, x ∈ L j → x ∈ ids) ∧ (∀ (x : Nat × Bool), x ∈ ids → ∃ j, x ∈ L j) ∧ (∀ j j', j < j' → Sep (L j) (L j')) ∧
   ∀ (j : Nat) (v a : AV) (val : Value), vs[j]? = some v → as[j]? = some a → vals[j]? = some val → PArg F' D' st' ν w (L j) (i + j) (md (i + j)) v a val := by
 intro vs
 induction vs with
 | nil =>
  intro as ids vals i F D st st' _ R h _ _
  simp only [passAll, RW.go_pure, Option.some.injEq, Prod.mk.injEq] at h
  obtain ⟨⟨rfl, rfl⟩, rfl⟩ := h
  exact ⟨F, D, fun _ => [], fun _ h => h, R, Ext.refl _ _ _, fun _ _ => rfl, fun _ _ => rfl, rfl, fun _ _ hx => hx, (fun _ hx => by cases hx), (fun _ _ _ x hx => by cases hx), (fun j v a val hv => by simp at hv)⟩
 | cons v vs ih =>
  intro as ids vals i F D st st' hF R h hap hr
  simp only [passAll, RW.go_bind, RW.go_pure, Option.bind_eq_some_iff] at h
  obtain ⟨⟨⟨a, i1⟩, st1⟩, h1, ⟨⟨as', i2⟩, st2⟩, h2, h3⟩ := h
  cases h3
  cases vals with
  | nil => have := hr.1; simp at this
  | cons val vals =>
   obtain ⟨c', hc', hrc⟩ := hr.2 0 v rfl
   cases hc'
   obtain ⟨hap1, hap2, hsep⟩ := a3b hap
   obtain ⟨F1, D1, hD1, R1, E1, hF1, hf1, hp1⟩ := b9s hOA (hF i (Nat.le_refl _)) R hap1 h1 hrc
   have hr1 : RL st1 ν w D1 vs vals := by
    have := hr.drop 1
    simp only [List.drop_succ_cons, List.drop_zero] at this
    exact ⟨this.1, fun i l hl => by obtain ⟨v, a, b⟩ := this.2 i l hl; exact ⟨v, a, b.same E1 hD1⟩⟩
   obtain ⟨F2, D2, L, hD2, R2, E2, hF2, hf2, hlen, hL, hL', hS, hp2⟩ := ih as' i2 vals (i + 1) F1 D1 st1 _ (fun j hj => by rw [hF1 _ (by intro e; simp [κA] at e; omega)]; exact hF j (by omega)) R1 h2 hap2 hr1
   refine ⟨F2, D2, fun j => match j with | 0 => i1 | j + 1 => L j, fun b hb => hD2 b (hD1 b hb), R2, E1.trans E2, fun κ hκ => ?_, fun k hk => ?_, by simp [hlen], fun j x hx => ?_, fun x hx => ?_, fun j j' hj => ?_, fun j v' a' val' hv ha hval => ?_⟩
   ·rw [hF2 κ fun j h1 h2 => hκ j (by omega) (by simp only [List.length_cons]; omega), hF1 κ (hκ i (by omega) (by simp only [List.length_cons]; omega))]
   ·exact (hf2 k fun hx => hk (List.mem_append_right _ hx)).trans (hf1 k fun hx => hk (List.mem_append_left _ hx))
   ·cases j with
    | zero => exact List.mem_append_left _ hx
    | succ j => exact List.mem_append_right _ (hL j x hx)
   ·rcases List.mem_append.1 hx with hx | hx
    ·exact ⟨0, hx⟩
    ·obtain ⟨j, hj⟩ := hL' x hx
     exact ⟨j + 1, hj⟩
   ·cases j' with
    | zero => omega
    | succ j' => cases j with
     | zero => exact fun x hx y hy => hsep x hx y (hL j' y hy)
     | succ j => exact hS j j' (by omega)
   ·cases j with
    | zero =>
     simp only [List.getElem?_cons_zero, Option.some.injEq] at hv ha hval
     subst hv ha hval
     refine hp1.carry hD2 (fun k b hk => hf2 k fun hx => ?_) (hF2 _ fun j h1 h2 e => by simp [κA] at e; omega)
     have := (hsep (k, b) hk (k, true) hx rfl).2
     cases this
    | succ j =>
     simp only [List.getElem?_cons_succ] at hv ha hval
     have := hp2 j v' a' val' hv ha hval
     rw [show i + (j + 1) = i + 1 + j from by omega]
     exact this
end
inductive Zip {α β : Type} (R : α → β → Prop) : List α → List β → Prop
 | nil : Zip R [] []
 | cons {a : α} {b : β} {r : List α} {s : List β} (h : R a b) (t : Zip R r s) : Zip R (a :: r) (b :: s)
theorem Zip.append {α β : Type} {R : α → β → Prop} {a b : List α} {c d : List β} (h : Zip R a c) (h' : Zip R b d) : Zip R (a ++ b) (c ++ d) := by
 induction h with
 | nil => exact h'
 | cons h t ih => exact .cons h ih
theorem Zip.mono {α β : Type} {R R' : α → β → Prop} {a : List α} {c : List β} (h : Zip R a c) (hr : ∀ x y, x ∈ a → y ∈ c → R x y → R' x y) : Zip R' a c := by
 induction h with
 | nil => exact .nil
 | cons h t ih => exact .cons (hr _ _ (List.mem_cons_self ..) (List.mem_cons_self ..) h) (ih fun x y hx hy => hr x y (List.mem_cons_of_mem _ hx) (List.mem_cons_of_mem _ hy))
theorem Zip.mem_right {α β : Type} {R : α → β → Prop} {a : List α} {c : List β} (h : Zip R a c) {y : β} (hy : y ∈ c) : ∃ x, x ∈ a ∧ R x y ∧ (x, y) ∈ a.zip c := by
 induction h with
 | nil => cases hy
 | cons h t ih =>
  cases hy with
  | head => exact ⟨_, List.mem_cons_self .., h, List.mem_cons_self ..⟩
  | tail _ hy =>
   obtain ⟨x, h1, h2, h3⟩ := ih hy
   exact ⟨x, List.mem_cons_of_mem _ h1, h2, List.mem_cons_of_mem _ h3⟩
theorem Zip.mem_zip {α β : Type} {R : α → β → Prop} {a : List α} {c : List β} (h : Zip R a c) {x : α} {y : β} (hy : (x, y) ∈ a.zip c) : R x y := by
 induction h with
 | nil => cases hy
 | cons h t ih =>
  cases hy with
  | head => exact h
  | tail _ hy => exact ih hy
theorem Zip.length {α β : Type} {R : α → β → Prop} {a : List α} {c : List β} (h : Zip R a c) : a.length = c.length := by
 induction h with
 | nil => rfl
 | cons h t ih => simp [ih]
theorem c3p {α β : Type} {k : β → Nat} : ∀ (a : List α) (c : List β), M1 (c.map k) = true → ∀ x y x' y', (x, y) ∈ a.zip c → (x', y') ∈ a.zip c → k y = k y' → x = x' ∧ y = y' := by
 intro a
 induction a with
 | nil => intro c _ x y x' y' h; simp at h
 | cons u a ih =>
  intro c
  cases c with
  | nil => intro _ x y x' y' h; simp at h
  | cons v c =>
   intro h x y x' y' h1 h2 e
   simp only [List.map_cons, M1, Bool.and_eq_true, List.all_eq_true, List.mem_map, bne_iff_ne, ne_eq, forall_exists_index, and_imp, forall_apply_eq_imp_iff₂] at h
   obtain ⟨q1, q2⟩ := h
   simp only [List.zip_cons_cons, List.mem_cons, Prod.mk.injEq] at h1 h2
   rcases h1 with ⟨rfl, rfl⟩ | h1
   ·rcases h2 with ⟨rfl, rfl⟩ | h2
    ·exact ⟨rfl, rfl⟩
    ·exact (q1 _ (List.of_mem_zip h2).2 e.symm).elim
   ·rcases h2 with ⟨rfl, rfl⟩ | h2
    ·exact (q1 _ (List.of_mem_zip h1).2 e).elim
    ·exact ih c q2 x y x' y' h1 h2 e
theorem a4j {α β : Type} {k : α → Nat} : ∀ (a : List α) (c : List β), M1 (a.map k) = true → ∀ x y x' y', (x, y) ∈ a.zip c → (x', y') ∈ a.zip c → k x = k x' → x = x' ∧ y = y' := by
 intro a
 induction a with
 | nil => intro c _ x y x' y' h; simp at h
 | cons u a ih =>
  intro c
  cases c with
  | nil => intro _ x y x' y' h; simp at h
  | cons v c =>
   intro h x y x' y' h1 h2 e
   simp only [List.map_cons, M1, Bool.and_eq_true, List.all_eq_true, List.mem_map, bne_iff_ne, ne_eq, forall_exists_index, and_imp, forall_apply_eq_imp_iff₂] at h
   obtain ⟨q1, q2⟩ := h
   simp only [List.zip_cons_cons, List.mem_cons, Prod.mk.injEq] at h1 h2
   rcases h1 with ⟨rfl, rfl⟩ | h1
   ·rcases h2 with ⟨rfl, rfl⟩ | h2
    ·exact ⟨rfl, rfl⟩
    ·exact (q1 _ (List.of_mem_zip h2).1 e.symm).elim
   ·rcases h2 with ⟨rfl, rfl⟩ | h2
    ·exact (q1 _ (List.of_mem_zip h1).1 e).elim
    ·exact ih c q2 x y x' y' h1 h2 e
def LentR (st : St) (t : Tg) (c : Cid) (es : List AV) : Prop :=
 (D6 es = true ∧ (M3 es = true ∨ (t.2.2 = none ∧ c.2.1 = 1))) ∧ ((c.2.1 = 1 ∧ ∃ m, nodeAt st t.1 t.2.1 t.2.2 = some (m, c.2.2, es) ∧ m ≠ 2 ∧ bxB m t.2.2 = false) ∨
  (c.2.1 = 4 ∧ c.2.2 = 0 ∧ t.2.2 = none ∧ ∃ m s, st (.h t.1) = .obj t.2.1 m s es ∧ (m = 3 ∨ m = 4)))
section
variable {P : Program} {C : Caller} {Γ : Env} {w0 : World} {A O0 : Nat → Prop} {ν0 : Nu} {N : Nat} {F : Fl} {D : Nat → Prop} {st : St} {ν : Nu} {tm : Array Value} {w : World}
theorem RV.cidCaps_nil {i : Nat} : ∀ (caps : List AV) (k : Nat), (∀ c ∈ caps, ∃ v, RV w D c v) → cidCaps i k caps = [] := by
 intro caps
 induction caps with
 | nil => intro k _; rfl
 | cons c caps ih =>
  intro k h
  obtain ⟨v, hv⟩ := h c (List.mem_cons_self ..)
  have := ih (k + 1) fun c hc => h c (List.mem_cons_of_mem _ hc)
  cases hv <;> simp only [cidCaps] <;> exact this
theorem RV.cid_nil {md i : Nat} {a : AV} {v : Value} (h : RV w D a v) : N6 md i a = [] := by
 cases h with
 | clo f caps vs hs hl =>
  refine RV.cidCaps_nil (w := w) (D := D) caps 0 fun c hc => ?_
  obtain ⟨k, hk⟩ := List.mem_iff_getElem?.1 hc
  exact ⟨_, hl k c hk⟩
 | _ => rfl
theorem a2q {i : Nat} : ∀ (caps : List AV) (k j : Nat), (initCaps i k caps)[j]? = (caps[j]?).map fun c => match c with | .ownp _ a b => .ptr (fid i (k + j)) 1 none a b | c => c := by
 intro caps
 induction caps with
 | nil => intro k j; simp [initCaps]
 | cons c caps ih =>
  intro k j
  cases j with
  | zero =>
   simp only [initCaps, List.getElem?_cons_zero, Option.map_some, Nat.add_zero]
   cases c <;> rfl
  | succ j =>
   simp only [initCaps, List.getElem?_cons_succ, ih]
   rw [show k + 1 + j = k + (j + 1) from by omega]
theorem b7m {i : Nat} : ∀ (caps : List AV) (k : Nat), (initCaps i k caps).length = caps.length := by
 intro caps
 induction caps with
 | nil => intro k; rfl
 | cons c caps ih => intro k; simp [initCaps, ih]
theorem a5x {md : Nat → Nat} {c : Cid} : ∀ (as : List AV) (i j : Nat) (a : AV), as[j]? = some a → c ∈ N6 (md (i + j)) (i + j) a → c ∈ cidAll md i as := by
 intro as
 induction as with
 | nil => intro i j a h; simp at h
 | cons x as ih =>
  intro i j a h hc
  cases j with
  | zero =>
   simp only [List.getElem?_cons_zero, Option.some.injEq] at h
   subst h
   exact List.mem_append_left _ hc
  | succ j =>
   simp only [List.getElem?_cons_succ] at h
   exact List.mem_append_right _ (ih (i + 1) j a h (by rw [show i + 1 + j = i + (j + 1) from by omega]; exact hc))
theorem b5i {md : Nat → Nat} {c : Cid} : ∀ (as : List AV) (i : Nat), c ∈ cidAll md i as → ∃ j a, as[j]? = some a ∧ c ∈ N6 (md (i + j)) (i + j) a := by
 intro as
 induction as with
 | nil => intro i h; cases h
 | cons x as ih =>
  intro i h
  rcases List.mem_append.1 h with h | h
  ·exact ⟨0, x, rfl, h⟩
  ·obtain ⟨j, a, h1, h2⟩ := ih (i + 1) h
   exact ⟨j + 1, a, h1, by rw [show i + (j + 1) = i + 1 + j from by omega]; exact h2⟩
theorem c1b {i a b : Nat} {es : List AV} : ∀ (caps : List AV) (k j : Nat), caps[j]? = some (.ownp es a b) → (fid i (k + j), 4, 0) ∈ cidCaps i k caps := by
 intro caps
 induction caps with
 | nil => intro k j h; simp at h
 | cons c caps ih =>
  intro k j h
  cases j with
  | zero =>
   simp only [List.getElem?_cons_zero, Option.some.injEq] at h
   subst h
   exact List.mem_cons_self ..
  | succ j =>
   simp only [List.getElem?_cons_succ] at h
   have := ih (k + 1) j h
   rw [show k + 1 + j = k + (j + 1) from by omega] at this
   cases c <;> simp only [cidCaps] <;> first | exact this | exact List.mem_cons_of_mem _ this
theorem b2i {i : Nat} {c : Cid} : ∀ (caps : List AV) (k : Nat), c ∈ cidCaps i k caps → ∃ j es a b, caps[j]? = some (.ownp es a b) ∧ c = (fid i (k + j), 4, 0) := by
 intro caps
 induction caps with
 | nil => intro k h; cases h
 | cons x caps ih =>
  intro k h
  have tail : c ∈ cidCaps i (k + 1) caps → ∃ j es a b, (x :: caps)[j]? = some (.ownp es a b) ∧ c = (fid i (k + j), 4, 0) := by
   intro h
   obtain ⟨j, es, a, b, h1, h2⟩ := ih (k + 1) h
   exact ⟨j + 1, es, a, b, h1, by rw [h2, show k + 1 + j = k + (j + 1) from by omega]⟩
  cases x with
  | ownp es a b =>
   simp only [cidCaps] at h
   cases h with
   | head => exact ⟨0, es, a, b, rfl, rfl⟩
   | tail _ h => exact tail h
  | _ => simp only [cidCaps] at h; exact tail h
theorem b2q {md : Nat → Nat} {as : List AV} {i g m s : Nat} {es : List AV} (h : initLoc md as (.h i) = .obj g m s es) :
  g = 1 ∧ ((i < 100000 ∧ m = 0 ∧ md i = 2 ∧ as[i]? = some (.own s es)) ∨ (i, m, s) ∈ cidAll md 0 as) := by
 unfold initLoc at h
 simp only at h
 split at h
 ·rename_i hi
  split at h
  ·rename_i s' es' ha
   cases h
   refine ⟨rfl, ?_⟩
   by_cases hmd : md i = 2
   ·exact .inl ⟨hi, by simp [hmd], hmd, ha⟩
   ·refine .inr (a5x as 0 i _ ha ?_)
    simp [N6, hmd]
  ·rename_i es' a b ha
   cases h
   exact ⟨rfl, .inr (a5x as 0 i _ ha (by simp [N6]))⟩
  ·cases h
 ·rename_i hi
  split at h
  ·rename_i f caps ha
   split at h
   ·split at h
    ·rename_i es' a b hc
     cases h
     refine ⟨rfl, .inr (a5x as 0 (i % 100000) _ ha ?_)⟩
     have := c1b (i := i % 100000) caps 0 (i / 100000 - 1) hc
     simp only [N6, Nat.zero_add] at this ⊢
     rw [show fid (i % 100000) (i / 100000 - 1) = i from by unfold fid; omega] at this
     exact this
    ·cases h
   ·cases h
  ·cases h
theorem a6s {md : Nat → Nat} {as : List AV} {i s : Nat} {es : List AV} (h : as[i]? = some (.own s es)) (hi : i < 100000) : initLoc md as (.h i) = .obj 1 (if md i = 2 then 0 else 1) s es := by
 simp only [initLoc, hi, if_true, h]
theorem a8b {md : Nat → Nat} {as : List AV} {i a b : Nat} {es : List AV} (h : as[i]? = some (.ownp es a b)) (hi : i < 100000) : initLoc md as (.h i) = .obj 1 4 0 es := by
 simp only [initLoc, hi, if_true, h]
theorem c2c {md : Nat → Nat} {as : List AV} {i f k a b : Nat} {caps es : List AV} (h : as[i]? = some (.clo f caps)) (hi : i < 100000) (hc : caps[k]? = some (.ownp es a b)) (hk : k < 9) :
  initLoc md as (.h (fid i k)) = .obj 1 4 0 es := by
 have h1 : ¬ fid i k < 100000 := by unfold fid; omega
 have h2 : fid i k % 100000 = i := by unfold fid; omega
 have h3 : fid i k < 1000000 := by unfold fid; omega
 have h4 : fid i k / 100000 - 1 = k := by unfold fid; omega
 simp only [initLoc, h1, if_false, h2, h, h3, if_true, h4, hc]
theorem b2b {as : List AV} (h : a0g as = true) {i f : Nat} {caps : List AV} (ha : as[i]? = some (.clo f caps)) : caps.length ≤ 9 := by
 have := List.all_eq_true.1 h _ (List.mem_of_getElem? ha)
 simpa using this
def c5c (st : St) (ids : List (Nat × Bool)) (md : Nat → Nat) (as : List AV) (t : Tg) (c : Cid) : Prop := (t.1, true) ∈ ids ∧ ∃ es, LentR st t c es ∧ initLoc md as (.h c.1) = .obj 1 c.2.1 c.2.2 es
theorem c0j {f : Nat} {ids idt : List (Nat × Bool)} {M : Nat → List (Nat × Bool)} {md : Nat → Nat} {as : List AV} {i : Nat} {cs : Array Value} (hi : i < 100000) (hM : ∀ k x, x ∈ M k → x ∈ idt) {caps0 : List AV} (ha : as[i]? = some (.clo f caps0)) (hle : caps0.length ≤ 9) :
  ∀ (caps caps' : List AV) (k : Nat), caps'.length = caps.length → (∀ j c', caps'[j]? = some c' → caps0[k + j]? = some c') →
  (∀ (j : Nat) (c c' : AV), caps[j]? = some c → caps'[j]? = some c' → (RV w (DL D st F ν ids) c' (cs.getD (k + j) Go.undef) ∧ (∀ id g p i j, c ≠ .ptr id g p i j) ∧ (∀ es i j, c' ≠ .ownp es i j)) ∨ BoxR st ν (M (k + j)) c c' (cs.getD (k + j) Go.undef)) →
  Zip (c5c st idt md as) (W1 caps) (cidCaps i k caps') := by
 intro caps
 induction caps with
 | nil =>
  intro caps' k hl _ _
  have : caps' = [] := by simpa using hl
  subst this
  exact .nil
 | cons c caps ih =>
  intro caps' k hl h0 h
  cases caps' with
  | nil => simp at hl
  | cons c' caps' =>
   have hrec := ih caps' (k + 1) (by simpa using hl) (fun j x hj => by have := h0 (j + 1) x (by simpa using hj); rwa [show k + 1 + j = k + (j + 1) from by omega])
    (fun j x x' hx hx' => by have := h (j + 1) x x' (by simpa using hx) (by simpa using hx'); rwa [show k + 1 + j = k + (j + 1) from by omega])
   rcases h 0 c c' rfl rfl with ⟨hr, hn1, hn2⟩ | hb
   ·have e1 : W1 (c :: caps) = W1 caps := by
     cases c <;> simp only [W1]
     exact (hn1 _ _ _ _ _ rfl).elim
    have e2 : cidCaps i k (c' :: caps') = cidCaps i (k + 1) caps' := by
     cases c' <;> simp only [cidCaps]
     exact (hn2 _ _ _ rfl).elim
    rw [e1, e2]
    exact hrec
   ·obtain ⟨id, g, j, m, s, es, b, o, rfl, rfl, h3, h4, h5, h6, h7, h8⟩ := hb
    simp only [W1, cidCaps]
    have hc0 := h0 0 _ rfl
    have hk : k < caps0.length := (List.getElem?_eq_some_iff.1 hc0).1
    refine .cons ⟨hM _ _ h6, es, ⟨⟨P7 h5, .inl h5⟩, .inr ⟨rfl, rfl, rfl, m, s, h3, h4⟩⟩, c2c ha hi hc0 (by omega)⟩ hrec
theorem c9e {md : Nat → Nat} {as0 : List AV} {ids L : List (Nat × Bool)} (hcaps : a0g as0 = true) {i : Nat} {v a : AV} {val : Value} (hlt : i < 100000) (hL : ∀ x ∈ L, x ∈ ids)
  (ha0 : as0[i]? = some a) (h : PArg F D st ν w L i (md i) v a val) : Zip (c5c st ids md as0) (X8 (md i) v) (N6 (md i) i a) := by
 cases h with
 | data _ _ _ hq hr => rw [hq, hr.cid_nil]; exact .nil
 | moved id g n s es φ _ hmd hF hv hr hid =>
  simp only [X8, N6, hmd]
  exact .nil
 | lentS id g p m s es _ hmd hn hm hbx hi hid hv =>
  have h2 : ¬ md i = 2 := by omega
  simp only [X8, N6, hmd, if_true, h2, if_false]
  refine .cons ⟨hL _ hid, es, ⟨⟨hi.1, hi.2.imp (fun h => h) fun h => ⟨h, rfl⟩⟩, .inl ⟨rfl, m, hn, hm, hbx⟩⟩, ?_⟩ .nil
  rw [a6s ha0 hlt, if_neg h2]
 | lentP _ _ _ hb =>
  obtain ⟨id, g, j, m, s, es, b, o, rfl, rfl, h3, h4, h5, h6, h7, h8⟩ := hb
  simp only [X8, N6]
  exact .cons ⟨hL _ h6, es, ⟨⟨P7 h5, .inl h5⟩, .inr ⟨rfl, rfl, rfl, m, s, h3, h4⟩⟩, a8b ha0 hlt⟩ .nil
 | clo f caps caps' cs M hmd hlc hs hM hsep hc =>
  simp only [X8, N6, hmd, if_true]
  exact c0j hlt (fun k x hx => hL _ (hM k x hx)) ha0 (b2b hcaps ha0) caps caps' 0 hlc (fun j c' hj => by rw [Nat.zero_add]; exact hj) (fun j c c' h1 h2 => by rw [Nat.zero_add]; exact hc j c c' h1 h2)
theorem b4j {α β : Type} {a b : List α} {c d : List β} (h : a.length = c.length) : (a ++ b).zip (c ++ d) = a.zip c ++ b.zip d := by
 induction a generalizing c with
 | nil => cases c with
  | nil => rfl
  | cons => simp at h
 | cons x a ih => cases c with
  | nil => simp at h
  | cons y c => simp only [List.cons_append, List.zip_cons_cons, List.cons.injEq, true_and]; exact ih (by simpa using h)
theorem c6z {md : Nat → Nat} {as0 : List AV} {ids : List (Nat × Bool)} (hcaps : a0g as0 = true) : ∀ (vs as : List AV) (vals : List Value) (L : Nat → List (Nat × Bool)) (i : Nat), as.length = vs.length → vals.length = vs.length → i + vs.length ≤ 100000 → (∀ (j : Nat) (x : Nat × Bool), x ∈ L j → x ∈ ids) →
  (∀ j a, as[j]? = some a → as0[i + j]? = some a) →
  (∀ (j : Nat) (v a : AV) (val : Value), vs[j]? = some v → as[j]? = some a → vals[j]? = some val → PArg F D st ν w (L j) (i + j) (md (i + j)) v a val) →
  Zip (c5c st ids md as0) (Y0 md i vs) (cidAll md i as) ∧ ∀ (j : Nat) (v a : AV), vs[j]? = some v → as[j]? = some a → ∀ z ∈ (X8 (md (i + j)) v).zip (N6 (md (i + j)) (i + j) a), z ∈ (Y0 md i vs).zip (cidAll md i as) := by
 intro vs
 induction vs with
 | nil =>
  intro as vals L i hl _ _ _ _ _
  have : as = [] := by simpa using hl
  subst this
  exact ⟨.nil, fun j v a h => by simp at h⟩
 | cons v vs ih =>
  intro as vals L i hl hl2 hle hL h0 h
  cases as with
  | nil => simp at hl
  | cons a as =>
   cases vals with
   | nil => simp at hl2
   | cons val vals =>
    obtain ⟨hrec, hrec2⟩ := ih as vals (fun j => L (j + 1)) (i + 1) (by simpa using hl) (by simpa using hl2) (by simp only [List.length_cons] at hle; omega) (fun j x hx => hL (j + 1) x hx) (fun j x hj => by have := h0 (j + 1) x (by simpa using hj); rwa [show i + 1 + j = i + (j + 1) from by omega])
     (fun j x y z hx hy hz => by have := h (j + 1) x y z (by simpa using hx) (by simpa using hy) (by simpa using hz); rwa [show i + 1 + j = i + (j + 1) from by omega])
    have hlt : i < 100000 := by simp only [List.length_cons] at hle; omega
    have ha0 := h0 0 a rfl
    have hz := c9e hcaps hlt (hL 0) ha0 (h 0 v a val rfl rfl rfl)
    refine ⟨Zip.append hz hrec, fun j v' a' hv ha z hmem => ?_⟩
    simp only [Y0, cidAll]
    rw [b4j hz.length]
    cases j with
    | zero =>
     simp only [List.getElem?_cons_zero, Option.some.injEq] at hv ha
     subst hv ha
     exact List.mem_append_left _ hmem
    | succ j =>
     simp only [List.getElem?_cons_succ] at hv ha
     rw [show i + (j + 1) = i + 1 + j from by omega] at hmem
     exact List.mem_append_right _ (hrec2 j v' a' hv ha z hmem)
theorem b6s {i id g a b x y : Nat} {es : List AV} {R : Tg → Cid → Prop} : ∀ (caps caps' : List AV) (k j : Nat), Zip R (W1 caps) (cidCaps i k caps') → caps'.length = caps.length →
  (∀ (n : Nat) (c c' : AV), caps[n]? = some c → caps'[n]? = some c' → ((∃ id g i j, c = .ptr id g none i j) ↔ ∃ es a b, c' = .ownp es a b)) →
  caps[j]? = some (.ptr id g none x y) → caps'[j]? = some (.ownp es a b) → ((id, g, none), (fid i (k + j), 4, 0)) ∈ (W1 caps).zip (cidCaps i k caps') := by
 intro caps
 induction caps with
 | nil => intro caps' k j _ _ _ h; simp at h
 | cons c caps ih =>
  intro caps' k j hz hl hc h1 h2
  cases caps' with
  | nil => simp at hl
  | cons c' caps' =>
   by_cases hp : ∃ id g i j, c = .ptr id g none i j
   ·obtain ⟨es0, a0, b0, rfl⟩ := (hc 0 c c' rfl rfl).1 hp
    obtain ⟨id0, g0, x0, y0, rfl⟩ := hp
    simp only [W1, cidCaps, List.zip_cons_cons] at hz ⊢
    cases hz with
    | cons _ hz =>
     cases j with
     | zero =>
      simp only [List.getElem?_cons_zero, Option.some.injEq] at h1 h2
      cases h1
      exact List.mem_cons_self ..
     | succ j =>
      rw [show k + (j + 1) = k + 1 + j from by omega]
      exact List.mem_cons_of_mem _ (ih caps' (k + 1) j hz (by simpa using hl) (fun n x x' hx hx' => hc (n + 1) x x' (by simpa using hx) (by simpa using hx')) (by simpa using h1) (by simpa using h2))
   ·have hn : ¬ ∃ es a b, c' = .ownp es a b := fun h => hp ((hc 0 c c' rfl rfl).2 h)
    have e1 : W1 (c :: caps) = W1 caps := by
     cases c with
     | ptr id g p i j => cases p with
      | none => exact (hp ⟨_, _, _, _, rfl⟩).elim
      | some q => rfl
     | _ => rfl
    have e2 : cidCaps i k (c' :: caps') = cidCaps i (k + 1) caps' := by
     cases c' with
     | ownp => exact (hn ⟨_, _, _, rfl⟩).elim
     | _ => rfl
    rw [e1, e2] at hz ⊢
    cases j with
    | zero =>
     simp only [List.getElem?_cons_zero, Option.some.injEq] at h1
     exact (hp ⟨_, _, _, _, h1⟩).elim
    | succ j =>
     rw [show k + (j + 1) = k + 1 + j from by omega]
     exact ih caps' (k + 1) j hz (by simpa using hl) (fun n x x' hx hx' => hc (n + 1) x x' (by simpa using hx) (by simpa using hx')) (by simpa using h1) (by simpa using h2)
end
theorem b4t {ids : List (Nat × Bool)} (h : apartIds ids = true) {k : Nat} (h1 : (k, true) ∈ ids) (h2 : (k, false) ∈ ids) : False := by
 induction ids with
 | nil => cases h1
 | cons x ids ih =>
  obtain ⟨i, f⟩ := x
  simp only [apartIds, Bool.and_eq_true, List.all_eq_true] at h
  obtain ⟨q1, q2⟩ := h
  cases h1 with
  | head =>
   cases h2 with
   | tail _ h2 =>
    have := q1 _ h2
    simp at this
  | tail _ h1 =>
   cases h2 with
   | head =>
    have := q1 _ h1
    simp at this
   | tail _ h2 => exact ih q2 h1 h2
theorem S0.monoL {w w' : World} {L L' : AV → Value → Prop} {φ φ' : Path → Base} {i j : Nat} {l : AV} {v : Value} (h : S0 w L φ i j l v)
  (hL : isOwn l = false → L l v → L' l v) (hφ : ∀ s' es', l = .own s' es' → φ' (some (i, j)) = φ (some (i, j)))
  (hc : ∀ s' es' b o, l = .own s' es' → φ (some (i, j)) = some (b, o) → csize w' b = csize w b) : S0 w' L' φ' i j l v := by
 cases l with
 | own s' es' => exact SlV.mono (h : SlV w _ _ _ _ _) (hφ _ _ rfl) (fun b o hb => hc _ _ b o rfl hb)
 | _ => exact hL rfl h
theorem RN.monoL {w w' : World} {L L' : AV → Value → Prop} {φ φ' : Path → Base} {base base' : Base} {bx : Prop} {s : Nat} {es : List AV} (h : RN w L φ base bx s es)
  (hbase : base' = base) (hb : ∀ b o, base = some (b, o) → w'.heap[b]? = w.heap[b]?) (hL : ∀ i j l v, leafAt es i j = some l → isOwn l = false → L l v → L' l v)
  (hφ : ∀ i j s' es', leafAt es i j = some (.own s' es') → φ' (some (i, j)) = φ (some (i, j)) ∧ ∀ b o, φ (some (i, j)) = some (b, o) → csize w' b = csize w b) :
  RN w' L' φ' base' bx s es := by
 subst hbase
 cases base' with
 | none => exact h
 | some q =>
  obtain ⟨b, o⟩ := q
  obtain ⟨c, ety, h1, h2, h3, h5, h4⟩ := h
  refine ⟨c, ety, by rw [hb b o rfl]; exact h1, h2, h3, h5, fun i j l hl => ?_⟩
  obtain ⟨v, hv, hr⟩ := h4 i j l hl
  exact ⟨v, hv, hr.monoL (hL i j l v hl) (fun s' es' e => (hφ i j s' es' (e ▸ hl)).1) (fun s' es' b o e => (hφ i j s' es' (e ▸ hl)).2 b o)⟩
theorem RO.monoL {w w' : World} {L L' : AV → Value → Prop} {φ φ' : Path → Base} {bx : Prop} {s : Nat} {es : List AV} (h : RO w L φ bx s es)
  (hφ0 : φ' none = φ none) (hφ : ∀ i j s' es', leafAt es i j = some (.own s' es') → φ' (some (i, j)) = φ (some (i, j)))
  (hb : ∀ b o, φ none = some (b, o) → w'.heap[b]? = w.heap[b]?)
  (hb' : ∀ i j s' es' b o, leafAt es i j = some (.own s' es') → φ (some (i, j)) = some (b, o) → w'.heap[b]? = w.heap[b]?)
  (hL : ∀ i j l v, leafAt es i j = some l → isOwn l = false → L l v → L' l v)
  (hL' : ∀ i j s' es' i' j' l v, leafAt es i j = some (.own s' es') → leafAt es' i' j' = some l → immLeaf l = true → L l v → L' l v) : RO w' L' φ' bx s es := by
 refine ⟨h.top.monoL hφ0 hb hL fun i j s' es' hl => ⟨hφ i j s' es' hl, fun b o hbo => L3 (hb' i j s' es' b o hl hbo)⟩, fun i j s' es' hl => ?_⟩
 obtain ⟨h1, h2⟩ := h.sub i j s' es' hl
 refine ⟨h1.monoL (hφ i j s' es' hl) (fun b o => hb' i j s' es' b o hl) (fun i' j' l v hl' _ => hL' i j s' es' i' j' l v hl hl' (h2 i' j' l hl')) fun i' j' s2 es2 hl' => ?_, h2⟩
 have := h2 i' j' _ hl'
 simp [immLeaf] at this
theorem RN.anyS {w : World} {L : AV → Value → Prop} {φ : Path → Base} {base : Base} {bx : Prop} (hbx : bx) {s s' : Nat} {es : List AV} (h : RN w L φ base bx s es)
  (hle : ∀ b o, base = some (b, o) → o + es.length * s' ≤ csize w b) : RN w L φ base bx s' es := by
 cases base with
 | none => exact h
 | some q =>
  obtain ⟨b, o⟩ := q
  obtain ⟨c, ety, h1, h2, h3, h5, h4⟩ := h
  refine ⟨c, ety, h1, (by have := hle b o rfl; simpa [csize, h1] using this), fun hn => (hn hbx).elim, h5, fun i j l hl => ?_⟩
  have hi : i < es.length := by
   unfold leafAt at hl
   rcases Nat.lt_or_ge i es.length with h | h
   ·exact h
   ·rw [List.getElem?_eq_none h] at hl; simp at hl
  have := h5 hbx
  have : i = 0 := by omega
  subst this
  obtain ⟨v, hv, hr⟩ := h4 0 j l hl
  exact ⟨v, by simpa using hv, hr⟩
theorem RN.room {w : World} {L : AV → Value → Prop} {φ : Path → Base} {base : Base} {bx : Prop} {s : Nat} {es : List AV} (h : RN w L φ base bx s es) {b o : Nat} (hb : base = some (b, o)) : o + es.length * s ≤ csize w b := by
 subst hb
 obtain ⟨c, ety, h1, h2, _⟩ := h
 simpa [csize, h1] using h2
def NuC (F : Fl) (ν : Nu) (Z : List (Tg × Cid)) : Nu := fun cid q =>
 match Z.find? (fun z => z.2.1 == cid) with
 | some z => if z.1.2.2 = none then ν z.1.1 q else if q = none then ν z.1.1 z.1.2.2 else none
 | none => match F (κA cid) with
  | some f => f.φ q
  | none => none
theorem b5r {F : Fl} {ν : Nu} {T : List Tg} {Cs : List Cid} (hn : M1 (Cs.map (·.1)) = true) {t : Tg} {c : Cid} (h : (t, c) ∈ T.zip Cs) {q : Path} (hq : q = none ∨ t.2.2 = none) : NuC F ν (T.zip Cs) c.1 q = ν t.1 (if t.2.2 = none then q else t.2.2) := by
 unfold NuC
 cases hf : (T.zip Cs).find? (fun z => z.2.1 == c.1) with
 | none =>
  have := List.find?_eq_none.1 hf _ h
  simp at this
 | some z =>
  obtain ⟨t', c'⟩ := z
  have h1 := List.mem_of_find?_eq_some hf
  have h2 := List.find?_some hf
  simp only [beq_iff_eq] at h2
  obtain ⟨rfl, rfl⟩ := c3p (k := fun c : Cid => c.1) T Cs hn _ _ _ _ h1 h h2
  by_cases ht : t'.2.2 = none
  ·simp [ht]
  ·have hq : q = none := hq.resolve_right ht
   simp [ht, hq]
theorem a7k {F : Fl} {ν : Nu} {T : List Tg} {Cs : List Cid} (hn : M1 (Cs.map (·.1)) = true) {t : Tg} {c : Cid} (h : (t, c) ∈ T.zip Cs) : NuC F ν (T.zip Cs) c.1 none = ν t.1 t.2.2 := by
 rw [b5r hn h (.inl rfl)]
 by_cases ht : t.2.2 = none
 ·rw [if_pos ht, ht]
 ·rw [if_neg ht]
theorem a8f {F : Fl} {ν : Nu} {T : List Tg} {Cs : List Cid} (hn : M1 (Cs.map (·.1)) = true) {t : Tg} {c : Cid} (h : (t, c) ∈ T.zip Cs) (hp : t.2.2 = none) (q : Path) : NuC F ν (T.zip Cs) c.1 q = ν t.1 q := by
 rw [b5r hn h (.inr hp), if_pos hp]
theorem c3b {md j : Nat} {a : AV} {c : Cid} (h : c ∈ N6 md j a) (hj : j < 100000) : c.1 % 100000 = j := by
 unfold N6 at h
 split at h
 ·split at h
  ·cases h
  ·simp only [List.mem_singleton] at h; subst h; simpa using hj
 ·simp only [List.mem_singleton] at h; subst h; simpa using hj
 ·obtain ⟨k, es, a, b, _, rfl⟩ := b2i _ _ h
  simp only [fid]
  omega
 ·cases h
theorem a8z {F : Fl} {ν : Nu} {T : List Tg} {md : Nat → Nat} {as : List AV} (hlen : as.length ≤ 1000) {i s : Nat} {es : List AV} (hmd : md i = 2) (ha : as[i]? = some (.own s es)) {f : Flo} (hf : F (κA i) = some f) (q : Path) :
  NuC F ν (T.zip (cidAll md 0 as)) i q = f.φ q := by
 unfold NuC
 have hi : i < as.length := (List.getElem?_eq_some_iff.1 ha).1
 have : (T.zip (cidAll md 0 as)).find? (fun z => z.2.1 == i) = none := by
  rw [List.find?_eq_none]
  rintro ⟨t, c⟩ hz hc
  simp only [beq_iff_eq] at hc
  obtain ⟨j, a, h1, h2⟩ := b5i _ _ (List.of_mem_zip hz).2
  simp only [Nat.zero_add] at h2
  have hj : j < as.length := (List.getElem?_eq_some_iff.1 h1).1
  have := c3b h2 (by omega)
  rw [hc, Nat.mod_eq_of_lt (by omega)] at this
  subst this
  rw [ha] at h1
  cases h1
  simp [N6, hmd] at h2
 rw [this, hf]
section
variable {P : Program} {C : Caller} {Γ : Env} {w0 : World} {A O0 : Nat → Prop} {ν0 : Nu} {N : Nat} {F : Fl} {D : Nat → Prop} {st : St} {ν : Nu} {tm : Array Value} {w : World}
structure Hand (Γ : Env) (w0 : World) (A O0 : Nat → Prop) (ν0 : Nu) (N : Nat) (F : Fl) (D : Nat → Prop) (st : St) (ν : Nu) (tm : Array Value) (w : World)
  (md : Nat → Nat) (ids : List (Nat × Bool)) (T : List Tg) (as : List AV) (vals : List Value) : Prop where
 R : Rel Γ w0 A O0 ν0 N F D st ν tm w
 apart : apartIds ids = true
 nT : M1 (T.map (·.1)) = true
 nC : M1 ((cidAll md 0 as).map (·.1)) = true
 len : as.length ≤ 1000
 lenv : vals.length = as.length
 lents : Zip (c5c st ids md as) T (cidAll md 0 as)
 args : ∀ (j : Nat) (a : AV), as[j]? = some a → ∃ (L : List (Nat × Bool)) (v : AV) (val : Value), vals[j]? = some val ∧ (∀ x ∈ L, x ∈ ids) ∧ (∀ z ∈ (X8 (md j) v).zip (N6 (md j) j a), z ∈ T.zip (cidAll md 0 as)) ∧ PArg F D st ν w L j (md j) v a val
 caps : a0g as = true
abbrev Hand.O (F : Fl) (ν : Nu) (md : Nat → Nat) (T : List Tg) (as : List AV) (b : Nat) : Prop := TB (initLoc md as) (NuC F ν (T.zip (cidAll md 0 as))) Fl.emp b
theorem Hand.key {md : Nat → Nat} {ids : List (Nat × Bool)} {T : List Tg} {as : List AV} {vals : List Value} (H : Hand Γ w0 A O0 ν0 N F D st ν tm w md ids T as vals) {cid : Nat} {q : Path}
  (h : live (initLoc md as) Fl.emp (.nd cid q)) : ∃ kc, live st F kc ∧ baseOf ν F kc = NuC F ν (T.zip (cidAll md 0 as)) cid q ∧
   ((∃ t c, (t, c) ∈ T.zip (cidAll md 0 as) ∧ c.1 = cid ∧ ((q = none ∧ kc = .nd t.1 t.2.2) ∨ (t.2.2 = none ∧ kc = .nd t.1 q))) ∨ kc = .fl (κA cid) q) := by
 obtain ⟨g, m, s, es, h1, h2, h3⟩ := h
 obtain ⟨rfl, hc⟩ := b2q h1
 rcases hc with ⟨hi, rfl, hmd, ha⟩ | hc
 ·obtain ⟨L, v, val, hval, hL, hZ, hp⟩ := H.args cid _ ha
  cases hp with
  | data _ _ _ hq hr => cases hr
  | moved id g n s' es' φ _ _ hF hv hr hid =>
   refine ⟨.fl (κA cid) q, ⟨_, hF, h3⟩, ?_, .inr rfl⟩
   rw [a8z H.len hmd ha hF]
   simp [baseOf, hF]
  | lentS id g p m s' es' _ hmd' => omega
  | lentP _ _ _ hb =>
   obtain ⟨_, _, _, _, _, _, _, _, _, he, _⟩ := hb
   cases he
 ·obtain ⟨t, ht, ⟨hid, es', ⟨him, hl⟩, hini⟩, hz⟩ := H.lents.mem_right hc
  rw [h1] at hini
  cases hini
  have hex : ∃ m' s0 es0, st (.h t.1) = .obj t.2.1 m' s0 es0 ∧ m' ≠ 2 ∧ (t.2.2 = none → es0 = es) ∧ livePath es0 t.2.2 := by
   rcases hl with ⟨_, m', hn, hm2, _⟩ | ⟨_, _, hp, m', s', ho, hm⟩
   ·obtain ⟨s0, es0, ho, hp⟩ := J9 hn
    refine ⟨m', s0, es0, ho, hm2, fun e => ?_, fun p hpp => ?_⟩
    ·rcases hp with ⟨_, _, h⟩ | ⟨i, j, e', hlf⟩
     ·exact h
     ·rw [e] at e'; cases e'
    ·rcases hp with ⟨e, _, _⟩ | ⟨i, j, e, hlf⟩
     ·rw [e] at hpp; cases hpp
     ·rw [e] at hpp; cases hpp; exact ⟨_, _, hlf⟩
   ·exact ⟨m', s', _, ho, by rcases hm with h | h <;> omega, fun _ => rfl, fun p hpp => by rw [hp] at hpp; cases hpp⟩
  obtain ⟨m', s0, es0, ho, hm2, he0, hlp⟩ := hex
  by_cases hq : q = none
  ·subst hq
   exact ⟨.nd t.1 t.2.2, ⟨_, m', s0, es0, ho, hm2, hlp⟩, (a7k H.nC hz).symm, .inl ⟨t, _, hz, rfl, .inl ⟨rfl, rfl⟩⟩⟩
  ·obtain ⟨hnr, him⟩ := him
   rcases him with him | ⟨htn, _⟩
   ·exfalso
    cases q with
    | none => exact hq rfl
    | some q =>
     obtain ⟨s2, es2, hz⟩ := h3 q rfl
     have := I6 him hz
     simp [immLeaf] at this
   ·refine ⟨.nd t.1 q, ⟨_, m', s0, es0, ho, hm2, ?_⟩, (a8f H.nC hz htn q).symm, .inl ⟨t, _, hz, rfl, .inr ⟨htn, rfl⟩⟩⟩
    rw [he0 htn]
    exact h3
theorem Hand.O_TB {md : Nat → Nat} {ids : List (Nat × Bool)} {T : List Tg} {as : List AV} {vals : List Value} (H : Hand Γ w0 A O0 ν0 N F D st ν tm w md ids T as vals) {b : Nat} (h : Hand.O F ν md T as b) :
  ∃ kc o, live st F kc ∧ baseOf ν F kc = some (b, o) ∧ ((∃ t c p, (t, c) ∈ T.zip (cidAll md 0 as) ∧ kc = .nd t.1 p ∧ (p = t.2.2 ∨ t.2.2 = none)) ∨ ∃ i q, kc = .fl (κA i) q) := by
 obtain ⟨k, o, hl, hb⟩ := h
 cases k with
 | fl k q => obtain ⟨f, hf, _⟩ := hl; cases hf
 | nd cid q =>
  obtain ⟨kc, h1, h2, h3⟩ := H.key hl
  refine ⟨kc, o, h1, h2.trans hb, ?_⟩
  rcases h3 with ⟨t, c, h4, _, ⟨_, h5⟩ | ⟨h6, h5⟩⟩ | h5
  ·exact .inl ⟨t, c, _, h4, h5, .inl rfl⟩
  ·exact .inl ⟨t, c, _, h4, h5, .inr h6⟩
  ·exact .inr ⟨cid, q, h5⟩
theorem Hand.O_D {md : Nat → Nat} {ids : List (Nat × Bool)} {T : List Tg} {as : List AV} {vals : List Value} (H : Hand Γ w0 A O0 ν0 N F D st ν tm w md ids T as vals) {b : Nat} (h : Hand.O F ν md T as b) : ¬ DL D st F ν ids b := by
 obtain ⟨kc, o, h1, h2, h3⟩ := H.O_TB h
 rintro (hd | ⟨id, hi, q, o', hl, hb⟩)
 ·exact H.R.dT b hd ⟨kc, o, h1, h2⟩
 ·have := H.R.inj _ _ b o o' h1 hl h2 hb
  subst this
  rcases h3 with ⟨t, c, p, hz, e, _⟩ | ⟨i, q, e⟩
  ·cases e
   obtain ⟨hid, _⟩ := H.lents.mem_zip hz
   exact b4t H.apart hid hi
  ·cases e
theorem c2o {md : Nat → Nat} {ids : List (Nat × Bool)} {T : List Tg} {as : List AV} {vals : List Value} (H : Hand Γ w0 A O0 ν0 N F D st ν tm w md ids T as vals) {i : Nat} {a : AV} (ha : as[i]? = some a) :
  RS (initLoc md as) (NuC F ν (T.zip (cidAll md 0 as))) w (DL D st F ν ids) (initLoc md as (.t i)) (vals.toArray.getD i Go.undef) := by
 have hi : i < as.length := (List.getElem?_eq_some_iff.1 ha).1
 have hlen := H.len
 obtain ⟨L, v, val, hval, hL, hZ, hp⟩ := H.args i a ha
 have hv : vals.toArray.getD i Go.undef = val := by rw [Array.getD_eq_getD_getElem?]; simp [hval]
 rw [hv]
 have hDL : ∀ b, DL D st F ν L b → DL D st F ν ids b := fun b hb => hb.mono hL
 have lentNu : ∀ t c, (t, c) ∈ T.zip (cidAll md 0 as) → NuC F ν (T.zip (cidAll md 0 as)) c.1 none = ν t.1 t.2.2 := fun t c h => a7k H.nC h
 cases hp with
 | data _ _ _ hq hr =>
  have hI : initLoc md as (.t i) = a := by
   cases hr with
   | clo f caps vs hs hl =>
    simp only [initLoc, ha]
    congr 1
    apply List.ext_getElem?
    intro k
    rw [a2q]
    cases hc : caps[k]? with
    | none => rfl
    | some c =>
     have := hl k c hc
     simp only [Option.map_some]
     revert this
     generalize vs.getD k Go.undef = x
     intro this
     cases this <;> rfl
   | _ => simp only [initLoc, ha]
  rw [hI]
  exact .data _ _ (hr.wider hDL)
 | moved id g n s es φ _ hmd hF hv hr hid =>
  have hI : initLoc md as (.t i) = .sl i 1 none 0 es.length := by simp only [initLoc, ha]
  have ho : initLoc md as (.h i) = .obj 1 0 s es := by rw [a6s ha (by omega), hmd]; rfl
  rw [hI]
  obtain ⟨x, cap, rfl, h1, h2⟩ := hv
  refine .sl i 1 none 0 es.length _ ⟨x, cap, rfl, h1⟩ (by rw [ho]; exact Nat.le_refl _) (by intro _ _ _ _ _ _ hp; cases hp) fun m s' es' hn => ?_
  simp only [nodeAt, ho, if_true, Option.some.injEq, Prod.mk.injEq] at hn
  obtain ⟨rfl, rfl, rfl⟩ := hn
  rw [a8z H.len hmd ha hF]
  exact ⟨x, cap, rfl, h1, h2⟩
 | lentS id g p m s es _ hmd hn hm hbx hi' hid hv =>
  have hI : initLoc md as (.t i) = .sl i 1 none 0 es.length := by simp only [initLoc, ha]
  have hm2 : ¬ md i = 2 := by omega
  have ho : initLoc md as (.h i) = .obj 1 1 s es := by rw [a6s ha (by omega), if_neg hm2]
  have hz : ((id, g, p), (i, 1, s)) ∈ T.zip (cidAll md 0 as) := hZ _ (by simp [X8, N6, hmd, hm2])
  rw [hI]
  obtain ⟨x, cap, rfl, h1, h2⟩ := hv
  refine .sl i 1 none 0 es.length _ ⟨x, cap, rfl, h1⟩ (by rw [ho]; exact Nat.le_refl _) (by intro _ _ _ _ _ _ hp; cases hp) fun m s' es' hn => ?_
  simp only [nodeAt, ho, if_true, Option.some.injEq, Prod.mk.injEq] at hn
  obtain ⟨rfl, rfl, rfl⟩ := hn
  rw [lentNu _ _ hz]
  exact ⟨x, cap, rfl, h1, h2⟩
 | lentP _ _ _ hb =>
  obtain ⟨id, g, j, m, s, es, b, o, rfl, rfl, h3, h4, h5, h6, h7, h8⟩ := hb
  have hI : initLoc md as (.t i) = .ptr i 1 none 0 j := by simp only [initLoc, ha]
  have ho : initLoc md as (.h i) = .obj 1 4 0 es := a8b ha (by omega)
  have hz : ((id, g, none), (i, 4, 0)) ∈ T.zip (cidAll md 0 as) := hZ _ (by simp [X8, N6])
  rw [hI, h8]
  refine .ptr i 1 none 0 j _ ⟨b, o + j, rfl⟩ (by rw [ho]; exact Nat.le_refl _) (by intro _ _ _ _ _ _ hp; cases hp) fun m s' es' hn => ?_
  have := lentNu _ _ hz
  simp only at this
  rw [this]
  exact ⟨b, o, h7, by simp⟩
 | clo f caps caps' cs M hmd hlc hs hM hsep hc =>
  have hI : initLoc md as (.t i) = .clo f (initCaps i 0 caps') := by simp only [initLoc, ha]
  rw [hI]
  have hle := b2b H.caps ha
  refine .clo f _ cs (by rw [b7m]; omega) fun k l hl => ?_
  rw [a2q] at hl
  cases hc' : caps'[k]? with
  | none => simp [hc'] at hl
  | some c' =>
   have hk : k < caps'.length := (List.getElem?_eq_some_iff.1 hc').1
   have hcc : caps[k]? = some (caps[k]'(by omega)) := List.getElem?_eq_getElem (by omega)
   simp only [hc', Option.map_some, Option.some.injEq] at hl
   rcases hc k _ c' hcc hc' with ⟨hr, hn1, hn2⟩ | hb
   ·have : l = c' := by
     rw [← hl]
     cases c' <;> first | rfl | exact (hn2 _ _ _ rfl).elim
    rw [this]
    exact .data _ _ (hr.wider hDL)
   ·obtain ⟨id, g, j, m, s, es, b, o, e1, rfl, h3, h4, h5, h6, h7, h8⟩ := hb
    simp only [Nat.zero_add] at hl
    subst hl
    have ho : initLoc md as (.h (fid i k)) = .obj 1 4 0 es := c2c ha (by omega) hc' (by omega)
    have hz : ((id, g, none), (fid i k, 4, 0)) ∈ T.zip (cidAll md 0 as) := by
     refine hZ _ ?_
     simp only [X8, N6, hmd, if_true]
     have hzip := c0j (st := st) (ν := ν) (w := w) (F := F) (D := D) (md := md) (as := as) (i := i) (cs := cs) (by omega) (idt := L) (M := M) (fun k x hx => hM k x hx) ha hle caps caps' 0 hlc (fun j c' hj => by rw [Nat.zero_add]; exact hj) (fun j c c' h1 h2 => by rw [Nat.zero_add]; exact hc j c c' h1 h2)
     have := b6s caps caps' 0 k hzip hlc (fun n c c' h1 h2 => ?_) (by rw [hcc, e1]) hc'
     ·simpa using this
     ·rcases hc n c c' h1 h2 with ⟨_, q1, q2⟩ | ⟨id, g, j, m, s, es, b, o, rfl, rfl, _⟩
      ·exact ⟨fun ⟨id, g, i, j, e⟩ => (q1 _ _ _ _ _ e).elim, fun ⟨es, a, b, e⟩ => (q2 _ _ _ e).elim⟩
      ·exact ⟨fun _ => ⟨_, _, _, rfl⟩, fun _ => ⟨_, _, _, _, rfl⟩⟩
    rw [h8]
    refine .ptr (fid i k) 1 none 0 j _ ⟨b, o + j, rfl⟩ (by rw [ho]; exact Nat.le_refl _) (by intro _ _ _ _ _ _ hp; cases hp) fun m s' es' hn => ?_
    have := lentNu _ _ hz
    simp only at this
    rw [this]
    exact ⟨b, o, h7, by simp⟩
theorem RN.bxIff {w : World} {L : AV → Value → Prop} {φ : Path → Base} {base : Base} {bx bx' : Prop} {s : Nat} {es : List AV} (h : RN w L φ base bx s es) (e : bx ↔ bx') : RN w L φ base bx' s es := by
 have : bx = bx' := propext e
 subst this
 exact h
theorem Hand.init {md : Nat → Nat} {ids : List (Nat × Bool)} {T : List Tg} {as : List AV} {vals : List Value} (H : Hand Γ w0 A O0 ν0 N F D st ν tm w md ids T as vals) :
  Rel Γ w (fun b => DL D st F ν ids b ∨ Hand.O F ν md T as b) (Hand.O F ν md T as) (NuC F ν (T.zip (cidAll md 0 as))) as.length Fl.emp (DL D st F ν ids) (initLoc md as) (NuC F ν (T.zip (cidAll md 0 as))) vals.toArray w := by
 have hDL : ∀ b, D b → DL D st F ν ids b := fun b hb => .inl hb
 have himm : ∀ l v, immLeaf l = true → RS st ν w D l v → RS (initLoc md as) (NuC F ν (T.zip (cidAll md 0 as))) w (DL D st F ν ids) l v :=
  fun l v hi h => .data _ _ ((h.imm hi).wider hDL)
 refine ⟨by simp [H.lenv], fun i hi => ?_, fun i hi => ?_, ?_, ?_, (by intro k f hf; cases hf), ?_, ?_, fun b hb => .inl (.inl hb), ?_, fun b hb => .inl hb, Nat.le_refl _, rfl, rfl, rfl, fun _ => Nat.le_refl _, fun _ _ _ => rfl, fun _ _ => rfl, fun _ _ _ _ _ _ _ => rfl, ?_, ?_⟩
 ·exact c2o H (List.getElem?_eq_getElem hi)
 ·have : as[i]? = none := List.getElem?_eq_none hi
  simp only [initLoc, this]
 ·intro cid g m s es ho
  obtain ⟨rfl, hc⟩ := b2q ho
  rcases hc with ⟨hi, rfl, hmd, ha⟩ | hc
  ·obtain ⟨L, v, val, hval, hL, hZ, hp⟩ := H.args cid _ ha
   cases hp with
   | data _ _ _ hq hr => cases hr
   | moved id g n s' es' φ _ _ hF hv hr hid =>
    have := H.R.flos _ _ hF
    simp only [show ¬ ((0 : Nat) = 3 ∨ (0 : Nat) = 4) from by decide]
    have hnu : ∀ q, NuC F ν (T.zip (cidAll md 0 as)) cid q = φ q := fun q => a8z H.len hmd ha hF q
    exact this.monoL (hnu _) (fun _ _ _ _ _ => hnu _) (fun _ _ _ => rfl) (fun _ _ _ _ _ _ _ _ => rfl)
     (fun i j l v hl ho => himm l v (by rcases N2 hr hl with h | h; rw [ho] at h; cases h; exact h)) (fun _ _ _ _ _ _ l v _ _ => himm l v)
   | lentS id g p m s' es' _ hmd' => omega
   | lentP _ _ _ hb =>
    obtain ⟨_, _, _, _, _, _, _, _, _, he, _⟩ := hb
    cases he
  ·obtain ⟨t, ht, ⟨hid, es', ⟨him, hl⟩, hini⟩, hz⟩ := H.lents.mem_right hc
   rw [ho] at hini
   cases hini
   have hnu := a7k (F := F) (ν := ν) H.nC hz
   obtain ⟨hnr, him⟩ := him
   simp only at hnu hl
   rcases him with him | ⟨htn, hc1⟩
   ·have hno : ∀ i j s2 es2, leafAt es i j = some (.own s2 es2) → False := fun i j s2 es2 h => by
     have := I6 him h; simp [immLeaf] at this
    refine ⟨?_, fun i j s2 es2 h => (hno _ _ _ _ h).elim⟩
    rcases hl with ⟨rfl, m', hn, hm2, hbx⟩ | ⟨rfl, rfl, hp, m', s', ho', hm⟩
    ·have := ((H.R.node hn).1.unbx (O1 hbx))
     simp only [show ¬ ((1 : Nat) = 3 ∨ (1 : Nat) = 4) from by decide]
     exact this.monoL hnu (fun _ _ _ => rfl) (fun i j l v hl _ h => himm l v (I6 him hl) h) (fun i j s2 es2 h => (hno _ _ _ _ h).elim)
    ·have := (H.R.objs _ _ _ _ _ ho').top
     rw [hp] at hnu
     have := (this.bxIff (bx' := ((4 : Nat) = 3 ∨ (4 : Nat) = 4)) ⟨fun _ => .inr rfl, fun _ => hm⟩).anyS (.inr rfl) (s' := 0) (fun b o hb => by have := (H.R.objs _ _ _ _ _ ho').top.room hb; omega)
     exact this.monoL hnu (fun _ _ _ => rfl) (fun i j l v hl _ h => himm l v (I6 him hl) h) (fun i j s2 es2 h => (hno _ _ _ _ h).elim)
   ·rcases hl with ⟨rfl, m', hn, hm2, hbx⟩ | ⟨h4, _⟩
    ·have hnq := fun q => a8f (F := F) (ν := ν) H.nC hz htn q
     simp only at hnq
     rw [htn] at hn hbx
     have ho' := K4 hn
     have hRO := H.R.objs _ _ _ _ _ ho'
     have hb := O1 hbx
     simp only [show ¬ ((1 : Nat) = 3 ∨ (1 : Nat) = 4) from by decide]
     have : RO w (RS st ν w D) (ν t.1) False s es := ⟨hRO.top.bxIff ⟨fun h => (hb ⟨rfl, h⟩).elim, fun h => h.elim⟩, hRO.sub⟩
     exact this.monoL (hnq _) (fun _ _ _ _ _ => hnq _) (fun _ _ _ => rfl) (fun _ _ _ _ _ _ _ _ => rfl)
      (fun i j l v hl ho => himm l v (by rcases N2 hnr hl with h | h; rw [ho] at h; cases h; exact h)) (fun _ _ _ _ _ _ l v _ _ => himm l v)
    ·simp only at hc1; omega
 ·intro cid g s es ho
  obtain ⟨rfl, hc⟩ := b2q ho
  rcases hc with ⟨hi, h0, _⟩ | hc
  ·cases h0
  ·obtain ⟨t, ht, ⟨hid, es', ⟨him, hl⟩, hini⟩, hz⟩ := H.lents.mem_right hc
   rcases hl with ⟨h, _⟩ | ⟨h, _⟩ <;> cases h
 ·intro k1 k2 b o1 o2 l1 l2 b1 b2
  cases k1 with
  | fl k q => obtain ⟨f, hf, _⟩ := l1; cases hf
  | nd c1 q1 => cases k2 with
   | fl k q => obtain ⟨f, hf, _⟩ := l2; cases hf
   | nd c2 q2 =>
    obtain ⟨k1, m1, e1, h1⟩ := H.key l1
    obtain ⟨k2, m2, e2, h2⟩ := H.key l2
    have := H.R.inj k1 k2 b o1 o2 m1 m2 (e1.trans b1) (e2.trans b2)
    subst this
    rcases h1 with ⟨t1, d1, z1, rfl, g1⟩ | g1
    ·rcases h2 with ⟨t2, d2, z2, rfl, g2⟩ | g2
     ·have ht : t1.1 = t2.1 := by
       rcases g1 with ⟨_, g1⟩ | ⟨_, g1⟩ <;> rcases g2 with ⟨_, g2⟩ | ⟨_, g2⟩ <;> (rw [g1] at g2; injection g2)
      obtain ⟨rfl, rfl⟩ := a4j (k := fun t : Tg => t.1) T _ H.nT _ _ _ _ z1 z2 ht
      have hq : q1 = q2 := by
       rcases g1 with ⟨e1, g1⟩ | ⟨e1, g1⟩ <;> rcases g2 with ⟨e2, g2⟩ | ⟨e2, g2⟩ <;> (rw [g1] at g2; injection g2 with _ g2) <;> simp_all
      rw [hq]
     ·rcases g1 with ⟨_, g1⟩ | ⟨_, g1⟩ <;> (rw [g1] at g2; cases g2)
    ·rcases h2 with ⟨t2, d2, z2, rfl, g2⟩ | g2
     ·rcases g2 with ⟨_, g2⟩ | ⟨_, g2⟩ <;> (rw [g1] at g2; cases g2)
     ·rw [g1] at g2
      injection g2 with a b
      have : c1 = c2 := by simp [κA] at a; omega
      rw [this, b]
 ·intro b hb ht
  exact H.O_D ht hb
 ·rintro b (hb | ⟨id, hi, hb⟩)
  ·exact ⟨(H.R.dlt b hb).1, fun h => by
    rcases h with h | h
    ·have := (H.R.dlt b hb).1; omega
    ·exact (H.O_D h (.inl hb)).elim⟩
  ·have hb0 := hb
   obtain ⟨q, o, hl, hbb⟩ := hb
   exact ⟨H.R.live_lt hl hbb, fun _ => H.R.live_cells hl hbb⟩
 ·intro b hb
  obtain ⟨h1, h2⟩ := H.R.gO b hb
  refine ⟨fun ho => ?_, Nat.lt_of_lt_of_le h2 H.R.le⟩
  obtain ⟨kc, o, k1, k2, _⟩ := H.O_TB ho
  rcases H.R.tO b ⟨kc, o, k1, k2⟩ with h | h
  ·exact h1 h
  ·omega
 ·exact Γ.stable _ _ (fun b hb => H.R.fr b (H.R.gO b hb).2 (H.R.gO b hb).1) H.R.gi
end
def Repl (st st' : St) (t : Tg) (o : List AV) : Prop :=
 ∃ m s es es2, st (.h t.1) = .obj t.2.1 m s es ∧ st' (.h t.1) = .obj t.2.1 m s es2 ∧
  ((t.2.2 = none ∧ es2 = o ∧ o.length = es.length ∧ nilFit es o = true) ∨
   (∃ x y s1 es1, t.2.2 = some (x, y) ∧ leafAt es x y = some (.own s1 es1) ∧ o.length = es1.length ∧ LeafSet (m = 3 ∨ m = 4) s es es2 x y (.own s1 o) ∧ nilFit es1 o = true))
theorem b2m {C : Caller} {st st' : St} {id g : Nat} {p : Path} {o : List AV} {u : Unit} (h : (a4m id g p o).go C st = some (u, st')) :
  Repl st st' (id, g, p) o ∧ (∀ i, st' (.t i) = st (.t i)) ∧ ∀ k, k ≠ id → st' (.h k) = st (.h k) := by
 unfold a4m at h
 simp only [RW.go_bind, RW.go_up, RW.go_wr, Option.bind_eq_some_iff, Option.map_eq_some_iff, C1] at h
 obtain ⟨_, ⟨⟨m, s, es⟩, h1, rfl⟩, _, ⟨_, h2, rfl⟩, _, ⟨ws, h3, rfl⟩, h4⟩ := h
 obtain ⟨hl, hn⟩ := C4 h2
 rw [G3] at h1
 obtain ⟨s0, es0, ho, hp⟩ := J9 h1
 unfold wrNode at h3
 simp only [Rd.ev_read, ho] at h3
 rcases hp with ⟨rfl, rfl, rfl⟩ | ⟨x, y, rfl, hlf⟩
 ·simp only [Rd.ev_ret, Option.some.injEq] at h3
  subst h3
  simp only [St.upds, Option.some.injEq, Prod.mk.injEq] at h4
  obtain ⟨_, rfl⟩ := h4
  exact ⟨⟨m, s0, es0, o, ho, St.upd_eq _ _ _, .inl ⟨rfl, rfl, hl, hn⟩⟩, fun i => P8 _ _ _ _, fun k hk => J4 _ _ _ hk⟩
 ·cases he : es0[x]? with
  | none => simp [leafAt, he] at hlf
  | some e =>
   simp only [he, hlf, Rd.ev_ret, Option.some.injEq] at h3
   subst h3
   simp only [St.upds, Option.some.injEq, Prod.mk.injEq] at h4
   obtain ⟨_, rfl⟩ := h4
   exact ⟨⟨m, s0, es0, _, ho, St.upd_eq _ _ _, .inr ⟨x, y, s, es, rfl, hlf, hl, S5 he hlf (by intro gs hh; cases hh), hn⟩⟩, fun i => P8 _ _ _ _, fun k hk => J4 _ _ _ hk⟩
theorem b4m {C : Caller} : ∀ (T : List Tg) (outs : List (List AV)) (st st' : St) (u : Unit), (X5 T outs).go C st = some (u, st') → M1 (T.map (·.1)) = true →
  (∀ i, st' (.t i) = st (.t i)) ∧ (∀ k, k ∉ T.map (·.1) → st' (.h k) = st (.h k)) ∧ ∀ t o, (t, o) ∈ T.zip outs → Repl st st' t o := by
 intro T
 induction T with
 | nil =>
  intro outs st st' u h _
  cases outs with
  | nil =>
   simp only [X5, RW.go_pure, Option.some.injEq, Prod.mk.injEq] at h
   obtain ⟨_, rfl⟩ := h
   exact ⟨fun _ => rfl, fun _ _ => rfl, fun t o h => by simp at h⟩
  | cons => simp [X5] at h
 | cons t T ih =>
  intro outs st st' u h hn
  obtain ⟨id, g, p⟩ := t
  cases outs with
  | nil => simp [X5] at h
  | cons o outs =>
   simp only [X5, RW.go_bind, Option.bind_eq_some_iff] at h
   obtain ⟨⟨u1, st1⟩, h1, h2⟩ := h
   simp only [List.map_cons, M1, Bool.and_eq_true, List.all_eq_true, bne_iff_ne, ne_eq] at hn
   obtain ⟨n1, n2⟩ := hn
   obtain ⟨q1, q2, q3⟩ := b2m h1
   obtain ⟨r1, r2, r3⟩ := ih outs st1 st' u h2 n2
   have hid : id ∉ T.map (·.1) := fun hm => n1 id hm rfl
   refine ⟨fun i => (r1 i).trans (q2 i), fun k hk => ?_, fun t o' ht => ?_⟩
   ·simp only [List.map_cons, List.mem_cons, not_or] at hk
    exact (r2 k hk.2).trans (q3 k hk.1)
   ·simp only [List.zip_cons_cons, List.mem_cons, Prod.mk.injEq] at ht
    rcases ht with ⟨rfl, rfl⟩ | ht
    ·obtain ⟨m, s, es, es2, a1, a2, a3⟩ := q1
     exact ⟨m, s, es, es2, a1, by rw [r2 _ hid]; exact a2, a3⟩
    ·obtain ⟨m, s, es, es2, a1, a2, a3⟩ := r3 t o' ht
     have hne : t.1 ≠ id := fun e => hid (e ▸ List.mem_map_of_mem (List.of_mem_zip ht).1)
     exact ⟨m, s, es, es2, by rw [← q3 _ hne]; exact a1, a2, a3⟩
theorem c8u {st : St} : ∀ (Cs : List Cid) (outs : List (List AV)), outsOf st Cs = some outs → Zip (fun c o => st (.h c.1) = .obj 1 c.2.1 c.2.2 o ∧ D6 o = true) Cs outs := by
 intro Cs
 induction Cs with
 | nil =>
  intro outs h
  simp only [outsOf, Option.some.injEq] at h
  subst h
  exact .nil
 | cons c Cs ih =>
  intro outs h
  obtain ⟨cid, m, s⟩ := c
  simp only [outsOf] at h
  split at h
  ·rename_i g' m' s' es ho
   split at h
   ·rename_i hc
    obtain ⟨rfl, rfl, rfl, hi⟩ := hc
    simp only [Option.map_eq_some_iff] at h
    obtain ⟨os, h1, rfl⟩ := h
    exact .cons ⟨ho, hi⟩ (ih os h1)
   ·cases h
  ·cases h
theorem c1p {α β γ : Type} {R : β → γ → Prop} : ∀ (T : List α) (Cs : List β) (os : List γ), Zip R Cs os → ∀ t c, (t, c) ∈ T.zip Cs → ∃ o, R c o ∧ (t, o) ∈ T.zip os ∧ o ∈ os := by
 intro T
 induction T with
 | nil => intro Cs os _ t c h; simp at h
 | cons a T ih =>
  intro Cs os hz t c h
  cases hz with
  | nil => simp at h
  | cons h1 hz =>
   simp only [List.zip_cons_cons, List.mem_cons, Prod.mk.injEq] at h
   rcases h with ⟨rfl, rfl⟩ | h
   ·exact ⟨_, h1, List.mem_cons_self .., List.mem_cons_self ..⟩
   ·obtain ⟨o, q1, q2, q3⟩ := ih _ _ hz t c h
    exact ⟨o, q1, List.mem_cons_of_mem _ q2, List.mem_cons_of_mem _ q3⟩
theorem c3l {c : AV} {s : Nat} {es : List AV} (h : b7d c (.own s es) = true) : ∃ es', c = .own s es' := by
 cases c <;> simp [b7d] at h
 exact ⟨_, by rw [h]⟩
theorem a9v : ∀ (cs ls : List AV) (j : Nat), a0a cs ls = true → (ls[j]? = some .nil → cs[j]? = some .nil) ∧ ∀ s es, ls[j]? = some (.own s es) → ∃ es', cs[j]? = some (.own s es') := by
 intro cs
 induction cs with
 | nil =>
  intro ls
  induction ls with
  | nil => intro j _; exact ⟨fun h => by simp at h, fun s es h => by simp at h⟩
  | cons l ls ih =>
   intro j h
   simp only [a0a, Bool.and_eq_true, Bool.not_eq_true'] at h
   cases j with
   | zero =>
    refine ⟨fun hj => ?_, fun s es hj => ?_⟩
    ·simp only [List.getElem?_cons_zero, Option.some.injEq] at hj
     subst hj
     simp [I0] at h
    ·simp only [List.getElem?_cons_zero, Option.some.injEq] at hj
     subst hj
     simp [isOwn] at h
   | succ j =>
    have := ih j h.2.2
    refine ⟨fun hj => ?_, fun s es hj => ?_⟩
    ·have := this.1 (by simpa using hj); simp at this
    ·obtain ⟨_, this⟩ := this.2 s es (by simpa using hj); simp at this
 | cons c cs ih =>
  intro ls j h
  cases ls with
  | nil => exact ⟨fun h => by simp at h, fun s es h => by simp at h⟩
  | cons l ls =>
   simp only [a0a, Bool.and_eq_true, Bool.or_eq_true, Bool.not_eq_true'] at h
   cases j with
   | zero =>
    refine ⟨fun hj => ?_, fun s es hj => ?_⟩
    ·simp only [List.getElem?_cons_zero, Option.some.injEq] at hj ⊢
     subst hj
     rcases h.1 with h | h
     ·simp [I0] at h
     ·cases c <;> simp [I0] at h
      rfl
    ·simp only [List.getElem?_cons_zero, Option.some.injEq] at hj ⊢
     subst hj
     exact c3l h.2.1
   | succ j =>
    have := ih ls j h.2.2
    exact ⟨fun hj => by simpa using this.1 (by simpa using hj), fun s es hj => by simpa using this.2 s es (by simpa using hj)⟩
theorem a9m : ∀ (es os : List AV) (i j : Nat), nilFit es os = true → (leafAt os i j = some .nil → leafAt es i j = some .nil) ∧ ∀ s o, leafAt os i j = some (.own s o) → ∃ e, leafAt es i j = some (.own s e) := by
 intro es
 induction es with
 | nil =>
  intro os
  induction os with
  | nil => intro i j _; exact ⟨fun h => by simp [leafAt] at h, fun s o h => by simp [leafAt] at h⟩
  | cons o os ih =>
   intro i j h
   simp only [nilFit, Bool.and_eq_true] at h
   cases i with
   | zero =>
    have := a9v [] _ j h.1
    refine ⟨fun hj => ?_, fun s o hj => ?_⟩
    ·simp only [leafAt, List.getElem?_cons_zero, Option.bind_some] at hj
     have := this.1 hj; simp at this
    ·simp only [leafAt, List.getElem?_cons_zero, Option.bind_some] at hj
     obtain ⟨_, this⟩ := this.2 _ _ hj; simp at this
   | succ i =>
    have := ih i j h.2
    refine ⟨fun hj => ?_, fun s o hj => ?_⟩
    ·have := this.1 (by simpa [leafAt] using hj); simp [leafAt] at this
    ·obtain ⟨_, this⟩ := this.2 s o (by simpa [leafAt] using hj); simp [leafAt] at this
 | cons e es ih =>
  intro os i j h
  cases os with
  | nil => exact ⟨fun h => by simp [leafAt] at h, fun s o h => by simp [leafAt] at h⟩
  | cons o os =>
   simp only [nilFit, Bool.and_eq_true] at h
   cases i with
   | zero =>
    have := a9v _ _ j h.1
    refine ⟨fun hj => ?_, fun s o hj => ?_⟩
    ·simp only [leafAt, List.getElem?_cons_zero, Option.bind_some] at hj ⊢
     exact this.1 hj
    ·simp only [leafAt, List.getElem?_cons_zero, Option.bind_some] at hj ⊢
     exact this.2 _ _ hj
   | succ i =>
    have := ih os i j h.2
    exact ⟨fun hj => by simpa [leafAt] using this.1 (by simpa [leafAt] using hj), fun s o hj => by simpa [leafAt] using this.2 s o (by simpa [leafAt] using hj)⟩
theorem c6b (es os : List AV) (i j : Nat) (h : nilFit es os = true) (hl : leafAt os i j = some .nil) : leafAt es i j = some .nil := (a9m es os i j h).1 hl
theorem a8l {es os : List AV} {i j s : Nat} {o : List AV} (h : nilFit es os = true) (hl : leafAt os i j = some (.own s o)) : ∃ e, leafAt es i j = some (.own s e) := (a9m es os i j h).2 s o hl
theorem b4w {es : List AV} {e l : AV} (he : e ∈ es) (hl : l ∈ leaves e) : ∃ i j, leafAt es i j = some l := by
 obtain ⟨i, hi⟩ := List.mem_iff_getElem?.1 he
 obtain ⟨j, hj⟩ := List.mem_iff_getElem?.1 hl
 exact ⟨i, j, by simp [leafAt, hi, hj]⟩
theorem a3z {es os : List AV} (hi : M3 es = true) (hn : D6 os = true) (h : nilFit es os = true) : M3 os = true := by
 unfold M3
 rw [List.all_eq_true]
 intro e he
 have hr : J5 e = true := List.all_eq_true.1 hn e he
 have key : ∀ l ∈ leaves e, isOwn l = false := fun l hl => by
  obtain ⟨i, j, hij⟩ := b4w he hl
  cases l with
  | own s o =>
   obtain ⟨e', h'⟩ := a8l h hij
   have := I6 hi h'
   simp [immLeaf] at this
  | _ => rfl
 cases e with
 | agg fs =>
  simp only [J5, List.all_eq_true] at hr
  simp only [I5, List.all_eq_true]
  intro l hl
  have h1 := hr l hl
  have h2 := key l (by simpa [leaves] using hl)
  rw [h2] at h1
  simpa using h1
 | own s o => have := key (.own s o) (by simp [leaves]); simp [isOwn] at this
 | _ => simpa [J5, I5, isOwn] using hr
mutual
theorem b9f : ∀ (a : AV), hasList a = false → ∀ l ∈ leaves a, hasList l = false
 | .agg fs, h, l, hl => U8 fs (by simpa [hasList] using h) l hl
 | .undef, h, l, hl => by simp [leaves] at hl; subst hl; exact h
 | .val v, h, l, hl => by simp [leaves] at hl; subst hl; exact h
 | .nil, h, l, hl => by simp [leaves] at hl; subst hl; exact h
 | .list es, h, l, hl => by simp [leaves] at hl; subst hl; exact h
 | .own s es, h, l, hl => by simp [leaves] at hl; subst hl; exact h
 | .ownp es i j, h, l, hl => by simp [leaves] at hl; subst hl; exact h
 | .sl .., h, l, hl => by simp [leaves] at hl; subst hl; exact h
 | .ptr .., h, l, hl => by simp [leaves] at hl; subst hl; exact h
 | .ipt .., h, l, hl => by simp [leaves] at hl; subst hl; exact h
 | .tup vs, h, l, hl => by simp [leaves] at hl; subst hl; exact h
 | .clo .., h, l, hl => by simp [leaves] at hl; subst hl; exact h
 | .obj .., h, l, hl => by simp [leaves] at hl; subst hl; exact h
 | .dead .., h, l, hl => by simp [leaves] at hl; subst hl; exact h
 | .ifc, h, l, hl => by simp [leaves] at hl; subst hl; exact h
 | .asl .., h, l, hl => by simp [leaves] at hl; subst hl; exact h
theorem U8 : ∀ (fs : List AV), E3 fs = false → ∀ l ∈ fs, hasList l = false
 | [], _, l, hl => by cases hl
 | a :: r, h, l, hl => by
  simp only [E3, Bool.or_eq_false_iff] at h
  cases hl with
  | head => exact h.1
  | tail _ hl => exact U8 r h.2 l hl
end
theorem P4 {es : List AV} (h : E3 es = false) {i j : Nat} {l : AV} (hl : leafAt es i j = some l) : hasList l = false := by
 unfold leafAt at hl
 cases he : es[i]? with
 | none => simp [he] at hl
 | some e =>
  simp only [he, Option.bind_some] at hl
  exact b9f e (U8 es h e (List.mem_of_getElem? he)) l (List.mem_of_getElem? hl)
theorem RV.conv {w : World} {D D' : Nat → Prop} {a : AV} {v : Value} (h : RV w D a v) (hi : immLeaf a = true) (hd : hasList a = false ∨ ∀ b, D b → D' b) : RV w D' a v := by
 rcases hd with hd | hd
 ·cases h with
  | val v => exact .val v
  | ifc t v => exact .ifc t v
  | nil a => exact .nil a
  | list => simp [hasList] at hd
  | clo f caps vs hs hl =>
   cases caps with
   | nil => exact .clo f [] vs hs fun i l h => by simp at h
   | cons c cs =>
    simp only [immLeaf, List.all_cons, Bool.and_eq_true] at hi
    simp only [hasList, E3, Bool.or_eq_false_iff] at hd
    cases c <;> simp [a0h] at hi
    simp [hasList] at hd
  | agg => simp [immLeaf] at hi
  | tup => simp [immLeaf] at hi
  | ipt => simp [immLeaf] at hi
 ·exact h.wider hd
def Z5 : AV → Bool
 | .clo _ (c :: cs) => (c :: cs).all a0h
 | a => immLeaf a
theorem c2v {a : AV} (h : immLeaf a = true) : Z5 a = true := by
 cases a with
 | clo f cs =>
  cases cs with
  | nil => rfl
  | cons c cs => exact h
 | _ => exact h
theorem RV.convR {w : World} {D D' : Nat → Prop} {a : AV} {v : Value} (h : RV w D a v) (hi : Z5 a = true) (hd : hasList a = false ∨ ∀ b, D b → D' b) : RV w D' a v := by
 by_cases h1 : immLeaf a = true
 ·exact h.conv h1 hd
 ·rcases hd with hd | hd
  ·cases a with
   | clo f cs =>
    cases cs with
    | nil => exact (h1 rfl).elim
    | cons c cs =>
     simp only [Z5, List.all_cons, Bool.and_eq_true] at hi
     simp only [hasList, E3, Bool.or_eq_false_iff] at hd
     cases c <;> simp [a0h] at hi
     simp [hasList] at hd
   | _ => exact (h1 hi).elim
  ·exact h.wider hd
section
variable {P : Program} {C : Caller} {Γ : Env} {w0 : World} {A O0 : Nat → Prop} {ν0 : Nu} {N : Nat} {F : Fl} {D : Nat → Prop} {st : St} {ν : Nu} {tm : Array Value} {w : World}
structure Merge (Γ : Env) (F : Fl) (D : Nat → Prop) (st : St) (ν : Nu) (w : World) (md : Nat → Nat) (ids : List (Nat × Bool)) (T : List Tg) (as : List AV)
  (Fc : Fl) (Dc : Nat → Prop) (stc : St) (νc : Nu) (w' : World) (st' : St) (q : Prop) : Prop where
 Rc : Rel Γ w (fun b => DL D st F ν ids b ∨ Hand.O F ν md T as b) (Hand.O F ν md T as) (NuC F ν (T.zip (cidAll md 0 as))) 0 Fc Dc stc νc #[] w'
 t : ∀ i, st' (.t i) = st (.t i)
 h : ∀ k, k ∉ T.map (·.1) → st' (.h k) = st (.h k)
 lent : ∀ t c, (t, c) ∈ T.zip (cidAll md 0 as) → ∃ o, stc (.h c.1) = .obj 1 c.2.1 c.2.2 o ∧ D6 o = true ∧ Repl st st' t o ∧ (q ∨ E3 o = false)
 hq : q → ∀ x ∈ ids, x.2 = true
 flo : ∀ k f, Fc k = some f → D6 f.es = true ∧ (q ∨ E3 f.es = false)
variable {md : Nat → Nat} {ids : List (Nat × Bool)} {T : List Tg} {as : List AV} {vals : List Value} {Fc : Fl} {Dc : Nat → Prop} {stc : St} {νc : Nu} {w' : World} {st' : St} {q : Prop}
def Dn (D Dc : Nat → Prop) (q : Prop) (b : Nat) : Prop := D b ∨ (q ∧ Dc b)
theorem Merge.cases (M : Merge Γ F D st ν w md ids T as Fc Dc stc νc w' st' q) {b : Nat} (hb : Dn D Dc q b) : D b ∨ (Dc b ∧ (Hand.O F ν md T as b ∨ w.heap.size ≤ b)) := by
 rcases hb with hb | ⟨hq, hb⟩
 ·exact .inl hb
 ·rcases M.Rc.dA b hb with (h | h) | h
  ·rcases h with h | ⟨id, hi, _⟩
   ·exact .inl h
   ·have := M.hq hq _ hi
    cases this
  ·exact .inr ⟨hb, .inl h⟩
  ·exact .inr ⟨hb, .inr h⟩
theorem Merge.ext (H : Hand Γ w0 A O0 ν0 N F D st ν tm w md ids T as vals) (M : Merge Γ F D st ν w md ids T as Fc Dc stc νc w' st' q) : Ext st ν w st' ν w' := by
 have hcs : ∀ b, b < w.heap.size → csize w' b = csize w b := M.Rc.cs
 have find : ∀ k, k ∈ T.map (·.1) → ∃ t c, (t, c) ∈ T.zip (cidAll md 0 as) ∧ t.1 = k := by
  intro k hk
  obtain ⟨t, ht, rfl⟩ := List.mem_map.1 hk
  obtain ⟨n, hn⟩ := List.mem_iff_getElem?.1 ht
  have hl := H.lents.length
  have hnl : n < T.length := (List.getElem?_eq_some_iff.1 hn).1
  refine ⟨t, (cidAll md 0 as)[n]'(by omega), List.mem_iff_getElem?.2 ⟨n, ?_⟩, rfl⟩
  rw [List.getElem?_zip_eq_some]
  exact ⟨hn, List.getElem?_eq_getElem _⟩
 refine ⟨fun id => ?_, fun id g m' s' es' hg h => ?_⟩
 ·by_cases hid : id ∈ T.map (·.1)
  ·obtain ⟨t, c, hz, rfl⟩ := find id hid
   obtain ⟨o, _, _, ⟨m, s, es, es2, h1, h2, _⟩, _⟩ := M.lent t c hz
   rw [h1, h2]; exact Nat.le_refl _
  ·rw [M.h id hid]; exact Nat.le_refl _
 ·by_cases hid : id ∈ T.map (·.1)
  ·obtain ⟨t, c, hz, rfl⟩ := find id hid
   obtain ⟨o, _, hoi, ⟨m, s, es, es2, h1, h2, hr⟩, _⟩ := M.lent t c hz
   rw [h2] at h
   cases h
   refine ⟨_, es, h1, rfl, fun b o hb => hcs b (H.R.hlt h1 (fun _ hq => by cases hq) hb), fun x y => ?_⟩
   rcases hr with ⟨hp, rfl, hl, hn⟩ | ⟨x0, y0, s1, es1, hp, hlf, hl, hS, hn⟩
   ·refine ⟨fun e => c6b _ _ _ _ hn e, fun s2 es2 e => ?_⟩
    obtain ⟨e1, he1⟩ := a8l hn e
    exact .inr ⟨e1, he1, rfl, fun b o hb => hcs b (H.R.hlt h1 (fun q hq => by cases hq; exact ⟨_, _, he1⟩) hb)⟩
   ·by_cases e : (x, y) = (x0, y0)
    ·cases e
     rw [hS.at_]
     refine ⟨(fun e => by cases e), fun s2 es2 e => ?_⟩
     cases e
     exact .inr ⟨es1, hlf, rfl, fun b o hb => hcs b (H.R.hlt h1 (fun q hq => by cases hq; exact ⟨_, _, hlf⟩) hb)⟩
    ·rw [hS.other _ _ e]
     exact ⟨fun e => e, fun s2 es2 e => .inr ⟨es2, e, rfl, fun b o hb => hcs b (H.R.hlt h1 (fun q hq => by cases hq; exact ⟨_, _, e⟩) hb)⟩⟩
  ·rw [M.h id hid] at h
   exact ⟨m', es', h, rfl, fun b o hb => hcs b (H.R.hlt h (fun _ hq => by cases hq) hb), fun x y => ⟨fun z => z, fun s2 es2 z => .inr ⟨es2, z, rfl, fun b o hb => hcs b (H.R.hlt h (fun q hq => by cases hq; exact ⟨s2, es2, z⟩) hb)⟩⟩⟩
theorem Hand.find (H : Hand Γ w0 A O0 ν0 N F D st ν tm w md ids T as vals) {k : Nat} (hk : k ∈ T.map (·.1)) : ∃ t c, (t, c) ∈ T.zip (cidAll md 0 as) ∧ t.1 = k := by
 obtain ⟨t, ht, rfl⟩ := List.mem_map.1 hk
 obtain ⟨n, hn⟩ := List.mem_iff_getElem?.1 ht
 have hl := H.lents.length
 have hnl : n < T.length := (List.getElem?_eq_some_iff.1 hn).1
 refine ⟨t, (cidAll md 0 as)[n]'(by omega), List.mem_iff_getElem?.2 ⟨n, ?_⟩, rfl⟩
 rw [List.getElem?_zip_eq_some]
 exact ⟨hn, List.getElem?_eq_getElem _⟩
theorem Hand.apartKey (H : Hand Γ w0 A O0 ν0 N F D st ν tm w md ids T as vals) {id : Nat} {p : Path} {b o : Nat} (hl : live st F (.nd id p)) (hb : ν id p = some (b, o))
  (hn : ∀ t c, (t, c) ∈ T.zip (cidAll md 0 as) → t.1 = id → t.2.2 ≠ p ∧ t.2.2 ≠ none) : ¬ Hand.O F ν md T as b := by
 intro hO
 obtain ⟨kc, o', h1, h2, h3⟩ := H.O_TB hO
 have := H.R.inj _ _ b o' o h1 hl h2 hb
 subst this
 rcases h3 with ⟨t, c, p', hz, e, he⟩ | ⟨i, q, e⟩
 ·injection e with e1 e2
  obtain ⟨n1, n2⟩ := hn t c hz e1.symm
  rcases he with he | he
  ·exact n1 (he.symm.trans e2.symm)
  ·exact n2 he
 ·cases e
theorem Merge.same (H : Hand Γ w0 A O0 ν0 N F D st ν tm w md ids T as vals) (M : Merge Γ F D st ν w md ids T as Fc Dc stc νc w' st' q) {id g m s : Nat} {es : List AV} (h : st (.h id) = .obj g m s es)
  {p : Path} (hp : livePath es p) {b o : Nat} (hb : ν id p = some (b, o)) (hn : ∀ t c, (t, c) ∈ T.zip (cidAll md 0 as) → t.1 = id → t.2.2 ≠ p ∧ t.2.2 ≠ none) : w'.heap[b]? = w.heap[b]? := by
 refine M.Rc.fr b (H.R.hlt h hp hb) ?_
 by_cases hm : m = 2
 ·subst hm
  obtain ⟨f1, f2⟩ := H.R.frozen id g s es h
  cases p with
  | none => exact fun hO => H.O_D hO (.inl (f1 b o hb))
  | some q =>
   obtain ⟨s2, es2, hl⟩ := hp q rfl
   have := I6 f2 hl
   simp [immLeaf] at this
 ·exact H.apartKey ⟨g, m, s, es, h, hm, hp⟩ hb hn
theorem Merge.rs (H : Hand Γ w0 A O0 ν0 N F D st ν tm w md ids T as vals) (M : Merge Γ F D st ν w md ids T as Fc Dc stc νc w' st' q) {a : AV} {v : Value} (h : RS st ν w D a v) : RS st' ν w' (Dn D Dc q) a v :=
 h.mono (M.ext H) (fun b hb hlt => ⟨M.Rc.fr b hlt fun hO => H.O_D hO (.inl hb), .inl hb⟩) M.Rc.le
theorem Merge.leaf (M : Merge Γ F D st ν w md ids T as Fc Dc stc νc w' st' q) {l : AV} {v : Value} (hi : immLeaf l = true) (hq : q ∨ hasList l = false) (h : RS stc νc w' Dc l v) : RS st' ν w' (Dn D Dc q) l v := by
 refine .data _ _ ((h.imm hi).conv hi ?_)
 rcases hq with hq | hq
 ·exact .inr fun b hb => .inr ⟨hq, hb⟩
 ·exact .inl hq
theorem Merge.root (H : Hand Γ w0 A O0 ν0 N F D st ν tm w md ids T as vals) {t : Tg} {c : Cid} (hz : (t, c) ∈ T.zip (cidAll md 0 as)) {o : List AV} (hn : D6 o = true) (hr : Repl st st' t o) : M3 o = true ∨ (t.2.2 = none ∧ c.2.1 = 1) := by
 obtain ⟨hid, es', ⟨⟨_, him⟩, hl⟩, hini⟩ := H.lents.mem_zip hz
 obtain ⟨m, s, es, es2, h1, h2, hr⟩ := hr
 rcases him with him | him
 ·left
  rcases hr with ⟨hp, rfl, hl', hf⟩ | ⟨x0, y0, s1, es1, hp, hlf, hl', hS, hf⟩
  ·rcases hl with ⟨_, m', hn', _⟩ | ⟨_, _, hp, m', s', ho, hm⟩
   ·rw [hp] at hn'
    have := K4 hn'
    rw [h1] at this
    injection this with _ _ _ e
    subst e
    exact a3z him hn hf
   ·rw [h1] at ho
    injection ho with _ _ _ e
    subst e
    exact a3z him hn hf
  ·rcases hl with ⟨_, m', hn', _⟩ | ⟨_, _, hp', m', s', ho, hm⟩
   ·rw [hp] at hn'
    simp only [nodeAt, h1, if_true, hlf, Option.some.injEq, Prod.mk.injEq] at hn'
    obtain ⟨_, _, rfl⟩ := hn'
    exact a3z him hn hf
   ·rw [hp] at hp'; cases hp'
 ·exact .inr him
theorem Merge.node (H : Hand Γ w0 A O0 ν0 N F D st ν tm w md ids T as vals) (M : Merge Γ F D st ν w md ids T as Fc Dc stc νc w' st' q) {t : Tg} {c : Cid} (hz : (t, c) ∈ T.zip (cidAll md 0 as)) :
  ∃ o, stc (.h c.1) = .obj 1 c.2.1 c.2.2 o ∧ D6 o = true ∧ Repl st st' t o ∧ live stc Fc (.nd c.1 none) ∧ νc c.1 none = ν t.1 t.2.2 ∧
   RN w' (RS st' ν w' (Dn D Dc q)) (ν t.1) (ν t.1 t.2.2) (c.2.1 = 3 ∨ c.2.1 = 4) c.2.2 o ∧ (M3 o = true ∨ (t.2.2 = none ∧ c.2.1 = 1)) ∧ (t.2.2 = none → ∀ r, νc c.1 r = ν t.1 r) ∧ (q ∨ E3 o = false) := by
 obtain ⟨o, h1, h2, h3, h4⟩ := M.lent t c hz
 obtain ⟨hid, es', ⟨him, hl⟩, hini⟩ := H.lents.mem_zip hz
 have hm : c.2.1 = 1 ∨ c.2.1 = 4 := by rcases hl with ⟨h, _⟩ | ⟨h, _⟩; exact .inl h; exact .inr h
 have hν : νc c.1 none = ν t.1 t.2.2 := by
  rw [M.Rc.io _ _ _ _ _ h1 hm]
  exact a7k H.nC hz
 have hνq : t.2.2 = none → ∀ r, νc c.1 r = ν t.1 r := fun hp r => by
  rw [M.Rc.io _ _ _ _ _ h1 hm]
  exact a8f H.nC hz hp r
 have hroot := Merge.root H hz h2 h3
 refine ⟨o, h1, h2, h3, ⟨_, _, _, _, h1, by omega, fun _ hq => by cases hq⟩, hν, ?_, hroot, hνq, h4⟩
 have := (M.Rc.objs _ _ _ _ _ h1).top
 rw [hν] at this
 refine this.monoL rfl (fun _ _ _ => rfl) (fun i j l v hl ho h => M.leaf (by rcases N2 h2 hl with h | h; rw [ho] at h; cases h; exact h) (h4.imp id fun h => P4 h hl) h) (fun i j s2 es2 h => ?_)
 rcases hroot with hi | hi
 ·have := I6 hi h
  simp [immLeaf] at this
 ·exact ⟨(hνq hi.1 _).symm, fun _ _ _ => rfl⟩
theorem Merge.liveNd (H : Hand Γ w0 A O0 ν0 N F D st ν tm w md ids T as vals) (M : Merge Γ F D st ν w md ids T as Fc Dc stc νc w' st' q) {id : Nat} {p : Path} (h : live st' Fc (.nd id p)) : live st F (.nd id p) := by
 obtain ⟨g, m, s, es, h1, h2, h3⟩ := h
 by_cases hid : id ∈ T.map (·.1)
 ·obtain ⟨t, c, hz, rfl⟩ := H.find hid
  obtain ⟨o, _, hoi, ⟨m', s', es', es2, k1, k2, hr⟩, _⟩ := M.lent t c hz
  rw [k2] at h1
  injection h1 with a1 a2 a3 a4
  subst a2 a3 a4
  refine ⟨_, _, _, _, k1, h2, fun q hq => ?_⟩
  obtain ⟨s3, es3, h3⟩ := h3 q hq
  rcases hr with ⟨hp, rfl, hl, hn⟩ | ⟨x0, y0, s1, es1, hp, hlf, hl, hS, hn⟩
  ·obtain ⟨e1, he1⟩ := a8l hn h3
   exact ⟨_, _, he1⟩
  ·by_cases e : (q.1, q.2) = (x0, y0)
   ·injection e with e1 e2
    rw [e1, e2]
    exact ⟨_, _, hlf⟩
   ·rw [hS.other _ _ e] at h3
    exact ⟨_, _, h3⟩
 ·rw [M.h id hid] at h1
  exact ⟨g, m, s, es, h1, h2, h3⟩
theorem Merge.flO (M : Merge Γ F D st ν w md ids T as Fc Dc stc νc w' st' q) {k : FK} {p : Path} {b o : Nat} (hl : live st' Fc (.fl k p)) (hb : baseOf ν Fc (.fl k p) = some (b, o)) :
  live stc Fc (.fl k p) ∧ baseOf νc Fc (.fl k p) = some (b, o) ∧ (Hand.O F ν md T as b ∨ w.heap.size ≤ b) :=
 ⟨hl, hb, M.Rc.tO b ⟨.fl k p, o, hl, hb⟩⟩
theorem Merge.ndO (H : Hand Γ w0 A O0 ν0 N F D st ν tm w md ids T as vals) (M : Merge Γ F D st ν w md ids T as Fc Dc stc νc w' st' q) {id : Nat} {p : Path} {b o : Nat} (hl : live st' Fc (.nd id p)) (hb : ν id p = some (b, o)) :
  b < w.heap.size ∧ (¬ Hand.O F ν md T as b ∨ ∃ c r, live stc Fc (.nd c r) ∧ νc c r = some (b, o)) := by
 have hl0 := M.liveNd H hl
 refine ⟨H.R.live_lt hl0 hb, ?_⟩
 by_cases h : ∃ t c, (t, c) ∈ T.zip (cidAll md 0 as) ∧ t.1 = id ∧ t.2.2 = p
 ·obtain ⟨t, c, hz, rfl, rfl⟩ := h
  obtain ⟨o', h1, h2, h3, h4, h5, _⟩ := M.node H hz
  exact .inr ⟨c.1, none, h4, h5.trans hb⟩
 ·by_cases h' : ∃ t c, (t, c) ∈ T.zip (cidAll md 0 as) ∧ t.1 = id ∧ t.2.2 = none
  ·obtain ⟨t, c, hz, rfl, hp⟩ := h'
   obtain ⟨o', h1, h2, ⟨m, s, es, es2, k1, k2, hr⟩, ⟨_, _, _, _, k3, k4, _⟩, h5, _, _, h8, _⟩ := M.node H hz
   obtain ⟨g, m', s', es', e1, e2, e3⟩ := hl
   rw [k2] at e1
   injection e1 with _ _ _ e4
   rcases hr with ⟨_, rfl, _, _⟩ | ⟨_, _, _, _, hp', _⟩
   ·subst e4
    refine .inr ⟨c.1, p, ⟨1, c.2.1, c.2.2, _, h1, ?_, e3⟩, (h8 hp p).trans hb⟩
    rw [h1] at k3
    injection k3 with _ k3
    omega
   ·rw [hp] at hp'; cases hp'
  ·exact .inl (H.apartKey hl0 hb fun t c hz e1 => ⟨fun e2 => h ⟨t, c, hz, e1, e2⟩, fun e2 => h' ⟨t, c, hz, e1, e2⟩⟩)
theorem Merge.rel (hOA : ∀ b, O0 b → A b) (H : Hand Γ w0 A O0 ν0 N F D st ν tm w md ids T as vals) (M : Merge Γ F D st ν w md ids T as Fc Dc stc νc w' st' q) :
  Rel Γ w0 A O0 ν0 N Fc (Dn D Dc q) st' ν tm w' := by
 have R := H.R
 have hO : ∀ b, Hand.O F ν md T as b → O0 b ∨ w0.heap.size ≤ b := fun b hb => by
  obtain ⟨kc, o, h1, h2, _⟩ := H.O_TB hb
  exact R.tO b ⟨kc, o, h1, h2⟩
 have hOlt : ∀ b, Hand.O F ν md T as b → b < w.heap.size := fun b hb => by
  obtain ⟨kc, o, h1, h2, _⟩ := H.O_TB hb
  exact R.live_lt h1 h2
 have hle := M.Rc.le
 have hle0 := R.le
 -- a node of the caller's and a float of the callee's
 have cross : ∀ id p k r b o1 o2, live st' Fc (.nd id p) → ν id p = some (b, o1) → live st' Fc (.fl k r) → baseOf ν Fc (.fl k r) = some (b, o2) → False := by
  intro id p k r b o1 o2 hl1 hb1 hl2 hb2
  obtain ⟨h1, h2, h3⟩ := M.flO hl2 hb2
  obtain ⟨hlt, hn⟩ := M.ndO H hl1 hb1
  rcases hn with hn | ⟨c, r', hc1, hc2⟩
  ·rcases h3 with h3 | h3
   ·exact hn h3
   ·omega
  ·have := M.Rc.inj _ _ b o1 o2 hc1 h1 hc2 h2
   cases this
 refine ⟨R.size, fun i hi => by rw [M.t]; exact M.rs H (R.slots i hi), fun i hi => by rw [M.t]; exact R.high i hi, ?_, ?_, ?_, ?_, ?_, ?_, ?_, ?_, by omega,
  M.Rc.os.trans R.os, M.Rc.tape.trans R.tape, M.Rc.output.trans R.output, fun h => Nat.le_trans (R.dr h) (M.Rc.dr h), ?_, ?_, ?_, R.gO, R.gi⟩
 ·intro id g m s es h
  by_cases hid : id ∈ T.map (·.1)
  ·obtain ⟨t, c, hz, rfl⟩ := H.find hid
   obtain ⟨o, h1, h2, ⟨m', s', es', es2, k1, k2, hr⟩, h4, h5, h6, h7, h8, h9⟩ := M.node H hz
   rw [k2] at h
   injection h with a1 a2 a3 a4
   subst a2 a3 a4
   obtain ⟨_, es0, ⟨him, hl⟩, hini⟩ := H.lents.mem_zip hz
   rcases hr with ⟨hp, rfl, hlen, hn⟩ | ⟨x0, y0, s1, es1, hp, hlf, hlen, hS, hnf⟩
   ·refine ⟨?_, fun i j s2 es2 h => ?_⟩
    rotate_left
    ·obtain ⟨r1, r2⟩ := (M.Rc.objs _ _ _ _ _ h1).sub i j s2 es2 h
     refine ⟨r1.monoL (h8 hp _).symm (fun _ _ _ => rfl) (fun i' j' l v hl' _ h' => M.leaf (r2 i' j' l hl') (h9.imp id fun hh => ?_) h') (fun i' j' s3 es3 h' => ?_), r2⟩
     ·have := P4 hh h
      simp only [hasList] at this
      exact P4 this hl'
     ·have := r2 i' j' _ h'; simp [immLeaf] at this
    rw [hp] at h6
    rcases hl with ⟨hc1, m1, hn1, hm2, hbx⟩ | ⟨hc1, hc2, _, m1, s1, ho1, hm⟩
    ·rw [hp] at hn1 hbx
     have := K4 hn1
     rw [k1] at this
     injection this with _ b2 b3 b4
     rw [b3]
     refine h6.bxIff ?_
     have hb := O1 hbx
     rw [b2]
     constructor
     ·intro h; omega
     ·intro h; exact (hb ⟨rfl, h⟩).elim
    ·rw [k1] at ho1
     injection ho1 with _ b2 b3 b4
     refine (h6.bxIff (bx' := (m' = 3 ∨ m' = 4)) ⟨fun _ => by omega, fun _ => .inr hc1⟩).anyS (by omega) fun b o hb => ?_
     have := (R.objs _ _ _ _ _ k1).top.room hb
     rw [hlen, M.Rc.cs b (R.hlt k1 (fun _ hq => by cases hq) hb)]
     exact this
   ·have hRO := R.objs _ _ _ _ _ k1
    rw [hp] at h6
    have hmv : ∀ i j, (i, j) ≠ (x0, y0) → ∀ t' c', (t', c') ∈ T.zip (cidAll md 0 as) → t'.1 = t.1 → t'.2.2 ≠ some (i, j) ∧ t'.2.2 ≠ none := by
     intro i j hne t' c' hz' e1
     obtain ⟨rfl, rfl⟩ := a4j (k := fun t : Tg => t.1) T _ H.nT _ _ _ _ hz' hz e1
     rw [hp]
     exact ⟨fun e2 => (by injection e2 with e2; exact hne e2.symm), fun e2 => (by cases e2)⟩
    have hnt : ∀ t' c', (t', c') ∈ T.zip (cidAll md 0 as) → t'.1 = t.1 → t'.2.2 ≠ none ∧ t'.2.2 ≠ none := by
     intro t' c' hz' e1
     obtain ⟨rfl, rfl⟩ := a4j (k := fun t : Tg => t.1) T _ H.nT _ _ _ _ hz' hz e1
     rw [hp]
     exact ⟨fun e2 => (by cases e2), fun e2 => (by cases e2)⟩
    obtain ⟨hc1, m1, hn1, _⟩ : c.2.1 = 1 ∧ ∃ m, nodeAt st t.1 t.2.1 t.2.2 = some (m, c.2.2, es0) ∧ m ≠ 2 ∧ bxB m t.2.2 = false := by
     rcases hl with hl | ⟨_, _, hp', _⟩
     ·exact hl
     ·rw [hp] at hp'; cases hp'
    have hs1 : c.2.2 = s1 := by
     rw [hp] at hn1
     simp only [nodeAt, k1, if_true, hlf, Option.some.injEq, Prod.mk.injEq] at hn1
     exact hn1.2.1.symm
    refine ⟨?_, fun i j s2 es2 h => ?_⟩
    ·have ht := hRO.top
     cases hν : ν t.1 none with
     | none =>
      rw [hν] at ht
      have : es' = [] := ht
      subst this
      simp [leafAt] at hlf
     | some r =>
      obtain ⟨b, o1⟩ := r
      rw [hν] at ht
      have hsame := M.same H k1 (p := none) (fun _ hq => by cases hq) hν hnt
      obtain ⟨cc, ety, q1, q2, q3, q5, q4⟩ := ht
      refine ⟨cc, ety, hsame.trans q1, by rw [hS.len]; exact q2, fun hb => hS.sz hb (q3 hb), fun hb => by rw [hS.len]; exact q5 hb, fun i j l hl' => ?_⟩
      by_cases e : (i, j) = (x0, y0)
      ·cases e
       rw [hS.at_] at hl'
       cases hl'
       obtain ⟨v, hv, hr⟩ := q4 _ _ _ hlf
       refine ⟨v, hv, ?_⟩
       have hr' : SlV w (ν t.1 (some (x0, y0))) s1 0 es1.length v := hr
       show SlV w' (ν t.1 (some (x0, y0))) s1 0 o.length v
       rw [hlen]
       exact hr'.mono rfl fun b1 o1 hb1 => M.Rc.cs b1 (R.hlt k1 (fun q hq => by cases hq; exact ⟨_, _, hlf⟩) hb1)
      ·rw [hS.other _ _ e] at hl'
       obtain ⟨v, hv, hr⟩ := q4 _ _ _ hl'
       exact ⟨v, hv, hr.mono (fun a v h => M.rs H h) (fun _ _ _ => rfl) fun s3 es3 b1 o1 he hb1 => M.Rc.cs b1 (R.hlt k1 (fun q hq => by cases hq; exact ⟨s3, es3, he ▸ hl'⟩) hb1)⟩
    ·by_cases e : (i, j) = (x0, y0)
     ·cases e
      rw [hS.at_] at h
      injection h with h
      injection h with b1 b2
      subst b1 b2
      have h2' : M3 o = true := by
       rcases h7 with h7 | h7
       ·exact h7
       ·rw [hp] at h7; cases h7.1
      refine ⟨?_, V6 h2'⟩
      rw [hs1] at h6
      exact h6.bxIff ⟨fun h => by omega, fun h => h.elim⟩
     ·rw [hS.other _ _ e] at h
      obtain ⟨r1, r2⟩ := hRO.sub i j s2 es2 h
      refine ⟨r1.mono rfl (fun b1 o1 hb1 => M.same H k1 (p := some (i, j)) (fun q hq => by cases hq; exact ⟨_, _, h⟩) hb1 (hmv i j e)) (fun a v h => M.rs H h) (fun i' j' s4 es4 h4 => ?_), r2⟩
      have := r2 i' j' _ h4; simp [immLeaf] at this
  ·rw [M.h id hid] at h
   have hn : ∀ p, ∀ t c, (t, c) ∈ T.zip (cidAll md 0 as) → t.1 = id → t.2.2 ≠ p ∧ t.2.2 ≠ none := fun p t c hz e => (hid (e ▸ List.mem_map_of_mem (List.of_mem_zip hz).1)).elim
   exact (R.objs id g m s es h).mono rfl (fun _ _ _ _ _ => rfl) (fun b o hb => M.same H h (p := none) (fun _ hq => by cases hq) hb (hn _))
    (fun i j s2 es2 b o hl hb => M.same H h (p := some (i, j)) (fun q hq => by cases hq; exact ⟨_, _, hl⟩) hb (hn _)) (fun a v h => M.rs H h)
 ·intro id g s es h
  have hid : id ∉ T.map (·.1) := by
   intro hid
   obtain ⟨t, c, hz, rfl⟩ := H.find hid
   obtain ⟨o, h1, h2, ⟨m', s', es', es2, k1, k2, hr⟩, _⟩ := M.lent t c hz
   obtain ⟨_, es0, ⟨him, hl⟩, hini⟩ := H.lents.mem_zip hz
   rw [k2] at h
   injection h with a1 a2 a3 a4
   subst a2
   rcases hl with ⟨_, m, hn, hm2, _⟩ | ⟨_, _, hp, m, s, ho, hm⟩
   ·obtain ⟨s0, es0, ho, _⟩ := J9 hn
    rw [k1] at ho
    injection ho with b1 b2
    exact hm2 b2.symm
   ·rw [k1] at ho
    injection ho with b1 b2
    omega
  rw [M.h id hid] at h
  obtain ⟨f1, f2⟩ := R.frozen id g s es h
  exact ⟨fun b o hb => .inl (f1 b o hb), f2⟩
 ·intro k f hf
  obtain ⟨n1, n2⟩ := M.flo k f hf
  refine (M.Rc.flos k f hf).monoL rfl (fun _ _ _ _ _ => rfl) (fun _ _ _ => rfl) (fun _ _ _ _ _ _ _ _ => rfl)
   (fun i j l v hl ho h => M.leaf (by rcases N2 n1 hl with h | h; rw [ho] at h; cases h; exact h) (n2.imp id fun h => P4 h hl) h)
   (fun i j s2 es2 i' j' l v hl hl' hi h => M.leaf hi (n2.imp id fun h => ?_) h)
  have := P4 h hl
  simp only [hasList] at this
  exact P4 this hl'
 ·intro k1 k2 b o1 o2 l1 l2 b1 b2
  cases k1 with
  | nd i1 p1 => cases k2 with
   | nd i2 p2 => exact R.inj _ _ b o1 o2 (M.liveNd H l1) (M.liveNd H l2) b1 b2
   | fl k2 r => exact (cross _ _ _ _ _ _ _ l1 b1 l2 b2).elim
  | fl k1 r => cases k2 with
   | nd i2 p2 => exact (cross _ _ _ _ _ _ _ l2 b2 l1 b1).elim
   | fl k2 r2 => exact M.Rc.inj _ _ b o1 o2 l1 l2 b1 b2
 ·rintro b hb ⟨k, o, hl, hbo⟩
  rcases M.cases hb with hb | ⟨hb, hx⟩
  ·cases k with
   | nd id p => exact R.dT b hb ⟨_, o, M.liveNd H hl, hbo⟩
   | fl k r =>
    obtain ⟨_, _, h3⟩ := M.flO hl hbo
    rcases h3 with h3 | h3
    ·exact H.O_D h3 (.inl hb)
    ·have := (R.dlt b hb).1; omega
  ·cases k with
   | nd id p =>
    obtain ⟨hlt, hn⟩ := M.ndO H hl hbo
    rcases hn with hn | ⟨c, r', hc1, hc2⟩
    ·rcases hx with hx | hx
     ·exact hn hx
     ·omega
    ·exact M.Rc.dT b hb ⟨_, o, hc1, hc2⟩
   | fl k r => exact M.Rc.dT b hb ⟨.fl k r, o, hl, hbo⟩
 ·intro b hb
  rcases M.cases hb with hb | ⟨_, hb | hb⟩
  ·exact R.dA b hb
  ·exact (hO b hb).imp (hOA b) fun h => h
  ·exact .inr (by omega)
 ·intro b hb
  have key : D b → b < w'.heap.size ∧ ((w0.heap.size ≤ b ∨ O0 b) → ∃ c ety, w'.heap[b]? = some (.cells c ety (0, 0))) := fun hb => by
   have hlt := (R.dlt b hb).1
   refine ⟨by omega, fun h => ?_⟩
   rw [M.Rc.fr b hlt (fun ho => H.O_D ho (.inl hb))]
   exact (R.dlt b hb).2 h
  rcases M.cases hb with hb | ⟨hb, hx⟩
  ·exact key hb
  ·exact ⟨(M.Rc.dlt b hb).1, fun _ => (M.Rc.dlt b hb).2 (hx.symm)⟩
 ·rintro b ⟨k, o, hl, hbo⟩
  cases k with
  | nd id p => exact R.tO b ⟨_, o, M.liveNd H hl, hbo⟩
  | fl k r =>
   obtain ⟨_, _, h3⟩ := M.flO hl hbo
   rcases h3 with h3 | h3
   ·exact hO b h3
   ·exact .inr (by omega)
 ·intro b hlt hn
  rw [M.Rc.fr b (by omega) fun h => (hO b h).elim hn (by omega)]
  exact R.fr b hlt hn
 ·intro b hlt
  rw [M.Rc.cs b (by omega)]
  exact R.cs b hlt
 ·intro id g m s es h hm
  by_cases hid : id ∈ T.map (·.1)
  ·obtain ⟨t, c, hz, rfl⟩ := H.find hid
   obtain ⟨o, h1, h2, ⟨m', s', es', es2, k1, k2, hr⟩, _⟩ := M.lent t c hz
   rw [k2] at h
   injection h with a1 a2 a3 a4
   subst a2
   exact R.io _ _ _ _ _ k1 hm
  ·rw [M.h id hid] at h
   exact R.io _ _ _ _ _ h hm
end
end Go.Mv
end
