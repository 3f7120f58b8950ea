/- The abstract machine, part 4 of 4: it runs the model's code on abstract values and is proved sound over any program. Conditions: none. -/
import Derived.Lib.AtoiAll
import Derived.Test.YtcpmbhfnapijaaaGreatDoorMc

set_option linter.unusedVariables false
set_option linter.unusedSimpArgs false
section
namespace Go.Mv
open Go
section
variable {cx : Cx} {keep : List Nat} {A : Asr} {Q : AExit → Asr → Prop}
theorem J6 {β : Type} {body : Code} (K : Asr) (I : β → Asr) (P : β → Prop) (m : β → Nat) (b0 : β) (hA : HasL A (K ++ I b0)) (h0 : P b0)
  (hs : ∀ b, P b → XA cx keep body (K ++ I b) fun r A' => match r with
   | .normal => ∃ b', P b' ∧ m b' < m b ∧ HasL A' (K ++ I b')
   | r => Q r A') : XA cx keep (.loop body) A Q := d0d (fun b => K ++ I b) P m b0 hA h0 hs
end
theorem a6n {id g i : Nat} {p : Option (Nat × Nat)} : ∀ (ls : List AV) (j : Nat), (ls.all fun l => !isOwn l) = true → viewLeaves id g p i j ls = ls := by
 intro ls
 induction ls with
 | nil => intro j _; rfl
 | cons l ls ih =>
  intro j h
  simp only [List.all_cons, Bool.and_eq_true] at h
  simp only [viewLeaves, ih _ h.2]
  have : a5k id g p i j l = l := by
   unfold a5k
   split
   ·simp [isOwn] at h
   ·rfl
  rw [this]
theorem c8j {ls : List AV} (h : (ls.all fun l => !isOwn l) = true) (j : Nat) : ((ls.drop j).all fun l => !isOwn l) = true := by
 rw [List.all_eq_true] at h ⊢
 exact fun l hl => h l (List.mem_of_mem_drop hl)
section
variable {cx : Cx} {b : Bool} {cids : List Cid} {outs : List (List AV)}
def c1o (cx : Cx) (b : Bool) (cids : List Cid) (outs : List (List AV)) (rs : List ResultVar) (A : Asr) (vs : List AV) : Prop :=
 wpW (CW cx) A (retAll cx.P b rs) fun us ws _ => us = vs ∧ a1z (puts A ws) cids outs
theorem E7 {A : Asr} (ho : a1z A cids outs) : c1o cx b cids outs [] A [] := C1 ⟨rfl, ho⟩
theorem D7 {A : Asr} {t : Nat} {v : AV} {rs : List ResultVar} {vs : List AV} (hv : look A (.t t) = some v) (hi : c6a v = true) (h : c1o cx b cids outs rs A vs) : c1o cx b cids outs (.tmp t :: rs) A (v :: vs) := by
 refine a6h (a1k hv (b9v hi ?_))
 refine G4 h ?_
 rintro us ws ls ⟨rfl, h2⟩
 exact ⟨rfl, h2⟩
theorem b0k (A : Asr) : ∀ (a b : Ws), puts A (a ++ b) = puts (puts A a) b := by
 intro a
 induction a generalizing A with
 | nil => intro b; rfl
 | cons x a ih => intro b; obtain ⟨l, v⟩ := x; exact ih _ b
theorem F9 {A : Asr} {t id g s n : Nat} {es : List AV} {rs : List ResultVar} {vs : List AV} (hv : look A (.t t) = some (.sl id g none 0 n)) (hob : look A (.h id) = some (.obj g 0 s es)) (hn : n = es.length) (hi : G3 es = true)
  (h : c1o cx b cids outs rs (put A (.h id) (.dead g)) vs) : c1o cx b cids outs (.tmp t :: rs) A (.own s es :: vs) := by
 refine a6h (a1k hv (b0l hob hn hi ?_))
 refine G4 h ?_
 rintro us ws ls ⟨rfl, h2⟩
 refine ⟨rfl, ?_⟩
 rw [b0k]
 exact h2
theorem D3 {A : Asr} {rs : List ResultVar} {us : List AV} {res : AV} (h : c1o cx b cids outs rs A us) (he : S3 us = res) : RetA cx b rs cids A res outs := by
 refine b7r (G4 h ?_)
 rintro us' ws _ ⟨rfl, h2⟩
 exact ⟨he, h2⟩
def b5m (C : Caller) (A : Asr) (d k : Nat) (vs : List AV) {G : Type} (us : G → List AV) (ws : G → Ws) (ls : List Mv.Loc) : Prop := wpW C A (instAll d k vs) fun a w l => ∃ g, a = us g ∧ w = ws g ∧ l = ls
variable {C : Caller} {A : Asr} {d k : Nat}
theorem M0 : b5m C A d k [] (fun _ : Unit => []) (fun _ => []) [] := C1 ⟨(), rfl, rfl, rfl⟩
theorem I9 {G : Type} {v : AV} {vs : List AV} {us : G → List AV} {ws : G → Ws} {ls : List Mv.Loc} (h : L6 v = true) (t : b5m C A d (k + 16) vs us ws ls) : b5m C A d k (v :: vs) (fun g => v :: us g) ws ls := by
 refine A6 (a9k h (A6 (G4 t ?_)))
 rintro _ _ _ ⟨g, rfl, rfl, rfl⟩
 exact C1 ⟨g, rfl, by simp, by simp⟩
theorem M3 {G : Type} {s : Nat} {es : List AV} {vs : List AV} {us : G → List AV} {ws : G → Ws} {ls : List Mv.Loc} (t : ∀ g0, b5m C (put A (.h (tid d k)) (.obj g0 0 s es)) d (k + 16) vs us ws ls) :
  b5m C A d k (.own s es :: vs) (fun g : Nat × G => .sl (tid d k) g.1 none 0 es.length :: us g.2) (fun g => (.h (tid d k), .obj g.1 0 s es) :: ws g.2) (.h (tid d k) :: ls) := by
 refine A6 (a7o fun g0 => A6 (G4 (t g0) ?_))
 rintro _ _ _ ⟨g, rfl, rfl, rfl⟩
 exact C1 ⟨(g0, g), rfl, by simp, by simp⟩
theorem H8 {G : Type} {vs : List AV} {us : G → List AV} {ws : G → Ws} {ls : List Mv.Loc} (h : b5m C A d 16 vs us ws ls) : a4k C A d (.tup vs) (fun g => .tup (us g)) ws ls := by
 refine A6 (G4 h ?_)
 rintro _ _ _ ⟨g, rfl, rfl, rfl⟩
 exact C1 ⟨g, rfl, by simp, by simp⟩
end
section
variable {cx : Cx} {keep : List Nat} {ops0 : Array Oper} {r : List Oper} {A : Asr} {Q : Asr → List Log → Prop} {d : Nat} {ty : Nat} {pos : String} {aft : Array Edge}
theorem Q1 {α : Type} [Inhabited α] {f : α → AV} {xs : List α} {a : Operand} {T id g m s i j : Nat} {v : AV} (ha : opd A a = some (.ptr id g none i j)) (ho : look A (.h id) = some (.obj g m s (xs.map f))) (hi : i < xs.length)
  (hp : partF cx.P T (viewLeaves id g none i j ((leaves (f (xs.getD i default))).drop j)) = some v) (hk : slotOk keep (.t d) v = true)
  (h : XR cx keep ops0 r ((.t d, v) :: A) fun A' lg => Q A' ((rds a ++ [.h id], [.t d]) :: lg)) : XR cx keep ops0 (⟨some d, .load T a, ty, pos, aft, none⟩ :: r) A Q :=
 T5 (e := f (xs.getD i default)) ha ho (by rw [List.getElem?_map, List.getElem?_eq_getElem hi, List.getD_eq_getElem?_getD, List.getElem?_eq_getElem hi]; rfl) hp hk h
theorem B8 {a : Operand} {T id g m s i j : Nat} {es : List AV} {e v : AV} (ha : opd A a = some (.ptr id g none i j)) (ho : look A (.h id) = some (.obj g m s es)) (he : es[i]? = some e) (hn : ((leaves e).all fun l => !isOwn l) = true)
  (hp : partF cx.P T ((leaves e).drop j) = some v) (hk : slotOk keep (.t d) v = true)
  (h : XR cx keep ops0 r ((.t d, v) :: A) fun A' lg => Q A' ((rds a ++ [.h id], [.t d]) :: lg)) : XR cx keep ops0 (⟨some d, .load T a, ty, pos, aft, none⟩ :: r) A Q :=
 T5 ha ho he (by rw [a6n _ _ (c8j hn j)]; exact hp) hk h
theorem J1 {α : Type} [Inhabited α] {f : α → AV} {xs : List α} {a : Operand} {T id g m s i j : Nat} {v : AV} (ha : opd A a = some (.ptr id g none i j)) (ho : look A (.h id) = some (.obj g m s (xs.map f))) (hi : i < xs.length)
  (hn : ∀ a, ((leaves (f a)).all fun l => !isOwn l) = true) (hp : partF cx.P T ((leaves (f (xs.getD i default))).drop j) = some v) (hk : slotOk keep (.t d) v = true)
  (h : XR cx keep ops0 r ((.t d, v) :: A) fun A' lg => Q A' ((rds a ++ [.h id], [.t d]) :: lg)) : XR cx keep ops0 (⟨some d, .load T a, ty, pos, aft, none⟩ :: r) A Q :=
 B8 (e := f (xs.getD i default)) ha ho (by rw [List.getElem?_map, List.getElem?_eq_getElem hi, List.getD_eq_getElem?_getD, List.getElem?_eq_getElem hi]; rfl) (hn _) hp hk h
theorem S5 {α : Type} [Inhabited α] {f : α → AV} {xs : List α} {a : Operand} {T id g m s i : Nat} (ha : opd A a = some (.ptr id g none i 0)) (ho : look A (.h id) = some (.obj g m s (xs.map f))) (hi : i < xs.length)
  (hn : ∀ a, ((leaves (f a)).all fun l => !isOwn l) = true) (hp : ∀ a, partF cx.P T (leaves (f a)) = some (f a)) (hk : slotOk keep (.t d) (f (xs.getD i default)) = true)
  (h : XR cx keep ops0 r ((.t d, f (xs.getD i default)) :: A) fun A' lg => Q A' ((rds a ++ [.h id], [.t d]) :: lg)) : XR cx keep ops0 (⟨some d, .load T a, ty, pos, aft, none⟩ :: r) A Q :=
 J1 ha ho hi hn (hp _) hk h
theorem E5 {a : Operand} {T id g m s : Nat} {e : AV} (ha : opd A a = some (.ptr id g none 0 0)) (ho : look A (.h id) = some (.obj g m s [e])) (hn : ((leaves e).all fun l => !isOwn l) = true)
  (hp : partF cx.P T (leaves e) = some e) (hk : slotOk keep (.t d) e = true)
  (h : XR cx keep ops0 r ((.t d, e) :: A) fun A' lg => Q A' ((rds a ++ [.h id], [.t d]) :: lg)) : XR cx keep ops0 (⟨some d, .load T a, ty, pos, aft, none⟩ :: r) A Q :=
 B8 ha ho rfl hn hp hk h
theorem F5 {a : Operand} {T : Nat} {e : AV} (ha : opd A a = some (.ipt e 0)) (hp : partF cx.P T (leaves e) = some e) (hk : slotOk keep (.t d) e = true)
  (h : XR cx keep ops0 r ((.t d, e) :: A) fun A' lg => Q A' ((rds a, [.t d]) :: lg)) : XR cx keep ops0 (⟨some d, .load T a, ty, pos, aft, none⟩ :: r) A Q :=
 M4 ha hp hk h
theorem C7 {T id g m s : Nat} {a x : Operand} {e v : AV} (ha : opd A a = some (.ptr id g none 0 0)) (hx : opd A x = some v) (ho : look A (.h id) = some (.obj g m s [e]))
  (hl : b7p (leaves e) v = true) (hc : m ≠ 2 ∧ (leaves v).length = (tyS cx.P T).size ∧ 0 < (leaves v).length ∧ (leaves v).length ≤ (leaves e).length ∧ a0v (leaves v) (leaves e) = true) (hp : putAt e 0 v = v)
  (hko : slotOk keep (.h id) (.obj g m s [v]) = true)
  (h : XR cx keep ops0 r ((.h id, .obj g m s [v]) :: A) fun A' lg => Q A' ((rds a ++ (rds x ++ [.h id, .h id, .h id]), [.h id]) :: lg)) :
  XR cx keep ops0 (⟨none, .store T a x, ty, pos, aft, none⟩ :: r) A Q :=
 V6 (i := 0) (j := 0) ha hx ho rfl hl ⟨hc.1, hc.2.1, hc.2.2.1, by have := hc.2.2.2.1; omega, hc.2.2.2.2⟩ (by rw [hp]; exact hko) (by rw [hp]; exact h)
theorem a0r {α : Type} {f : α → AV} {xs ys : List α} {T T' E s id g n id2 g2 m2 off n2 : Nat} {x y : Operand} {z : AV} (hx : opd A x = some (.sl id g none 0 n)) (hy : opd A y = some (.sl id2 g2 none off n2)) (ho : look A (.h id) = some (.obj g 0 s (xs.map f))) (ho2 : look A (.h id2) = some (.obj g2 m2 s (ys.map f)))
  (hid : id2 < 1000000) (hb2 : bxB m2 none = false) (hn : n = (xs.map f).length) (hn2 : off + n2 ≤ ys.length) (hT : R5 cx.P T = some (E, s)) (hT' : M8 (tyS cx.P T').k = true) (hz : a1d cx.P E = some (z, s)) (hb : (tyS cx.P E).bytes ≤ 4096)
  (hf : ∀ a, (leaves (f a)).all cellLeaf = true ∧ N8 (f a) = true ∧ L6 (f a) = true)
  (hle : xs.length + n2 ≤ H7) (hk : ∀ g, slotOk keep (.t d) (.sl (tid d 0) g none 0 (xs ++ (ys.drop off).take n2).length) = true)
  (h : ∀ g', XR cx keep ops0 r ((.t d, .sl (tid d 0) g' none 0 (xs ++ (ys.drop off).take n2).length) :: (.h (tid d 0), .obj g' 0 s ((xs ++ (ys.drop off).take n2).map f)) :: (.h id, .dead g) :: A) fun A' lg => Q A' ((rds x ++ (rds y ++ [.h id2, .h id2, .h id, .h (tid d 0)]), [.h id, .h (tid d 0), .t d]) :: lg)) :
  XR cx keep ops0 (⟨some d, .call ⟨.builtin .append, #[x, y], #[T, T']⟩, ty, pos, aft, none⟩ :: r) A Q := by
 obtain ⟨h1, h2, h3, h4⟩ := V1 hz
 have hl2 : ((ys.drop off).take n2).length = n2 := by simp; omega
 have el : (xs ++ (ys.drop off).take n2).length = xs.length + n2 := by rw [List.length_append, hl2]
 have em : (((ys.map f).drop off).take n2) = ((ys.drop off).take n2).map f := by rw [List.map_take, List.map_drop]
 subst hn
 refine a3e (v := fun g' => .sl (tid d 0) g' none 0 (xs ++ (ys.drop off).take n2).length) (ws := fun g' => [(.h id, .dead g), (.h (tid d 0), .obj g' 0 s ((xs ++ (ys.drop off).take n2).map f))]) (ls := rds x ++ (rds y ++ [.h id2, .h id2, .h id, .h (tid d 0)])) rfl ?_
  (fun g => B4 (by simp [slotOk, refOkV]) (B4 (B1 (A7 fun a => (hf a).2.1)) (G7 (hk g)))) (fun g => rfl) (fun g => a8b _ _ _ _ _ _ _) h
 simp only [aopV, dstOf]
 refine A6 (I3 (show wpA (CW cx) A (.ret d) _ from ?_))
 show wpW (CW cx) (puts A []) _ _
 refine A6 (D8 hT' (A6 (J7 hx (A6 (J7 hy ?_)))))
 unfold a3g
 refine A6 (U8 hT (A6 (D8 ⟨hb, h3, h4⟩ (A6 ?_))))
 simp only [c1s]
 refine A6 (K2 ho2 (A6 (D8 h2.symm ?_)))
 rw [if_neg (by omega)]
 refine A6 (I3 ?_)
 simp only [slc, rdNode, D4]
 rw [N4 (by exact ho2)]
 simp only [D4, F3, E9, hb2, List.length_map, hn2, true_and, and_true, List.append_nil, List.nil_append]
 rw [em, if_pos (X1 fun a => (hf a).2.2)]
 refine C1 ?_
 refine A6 (D8 (a6i fun a => (hf a).1) ?_)
 refine A6 (K2 ho (A6 (D8 ⟨rfl, by simp, h2.symm, by simp only [List.length_map, hl2]; exact hle⟩ (A6 (J0 (A6 (K9 fun o => A6 (J0 (C1 ?_)))))))))
 have e3 : xs.length + (((ys.drop off).take n2).map f).length = (xs ++ (ys.drop off).take n2).length := by rw [el, List.length_map, hl2]
 have e4 : List.take xs.length (xs.map f) = xs.map f := by rw [← List.length_map (f := f), List.take_length]
 exact ⟨H2 o + 1, by rw [e3], by simp only [e4, List.map_append]; simp, by simp⟩
theorem b8l {x : Operand} {T E id g n m l k0 s : Nat} {off : Nat} {lo hi : Option Operand} {es : List AV} {ls1 ls2 : List Mv.Loc} (hx : opd A x = some (.sl id g none off n)) (ho : look A (.h id) = some (.obj g k0 s es)) (hT : R5 cx.P T = some (E, s))
  (hh : wpA (CW cx) A (optNat hi n) fun k ls => k = m ∧ ls = ls1) (hl : wpA (CW cx) A (optNat lo 0) fun k ls => k = l ∧ ls = ls2) (hc : l ≤ m ∧ m ≤ n) (hl0 : l ≠ 0) (hk : slotOk keep (.t d) (.sl id g none (off + l) (m - l)) = true)
  (h : XR cx keep ops0 r ((.t d, .sl id g none (off + l) (m - l)) :: A) fun A' lg => Q A' ((rds x ++ (ls1 ++ (ls2 ++ [.h id])), [.t d]) :: lg)) : XR cx keep ops0 (⟨some d, .slice T x lo hi none, ty, pos, aft, none⟩ :: r) A Q := by
 refine K6 (fun o ho => by simp only [aopV, ho]) ?_ hk h
 unfold R5 at hT
 split at hT
 ·rename_i E' hE
  split at hT
  ·rename_i hbad'
   simp only [Option.some.injEq, Prod.mk.injEq] at hT
   obtain ⟨rfl, hs⟩ := hT
   simp only [opV, D4, E4 hx, sliceA, hE, optNat, E9, List.nil_append]
   refine N2 ?_ hh
   rintro _ _ ⟨rfl, rfl⟩
   refine N2 ?_ hl
   rintro _ _ ⟨rfl, rfl⟩
   simp only [F3, hbad', ne_eq, not_true_eq_false, false_and, if_false, and_self, and_true, true_and, true_or, Nat.le_refl, hc, hl0, D4, rdNode, N4 ho, E9, hs, List.nil_append, List.append_nil, List.append_assoc, List.singleton_append]
  ·cases hT
 ·cases hT
theorem H6 {C : Caller} {A : Asr} {x : Operand} {k : IntKind} {n : Nat} {dflt : Nat} (h : opd A x = some (.val (.int k (n : Int)))) : wpA C A (optNat (some x) dflt) fun m ls => m = n ∧ ls = rds x := by
 have := Q3 (C := C) (dflt := dflt) h (Int.natCast_nonneg n)
 simpa using this
theorem d0v {α : Type} {C : Caller} {A : Asr} {x : Rd α} {R : α → Ws → List Mv.Loc → Prop} {ls0 : List Mv.Loc} (h : wpA C A x fun a ls => (∀ l ∈ ls, l ∈ ls0) ∧ R a [] ls0) : wpW C A (up x) R := by
 intro st hs
 obtain ⟨a, ls, h1, h2, h3⟩ := b5d hs _ _ h
 exact ⟨a, [], ls, ls0, c2w x h1, h2, h3⟩
theorem b0i {x : Operand} {T E id g n m l k0 s : Nat} {off : Nat} {lo hi : Option Operand} {es : List AV} {ls1 ls2 : List Mv.Loc} (hx : opd A x = some (.sl id g none off n)) (ho : look A (.h id) = some (.obj g k0 s es)) (hT : R5 cx.P T = some (E, s))
  (hh : wpA (CW cx) A (optNat hi n) fun k ls => k = m ∧ ls = ls1) (hl : wpA (CW cx) A (optNat lo 0) fun k ls => k = l ∧ ls = ls2) (hc : l ≤ m ∧ m ≤ n) (hk : slotOk keep (.t d) (.sl id g none (off + l) (m - l)) = true)
  (h : XR cx keep ops0 r ((.t d, .sl id g none (off + l) (m - l)) :: A) fun A' lg => Q A' ((rds x ++ (ls1 ++ (ls2 ++ [.h id])), [.t d]) :: lg)) : XR cx keep ops0 (⟨some d, .slice T x lo hi none, ty, pos, aft, none⟩ :: r) A Q := by
 by_cases hl0 : l = 0
 ·refine d1b (v := .sl id g none (off + l) (m - l)) (ws := []) (ls := rds x ++ (ls1 ++ (ls2 ++ [.h id]))) rfl ?_ (G7 hk) (fun k b hb => by rw [← hb]; exact (a3y A _ _ k).symm) h
  show wpW (CW cx) A (up (opV cx (.slice T x lo hi none))) _
  refine d0v (ls0 := rds x ++ (ls1 ++ (ls2 ++ [.h id]))) ?_
  unfold R5 at hT
  split at hT
  ·rename_i E' hE
   split at hT
   ·rename_i hbad'
    simp only [opV, D4, E4 hx, sliceA, hE, optNat, E9, List.nil_append]
    refine N2 ?_ hh
    rintro _ _ ⟨rfl, rfl⟩
    refine N2 ?_ hl
    rintro _ _ ⟨rfl, rfl⟩
    simp only [F3, hbad', ne_eq, not_true_eq_false, false_and, if_false, and_self, and_true, true_and, true_or, Nat.le_refl, hc, hl0, if_true, E9, Nat.add_zero, Nat.sub_zero, List.append_nil]
    refine ⟨Nat.zero_le _, fun q hq => ?_⟩
    simp only [List.mem_append] at hq ⊢
    rcases hq with hq | hq | hq
    ·exact .inl hq
    ·exact .inr (.inl hq)
    ·exact .inr (.inr (.inl hq))
   ·cases hT
  ·cases hT
 ·exact b8l hx ho hT hh hl hc hl0 hk h
theorem c9l {x : Operand} {T E id g n : Nat} {hi mx : Operand} {k k' : IntKind} (hx : opd A x = some (.sl id g none 0 n)) (hT : (tyS cx.P T).k = .slice E) (hb : P8 (tyS cx.P E).k = false)
  (hh : opd A hi = some (.val (.int k n))) (hm : opd A mx = some (.val (.int k' n))) (hk : slotOk keep (.t d) (.sl id g none 0 n) = true)
  (h0 : n = 0 → XR cx keep ops0 r ((.t d, .nil) :: A) fun A' lg => Q A' ((rds x ++ (rds mx ++ rds hi), [.t d]) :: lg))
  (h : n ≠ 0 → XR cx keep ops0 r ((.t d, .sl id g none 0 n) :: A) fun A' lg => Q A' ((rds x ++ (rds mx ++ rds hi), [.t d]) :: lg)) : XR cx keep ops0 (⟨some d, .slice T x none (some hi) (some mx), ty, pos, aft, none⟩ :: r) A Q := by
 have e : (n : Int).toNat = n := by simp
 by_cases hn : n = 0
 ·refine K6 (v := .nil) (fun o ho => by simp only [aopV, ho]) ?_ (by simp [slotOk, refOkV, refsOk]) (h0 hn)
  simp only [opV, D4, E4 hx, sliceA, hT, optNat, E4 hh, E4 hm, W4 (Int.natCast_nonneg n), e, E9, F3, hb]
  simp [hn, wpA]
 ·refine K6 (v := .sl id g none 0 n) (fun o ho => by simp only [aopV, ho]) ?_ hk (h hn)
  simp only [opV, D4, E4 hx, sliceA, hT, optNat, E4 hh, E4 hm, W4 (Int.natCast_nonneg n), e, E9, F3, hb]
  simp [hn, wpA]
end
end Go.Mv
end

section
namespace Go.Mv
open Go
theorem a9f (x : Int) (r : List Int) : (a9l x r).Perm (x :: r) := by
 induction r with
 | nil => exact .refl _
 | cons y r ih =>
  simp only [a9l]
  split
  ·exact .refl _
  ·exact (List.Perm.cons y ih).trans (List.Perm.swap x y r)
theorem b2v (xs : List Int) : (a0n xs).Perm xs := by
 induction xs with
 | nil => exact .refl _
 | cons x r ih => exact (a9f x (a0n r)).trans (List.Perm.cons x ih)
theorem a5d (x : Int) (r : List Int) (h : r.Pairwise (· ≤ ·)) : (a9l x r).Pairwise (· ≤ ·) := by
 induction r with
 | nil => simp [a9l]
 | cons y r ih =>
  simp only [a9l]
  have h2 := List.pairwise_cons.1 h
  split
  ·rename_i hxy
   refine List.pairwise_cons.2 ⟨fun z hz => ?_, h⟩
   rcases List.mem_cons.1 hz with rfl | hz
   ·exact hxy
   ·have := h2.1 z hz; omega
  ·rename_i hxy
   refine List.pairwise_cons.2 ⟨fun z hz => ?_, ih h2.2⟩
   rcases List.mem_cons.1 ((a9f x r).mem_iff.1 hz) with rfl | hz
   ·omega
   ·exact h2.1 z hz
theorem a7l (xs : List Int) : (a0n xs).Pairwise (· ≤ ·) := by
 induction xs with
 | nil => exact .nil
 | cons x r ih => exact a5d x _ ih
theorem c9b {xs ys : List Int} (hp : ys.Perm xs) (hs : ys.Pairwise (· ≤ ·)) : ys = a0n xs :=
 List.Perm.eq_of_pairwise (le := (· ≤ ·)) (fun a b _ _ h1 h2 => by omega) hs (a7l xs) (hp.trans (b2v xs).symm)
theorem b0h {s : List Int} (h : s.Pairwise (· ≤ ·)) {i j : Nat} (hij : i ≤ j) (hj : j < s.length) : s.getD i default ≤ s.getD j default := by
 rw [List.getD_eq_getElem?_getD, List.getD_eq_getElem?_getD, List.getElem?_eq_getElem (by omega), List.getElem?_eq_getElem hj]
 rcases Nat.lt_or_ge i j with h1 | h1
 ·exact List.pairwise_iff_getElem.1 h i j (by omega) hj h1
 ·have : i = j := by omega
  subst this
  exact Int.le_refl _
theorem a5l {xs : List Int} {x : Int} (h : x ∈ xs) : ∃ i, i < xs.length ∧ xs.getD i default = x := by
 obtain ⟨i, hi, rfl⟩ := List.getElem_of_mem h
 exact ⟨i, hi, by rw [List.getD_eq_getElem?_getD, List.getElem?_eq_getElem hi]; rfl⟩
theorem b4h {out : List Int} {x : Int} {k : Nat} (hs : out.Pairwise (· ≤ ·)) (hk : k ≤ out.length) (h1 : ∀ j, j < k → out.getD j default ≤ x) (h2 : k < out.length → x ≤ out.getD k default) :
  out.take k ++ [x] ++ out.drop k = a9l x out := by
 have hp : (out.take k ++ [x] ++ out.drop k).Perm (x :: out) := by
  have := (List.perm_middle (l₁ := out.take k) (l₂ := out.drop k) (a := x))
  rw [List.take_append_drop] at this
  rw [List.append_assoc]; exact this
 have hsrt : (out.take k ++ [x] ++ out.drop k).Pairwise (· ≤ ·) := by
  rw [List.append_assoc, List.pairwise_append]
  refine ⟨hs.take, ?_, ?_⟩
  ·rw [List.singleton_append, List.pairwise_cons]
   refine ⟨fun b hb => ?_, hs.drop⟩
   obtain ⟨i, hi, rfl⟩ := a5l hb
   rw [List.length_drop] at hi
   have e : (out.drop k).getD i default = out.getD (k + i) default := by rw [List.getD_eq_getElem?_getD, List.getD_eq_getElem?_getD, List.getElem?_drop]
   rw [e]
   exact Int.le_trans (h2 (by omega)) (b0h hs (by omega) (by omega))
  ·intro a ha b hb
   obtain ⟨i, hi, rfl⟩ := a5l ha
   rw [List.length_take] at hi
   have e : (out.take k).getD i default = out.getD i default := by rw [List.getD_eq_getElem?_getD, List.getD_eq_getElem?_getD, List.getElem?_take, if_pos (by omega)]
   rw [e]
   rw [List.singleton_append, List.mem_cons] at hb
   rcases hb with rfl | hb
   ·exact h1 i (by omega)
   ·obtain ⟨j, hj, rfl⟩ := a5l hb
    rw [List.length_drop] at hj
    have e2 : (out.drop k).getD j default = out.getD (k + j) default := by rw [List.getD_eq_getElem?_getD, List.getD_eq_getElem?_getD, List.getElem?_drop]
    rw [e2]
    exact b0h hs (by omega) (by omega)
 exact List.Perm.eq_of_pairwise (le := (· ≤ ·)) (fun a b _ _ h1 h2 => by omega) hsrt (a5d x out hs) (hp.trans (a9f x out).symm)
def bitN (s i : Nat) : Nat := s / 2 ^ i % 2
theorem c6o (s i : Nat) : bitN s i = 1 ↔ s.testBit i = true := by
 unfold bitN
 rw [Nat.testBit_eq_decide_div_mod_eq, decide_eq_true_eq]
theorem d0c (s i : Nat) : bitN s i = 0 ∨ bitN s i = 1 := by unfold bitN; omega
theorem b3g (i j : Nat) : bitN (2 ^ i) j = 1 ↔ j = i := by
 rw [c6o, Nat.testBit_two_pow]
 simp [eq_comm]
section
variable {cx : Cx} {keep : List Nat} {ops0 : Array Oper} {r : List Oper} {A : Asr} {Q : Asr → List Log → Prop} {d : Nat} {ty : Nat} {pos : String} {aft : Array Edge}
end
end Go.Mv
end

section
namespace Go.Mv
open Go Classical
section
variable {cx : Cx} {keep : List Nat} {ops0 : Array Oper} {r : List Oper} {A : Asr} {Q : Asr → List Log → Prop} {d : Nat} {ty : Nat} {pos : String} {aft : Array Edge}
end
def b0p (lo hi : Int) (xs : List Int) : Bool := xs.all fun x => decide (lo ≤ x) && decide (x ≤ hi)
theorem b2k {lo hi : Int} {xs : List Int} : b0p lo hi xs = true ↔ ∀ i, i < xs.length → lo ≤ xs.getD i default ∧ xs.getD i default ≤ hi := by
 unfold b0p
 rw [List.all_eq_true]
 constructor
 ·intro h i hi'
  have := h _ (a5o hi')
  simpa using this
 ·intro h x hx
  obtain ⟨i, hi', rfl⟩ := a5l hx
  simpa using h i hi'
def c5g (l : List Int) (s : Nat) : Nat → List Int
 | 0 => []
 | k + 1 => if bitN s k = 1 then c5g l s k ++ [l.getD k default] else c5g l s k
def sel (l : List Int) (s : Nat) : List Int := c5g l s l.length
theorem b8g (l : List Int) (i : Nat) : ∀ k, c5g l (2 ^ i) k = if i < k then [l.getD i default] else []
 | 0 => by simp [c5g]
 | k + 1 => by
  unfold c5g
  rw [b8g l i k]
  by_cases e : k = i
  ·subst e; rw [if_pos ((b3g k k).2 rfl)]; simp
  ·rw [if_neg (fun h => e ((b3g i k).1 h))]
   by_cases h : i < k
   ·rw [if_pos h, if_pos (by omega)]
   ·rw [if_neg h, if_neg (by omega)]
theorem d0s {l : List Int} {i : Nat} (hi : i < l.length) : sel l (2 ^ i) = [l.getD i default] := by
 unfold sel; rw [b8g, if_pos hi]
def Fnd (e : Bool) (s : List Int) (lev : Int) : Prop := ∃ i, i < s.length ∧ s.getD i default * s.length ≤ if e then ((i : Int) + 1) * lev else lev
theorem Fnd.mono {e : Bool} {s : List Int} {lev lev' : Int} (h : Fnd e s lev) (hl : lev ≤ lev') : Fnd e s lev' := by
 obtain ⟨i, hi, h⟩ := h
 refine ⟨i, hi, ?_⟩
 cases e
 ·simp only [Bool.false_eq_true, if_false] at h ⊢; omega
 ·simp only [if_true] at h ⊢
  have := Int.mul_le_mul_of_nonneg_left hl (show (0 : Int) ≤ (i : Int) + 1 by omega)
  omega
theorem Fnd.each {e : Bool} {s : List Int} {lev : Int} (h : Fnd e s lev) (h0 : 0 ≤ lev) : Fnd true s lev := by
 obtain ⟨i, hi, h⟩ := h
 refine ⟨i, hi, ?_⟩
 cases e
 ·simp only [Bool.false_eq_true, if_false, if_true] at h ⊢
  have := Int.mul_le_mul_of_nonneg_right (show (1 : Int) ≤ (i : Int) + 1 by omega) h0
  omega
 ·exact h
def CPr (l : List Int) (lev : Int) (e : Bool) (i : Nat) : Prop := ∀ s, 1 ≤ s → s < 2 ^ l.length → bitN s i = 1 → Fnd e (a0n (sel l s)) lev
noncomputable def d4g (l : List Int) (lev : Int) (e : Bool) (k : Nat) : List Int := ((List.range k).filter fun i => decide (CPr l lev e i)).map Int.ofNat
noncomputable def clo (l : List Int) (lev : Int) (e : Bool) : List Int := d4g l lev e l.length
theorem CPr.le {l : List Int} {lev : Int} {e : Bool} {i : Nat} (h : CPr l lev e i) (hi : i < l.length) : l.getD i default ≤ lev := by
 have := h (2 ^ i) (Nat.one_le_two_pow) (Nat.pow_lt_pow_right (by decide) hi) ((b3g i i).2 rfl)
 rw [d0s hi] at this
 obtain ⟨j, hj, h2⟩ := this
 have : j = 0 := by simp [a0n, a9l] at hj; omega
 subst this
 cases e <;> simp [a0n, a9l] at h2 <;> simpa using h2
def Mis (l : List Int) (lev : Int) (e : Bool) (s mi : Nat) : Prop := 1 ≤ s ∧ s ≤ 2 ^ l.length ∧ mi < 2 ^ l.length ∧ ∀ i, i < l.length → (bitN mi i = 1 ↔ ∃ s', 1 ≤ s' ∧ s' < s ∧ bitN s' i = 1 ∧ ¬ Fnd e (a0n (sel l s')) lev)
theorem Mis.start (l : List Int) (lev : Int) (e : Bool) : Mis l lev e 1 0 := by
 refine ⟨Nat.le_refl _, Nat.one_le_two_pow, Nat.two_pow_pos _, fun i hi => ⟨fun h => ?_, fun ⟨s', h1, h2, _⟩ => by omega⟩⟩
 unfold bitN at h; simp at h
theorem Mis.fin {l : List Int} {lev : Int} {e : Bool} {s mi : Nat} (h : Mis l lev e s mi) (hs : 2 ^ l.length ≤ s) {i : Nat} (hi : i < l.length) : bitN mi i = 0 ↔ CPr l lev e i := by
 obtain ⟨h1, h2, h3, h4⟩ := h
 have := h4 i hi
 have h5 := d0c mi i
 constructor
 ·intro h0 s' q1 q2 q3
  refine Classical.byContradiction fun hn => ?_
  have := this.2 ⟨s', q1, by omega, q3, hn⟩
  omega
 ·intro hc
  rcases h5 with h5 | h5
  ·exact h5
  ·obtain ⟨s', q1, q2, q3, q4⟩ := this.1 h5
   exact absurd (hc s' q1 (by omega) q3) q4
theorem d0j {xs : List Int} {q : Int → Bool} {i : Nat} (hi : i < xs.length) (h : q (xs.getD i default) = true) : decide (0 ≤ (i : Int)) = xs.any q := by
 rw [decide_eq_true (Int.natCast_nonneg i)]
 exact (List.any_eq_true.2 ⟨_, a5o hi, h⟩).symm
theorem c7b {xs : List Int} {q : Int → Bool} (h : ∀ j, j < xs.length → q (xs.getD j default) = false) : decide (0 ≤ (-1 : Int)) = xs.any q := by
 have : xs.any q = false := by
  rw [List.any_eq_false]
  intro x hx
  obtain ⟨i, hi, rfl⟩ := a5l hx
  rw [h i hi]; decide
 rw [this]; rfl
theorem c7g (lo hi : Int) (xs : List Int) : (!(xs.any fun x => !(decide (lo ≤ x) && decide (x ≤ hi)))) = b0p lo hi xs := by
 unfold b0p
 rw [List.not_any_eq_all_not]
 simp
theorem L1 {α : Type} [Inhabited α] {xs : List α} {i : Nat} (h : i < xs.length) : xs.getD i default ∈ xs := by
 rw [List.getD_eq_getElem?_getD, List.getElem?_eq_getElem h]
 exact List.getElem_mem h
def FndAt (e : Bool) (s : List Int) (lev : Int) (j : Nat) : Prop := (e = true ∧ s.getD j default * (s.length : Int) ≤ lev * ((j : Int) + 1)) ∨ s.getD j default * (s.length : Int) ≤ lev
theorem FndAt.none {e : Bool} {s : List Int} {lev : Int} (hl : 0 ≤ lev ∧ lev ≤ 1000) (h : ∀ j, j < s.length → ¬ FndAt e s lev j) : ¬ Fnd e s lev := by
 rintro ⟨j, hj, hf⟩
 refine h j hj ?_
 cases e
 ·exact .inr hf
 ·rw [if_pos rfl] at hf
  exact .inl ⟨rfl, by rw [Int.mul_comm lev]; exact hf⟩
theorem CPr.each {l : List Int} {lev : Int} {e : Bool} {i : Nat} (h : CPr l lev e i) (h0 : 0 ≤ lev) : CPr l lev true i := fun s h1 h2 h3 => (h s h1 h2 h3).each h0
theorem CPr.mono {l : List Int} {lev lev' : Int} {e : Bool} {i : Nat} (h : CPr l lev e i) (h0 : lev ≤ lev') : CPr l lev' e i := fun s h1 h2 h3 => (h s h1 h2 h3).mono h0
end Go.Mv
end

section
namespace Go.Mv
open Go
theorem c5t {α : Type} [Inhabited α] {xs : List α} {i j : Nat} {y : α} (h : i < xs.length) : (xs.set i y).getD j default = if j = i then y else xs.getD j default := by
 rw [List.getD_eq_getElem?_getD, List.getElem?_set, List.getD_eq_getElem?_getD]
 by_cases e : i = j
 ·subst e; rw [if_pos rfl, if_pos h, if_pos rfl]; rfl
 ·rw [if_neg e, if_neg (fun h => e h.symm)]
end Go.Mv
end

section
namespace Go.Mv
open Go
section
variable {cx : Cx} {keep : List Nat} {ops0 : Array Oper} {r : List Oper} {A : Asr} {Q : Asr → List Log → Prop} {d : Nat} {ty : Nat} {pos : String} {aft : Array Edge}
theorem a3r {α : Type} [Inhabited α] {f : α → AV} {xs : List α} {y : α} {v : AV} {T id g m s i j : Nat} {a x : Operand} (ha : opd A a = some (.ptr id g none i j)) (ho : look A (.h id) = some (.obj g m s (xs.map f))) (hx : opd A x = some v) (hi : i < xs.length)
  (hl : b7p ((leaves (f (xs.getD i default))).drop j) v = true)
  (hc : (leaves v).length = (tyS cx.P T).size ∧ 0 < (leaves v).length ∧ j + (leaves v).length ≤ (leaves (f (xs.getD i default))).length ∧ a0v (leaves v) ((leaves (f (xs.getD i default))).drop j) = true) (hm : m ≠ 2)
  (hp : putAt (f (xs.getD i default)) j v = f y)
  (hko : slotOk keep (.h id) (.obj g m s ((xs.set i y).map f)) = true)
  (h : XR cx keep ops0 r ((.h id, .obj g m s ((xs.set i y).map f)) :: A) fun A' lg => Q A' ((rds a ++ (rds x ++ [.h id, .h id, .h id]), [.h id]) :: lg)) :
  XR cx keep ops0 (⟨none, .store T a x, ty, pos, aft, none⟩ :: r) A Q := by
 have he : (xs.map f)[i]? = some (f (xs.getD i default)) := by rw [List.getElem?_map, List.getElem?_eq_getElem hi, List.getD_eq_getElem?_getD, List.getElem?_eq_getElem hi]; rfl
 have hs : (xs.map f).set i (putAt (f (xs.getD i default)) j v) = (xs.set i y).map f := by rw [hp, List.map_set]
 refine V6 ha hx ho he hl ⟨hm, hc.1, hc.2.1, hc.2.2.1, hc.2.2.2⟩ (by rw [hs]; exact hko) ?_
 rw [hs]
 exact h
end
def mkI (k : Int) (n : Nat) : List Int := (List.range n).map fun i : Nat => k + (i : Int)
@[simp] theorem mkI_length (k : Int) (n : Nat) : (mkI k n).length = n := by simp [mkI]
def mkF (k : Int) (n : Nat) : List (Int × Int) := (List.range n).map fun i : Nat => (k + 2 * (i : Int), k + 2 * (i : Int) + 1)
@[simp] theorem mkF_length (k : Int) (n : Nat) : (mkF k n).length = n := by simp [mkF]
theorem b5j {α : Type} [Inhabited α] {xs ys : List α} (hl : xs.length = ys.length) (h : ∀ j, j < xs.length → xs.getD j default = ys.getD j default) : xs = ys := by
 refine List.ext_getElem hl fun i h1 h2 => ?_
 have := h i h1
 rw [List.getD_eq_getElem?_getD, List.getD_eq_getElem?_getD, List.getElem?_eq_getElem h1, List.getElem?_eq_getElem h2] at this
 exact this
end Go.Mv
end

section
namespace Go.Mv
open Go
section
variable {cx : Cx} {keep : List Nat} {ops0 : Array Oper} {r : List Oper} {A : Asr} {Q : Asr → List Log → Prop} {d : Nat} {ty : Nat} {pos : String} {aft : Array Edge}
end
end Go.Mv
namespace Go.Mv
open Go
section
variable {cx : Cx} {keep : List Nat} {ops0 : Array Oper} {r : List Oper} {A : Asr} {Q : Asr → List Log → Prop} {d : Nat} {ty : Nat} {pos : String} {aft : Array Edge}
end
end Go.Mv
namespace Go.Mv
open Go
theorem a3d {keep : List Nat} {id g m s : Nat} {es : List AV} (h : G3 es = true) (hm : ¬ (m = 3 ∨ m = 4)) : slotOk keep (.h id) (.obj g m s es) = true := by
 simp [slotOk, refOkV, h, hm]
end Go.Mv
namespace Go.Mv
open Go
end Go.Mv
end

section
namespace Go.Mv
open Go
def vd (xs : List Int) : Bool := decide (xs.length ≤ 10) && b0p (-200) 200 xs
theorem S0 {xs : List Int} (h : vd xs = true) : xs.length ≤ 10 := by
 simp only [vd, Bool.and_eq_true, decide_eq_true_eq] at h; exact h.1
theorem d1q {lo hi : Int} {xs : List Int} (h : ∀ i, i < xs.length → lo ≤ xs.getD i default ∧ xs.getD i default ≤ hi) : b0p lo hi xs = true := b2k.2 h
theorem c8n {lo hi : Int} {xs : List Int} {i : Nat} (hi' : i < xs.length) (h : ¬ (lo ≤ xs.getD i default ∧ xs.getD i default ≤ hi)) : b0p lo hi xs = false := by
 rw [Bool.eq_false_iff]
 exact fun h2 => h (b2k.1 h2 i hi')
end Go.Mv
end

section
namespace Go.Mv
open Go
theorem d2v {xs : List Int} (h : vd xs = true) : b0p (-200) 200 xs = true := by
 simp only [vd, Bool.and_eq_true] at h; exact h.2
end Go.Mv
end

section
namespace Go.Mv
open Go
section
variable {cx : Cx} {keep : List Nat} {A : Asr} {Q : AExit → Asr → Prop}
theorem G2 {body : Code} (h : XA cx keep body A fun r A' => match r with
  | .normal => XA cx keep (.loop body) A' Q
  | r => Q r A') : XA cx keep (.loop body) A Q := by
 intro st hs
 obtain ⟨n, r, st1, h1, A', h2, h3⟩ := h st hs
 cases r with
 | normal =>
  obtain ⟨m, r2, st2, k1, A2, k2, k3⟩ := h3 st1 h2
  refine ⟨max n m + 1, r2, st2, ?_, A2, k2, k3⟩
  simp only [aexec, a2t cx h1 (Nat.le_max_left n m), a2t cx k1 (Nat.le_max_right n m)]
 | ret => exact ⟨n + 1, _, st1, by simp only [aexec, h1], A', h2, h3⟩
 | exit i => exact ⟨n + 1, _, st1, by simp only [aexec, h1], A', h2, h3⟩
end
section
variable {cx : Cx} {keep : List Nat} {ops0 : Array Oper} {r : List Oper} {A : Asr} {Q : Asr → List Log → Prop} {d : Nat} {ty : Nat} {pos : String} {aft : Array Edge}
end
end Go.Mv
end

section
namespace Go.Mv
open Go
section
variable {cx : Cx} {keep : List Nat} {ops0 : Array Oper} {r : List Oper} {A : Asr} {Q : Asr → List Log → Prop} {d : Nat} {ty : Nat} {pos : String} {aft : Array Edge}
variable {C : Caller} {m f j : Nat} {cs fs : List AV} {G : Type} {vs : G → List AV} {ws : G → Ws} {ls : List Mv.Loc}
def a4j (C : Caller) (A : Asr) (m f j : Nat) (cs fs : List AV) {G : Type} (vs : G → List AV) (ws : G → Ws) (ls : List Mv.Loc) : Prop :=
 wpW C A (absorbLeaves m f j cs fs) fun a w l => ∃ g, a = vs g ∧ w = ws g ∧ l = ls
theorem K8 : a4j C A m f j cs [] (fun _ : Unit => []) (fun _ => []) [] := C1 ⟨(), rfl, rfl, rfl⟩
theorem F7 {v : AV} (h : Q5 (cs.headD .undef) v = true) (t : a4j C A m f (j + 1) cs.tail fs vs ws ls) (hm : m ≠ 2 := by decide) : a4j C A m f j cs (v :: fs) (fun g => v :: vs g) ws ls := by
 refine A6 (a4p hm h (A6 (G4 t ?_)))
 rintro _ _ _ ⟨g, rfl, rfl, rfl⟩
 exact C1 ⟨g, rfl, by simp, by simp⟩
theorem a1v {id g s n : Nat} {ys : List AV} (ho : look A (.h id) = some (.obj g 0 s ys)) (hn : n = ys.length) (hi : O2 ys = true) (hc : cs.headD .undef = .nil)
  (t : a4j C (put A (.h id) (.dead g)) 0 f (j + 1) cs.tail fs vs ws ls) :
  a4j C A 0 f j cs (.sl id g none 0 n :: fs) (fun x => .own s ys :: vs x) (fun x => (.h id, .dead g) :: ws x) (.h id :: ls) := by
 refine A6 ?_
 rw [hc]
 refine c2e ho hn hi (A6 (G4 t ?_))
 rintro _ _ _ ⟨x, rfl, rfl, rfl⟩
 exact C1 ⟨x, rfl, by simp, by simp⟩
theorem V8 {id g s n : Nat} {ys : List AV} (hid : 100000 ≤ id) (hne : id ≠ fid f j) (ho : look A (.h id) = some (.obj g 0 s ys)) (hn : n = ys.length)
  (t : ∀ g', a4j C (put (put A (.h id) (.dead g)) (.h (fid f j)) (.obj g' 0 s ys)) 3 f (j + 1) cs.tail fs vs ws ls) :
  a4j C A 3 f j cs (.sl id g none 0 n :: fs) (fun x : Nat × G => .sl (fid f j) x.1 none 0 n :: vs x.2) (fun x => (.h id, .dead g) :: (.h (fid f j), .obj x.1 0 s ys) :: ws x.2) (.h id :: .h (fid f j) :: ls) := by
 subst hn
 refine A6 ?_
 unfold I5
 simp only [if_true]
 rw [if_pos (by simp [hid, hne])]
 refine A6 (K2 ho ?_)
 simp only [if_true]
 refine A6 (D8 (Nat.le_refl _) (A6 (J0 (A6 (K9 fun o => A6 (J0 (C1 ?_)))))))
 have := t (H2 o + 1)
 simp only [List.take_length]
 refine A6 (G4 this ?_)
 rintro _ _ _ ⟨x, rfl, rfl, rfl⟩
 exact C1 ⟨(H2 o + 1, x), rfl, by simp, by simp⟩
theorem I2 {T id g s i : Nat} {a x : Operand} {es : List AV} {e : AV} (ha : opd A a = some (.ptr id g none i 0)) (hx : opd A x = some (.agg fs)) (ho : look A (.h id) = some (.obj g m s es)) (he : es[i]? = some e)
  (hl : a4j (CW cx) A m id 0 (leaves e) fs vs ws ls) (ho' : ∀ z, look (puts A (ws z)) (.h id) = some (.obj g m s es))
  (hc : m ≠ 2 ∧ fs.length = (tyS cx.P T).size ∧ 0 < fs.length ∧ fs.length ≤ (leaves e).length) (hf : ∀ z, a0v (vs z) (leaves e) = true) (hp : ∀ z, putAt e 0 (.agg (vs z)) = .agg (vs z))
  (hk : ∀ z, tRefsOk keep (keptWs keep (ws z ++ [(.h id, .obj g m s (es.set i (.agg (vs z))))])) = true)
  (h : ∀ z, XR cx keep ops0 r (K5 A (ws z ++ [(.h id, .obj g m s (es.set i (.agg (vs z))))])) fun A' lg => Q A' ((rds a ++ (rds x ++ (.h id :: (ls ++ [.h id, .h id]))), O9 (ws z ++ [(.h id, .obj g m s (es.set i (.agg (vs z))))])) :: lg)) :
  XR cx keep ops0 (⟨none, .store T a x, ty, pos, aft, none⟩ :: r) A Q := by
 refine c5a (v := fun _ => .undef) (ws := fun z => ws z ++ [(.h id, .obj g m s (es.set i (.agg (vs z))))]) (ls := rds a ++ (rds x ++ (.h id :: (ls ++ [.h id, .h id])))) rfl ?_ (fun z => ?_) (fun z => ?_) (fun z => ?_) (A1 := fun z => K5 A (ws z ++ [(.h id, .obj g m s (es.set i (.agg (vs z))))]))
 ·simp only [aopV]
  refine A6 (D8 (by simp) (A6 (J7 ha (A6 (J7 hx (A6 ?_))))))
  unfold b3j
  rw [if_neg (by simp [b2j])]
  unfold a6r
  refine A6 (K2 ho ?_)
  simp only [he, if_true]
  refine A6 ?_
  simp only [absorb, List.drop_zero]
  refine A6 (G4 hl ?_)
  rintro _ _ _ ⟨z, rfl, rfl, rfl⟩
  refine C1 ?_
  have ho2 := ho' z
  refine A6 (K2 (by simpa [puts] using ho2) ?_)
  simp only [he]
  refine A6 (D8 (by refine ⟨trivial, hc.1, hc.2.1, hc.2.2.1, ?_, hf z, .inl trivial⟩; simpa [leaves] using hc.2.2.2) (A6 (I3 ?_)))
  simp only [wrNode]
  rw [N4 (v := .obj g m s es) (by simpa [puts] using ho2)]
  simp only [E9]
  refine J0 (C1 ?_)
  exact ⟨z, rfl, by simp [hp z], by simp⟩
 ·simpa [setD] using hk z
 ·simpa [setD] using a8g A (ws z ++ [(.h id, .obj g m s (es.set i (.agg (vs z))))])
 ·simpa [setD] using h z
theorem Q6 {T id g s k : Nat} {a x : Operand} {e v : AV} (ha : opd A a = some (.ptr id g none 0 k)) (hx : opd A x = some v) (ho : look A (.h id) = some (.obj g 3 s [e])) (hs : b2j v = true) (hT : (tyS cx.P T).size = 1) (he : k + 1 ≤ (leaves e).length)
  (hko : slotOk keep (.h id) (.obj g 3 s [putAt e k v]) = true)
  (h : XR cx keep ops0 r ((.h id, .obj g 3 s [putAt e k v]) :: A) fun A' lg => Q A' ((rds a ++ (rds x ++ [.h id]), [.h id]) :: lg)) :
  XR cx keep ops0 (⟨none, .store T a x, ty, pos, aft, none⟩ :: r) A Q := by
 refine d1b (v := .undef) (ws := [(.h id, .obj g 3 s [putAt e k v])]) (ls := rds a ++ (rds x ++ [.h id])) rfl ?_ (G7 hko) (b1n _ _ _) h
 simp only [aopV]
 refine A6 (D8 (by simp) (A6 (J7 ha (A6 (J7 hx (A6 ?_))))))
 unfold b3j
 rw [if_pos hs]
 unfold b6s
 refine A6 (K2 ho ?_)
 dsimp only
 rw [if_pos (show (3 : Nat) = 3 from rfl)]
 simp only [List.getElem?_cons_zero]
 refine A6 (D8 ⟨hT, he⟩ (J0 (C1 ?_)))
 exact ⟨rfl, by simp, by simp⟩
def b5a (C : Caller) (A : Asr) (b : Bool) (fs vs : List AV) (ws : Ws) (ls : List Mv.Loc) : Prop := wpW C A (retLeaves b fs) fun a w l => a = vs ∧ w = ws ∧ l = ls
variable {b : Bool} {us : List AV} {w1 : Ws}
theorem M2 : b5a C A b [] [] [] [] := C1 ⟨rfl, rfl, rfl⟩
theorem I4 {v : AV} (h : (immLeaf v && !K0 v) = true) (t : b5a C A b fs us w1 ls) : b5a C A b (v :: fs) (v :: us) w1 ls := by
 refine A6 (b5o h (A6 (G4 t ?_)))
 rintro _ _ _ ⟨rfl, rfl, rfl⟩
 exact C1 ⟨rfl, by simp, by simp⟩
theorem I6 {cids : List Cid} {outs : List (List AV)} {a T id g s : Nat} {rs : List ResultVar} {os : List AV} (hv : look A (.t a) = some (.ptr id g none 0 0)) (ho : look A (.h id) = some (.obj g 3 s [.agg fs])) (hn : (fs.all fun l => !isOwn l) = true)
  (hp : partF cx.P T fs = some (.agg fs)) (hr : b5a (CW cx) A b fs us w1 ls) (h : c1o cx b cids outs rs (puts A w1) os) : c1o cx b cids outs (.cell a T :: rs) A (.agg us :: os) := by
 refine a6h ?_
 unfold retVar
 refine A6 (I3 ?_)
 rw [b7y hv]
 refine A6 (I3 ?_)
 simp only [loadG, loadA, rdNode, D4]
 rw [N4 (by exact ho)]
 simp only [D4, F3, E9, true_and, List.getElem?_cons_zero, List.drop_zero, leaves]
 rw [a6n _ _ hn, a6v hp]
 refine A6 (G4 hr ?_)
 rintro a1 w1 l1 ⟨rfl, rfl, rfl⟩
 refine C1 ?_
 have h' : wpW (CW cx) (puts A ([] ++ ([] ++ (w1 ++ [])))) (retAll cx.P b rs) fun us ws _ => us = os ∧ a1z (puts (puts A w1) ws) cids outs := by
  simp only [List.nil_append, List.append_nil]
  exact h
 refine G4 h' ?_
 rintro us' ws' ls' ⟨rfl, h2⟩
 refine ⟨rfl, ?_⟩
 simp only [List.nil_append, List.append_nil, b0k]
 exact h2
variable {k : Nat}
end
end Go.Mv
end

section
namespace Go.Mv
open Go
abbrev Bk := Int × Int × Int
section
variable {P Q v : Nat → Int}
def SegL (P Q v : Nat → Int) : Nat → List Bk → Nat → Prop
 | a, [], e => a = e
 | a, b :: r, e => ∃ m, a < m ∧ b.1 = P m - P a ∧ b.2.1 = Q m - Q a ∧ b.2.2 = v (m - 1) ∧ (∀ k, a < k → k ≤ m → (P m - P a) * (Q k - Q a) ≤ (P k - P a) * (Q m - Q a)) ∧ SegL P Q v m r e
theorem SegL.le : ∀ {l : List Bk} {a e : Nat}, SegL P Q v a l e → a ≤ e
 | [], _, _, h => Nat.le_of_eq h
 | _ :: _, _, _, ⟨_, h1, _, _, _, _, h⟩ => by have := h.le; omega
theorem SegL.append : ∀ {l1 l2 : List Bk} {a e : Nat}, SegL P Q v a (l1 ++ l2) e ↔ ∃ m, SegL P Q v a l1 m ∧ SegL P Q v m l2 e
 | [], l2, a, e => ⟨fun h => ⟨a, rfl, h⟩, fun ⟨m, h1, h2⟩ => by cases (h1 : a = m); exact h2⟩
 | b :: l1, l2, a, e => by
  constructor
  ·rintro ⟨m, h1, h2, h3, h4, h5, h6⟩
   obtain ⟨k, k1, k2⟩ := SegL.append.1 h6
   exact ⟨k, ⟨m, h1, h2, h3, h4, h5, k1⟩, k2⟩
  ·rintro ⟨k, ⟨m, h1, h2, h3, h4, h5, k1⟩, k2⟩
   exact ⟨m, h1, h2, h3, h4, h5, SegL.append.2 ⟨k, k1, k2⟩⟩
theorem Qlt {m : Nat} (hQ : ∀ j, j < m → Q j < Q (j + 1)) : ∀ {b a : Nat}, a < b → b ≤ m → Q a < Q b
 | 0, _, h, _ => by omega
 | b + 1, a, h, hm => by
  have h1 := hQ b (by omega)
  by_cases e : a = b
  ·subst e; exact h1
  ·have := Qlt hQ (b := b) (a := a) (by omega) (by omega); omega
def ltB (x y : Bk) : Prop := x.1 * y.2.1 < y.1 * x.2.1
def Inc : List Bk → Prop
 | [] => True
 | [_] => True
 | b :: c :: r => ltB b c ∧ Inc (c :: r)
theorem Inc.init : ∀ {l : List Bk} {x : Bk}, Inc (l ++ [x]) → Inc l
 | [], _, _ => trivial
 | [_], _, _ => trivial
 | b :: c :: r, x, h => ⟨h.1, Inc.init (l := c :: r) (x := x) h.2⟩
theorem Inc.tail {b : Bk} {r : List Bk} (h : Inc (b :: r)) : Inc r := by
 cases r with
 | nil => trivial
 | cons c r => exact h.2
theorem d2j {X p Y q Z r : Int} (hq : 0 < q) (hp : 0 < p) (hr : 0 < r) (h1 : X * q < Y * p) (h2 : Y * r < Z * q) : X * r < Z * p := by
 refine Int.lt_of_mul_lt_mul_left (a := q) ?_ (by omega)
 have a1 := Int.mul_lt_mul_of_pos_right h1 hr
 have a2 := Int.mul_lt_mul_of_pos_right h2 hp
 grind
theorem d2g {X p Y q u z : Int} (hq : 0 < q) (hp : 0 < p) (hu : 0 < u) (h1 : X * q < Y * p) (h2 : Y * u ≤ z * q) : X * u < z * p := by
 refine Int.lt_of_mul_lt_mul_left (a := q) ?_ (by omega)
 have a1 := Int.mul_lt_mul_of_pos_right h1 hu
 have a2 := Int.mul_le_mul_of_nonneg_right h2 (show 0 ≤ p by omega)
 grind
theorem SegL.above {n : Nat} (hQ : ∀ j, j < n → Q j < Q (j + 1)) {X p : Int} (hp : 0 < p) : ∀ {r : List Bk} {m e : Nat}, e ≤ n → SegL P Q v m r e → Inc r → (∀ b, r.head? = some b → X * b.2.1 < b.1 * p) →
  ∀ k, m < k → k ≤ e → X * (Q k - Q m) < (P k - P m) * p
 | [], m, e, _, h, _, _, k, k1, k2 => by cases (h : m = e); omega
 | b :: r, m, e, he, h, hi, hb, k, k1, k2 => by
  obtain ⟨m', h1, h2, h3, h4, h5, h6⟩ := h
  have hme := h6.le
  have hb0 : X * b.2.1 < b.1 * p := hb b rfl
  rw [h2, h3] at hb0
  clear hb
  have q1 := Qlt hQ h1 (by omega)
  rcases Nat.lt_or_ge m' k with c | c
  ·have a1 := SegL.above hQ hp he h6 hi.tail (fun c hc => by
    cases r with
    | nil => cases hc
    | cons c' r =>
     have hcc : c' = c := Option.some.inj hc
     subst hcc
     obtain ⟨m2, g1, g2, g3, _, _, g6⟩ := h6
     have hlt : ltB b c' := hi.1
     unfold ltB at hlt
     rw [h2, h3] at hlt
     have hm2 := g6.le
     have q2 := Qlt hQ g1 (by omega)
     exact d2j (by omega) hp (by omega) hb0 hlt) k c k2
   have e1 : Q k - Q m = (Q m' - Q m) + (Q k - Q m') := by omega
   have e2 : P k - P m = (P m' - P m) + (P k - P m') := by omega
   rw [e1, e2, Int.mul_add, Int.add_mul]
   omega
  ·have q2 := Qlt hQ k1 (by omega)
   exact d2g (by omega) hp (by omega) hb0 (h5 k k1 c)
theorem SegL.after {n : Nat} (hQ : ∀ j, j < n → Q j < Q (j + 1)) {b : Bk} {r : List Bk} {a m e : Nat} (he : e ≤ n) (h1 : a < m) (h2 : b.1 = P m - P a) (h3 : b.2.1 = Q m - Q a) (h6 : SegL P Q v m r e) (hi : Inc (b :: r)) :
  ∀ k, m < k → k ≤ e → (P m - P a) * (Q k - Q a) < (P k - P a) * (Q m - Q a) := by
 intro k k1 k2
 have hme := h6.le
 have q1 := Qlt hQ h1 (by omega)
 have a1 := SegL.above hQ (X := P m - P a) (p := Q m - Q a) (by omega) he h6 hi.tail (fun c hc => by
  cases r with
  | nil => cases hc
  | cons c' r =>
   have hcc : c' = c := Option.some.inj hc
   subst hcc
   have hlt : ltB b c' := hi.1
   unfold ltB at hlt
   rwa [h2, h3] at hlt) k k1 k2
 have e1 : Q k - Q a = (Q m - Q a) + (Q k - Q m) := by omega
 have e2 : P k - P a = (P m - P a) + (P k - P m) := by omega
 rw [e1, e2, Int.mul_add, Int.add_mul]
 omega
def fiU : List Bk → Int → Nat
 | [], _ => 0
 | b :: r, x => if x ≤ b.2.2 then 0 else fiU r x + 1
theorem SegL.has {n : Nat} (hv : ∀ i j, i < j → j < n → v i < v j) : ∀ {bs : List Bk} {a e g : Nat}, e ≤ n → SegL P Q v a bs e → g < e → a < e → fiU bs (v g) < bs.length
 | [], a, e, g, _, h, _, h2 => by cases (h : a = e); omega
 | b :: r, a, e, g, he, h, hg, _ => by
  obtain ⟨m, h1, h2, h3, h4, h5, h6⟩ := h
  unfold fiU
  split
  ·simp
  ·rename_i c
   have hm := h6.le
   have hgm : m ≤ g := by
    refine Classical.byContradiction fun hc => c ?_
    rw [h4]
    rcases Nat.lt_or_ge g (m - 1) with c2 | c2
    ·have := hv g (m - 1) c2 (by omega); omega
    ·have : g = m - 1 := by omega
     rw [this]; exact Int.le_refl _
   have := SegL.has hv he h6 hg (by omega)
   simpa using this
end
end Go.Mv
end

section
namespace Go.Mv
open Go
def fX (xs : List Int) (i : Nat) : Int := xs.getD i default
def b6r (xs : List Int) (i : Nat) (d : List Nat) : Prop := d.Perm (List.range i) ∧ (d.map (fX xs)).Pairwise (· ≤ ·)
theorem b6r.step {xs : List Int} {i k : Nat} {d : List Nat} (h : b6r xs i d) (hk : k ≤ d.length) (h1 : ∀ j, j < k → fX xs (d.getD j default) ≤ fX xs i) (h2 : k < d.length → fX xs i ≤ fX xs (d.getD k default)) :
  b6r xs (i + 1) (d.take k ++ [i] ++ d.drop k) := by
 refine ⟨?_, ?_⟩
 ·rw [List.range_succ]
  have : (d.take k ++ [i] ++ d.drop k).Perm (d.take k ++ d.drop k ++ [i]) := by
   rw [List.append_assoc, List.append_assoc]
   exact List.Perm.append_left _ List.perm_append_comm
  rw [List.take_append_drop] at this
  exact this.trans (h.1.append_right _)
 ·have e : ∀ j, j < d.length → (d.map (fX xs)).getD j default = fX xs (d.getD j default) := by
   intro j hj
   rw [List.getD_eq_getElem?_getD, List.getD_eq_getElem?_getD, List.getElem?_map, List.getElem?_eq_getElem hj]; rfl
  have := b4h (out := d.map (fX xs)) (x := fX xs i) (k := k) h.2 (by simpa using hk) (fun j hj => by rw [e j (by omega)]; exact h1 j hj) (fun hk2 => by rw [e k (by simpa using hk2)]; exact h2 (by simpa using hk2))
  have e2 : (d.take k ++ [i] ++ d.drop k).map (fX xs) = a9l (fX xs i) (d.map (fX xs)) := by rw [← this]; simp [List.map_take, List.map_drop]
  rw [e2]
  exact a5d _ _ h.2
theorem b6r.ys {xs : List Int} {d : List Nat} (h : b6r xs xs.length d) : d.map (fX xs) = a0n xs := by
 refine c9b ?_ h.2
 have := h.1.map (fX xs)
 have e : (List.range xs.length).map (fX xs) = xs := by
  apply List.ext_getElem
  ·simp
  ·intro i h1 h2
   simp [fX, List.getD_eq_getElem?_getD, List.getElem?_eq_getElem h2]
 rwa [e] at this
theorem b6r.len {xs : List Int} {i : Nat} {d : List Nat} (h : b6r xs i d) : d.length = i := by rw [h.1.length_eq, List.length_range]
theorem b6r.lt {xs : List Int} {i : Nat} {d : List Nat} (h : b6r xs i d) {j : Nat} (hj : j < d.length) : d.getD j default < i := List.mem_range.1 (h.1.mem_iff.1 (L1 hj))
end Go.Mv
end

section
namespace Go.Mv
open Go
abbrev wList : ByteArray := ⟨#[108, 105, 115, 116]⟩
abbrev wA : ByteArray := ⟨#[97]⟩
abbrev wB : ByteArray := ⟨#[98]⟩
abbrev wC : ByteArray := ⟨#[99]⟩
abbrev wD : ByteArray := ⟨#[100]⟩
abbrev d1x : ByteArray := ⟨#[115, 111, 114, 116]⟩
abbrev d4a : ByteArray := ⟨#[114, 101, 118]⟩
abbrev d3u : ByteArray := ⟨#[110, 101, 103]⟩
abbrev d3q : ByteArray := ⟨#[97, 98, 115]⟩
abbrev d1t : ByteArray := ⟨#[100, 105, 102, 102]⟩
abbrev d1w : ByteArray := ⟨#[115, 117, 109, 115]⟩
abbrev c8i : ByteArray := ⟨#[114, 97, 110, 107, 115]⟩
abbrev c9w : ByteArray := ⟨#[116, 111, 116, 97, 108]⟩
abbrev d3r : ByteArray := ⟨#[97, 100, 100]⟩
abbrev d1z : ByteArray := ⟨#[106, 111, 105, 110]⟩
def nd (w : ByteArray) : Int :=
 if w.toList = wList.toList then 0 else if w.toList = wA.toList then 0 else if w.toList = wB.toList then 0 else if w.toList = wC.toList then 0 else if w.toList = wD.toList then 0
 else if w.toList = d1x.toList then 1 else if w.toList = d4a.toList then 1 else if w.toList = d3u.toList then 1 else if w.toList = d3q.toList then 1 else if w.toList = d1t.toList then 1
 else if w.toList = d1w.toList then 1 else if w.toList = c8i.toList then 1 else if w.toList = c9w.toList then 1 else if w.toList = d3r.toList then 2 else if w.toList = d1z.toList then 2 else -1
def rch (w : ByteArray) : Int :=
 if w.toList = d1x.toList then 1 else if w.toList = d4a.toList then 1 else if w.toList = d3u.toList then 1 else if w.toList = d3q.toList then 1 else if w.toList = d1t.toList then 1
 else if w.toList = d1w.toList then 1 else if w.toList = c8i.toList then 1 else if w.toList = c9w.toList then 1 else if w.toList = d3r.toList then 2 else if w.toList = d1z.toList then 2
 else if w.toList = wA.toList then 0 else if w.toList = wB.toList then 0 else if w.toList = wC.toList then 0 else if w.toList = wD.toList then 0 else -1
theorem d2i {p : Prop} [Decidable p] {a b : Int} (ha : -1 ≤ a ∧ a ≤ 2) (hb : -1 ≤ b ∧ b ≤ 2) : -1 ≤ (if p then a else b) ∧ (if p then a else b) ≤ 2 := by split <;> assumption
theorem c7t (w : ByteArray) : -1 ≤ rch w ∧ rch w ≤ 2 := by
 unfold rch
 repeat (refine d2i (by decide) ?_)
 decide
def a6s (x : List Int) (i : Nat) : Int := x.getD i default
def dfI (x : List Int) : List Int := (List.range x.length).map fun i => if i = 0 then a6s x 0 else a6s x i - a6s x (i - 1)
def vl (x : List Int) : Bool := decide (x.length ≤ 40) && b0p (-100000) 100000 x
def a5p (n : Nat) (f g : Nat → Int) (i : Nat) (l : List Int) : Prop := l.length = n ∧ ∀ j, j < n → l.getD j default = if j < i then f j else g j
theorem a5p.step {n i : Nat} {f g : Nat → Int} {l : List Int} (h : a5p n f g i l) (hi : i < n) {v : Int} (hv : v = f i) : a5p n f g (i + 1) (l.set i v) := by
 refine ⟨by simp [h.1], fun j hj => ?_⟩
 rw [a7f _ _ _ _ (by rw [h.1]; exact hi)]
 by_cases e : j = i
 ·subst e; rw [if_pos rfl, if_pos (by omega), hv]
 ·rw [if_neg e, h.2 j hj]
  by_cases c : j < i
  ·rw [if_pos c, if_pos (by omega)]
  ·rw [if_neg c, if_neg (by omega)]
theorem a5p.at {n i : Nat} {f g : Nat → Int} {l : List Int} (h : a5p n f g i l) (hi : i < n) : l.getD i default = g i := by rw [h.2 i hi, if_neg (by omega)]
theorem a5p.fin {n i : Nat} {f g : Nat → Int} {l : List Int} (h : a5p n f g i l) (hi : n ≤ i) : l = (List.range n).map f := by
 refine Z1 (d := default) (by simp [h.1]) fun j hj => ?_
 rw [h.1] at hj
 rw [h.2 j hj, if_pos (by omega), List.getD_eq_getElem?_getD, List.getElem?_map, List.getElem?_range hj]
 rfl
theorem a5p.start (x : List Int) (f : Nat → Int) : a5p x.length f (a6s x) 0 x := ⟨rfl, fun j hj => by rw [if_neg (by omega)]; rfl⟩
def a7r (x : List Int) (i : Nat) (l : List Int) : Prop := l.length = x.length ∧ ∀ j, j < x.length → l.getD j default = if i < j then a6s x j - a6s x (j - 1) else a6s x j
theorem a7r.step {x l : List Int} {i : Nat} (h : a7r x i l) (h0 : 0 < i) (hi : i < x.length) : a7r x (i - 1) (l.set i (l.getD i default - l.getD (i - 1) default)) := by
 refine ⟨by simp [h.1], fun j hj => ?_⟩
 rw [a7f _ _ _ _ (by rw [h.1]; exact hi)]
 by_cases e : j = i
 ·subst e
  rw [if_pos rfl, h.2 j hj, h.2 (j - 1) (by omega), if_neg (by omega), if_neg (by omega), if_pos (by omega)]
 ·rw [if_neg e, h.2 j hj]
  by_cases c : i < j
  ·rw [if_pos c, if_pos (by omega)]
  ·rw [if_neg c, if_neg (by omega)]
theorem a7r.fin {x l : List Int} (h : a7r x 0 l) : l = dfI x := by
 refine Z1 (d := default) (by simp [h.1, dfI]) fun j hj => ?_
 rw [h.1] at hj
 rw [h.2 j hj, dfI, List.getD_eq_getElem?_getD, List.getElem?_map, List.getElem?_range hj]
 show _ = if j = 0 then _ else _
 by_cases e : j = 0
 ·subst e; rw [if_neg (by omega), if_pos rfl]
 ·rw [if_pos (by omega), if_neg e]
end Go.Mv
namespace Go.Mv
end Go.Mv
end

section
namespace Go.Mv
open Go
def c3r (x : List Int) (i : Nat) (l : List Int) : Prop := l.length = x.length ∧ ∀ j, j < x.length → l.getD j default = if j < i ∨ x.length - 1 - i < j then a6s x (x.length - 1 - j) else a6s x j
theorem c3r.start (x : List Int) : c3r x 0 x := ⟨rfl, fun j hj => by rw [if_neg (by omega)]; rfl⟩
theorem c3r.step {x l : List Int} {i : Nat} (h : c3r x i l) (hi : i < x.length - 1 - i) : c3r x (i + 1) ((l.set i (l.getD (x.length - 1 - i) default)).set (x.length - 1 - i) (l.getD i default)) := by
 refine ⟨by simp [h.1], fun j hj => ?_⟩
 rw [a7f _ _ _ _ (by simp [h.1]; omega), a7f _ _ _ _ (by rw [h.1]; omega)]
 by_cases e : j = x.length - 1 - i
 ·subst e
  rw [if_pos rfl, h.2 i (by omega), if_neg (by omega), if_pos (by omega), show x.length - 1 - (x.length - 1 - i) = i by omega]
 ·rw [if_neg e]
  by_cases e2 : j = i
  ·subst e2
   rw [if_pos rfl, h.2 _ (by omega), if_neg (by omega), if_pos (by omega)]
  ·rw [if_neg e2, h.2 j hj]
   by_cases c : j < i ∨ x.length - 1 - i < j
   ·rw [if_pos c, if_pos (by omega)]
   ·rw [if_neg c, if_neg (by omega)]
theorem c3r.fin {x l : List Int} {i : Nat} (h : c3r x i l) (hi : x.length - 1 - i ≤ i) : l = x.reverse := by
 refine Z1 (d := default) (by simp [h.1]) fun j hj => ?_
 rw [h.1] at hj
 have hr : x.reverse.getD j default = a6s x (x.length - 1 - j) := by
  unfold a6s
  rw [List.getD_eq_getElem?_getD, List.getD_eq_getElem?_getD, List.getElem?_reverse hj]
 rw [h.2 j hj, hr]
 split
 ·rfl
 ·rename_i c
  rw [show x.length - 1 - j = j by omega]
end Go.Mv
namespace Go.Mv
theorem a7r.start (x : List Int) : a7r x (x.length - 1) x := ⟨rfl, fun j hj => by rw [if_neg (by omega)]; rfl⟩
theorem a7r.val {x l : List Int} {i : Nat} (h : a7r x i l) (j : Nat) : l.getD j default = if i < j ∧ j < x.length then a6s x j - a6s x (j - 1) else a6s x j := by
 rcases Nat.lt_or_ge j x.length with c | c
 ·rw [h.2 j c]
  by_cases c2 : i < j
  ·rw [if_pos c2, if_pos ⟨c2, c⟩]
  ·rw [if_neg c2, if_neg (by omega)]
 ·rw [if_neg (by omega), List.getD_eq_getElem?_getD, List.getElem?_eq_none (by rw [h.1]; exact c)]
  unfold a6s
  rw [List.getD_eq_getElem?_getD, List.getElem?_eq_none c]
theorem a5p.before {n i j : Nat} {f g : Nat → Int} {l : List Int} (h : a5p n f g i l) (hj : j < i) (hn : j < n) : l.getD j default = f j := by rw [h.2 j hn, if_pos hj]
end Go.Mv
end

section
namespace Go.Mv
open Go
structure Stp where
 op : ByteArray
 a : Int
 b : Int
 ns : List Int
instance : Inhabited Stp := ⟨⟨⟨#[]⟩, 0, 0, []⟩⟩
abbrev stA (s : Stp) : AV := .agg [sV s.op, iV s.a, iV s.b, .list (s.ns.map iV)]
abbrev stO (s : Stp) : AV := .agg [sV s.op, iV s.a, iV s.b, .own 1 (s.ns.map iV)]
theorem c4y (ss : List Stp) : frzL (ss.map stO) = ss.map stA := by
 induction ss with
 | nil => rfl
 | cons s r ih =>
  simp only [List.map_cons, frzL, ih]
  congr 1
  simp only [frz, frzL, stO, stA]
  rw [a2q fun _ => rfl]
end Go.Mv
end

section
namespace Go.Mv
open Go
section
variable {cx : Cx} {keep : List Nat} {ops0 : Array Oper} {r : List Oper} {A : Asr} {Q : Asr → List Log → Prop} {d : Nat} {ty : Nat} {pos : String} {aft : Array Edge}
def Stp.sOp (y : Stp) (s : ByteArray) : Stp := ⟨s, y.a, y.b, y.ns⟩
def Stp.sA (y : Stp) (n : Int) : Stp := ⟨y.op, n, y.b, y.ns⟩
def Stp.sB (y : Stp) (n : Int) : Stp := ⟨y.op, y.a, n, y.ns⟩
def Stp.sN (y : Stp) (l : List Int) : Stp := ⟨y.op, y.a, y.b, l⟩
@[simp] theorem Stp.sOp_ns (y : Stp) (s : ByteArray) : (y.sOp s).ns = y.ns := rfl
@[simp] theorem Stp.sA_ns (y : Stp) (s : Int) : (y.sA s).ns = y.ns := rfl
@[simp] theorem Stp.sB_ns (y : Stp) (s : Int) : (y.sB s).ns = y.ns := rfl
@[simp] theorem Stp.sN_ns (y : Stp) (s : List Int) : (y.sN s).ns = s := rfl
end
end Go.Mv
end

section
namespace Go.Mv
open Go
theorem d0x {w : ByteArray} (h : w.toList = wList.toList) : nd w = 0 := by rw [nd, if_pos h]
theorem c9f (w : ByteArray) (h : w.toList ≠ wList.toList) : nd w = rch w := by
 by_cases hA : w.toList = wA.toList
 ·simp [nd, rch, hA]
 by_cases hB : w.toList = wB.toList
 ·simp [nd, rch, hB]
 by_cases hC : w.toList = wC.toList
 ·simp [nd, rch, hC]
 by_cases hD : w.toList = wD.toList
 ·simp [nd, rch, hD]
 unfold nd rch
 rw [if_neg h, if_neg hA, if_neg hB, if_neg hC, if_neg hD, if_neg hA, if_neg hB, if_neg hC, if_neg hD]
end Go.Mv
end

section
namespace Go.Mv
open Go
section
variable {cx : Cx} {keep : List Nat} {ops0 : Array Oper} {r : List Oper} {A : Asr} {Q : Asr → List Log → Prop} {d : Nat} {ty : Nat} {pos : String} {aft : Array Edge}
end
theorem d0z (b : ByteArray) : ∀ n i r, b.size - i = n → ByteArray.toList.loop b i r = r.reverse ++ b.data.toList.drop i := by
 intro n
 induction n with
 | zero =>
  intro i r h
  rw [ByteArray.toList.loop]
  have h1 : ¬ i < b.size := by omega
  rw [if_neg h1, List.drop_eq_nil_of_le (by rw [Array.length_toList]; show b.size ≤ i; omega), List.append_nil]
 | succ n ih =>
  intro i r h
  rw [ByteArray.toList.loop]
  have h1 : i < b.size := by omega
  have h2 : i < b.data.toList.length := by rw [Array.length_toList]; exact h1
  rw [if_pos h1, ih (i + 1) _ (by omega), List.drop_eq_getElem_cons h2, List.reverse_cons, List.append_assoc]
  have e : b.get! i = b.data.toList[i] := by
   show b.data[i]! = _
   rw [getElem!_pos b.data i h1]
   exact (Array.getElem_toList ..).symm
  rw [e]; rfl
theorem a3a (b : ByteArray) : b.toList = b.data.toList := by
 rw [ByteArray.toList, d0z b b.size 0 [] (by omega)]; rfl
theorem d0a {a b : ByteArray} (h : a.toList = b.toList) : a = b := by
 rw [a3a, a3a] at h
 cases a; cases b
 congr 1
 exact Array.toList_inj.1 h
end Go.Mv
namespace Go.Mv
open Go
end Go.Mv
namespace Go.Mv
theorem a3n (xs : List Int) (b : Bool) : hasList (.tup [.own 1 (xs.map iV), bV b]) = false := by simp [hasList, G0]
end Go.Mv
namespace Go.Mv
end Go.Mv
namespace Go.Mv
theorem b9y {w : ByteArray} (h : w.toList = wList.toList) : rch w = -1 := by
 have e : w = wList := d0a h
 subst e
 decide +kernel
end Go.Mv
namespace Go.Mv
open Go
end Go.Mv
namespace Go.Mv
open Go
theorem O8 {A : Asr} {C : Caller} {ss : List Stp} {md id g m n : Nat} (hmd : md = 0) (ho : look A (.h id) = some (.obj g m 4 (ss.map stO))) (hb : bxB m none = false) (hn : n = (ss.map stO).length) :
  L5 C A md (.sl id g none 0 n) (.list (ss.map stA)) [(id, false)] [] [.h id] := by
 have := b1c (C := C) hmd ho hb hn (A7 fun _ => rfl)
 rwa [c4y] at this
end Go.Mv
end

section
namespace Go.Mv
open Go
abbrev bA (l : List UInt8) : ByteArray := ⟨l.toArray⟩
abbrev tV (l : List UInt8) : AV := sV (bA l)
theorem Y2 (l : List UInt8) : (bA l).toList = l := by rw [a3a]
theorem c6d (a b : List UInt8) : bA a ++ bA b = bA (a ++ b) := by
 apply ByteArray.ext
 simp
theorem c3b (a : List UInt8) (i j : Nat) : (bA a).extract i j = bA ((a.drop i).take (j - i)) := by
 apply ByteArray.ext
 simp [ByteArray.data_extract]
theorem d2e {a b : List UInt8} (h : bA a = bA b) : a = b := by
 have := congrArg ByteArray.toList h
 rwa [Y2, Y2] at this
theorem a8i (b : ByteArray) : bA b.data.toList = b := by cases b; rfl
section
variable {cx : Cx} {keep : List Nat} {ops0 : Array Oper} {r : List Oper} {A : Asr} {Q : Asr → List Log → Prop} {d : Nat} {ty : Nat} {pos : String} {aft : Array Edge}
theorem a2c {x : Operand} {T : Nat} {l : List UInt8} (hx : opd A x = some (tV l)) (hT : a5b (tyS cx.P T).k = true)
  (h : XR cx keep ops0 r ((.t d, iV l.length) :: A) fun A' lg => Q A' ((rds x, [.t d]) :: lg)) : XR cx keep ops0 (⟨some d, .call ⟨.builtin .len, #[x], #[T]⟩, ty, pos, aft, none⟩ :: r) A Q := c6c hx hT h
theorem P7 {x i : Operand} {T n : Nat} {l : List UInt8} {k : IntKind} (hT : a5b (tyS cx.P T).k = true) (hx : opd A x = some (tV l)) (hi : opd A i = some (.val (.int k (n : Int)))) (hn : n < l.length)
  (h : XR cx keep ops0 r ((.t d, uV (l.getD n 0).toNat) :: A) fun A' lg => Q A' ((rds x ++ rds i, [.t d]) :: lg)) : XR cx keep ops0 (⟨some d, .index T x i, ty, pos, aft, none⟩ :: r) A Q :=
 c0j hT hx hi (by omega) (by rw [Int.toNat_natCast]; show l[n]? = _; rw [List.getD_eq_getElem?_getD, List.getElem?_eq_getElem hn]; rfl) h
theorem P4 {T z : Nat} {a b : Operand} {x y : List UInt8} (ha : opd A a = some (tV x)) (hb : opd A b = some (tV y)) (hi : x.length + y.length ≤ H7)
  (h : XR cx keep ops0 r ((.t d, tV (x ++ y)) :: A) fun A' lg => Q A' ((rds a ++ rds b, [.t d]) :: lg)) : XR cx keep ops0 (⟨some d, .binOp .add T a b z, ty, pos, aft, none⟩ :: r) A Q :=
 d2u ha hb hi (by rw [c6d]; exact h)
theorem a1s {T z : Nat} {a b : Operand} {x y : List UInt8} (ha : opd A a = some (tV x)) (hb : opd A b = some (tV y))
  (h : XR cx keep ops0 r ((.t d, bV (decide (x = y))) :: A) fun A' lg => Q A' ((rds a ++ rds b, [.t d]) :: lg)) : XR cx keep ops0 (⟨some d, .binOp .eql T a b z, ty, pos, aft, none⟩ :: r) A Q :=
 O4 ha hb (by rw [Y2, Y2, show (x == y) = decide (x = y) from Bool.eq_iff_iff.2 (by simp)]; exact h)
theorem b5u {T z : Nat} {a b : Operand} {x y : List UInt8} (ha : opd A a = some (tV x)) (hb : opd A b = some (tV y))
  (h : XR cx keep ops0 r ((.t d, bV (!decide (x = y))) :: A) fun A' lg => Q A' ((rds a ++ rds b, [.t d]) :: lg)) : XR cx keep ops0 (⟨some d, .binOp .neq T a b z, ty, pos, aft, none⟩ :: r) A Q :=
 d2b ha hb (by rw [Y2, Y2, show (x == y) = decide (x = y) from Bool.eq_iff_iff.2 (by simp)]; exact h)
theorem V2 {x : Operand} {T lo1 hi1 : Nat} {lo hi : Option Operand} {l : List UInt8} {ls1 ls2 : List Mv.Loc} (hx : opd A x = some (tV l)) (hT : (tyS cx.P T).k = .string)
  (hh : wpA (CW cx) A (optNat hi l.length) fun k ls => k = hi1 ∧ ls = ls1) (hl : wpA (CW cx) A (optNat lo 0) fun k ls => k = lo1 ∧ ls = ls2) (hc : lo1 ≤ hi1 ∧ hi1 ≤ l.length)
  (h : XR cx keep ops0 r ((.t d, tV ((l.drop lo1).take (hi1 - lo1))) :: A) fun A' lg => Q A' ((rds x ++ (ls1 ++ ls2), [.t d]) :: lg)) : XR cx keep ops0 (⟨some d, .slice T x lo hi none, ty, pos, aft, none⟩ :: r) A Q := by
 refine K6 (fun o ho => by simp only [aopV, ho]) ?_ (by simp [slotOk, refOkV, refsOk]) h
 simp only [opV, D4, E4 hx, sliceA, hT, F3]
 refine ⟨trivial, ?_⟩
 refine N2 ?_ hh
 rintro _ _ ⟨rfl, rfl⟩
 refine N2 ?_ hl
 rintro _ _ ⟨rfl, rfl⟩
 simp only [F3, E9, c3b, List.append_nil]
 exact ⟨hc, by simp⟩
end
end Go.Mv
namespace Go.Mv
open Go
theorem d3k {x : Int} (h : 0 ≤ x ∧ x ≤ 255) : inI .u8 x := by
 constructor <;> simp [IntKind.min, IntKind.max, IntKind.signed, IntKind.bits] <;> omega
end Go.Mv
end

section
namespace Go.Mv
open Go
def decN (n : Nat) : List UInt8 := if n < 10 then [UInt8.ofNat (48 + n)] else decN (n / 10) ++ [UInt8.ofNat (48 + n % 10)]
termination_by n
theorem c4i {n : Nat} (h : n < 10) : decN n = [UInt8.ofNat (48 + n)] := by rw [decN, if_pos h]
theorem d0t {n : Nat} (h : ¬ n < 10) : decN n = decN (n / 10) ++ decN (n % 10) := by
 rw [decN, if_neg h, c4i (show n % 10 < 10 from Nat.mod_lt _ (by decide))]
def dec (n : Int) : List UInt8 := if n < 0 then 45 :: decN (-n).toNat else decN n.toNat
theorem b1p (n : Nat) : dec (n : Int) = decN n := by rw [dec, if_neg (by omega)]; rfl
theorem u8n {k : Nat} (h : k < 256) : (UInt8.ofNat k).toNat = k := by rw [UInt8.toNat_ofNat']; exact Nat.mod_eq_of_lt h
theorem a8j (n : Nat) : ∀ b ∈ decN n, 48 ≤ b.toNat ∧ b.toNat ≤ 57 := by
 induction n using Nat.strongRecOn with
 | _ n ih =>
  rw [decN]
  split
  ·intro b hb
   cases List.mem_singleton.1 hb
   rw [u8n (by omega)]; omega
  ·intro b hb
   rcases List.mem_append.1 hb with c | c
   ·exact ih _ (by omega) b c
   ·cases List.mem_singleton.1 c
    rw [u8n (by omega)]; omega
theorem a7v (n : Nat) : decN n ≠ [] := by
 rw [decN]
 split <;> simp
theorem c7c (n : Int) : dec n ≠ [] := by
 rw [dec]
 split
 ·simp
 ·exact a7v _
theorem b8h (n : Nat) : ∀ {k : Nat}, 1 ≤ k → n < 10 ^ k → (decN n).length ≤ k := by
 induction n using Nat.strongRecOn with
 | _ n ih =>
  intro k hk hn
  rw [decN]
  split
  ·simpa using hk
  ·rename_i h
   match k, hk with
   | 1, _ => omega
   | k + 2, _ =>
    have := ih (n / 10) (by omega) (k := k + 1) (by omega) (by rw [Nat.pow_succ] at hn; omega)
    simp; omega
theorem V5 {m : Int} (h : -1000000 ≤ m ∧ m ≤ 1000000) : (dec m).length ≤ 8 := by
 rw [dec]
 split
 ·have := b8h (-m).toNat (k := 7) (by decide) (by omega)
  simp; omega
 ·have := b8h m.toNat (k := 7) (by decide) (by omega)
  omega
theorem d0o {n : Int} (h : n < 0) : dec n = [45] ++ dec (-n) := by
 rw [dec, if_pos h, dec, if_neg (by omega)]; rfl
theorem d1f {n : Int} (h : 0 ≤ n ∧ n < 10) : dec n = (([48, 49, 50, 51, 52, 53, 54, 55, 56, 57] : List UInt8).drop n.toNat).take ((n + 1).toNat - n.toNat) := by
 obtain ⟨k, rfl⟩ : ∃ k : Nat, n = k := ⟨n.toNat, by omega⟩
 have hk : k < 10 := by omega
 rw [b1p, c4i hk]
 match k, hk with
 | 0, _ => rfl
 | 1, _ => rfl
 | 2, _ => rfl
 | 3, _ => rfl
 | 4, _ => rfl
 | 5, _ => rfl
 | 6, _ => rfl
 | 7, _ => rfl
 | 8, _ => rfl
 | 9, _ => rfl
theorem d3h {n : Int} (h : ¬ n < 10) : dec n = dec (n.tdiv 10) ++ dec (n.tmod 10) := by
 obtain ⟨k, rfl⟩ : ∃ k : Nat, n = k := ⟨n.toNat, by omega⟩
 have e1 : (k : Int).tdiv 10 = ((k / 10 : Nat) : Int) := by rw [Int.tdiv_eq_ediv_of_nonneg (by omega)]; omega
 have e2 : (k : Int).tmod 10 = ((k % 10 : Nat) : Int) := by rw [Int.tmod_eq_emod_of_nonneg (by omega)]; omega
 rw [e1, e2, b1p, b1p, b1p, d0t (by omega)]
def joinB (c : UInt8) : List (List UInt8) → List UInt8
 | [] => []
 | [p] => p
 | p :: q :: r => p ++ c :: joinB c (q :: r)
def W5 (q : List UInt8) : List (List UInt8) → List (List UInt8)
 | p :: ps => (q ++ p) :: ps
 | [] => []
def splitB (c : UInt8) : List UInt8 → List (List UInt8)
 | [] => [[]]
 | b :: r => if b = c then [] :: splitB c r else W5 [b] (splitB c r)
theorem c0k (a b : List UInt8) (l : List (List UInt8)) : W5 a (W5 b l) = W5 (a ++ b) l := by cases l <;> simp [W5]
theorem b5y (l : List (List UInt8)) : W5 [] l = l := by cases l <;> simp [W5]
theorem b5x (c : UInt8) (l : List UInt8) : splitB c l ≠ [] := by
 induction l with
 | nil => simp [splitB]
 | cons b r ih =>
  rw [splitB]
  split
  ·simp
  ·cases h : splitB c r with
   | nil => exact absurd h ih
   | cons p ps => simp [W5]
theorem b9q {c : UInt8} {p : List UInt8} (h : c ∉ p) (r : List UInt8) : splitB c (p ++ c :: r) = p :: splitB c r := by
 induction p with
 | nil => simp [splitB]
 | cons b p ih =>
  simp only [List.mem_cons, not_or] at h
  rw [List.cons_append, splitB, if_neg (fun e => h.1 e.symm), ih h.2]
  rfl
theorem b7c {c : UInt8} {p : List UInt8} (h : c ∉ p) : splitB c p = [p] := by
 induction p with
 | nil => rfl
 | cons b p ih =>
  simp only [List.mem_cons, not_or] at h
  rw [splitB, if_neg (fun e => h.1 e.symm), ih h.2]
  rfl
theorem a9x {c : UInt8} : ∀ {ps : List (List UInt8)}, ps ≠ [] → (∀ p ∈ ps, c ∉ p) → splitB c (joinB c ps) = ps
 | [], h, _ => absurd rfl h
 | [p], _, h => b7c (h p (by simp))
 | p :: q :: r, _, h => by
  rw [joinB, b9q (h p (by simp)), a9x (by simp) fun x hx => h x (List.mem_cons_of_mem _ hx)]
theorem b3r {c : UInt8} {p : List UInt8} {r : List (List UInt8)} (h : r ≠ []) : joinB c (p :: r) = p ++ c :: joinB c r := by
 cases r with
 | nil => exact absurd rfl h
 | cons q r => rfl
theorem b3e (c : UInt8) (l : List UInt8) : joinB c (splitB c l) = l := by
 induction l with
 | nil => rfl
 | cons b r ih =>
  rw [splitB]
  split
  ·rename_i e
   subst e
   rw [b3r (b5x _ _), ih]; rfl
  ·cases h : splitB c r with
   | nil => exact absurd h (b5x c r)
   | cons p ps =>
    rw [h] at ih
    cases ps with
    | nil => simp only [W5, joinB] at ih ⊢; rw [ih]; rfl
    | cons q ps => simp only [W5, joinB] at ih ⊢; rw [← ih]; rfl
theorem b4b {c : UInt8} {s : List UInt8} {out : List (List UInt8)} {fr i : Nat} (hi : i < s.length) (hf : fr ≤ i) (h : splitB c s = out ++ W5 ((s.drop fr).take (i - fr)) (splitB c (s.drop i))) :
  (s.getD i 0 = c → splitB c s = (out ++ [(s.drop fr).take (i - fr)]) ++ W5 ((s.drop (i + 1)).take (i + 1 - (i + 1))) (splitB c (s.drop (i + 1)))) ∧
  (s.getD i 0 ≠ c → splitB c s = out ++ W5 ((s.drop fr).take (i + 1 - fr)) (splitB c (s.drop (i + 1)))) := by
 have e : s.drop i = s.getD i 0 :: s.drop (i + 1) := by
  rw [List.drop_eq_getElem_cons hi, List.getD_eq_getElem?_getD, List.getElem?_eq_getElem hi]; rfl
 refine ⟨fun hc => ?_, fun hc => ?_⟩
 ·rw [h, e, splitB, if_pos hc, Nat.sub_self, List.take_zero, b5y, W5, List.append_nil, List.append_assoc]; rfl
 ·rw [h, e, splitB, if_neg hc, c0k]
  congr 2
  have e2 : (s.drop fr).take (i + 1 - fr) = (s.drop fr).take (i - fr) ++ [s.getD i 0] := by
   rw [show i + 1 - fr = (i - fr) + 1 by omega, List.take_succ_eq_append_getElem (by simp; omega)]
   congr 2
   rw [List.getElem_drop, List.getD_eq_getElem?_getD, List.getElem?_eq_getElem hi]
   simp [show fr + (i - fr) = i by omega]
  rw [e2]
def W9 : Nat → List UInt8 → Option Nat
 | a, [] => some a
 | a, b :: r => if 48 ≤ b.toNat ∧ b.toNat ≤ 57 ∧ a ≤ 10000 then W9 (10 * a + (b.toNat - 48)) r else none
theorem a4t (x y : List UInt8) : ∀ a, W9 a (x ++ y) = (W9 a x).bind fun b => W9 b y := by
 induction x with
 | nil => intro a; rfl
 | cons c x ih =>
  intro a
  rw [List.cons_append, W9, W9]
  split
  ·exact ih _
  ·rfl
theorem c1i (n : Nat) : n ≤ 100009 → W9 0 (decN n) = some n := by
 induction n using Nat.strongRecOn with
 | _ n ih =>
  intro hn
  rw [decN]
  split
  ·rename_i h
   rw [W9, u8n (by omega), if_pos (by omega), W9]
   congr 1; omega
  ·rename_i h
   rw [a4t, ih (n / 10) (by omega) (by omega), Option.bind_some, W9, u8n (by omega), if_pos (by omega), W9]
   congr 1; omega
def neg? (t : List UInt8) : Bool := decide (t.head? = some 45)
def unS (t : List UInt8) : List UInt8 := if neg? t = true then t.tail else t
def rdI (t : List UInt8) : Option Int := (W9 0 (unS t)).bind fun n => if unS t = [] ∨ dec (if neg? t = true then -(n : Int) else n) ≠ t then none else some (if neg? t = true then -(n : Int) else n)
theorem c8y {t : List UInt8} {m : Int} (h : rdI t = some m) : t = dec m := by
 unfold rdI at h
 obtain ⟨n, _, h2⟩ := Option.bind_eq_some_iff.1 h
 by_cases hc : unS t = [] ∨ dec (if neg? t = true then -(n : Int) else n) ≠ t
 ·rw [if_pos hc] at h2; cases h2
 ·rw [if_neg hc] at h2
  simp only [not_or, Decidable.not_not] at hc
  rw [Option.some.injEq] at h2
  rw [← h2]
  exact hc.2.symm
theorem c9t (n : Nat) : neg? (decN n) = false := by
 cases h : decN n with
 | nil => rfl
 | cons b r =>
  have := a8j n b (by rw [h]; simp)
  simp only [neg?, List.head?_cons, Option.some.injEq, decide_eq_false_iff_not]
  intro e
  subst e
  exact absurd this.1 (by decide)
theorem d0h {m : Int} (h : -100000 ≤ m ∧ m ≤ 100000) : rdI (dec m) = some m := by
 by_cases hm : m < 0
 ·have e : dec m = 45 :: decN (-m).toNat := by rw [dec, if_pos hm]
  have hn : neg? (dec m) = true := by rw [e]; rfl
  have hu : unS (dec m) = decN (-m).toNat := by rw [unS, if_pos hn, e]; rfl
  rw [rdI, hu, c1i _ (by omega), Option.bind_some, hn]
  simp only [if_true]
  have e2 : -(((-m).toNat : Nat) : Int) = m := by omega
  rw [e2, if_neg (by simp [a7v])]
 ·have e : dec m = decN m.toNat := by rw [dec, if_neg hm]
  have hn : neg? (dec m) = false := by rw [e]; exact c9t _
  have hu : unS (dec m) = decN m.toNat := by rw [unS, hn, if_neg (by decide), e]
  rw [rdI, hu, c1i _ (by omega), Option.bind_some, hn]
  simp only [Bool.false_eq_true, if_false]
  have e2 : ((m.toNat : Nat) : Int) = m := by omega
  rw [e2, if_neg (by simp [a7v])]
theorem c9y {c : UInt8} (hc : c ≠ 45) (hd : ¬(48 ≤ c.toNat ∧ c.toNat ≤ 57)) (n : Int) : c ∉ dec n := by
 rw [dec]
 split
 ·intro h
  rcases List.mem_cons.1 h with e | e
  ·exact hc e
  ·exact hd (a8j _ c e)
 ·exact fun h => hd (a8j _ c h)
def P9 (ns : List Int) : List UInt8 := joinB 44 (ns.map dec)
theorem b3p {c : UInt8} (p : List UInt8) : ∀ {r : List (List UInt8)}, r ≠ [] → joinB c (r ++ [p]) = joinB c r ++ c :: p
 | [], h => absurd rfl h
 | [q], _ => rfl
 | q :: q2 :: r, _ => by
  have h1 := b3p (c := c) p (r := q2 :: r) (by simp)
  show q ++ c :: joinB c ((q2 :: r) ++ [p]) = (q ++ c :: joinB c (q2 :: r)) ++ c :: p
  rw [h1]; simp
theorem b9a {ns : List Int} {i : Nat} (hi : i < ns.length) (h0 : 0 < i) : P9 (ns.take (i + 1)) = P9 (ns.take i) ++ [44] ++ dec (ns.getD i default) := by
 have e : ns.getD i default = ns[i] := by rw [List.getD_eq_getElem?_getD, List.getElem?_eq_getElem hi]; rfl
 rw [P9, P9, List.take_succ_eq_append_getElem hi, List.map_append, List.map_singleton, b3p, e, List.append_assoc]
 ·rfl
 ·intro h
  have := congrArg List.length h
  rw [List.length_map, List.length_take, List.length_nil] at this
  omega
theorem c1h {ns : List Int} {i : Nat} (hi : i < ns.length) (h0 : i = 0) : P9 (ns.take (i + 1)) = P9 (ns.take i) ++ dec (ns.getD i default) := by
 subst h0
 cases ns with
 | nil => simp at hi
 | cons n r => rfl
theorem a2w {ns : List Int} (h : ∀ n ∈ ns, -1000000 ≤ n ∧ n ≤ 1000000) : (P9 ns).length ≤ 9 * ns.length := by
 have key : ∀ ps : List (List UInt8), (∀ p ∈ ps, p.length ≤ 8) → (joinB 44 ps).length ≤ 9 * ps.length := by
  intro ps
  induction ps with
  | nil => intro _; simp [joinB]
  | cons p r ih =>
   intro hp
   have h1 := hp p (by simp)
   have h2 := ih fun q hq => hp q (List.mem_cons_of_mem _ hq)
   cases r with
   | nil => simp only [joinB, List.length_singleton]; omega
   | cons q r => rw [b3r (by simp)]; simp only [List.length_append, List.length_cons] at h2 ⊢; omega
 have := key (ns.map dec) fun p hp => by
  obtain ⟨n, hn, rfl⟩ := List.mem_map.1 hp
  exact V5 (h n hn)
 simpa [P9] using this
def X9 (ns : List Int) : List UInt8 := 91 :: (P9 ns ++ [93])
def a1i : List (List UInt8) → Option (List Int)
 | [] => some []
 | p :: r => (rdI p).bind fun n => (a1i r).map fun ns => n :: ns
def rdL (s : List UInt8) : Option (List Int) := a1i (splitB 44 s)
theorem a8s : ∀ {ps : List (List UInt8)} {ns : List Int}, a1i ps = some ns → ps = ns.map dec
 | [], ns, h => by cases h; rfl
 | p :: r, ns, h => by
  simp only [a1i, Option.bind_eq_some_iff, Option.map_eq_some_iff] at h
  obtain ⟨n, h1, ms, h2, rfl⟩ := h
  rw [List.map_cons, ← c8y h1, ← a8s h2]
theorem c0s : ∀ {ns : List Int}, (∀ n ∈ ns, -100000 ≤ n ∧ n ≤ 100000) → a1i (ns.map dec) = some ns
 | [], _ => rfl
 | n :: ns, h => by rw [List.map_cons, a1i, d0h (h n (by simp)), Option.bind_some, c0s fun x hx => h x (List.mem_cons_of_mem _ hx)]; rfl
theorem b0b (x y : List (List UInt8)) : a1i (x ++ y) = (a1i x).bind fun a => (a1i y).map fun b => a ++ b := by
 induction x with
 | nil => cases h : a1i y <;> simp [a1i, h]
 | cons p x ih =>
  rw [List.cons_append, a1i, a1i, ih]
  cases rdI p with
  | none => rfl
  | some n =>
   cases a1i x with
   | none => rfl
   | some a =>
    cases a1i y with
    | none => rfl
    | some b => rfl
theorem a8u {ps : List (List UInt8)} {ns : List Int} {i : Nat} {n : Int} (hi : i < ps.length) (h : a1i (ps.take i) = some ns) (hn : rdI (ps.getD i default) = some n) : a1i (ps.take (i + 1)) = some (ns ++ [n]) := by
 have e : ps.getD i default = ps[i] := by rw [List.getD_eq_getElem?_getD, List.getElem?_eq_getElem hi]; rfl
 rw [e] at hn
 rw [List.take_succ_eq_append_getElem hi, b0b, h, Option.bind_some, a1i, hn]
 rfl
theorem M5 {ps : List (List UInt8)} {i : Nat} (hi : i < ps.length) (hn : rdI (ps.getD i default) = none) : a1i ps = none := by
 have e : ps.getD i default = ps[i] := by rw [List.getD_eq_getElem?_getD, List.getElem?_eq_getElem hi]; rfl
 rw [e] at hn
 rw [← List.take_append_drop i ps, b0b, List.drop_eq_getElem_cons hi, a1i, hn]
 cases a1i (ps.take i) <;> rfl
theorem b0f : ∀ {ps : List (List UInt8)} {ns : List Int}, a1i ps = some ns → ns.length = ps.length := fun h => by rw [a8s h, List.length_map]
theorem b1b : ∀ {u : List UInt8} {a n : Nat}, a ≤ 100009 → W9 a u = some n → n ≤ 100009
 | [], a, n, ha, h => by cases h; exact ha
 | b :: r, a, n, _, h => by
  rw [W9] at h
  split at h
  ·exact b1b (by omega) h
  ·cases h
theorem a8r {u : List UInt8} {k a : Nat} (hk : k < u.length) (h : W9 0 (u.take k) = some a) (hb : 48 ≤ (u.getD k 0).toNat ∧ (u.getD k 0).toNat ≤ 57 ∧ a ≤ 10000) : W9 0 (u.take (k + 1)) = some (10 * a + ((u.getD k 0).toNat - 48)) := by
 have e : u.getD k 0 = u[k] := by rw [List.getD_eq_getElem?_getD, List.getElem?_eq_getElem hk]; rfl
 rw [e] at hb ⊢
 rw [List.take_succ_eq_append_getElem hk, a4t, h, Option.bind_some, W9, if_pos hb, W9]
theorem U2 {u : List UInt8} {k a : Nat} (hk : k < u.length) (h : W9 0 (u.take k) = some a) (hb : ¬(48 ≤ (u.getD k 0).toNat ∧ (u.getD k 0).toNat ≤ 57 ∧ a ≤ 10000)) : W9 0 u = none := by
 have e : u.getD k 0 = u[k] := by rw [List.getD_eq_getElem?_getD, List.getElem?_eq_getElem hk]; rfl
 rw [e] at hb
 rw [← List.take_append_drop k u, a4t, h, Option.bind_some, List.drop_eq_getElem_cons hk, W9, if_neg hb]
theorem X5 {p : List UInt8} (h : W9 0 (unS p) = none) : rdI p = none := by rw [rdI, h]; rfl
theorem c2g {p : List UInt8} {a : Nat} {m : Int} (h : W9 0 (unS p) = some a) (hm : m = if neg? p = true then -(a : Int) else a) (h1 : unS p ≠ []) (h2 : dec m = p) : rdI p = some m := by
 rw [rdI, h, Option.bind_some, ← hm, if_neg (by simp [h1, h2])]
theorem a9e {p : List UInt8} {a : Nat} {m : Int} (h : W9 0 (unS p) = some a) (hm : m = if neg? p = true then -(a : Int) else a) (h1 : unS p = [] ∨ dec m ≠ p) : rdI p = none := by
 rw [rdI, h, Option.bind_some, ← hm, if_pos h1]
theorem d3v {p : List UInt8} (h : p ≠ []) (h2 : (p.getD 0 0).toNat = 45) : neg? p = true ∧ unS p = (p.drop 1).take (p.length - 1) := by
 have hn : neg? p = true := by
  cases p with
  | nil => exact absurd rfl h
  | cons b r => exact decide_eq_true (congrArg some (UInt8.toNat_inj.1 h2))
 refine ⟨hn, ?_⟩
 rw [unS, if_pos hn]
 cases p with
 | nil => rfl
 | cons b r => simp
theorem d1v {p : List UInt8} (h : p = [] ∨ (p.getD 0 0).toNat ≠ 45) : neg? p = false ∧ unS p = p := by
 have hn : neg? p = false := by
  cases p with
  | nil => rfl
  | cons b r =>
   refine decide_eq_false fun e => ?_
   rcases h with h | h
   ·cases h
   ·cases e; exact h rfl
 exact ⟨hn, by rw [unS, hn, if_neg (by decide)]⟩
theorem a1y {ns : List Int} (h : ns ≠ []) : splitB 44 (P9 ns) = ns.map dec :=
 a9x (by simpa using h) fun p hp => by
  obtain ⟨n, _, rfl⟩ := List.mem_map.1 hp
  exact c9y (by decide) (by decide) n
def numsOf (w : List UInt8) : Option (List Int) :=
 if 2 ≤ w.length ∧ w.getD 0 0 = 91 ∧ w.getD (w.length - 1) 0 = 93 then
  (if w.length = 2 then some [] else (rdL ((w.drop 1).take (w.length - 1 - 1))).bind fun ns => if vd ns = true then some ns else none) else none
theorem c6g (ns : List Int) : (X9 ns).length = (P9 ns).length + 2 := by simp [X9]
theorem c8d {w : List UInt8} (h : 2 ≤ w.length ∧ w.getD 0 0 = 91 ∧ w.getD (w.length - 1) 0 = 93) : w = 91 :: ((w.drop 1).take (w.length - 1 - 1) ++ [93]) := by
 obtain ⟨h1, h2, h3⟩ := h
 match w, h1 with
 | a :: r, h1 =>
  simp only [List.length_cons] at h1
  have e1 : a = 91 := h2
  subst e1
  have hr : r ≠ [] := fun e => by subst e; simp at h1
  simp only [List.length_cons, Nat.add_sub_cancel, List.drop_succ_cons, List.drop_zero]
  congr 1
  have h4 : r.getD (r.length - 1) 0 = 93 := by
   have : (91 :: r).getD (r.length) 0 = 93 := by simpa using h3
   rw [show r.length = (r.length - 1) + 1 by omega, List.getD_cons_succ] at this
   exact this
  have h5 := List.take_succ_eq_append_getElem (l := r) (i := r.length - 1) (by omega)
  rw [show r.length - 1 + 1 = r.length by omega, List.take_length] at h5
  rw [List.getD_eq_getElem?_getD, List.getElem?_eq_getElem (by omega)] at h4
  have h6 : r[r.length - 1] = 93 := h4
  rw [h6] at h5
  exact h5
theorem a4h {w : List UInt8} {ns : List Int} (h : numsOf w = some ns) : w = X9 ns ∧ vd ns = true := by
 unfold numsOf at h
 split at h
 ·rename_i hb
  have hp := c8d hb
  split at h
  ·rename_i h2
   cases h
   refine ⟨?_, by decide⟩
   rw [hp, h2]
   rfl
  ·obtain ⟨ms, h3, h4⟩ := Option.bind_eq_some_iff.1 h
   split at h4
   ·rename_i hv
    cases h4
    refine ⟨?_, hv⟩
    rw [hp, X9, P9, ← a8s h3, b3e]
   ·cases h4
 ·cases h
theorem c8v {ns : List Int} (h : vd ns = true) : ∀ n ∈ ns, -200 ≤ n ∧ n ≤ 200 := by
 intro n hn
 obtain ⟨i, hi, rfl⟩ := List.getElem_of_mem hn
 have := b2k.1 (d2v h) i hi
 rw [List.getD_eq_getElem?_getD, List.getElem?_eq_getElem hi] at this
 exact this
theorem b9w {ns : List Int} (h : vd ns = true) : numsOf (X9 ns) = some ns := by
 unfold numsOf
 have hl := c6g ns
 rw [if_pos ⟨by omega, rfl, by
  rw [hl, X9, show (P9 ns).length + 2 - 1 = (P9 ns).length + 1 by omega, List.getD_cons_succ, List.getD_eq_getElem?_getD, List.getElem?_append_right (Nat.le_refl _)]; simp⟩]
 by_cases hn : ns = []
 ·subst hn
  rfl
 ·have h2 : P9 ns ≠ [] := by
   intro e
   have := a1y hn
   rw [e] at this
   cases ns with
   | nil => exact hn rfl
   | cons n r =>
    simp only [splitB, List.map_cons, List.cons.injEq] at this
    exact c7c n this.1.symm
  have h3 : 0 < (P9 ns).length := List.length_pos_iff.2 h2
  rw [if_neg (by omega), hl]
  have e : ((X9 ns).drop 1).take ((P9 ns).length + 2 - 1 - 1) = P9 ns := by
   rw [X9, List.drop_succ_cons, List.drop_zero, show (P9 ns).length + 2 - 1 - 1 = (P9 ns).length by omega, List.take_left]
  rw [e, rdL, a1y hn, c0s fun n hn => by have := c8v h n hn; omega, Option.bind_some, if_pos h]
end Go.Mv
namespace Go.Mv
theorem U9 (c : UInt8) (l : List UInt8) : (splitB c l).length ≤ l.length + 1 := by
 induction l with
 | nil => simp [splitB]
 | cons b r ih =>
  rw [splitB]
  split
  ·simp; omega
  ·cases h : splitB c r with
   | nil => simp [W5]
   | cons p ps => rw [h] at ih; simp [W5] at ih ⊢; omega
theorem a0d (c : UInt8) (l : List UInt8) : ∀ p ∈ splitB c l, p.length ≤ l.length := by
 induction l with
 | nil => simp [splitB]
 | cons b r ih =>
  rw [splitB]
  split
  ·intro p hp
   rcases List.mem_cons.1 hp with e | e
   ·subst e; simp
   ·have := ih p e; simp; omega
  ·cases h : splitB c r with
   | nil => simp [W5]
   | cons q ps =>
    rw [h] at ih
    intro p hp
    rcases List.mem_cons.1 hp with e | e
    ·subst e; have := ih q (by simp); simp; omega
    ·have := ih p (by simp [e]); simp; omega
end Go.Mv
namespace Go.Mv
theorem b8a (p : List UInt8) : (unS p).length ≤ p.length := by
 unfold unS
 split
 ·cases p <;> simp
 ·exact Nat.le_refl _
end Go.Mv
namespace Go.Mv
def c0g (w : List UInt8) : List Int :=
 if 2 ≤ w.length ∧ w.getD 0 0 = 91 ∧ w.getD (w.length - 1) 0 = 93 then (if w.length = 2 then [] else (rdL ((w.drop 1).take (w.length - 1 - 1))).getD []) else []
theorem d1y {b c : UInt8} {k : Nat} (h : (b.toNat : Int) = k) (hc : c.toNat = k) : b = c := UInt8.toNat_inj.1 (by omega)
theorem a6e {s : List UInt8} (h : s.length < 2 ∨ (s.getD 0 0).toNat ≠ 91 ∨ (s.getD (s.length - 1) 0).toNat ≠ 93) : numsOf s = none ∧ c0g s = [] := by
 have hn : ¬(2 ≤ s.length ∧ s.getD 0 0 = 91 ∧ s.getD (s.length - 1) 0 = 93) := by
  rintro ⟨h1, h2, h3⟩
  rcases h with h | h | h
  ·omega
  ·exact h (by rw [h2]; rfl)
  ·exact h (by rw [h3]; rfl)
 exact ⟨if_neg hn, if_neg hn⟩
theorem c5c {s : List UInt8} (h1 : 2 ≤ s.length) (h2 : ((s.getD 0 0).toNat : Int) = 91) (h3 : ((s.getD (s.length - 1) 0).toNat : Int) = 93) :
  (s.length = 2 → numsOf s = some [] ∧ c0g s = []) ∧ (s.length ≠ 2 → numsOf s = ((rdL ((s.drop 1).take (s.length - 1 - 1))).bind fun ns => if vd ns = true then some ns else none) ∧ c0g s = (rdL ((s.drop 1).take (s.length - 1 - 1))).getD []) := by
 have hb : 2 ≤ s.length ∧ s.getD 0 0 = 91 ∧ s.getD (s.length - 1) 0 = 93 := ⟨h1, d1y h2 rfl, d1y h3 rfl⟩
 refine ⟨fun e => ?_, fun e => ?_⟩
 ·rw [numsOf, c0g, if_pos hb, if_pos hb, if_pos e, if_pos e]; exact ⟨rfl, rfl⟩
 ·rw [numsOf, c0g, if_pos hb, if_pos hb, if_neg e, if_neg e]; exact ⟨rfl, rfl⟩
theorem d1r {s : List UInt8} {ns : List Int} (h : numsOf s = some ns) : c0g s = ns := by
 unfold numsOf at h
 unfold c0g
 split at h
 ·rename_i hb
  rw [if_pos hb]
  split at h
  ·rename_i h2
   rw [if_pos h2]; cases h; rfl
  ·rename_i h2
   rw [if_neg h2]
   obtain ⟨ms, h3, h4⟩ := Option.bind_eq_some_iff.1 h
   split at h4
   ·cases h4; rw [h3]; rfl
   ·cases h4
 ·cases h
theorem d1i (s : List UInt8) : ((rdL s).getD []).length ≤ s.length + 1 := by
 cases h : rdL s with
 | none => exact Nat.zero_le _
 | some ns => have := b0f h; have h2 := U9 44 s; simp only [Option.getD_some]; omega
theorem b3k {s : List UInt8} {o : Option (List Int)} (h : numsOf s = (o.bind fun ns => if vd ns = true then some ns else none)) : (numsOf s).isSome = (o.isSome && vd (o.getD [])) := by
 rw [h]
 cases o with
 | none => rfl
 | some ns =>
  simp only [Option.bind_some, Option.isSome_some, Bool.true_and, Option.getD_some]
  cases hv : vd ns <;> rfl
end Go.Mv
end

section
namespace Go.Mv
open Go
inductive Pl where
 | lst (ns : List Int)
 | col (w : List UInt8)
 | un (w : List UInt8) (p : Pl)
 | bin (w : List UInt8) (p q : Pl)
 deriving Inhabited
abbrev lW : List UInt8 := [108, 105, 115, 116]
def Pl.op : Pl → List UInt8
 | .lst _ => lW
 | .col w => w
 | .un w _ => w
 | .bin w _ _ => w
def Pl.ns : Pl → List Int
 | .lst ns => ns
 | _ => []
def Pl.kids : Pl → List Pl
 | .lst _ => []
 | .col _ => []
 | .un _ p => [p]
 | .bin _ p q => [p, q]
def c0y : Pl → List AV
 | .lst _ => []
 | .col _ => []
 | .un _ p => [.agg [tV p.op, .list (p.ns.map iV), .list (c0y p)]]
 | .bin _ p q => [.agg [tV p.op, .list (p.ns.map iV), .list (c0y p)], .agg [tV q.op, .list (q.ns.map iV), .list (c0y q)]]
abbrev trV (t : Pl) : AV := .agg [tV t.op, .list (t.ns.map iV), .list (c0y t)]
abbrev trK (t : Pl) : AV := .agg [tV t.op, .list (t.ns.map iV), .list (t.kids.map trV)]
theorem c9c (t : Pl) : c0y t = t.kids.map trV := by cases t <;> rfl
theorem a4m (t : Pl) : trV t = trK t := by show AV.agg _ = AV.agg _; rw [c9c]
abbrev trZ : AV := .agg [tV [], .list [], .list []]
abbrev W8 := List UInt8
def rdP : Nat → List W8 → Option (Pl × List W8)
 | 0, _ => none
 | _ + 1, [] => none
 | n + 1, w :: ws => match numsOf w with
  | some ns => some (.lst ns, ws)
  | none =>
   if rch (bA w) = 0 then some (.col w, ws)
   else if rch (bA w) = 1 then (rdP n ws).map fun x => (.un w x.1, x.2)
   else if rch (bA w) = 2 then (rdP n ws).bind fun x => (rdP n x.2).map fun y => (.bin w x.1 y.1, y.2)
   else none
def rdT (ws : List W8) : Option (Pl × List W8) := rdP ws.length ws
theorem a2l : ∀ {n : Nat} {ws r : List W8} {t : Pl}, rdP n ws = some (t, r) → r.length < ws.length
 | 0, _, _, _, h => by cases h
 | _ + 1, [], _, _, h => by cases h
 | n + 1, w :: ws, r, t, h => by
  rw [rdP] at h
  split at h
  ·cases h; exact Nat.lt_succ_self _
  ·split at h
   ·cases h; exact Nat.lt_succ_self _
   ·split at h
    ·obtain ⟨⟨p, r1⟩, h1, h2⟩ := Option.map_eq_some_iff.1 h
     cases h2
     have := a2l h1
     simp only [List.length_cons]; omega
    ·split at h
     ·obtain ⟨⟨p, r1⟩, h1, h2⟩ := Option.bind_eq_some_iff.1 h
      obtain ⟨⟨q, r2⟩, h3, h4⟩ := Option.map_eq_some_iff.1 h2
      cases h4
      have a := a2l h1
      have b := a2l h3
      simp only [List.length_cons] at b ⊢; omega
     ·cases h
theorem b3v : ∀ {n m : Nat} {ws : List W8}, ws.length ≤ n → ws.length ≤ m → rdP n ws = rdP m ws
 | 0, 0, _, _, _ => rfl
 | 0, m + 1, [], _, _ => rfl
 | n + 1, 0, [], _, _ => rfl
 | n + 1, m + 1, [], _, _ => rfl
 | 0, _, w :: ws, h, _ => by simp at h
 | n + 1, 0, w :: ws, _, h => by simp at h
 | n + 1, m + 1, w :: ws, h1, h2 => by
  simp only [List.length_cons] at h1 h2
  have e : rdP n ws = rdP m ws := b3v (by omega) (by omega)
  rw [rdP, rdP, e]
  have e2 : ((rdP m ws).bind fun x => (rdP n x.2).map fun y => (Pl.bin w x.1 y.1, y.2)) = (rdP m ws).bind fun x => (rdP m x.2).map fun y => (Pl.bin w x.1 y.1, y.2) := by
   cases h : rdP m ws with
   | none => rfl
   | some x =>
    obtain ⟨p, r⟩ := x
    have := a2l h
    simp only [Option.bind_some]
    rw [b3v (n := n) (m := m) (ws := r) (by omega) (by omega)]
  rw [e2]
theorem b9f {w : W8} {ws : List W8} {ns : List Int} (h : numsOf w = some ns) : rdT (w :: ws) = some (.lst ns, ws) := by
 rw [rdT, List.length_cons, rdP, h]
theorem c4f {w : W8} {ws : List W8} (h : numsOf w = none) (h0 : rch (bA w) = 0) : rdT (w :: ws) = some (.col w, ws) := by
 rw [rdT, List.length_cons, rdP, h]
 exact if_pos h0
theorem c3x {w : W8} {ws : List W8} (h : numsOf w = none) (h0 : rch (bA w) < 0) : rdT (w :: ws) = none := by
 rw [rdT, List.length_cons, rdP, h]
 simp only
 rw [if_neg (by omega), if_neg (by omega), if_neg (by omega)]
theorem b7j {w : W8} {ws : List W8} (h : numsOf w = none) (h0 : rch (bA w) = 1) : rdT (w :: ws) = (rdT ws).map fun x => (.un w x.1, x.2) := by
 rw [rdT, List.length_cons, rdP, h]
 simp only
 rw [if_neg (by omega), if_pos h0]; rfl
theorem a6j {w : W8} {ws : List W8} (h : numsOf w = none) (h0 : rch (bA w) = 2) : rdT (w :: ws) = (rdT ws).bind fun x => (rdT x.2).map fun y => (.bin w x.1 y.1, y.2) := by
 rw [rdT, List.length_cons, rdP, h]
 simp only
 rw [if_neg (by omega), if_neg (by omega), if_pos h0]
 show (rdT ws).bind _ = _
 cases h : rdT ws with
 | none => rfl
 | some x =>
  obtain ⟨p, r⟩ := x
  have := a2l h
  simp only [Option.bind_some]
  rw [b3v (n := ws.length) (m := r.length) (ws := r) (by omega) (by omega)]; rfl
theorem Z7 {ws r : List W8} {t : Pl} (h : rdT ws = some (t, r)) : r.length < ws.length := a2l h
def rtR : Option (Pl × List W8) → AV
 | some (t, r) => .tup [trV t, .list (r.map tV), bV true]
 | none => .tup [trZ, .own 1 [], bV false]
theorem b5l {w : ByteArray} (h : 0 ≤ rch w) : rch w = 0 ∨ rch w = 1 ∨ rch w = 2 := by have := c7t w; omega
end Go.Mv
namespace Go.Mv
theorem a7n : ∀ {n : Nat} {ws r : List W8} {t : Pl}, rdP n ws = some (t, r) → ∀ x ∈ r, x ∈ ws
 | 0, _, _, _, h => by cases h
 | _ + 1, [], _, _, h => by cases h
 | n + 1, w :: ws, r, t, h => by
  rw [rdP] at h
  split at h
  ·cases h; exact fun x hx => List.mem_cons_of_mem _ hx
  ·split at h
   ·cases h; exact fun x hx => List.mem_cons_of_mem _ hx
   ·split at h
    ·obtain ⟨⟨p, r1⟩, h1, h2⟩ := Option.map_eq_some_iff.1 h
     cases h2
     exact fun x hx => List.mem_cons_of_mem _ (a7n h1 x hx)
    ·split at h
     ·obtain ⟨⟨p, r1⟩, h1, h2⟩ := Option.bind_eq_some_iff.1 h
      obtain ⟨⟨q, r2⟩, h3, h4⟩ := Option.map_eq_some_iff.1 h2
      cases h4
      exact fun x hx => List.mem_cons_of_mem _ (a7n h1 x (a7n h3 x hx))
     ·cases h
theorem b1f {ws r : List W8} {t : Pl} (h : rdT ws = some (t, r)) : ∀ x ∈ r, x ∈ ws := a7n h
end Go.Mv
namespace Go.Mv
def rpT (s : List UInt8) : Pl := if s.length ≤ 160 ∧ (splitB 32 s).length ≤ 16 then (match rdT (splitB 32 s) with | some (t, _) => t | none => .col []) else .col []
def rdPlan (s : List UInt8) : Option Pl := if s.length ≤ 160 ∧ (splitB 32 s).length ≤ 16 then (rdT (splitB 32 s)).bind fun x => if x.2.length = 0 then some x.1 else none else none
theorem d3g {s : List UInt8} {t : Pl} (h : rdPlan s = some t) : rpT s = t := by
 unfold rdPlan at h
 unfold rpT
 split at h
 ·rename_i hc
  rw [if_pos hc]
  obtain ⟨⟨t1, r⟩, h1, h2⟩ := Option.bind_eq_some_iff.1 h
  split at h2
  ·cases h2; rw [h1]
  ·cases h2
 ·cases h
theorem b2n {s : List UInt8} (h : 160 < s.length ∨ 16 < (splitB 32 s).length) : rdPlan s = none ∧ rpT s = .col [] := by
 have hn : ¬(s.length ≤ 160 ∧ (splitB 32 s).length ≤ 16) := by omega
 exact ⟨if_neg hn, if_neg hn⟩
theorem c5l {s : List UInt8} {ws : List W8} (hw : ws = splitB 32 s) (h : s.length ≤ 160 ∧ ws.length ≤ 16) : (rdT ws = none → rdPlan s = none ∧ rpT s = .col []) ∧ ∀ t r, rdT ws = some (t, r) → (rdPlan s).isSome = decide ((r.length : Int) = 0) ∧ rpT s = t := by
 subst hw
 refine ⟨fun hr => ?_, fun t r hr => ?_⟩
 ·rw [rdPlan, rpT, if_pos h, if_pos h, hr]; exact ⟨rfl, rfl⟩
 ·rw [rdPlan, rpT, if_pos h, if_pos h, hr]
  refine ⟨?_, rfl⟩
  rw [Option.bind_some]
  by_cases c : r.length = 0
  ·rw [if_pos c]; simp [c]
  ·rw [if_neg c, decide_eq_false (by omega)]; rfl
theorem a1m {a b : List Int} {i : Nat} (hi : i < a.length) (h : a.getD i default ≠ b.getD i default) : decide (a = b) = false := decide_eq_false fun e => h (by rw [e])
theorem a0h {a b : List Int} (h : a.length ≠ b.length) : decide (a = b) = false := decide_eq_false fun e => h (by rw [e])
theorem a1n {a b : List Int} (hl : a.length = b.length) (h : ∀ j, j < a.length → a.getD j default = b.getD j default) : decide (a = b) = true := decide_eq_true (Z1 (d := default) hl h)
end Go.Mv
end

section
namespace Go.Mv
open Go
section
variable {cx : Cx} {keep : List Nat} {ops0 : Array Oper} {r : List Oper} {A : Asr} {Q : Asr → List Log → Prop} {d : Nat} {ty : Nat} {pos : String} {aft : Array Edge}
variable {C : Caller} {m f j : Nat} {cs fs : List AV} {G : Type} {vs : G → List AV} {ws : G → Ws} {ls : List Mv.Loc}
theorem a3q {id g n : Nat} (hid : id < 100000) (t : a4j C A 3 f (j + 1) cs.tail fs vs ws ls) : a4j C A 3 f j cs (.sl id g none 0 n :: fs) (fun x => .sl id g none 0 n :: vs x) ws ls := by
 refine A6 ?_
 unfold I5
 simp only [if_true]
 rw [if_neg (by simp; omega)]
 refine C1 (A6 (G4 t ?_))
 rintro _ _ _ ⟨g, rfl, rfl, rfl⟩
 exact C1 ⟨g, rfl, by simp, by simp⟩
theorem c0w {id g s n : Nat} {es : List AV} (ho : look A (.h id) = some (.obj g 0 s es)) (hn : n = es.length) (hi : G3 es = true) {R : List AV → Ws → List Mv.Loc → Prop} (h : R (frzL es) [(.h id, .obj g 2 s (frzL es))] [.h id]) : wpW C A (freeze (.sl id g none 0 n)) R := by
 subst hn
 unfold freeze
 refine A6 (K2 ho (A6 (D8 (by simp [bxB]) ?_)))
 simp only [show ¬ ((0 : Nat) = 2) from by decide, if_false]
 refine A6 (D8 (by simp [hi]) (A6 (J0 (C1 ?_))))
 have e : (frzL es).take es.length = frzL es := by rw [← S8 es, List.take_length]
 simpa [e] using h
variable {b : Bool} {us : List AV} {w1 : Ws}
theorem J2 (hb : b = true) (t : b5a C A b fs us w1 ls) : b5a C A b (.nil :: fs) (.list [] :: us) w1 ls := by
 subst hb
 refine A6 ?_
 unfold retLf
 rw [if_pos rfl]
 refine C1 (A6 (G4 t ?_))
 rintro _ _ _ ⟨rfl, rfl, rfl⟩
 exact C1 ⟨rfl, by simp, by simp⟩
theorem a4b {α : Type} {φ : α → AV} {xs : List α} {id g s n : Nat} (hb : b = true) (ho : look A (.h id) = some (.obj g 0 s (xs.map φ))) (hn : n = (xs.map φ).length) (hi : ∀ a, L6 (φ a) = true) (t : b5a C (put A (.h id) (.obj g 2 s (xs.map φ))) b fs us w1 ls) :
  b5a C A b (.sl id g none 0 n :: fs) (.list (xs.map φ) :: us) ((.h id, .obj g 2 s (xs.map φ)) :: w1) (.h id :: ls) := by
 subst hb
 refine A6 ?_
 unfold retLf
 rw [if_pos rfl]
 have hr : G3 (xs.map φ) = true := A7 fun a => by
  have := hi a
  cases hfa : φ a <;> rw [hfa] at this <;> simp_all [L6, N8]
 refine A6 (c0w ho hn hr (C1 (A6 ?_)))
 rw [a2q hi]
 refine G4 t ?_
 rintro _ _ _ ⟨rfl, rfl, rfl⟩
 exact C1 ⟨rfl, by simp, by simp⟩
end
end Go.Mv
namespace Go.Mv
open Go
section
variable {cx : Cx} {keep : List Nat} {ops0 : Array Oper} {r : List Oper} {A : Asr} {Q : Asr → List Log → Prop} {d : Nat} {ty : Nat} {pos : String} {aft : Array Edge}
theorem c0v {T z : Nat} {a b : Operand} (hT : a2m cx.P T = true) (ha : opd A a = some .ifc) (hb : opd A b = some (.val .nilIface))
  (h : XR cx keep ops0 r ((.t d, bV true) :: A) fun A' lg => Q A' ((rds a ++ rds b, [.t d]) :: lg)) : XR cx keep ops0 (⟨some d, .binOp .neq T a b z, ty, pos, aft, none⟩ :: r) A Q :=
 K6 (fun o ho => by simp only [aopV, ho]) (by simp only [opV, D4, E4 ha, E4 hb, F3, E9, a2u, a1g, List.append_nil, List.nil_append, true_and, and_self, and_true]; exact ⟨hT, by simp [E9]⟩) (by simp [slotOk, refOkV, refsOk]) h
theorem c7u {T z : Nat} {a b : Operand} (hT : a2m cx.P T = true) (hc : a5t b = true) (ha : opd A a = some (.val .nilIface)) (hb : opd A b = some (.val .nilIface))
  (h : XR cx keep ops0 r ((.t d, bV false) :: A) fun A' lg => Q A' ((rds a ++ rds b, [.t d]) :: lg)) : XR cx keep ops0 (⟨some d, .binOp .neq T a b z, ty, pos, aft, none⟩ :: r) A Q :=
 K6 (fun o ho => by simp only [aopV, ho]) (by simp only [opV, D4, E4 ha, E4 hb, F3, E9, a2u, a1g, List.append_nil, List.nil_append, true_and, and_self, and_true, hT, hc, Bool.or_true, Bool.and_self]) (by simp [slotOk, refOkV, refsOk]) h
end
end Go.Mv
namespace Go.Mv
open Go
theorem b6c {A : Asr} {C : Caller} {fs us : List AV} {w1 : Ws} {ls : List Mv.Loc} {b : Bool} {id g s n : Nat} (hb : b = true) (ho : look A (.h id) = some (.obj g 0 s [])) (hn : n = 0) (t : b5a C (put A (.h id) (.obj g 2 s [])) b fs us w1 ls) :
  b5a C A b (.sl id g none 0 n :: fs) (.list [] :: us) ((.h id, .obj g 2 s []) :: w1) (.h id :: ls) :=
 a4b (φ := iV) (xs := []) hb ho hn (fun _ => rfl) t
end Go.Mv
end

section
namespace Go.Mv
open Go
def unT : List AV → Option (List (List UInt8))
 | [] => some []
 | .val (.string s) :: r => (unT r).map (s.data.toList :: ·)
 | _ => none
theorem d0e (ps : List (List UInt8)) : unT (ps.map tV) = some ps := by
 induction ps with
 | nil => rfl
 | cons p ps ih => simp [unT, ih]
def one? (s : ByteArray) : Option UInt8 := match s.data.toList with
 | [b] => some b
 | _ => none
theorem one?_some {s : ByteArray} {b : UInt8} (h : one? s = some b) : s = bA [b] := by
 unfold one? at h
 split at h
 ·rename_i b' hs
  cases h
  have : s = bA s.data.toList := (a8i s).symm
  rw [hs] at this
  exact this
 ·cases h
def b1v : List AV → Option (AV × List (List AV))
 | [.val (.string s), .val (.string c)] => (one? c).bind fun b => if s.size < 4294967281 then some (.own 1 ((splitB b s.data.toList).map tV), []) else none
 | _ => none
def b6e : List AV → Option (AV × List (List AV))
 | [.list es, .val (.string c)] => (one? c).bind fun b => (unT es).bind fun ps => if ps.length ≤ H7 ∧ (joinB b ps).length ≤ H7 then some (tV (joinB b ps), []) else none
 | _ => none
def a4e (b : UInt8) (l : List UInt8) : List UInt8 := if l.head? = some b then l.tail else l
def b4s (b : UInt8) (l : List UInt8) : List UInt8 := if l.getLast? = some b then l.dropLast else l
def b7n : List AV → Option (AV × List (List AV))
 | [.val (.string s), .val (.string c)] => (one? c).bind fun b => some (.tup [tV (a4e b s.data.toList), bV (decide (s.data.toList.head? = some b))], [])
 | _ => none
def b7o : List AV → Option (AV × List (List AV))
 | [.val (.string s), .val (.string c)] => (one? c).bind fun b => if s.size < 4294967281 then some (.tup [tV (b4s b s.data.toList), bV (decide (s.data.toList.getLast? = some b))], []) else none
 | _ => none
def b1t : List AV → Option (AV × List (List AV))
 | [.val (.int .i64 n)] => if -9223372036854775808 ≤ n ∧ n ≤ 9223372036854775807 then some (tV (dec n), []) else none
 | _ => none
def atR (l : List UInt8) : AV := match Lib.atoiAll l with
 | .ok v => .tup [iV v, .val .nilIface]
 | .range => .tup [iV (Lib.atoiSat l), .ifc]
 | _ => .tup [iV 0, .ifc]
def b6g : List AV → Option (AV × List (List AV))
 | [.val (.string s)] => if s.size < 4294967281 then some (atR s.data.toList, []) else none
 | _ => none
theorem b2y {c : UInt8} (hc : 48 ≤ c.toNat ∧ c.toNat ≤ 57) : ∀ (x : List UInt8) (a u : Nat), Lib.parseUint10 a x = .ok u → u ≤ 100000000 → Lib.parseUint10 a (x ++ [c]) = .ok (u * 10 + (c.toNat - 48))
 | [], a, u, h, hu => by
  simp only [Lib.parseUint10] at h
  injection h with h
  subst h
  simp only [List.nil_append, Lib.parseUint10]
  rw [if_pos hc, if_neg (by omega), if_neg (by omega)]
 | b :: r, a, u, h, hu => by
  simp only [Lib.parseUint10] at h
  simp only [List.cons_append, Lib.parseUint10]
  split at h
  ·split at h
   ·cases h
   ·split at h
    ·cases h
    ·rename_i h1 h2 h3
     rw [if_pos h1, if_neg h2, if_neg h3]
     exact b2y hc r _ u h hu
  ·cases h
theorem c6b (n : Nat) : n ≤ 1000000 → Lib.parseUint10 0 (decN n) = .ok n := by
 induction n using Nat.strongRecOn with
 | _ n ih =>
  intro hn
  rw [decN]
  split
  ·simp only [Lib.parseUint10]
   rw [u8n (by omega), if_pos (by omega), if_neg (by omega), if_neg (by omega)]
   congr 1; omega
  ·rw [b2y (by rw [u8n (by omega)]; omega) _ _ _ (ih (n / 10) (by omega) (by omega)) (by omega), u8n (by omega)]
   congr 1; omega
theorem c8o {n : Int} (h : -1000000 ≤ n ∧ n ≤ 1000000) : Lib.atoiAll (dec n) = .ok n := by
 have key : ∀ m : Nat, m ≤ 1000000 → Lib.parseMag (decN m) = .ok m := fun m hm => by rw [Lib.parseMag, if_neg (a7v m), c6b m hm]
 by_cases hn : n < 0
 ·rw [dec, if_pos hn]
  simp only [Lib.atoiAll]
  rw [if_pos (.inr (by decide)), key _ (by omega)]
  simp only
  rw [if_neg (by omega), if_neg (by omega)]
  have : (45 : UInt8).toNat = 45 := rfl
  simp only [this, if_true]
  congr 1; omega
 ·have e : dec n = decN n.toNat := by rw [dec, if_neg hn]
  rw [e]
  have hk := key n.toNat (by omega)
  cases hd : decN n.toNat with
  | nil => exact absurd hd (a7v _)
  | cons b r =>
   have hb := a8j n.toNat b (by rw [hd]; simp)
   rw [hd] at hk
   simp only [Lib.atoiAll]
   rw [if_neg (by omega), hk]
   have h45 : ¬ b.toNat = 45 := by omega
   simp only [h45, not_false_eq_true, true_and, false_and, if_false]
   rw [if_neg (by omega)]
   congr 1; omega
def rdA : List (List UInt8) → Option (List Int)
 | [] => some []
 | p :: r => match Lib.atoiAll p with
  | .ok v => (rdA r).map fun ns => v :: ns
  | _ => none
theorem c4m : ∀ {ns : List Int}, (∀ n ∈ ns, -1000000 ≤ n ∧ n ≤ 1000000) → rdA (ns.map dec) = some ns
 | [], _ => rfl
 | n :: ns, h => by rw [List.map_cons, rdA, c8o (h n (by simp)), c4m fun x hx => h x (List.mem_cons_of_mem _ hx)]; rfl
theorem c7q {ps : List (List UInt8)} {ns : List Int} {i : Nat} {v : Int} (hi : i < ps.length) (h : rdA (ps.take i) = some ns) (hv : Lib.atoiAll (ps.getD i default) = .ok v) : rdA (ps.take (i + 1)) = some (ns ++ [v]) := by
 induction ps generalizing ns i with
 | nil => simp at hi
 | cons p r ih =>
  cases i with
  | zero =>
   simp only [List.take_zero, rdA, Option.some.injEq] at h
   subst h
   have hv' : Lib.atoiAll p = .ok v := hv
   simp [rdA, hv']
  | succ i =>
   simp only [List.take_succ_cons, rdA] at h ⊢
   split at h
   ·rename_i u hu
    obtain ⟨ms, h1, rfl⟩ := Option.map_eq_some_iff.1 h
    rw [ih (by simpa using hi) h1 (by simpa using hv)]; rfl
   ·cases h
theorem b9j {ps : List (List UInt8)} {i : Nat} (hi : i < ps.length) (hv : ∀ v, Lib.atoiAll (ps.getD i default) ≠ .ok v) : rdA ps = none := by
 induction ps generalizing i with
 | nil => simp at hi
 | cons p r ih =>
  cases i with
  | zero =>
   have hv' : ∀ v, Lib.atoiAll p ≠ .ok v := hv
   rw [rdA]
   split
   ·rename_i u hu; exact absurd hu (hv' u)
   ·rfl
  | succ i =>
   rw [rdA]
   split
   ·rw [ih (by simpa using hi) (by simpa using hv)]; rfl
   ·rfl
end Go.Mv
namespace Go.Mv
open Go
def a5g (w : List UInt8) : List UInt8 := b4s 93 (a4e 91 w)
def okB (w : List UInt8) : Bool := decide (w.head? = some 91) && decide ((a4e 91 w).getLast? = some 93)
def a3c (w : List UInt8) : Option (List Int) := if okB w = true then (if a5g w = [] then some [] else rdA (splitB 44 (a5g w))) else none
def okI (w : List UInt8) : Bool := match a3c w with
 | some ns => vd ns && decide (X9 ns = w)
 | none => false
theorem c1k {w : List UInt8} {ns : List Int} (h : numsOf w = some ns) : a3c w = some ns := by
 obtain ⟨rfl, hv⟩ := a4h h
 have h1 : a4e 91 (X9 ns) = P9 ns ++ [93] := by rw [a4e, if_pos (show (X9 ns).head? = some 91 from rfl)]; rfl
 have h2 : (a4e 91 (X9 ns)).getLast? = some 93 := by rw [h1]; simp
 have h3 : a5g (X9 ns) = P9 ns := by rw [a5g, b4s, if_pos h2, h1]; simp
 have hok : okB (X9 ns) = true := by rw [okB, h2]; rfl
 rw [a3c, if_pos hok, h3]
 by_cases hn : ns = []
 ·subst hn; rfl
 ·have h4 : P9 ns ≠ [] := by
   intro e
   have := a1y hn
   rw [e] at this
   cases ns with
   | nil => exact hn rfl
   | cons n r =>
    simp only [splitB, List.map_cons, List.cons.injEq] at this
    exact c7c n this.1.symm
  rw [if_neg h4, a1y hn]
  exact c4m fun n hn => by have := c8v hv n hn; omega
theorem d3i (w : List UInt8) : okI w = (numsOf w).isSome := by
 cases h : numsOf w with
 | some ns =>
  obtain ⟨e, hv⟩ := a4h h
  rw [okI, c1k h]
  simp [hv, ← e]
 | none =>
  rw [okI]
  cases hi : a3c w with
  | none => rfl
  | some ns =>
   simp only
   cases hv : vd ns with
   | false => rfl
   | true =>
    rw [Bool.true_and]
    refine decide_eq_false fun e => ?_
    have := b9w hv
    rw [e, h] at this
    cases this
theorem c7f (w : List UInt8) : (∃ ns, numsOf w = some ns) ∨ (numsOf w = none ∧ rch (bA w) = 0) ∨ (numsOf w = none ∧ rch (bA w) = 1) ∨ (numsOf w = none ∧ rch (bA w) = 2) ∨ (numsOf w = none ∧ rch (bA w) < 0) := by
 cases h : numsOf w with
 | some ns => exact .inl ⟨ns, rfl⟩
 | none =>
  have := c7t (bA w)
  rcases Int.lt_or_le (rch (bA w)) 0 with c | c
  ·exact .inr (.inr (.inr (.inr ⟨rfl, c⟩)))
  ·rcases b5l c with c | c | c
   ·exact .inr (.inl ⟨rfl, c⟩)
   ·exact .inr (.inr (.inl ⟨rfl, c⟩))
   ·exact .inr (.inr (.inr (.inl ⟨rfl, c⟩)))
theorem d1e (w : List UInt8) : (decide (w ≠ lW) && decide (0 ≤ nd (bA w))) = decide (0 ≤ rch (bA w)) := by
 by_cases h : w = lW
 ·subst h
  rw [b9y (show (bA lW).toList = wList.toList from rfl)]
  rfl
 ·rw [decide_eq_true h, Bool.true_and, c9f _ (by rw [Y2, a3a]; exact h)]
theorem a9b {w : List UInt8} (h : 0 ≤ rch (bA w)) : nd (bA w) = rch (bA w) := by
 refine c9f _ fun e => ?_
 rw [b9y e] at h
 omega
end Go.Mv
namespace Go.Mv
theorem b4f {ns : List Int} {i : Nat} (h : i < ns.length) : (ns.take (i + 1)).map dec = (ns.take i).map dec ++ [dec (ns.getD i default)] := by
 rw [List.take_succ_eq_append_getElem h, List.map_append, List.map_singleton, List.getD_eq_getElem?_getD, List.getElem?_eq_getElem h]; rfl
theorem c8l (b : UInt8) (l : List UInt8) : (a4e b l).length ≤ l.length := by
 unfold a4e
 split
 ·cases l <;> simp
 ·exact Nat.le_refl _
theorem c8p (b : UInt8) (l : List UInt8) : (b4s b l).length ≤ l.length := by
 unfold b4s
 split
 ·simp
 ·exact Nat.le_refl _
theorem b3s : ∀ {ps : List (List UInt8)} {ns : List Int}, rdA ps = some ns → ns.length = ps.length
 | [], ns, h => by cases h; rfl
 | p :: r, ns, h => by
  rw [rdA] at h
  split at h
  ·obtain ⟨ms, h1, rfl⟩ := Option.map_eq_some_iff.1 h
   simp [b3s h1]
  ·cases h
def rlX (w : List UInt8) : List Int := (a3c w).getD []
theorem d2l {w : List UInt8} {ns : List Int} (h : numsOf w = some ns) : rlX w = ns := by rw [rlX, c1k h]; rfl
theorem b6m {w : List UInt8} (h : a3c w = none) : okI w = false ∧ rlX w = [] := by rw [okI, rlX, h]; exact ⟨rfl, rfl⟩
theorem a7h {w : List UInt8} {ns : List Int} (h : a3c w = some ns) : okI w = (vd ns && decide (X9 ns = w)) ∧ rlX w = ns := by rw [okI, rlX, h]; exact ⟨rfl, rfl⟩
theorem b8o {w : List UInt8} (h : okB w = false) : a3c w = none := by rw [a3c, h]; rfl
theorem c4z {w : List UInt8} (h : okB w = true) (h2 : a5g w = []) : a3c w = some [] := by rw [a3c, if_pos h, if_pos h2]
theorem b0y {w : List UInt8} (h : okB w = true) (h2 : a5g w ≠ []) : a3c w = rdA (splitB 44 (a5g w)) := by rw [a3c, if_pos h, if_neg h2]
theorem d3s {ns : List Int} (h : vd ns = true) : ∀ n ∈ ns, -1000000 ≤ n ∧ n ≤ 1000000 := fun n hn => by have := c8v h n hn; omega
theorem c7s {w : List UInt8} (h : okB w = true) : (a5g w).length + 2 ≤ w.length := by
 simp only [okB, Bool.and_eq_true, decide_eq_true_eq] at h
 obtain ⟨h1, h2⟩ := h
 have e1 : (a4e 91 w).length + 1 = w.length := by
  rw [a4e, if_pos h1]
  cases w with
  | nil => cases h1
  | cons b r => rfl
 have e2 : (a5g w).length + 1 = (a4e 91 w).length := by
  rw [a5g, b4s, if_pos h2]
  cases hc : a4e 91 w with
  | nil => rw [hc] at h2; cases h2
  | cons b r => simp
 omega
end Go.Mv
namespace Go.Mv
def ipT (s : List UInt8) : Pl := match rdT (splitB 32 s) with
 | some (t, _) => t
 | none => .col []
def c1z (s : List UInt8) : Bool := match rdT (splitB 32 s) with
 | some (_, r) => decide ((r.length : Int) = 0) && decide (((splitB 32 s).length : Int) ≤ 16)
 | none => false
theorem d0p {s : List UInt8} {ws : List W8} (hw : ws = splitB 32 s) (h : rdT ws = none) : ipT s = .col [] ∧ c1z s = false := by
 subst hw; rw [ipT, c1z, h]; exact ⟨rfl, rfl⟩
theorem c4p {s : List UInt8} {ws : List W8} {t : Pl} {r : List W8} (hw : ws = splitB 32 s) (h : rdT ws = some (t, r)) : ipT s = t ∧ c1z s = (decide ((r.length : Int) = 0) && decide ((ws.length : Int) ≤ 16)) := by
 subst hw; rw [ipT, c1z, h]; exact ⟨rfl, rfl⟩
theorem d4b (s : List UInt8) : (c1z s && decide ((s.length : Int) ≤ 160)) = (rdPlan s).isSome := by
 rw [c1z, rdPlan]
 by_cases h : s.length ≤ 160 ∧ (splitB 32 s).length ≤ 16
 ·rw [if_pos h, decide_eq_true (show (s.length : Int) ≤ 160 by omega), Bool.and_true]
  cases hr : rdT (splitB 32 s) with
  | none => rfl
  | some x =>
   obtain ⟨t, r⟩ := x
   simp only [Option.bind_some]
   rw [decide_eq_true (show ((splitB 32 s).length : Int) ≤ 16 by omega), Bool.and_true]
   by_cases c : r.length = 0
   ·rw [if_pos c]; simp [c]
   ·rw [if_neg c, decide_eq_false (by omega)]; rfl
 ·rw [if_neg h]
  rcases Nat.lt_or_ge 160 s.length with c | c
  ·rw [decide_eq_false (show ¬ (s.length : Int) ≤ 160 by omega), Bool.and_false]; rfl
  ·have h16 : ¬ ((splitB 32 s).length : Int) ≤ 16 := by omega
   split
   ·rw [decide_eq_false h16, Bool.and_false]; rfl
   ·rfl
theorem d2n {s : List UInt8} {t : Pl} (h : rdPlan s = some t) : ipT s = t := by
 unfold rdPlan at h
 split at h
 ·obtain ⟨⟨t1, r⟩, h1, h2⟩ := Option.bind_eq_some_iff.1 h
  split at h2
  ·cases h2; rw [ipT, h1]
  ·cases h2
 ·cases h
end Go.Mv
end

section
namespace Go.Mv
open Go
def Pl.sz : Pl → Nat
 | .lst _ => 1
 | .col _ => 1
 | .un _ p => p.sz + 1
 | .bin _ p q => p.sz + q.sz + 1
theorem b9c (t : Pl) : t.kids.length ≤ 2 := by cases t <;> simp [Pl.kids]
theorem b6l : ∀ {n : Nat} {ws r : List W8} {t : Pl}, rdP n ws = some (t, r) → t.sz + r.length ≤ ws.length
 | 0, _, _, _, h => by cases h
 | _ + 1, [], _, _, h => by cases h
 | n + 1, w :: ws, r, t, h => by
  rw [rdP] at h
  split at h
  ·cases h; simp only [Pl.sz, List.length_cons]; omega
  ·split at h
   ·cases h; simp only [Pl.sz, List.length_cons]; omega
   ·split at h
    ·obtain ⟨⟨p, r1⟩, h1, h2⟩ := Option.map_eq_some_iff.1 h
     cases h2
     have := b6l h1
     simp only [Pl.sz, List.length_cons]; omega
    ·split at h
     ·obtain ⟨⟨p, r1⟩, h1, h2⟩ := Option.bind_eq_some_iff.1 h
      obtain ⟨⟨q, r2⟩, h3, h4⟩ := Option.map_eq_some_iff.1 h2
      cases h4
      have a := b6l h1
      have b := b6l h3
      simp only [Pl.sz, List.length_cons] at b ⊢; omega
     ·cases h
theorem a8o {s : List UInt8} {t : Pl} (h : rdPlan s = some t) : t.sz ≤ 16 := by
 unfold rdPlan at h
 split at h
 ·rename_i hc
  obtain ⟨⟨t1, r⟩, h1, h2⟩ := Option.bind_eq_some_iff.1 h
  have := b6l h1
  split at h2
  ·cases h2; simp only; omega
  ·cases h2
 ·cases h
theorem b3o {s : List UInt8} (h : (rdPlan s).isSome = true) : ∃ t, rdPlan s = some t ∧ rpT s = t ∧ t.sz ≤ 16 := by
 obtain ⟨t, ht⟩ := Option.isSome_iff_exists.1 h
 exact ⟨t, ht, d3g ht, a8o ht⟩
end Go.Mv
end

section
namespace Go.Mv
open Go
def Pl.good : Pl → Prop
 | .lst ns => vd ns = true
 | .col w => w ≠ lW ∧ w.length ≤ 1048576
 | .un w p => w ≠ lW ∧ w.length ≤ 1048576 ∧ p.good
 | .bin w p q => w ≠ lW ∧ w.length ≤ 1048576 ∧ p.good ∧ q.good
theorem c6q {t : Pl} (h : t.good) (e : t.op = lW) : ∃ ns, t = .lst ns ∧ vd ns = true := by
 cases t with
 | lst ns => exact ⟨ns, rfl, h⟩
 | col w => exact absurd e h.1
 | un w p => exact absurd e h.1
 | bin w p q => exact absurd e h.1
def b2m : Pl → List W8
 | .lst ns => [X9 ns]
 | .col w => [w]
 | .un w p => b2m p ++ [w]
 | .bin w p q => (b2m p ++ b2m q) ++ [w]
theorem a5y : ∀ t : Pl, (b2m t).length = t.sz
 | .lst ns => rfl
 | .col w => rfl
 | .un w p => by simp [b2m, Pl.sz, a5y p]
 | .bin w p q => by simp [b2m, Pl.sz, a5y p, a5y q]; omega
theorem b2d {w : W8} {ws : List W8} (hb : ∀ x ∈ w :: ws, x.length ≤ 1048576) (h : 0 ≤ rch (bA w)) : w ≠ lW ∧ w.length ≤ 1048576 :=
 ⟨fun e => absurd h (by subst e; decide +kernel), hb w (List.mem_cons_self ..)⟩
theorem c5e {w : W8} {ns : List Int} (h : numsOf w = some ns) : vd ns = true := by
 unfold numsOf at h
 split at h
 ·split at h
  ·cases h; rfl
  ·obtain ⟨ms, h1, h2⟩ := Option.bind_eq_some_iff.1 h
   split at h2
   ·cases h2; assumption
   ·cases h2
 ·cases h
theorem a7e : ∀ {n : Nat} {ws r : List W8} {t : Pl}, (∀ x ∈ ws, x.length ≤ 1048576) → rdP n ws = some (t, r) → t.good
 | 0, _, _, _, _, h => by cases h
 | _ + 1, [], _, _, _, h => by cases h
 | n + 1, w :: ws, r, t, hb, h => by
  have hb1 : ∀ x ∈ ws, x.length ≤ 1048576 := fun x hx => hb x (List.mem_cons_of_mem _ hx)
  rw [rdP] at h
  split at h
  ·cases h; exact c5e (by assumption)
  ·split at h
   ·cases h; exact b2d hb (by omega)
   ·split at h
    ·obtain ⟨⟨p, r1⟩, h1, h2⟩ := Option.map_eq_some_iff.1 h
     cases h2
     have hg := b2d hb (by omega)
     exact ⟨hg.1, hg.2, a7e hb1 h1⟩
    ·split at h
     ·obtain ⟨⟨p, r1⟩, h1, h2⟩ := Option.bind_eq_some_iff.1 h
      obtain ⟨⟨q, r2⟩, h3, h4⟩ := Option.map_eq_some_iff.1 h2
      cases h4
      have hg := b2d hb (by omega)
      exact ⟨hg.1, hg.2, a7e hb1 h1, a7e (fun x hx => hb1 x (a7n h1 x hx)) h3⟩
     ·cases h
theorem b8f {s : List UInt8} (hs : s.length ≤ 1048576) {t : Pl} (h : rdPlan s = some t) : t.good := by
 unfold rdPlan at h
 split at h
 ·obtain ⟨⟨t1, r⟩, h1, h2⟩ := Option.bind_eq_some_iff.1 h
  split at h2
  ·cases h2; exact a7e (fun x hx => by have := a0d 32 s x hx; omega) h1
  ·cases h2
 ·cases h
def d2c (s : List UInt8) : List W8 := match rdPlan s with
 | some t => b2m t
 | none => []
def mT (k : Int) : W8 := 109 :: (if k ≤ 0 then [48] else decN k.toNat)
def mkT (k : Int) (n : Nat) : List W8 := (List.range n).map fun (j : Nat) => mT (k + j)
@[simp] theorem mkT_length (k : Int) (n : Nat) : (mkT k n).length = n := by simp [mkT]
end Go.Mv
end

section
namespace Go.Mv
open Go
abbrev c6z : W8 := [114, 101, 118]
abbrev d0f : W8 := [110, 101, 103]
abbrev d0g : W8 := [97, 98, 115]
abbrev c7x : W8 := [100, 105, 102, 102]
abbrev c7r : W8 := [115, 117, 109, 115]
abbrev lSort : W8 := [115, 111, 114, 116]
abbrev d2o : W8 := [116, 111, 116, 97, 108]
def d4d : List (W8 × Bool × Bool) :=
 [(c6z ++ 32 :: c6z, true, true), (d0f ++ 32 :: d0f, true, true), (c7x ++ 32 :: c7r, true, true), (c7r ++ 32 :: c7x, true, true), (lSort ++ 32 :: lSort, true, false), (d0g ++ 32 :: d0g, true, false),
  (lSort ++ 32 :: c6z, false, true), (d0g ++ 32 :: d0f, false, true), (d2o ++ 32 :: lSort, false, true), (d2o ++ 32 :: c6z, false, true)]
def a9a : Pl → List W8
 | .lst ns => [X9 ns]
 | .col w => [w]
 | .un w p => w :: a9a p
 | .bin w p q => w :: (a9a p ++ a9a q)
def Pl.wf : Pl → Prop
 | .lst _ => True
 | .col w => rch (bA w) = 0
 | .un w p => rch (bA w) = 1 ∧ p.wf
 | .bin w p q => rch (bA w) = 2 ∧ p.wf ∧ q.wf
def opsL : List (W8 × Int) := [(lSort, 1), (c6z, 1), (d0f, 1), (d0g, 1), (c7x, 1), (c7r, 1), ([114, 97, 110, 107, 115], 1), (d2o, 1), ([97, 100, 100], 2), ([106, 111, 105, 110], 2), ([97], 0), ([98], 0), ([99], 0), ([100], 0)]
theorem d0u {w : W8} (h : 0 ≤ rch (bA w)) : (w, rch (bA w)) ∈ opsL := by
 by_cases e : w ∈ opsL.map (·.1)
 ·have key : ∀ x ∈ opsL.map (·.1), (x, rch (bA x)) ∈ opsL := by decide +kernel
  exact key w e
 ·exfalso
  simp [opsL] at e
  unfold rch at h
  simp only [a3a] at h
  simp_all [bA]
theorem a5v : ∀ {n : Nat} {ws r : List W8} {t : Pl}, rdP n ws = some (t, r) → ws = a9a t ++ r ∧ t.wf
 | 0, _, _, _, h => by cases h
 | _ + 1, [], _, _, h => by cases h
 | n + 1, w :: ws, r, t, h => by
  rw [rdP] at h
  split at h
  ·cases h
   rename_i ns hn
   exact ⟨by rw [(a4h hn).1]; rfl, trivial⟩
  ·split at h
   ·cases h; exact ⟨rfl, by assumption⟩
   ·split at h
    ·obtain ⟨⟨p, r1⟩, h1, h2⟩ := Option.map_eq_some_iff.1 h
     cases h2
     obtain ⟨e1, e2⟩ := a5v h1
     exact ⟨by rw [e1]; rfl, by assumption, e2⟩
    ·split at h
     ·obtain ⟨⟨p, r1⟩, h1, h2⟩ := Option.bind_eq_some_iff.1 h
      obtain ⟨⟨q, r2⟩, h3, h4⟩ := Option.map_eq_some_iff.1 h2
      cases h4
      obtain ⟨e1, e2⟩ := a5v h1
      obtain ⟨e3, e4⟩ := a5v h3
      simp only at e3
      exact ⟨by rw [e1, e3]; simp [a9a], by assumption, e2, e4⟩
     ·cases h
def d2d (t : Pl) : W8 := joinB 32 (a9a t)
end Go.Mv
end

section
namespace Go.Mv
open Go
theorem d1n {t : Pl} (h : t.good) : t.op.length ≤ 1048576 := by
 cases t with
 | lst ns => show 4 ≤ 1048576; decide
 | col w => exact h.2
 | un w p => exact h.2.1
 | bin w p q => exact h.2.1
abbrev Pl.k0 (t : Pl) : Pl := t.kids.getD 0 default
end Go.Mv
end

section
namespace Go.Mv
open Go
section
variable {cx : Cx} {keep : List Nat} {ops0 : Array Oper} {r : List Oper} {A : Asr} {Q : Asr → List Log → Prop} {d : Nat} {ty : Nat} {pos : String} {aft : Array Edge}
variable {C : Caller} {m f j : Nat} {cs fs : List AV} {G : Type} {vs : G → List AV} {ws : G → Ws} {ls : List Mv.Loc}
theorem b5p {α : Type} {φ : α → AV} {xs : List α} (hi : ∀ a, L6 (φ a) = true) : G3 (xs.map φ) = true := A7 fun a => by
 have := hi a
 cases hfa : φ a <;> rw [hfa] at this <;> simp_all [L6, N8]
theorem d2k {α : Type} {φ : α → AV} {xs : List α} {id g s n : Nat} (ho : look A (.h id) = some (.obj g 0 s (xs.map φ))) (hn : n = (xs.map φ).length) (hi : ∀ a, L6 (φ a) = true)
  (t : a4j C (put A (.h id) (.obj g 2 s (xs.map φ))) 2 f (j + 1) cs.tail fs vs ws ls) :
  a4j C A 2 f j cs (.sl id g none 0 n :: fs) (fun y => .list (xs.map φ) :: vs y) (fun y => (.h id, .obj g 2 s (xs.map φ)) :: ws y) (.h id :: ls) := by
 refine A6 ?_
 unfold I5
 simp only [show ¬ ((2 : Nat) = 3) from by decide, if_false]
 rw [if_neg (by simp)]
 refine A6 (c0w ho hn (b5p hi) (C1 (A6 ?_)))
 rw [a2q hi]
 refine G4 t ?_
 rintro _ _ _ ⟨g, rfl, rfl, rfl⟩
 exact C1 ⟨g, rfl, by simp, by simp⟩
theorem a0i {v : AV} (h : Q5 .undef v = true) (t : a4j C A 2 f (j + 1) cs.tail fs vs ws ls) : a4j C A 2 f j cs (v :: fs) (fun y => v :: vs y) ws ls := by
 refine A6 ?_
 have e : wpW C A (I5 2 (cs.headD .undef) (fid f j) v) fun a w l => a = v ∧ w = [] ∧ l = [] := by
  unfold I5
  cases v with
  | val v => exact A6 (D8 h (C1 ⟨rfl, rfl, rfl⟩))
  | clo k caps =>
   refine A6 (D8 h (C1 ?_))
   exact ⟨rfl, rfl, rfl⟩
  | list es => exact C1 ⟨rfl, rfl, rfl⟩
  | _ => simp [Q5, K0] at h
 refine G4 e ?_
 rintro _ _ _ ⟨rfl, rfl, rfl⟩
 refine A6 (G4 t ?_)
 rintro _ _ _ ⟨g, rfl, rfl, rfl⟩
 exact C1 ⟨g, rfl, by simp, by simp⟩
theorem b6q (t : a4j C A 2 f (j + 1) cs.tail fs vs ws ls) : a4j C A 2 f j cs (.nil :: fs) (fun y => .list [] :: vs y) ws ls := by
 refine A6 ?_
 have e : wpW C A (I5 2 (cs.headD .undef) (fid f j) .nil) fun a w l => a = .list [] ∧ w = [] ∧ l = [] := by
  unfold I5
  cases cs.headD .undef <;> exact C1 ⟨rfl, rfl, rfl⟩
 refine G4 e ?_
 rintro _ _ _ ⟨rfl, rfl, rfl⟩
 refine A6 (G4 t ?_)
 rintro _ _ _ ⟨g, rfl, rfl, rfl⟩
 exact C1 ⟨g, rfl, by simp, by simp⟩
theorem L7 {T E s mk : Nat} {x : Operand} {z : AV} (hx : opd A x = some (.agg fs)) (hT : R5 cx.P T = some (E, s)) (hz : a1d cx.P E = some (z, s)) (hs : s ≤ 16777216 ∧ 0 < s) (hfl : fs.length = s) (hmk : (if cx.fzB T d = true then 2 else 0) = mk)
  (hl : a4j (CW cx) A mk 0 0 (List.replicate s .nil) fs vs ws ls)
  (hk : ∀ y g', tRefsOk keep (keptWs keep (ws y ++ [(.h (tid d 0), .obj g' 0 s [.agg (vs y)]), (.t d, .sl (tid d 0) g' none 0 1)])) = true)
  (h : ∀ y g', XR cx keep ops0 r (K5 A (ws y ++ [(.h (tid d 0), .obj g' 0 s [.agg (vs y)]), (.t d, .sl (tid d 0) g' none 0 1)])) fun A' lg => Q A' ((rds x ++ (ls ++ [.h (tid d 0)]), O9 (ws y ++ [(.h (tid d 0), .obj g' 0 s [.agg (vs y)]), (.t d, .sl (tid d 0) g' none 0 1)])) :: lg)) :
  XR cx keep ops0 (⟨some d, .buildSlice T 1 #[(0, x)], ty, pos, aft, none⟩ :: r) A Q := by
 obtain ⟨h1, h2, h3, h4⟩ := V1 hz
 have e : ∀ (p : G × Nat), (ws p.1 ++ [(Mv.Loc.h (tid d 0), AV.obj p.2 0 s [.agg (vs p.1)])]) ++ [(Mv.Loc.t d, AV.sl (tid d 0) p.2 none 0 1)] = ws p.1 ++ [(.h (tid d 0), .obj p.2 0 s [.agg (vs p.1)]), (.t d, .sl (tid d 0) p.2 none 0 1)] := fun p => by simp
 refine c5a (v := fun p : G × Nat => .sl (tid d 0) p.2 none 0 1) (ws := fun p => ws p.1 ++ [(.h (tid d 0), .obj p.2 0 s [.agg (vs p.1)])]) (ls := rds x ++ (ls ++ [.h (tid d 0)])) rfl ?_ (fun p => ?_) (fun p => ?_) (fun p => ?_)
  (A1 := fun p => K5 A (ws p.1 ++ [(.h (tid d 0), .obj p.2 0 s [.agg (vs p.1)]), (.t d, .sl (tid d 0) p.2 none 0 1)]))
 ·simp only [aopV, dstOf]
  refine A6 (I3 (show wpA (CW cx) A (.ret d) _ from ?_))
  show wpW (CW cx) (puts A []) _ _
  refine A6 (U8 hT (A6 (D8 ⟨by rw [h2]; omega, h3, h4, by rw [h2]; exact hs.2⟩ ?_)))
  simp only [h1, h2, hmk]
  refine A6 ?_
  simp only [Z3]
  refine A6 (J7 hx (A6 (D8 (by simp [leaves, hfl]) ?_)))
  refine A6 ?_
  simp only [absorb]
  refine A6 (G4 hl ?_)
  rintro _ _ _ ⟨y, rfl, rfl, rfl⟩
  refine C1 (C1 ?_)
  refine A6 (K9 fun o => A6 (J0 (C1 ?_)))
  exact ⟨(y, H2 o + 1), rfl, by simp, by simp⟩
 ·rw [show setD (⟨some d, .buildSlice T 1 #[(0, x)], ty, pos, aft, none⟩ : Oper) (AV.sl (tid d 0) p.2 none 0 1) = [(.t d, .sl (tid d 0) p.2 none 0 1)] from rfl, e]; exact hk p.1 p.2
 ·rw [show setD (⟨some d, .buildSlice T 1 #[(0, x)], ty, pos, aft, none⟩ : Oper) (AV.sl (tid d 0) p.2 none 0 1) = [(.t d, .sl (tid d 0) p.2 none 0 1)] from rfl, e]; exact a8g A _
 ·rw [show setD (⟨some d, .buildSlice T 1 #[(0, x)], ty, pos, aft, none⟩ : Oper) (AV.sl (tid d 0) p.2 none 0 1) = [(.t d, .sl (tid d 0) p.2 none 0 1)] from rfl, e]; exact h p.1 p.2
theorem O7 {T E id g i j id2 g2 i2 j2 : Nat} {x y : Operand} {z : AV} (hx : opd A x = some (.ptr id g none i j)) (hy : opd A y = some (.ptr id2 g2 none i2 j2))
  (hT : R5 cx.P T = some (E, 1)) (hz : a1d cx.P E = some (z, 1))
  (hko : ∀ g', slotOk keep (.h (tid d 0)) (.obj g' 0 1 [.ptr id g none i j, .ptr id2 g2 none i2 j2]) = true) (hk : ∀ g', slotOk keep (.t d) (.sl (tid d 0) g' none 0 2) = true)
  (h : ∀ g', XR cx keep ops0 r ((.t d, .sl (tid d 0) g' none 0 2) :: (.h (tid d 0), .obj g' 0 1 [.ptr id g none i j, .ptr id2 g2 none i2 j2]) :: A) fun A' lg => Q A' ((rds x ++ (rds y ++ [.h (tid d 0)]), [.h (tid d 0), .t d]) :: lg))
  (hfz : cx.fzB T d = false := by rfl) :
  XR cx keep ops0 (⟨some d, .buildSlice T 2 #[(0, x), (1, y)], ty, pos, aft, none⟩ :: r) A Q := by
 obtain ⟨h1, h2, h3, h4⟩ := V1 hz
 refine a3e (v := fun g' => .sl (tid d 0) g' none 0 2) (ws := fun g' => [(.h (tid d 0), .obj g' 0 1 [.ptr id g none i j, .ptr id2 g2 none i2 j2])]) (ls := rds x ++ (rds y ++ [.h (tid d 0)])) rfl ?_
  (fun g => B4 (hko g) (G7 (hk g))) (fun g => rfl) (fun g => a4a _ _ _ _ _) h
 simp only [aopV, dstOf]
 refine A6 (I3 (show wpA (CW cx) A (.ret d) _ from ?_))
 show wpW (CW cx) (puts A []) _ _
 refine A6 (U8 hT (A6 (D8 ⟨by rw [h2]; decide, h3, h4, by rw [h2]; decide⟩ ?_)))
 simp only [h1, h2, hfz, Bool.false_eq_true, if_false]
 refine A6 ?_
 simp only [Z3]
 refine A6 (J7 hx (A6 (D8 (by simp [leaves]) (A6 ?_))))
 simp only [absorb, List.replicate, List.headD]
 unfold I5
 refine A6 (D8 rfl (C1 ?_))
 refine A6 (J7 hy (A6 (D8 (by simp [leaves]) (A6 ?_))))
 refine A6 (D8 rfl (C1 (C1 ?_)))
 refine A6 (K9 fun o => A6 (J0 (C1 ?_)))
 exact ⟨H2 o + 1, rfl, by simp, by simp⟩
def a1e (C : Caller) (A : Asr) (fs fs' : List AV) (lf : List Mv.Loc) : Prop := wpA C A (passLeaves fs) fun a l => a = fs' ∧ l = lf
variable {fs' : List AV} {lf : List Mv.Loc}
theorem a4w : a1e C A [] [] [] := ⟨rfl, rfl⟩
theorem N7 {v : Value} (t : a1e C A fs fs' lf) : a1e C A (.val v :: fs) (.val v :: fs') lf := by
 unfold a1e at t ⊢
 simp only [passLeaves, passLeaf, D4, E9]
 refine N2 ?_ t
 rintro x l ⟨rfl, rfl⟩
 exact ⟨rfl, by simp⟩
theorem d3w {id g m s n : Nat} {es : List AV} (ho : look A (.h id) = some (.obj g m s es)) (hb : bxB m none = false) (hn : n = es.length) (hr : G3 es = true) (t : a1e C A fs fs' lf) : a1e C A (.sl id g none 0 n :: fs) (.list (frzL es) :: fs') (.h id :: lf) := by
 subst hn
 unfold a1e at t ⊢
 simp only [passLeaves, passLeaf, slc, D4, rdNode, N4 ho, F3, E9, true_and, hb, Nat.zero_add, Nat.le_refl, and_self, List.drop_zero, List.take_length, hr, List.append_nil, List.nil_append]
 refine N2 ?_ t
 rintro x l ⟨rfl, rfl⟩
 exact ⟨rfl, by simp⟩
theorem a5n {α : Type} {φ : α → AV} {xs : List α} {id g m s n : Nat} (ho : look A (.h id) = some (.obj g m s (xs.map φ))) (hb : bxB m none = false) (hn : n = (xs.map φ).length) (hi : ∀ a, L6 (φ a) = true) (t : a1e C A fs fs' lf) : a1e C A (.sl id g none 0 n :: fs) (.list (xs.map φ) :: fs') (.h id :: lf) := by
 have := d3w ho hb hn (b5p hi) t
 rwa [a2q hi] at this
theorem a1t {id g m s j : Nat} {vs as : List AV} {ids : List (Nat × Bool)} (ho : look A (.h id) = some (.obj g m s [.agg fs])) (hf : a1e C A fs fs' lf) (h : R6 C A vs as ids ls) :
  R6 C A (.ptr id g none 0 j :: vs) (.ipt (.agg fs') j :: as) ((id, false) :: (slIds false fs ++ ids)) (.h id :: (lf ++ ls)) := by
 unfold R6 at h ⊢
 unfold a1e at hf
 simp only [passCaps, passCap, D4, rdNode, N4 ho, F3, E9, List.getElem?_cons_zero, true_and]
 refine N2 ?_ hf
 rintro x l ⟨rfl, rfl⟩
 refine N2 ?_ h
 rintro y k ⟨rfl, rfl⟩
 simp
theorem b7v {md : Nat} (h : md ≠ 0 ∧ md ≠ 3) : L5 C A md .nil .nil [] [] [] := by
 unfold L5 a2x
 rw [if_neg (by omega)]
 exact C1 ⟨rfl, rfl, rfl⟩
theorem a7s {cur v : AV} (h : Q5 .undef v = true) {R : AV → Ws → List Mv.Loc → Prop} (hr : R v [] []) : wpW C A (I5 m cur f v) R := by
 unfold I5
 cases v with
 | val v => exact A6 (D8 h (C1 hr))
 | clo k caps =>
  refine A6 (D8 h (C1 ?_))
  simpa using hr
 | list es => exact C1 hr
 | _ => simp [Q5, K0] at h
theorem b2w : ∀ (vs cs : List AV) (j : Nat) {A : Asr}, (vs.all fun v => Q5 .undef v) = true → ∀ {R : List AV → Ws → List Mv.Loc → Prop}, R vs [] [] → wpW C A (absorbLeaves m f j cs vs) R := by
 intro vs
 induction vs with
 | nil => intro cs j A _ R hr; exact C1 hr
 | cons v vs ih =>
  intro cs j A h R hr
  simp only [List.all_cons, Bool.and_eq_true] at h
  refine A6 (a7s h.1 (A6 (ih cs.tail (j + 1) h.2 (C1 ?_))))
  simpa using hr
theorem c7j {v : AV} (h : ((leaves v).all fun v => Q5 .undef v) = true) {R : AV → Ws → List Mv.Loc → Prop} (hr : R v [] []) : wpW C A (absorb m f j cs v) R := by
 by_cases he : ∃ fs, v = .agg fs
 ·obtain ⟨fs, rfl⟩ := he
  refine A6 (b2w fs cs j h (C1 ?_))
  simpa using hr
 ·have h1 : ∀ fs, v ≠ .agg fs := fun fs e => he ⟨fs, e⟩
  have e1 : absorb m f j cs v = I5 m (cs.headD .undef) (fid f j) v := by
   unfold absorb
   split
   ·exact (h1 _ rfl).elim
   ·rfl
  have e2 : leaves v = [v] := by
   unfold leaves
   split
   ·exact (h1 _ rfl).elim
   ·rfl
  rw [e2] at h
  simp only [List.all_cons, List.all_nil, Bool.and_true] at h
  rw [e1]
  exact a7s h hr
def fillI (A : Asr) (s : Nat) (es : List AV) : List (Nat × Operand) → Option (List AV)
 | [] => some es
 | (i, x) :: r => match opd A x with
  | some v => if (leaves v).length = s ∧ i < es.length ∧ ((leaves v).all fun v => Q5 .undef v) = true then fillI A s (es.set i v) r else none
  | none => none
theorem c6v {mk s : Nat} : ∀ (ps : List (Nat × Operand)) (es : List AV) {es' : List AV}, fillI A s es ps = some es' → ∀ {R : List AV → Ws → List Mv.Loc → Prop}, R es' [] (a2o (ps.map (·.2))) → wpW C A (Z3 mk s es ps) R := by
 intro ps
 induction ps with
 | nil => intro es es' h R hr; simp only [fillI, Option.some.injEq] at h; subst h; exact C1 hr
 | cons p ps ih =>
  intro es es' h R hr
  obtain ⟨i, x⟩ := p
  simp only [fillI] at h
  split at h
  ·rename_i v hv
   split at h
   ·rename_i hc
    refine A6 (J7 hv (A6 (D8 ⟨hc.1, hc.2.1⟩ (A6 (c7j hc.2.2 ?_)))))
    refine G4 (ih _ h (R := fun a w l => a = es' ∧ w = [] ∧ l = a2o (ps.map (·.2))) ⟨rfl, rfl, rfl⟩) ?_
    rintro _ _ _ ⟨rfl, rfl, rfl⟩
    simpa [a2o] using hr
   ·cases h
  ·cases h
theorem a2h {T n E s : Nat} {ps : Array (Nat × Operand)} {z : AV} {es : List AV} (hT : R5 cx.P T = some (E, s)) (hz : a1d cx.P E = some (z, s)) (hn : n * s ≤ 16777216 ∧ 0 < s) (hf : fillI A s (List.replicate n z) ps.toList = some es) (hl : es.length = n)
  (hko : ∀ g, slotOk keep (.h (tid d 0)) (.obj g 0 s es) = true) (hk : ∀ g, slotOk keep (.t d) (.sl (tid d 0) g none 0 n) = true)
  (h : ∀ g, XR cx keep ops0 r ((.t d, .sl (tid d 0) g none 0 n) :: (.h (tid d 0), .obj g 0 s es) :: A) fun A' lg => Q A' ((a2o (ps.toList.map (·.2)) ++ [.h (tid d 0)], [.h (tid d 0), .t d]) :: lg)) :
  XR cx keep ops0 (⟨some d, .buildSlice T n ps, ty, pos, aft, none⟩ :: r) A Q := by
 obtain ⟨h1, h2, h3, h4⟩ := V1 hz
 refine a3e (v := fun g => .sl (tid d 0) g none 0 n) (ws := fun g => [(.h (tid d 0), .obj g 0 s es)]) (ls := a2o (ps.toList.map (·.2)) ++ [.h (tid d 0)]) rfl ?_ (fun g => B4 (hko g) (G7 (hk g))) (fun g => rfl) (fun g => a4a _ _ _ _ _) h
 simp only [aopV, dstOf]
 refine A6 (I3 (show wpA (CW cx) A (.ret d) _ from ?_))
 show wpW (CW cx) (puts A []) _ _
 refine A6 (U8 hT (A6 (D8 ⟨by rw [h2]; exact hn.1, h3, h4, by rw [h2]; exact hn.2⟩ ?_)))
 simp only [h1, h2]
 refine A6 (c6v ps.toList _ hf (A6 (K9 fun o => A6 (J0 (C1 ?_)))))
 exact ⟨H2 o + 1, rfl, by simp, by simp⟩
end
end Go.Mv
end

section
namespace Go.Mv
open Go
theorem d3c : ∀ x ∈ opsL, (32 : UInt8) ∉ x.1 ∧ (x.1.getD 0 0).toNat ≠ 91 ∧ x.1 ≠ lW ∧ x.1.length ≤ 5 ∧ x.1 ≠ [] := by decide +kernel
theorem c7i {w : W8} (h : 0 ≤ rch (bA w)) : (32 : UInt8) ∉ w ∧ numsOf w = none ∧ w ≠ lW ∧ w.length ≤ 5 ∧ w ≠ [] := by
 obtain ⟨a, b, c, d, e⟩ := d3c _ (d0u h)
 exact ⟨a, (a6e (.inr (.inl b))).1, c, d, e⟩
theorem a3x {s : W8} {t : Pl} (h : rdPlan s = some t) : s = d2d t ∧ t.wf ∧ t.good ∧ s.length ≤ 160 ∧ t.sz ≤ 16 := by
 have hz := a8o h
 have hl : s.length ≤ 160 := by
  unfold rdPlan at h
  split at h
  ·rename_i hc; exact hc.1
  ·cases h
 have hg := b8f (by omega) h
 unfold rdPlan at h
 split at h
 ·obtain ⟨⟨t1, r⟩, h1, h2⟩ := Option.bind_eq_some_iff.1 h
  split at h2
  ·rename_i hr
   cases h2
   obtain ⟨e1, e2⟩ := a5v h1
   obtain rfl : r = [] := List.length_eq_zero_iff.1 hr
   rw [List.append_nil] at e1
   exact ⟨by rw [d2d, ← e1, b3e], e2, hg, hl, hz⟩
  ·cases h2
 ·cases h
end Go.Mv
end

section
namespace Go.Mv
open Go
deriving instance DecidableEq for Stp
def stIx (s : Stp) : List Stp → Nat
 | [] => 0
 | x :: r => if x = s then 0 else stIx s r + 1
theorem b1g (s : Stp) : ∀ l : List Stp, stIx s l ≤ l.length
 | [] => Nat.le_refl _
 | x :: r => by have := b1g s r; rw [stIx]; split <;> simp <;> omega
theorem c4r {s : Stp} : ∀ {l : List Stp}, stIx s l < l.length → l.getD (stIx s l) default = s
 | [], h => by simp at h
 | x :: r, h => by
  rw [stIx] at h ⊢
  by_cases e : x = s
  ·rw [if_pos e]; simpa using e
  ·rw [if_neg e] at h ⊢
   rw [List.getD_cons_succ]; exact c4r (by simpa using h)
theorem c4j {s : Stp} : ∀ {l : List Stp} {i : Nat}, i < l.length → l.getD i default = s → (∀ j, j < i → l.getD j default ≠ s) → stIx s l = i
 | [], i, h, _, _ => by simp at h
 | x :: r, 0, _, h1, _ => by rw [stIx, if_pos (by simpa using h1)]
 | x :: r, i + 1, h, h1, h2 => by
  rw [stIx, if_neg (by simpa using h2 0 (by omega)), c4j (l := r) (i := i) (by simpa using h) (by simpa using h1) fun j hj => by have := h2 (j + 1) (by omega); simpa using this]
theorem c5h {s : Stp} {l : List Stp} (h : ∀ j, j < l.length → l.getD j default ≠ s) : stIx s l = l.length := by
 rcases Nat.lt_or_ge (stIx s l) l.length with c | c
 ·exact absurd (c4r c) (h _ c)
 ·have := b1g s l; omega
def stAdd (s : Stp) (l : List Stp) : List Stp := if stIx s l < l.length then l else l ++ [s]
theorem a5u (s : Stp) (l : List Stp) : l.length ≤ (stAdd s l).length ∧ (stAdd s l).length ≤ l.length + 1 ∧ stIx s l < (stAdd s l).length := by
 have := b1g s l
 unfold stAdd; split <;> simp <;> omega
def I8 (t : Pl) (a b : Int) : Stp := ⟨bA t.op, a, b, t.ns⟩
def shareP : Pl → List Stp → List Stp × Nat
 | .lst ns, l => (stAdd (I8 (.lst ns) (-1) (-1)) l, stIx (I8 (.lst ns) (-1) (-1)) l)
 | .col w, l => (stAdd (I8 (.col w) (-1) (-1)) l, stIx (I8 (.col w) (-1) (-1)) l)
 | .un w p, l =>
  let x := shareP p l
  (stAdd (I8 (.un w p) x.2 (-1)) x.1, stIx (I8 (.un w p) x.2 (-1)) x.1)
 | .bin w p q, l =>
  let x := shareP p l
  let y := shareP q x.1
  (stAdd (I8 (.bin w p q) x.2 y.2) y.1, stIx (I8 (.bin w p q) x.2 y.2) y.1)
theorem M1 : ∀ (t : Pl) (l : List Stp), l.length ≤ (shareP t l).1.length ∧ (shareP t l).1.length ≤ l.length + t.sz ∧ (shareP t l).2 < (shareP t l).1.length
 | .lst ns, l => a5u _ l
 | .col w, l => a5u _ l
 | .un w p, l => by
  have h1 := M1 p l
  have h2 := a5u (I8 (.un w p) (shareP p l).2 (-1)) (shareP p l).1
  simp only [shareP, Pl.sz]; omega
 | .bin w p q, l => by
  have h1 := M1 p l
  have h2 := M1 q (shareP p l).1
  have h3 := a5u (I8 (.bin w p q) (shareP p l).2 (shareP q (shareP p l).1).2) (shareP q (shareP p l).1).1
  simp only [shareP, Pl.sz]; omega
end Go.Mv
namespace Go.Mv
open Go
def gN : Nat → Int
 | 0 => 20
 | d + 1 => 2 * gN d + 20
def lN : Nat → Nat
 | 0 => 60
 | d + 1 => 2 * lN d + 60
theorem b6x : ∀ d, 20 ≤ gN d
 | 0 => by simp [gN]
 | d + 1 => by have := b6x d; simp only [gN]; omega
theorem c2k : ∀ d, 60 ≤ lN d
 | 0 => by simp [lN]
 | d + 1 => by have := c2k d; simp only [lN]; omega
theorem d1j : ∀ {d : Nat}, d ≤ 5 → gN d ≤ 2000
 | 0, _ => by simp [gN] | 1, _ => by simp [gN] | 2, _ => by simp [gN] | 3, _ => by simp [gN] | 4, _ => by simp [gN] | 5, _ => by simp [gN]
 | d + 6, h => by omega
theorem c4l : ∀ {d : Nat}, d ≤ 5 → lN d ≤ 4000
 | 0, _ => by simp [lN] | 1, _ => by simp [lN] | 2, _ => by simp [lN] | 3, _ => by simp [lN] | 4, _ => by simp [lN] | 5, _ => by simp [lN]
 | d + 6, h => by omega
end Go.Mv
end

section
namespace Go.Mv
open Go
def d2p : List (ByteArray × Value) := d4d.map fun e => (bA e.1, .agg #[.bool e.2.1, .bool e.2.2])
end Go.Mv
namespace Go.Mv
end Go.Mv
namespace Go.Mv
end Go.Mv
end

section
namespace Go.Mv
open Go
def sharesT (s : W8) : List Stp := match rdPlan s with
 | some t => (shareP t []).1
 | none => []
theorem a7z {s : W8} {t : Pl} (h : rdPlan s = some t) : sharesT s = (shareP t []).1 := by rw [sharesT, h]
theorem a7u {s : W8} (h : (rdPlan s).isSome = false) : sharesT s = [] := by
 rw [sharesT]
 cases e : rdPlan s with
 | none => rfl
 | some t => rw [e] at h; cases h
theorem b9g (s : W8) : (sharesT s).length ≤ (d2c s).length ∧ (sharesT s).length ≤ 16 := by
 rw [sharesT, d2c]
 cases e : rdPlan s with
 | none => exact ⟨Nat.zero_le _, Nat.zero_le _⟩
 | some t =>
  have h1 := M1 t []
  have h2 := a8o e
  simp only [a5y, List.length_nil] at h1 ⊢
  omega
def stG (s : Stp) : Prop := s.op.size ≤ 1048576 ∧ vd s.ns = true
theorem W3 {R : Stp → Prop} {s : Stp} {l : List Stp} (hs : R s) (hl : ∀ x ∈ l, R x) : ∀ x ∈ stAdd s l, R x := by
 intro x hx
 unfold stAdd at hx
 split at hx
 ·exact hl x hx
 ·rcases List.mem_append.1 hx with h | h
  ·exact hl x h
  ·rw [List.mem_singleton.1 h]; exact hs
theorem a0w {t : Pl} (h : t.good) : vd t.ns = true := by
 cases t with
 | lst ns => exact h
 | _ => rfl
theorem b7s {t : Pl} (h : t.good) (a b : Int) : stG (I8 t a b) := ⟨by show t.op.length ≤ _; exact d1n h, a0w h⟩
theorem Q4 : ∀ (t : Pl) (l : List Stp), t.good → (∀ x ∈ l, stG x) → ∀ x ∈ (shareP t l).1, stG x
 | .lst ns, l, hg, hl => W3 (b7s hg _ _) hl
 | .col w, l, hg, hl => W3 (b7s hg _ _) hl
 | .un w p, l, hg, hl => W3 (b7s hg _ _) (Q4 p l hg.2.2 hl)
 | .bin w p q, l, hg, hl => W3 (b7s hg _ _) (Q4 q _ hg.2.2.2 (Q4 p l hg.2.2.1 hl))
def kAt (ss : List Stp) (k : Int) (i : Nat) : Int := k + (((ss.take i).map fun s => 3 + s.ns.length).sum : Nat)
def d4e (q : Int) (n : Nat) : Stp := ⟨bA (mT q), q + 1, q + 1 + 1, mkI (q + 1 + 1 + 1) n⟩
def d3t (ss : List Stp) (k : Int) : List Stp := (List.range ss.length).map fun i => d4e (kAt ss k i) (ss.getD i default).ns.length
@[simp] theorem mkSt_length (ss : List Stp) (k : Int) : (d3t ss k).length = ss.length := by simp [d3t]
end Go.Mv
namespace Go.Mv
open Go
def stL : List Stp → AV
 | [] => .nil
 | s :: r => .own 4 ((s :: r).map stO)
theorem c7n {ss : List Stp} (h : 0 < ss.length) : stL ss = .own 4 (ss.map stO) := by
 cases ss with
 | nil => simp at h
 | cons s r => rfl
theorem b1d {s : Stp} {w : W8} {a b : Int} {ns : List Int} (h1 : s.op.data.toList = w) (h2 : s.a = a) (h3 : s.b = b) (h4 : s.ns = ns) : s = ⟨bA w, a, b, ns⟩ := by
 obtain ⟨o, x, y, l⟩ := s
 simp only at h1 h2 h3 h4
 subst h1 h2 h3 h4
 rw [a8i]
theorem b1q {s : Stp} {w : W8} {a b : Int} {ns : List Int} (h : s.op.data.toList ≠ w) : s ≠ ⟨bA w, a, b, ns⟩ := by rintro rfl; exact h rfl
theorem b0z {s : Stp} {w : W8} {a b : Int} {ns : List Int} (h : s.a ≠ a) : s ≠ ⟨bA w, a, b, ns⟩ := by rintro rfl; exact h rfl
theorem b1o {s : Stp} {w : W8} {a b : Int} {ns : List Int} (h : s.b ≠ b) : s ≠ ⟨bA w, a, b, ns⟩ := by rintro rfl; exact h rfl
theorem b1r {s : Stp} {w : W8} {a b : Int} {ns : List Int} (h : s.ns ≠ ns) : s ≠ ⟨bA w, a, b, ns⟩ := by rintro rfl; exact h rfl
theorem a2k {s : Stp} {l : List Stp} {i : Nat} (hi : i < l.length) (h : l.getD i default = s) (hne : ∀ j, j < i → l.getD j default ≠ s) : stIx s l = i ∧ stAdd s l = l := by
 have e := c4j hi h hne
 exact ⟨e, by unfold stAdd; rw [if_pos (by omega)]⟩
theorem a1h {s : Stp} {l : List Stp} (hne : ∀ j, j < l.length → l.getD j default ≠ s) : stIx s l = l.length ∧ stAdd s l = l ++ [s] := by
 have e := c5h hne
 exact ⟨e, by unfold stAdd; rw [if_neg (by omega)]⟩
theorem d3x {w : W8} {a b : Int} {ns : List Int} : ([.agg [tV w, iV a, iV b, .list (ns.map iV)]] : List AV) = List.map stA [⟨bA w, a, b, ns⟩] := rfl
theorem c1r {w : W8} {a b : Int} : ([.agg [tV w, iV a, iV b, .list []]] : List AV) = List.map stA [⟨bA w, a, b, []⟩] := rfl
theorem b0a {w : W8} {a b : Int} {ns : List Int} : ([.agg [tV w, iV a, iV b, .own 1 (ns.map iV)]] : List AV) = List.map stO [⟨bA w, a, b, ns⟩] := rfl
def stJ (y : Stp) (l : List Stp) : Int := if stIx y l < l.length then (stIx y l : Int) else -1
theorem a2a {y : Stp} {l : List Stp} (h : 0 ≤ stJ y l) : stJ y l = stIx y l ∧ stAdd y l = l ∧ stIx y l < l.length := by
 unfold stJ at h ⊢
 by_cases c : stIx y l < l.length
 ·rw [if_pos c]; exact ⟨rfl, by unfold stAdd; rw [if_pos c], c⟩
 ·rw [if_neg c] at h; omega
theorem Z8 {y : Stp} {l : List Stp} (h : stJ y l < 0) : stIx y l = l.length ∧ stAdd y l = l ++ [y] := by
 unfold stJ at h
 have := b1g y l
 by_cases c : stIx y l < l.length
 ·rw [if_pos c] at h; omega
 ·exact ⟨by omega, by unfold stAdd; rw [if_neg c]⟩
theorem d3l {y : Stp} {l : List Stp} {i : Nat} (hi : i < l.length) (h : l.getD i default = y) (hne : ∀ j, j < i → l.getD j default ≠ y) : stJ y l = i := by
 unfold stJ; rw [(a2k hi h hne).1, if_pos hi]
theorem d3e {y : Stp} {l : List Stp} (hne : ∀ j, j < l.length → l.getD j default ≠ y) : stJ y l = -1 := by
 unfold stJ; rw [(a1h hne).1, if_neg (by omega)]
theorem d1p (x y : Stp) : decide (x = y) = (decide (x.op.data.toList = y.op.data.toList) && decide (x.a = y.a) && decide (x.b = y.b) && decide (x.ns = y.ns)) := by
 by_cases e : x = y
 ·subst e; simp
 ·rw [decide_eq_false e]
  symm
  simp only [Bool.and_eq_false_iff, decide_eq_false_iff_not]
  apply Classical.byContradiction
  intro h
  simp only [not_or, Decidable.not_not] at h
  obtain ⟨⟨⟨h1, h2⟩, h3⟩, h4⟩ := h
  have h1' : x.op = y.op := by rw [← a8i x.op, ← a8i y.op, h1]
  exact e (by cases x; cases y; simp_all)
end Go.Mv
namespace Go.Mv
end Go.Mv
namespace Go.Mv
theorem b6i (ns : List Int) : trK (.lst ns) = .agg [tV lW, .list (ns.map iV), .list (([] : List Pl).map trV)] := rfl
theorem b6u (w : W8) : trK (.col w) = .agg [tV w, .list (([] : List Int).map iV), .list (([] : List Pl).map trV)] := rfl
theorem c2f (w : W8) (p : Pl) : trK (.un w p) = .agg [tV w, .list (([] : List Int).map iV), .list ([p].map trV)] := rfl
theorem b6w (w : W8) (p q : Pl) : trK (.bin w p q) = .agg [tV w, .list (([] : List Int).map iV), .list ([p, q].map trV)] := rfl
end Go.Mv
end

section
namespace Go.Mv
open Go
def stH (s : Stp) : Prop := s.op.size ≤ 10 ∧ s.ns.length ≤ 10
theorem b1k : ∀ (t : Pl) (l : List Stp), t.wf → t.good → (∀ x ∈ l, stH x) → ∀ x ∈ (shareP t l).1, stH x
 | .lst ns, l, _, hg, hl => W3 (R := stH) ⟨by show lW.length ≤ 10; decide, S0 hg⟩ hl
 | .col w, l, hw, _, hl => W3 (R := stH) ⟨by show w.length ≤ 10; simp only [Pl.wf] at hw; have := (c7i (w := w) (by omega)).2.2.2.1; omega, Nat.zero_le _⟩ hl
 | .un w p, l, hw, hg, hl => W3 (R := stH) ⟨by show w.length ≤ 10; have := (c7i (w := w) (by have := hw.1; omega)).2.2.2.1; omega, Nat.zero_le _⟩ (b1k p l hw.2 hg.2.2 hl)
 | .bin w p q, l, hw, hg, hl => W3 (R := stH) ⟨by show w.length ≤ 10; have := (c7i (w := w) (by have := hw.1; omega)).2.2.2.1; omega, Nat.zero_le _⟩ (b1k q _ hw.2.2 hg.2.2.2 (b1k p l hw.2.1 hg.2.2.1 hl))
theorem a0y {s : W8} : ∀ x ∈ sharesT s, stH x := by
 intro x hx
 rw [sharesT] at hx
 cases e : rdPlan s with
 | none => rw [e] at hx; cases hx
 | some t =>
  rw [e] at hx
  obtain ⟨_, hw, hg, _, _⟩ := a3x e
  exact b1k t [] hw hg (fun _ h => by cases h) x hx
end Go.Mv
namespace Go.Mv
end Go.Mv
end

section
namespace Go.Mv
open Go
deriving instance DecidableEq for Pl
theorem d1g {t k : Pl} (h : k ∈ t.kids) : k.sz < t.sz := by
 cases t with
 | lst ns => cases h
 | col w => cases h
 | un w p => simp [Pl.kids] at h; subst h; simp [Pl.sz]
 | bin w p q => simp [Pl.kids] at h; rcases h with rfl | rfl <;> simp [Pl.sz] <;> omega
theorem d3m {t u : Pl} (ht : t.good) (hu : u.good) (h1 : t.op = u.op) (h2 : t.ns = u.ns) (h3 : t.kids = u.kids) : t = u := by
 cases t with
 | lst ns =>
  obtain ⟨ms, rfl, _⟩ := c6q hu (h1.symm.trans rfl)
  rw [show ns = ms from h2]
 | col w =>
  cases u with
  | lst ms => exact absurd h1 ht.1
  | col v => rw [show w = v from h1]
  | un v p => cases h3
  | bin v p q => cases h3
 | un w p =>
  cases u with
  | lst ms => cases h3
  | col v => cases h3
  | un v q => rw [show w = v from h1, show p = q from (List.cons.inj h3).1]
  | bin v q r => cases h3
 | bin w p q =>
  cases u with
  | lst ms => cases h3
  | col v => cases h3
  | un v q => cases h3
  | bin v p2 q2 =>
   obtain ⟨e1, e2⟩ := List.cons.inj h3
   rw [show w = v from h1, e1, (List.cons.inj e2).1]
def addQ (t : Pl) (P : List Pl) : List Pl := if t ∈ P then P else P ++ [t]
def shareQ : Pl → List Pl → List Pl
 | .lst ns, P => addQ (.lst ns) P
 | .col w, P => addQ (.col w) P
 | .un w p, P => addQ (.un w p) (shareQ p P)
 | .bin w p q, P => addQ (.bin w p q) (shareQ q (shareQ p P))
structure ClQ (P : List Pl) : Prop where
 nd : P.Nodup
 good : ∀ t ∈ P, t.good
 kids : ∀ A t B, P = A ++ t :: B → ∀ k ∈ t.kids, k ∈ A
theorem ClQ.nil : ClQ [] := ⟨List.nodup_nil, (fun _ h => by cases h), (fun A t B h => by cases A <;> cases h)⟩
theorem ClQ.mem {P : List Pl} (h : ClQ P) {t k : Pl} (ht : t ∈ P) (hk : k ∈ t.kids) : k ∈ P := by
 obtain ⟨A, B, rfl⟩ := List.append_of_mem ht
 exact List.mem_append_left _ (h.kids A t B rfl k hk)
theorem a1o (t : Pl) (P : List Pl) : t ∈ addQ t P := by unfold addQ; split <;> simp_all
theorem T4 {t : Pl} {P : List Pl} {x : Pl} (h : x ∈ P) : x ∈ addQ t P := by unfold addQ; split <;> simp_all
theorem b1i {t : Pl} {P : List Pl} (h : ClQ P) (hg : t.good) (hk : ∀ k ∈ t.kids, k ∈ P) : ClQ (addQ t P) := by
 unfold addQ
 split
 ·exact h
 ·rename_i hn
  refine ⟨?_, ?_, ?_⟩
  ·rw [List.nodup_append]
   exact ⟨h.nd, by simp, fun a ha b hb e => hn (by rw [List.mem_singleton.1 hb] at e; rw [← e]; exact ha)⟩
  ·intro x hx
   rcases List.mem_append.1 hx with hx | hx
   ·exact h.good x hx
   ·rw [List.mem_singleton.1 hx]; exact hg
  ·intro A u B e k hku
   rcases List.append_eq_append_iff.1 e with ⟨C, e1, e2⟩ | ⟨C, e1, e2⟩
   ·cases C with
    | nil =>
     simp only [List.append_nil, List.nil_append, List.cons.injEq] at e1 e2
     obtain ⟨e3, e4⟩ := e2
     subst e3
     rw [e1]; exact hk k hku
    | cons c C => simp at e2
   ·cases C with
    | nil =>
     simp only [List.append_nil, List.nil_append, List.cons.injEq] at e1 e2
     rw [← e1]; exact hk k (by rw [← e2.1]; exact hku)
    | cons c C =>
     simp only [List.cons_append, List.cons.injEq] at e2
     obtain ⟨rfl, rfl⟩ := e2
     exact h.kids A u C e1 k hku
theorem Y1 : ∀ (t : Pl) {P : List Pl}, ClQ P → t.good → ClQ (shareQ t P) ∧ t ∈ shareQ t P ∧ ∀ x ∈ P, x ∈ shareQ t P
 | .lst ns, P, h, hg => ⟨b1i h hg (fun _ hk => by cases hk), a1o _ _, fun _ hx => T4 hx⟩
 | .col w, P, h, hg => ⟨b1i h hg (fun _ hk => by cases hk), a1o _ _, fun _ hx => T4 hx⟩
 | .un w p, P, h, hg => by
  obtain ⟨h1, h2, h3⟩ := Y1 p h hg.2.2
  exact ⟨b1i h1 hg (fun k hk => by simp [Pl.kids] at hk; subst hk; exact h2), a1o _ _, fun x hx => T4 (h3 x hx)⟩
 | .bin w p q, P, h, hg => by
  obtain ⟨h1, h2, h3⟩ := Y1 p h hg.2.2.1
  obtain ⟨h4, h5, h6⟩ := Y1 q h1 hg.2.2.2
  exact ⟨b1i h4 hg (fun k hk => by simp [Pl.kids] at hk; rcases hk with rfl | rfl; exact h6 _ h2; exact h5), a1o _ _, fun x hx => T4 (h6 x (h3 x hx))⟩
def ixQ (t : Pl) : List Pl → Nat
 | [] => 0
 | x :: r => if x = t then 0 else ixQ t r + 1
theorem a9j {t : Pl} : ∀ {P : List Pl}, t ∈ P → ixQ t P < P.length
 | [], h => by cases h
 | x :: r, h => by
  rw [ixQ]
  by_cases e : x = t
  ·rw [if_pos e]; simp
  ·rw [if_neg e]
   have := a9j (P := r) (by rcases List.mem_cons.1 h with h | h; exact absurd h.symm e; exact h)
   simp; omega
theorem b2x {t : Pl} : ∀ {P : List Pl}, t ∈ P → P.getD (ixQ t P) default = t
 | [], h => by cases h
 | x :: r, h => by
  rw [ixQ]
  by_cases e : x = t
  ·rw [if_pos e]; simpa using e
  ·rw [if_neg e, List.getD_cons_succ]
   exact b2x (by rcases List.mem_cons.1 h with h | h; exact absurd h.symm e; exact h)
theorem b8e {t : Pl} {P Q : List Pl} (h : t ∈ P) : ixQ t (P ++ Q) = ixQ t P := by
 induction P with
 | nil => cases h
 | cons x r ih =>
  rw [List.cons_append, ixQ, ixQ]
  by_cases e : x = t
  ·rw [if_pos e, if_pos e]
  ·rw [if_neg e, if_neg e, ih (by rcases List.mem_cons.1 h with h | h; exact absurd h.symm e; exact h)]
theorem c4v {t : Pl} {P Q : List Pl} (h : t ∉ P) : ixQ t (P ++ t :: Q) = P.length := by
 induction P with
 | nil => simp [ixQ]
 | cons x r ih =>
  simp only [List.mem_cons, not_or] at h
  rw [List.cons_append, ixQ, if_neg (fun e => h.1 e.symm), ih h.2]; rfl
theorem c4g {t u : Pl} {P : List Pl} (ht : t ∈ P) (hu : u ∈ P) (h : ixQ t P = ixQ u P) : t = u := by
 rw [← b2x ht, ← b2x hu, h]
def kixQ (P : List Pl) (t : Pl) (k : Nat) : Int := if k < t.kids.length then (ixQ (t.kids.getD k default) P : Int) else -1
def encS (P : List Pl) (t : Pl) : Stp := I8 t (kixQ P t 0) (kixQ P t 1)
def enc (P : List Pl) : List Stp := P.map (encS P)
theorem a6a {t : Pl} {k : Nat} (h : k < t.kids.length) : t.kids.getD k default ∈ t.kids := L1 h
theorem b8v {P Q : List Pl} {t : Pl} (h : ∀ k ∈ t.kids, k ∈ P) : encS (P ++ Q) t = encS P t := by
 have e : ∀ k, kixQ (P ++ Q) t k = kixQ P t k := by
  intro k
  unfold kixQ
  split
  ·rename_i hk; rw [b8e (h _ (a6a hk))]
  ·rfl
 unfold encS
 rw [e, e]
theorem c8k {P : List Pl} {t : Pl} (h : ClQ P) (hk : ∀ k ∈ t.kids, k ∈ P) : enc (P ++ [t]) = enc P ++ [encS P t] := by
 unfold enc
 rw [List.map_append, List.map_singleton, b8v hk]
 congr 1
 refine List.map_congr_left fun u hu => b8v fun k hku => h.mem hu hku
theorem c1j {P : List Pl} {t u : Pl} (ht : t.good) (hu : u.good) (hkt : ∀ k ∈ t.kids, k ∈ P) (hku : ∀ k ∈ u.kids, k ∈ P) (h : encS P t = encS P u) : t = u := by
 unfold encS I8 at h
 simp only [Stp.mk.injEq] at h
 obtain ⟨h1, h2, h3, h4⟩ := h
 have hl1 := b9c t
 have hl2 := b9c u
 have key : ∀ k, kixQ P t k = kixQ P u k → ((k < t.kids.length ↔ k < u.kids.length) ∧ (k < t.kids.length → t.kids.getD k default = u.kids.getD k default)) := by
  intro k e
  unfold kixQ at e
  by_cases c1 : k < t.kids.length <;> by_cases c2 : k < u.kids.length
  ·rw [if_pos c1, if_pos c2] at e
   exact ⟨⟨fun _ => c2, fun _ => c1⟩, fun _ => c4g (hkt _ (a6a c1)) (hku _ (a6a c2)) (by omega)⟩
  ·rw [if_pos c1, if_neg c2] at e; omega
  ·rw [if_neg c1, if_pos c2] at e; omega
  ·exact ⟨⟨fun h => absurd h c1, fun h => absurd h c2⟩, fun h => absurd h c1⟩
 obtain ⟨a1, a2⟩ := key 0 h2
 obtain ⟨b1, b2⟩ := key 1 h3
 refine d3m ht hu (d2e h1) h4 (b5j (by omega) fun j hj => ?_)
 match j, hj with
 | 0, hj => exact a2 hj
 | 1, hj => exact b2 hj
 | j + 2, hj => omega
theorem c0b {P : List Pl} (h : ClQ P) {t : Pl} (ht : t.good) (hk : ∀ k ∈ t.kids, k ∈ P) : ∀ Q : List Pl, (∀ x ∈ Q, x ∈ P) → stIx (encS P t) (Q.map (encS P)) = ixQ t Q
 | [], _ => rfl
 | x :: r, hQ => by
  have hx := hQ x (List.mem_cons_self ..)
  rw [List.map_cons, stIx, ixQ]
  by_cases e : x = t
  ·rw [if_pos e, if_pos (by rw [e])]
  ·rw [if_neg e, if_neg (fun e2 => e (c1j (h.good x hx) ht (fun k hkx => h.mem hx hkx) hk e2)), c0b h ht hk r fun y hy => hQ y (List.mem_cons_of_mem _ hy)]
theorem c8b {t : Pl} : ∀ {P : List Pl}, t ∉ P → ixQ t P = P.length
 | [], _ => rfl
 | x :: r, h => by
  simp only [List.mem_cons, not_or] at h
  rw [ixQ, if_neg (fun e => h.1 e.symm), c8b h.2]; rfl
theorem a6c {P : List Pl} (h : ClQ P) {t : Pl} (ht : t.good) (hk : ∀ k ∈ t.kids, k ∈ P) : stAdd (encS P t) (enc P) = enc (addQ t P) ∧ stIx (encS P t) (enc P) = ixQ t (addQ t P) := by
 have e := c0b h ht hk P fun _ hx => hx
 have el : (enc P).length = P.length := by simp [enc]
 unfold addQ
 by_cases c : t ∈ P
 ·rw [if_pos c]
  refine ⟨?_, e⟩
  unfold stAdd
  rw [if_pos]
  show stIx (encS P t) (P.map (encS P)) < _
  rw [e, el]; exact a9j c
 ·rw [if_neg c]
  have e2 : stIx (encS P t) (enc P) = P.length := e.trans (c8b c)
  refine ⟨?_, ?_⟩
  ·unfold stAdd
   rw [if_neg (by rw [e2, el]; omega), c8k h hk]
  ·rw [e2, c4v c]
theorem a5w : ∀ (t : Pl) {P : List Pl}, ClQ P → t.good → shareP t (enc P) = (enc (shareQ t P), ixQ t (shareQ t P))
 | .lst ns, P, h, hg => by
  have := a6c h (t := .lst ns) hg (fun _ hk => by cases hk)
  exact Prod.ext this.1 this.2
 | .col w, P, h, hg => by
  have := a6c h (t := .col w) hg (fun _ hk => by cases hk)
  exact Prod.ext this.1 this.2
 | .un w p, P, h, hg => by
  obtain ⟨h1, h2, h3⟩ := Y1 p h hg.2.2
  have := a6c h1 (t := .un w p) hg (fun k hk => by simp [Pl.kids] at hk; subst hk; exact h2)
  have ih := a5w p h hg.2.2
  simp only [shareP, ih]
  exact Prod.ext this.1 this.2
 | .bin w p q, P, h, hg => by
  obtain ⟨h1, h2, h3⟩ := Y1 p h hg.2.2.1
  obtain ⟨h4, h5, h6⟩ := Y1 q h1 hg.2.2.2
  have := a6c h4 (t := .bin w p q) hg (fun k hk => by simp [Pl.kids] at hk; rcases hk with rfl | rfl; exact h6 _ h2; exact h5)
  have ih := a5w p h hg.2.2.1
  have ih2 := a5w q h1 hg.2.2.2
  simp only [shareP, ih, ih2]
  have e0 : ixQ p (shareQ p P) = ixQ p (shareQ q (shareQ p P)) := by
   have pre : ∀ (u : Pl) (A : List Pl), ∃ B, shareQ u A = A ++ B := by
    have ad : ∀ (u : Pl) (A : List Pl), ∃ B, addQ u A = A ++ B := by
     intro u A; unfold addQ; split
     ·exact ⟨[], by simp⟩
     ·exact ⟨[u], rfl⟩
    intro u
    induction u with
    | lst ns => exact fun A => ad _ A
    | col w => exact fun A => ad _ A
    | un w p ih => intro A; obtain ⟨B, e⟩ := ih A; obtain ⟨C, e2⟩ := ad (.un w p) (shareQ p A); exact ⟨B ++ C, by rw [shareQ, e2, e, List.append_assoc]⟩
    | bin w p q ih1 ih2 =>
     intro A; obtain ⟨B, e⟩ := ih1 A; obtain ⟨C, e2⟩ := ih2 (shareQ p A); obtain ⟨D, e3⟩ := ad (.bin w p q) (shareQ q (shareQ p A))
     exact ⟨B ++ (C ++ D), by rw [shareQ, e3, e2, e]; simp⟩
   obtain ⟨B, e⟩ := pre q (shareQ p P)
   rw [e, b8e h2]
  rw [e0]
  exact Prod.ext this.1 this.2
end Go.Mv
end

section
namespace Go.Mv
open Go
theorem b1l {t : Pl} {P : List Pl} {x : Pl} (h : x ∈ addQ t P) : x ∈ P ∨ x = t := by
 unfold addQ at h
 split at h
 ·exact .inl h
 ·rcases List.mem_append.1 h with h | h
  ·exact .inl h
  ·exact .inr (List.mem_singleton.1 h)
theorem a2n : ∀ (t : Pl) {P : List Pl} {x : Pl}, x ∈ shareQ t P → x ∈ P ∨ (x.sz ≤ t.sz ∧ (x = t ∨ ∃ y ∈ shareQ t P, x ∈ y.kids))
 | .lst ns, P, x, h => by
  rcases b1l h with h | h
  ·exact .inl h
  ·exact .inr ⟨by rw [h]; exact Nat.le_refl _, .inl h⟩
 | .col w, P, x, h => by
  rcases b1l h with h | h
  ·exact .inl h
  ·exact .inr ⟨by rw [h]; exact Nat.le_refl _, .inl h⟩
 | .un w p, P, x, h => by
  rcases b1l h with h | h
  ·rcases a2n p h with h | ⟨h1, h2⟩
   ·exact .inl h
   ·refine .inr ⟨by simp only [Pl.sz]; omega, .inr ?_⟩
    rcases h2 with rfl | ⟨y, hy, hk⟩
    ·exact ⟨_, a1o _ _, by simp [Pl.kids]⟩
    ·exact ⟨y, T4 hy, hk⟩
  ·exact .inr ⟨by rw [h]; exact Nat.le_refl _, .inl h⟩
 | .bin w p q, P, x, h => by
  rcases b1l h with h | h
  ·rcases a2n q h with h | ⟨h1, h2⟩
   ·rcases a2n p h with h | ⟨h1, h2⟩
    ·exact .inl h
    ·refine .inr ⟨by simp only [Pl.sz]; omega, .inr ?_⟩
     rcases h2 with rfl | ⟨y, hy, hk⟩
     ·exact ⟨_, a1o _ _, by simp [Pl.kids]⟩
     ·refine ⟨y, T4 ?_, hk⟩
      have pre : ∀ (u : Pl) (A : List Pl), ∀ z ∈ A, z ∈ shareQ u A := by
       intro u
       induction u with
       | lst ns => exact fun A z hz => T4 hz
       | col w => exact fun A z hz => T4 hz
       | un w p ih => exact fun A z hz => T4 (ih A z hz)
       | bin w p q ih1 ih2 => exact fun A z hz => T4 (ih2 _ z (ih1 A z hz))
      exact pre q _ y hy
   ·refine .inr ⟨by simp only [Pl.sz]; omega, .inr ?_⟩
    rcases h2 with rfl | ⟨y, hy, hk⟩
    ·exact ⟨_, a1o _ _, by simp [Pl.kids]⟩
    ·exact ⟨y, T4 hy, hk⟩
  ·exact .inr ⟨by rw [h]; exact Nat.le_refl _, .inl h⟩
theorem c0m (t : Pl) : ∃ X, shareQ t [] = X ++ [t] ∧ ∀ x ∈ X, x.sz < t.sz := by
 have key : ∀ (P : List Pl), (∀ x ∈ P, x.sz < t.sz) → ∃ X, addQ t P = X ++ [t] ∧ ∀ x ∈ X, x.sz < t.sz := by
  intro P h
  refine ⟨P, ?_, h⟩
  unfold addQ
  rw [if_neg (fun hm => absurd (h t hm) (Nat.lt_irrefl _))]
 have sm : ∀ (u : Pl) (P : List Pl) (n : Nat), (∀ x ∈ P, x.sz < n) → u.sz < n → ∀ x ∈ shareQ u P, x.sz < n := by
  intro u P n h hu x hx
  rcases a2n u hx with h1 | ⟨h1, _⟩
  ·exact h x h1
  ·omega
 cases t with
 | lst ns => exact key [] (fun _ h => by cases h)
 | col w => exact key [] (fun _ h => by cases h)
 | un w p => exact key _ (sm p [] _ (fun _ h => by cases h) (by simp [Pl.sz]))
 | bin w p q => exact key _ (sm q _ _ (sm p [] _ (fun _ h => by cases h) (by simp only [Pl.sz]; omega)) (by simp only [Pl.sz]; omega))
theorem c9m {P : List Pl} (h : ClQ P) {i : Nat} (hi : i < P.length) (k : Nat) : kixQ P (P.getD i default) k = -1 ∨ (0 ≤ kixQ P (P.getD i default) k ∧ kixQ P (P.getD i default) k < i) := by
 unfold kixQ
 split
 ·rename_i hk
  right
  have e : P = P.take i ++ P.getD i default :: P.drop (i + 1) := by
   rw [List.getD_eq_getElem?_getD, List.getElem?_eq_getElem hi, Option.getD_some, ← List.drop_eq_getElem_cons hi, List.take_append_drop]
  have hm := h.kids _ _ _ e _ (a6a hk)
  have h1 := a9j hm
  have h2 : ixQ ((P.getD i default).kids.getD k default) P = ixQ ((P.getD i default).kids.getD k default) (P.take i) := by
   have h3 := b8e (Q := P.getD i default :: P.drop (i + 1)) hm
   rwa [← e] at h3
  rw [h2]
  rw [List.length_take] at h1
  omega
 ·exact .inl rfl
theorem a4v {P : List Pl} {i : Nat} (hi : i < P.length) : (enc P).getD i default = encS P (P.getD i default) := by
 simp [enc, List.getD_eq_getElem?_getD, hi]
theorem d2z {t k : Pl} (h : k ∈ t.kids) : ∃ j, j < 2 ∧ j < t.kids.length ∧ t.kids.getD j default = k := by
 cases t with
 | lst ns => cases h
 | col w => cases h
 | un w p => simp [Pl.kids] at h; subst h; exact ⟨0, by decide, by simp [Pl.kids], rfl⟩
 | bin w p q =>
  simp [Pl.kids] at h
  rcases h with rfl | rfl
  ·exact ⟨0, by decide, by simp [Pl.kids], rfl⟩
  ·exact ⟨1, by decide, by simp [Pl.kids], rfl⟩
theorem b1x {P : List Pl} (h : P.Nodup) {i j : Nat} (hi : i < P.length) (hj : j < P.length) (e : P.getD i default = P.getD j default) : i = j := by
 rw [List.getD_eq_getElem?_getD, List.getD_eq_getElem?_getD, List.getElem?_eq_getElem hi, List.getElem?_eq_getElem hj] at e
 simp only [Option.getD_some] at e
 rcases Nat.lt_trichotomy i j with c | c | c
 ·exact absurd e (List.pairwise_iff_getElem.1 h i j hi hj c)
 ·exact c
 ·exact absurd e.symm (List.pairwise_iff_getElem.1 h j i hj hi c)
theorem b9x {P : List Pl} (h : P.Nodup) {i : Nat} (hi : i < P.length) : ixQ (P.getD i default) P = i := by
 have hm := L1 (xs := P) hi
 exact b1x h (a9j hm) hi (b2x hm)
structure ShLaw (ss : List Stp) : Prop where
 ne : ∀ i k, i < ss.length → k < i → ss.getD i default ≠ ss.getD k default
 lt : ∀ i, i < ss.length → (-1 ≤ (ss.getD i default).a ∧ (ss.getD i default).a < i) ∧ (-1 ≤ (ss.getD i default).b ∧ (ss.getD i default).b < i)
 need : ∀ i, i + 1 < ss.length → ∃ j, j < ss.length ∧ ((ss.getD j default).a = i ∨ (ss.getD j default).b = i)
 last : ∀ j, j < ss.length → (ss.getD j default).a ≠ (ss.length : Int) - 1 ∧ (ss.getD j default).b ≠ (ss.length : Int) - 1
theorem c5p {t : Pl} (hg : t.good) : ShLaw (shareP t []).1 := by
 have e0 : shareP t [] = (enc (shareQ t []), ixQ t (shareQ t [])) := a5w t ClQ.nil hg
 rw [e0]
 obtain ⟨hc, ht, _⟩ := Y1 t ClQ.nil hg
 obtain ⟨X, hX, hXs⟩ := c0m t
 generalize hP : shareQ t [] = P at hc ht hX
 have hl : (enc P).length = P.length := by simp [enc]
 have kb : ∀ (i k : Nat), i < P.length → -1 ≤ kixQ P (P.getD i default) k ∧ kixQ P (P.getD i default) k < i := by
  intro i k hi
  rcases c9m hc hi k with h | h <;> omega
 have hlen : P.length = X.length + 1 := by rw [hX]; simp
 have hsz : ∀ x ∈ P, x.sz ≤ t.sz := by
  intro x hx
  rw [hX] at hx
  rcases List.mem_append.1 hx with hx | hx
  ·exact Nat.le_of_lt (hXs x hx)
  ·rw [List.mem_singleton.1 hx]; exact Nat.le_refl _
 have hix : ixQ t P = P.length - 1 := by
  have hn : t ∉ X := fun hm => absurd (hXs t hm) (Nat.lt_irrefl _)
  rw [hlen, hX, c4v hn]; rfl
 refine ⟨fun i k hi hk => ?_, fun i hi => ?_, fun i hi => ?_, fun j hj => ?_⟩
 ·simp only [hl] at hi
  rw [a4v hi, a4v (by omega)]
  intro e
  have hmi := L1 (xs := P) hi
  have hmk := L1 (xs := P) (i := k) (by omega)
  have := b1x hc.nd hi (by omega) (c1j (hc.good _ hmi) (hc.good _ hmk) (fun x hx => hc.mem hmi hx) (fun x hx => hc.mem hmk hx) e)
  omega
 ·simp only [hl] at hi
  rw [a4v hi]
  exact ⟨kb i 0 hi, kb i 1 hi⟩
 ·simp only [hl] at hi ⊢
  have hmi := L1 (xs := P) (i := i) (by omega)
  have hne : P.getD i default ≠ t := by
   intro e
   have := b9x hc.nd (i := i) (by omega)
   rw [e, hix] at this
   omega
  rcases a2n t (P := []) (x := P.getD i default) (by rw [hP]; exact hmi) with h | ⟨_, h | ⟨y, hy, hk⟩⟩
  ·cases h
  ·exact absurd h hne
  ·rw [hP] at hy
   obtain ⟨k, hk2, hkl, hke⟩ := d2z hk
   refine ⟨ixQ y P, a9j hy, ?_⟩
   rw [a4v (a9j hy), b2x hy]
   have e1 : kixQ P y k = i := by
    unfold kixQ
    rw [if_pos hkl, hke, b9x hc.nd (by omega)]
   match k, hk2, e1 with
   | 0, _, e1 => exact .inl e1
   | 1, _, e1 => exact .inr e1
 ·simp only [hl] at hj ⊢
  rw [a4v hj]
  have key : ∀ k : Nat, kixQ P (P.getD j default) k ≠ (P.length : Int) - 1 := by
   intro k e
   unfold kixQ at e
   split at e
   ·rename_i hk
    have hmj := L1 (xs := P) hj
    have hkm := hc.mem hmj (a6a hk)
    have h1 : ixQ ((P.getD j default).kids.getD k default) P = ixQ t P := by rw [hix]; omega
    have h2 := c4g hkm ht h1
    have h3 := d1g (a6a hk)
    rw [h2] at h3
    have := hsz _ hmj
    omega
   ·omega
  exact ⟨key 0, key 1⟩
theorem b9t (s : W8) : ShLaw (sharesT s) := by
 rw [sharesT]
 cases e : rdPlan s with
 | none => exact ⟨(fun i k h => by simp at h), (fun i h => by simp at h), (fun i h => by simp at h), (fun i h => by simp at h)⟩
 | some t => exact c5p (a3x e).2.2.1
end Go.Mv
end

section
namespace Go.Mv
open Go
theorem b6f {A : Asr} {C : Caller} {md id g m s off n : Nat} {es ys : List AV} (hmd : md = 0) (ho : look A (.h id) = some (.obj g m s es)) (hb : bxB m none = false) (hn : off + n ≤ es.length) (hr : G3 ((es.drop off).take n) = true) (hf : frzL ((es.drop off).take n) = ys) :
  L5 C A md (.sl id g none off n) (.list ys) [(id, false)] [] [.h id] := by
 subst hmd
 unfold L5 a2x
 simp only [if_true]
 refine A6 (I3 ?_)
 simp only [passLeaf, slc, rdNode, D4, N4 ho, F3, E9, hb, List.append_nil, List.nil_append, hn, hr, and_self, true_and, hf]
 exact C1 ⟨rfl, rfl, by simp⟩
theorem a8f {A : Asr} {C : Caller} {ss : List Stp} {md id g m off n : Nat} (hmd : md = 0) (ho : look A (.h id) = some (.obj g m 4 (ss.map stO))) (hb : bxB m none = false) (hn : off + n ≤ ss.length) :
  L5 C A md (.sl id g none off n) (.list (((ss.drop off).take n).map stA)) [(id, false)] [] [.h id] := by
 have e : ((ss.map stO).drop off).take n = ((ss.drop off).take n).map stO := by rw [List.map_take, List.map_drop]
 exact b6f hmd ho hb (by rw [List.length_map]; exact hn) (by rw [e]; exact A7 fun _ => rfl) (by rw [e, c4y])
theorem d3f {x y : Stp} (h1 : x.op = y.op) (h2 : x.a = y.a) (h3 : x.b = y.b) (h4 : x.ns = y.ns) : x = y := by
 cases x; cases y; simp_all
theorem b2g {b : Bool} {p : Prop} (h : b = true ↔ p) (hn : ¬p) : bV false = bV b := by
 cases b with
 | false => rfl
 | true => exact absurd (h.1 rfl) hn
theorem d2s {b : Bool} {p : Prop} (h : b = true ↔ p) (hp : p) : bV true = bV b := by rw [h.2 hp]
theorem b9r {ss : List Stp} {i : Nat} (h : i < ss.length) : (ss.drop i).take 1 = [ss.getD i default] := by
 rw [List.getD_eq_getElem?_getD, List.getElem?_eq_getElem h, List.take_one, List.head?_drop, List.getElem?_eq_getElem h]
 rfl
end Go.Mv
namespace Go.Mv
open Go
def c2m (ss : List Stp) (i : Nat) (nd : List Bool) : Prop := nd.length = ss.length ∧ ∀ j, j < ss.length → (nd.getD j default = true ↔ ∃ k, k < i ∧ ((ss.getD k default).a = j ∨ (ss.getD k default).b = j))
theorem c8q {ss : List Stp} : c2m ss 0 (List.replicate ss.length false) := by
 refine ⟨List.length_replicate, fun j hj => ⟨fun h => ?_, fun ⟨k, hk, _⟩ => absurd hk (Nat.not_lt_zero _)⟩⟩
 rw [List.getD_eq_getElem?_getD, List.getElem?_replicate, if_pos hj] at h
 cases h
theorem a8h {ss : List Stp} {i : Nat} {nd md : List Bool} (h : c2m ss i nd) (hl : md.length = nd.length)
  (hs : ∀ j, md.getD j default = true ↔ nd.getD j default = true ∨ (ss.getD i default).a = j ∨ (ss.getD i default).b = j) : c2m ss (i + 1) md := by
 refine ⟨by rw [hl]; exact h.1, fun j hj => ?_⟩
 rw [hs j, h.2 j hj]
 constructor
 ·rintro (⟨k, hk, e⟩ | e)
  ·exact ⟨k, by omega, e⟩
  ·exact ⟨i, by omega, e⟩
 ·rintro ⟨k, hk, e⟩
  rcases Nat.lt_succ_iff_lt_or_eq.1 hk with h1 | rfl
  ·exact .inl ⟨k, h1, e⟩
  ·exact .inr e
theorem b1s {nd : List Bool} {x : Nat} (h : x < nd.length) (j : Nat) : (nd.set x true).getD j default = true ↔ nd.getD j default = true ∨ x = j := by
 rw [c5t h]
 by_cases e : j = x
 ·rw [if_pos e]; simp [e]
 ·rw [if_neg e]
  constructor
  ·exact .inl
  ·rintro (h | h)
   ·exact h
   ·exact absurd h.symm e
theorem c9z {ss : List Stp} {nd : List Bool} {i : Nat} (hs : ShLaw ss) (h : c2m ss ss.length nd) (hi : i + 1 < ss.length) : nd.getD i default = true := (h.2 i (by omega)).2 (hs.need i hi)
theorem c7a {ss : List Stp} {nd : List Bool} (hs : ShLaw ss) (h : c2m ss ss.length nd) (hl : 0 < ss.length) : nd.getD (ss.length - 1) default = false := by
 rw [← Bool.not_eq_true]
 intro e
 obtain ⟨k, hk, h1⟩ := (h.2 _ (by omega)).1 e
 have := hs.last k hk
 omega
end Go.Mv
end
