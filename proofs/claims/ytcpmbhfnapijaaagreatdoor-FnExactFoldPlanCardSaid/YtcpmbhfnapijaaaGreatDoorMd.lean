/- The abstract machine, part 4 of 4: it runs the model's code on abstract values and is proved sound over any program. Conditions: none. -/
import Derived.Lib.AtoiAll
import Derived.Test.YtcpmbhfnapijaaaGreatDoorMc

set_option linter.unusedVariables false
set_option linter.unusedSimpArgs false
section
namespace Go.Mv
open Go
section
variable {cx : Cx} {keep : List Nat} {A : Asr} {Q : AExit → Asr → Prop}
theorem H4 {β : Type} {body : Code} (K : Asr) (I : β → Asr) (P : β → Prop) (m : β → Nat) (b0 : β) (hA : HasL A (K ++ I b0)) (h0 : P b0)
  (hs : ∀ b, P b → XA cx keep body (K ++ I b) fun r A' => match r with
   | .normal => ∃ b', P b' ∧ m b' < m b ∧ HasL A' (K ++ I b')
   | r => Q r A') : XA cx keep (.loop body) A Q := d0s (fun b => K ++ I b) P m b0 hA h0 hs
end
theorem a5e {id g i : Nat} {p : Option (Nat × Nat)} : ∀ (ls : List AV) (j : Nat), (ls.all fun l => !isOwn l) = true → viewLeaves id g p i j ls = ls := by
 intro ls
 induction ls with
 | nil => intro j _; rfl
 | cons l ls ih =>
  intro j h
  simp only [List.all_cons, Bool.and_eq_true] at h
  simp only [viewLeaves, ih _ h.2]
  have : a3g id g p i j l = l := by
   unfold a3g
   split
   ·simp [isOwn] at h
   ·rfl
  rw [this]
theorem c7y {ls : List AV} (h : (ls.all fun l => !isOwn l) = true) (j : Nat) : ((ls.drop j).all fun l => !isOwn l) = true := by
 rw [List.all_eq_true] at h ⊢
 exact fun l hl => h l (List.mem_of_mem_drop hl)
section
variable {cx : Cx} {b : Bool} {cids : List Cid} {outs : List (List AV)}
def b7q (cx : Cx) (b : Bool) (cids : List Cid) (outs : List (List AV)) (rs : List ResultVar) (A : Asr) (vs : List AV) : Prop :=
 wpW (CW cx) A (retAll cx.P b rs) fun us ws _ => us = vs ∧ a1a (puts A ws) cids outs
theorem D9 {A : Asr} (ho : a1a A cids outs) : b7q cx b cids outs [] A [] := C3 ⟨rfl, ho⟩
theorem E7 {A : Asr} {t : Nat} {v : AV} {rs : List ResultVar} {vs : List AV} (hv : look A (.t t) = some v) (hi : c4i v = true) (h : b7q cx b cids outs rs A vs) : b7q cx b cids outs (.tmp t :: rs) A (v :: vs) := by
 refine a6b (a2v hv (b9c hi ?_))
 refine H8 h ?_
 rintro us ws ls ⟨rfl, h2⟩
 exact ⟨rfl, h2⟩
theorem a9d (A : Asr) : ∀ (a b : Ws), puts A (a ++ b) = puts (puts A a) b := by
 intro a
 induction a generalizing A with
 | nil => intro b; rfl
 | cons x a ih => intro b; obtain ⟨l, v⟩ := x; exact ih _ b
theorem G9 {A : Asr} {t id g s n : Nat} {es : List AV} {rs : List ResultVar} {vs : List AV} (hv : look A (.t t) = some (.sl id g none 0 n)) (hob : look A (.h id) = some (.obj g 0 s es)) (hn : n = es.length) (hi : G7 es = true)
  (h : b7q cx b cids outs rs (put A (.h id) (.dead g)) vs) : b7q cx b cids outs (.tmp t :: rs) A (.own s es :: vs) := by
 refine a6b (a2v hv (a9c hob hn hi ?_))
 refine H8 h ?_
 rintro us ws ls ⟨rfl, h2⟩
 refine ⟨rfl, ?_⟩
 rw [a9d]
 exact h2
theorem C8 {A : Asr} {rs : List ResultVar} {us : List AV} {res : AV} (h : b7q cx b cids outs rs A us) (he : Q3 us = res) : RetA cx b rs cids A res outs := by
 refine b5i (H8 h ?_)
 rintro us' ws _ ⟨rfl, h2⟩
 exact ⟨he, h2⟩
def b4j (C : Caller) (A : Asr) (d k : Nat) (vs : List AV) {G : Type} (us : G → List AV) (ws : G → Ws) (ls : List Mv.Loc) : Prop := wpW C A (instAll d k vs) fun a w l => ∃ g, a = us g ∧ w = ws g ∧ l = ls
variable {C : Caller} {A : Asr} {d k : Nat}
theorem M9 : b4j C A d k [] (fun _ : Unit => []) (fun _ => []) [] := C3 ⟨(), rfl, rfl, rfl⟩
theorem I7 {G : Type} {v : AV} {vs : List AV} {us : G → List AV} {ws : G → Ws} {ls : List Mv.Loc} (h : L3 v = true) (t : b4j C A d (k + 16) vs us ws ls) : b4j C A d k (v :: vs) (fun g => v :: us g) ws ls := by
 refine A6 (a7u h (A6 (H8 t ?_)))
 rintro _ _ _ ⟨g, rfl, rfl, rfl⟩
 exact C3 ⟨g, rfl, by simp, by simp⟩
theorem M8 {G : Type} {s : Nat} {es : List AV} {vs : List AV} {us : G → List AV} {ws : G → Ws} {ls : List Mv.Loc} (t : ∀ g0, b4j C (put A (.h (tid d k)) (.obj g0 0 s es)) d (k + 16) vs us ws ls) :
  b4j C A d k (.own s es :: vs) (fun g : Nat × G => .sl (tid d k) g.1 none 0 es.length :: us g.2) (fun g => (.h (tid d k), .obj g.1 0 s es) :: ws g.2) (.h (tid d k) :: ls) := by
 refine A6 (a7g fun g0 => A6 (H8 (t g0) ?_))
 rintro _ _ _ ⟨g, rfl, rfl, rfl⟩
 exact C3 ⟨(g0, g), rfl, by simp, by simp⟩
theorem I2 {G : Type} {vs : List AV} {us : G → List AV} {ws : G → Ws} {ls : List Mv.Loc} (h : b4j C A d 16 vs us ws ls) : a6p C A d (.tup vs) (fun g => .tup (us g)) ws ls := by
 refine A6 (H8 h ?_)
 rintro _ _ _ ⟨g, rfl, rfl, rfl⟩
 exact C3 ⟨g, rfl, by simp, by simp⟩
end
section
variable {cx : Cx} {keep : List Nat} {ops0 : Array Oper} {r : List Oper} {A : Asr} {Q : Asr → List Log → Prop} {d : Nat} {ty : Nat} {pos : String} {aft : Array Edge}
theorem B4 {a : Operand} {T id g m s i j : Nat} {es : List AV} {e v : AV} (ha : opd A a = some (.ptr id g none i j)) (ho : look A (.h id) = some (.obj g m s es)) (he : es[i]? = some e) (hn : ((leaves e).all fun l => !isOwn l) = true)
  (hp : partF cx.P T ((leaves e).drop j) = some v) (hk : slotOk keep (.t d) v = true)
  (h : XR cx keep ops0 r ((.t d, v) :: A) fun A' lg => Q A' ((rds a ++ [.h id], [.t d]) :: lg)) : XR cx keep ops0 (⟨some d, .load T a, ty, pos, aft, none⟩ :: r) A Q :=
 c1l ha ho he (by rw [a5e _ _ (c7y hn j)]; exact hp) hk h
theorem a1b {α : Type} [Inhabited α] {f : α → AV} {xs : List α} {a : Operand} {T id g m s i j : Nat} {v : AV} (ha : opd A a = some (.ptr id g none i j)) (ho : look A (.h id) = some (.obj g m s (xs.map f))) (hi : i < xs.length)
  (hn : ∀ a, ((leaves (f a)).all fun l => !isOwn l) = true) (hp : partF cx.P T ((leaves (f (xs.getD i default))).drop j) = some v) (hk : slotOk keep (.t d) v = true)
  (h : XR cx keep ops0 r ((.t d, v) :: A) fun A' lg => Q A' ((rds a ++ [.h id], [.t d]) :: lg)) : XR cx keep ops0 (⟨some d, .load T a, ty, pos, aft, none⟩ :: r) A Q :=
 B4 (e := f (xs.getD i default)) ha ho (by rw [List.getElem?_map, List.getElem?_eq_getElem hi, List.getD_eq_getElem?_getD, List.getElem?_eq_getElem hi]; rfl) (hn _) hp hk h
theorem I5 {α : Type} [Inhabited α] {f : α → AV} {xs : List α} {a : Operand} {T id g m s i : Nat} (ha : opd A a = some (.ptr id g none i 0)) (ho : look A (.h id) = some (.obj g m s (xs.map f))) (hi : i < xs.length)
  (hn : ∀ a, ((leaves (f a)).all fun l => !isOwn l) = true) (hp : ∀ a, partF cx.P T (leaves (f a)) = some (f a)) (hk : slotOk keep (.t d) (f (xs.getD i default)) = true)
  (h : XR cx keep ops0 r ((.t d, f (xs.getD i default)) :: A) fun A' lg => Q A' ((rds a ++ [.h id], [.t d]) :: lg)) : XR cx keep ops0 (⟨some d, .load T a, ty, pos, aft, none⟩ :: r) A Q :=
 a1b ha ho hi hn (hp _) hk h
theorem C5 {a : Operand} {T id g m s : Nat} {e : AV} (ha : opd A a = some (.ptr id g none 0 0)) (ho : look A (.h id) = some (.obj g m s [e])) (hn : ((leaves e).all fun l => !isOwn l) = true)
  (hp : partF cx.P T (leaves e) = some e) (hk : slotOk keep (.t d) e = true)
  (h : XR cx keep ops0 r ((.t d, e) :: A) fun A' lg => Q A' ((rds a ++ [.h id], [.t d]) :: lg)) : XR cx keep ops0 (⟨some d, .load T a, ty, pos, aft, none⟩ :: r) A Q :=
 B4 ha ho rfl hn hp hk h
theorem C6 {a : Operand} {T : Nat} {e : AV} (ha : opd A a = some (.ipt e 0)) (hp : partF cx.P T (leaves e) = some e) (hk : slotOk keep (.t d) e = true)
  (h : XR cx keep ops0 r ((.t d, e) :: A) fun A' lg => Q A' ((rds a, [.t d]) :: lg)) : XR cx keep ops0 (⟨some d, .load T a, ty, pos, aft, none⟩ :: r) A Q :=
 c1d ha hp hk h
theorem M0 {α : Type} [Inhabited α] {f : α → AV} {xs : List α} {y : α} {T id g m s i : Nat} {a x : Operand} (ha : opd A a = some (.ptr id g none i 0)) (ho : look A (.h id) = some (.obj g m s (xs.map f))) (hx : opd A x = some (f y)) (hi : i < xs.length)
  (hl : ∀ a b, b3g (leaves (f b)) (f a) = true ∧ (leaves (f a)).length = (tyS cx.P T).size ∧ 0 < (leaves (f a)).length ∧ (leaves (f a)).length ≤ (leaves (f b)).length ∧ Y0 (leaves (f a)) (leaves (f b)) = true ∧ putAt (f b) 0 (f a) = f a) (hm : m ≠ 2)
  (hko : slotOk keep (.h id) (.obj g m s ((xs.set i y).map f)) = true)
  (h : XR cx keep ops0 r ((.h id, .obj g m s ((xs.set i y).map f)) :: A) fun A' lg => Q A' ((rds a ++ (rds x ++ [.h id, .h id, .h id]), [.h id]) :: lg)) :
  XR cx keep ops0 (⟨none, .store T a x, ty, pos, aft, none⟩ :: r) A Q := b8u ha hx ho hi hl hm hko h
theorem C2 {T id g m s : Nat} {a x : Operand} {e v : AV} (ha : opd A a = some (.ptr id g none 0 0)) (hx : opd A x = some v) (ho : look A (.h id) = some (.obj g m s [e]))
  (hl : b3g (leaves e) v = true) (hc : m ≠ 2 ∧ (leaves v).length = (tyS cx.P T).size ∧ 0 < (leaves v).length ∧ (leaves v).length ≤ (leaves e).length ∧ Y0 (leaves v) (leaves e) = true) (hp : putAt e 0 v = v)
  (hko : slotOk keep (.h id) (.obj g m s [v]) = true)
  (h : XR cx keep ops0 r ((.h id, .obj g m s [v]) :: A) fun A' lg => Q A' ((rds a ++ (rds x ++ [.h id, .h id, .h id]), [.h id]) :: lg)) :
  XR cx keep ops0 (⟨none, .store T a x, ty, pos, aft, none⟩ :: r) A Q :=
 c3v (i := 0) (j := 0) ha hx ho rfl hl ⟨hc.1, hc.2.1, hc.2.2.1, by have := hc.2.2.2.1; omega, hc.2.2.2.2⟩ (by rw [hp]; exact hko) (by rw [hp]; exact h)
theorem Z6 {α : Type} {f : α → AV} {xs ys : List α} {T T' E s id g n id2 g2 m2 off n2 : Nat} {x y : Operand} {z : AV} (hx : opd A x = some (.sl id g none 0 n)) (hy : opd A y = some (.sl id2 g2 none off n2)) (ho : look A (.h id) = some (.obj g 0 s (xs.map f))) (ho2 : look A (.h id2) = some (.obj g2 m2 s (ys.map f)))
  (hid : id2 < 1000000) (hb2 : bxB m2 none = false) (hn : n = (xs.map f).length) (hn2 : off + n2 ≤ ys.length) (hT : P7 cx.P T = some (E, s)) (hT' : N7 (tyS cx.P T').k = true) (hz : a0r cx.P E = some (z, s)) (hb : (tyS cx.P E).bytes ≤ 4096)
  (hf : ∀ a, (leaves (f a)).all cellLeaf = true ∧ M6 (f a) = true ∧ L3 (f a) = true)
  (hle : xs.length + n2 ≤ H6) (hk : ∀ g, slotOk keep (.t d) (.sl (tid d 0) g none 0 (xs ++ (ys.drop off).take n2).length) = true)
  (h : ∀ g', XR cx keep ops0 r ((.t d, .sl (tid d 0) g' none 0 (xs ++ (ys.drop off).take n2).length) :: (.h (tid d 0), .obj g' 0 s ((xs ++ (ys.drop off).take n2).map f)) :: (.h id, .dead g) :: A) fun A' lg => Q A' ((rds x ++ (rds y ++ [.h id2, .h id2, .h id, .h (tid d 0)]), [.h id, .h (tid d 0), .t d]) :: lg)) :
  XR cx keep ops0 (⟨some d, .call ⟨.builtin .append, #[x, y], #[T, T']⟩, ty, pos, aft, none⟩ :: r) A Q := by
 obtain ⟨h1, h2, h3, h4⟩ := W5 hz
 have hl2 : ((ys.drop off).take n2).length = n2 := by simp; omega
 have el : (xs ++ (ys.drop off).take n2).length = xs.length + n2 := by rw [List.length_append, hl2]
 have em : (((ys.map f).drop off).take n2) = ((ys.drop off).take n2).map f := by rw [List.map_take, List.map_drop]
 subst hn
 refine a3b (v := fun g' => .sl (tid d 0) g' none 0 (xs ++ (ys.drop off).take n2).length) (ws := fun g' => [(.h id, .dead g), (.h (tid d 0), .obj g' 0 s ((xs ++ (ys.drop off).take n2).map f))]) (ls := rds x ++ (rds y ++ [.h id2, .h id2, .h id, .h (tid d 0)])) rfl ?_
  (fun g => C9 (by simp [slotOk, refOkV]) (C9 (A9 (A7 fun a => (hf a).2.1)) (J6 (hk g)))) (fun g => rfl) (fun g => a6y _ _ _ _ _ _ _) h
 simp only [aopV, dstOf]
 refine A6 (I4 (show wpA (CW cx) A (.ret d) _ from ?_))
 show wpW (CW cx) (puts A []) _ _
 refine A6 (E8 hT' (A6 (J9 hx (A6 (J9 hy ?_)))))
 unfold a2e
 refine A6 (V9 hT (A6 (E8 ⟨hb, h3, h4⟩ (A6 ?_))))
 simp only [c2e]
 refine A6 (K3 ho2 (A6 (E8 h2.symm ?_)))
 rw [if_neg (by omega)]
 refine A6 (I4 ?_)
 simp only [slc, rdNode, E3]
 rw [O3 (by exact ho2)]
 simp only [E3, F8, F4, hb2, List.length_map, hn2, true_and, and_true, List.append_nil, List.nil_append]
 rw [em, if_pos (a2f fun a => (hf a).2.2)]
 refine C3 ?_
 refine A6 (E8 (a4s fun a => (hf a).1) ?_)
 refine A6 (K3 ho (A6 (E8 ⟨rfl, by simp, h2.symm, by simp only [List.length_map, hl2]; exact hle⟩ (A6 (J2 (A6 (M5 fun o => A6 (J2 (C3 ?_)))))))))
 have e3 : xs.length + (((ys.drop off).take n2).map f).length = (xs ++ (ys.drop off).take n2).length := by rw [el, List.length_map, hl2]
 have e4 : List.take xs.length (xs.map f) = xs.map f := by rw [← List.length_map (f := f), List.take_length]
 exact ⟨H3 o + 1, by rw [e3], by simp only [e4, List.map_append]; simp, by simp⟩
theorem b1e {x : Operand} {T E id g n m : Nat} {p : Option (Nat × Nat)} {off : Nat} {hi : Option Operand} {ls1 : List Mv.Loc} (hx : opd A x = some (.sl id g p off n)) (hT : (tyS cx.P T).k = .slice E) (hb : O8 (tyS cx.P E).k = false)
  (hh : wpA (CW cx) A (optNat hi n) fun k ls => k = m ∧ ls = ls1) (hc : m ≤ n) (hk : slotOk keep (.t d) (.sl id g p off m) = true)
  (h : XR cx keep ops0 r ((.t d, .sl id g p off m) :: A) fun A' lg => Q A' ((rds x ++ ls1, [.t d]) :: lg)) : XR cx keep ops0 (⟨some d, .slice T x none hi none, ty, pos, aft, none⟩ :: r) A Q := by
 refine K5 (fun o ho => by simp only [aopV, ho]) ?_ hk h
 simp only [opV, E3, E5 hx, sliceA, hT, optNat, F4, List.nil_append]
 refine M2 ?_ hh
 rintro _ _ ⟨rfl, rfl⟩
 simp only [F8, hb, F4, ne_eq, not_true_eq_false, false_and, if_false, if_true, List.append_nil, List.nil_append, and_self, and_true, true_and, true_or, Nat.le_refl, Nat.zero_le, hc]
theorem c0b {x : Operand} {T E id g n m l k0 s : Nat} {off : Nat} {lo hi : Option Operand} {es : List AV} {ls1 ls2 : List Mv.Loc} (hx : opd A x = some (.sl id g none off n)) (ho : look A (.h id) = some (.obj g k0 s es)) (hT : P7 cx.P T = some (E, s))
  (hh : wpA (CW cx) A (optNat hi n) fun k ls => k = m ∧ ls = ls1) (hl : wpA (CW cx) A (optNat lo 0) fun k ls => k = l ∧ ls = ls2) (hc : l ≤ m ∧ m ≤ n) (hl0 : l ≠ 0) (hk : slotOk keep (.t d) (.sl id g none (off + l) (m - l)) = true)
  (h : XR cx keep ops0 r ((.t d, .sl id g none (off + l) (m - l)) :: A) fun A' lg => Q A' ((rds x ++ (ls1 ++ (ls2 ++ [.h id])), [.t d]) :: lg)) : XR cx keep ops0 (⟨some d, .slice T x lo hi none, ty, pos, aft, none⟩ :: r) A Q := by
 refine K5 (fun o ho => by simp only [aopV, ho]) ?_ hk h
 unfold P7 at hT
 split at hT
 ·rename_i E' hE
  split at hT
  ·rename_i hbad'
   simp only [Option.some.injEq, Prod.mk.injEq] at hT
   obtain ⟨rfl, hs⟩ := hT
   simp only [opV, E3, E5 hx, sliceA, hE, optNat, F4, List.nil_append]
   refine M2 ?_ hh
   rintro _ _ ⟨rfl, rfl⟩
   refine M2 ?_ hl
   rintro _ _ ⟨rfl, rfl⟩
   simp only [F8, hbad', ne_eq, not_true_eq_false, false_and, if_false, and_self, and_true, true_and, true_or, Nat.le_refl, hc, hl0, E3, rdNode, O3 ho, F4, hs, List.nil_append, List.append_nil, List.append_assoc, List.singleton_append]
  ·cases hT
 ·cases hT
theorem I0 {C : Caller} {A : Asr} {x : Operand} {k : IntKind} {n : Nat} {dflt : Nat} (h : opd A x = some (.val (.int k (n : Int)))) : wpA C A (optNat (some x) dflt) fun m ls => m = n ∧ ls = rds x := by
 have := a4i (C := C) (dflt := dflt) h (Int.natCast_nonneg n)
 simpa using this
theorem d0c {α : Type} {C : Caller} {A : Asr} {x : Rd α} {R : α → Ws → List Mv.Loc → Prop} {ls0 : List Mv.Loc} (h : wpA C A x fun a ls => (∀ l ∈ ls, l ∈ ls0) ∧ R a [] ls0) : wpW C A (up x) R := by
 intro st hs
 obtain ⟨a, ls, h1, h2, h3⟩ := b3r hs _ _ h
 exact ⟨a, [], ls, ls0, c2t x h1, h2, h3⟩
theorem a8y {x : Operand} {T E id g n m l k0 s : Nat} {off : Nat} {lo hi : Option Operand} {es : List AV} {ls1 ls2 : List Mv.Loc} (hx : opd A x = some (.sl id g none off n)) (ho : look A (.h id) = some (.obj g k0 s es)) (hT : P7 cx.P T = some (E, s))
  (hh : wpA (CW cx) A (optNat hi n) fun k ls => k = m ∧ ls = ls1) (hl : wpA (CW cx) A (optNat lo 0) fun k ls => k = l ∧ ls = ls2) (hc : l ≤ m ∧ m ≤ n) (hk : slotOk keep (.t d) (.sl id g none (off + l) (m - l)) = true)
  (h : XR cx keep ops0 r ((.t d, .sl id g none (off + l) (m - l)) :: A) fun A' lg => Q A' ((rds x ++ (ls1 ++ (ls2 ++ [.h id])), [.t d]) :: lg)) : XR cx keep ops0 (⟨some d, .slice T x lo hi none, ty, pos, aft, none⟩ :: r) A Q := by
 by_cases hl0 : l = 0
 ·refine d0k (v := .sl id g none (off + l) (m - l)) (ws := []) (ls := rds x ++ (ls1 ++ (ls2 ++ [.h id]))) rfl ?_ (J6 hk) (fun k b hb => by rw [← hb]; exact (a2n A _ _ k).symm) h
  show wpW (CW cx) A (up (opV cx (.slice T x lo hi none))) _
  refine d0c (ls0 := rds x ++ (ls1 ++ (ls2 ++ [.h id]))) ?_
  unfold P7 at hT
  split at hT
  ·rename_i E' hE
   split at hT
   ·rename_i hbad'
    simp only [opV, E3, E5 hx, sliceA, hE, optNat, F4, List.nil_append]
    refine M2 ?_ hh
    rintro _ _ ⟨rfl, rfl⟩
    refine M2 ?_ hl
    rintro _ _ ⟨rfl, rfl⟩
    simp only [F8, hbad', ne_eq, not_true_eq_false, false_and, if_false, and_self, and_true, true_and, true_or, Nat.le_refl, hc, hl0, if_true, F4, Nat.add_zero, Nat.sub_zero, List.append_nil]
    refine ⟨Nat.zero_le _, fun q hq => ?_⟩
    simp only [List.mem_append] at hq ⊢
    rcases hq with hq | hq | hq
    ·exact .inl hq
    ·exact .inr (.inl hq)
    ·exact .inr (.inr (.inl hq))
   ·cases hT
  ·cases hT
 ·exact c0b hx ho hT hh hl hc hl0 hk h
theorem d2k {x : Operand} {T E id g n : Nat} {hi mx : Operand} {k k' : IntKind} (hx : opd A x = some (.sl id g none 0 n)) (hT : (tyS cx.P T).k = .slice E) (hb : O8 (tyS cx.P E).k = false)
  (hh : opd A hi = some (.val (.int k n))) (hm : opd A mx = some (.val (.int k' n))) (hk : slotOk keep (.t d) (.sl id g none 0 n) = true)
  (h0 : n = 0 → XR cx keep ops0 r ((.t d, .nil) :: A) fun A' lg => Q A' ((rds x ++ (rds mx ++ rds hi), [.t d]) :: lg))
  (h : n ≠ 0 → XR cx keep ops0 r ((.t d, .sl id g none 0 n) :: A) fun A' lg => Q A' ((rds x ++ (rds mx ++ rds hi), [.t d]) :: lg)) : XR cx keep ops0 (⟨some d, .slice T x none (some hi) (some mx), ty, pos, aft, none⟩ :: r) A Q := by
 have e : (n : Int).toNat = n := by simp
 by_cases hn : n = 0
 ·refine K5 (v := .nil) (fun o ho => by simp only [aopV, ho]) ?_ (by simp [slotOk, refOkV, refsOk]) (h0 hn)
  simp only [opV, E3, E5 hx, sliceA, hT, optNat, E5 hh, E5 hm, V0 (Int.natCast_nonneg n), e, F4, F8, hb]
  simp [hn, wpA]
 ·refine K5 (v := .sl id g none 0 n) (fun o ho => by simp only [aopV, ho]) ?_ hk (h hn)
  simp only [opV, E3, E5 hx, sliceA, hT, optNat, E5 hh, E5 hm, V0 (Int.natCast_nonneg n), e, F4, F8, hb]
  simp [hn, wpA]
end
theorem b2p {α : Type} {f : α → AV} {xs : List α} (h : ∀ a, hasList (f a) = false) : G2 (xs.map f) = false := by
 induction xs with
 | nil => rfl
 | cons x xs ih => simp [G2, h, ih]
end Go.Mv
end

section
namespace Go.Mv
open Go
theorem a4z (x : Int) (r : List Int) : (a5p x r).Perm (x :: r) := by
 induction r with
 | nil => exact .refl _
 | cons y r ih =>
  simp only [a5p]
  split
  ·exact .refl _
  ·exact (List.Perm.cons y ih).trans (List.Perm.swap x y r)
theorem a5t (xs : List Int) : (T7 xs).Perm xs := by
 induction xs with
 | nil => exact .refl _
 | cons x r ih => exact (a4z x (T7 r)).trans (List.Perm.cons x ih)
theorem a0w (x : Int) (r : List Int) (h : r.Pairwise (· ≤ ·)) : (a5p x r).Pairwise (· ≤ ·) := by
 induction r with
 | nil => simp [a5p]
 | cons y r ih =>
  simp only [a5p]
  have h2 := List.pairwise_cons.1 h
  split
  ·rename_i hxy
   refine List.pairwise_cons.2 ⟨fun z hz => ?_, h⟩
   rcases List.mem_cons.1 hz with rfl | hz
   ·exact hxy
   ·have := h2.1 z hz; omega
  ·rename_i hxy
   refine List.pairwise_cons.2 ⟨fun z hz => ?_, ih h2.2⟩
   rcases List.mem_cons.1 ((a4z x r).mem_iff.1 hz) with rfl | hz
   ·omega
   ·exact h2.1 z hz
theorem W6 (xs : List Int) : (T7 xs).Pairwise (· ≤ ·) := by
 induction xs with
 | nil => exact .nil
 | cons x r ih => exact a0w x _ ih
theorem c0g {xs ys : List Int} (hp : ys.Perm xs) (hs : ys.Pairwise (· ≤ ·)) : ys = T7 xs :=
 List.Perm.eq_of_pairwise (le := (· ≤ ·)) (fun a b _ _ h1 h2 => by omega) hs (W6 xs) (hp.trans (a5t xs).symm)
theorem a8h {s : List Int} (h : s.Pairwise (· ≤ ·)) {i j : Nat} (hij : i ≤ j) (hj : j < s.length) : s.getD i default ≤ s.getD j default := by
 rw [List.getD_eq_getElem?_getD, List.getD_eq_getElem?_getD, List.getElem?_eq_getElem (by omega), List.getElem?_eq_getElem hj]
 rcases Nat.lt_or_ge i j with h1 | h1
 ·exact List.pairwise_iff_getElem.1 h i j (by omega) hj h1
 ·have : i = j := by omega
  subst this
  exact Int.le_refl _
theorem a3j {xs : List Int} {x : Int} (h : x ∈ xs) : ∃ i, i < xs.length ∧ xs.getD i default = x := by
 obtain ⟨i, hi, rfl⟩ := List.getElem_of_mem h
 exact ⟨i, hi, by rw [List.getD_eq_getElem?_getD, List.getElem?_eq_getElem hi]; rfl⟩
theorem a5k {out : List Int} {x : Int} {k : Nat} (hs : out.Pairwise (· ≤ ·)) (hk : k ≤ out.length) (h1 : ∀ j, j < k → out.getD j default ≤ x) (h2 : k < out.length → x ≤ out.getD k default) :
  out.take k ++ [x] ++ out.drop k = a5p x out := by
 have hp : (out.take k ++ [x] ++ out.drop k).Perm (x :: out) := by
  have := (List.perm_middle (l₁ := out.take k) (l₂ := out.drop k) (a := x))
  rw [List.take_append_drop] at this
  rw [List.append_assoc]; exact this
 have hsrt : (out.take k ++ [x] ++ out.drop k).Pairwise (· ≤ ·) := by
  rw [List.append_assoc, List.pairwise_append]
  refine ⟨hs.take, ?_, ?_⟩
  ·rw [List.singleton_append, List.pairwise_cons]
   refine ⟨fun b hb => ?_, hs.drop⟩
   obtain ⟨i, hi, rfl⟩ := a3j hb
   rw [List.length_drop] at hi
   have e : (out.drop k).getD i default = out.getD (k + i) default := by rw [List.getD_eq_getElem?_getD, List.getD_eq_getElem?_getD, List.getElem?_drop]
   rw [e]
   exact Int.le_trans (h2 (by omega)) (a8h hs (by omega) (by omega))
  ·intro a ha b hb
   obtain ⟨i, hi, rfl⟩ := a3j ha
   rw [List.length_take] at hi
   have e : (out.take k).getD i default = out.getD i default := by rw [List.getD_eq_getElem?_getD, List.getD_eq_getElem?_getD, List.getElem?_take, if_pos (by omega)]
   rw [e]
   rw [List.singleton_append, List.mem_cons] at hb
   rcases hb with rfl | hb
   ·exact h1 i (by omega)
   ·obtain ⟨j, hj, rfl⟩ := a3j hb
    rw [List.length_drop] at hj
    have e2 : (out.drop k).getD j default = out.getD (k + j) default := by rw [List.getD_eq_getElem?_getD, List.getD_eq_getElem?_getD, List.getElem?_drop]
    rw [e2]
    exact a8h hs (by omega) (by omega)
 exact List.Perm.eq_of_pairwise (le := (· ≤ ·)) (fun a b _ _ h1 h2 => by omega) hsrt (a0w x out hs) (hp.trans (a4z x out).symm)
theorem a8g {out : List Int} {x : Int} {k : Nat} (hs : out.Pairwise (· ≤ ·)) (hk : k ≤ out.length) (h1 : ∀ j, j < k → out.getD j default ≤ x) (h2 : k < out.length → x ≤ out.getD k default) :
  (([] ++ (out.drop 0).take k) ++ [x]) ++ (out.drop (0 + k)).take (out.length - k) = a5p x out := by
 rw [← a5k hs hk h1 h2]
 simp
 exact List.take_of_length_le (by simp)
theorem b0u {xs : List Int} {i : Nat} (h : i < xs.length) : T7 (xs.take (i + 1)) = a5p (xs.getD i default) (T7 (xs.take i)) := by
 refine (c0g ?_ (a0w _ _ (W6 _))).symm
 have e : xs.take (i + 1) = xs.take i ++ [xs.getD i default] := by
  rw [List.take_add_one, List.getD_eq_getElem?_getD, List.getElem?_eq_getElem h]; rfl
 rw [e]
 exact ((a4z _ _).trans (List.Perm.cons _ (a5t _))).trans (List.perm_append_comm (l₁ := [xs.getD i default]) (l₂ := xs.take i))
def bitN (s i : Nat) : Nat := s / 2 ^ i % 2
theorem c5h (s i : Nat) : bitN s i = 1 ↔ s.testBit i = true := by
 unfold bitN
 rw [Nat.testBit_eq_decide_div_mod_eq, decide_eq_true_eq]
theorem d0m (s i : Nat) : bitN s i = 0 ∨ bitN s i = 1 := by unfold bitN; omega
theorem b2n (i j : Nat) : bitN (2 ^ i) j = 1 ↔ j = i := by
 rw [c5h, Nat.testBit_two_pow]
 simp [eq_comm]
section
variable {cx : Cx} {keep : List Nat} {ops0 : Array Oper} {r : List Oper} {A : Asr} {Q : Asr → List Log → Prop} {d : Nat} {ty : Nat} {pos : String} {aft : Array Edge}
end
end Go.Mv
end

section
namespace Go.Mv
open Go Classical
section
variable {cx : Cx} {keep : List Nat} {ops0 : Array Oper} {r : List Oper} {A : Asr} {Q : Asr → List Log → Prop} {d : Nat} {ty : Nat} {pos : String} {aft : Array Edge}
theorem c7p {T z : Nat} {a b : Operand} {x y : ByteArray} {t : Bool} (ha : opd A a = some (.val (.string x))) (hb : opd A b = some (.val (.string y))) (ht : (x.toList == y.toList) = t)
  (h : XR cx keep ops0 r ((.t d, bV t) :: A) fun A' lg => Q A' ((rds a ++ rds b, [.t d]) :: lg)) : XR cx keep ops0 (⟨some d, .binOp .eql T a b z, ty, pos, aft, none⟩ :: r) A Q := by
 subst ht; exact I8 ha hb h
end
def a7p (lo hi : Int) (xs : List Int) : Bool := xs.all fun x => decide (lo ≤ x) && decide (x ≤ hi)
theorem a1z {lo hi : Int} {xs : List Int} : a7p lo hi xs = true ↔ ∀ i, i < xs.length → lo ≤ xs.getD i default ∧ xs.getD i default ≤ hi := by
 unfold a7p
 rw [List.all_eq_true]
 constructor
 ·intro h i hi'
  have := h _ (a6d hi')
  simpa using this
 ·intro h x hx
  obtain ⟨i, hi', rfl⟩ := a3j hx
  simpa using h i hi'
def c5u (l : List Int) (s : Nat) : Nat → List Int
 | 0 => []
 | k + 1 => if bitN s k = 1 then c5u l s k ++ [l.getD k default] else c5u l s k
def sel (l : List Int) (s : Nat) : List Int := c5u l s l.length
theorem b7l (l : List Int) (i : Nat) : ∀ k, c5u l (2 ^ i) k = if i < k then [l.getD i default] else []
 | 0 => by simp [c5u]
 | k + 1 => by
  unfold c5u
  rw [b7l l i k]
  by_cases e : k = i
  ·subst e; rw [if_pos ((b2n k k).2 rfl)]; simp
  ·rw [if_neg (fun h => e ((b2n i k).1 h))]
   by_cases h : i < k
   ·rw [if_pos h, if_pos (by omega)]
   ·rw [if_neg h, if_neg (by omega)]
theorem c9u {l : List Int} {i : Nat} (hi : i < l.length) : sel l (2 ^ i) = [l.getD i default] := by
 unfold sel; rw [b7l, if_pos hi]
def Fnd (e : Bool) (s : List Int) (lev : Int) : Prop := ∃ i, i < s.length ∧ s.getD i default * s.length ≤ if e then ((i : Int) + 1) * lev else lev
theorem Fnd.mono {e : Bool} {s : List Int} {lev lev' : Int} (h : Fnd e s lev) (hl : lev ≤ lev') : Fnd e s lev' := by
 obtain ⟨i, hi, h⟩ := h
 refine ⟨i, hi, ?_⟩
 cases e
 ·simp only [Bool.false_eq_true, if_false] at h ⊢; omega
 ·simp only [if_true] at h ⊢
  have := Int.mul_le_mul_of_nonneg_left hl (show (0 : Int) ≤ (i : Int) + 1 by omega)
  omega
theorem Fnd.each {e : Bool} {s : List Int} {lev : Int} (h : Fnd e s lev) (h0 : 0 ≤ lev) : Fnd true s lev := by
 obtain ⟨i, hi, h⟩ := h
 refine ⟨i, hi, ?_⟩
 cases e
 ·simp only [Bool.false_eq_true, if_false, if_true] at h ⊢
  have := Int.mul_le_mul_of_nonneg_right (show (1 : Int) ≤ (i : Int) + 1 by omega) h0
  omega
 ·exact h
def CPr (l : List Int) (lev : Int) (e : Bool) (i : Nat) : Prop := ∀ s, 1 ≤ s → s < 2 ^ l.length → bitN s i = 1 → Fnd e (T7 (sel l s)) lev
noncomputable def d3l (l : List Int) (lev : Int) (e : Bool) (k : Nat) : List Int := ((List.range k).filter fun i => decide (CPr l lev e i)).map Int.ofNat
noncomputable def clo (l : List Int) (lev : Int) (e : Bool) : List Int := d3l l lev e l.length
theorem CPr.le {l : List Int} {lev : Int} {e : Bool} {i : Nat} (h : CPr l lev e i) (hi : i < l.length) : l.getD i default ≤ lev := by
 have := h (2 ^ i) (Nat.one_le_two_pow) (Nat.pow_lt_pow_right (by decide) hi) ((b2n i i).2 rfl)
 rw [c9u hi] at this
 obtain ⟨j, hj, h2⟩ := this
 have : j = 0 := by simp [T7, a5p] at hj; omega
 subst this
 cases e <;> simp [T7, a5p] at h2 <;> simpa using h2
def Mis (l : List Int) (lev : Int) (e : Bool) (s mi : Nat) : Prop := 1 ≤ s ∧ s ≤ 2 ^ l.length ∧ mi < 2 ^ l.length ∧ ∀ i, i < l.length → (bitN mi i = 1 ↔ ∃ s', 1 ≤ s' ∧ s' < s ∧ bitN s' i = 1 ∧ ¬ Fnd e (T7 (sel l s')) lev)
theorem Mis.start (l : List Int) (lev : Int) (e : Bool) : Mis l lev e 1 0 := by
 refine ⟨Nat.le_refl _, Nat.one_le_two_pow, Nat.two_pow_pos _, fun i hi => ⟨fun h => ?_, fun ⟨s', h1, h2, _⟩ => by omega⟩⟩
 unfold bitN at h; simp at h
theorem Mis.fin {l : List Int} {lev : Int} {e : Bool} {s mi : Nat} (h : Mis l lev e s mi) (hs : 2 ^ l.length ≤ s) {i : Nat} (hi : i < l.length) : bitN mi i = 0 ↔ CPr l lev e i := by
 obtain ⟨h1, h2, h3, h4⟩ := h
 have := h4 i hi
 have h5 := d0m mi i
 constructor
 ·intro h0 s' q1 q2 q3
  refine Classical.byContradiction fun hn => ?_
  have := this.2 ⟨s', q1, by omega, q3, hn⟩
  omega
 ·intro hc
  rcases h5 with h5 | h5
  ·exact h5
  ·obtain ⟨s', q1, q2, q3, q4⟩ := this.1 h5
   exact absurd (hc s' q1 (by omega) q3) q4
theorem d0a {xs : List Int} {q : Int → Bool} {i : Nat} (hi : i < xs.length) (h : q (xs.getD i default) = true) : decide (0 ≤ (i : Int)) = xs.any q := by
 rw [decide_eq_true (Int.natCast_nonneg i)]
 exact (List.any_eq_true.2 ⟨_, a6d hi, h⟩).symm
theorem c8f {xs : List Int} {q : Int → Bool} (h : ∀ j, j < xs.length → q (xs.getD j default) = false) : decide (0 ≤ (-1 : Int)) = xs.any q := by
 have : xs.any q = false := by
  rw [List.any_eq_false]
  intro x hx
  obtain ⟨i, hi, rfl⟩ := a3j hx
  rw [h i hi]; decide
 rw [this]; rfl
theorem c8h (lo hi : Int) (xs : List Int) : (!(xs.any fun x => !(decide (lo ≤ x) && decide (x ≤ hi)))) = a7p lo hi xs := by
 unfold a7p
 rw [List.not_any_eq_all_not]
 simp
theorem a1k {α : Type} [Inhabited α] {xs : List α} {i : Nat} (h : i < xs.length) : xs.getD i default ∈ xs := by
 rw [List.getD_eq_getElem?_getD, List.getElem?_eq_getElem h]
 exact List.getElem_mem h
def FndAt (e : Bool) (s : List Int) (lev : Int) (j : Nat) : Prop := (e = true ∧ s.getD j default * (s.length : Int) ≤ lev * ((j : Int) + 1)) ∨ s.getD j default * (s.length : Int) ≤ lev
theorem FndAt.none {e : Bool} {s : List Int} {lev : Int} (hl : 0 ≤ lev ∧ lev ≤ 1000) (h : ∀ j, j < s.length → ¬ FndAt e s lev j) : ¬ Fnd e s lev := by
 rintro ⟨j, hj, hf⟩
 refine h j hj ?_
 cases e
 ·exact .inr hf
 ·rw [if_pos rfl] at hf
  exact .inl ⟨rfl, by rw [Int.mul_comm lev]; exact hf⟩
theorem CPr.each {l : List Int} {lev : Int} {e : Bool} {i : Nat} (h : CPr l lev e i) (h0 : 0 ≤ lev) : CPr l lev true i := fun s h1 h2 h3 => (h s h1 h2 h3).each h0
theorem CPr.mono {l : List Int} {lev lev' : Int} {e : Bool} {i : Nat} (h : CPr l lev e i) (h0 : lev ≤ lev') : CPr l lev' e i := fun s h1 h2 h3 => (h s h1 h2 h3).mono h0
end Go.Mv
end

section
namespace Go.Mv
open Go
section
variable {cx : Cx} {keep : List Nat} {ops0 : Array Oper} {r : List Oper} {A : Asr} {Q : Asr → List Log → Prop} {d : Nat} {ty : Nat} {pos : String} {aft : Array Edge}
end
def mkI (k : Int) (n : Nat) : List Int := (List.range n).map fun i : Nat => k + (i : Int)
@[simp] theorem mkI_length (k : Int) (n : Nat) : (mkI k n).length = n := by simp [mkI]
def mkF (k : Int) (n : Nat) : List (Int × Int) := (List.range n).map fun i : Nat => (k + 2 * (i : Int), k + 2 * (i : Int) + 1)
@[simp] theorem mkF_length (k : Int) (n : Nat) : (mkF k n).length = n := by simp [mkF]
end Go.Mv
end

section
namespace Go.Mv
open Go
section
variable {cx : Cx} {keep : List Nat} {ops0 : Array Oper} {r : List Oper} {A : Asr} {Q : Asr → List Log → Prop} {d : Nat} {ty : Nat} {pos : String} {aft : Array Edge}
end
end Go.Mv
namespace Go.Mv
open Go
section
variable {cx : Cx} {keep : List Nat} {ops0 : Array Oper} {r : List Oper} {A : Asr} {Q : Asr → List Log → Prop} {d : Nat} {ty : Nat} {pos : String} {aft : Array Edge}
end
theorem d0w {cx : Cx} {keep : List Nat} {A B : Asr} {c : Code} {Q : AExit → Asr → Prop} (h : HasL A B) (hx : XA cx keep c B Q) : XA cx keep c A Q := fun st hs => hx st (h.sat hs)
end Go.Mv
namespace Go.Mv
open Go
theorem a5b {keep : List Nat} {id g m s : Nat} {es : List AV} (h : G7 es = true) (hm : ¬ (m = 3 ∨ m = 4)) : slotOk keep (.h id) (.obj g m s es) = true := by
 simp [slotOk, refOkV, h, hm]
end Go.Mv
namespace Go.Mv
open Go
end Go.Mv
end

section
namespace Go.Mv
open Go
def vd (xs : List Int) : Bool := decide (xs.length ≤ 10) && a7p (-200) 200 xs
theorem a7y {xs : List Int} (h : vd xs = true) : xs.length ≤ 10 := by
 simp only [vd, Bool.and_eq_true, decide_eq_true_eq] at h; exact h.1
theorem c4f {lo hi : Int} {xs : List Int} (h : ∀ i, i < xs.length → lo ≤ xs.getD i default ∧ xs.getD i default ≤ hi) : a7p lo hi xs = true := a1z.2 h
theorem b8v {lo hi : Int} {xs : List Int} {i : Nat} (hi' : i < xs.length) (h : ¬ (lo ≤ xs.getD i default ∧ xs.getD i default ≤ hi)) : a7p lo hi xs = false := by
 rw [Bool.eq_false_iff]
 exact fun h2 => h (a1z.1 h2 i hi')
end Go.Mv
end

section
namespace Go.Mv
open Go
theorem c7g {xs : List Int} (h : vd xs = true) : a7p (-200) 200 xs = true := by
 simp only [vd, Bool.and_eq_true] at h; exact h.2
end Go.Mv
end

section
namespace Go.Mv
open Go
section
variable {cx : Cx} {keep : List Nat} {A : Asr} {Q : AExit → Asr → Prop}
theorem c7r {β : Type} {a b : Code} (K : Asr) (_ : HasL A K) (I : β → Asr) (P : β → Prop) (ha : XA cx keep a A fun r A' => match r with
   | .normal => ∃ b, P b ∧ HasL A' (K ++ I b)
   | r => Q r A')
  (hb : ∀ x, P x → XA cx keep b (K ++ I x) Q) : XA cx keep (.seq a b) A Q := by
 refine A3 ?_
 intro st hs
 obtain ⟨n, r, st1, h1, A', h2, h3⟩ := ha st hs
 refine ⟨n, r, st1, h1, A', h2, ?_⟩
 cases r with
 | normal =>
  obtain ⟨x, hp, hl⟩ := h3
  exact d0w hl (hb x hp)
 | ret => exact h3
 | exit i => exact h3
theorem b7z {a b c : Code} (h : XA cx keep (.seq a (.seq b c)) A Q) : XA cx keep (.seq (.seq a b) c) A Q := by
 intro st hs
 obtain ⟨n, r, st1, h1, h2⟩ := h st hs
 refine ⟨n + 1, r, st1, ?_, h2⟩
 cases n with
 | zero => simp [aexec] at h1
 | succ n =>
  simp only [aexec] at h1 ⊢
  cases ha : aexec (CW cx) cx keep n a st with
  | none => simp [ha] at h1
  | some x =>
   obtain ⟨r1, s1⟩ := x
   have ha' := V8 cx ha (Nat.le_succ n)
   simp only [ha] at h1
   cases r1 with
   | normal =>
    simp only at h1 ⊢
    cases n with
    | zero => simp [aexec] at ha
    | succ n =>
     simp only [aexec] at h1
     cases hb : aexec (CW cx) cx keep n b s1 with
     | none => simp [hb] at h1
     | some y =>
      obtain ⟨r2, s2⟩ := y
      have hb' := V8 cx hb (show n ≤ n + 1 by omega)
      simp only [hb] at h1
      simp only [ha, hb']
      cases r2 with
      | normal => exact V8 cx h1 (show n ≤ n + 1 + 1 by omega)
      | ret => simpa using h1
      | exit i => simpa using h1
   | ret => simpa [ha] using h1
   | exit i => simpa [ha] using h1
theorem G6 {body : Code} (h : XA cx keep body A fun r A' => match r with
  | .normal => XA cx keep (.loop body) A' Q
  | r => Q r A') : XA cx keep (.loop body) A Q := by
 intro st hs
 obtain ⟨n, r, st1, h1, A', h2, h3⟩ := h st hs
 cases r with
 | normal =>
  obtain ⟨m, r2, st2, k1, A2, k2, k3⟩ := h3 st1 h2
  refine ⟨max n m + 1, r2, st2, ?_, A2, k2, k3⟩
  simp only [aexec, V8 cx h1 (Nat.le_max_left n m), V8 cx k1 (Nat.le_max_right n m)]
 | ret => exact ⟨n + 1, _, st1, by simp only [aexec, h1], A', h2, h3⟩
 | exit i => exact ⟨n + 1, _, st1, by simp only [aexec, h1], A', h2, h3⟩
end
section
variable {cx : Cx} {keep : List Nat} {ops0 : Array Oper} {r : List Oper} {A : Asr} {Q : Asr → List Log → Prop} {d : Nat} {ty : Nat} {pos : String} {aft : Array Edge}
end
end Go.Mv
end

section
namespace Go.Mv
open Go
section
variable {cx : Cx} {keep : List Nat} {ops0 : Array Oper} {r : List Oper} {A : Asr} {Q : Asr → List Log → Prop} {d : Nat} {ty : Nat} {pos : String} {aft : Array Edge}
variable {C : Caller} {m f j : Nat} {cs fs : List AV} {G : Type} {vs : G → List AV} {ws : G → Ws} {ls : List Mv.Loc}
def b7m (C : Caller) (A : Asr) (m f j : Nat) (cs fs : List AV) {G : Type} (vs : G → List AV) (ws : G → Ws) (ls : List Mv.Loc) : Prop :=
 wpW C A (absorbLeaves m f j cs fs) fun a w l => ∃ g, a = vs g ∧ w = ws g ∧ l = ls
theorem J0 : b7m C A m f j cs [] (fun _ : Unit => []) (fun _ => []) [] := C3 ⟨(), rfl, rfl, rfl⟩
theorem G1 {v : AV} (h : S5 (cs.headD .undef) v = true) (t : b7m C A m f (j + 1) cs.tail fs vs ws ls) (hm : m ≠ 2 := by decide) : b7m C A m f j cs (v :: fs) (fun g => v :: vs g) ws ls := by
 refine A6 (a4e hm h (A6 (H8 t ?_)))
 rintro _ _ _ ⟨g, rfl, rfl, rfl⟩
 exact C3 ⟨g, rfl, by simp, by simp⟩
theorem V7 {id g s n : Nat} {ys : List AV} (hid : 100000 ≤ id) (hne : id ≠ fid f j) (ho : look A (.h id) = some (.obj g 0 s ys)) (hn : n = ys.length)
  (t : ∀ g', b7m C (put (put A (.h id) (.dead g)) (.h (fid f j)) (.obj g' 0 s ys)) 3 f (j + 1) cs.tail fs vs ws ls) :
  b7m C A 3 f j cs (.sl id g none 0 n :: fs) (fun x : Nat × G => .sl (fid f j) x.1 none 0 n :: vs x.2) (fun x => (.h id, .dead g) :: (.h (fid f j), .obj x.1 0 s ys) :: ws x.2) (.h id :: .h (fid f j) :: ls) := by
 subst hn
 refine A6 ?_
 unfold K7
 simp only [if_true]
 rw [if_pos (by simp [hid, hne])]
 refine A6 (K3 ho ?_)
 simp only [if_true]
 refine A6 (E8 (Nat.le_refl _) (A6 (J2 (A6 (M5 fun o => A6 (J2 (C3 ?_)))))))
 have := t (H3 o + 1)
 simp only [List.take_length]
 refine A6 (H8 this ?_)
 rintro _ _ _ ⟨x, rfl, rfl, rfl⟩
 exact C3 ⟨(H3 o + 1, x), rfl, by simp, by simp⟩
theorem E9 {T id g s i : Nat} {a x : Operand} {es : List AV} {e : AV} (ha : opd A a = some (.ptr id g none i 0)) (hx : opd A x = some (.agg fs)) (ho : look A (.h id) = some (.obj g m s es)) (he : es[i]? = some e)
  (hl : b7m (CW cx) A m id 0 (leaves e) fs vs ws ls) (ho' : ∀ z, look (puts A (ws z)) (.h id) = some (.obj g m s es))
  (hc : m ≠ 2 ∧ fs.length = (tyS cx.P T).size ∧ 0 < fs.length ∧ fs.length ≤ (leaves e).length) (hf : ∀ z, Y0 (vs z) (leaves e) = true) (hp : ∀ z, putAt e 0 (.agg (vs z)) = .agg (vs z))
  (hk : ∀ z, tRefsOk keep (keptWs keep (ws z ++ [(.h id, .obj g m s (es.set i (.agg (vs z))))])) = true)
  (h : ∀ z, XR cx keep ops0 r (J4 A (ws z ++ [(.h id, .obj g m s (es.set i (.agg (vs z))))])) fun A' lg => Q A' ((rds a ++ (rds x ++ (.h id :: (ls ++ [.h id, .h id]))), a1t (ws z ++ [(.h id, .obj g m s (es.set i (.agg (vs z))))])) :: lg)) :
  XR cx keep ops0 (⟨none, .store T a x, ty, pos, aft, none⟩ :: r) A Q := by
 refine c6t (v := fun _ => .undef) (ws := fun z => ws z ++ [(.h id, .obj g m s (es.set i (.agg (vs z))))]) (ls := rds a ++ (rds x ++ (.h id :: (ls ++ [.h id, .h id])))) rfl ?_ (fun z => ?_) (fun z => ?_) (fun z => ?_) (A1 := fun z => J4 A (ws z ++ [(.h id, .obj g m s (es.set i (.agg (vs z))))]))
 ·simp only [aopV]
  refine A6 (E8 (by simp) (A6 (J9 ha (A6 (J9 hx (A6 ?_))))))
  unfold b1a
  rw [if_neg (by simp [b0n])]
  unfold a5r
  refine A6 (K3 ho ?_)
  simp only [he, if_true]
  refine A6 ?_
  simp only [absorb, List.drop_zero]
  refine A6 (H8 hl ?_)
  rintro _ _ _ ⟨z, rfl, rfl, rfl⟩
  refine C3 ?_
  have ho2 := ho' z
  refine A6 (K3 (by simpa [puts] using ho2) ?_)
  simp only [he]
  refine A6 (E8 (by refine ⟨trivial, hc.1, hc.2.1, hc.2.2.1, ?_, hf z, .inl trivial⟩; simpa [leaves] using hc.2.2.2) (A6 (I4 ?_)))
  simp only [wrNode]
  rw [O3 (v := .obj g m s es) (by simpa [puts] using ho2)]
  simp only [F4]
  refine J2 (C3 ?_)
  exact ⟨z, rfl, by simp [hp z], by simp⟩
 ·simpa [setD] using hk z
 ·simpa [setD] using b2d A (ws z ++ [(.h id, .obj g m s (es.set i (.agg (vs z))))])
 ·simpa [setD] using h z
theorem L8 {T id g s k : Nat} {a x : Operand} {e v : AV} (ha : opd A a = some (.ptr id g none 0 k)) (hx : opd A x = some v) (ho : look A (.h id) = some (.obj g 3 s [e])) (hs : b0n v = true) (hT : (tyS cx.P T).size = 1) (he : k + 1 ≤ (leaves e).length)
  (hko : slotOk keep (.h id) (.obj g 3 s [putAt e k v]) = true)
  (h : XR cx keep ops0 r ((.h id, .obj g 3 s [putAt e k v]) :: A) fun A' lg => Q A' ((rds a ++ (rds x ++ [.h id]), [.h id]) :: lg)) :
  XR cx keep ops0 (⟨none, .store T a x, ty, pos, aft, none⟩ :: r) A Q := by
 refine d0k (v := .undef) (ws := [(.h id, .obj g 3 s [putAt e k v])]) (ls := rds a ++ (rds x ++ [.h id])) rfl ?_ (J6 hko) (a9y _ _ _) h
 simp only [aopV]
 refine A6 (E8 (by simp) (A6 (J9 ha (A6 (J9 hx (A6 ?_))))))
 unfold b1a
 rw [if_pos hs]
 unfold b5r
 refine A6 (K3 ho ?_)
 dsimp only
 rw [if_pos (show (3 : Nat) = 3 from rfl)]
 simp only [List.getElem?_cons_zero]
 refine A6 (E8 ⟨hT, he⟩ (J2 (C3 ?_)))
 exact ⟨rfl, by simp, by simp⟩
def b3e (C : Caller) (A : Asr) (b : Bool) (fs vs : List AV) (ws : Ws) (ls : List Mv.Loc) : Prop := wpW C A (retLeaves b fs) fun a w l => a = vs ∧ w = ws ∧ l = ls
variable {b : Bool} {us : List AV} {w1 : Ws}
theorem H7 : b3e C A b [] [] [] [] := C3 ⟨rfl, rfl, rfl⟩
theorem F0 {v : AV} (h : (immLeaf v && !J3 v) = true) (t : b3e C A b fs us w1 ls) : b3e C A b (v :: fs) (v :: us) w1 ls := by
 refine A6 (b4m h (A6 (H8 t ?_)))
 rintro _ _ _ ⟨rfl, rfl, rfl⟩
 exact C3 ⟨rfl, by simp, by simp⟩
theorem F6 {cids : List Cid} {outs : List (List AV)} {a T id g s : Nat} {rs : List ResultVar} {os : List AV} (hv : look A (.t a) = some (.ptr id g none 0 0)) (ho : look A (.h id) = some (.obj g 3 s [.agg fs])) (hn : (fs.all fun l => !isOwn l) = true)
  (hp : partF cx.P T fs = some (.agg fs)) (hr : b3e (CW cx) A b fs us w1 ls) (h : b7q cx b cids outs rs (puts A w1) os) : b7q cx b cids outs (.cell a T :: rs) A (.agg us :: os) := by
 refine a6b ?_
 unfold retVar
 refine A6 (I4 ?_)
 rw [b6l hv]
 refine A6 (I4 ?_)
 simp only [loadG, loadA, rdNode, E3]
 rw [O3 (by exact ho)]
 simp only [E3, F8, F4, true_and, List.getElem?_cons_zero, List.drop_zero, leaves]
 rw [a5e _ _ hn, a5v hp]
 refine A6 (H8 hr ?_)
 rintro a1 w1 l1 ⟨rfl, rfl, rfl⟩
 refine C3 ?_
 have h' : wpW (CW cx) (puts A ([] ++ ([] ++ (w1 ++ [])))) (retAll cx.P b rs) fun us ws _ => us = os ∧ a1a (puts (puts A w1) ws) cids outs := by
  simp only [List.nil_append, List.append_nil]
  exact h
 refine H8 h' ?_
 rintro us' ws' ls' ⟨rfl, h2⟩
 refine ⟨rfl, ?_⟩
 simp only [List.nil_append, List.append_nil, a9d]
 exact h2
variable {k : Nat}
end
end Go.Mv
end

section
namespace Go.Mv
open Go
abbrev Bk := Int × Int × Int
section
variable {P Q v : Nat → Int}
def SegL (P Q v : Nat → Int) : Nat → List Bk → Nat → Prop
 | a, [], e => a = e
 | a, b :: r, e => ∃ m, a < m ∧ b.1 = P m - P a ∧ b.2.1 = Q m - Q a ∧ b.2.2 = v (m - 1) ∧ (∀ k, a < k → k ≤ m → (P m - P a) * (Q k - Q a) ≤ (P k - P a) * (Q m - Q a)) ∧ SegL P Q v m r e
theorem SegL.le : ∀ {l : List Bk} {a e : Nat}, SegL P Q v a l e → a ≤ e
 | [], _, _, h => Nat.le_of_eq h
 | _ :: _, _, _, ⟨_, h1, _, _, _, _, h⟩ => by have := h.le; omega
theorem SegL.append : ∀ {l1 l2 : List Bk} {a e : Nat}, SegL P Q v a (l1 ++ l2) e ↔ ∃ m, SegL P Q v a l1 m ∧ SegL P Q v m l2 e
 | [], l2, a, e => ⟨fun h => ⟨a, rfl, h⟩, fun ⟨m, h1, h2⟩ => by cases (h1 : a = m); exact h2⟩
 | b :: l1, l2, a, e => by
  constructor
  ·rintro ⟨m, h1, h2, h3, h4, h5, h6⟩
   obtain ⟨k, k1, k2⟩ := SegL.append.1 h6
   exact ⟨k, ⟨m, h1, h2, h3, h4, h5, k1⟩, k2⟩
  ·rintro ⟨k, ⟨m, h1, h2, h3, h4, h5, k1⟩, k2⟩
   exact ⟨m, h1, h2, h3, h4, h5, SegL.append.2 ⟨k, k1, k2⟩⟩
theorem Qlt {m : Nat} (hQ : ∀ j, j < m → Q j < Q (j + 1)) : ∀ {b a : Nat}, a < b → b ≤ m → Q a < Q b
 | 0, _, h, _ => by omega
 | b + 1, a, h, hm => by
  have h1 := hQ b (by omega)
  by_cases e : a = b
  ·subst e; exact h1
  ·have := Qlt hQ (b := b) (a := a) (by omega) (by omega); omega
def ltB (x y : Bk) : Prop := x.1 * y.2.1 < y.1 * x.2.1
def Inc : List Bk → Prop
 | [] => True
 | [_] => True
 | b :: c :: r => ltB b c ∧ Inc (c :: r)
theorem Inc.init : ∀ {l : List Bk} {x : Bk}, Inc (l ++ [x]) → Inc l
 | [], _, _ => trivial
 | [_], _, _ => trivial
 | b :: c :: r, x, h => ⟨h.1, Inc.init (l := c :: r) (x := x) h.2⟩
theorem Inc.tail {b : Bk} {r : List Bk} (h : Inc (b :: r)) : Inc r := by
 cases r with
 | nil => trivial
 | cons c r => exact h.2
theorem d2g {X p Y q Z r : Int} (hq : 0 < q) (hp : 0 < p) (hr : 0 < r) (h1 : X * q < Y * p) (h2 : Y * r < Z * q) : X * r < Z * p := by
 refine Int.lt_of_mul_lt_mul_left (a := q) ?_ (by omega)
 have a1 := Int.mul_lt_mul_of_pos_right h1 hr
 have a2 := Int.mul_lt_mul_of_pos_right h2 hp
 grind
theorem d2q {X p Y q u z : Int} (hq : 0 < q) (hp : 0 < p) (hu : 0 < u) (h1 : X * q < Y * p) (h2 : Y * u ≤ z * q) : X * u < z * p := by
 refine Int.lt_of_mul_lt_mul_left (a := q) ?_ (by omega)
 have a1 := Int.mul_lt_mul_of_pos_right h1 hu
 have a2 := Int.mul_le_mul_of_nonneg_right h2 (show 0 ≤ p by omega)
 grind
theorem SegL.above {n : Nat} (hQ : ∀ j, j < n → Q j < Q (j + 1)) {X p : Int} (hp : 0 < p) : ∀ {r : List Bk} {m e : Nat}, e ≤ n → SegL P Q v m r e → Inc r → (∀ b, r.head? = some b → X * b.2.1 < b.1 * p) →
  ∀ k, m < k → k ≤ e → X * (Q k - Q m) < (P k - P m) * p
 | [], m, e, _, h, _, _, k, k1, k2 => by cases (h : m = e); omega
 | b :: r, m, e, he, h, hi, hb, k, k1, k2 => by
  obtain ⟨m', h1, h2, h3, h4, h5, h6⟩ := h
  have hme := h6.le
  have hb0 : X * b.2.1 < b.1 * p := hb b rfl
  rw [h2, h3] at hb0
  clear hb
  have q1 := Qlt hQ h1 (by omega)
  rcases Nat.lt_or_ge m' k with c | c
  ·have a1 := SegL.above hQ hp he h6 hi.tail (fun c hc => by
    cases r with
    | nil => cases hc
    | cons c' r =>
     have hcc : c' = c := Option.some.inj hc
     subst hcc
     obtain ⟨m2, g1, g2, g3, _, _, g6⟩ := h6
     have hlt : ltB b c' := hi.1
     unfold ltB at hlt
     rw [h2, h3] at hlt
     have hm2 := g6.le
     have q2 := Qlt hQ g1 (by omega)
     exact d2g (by omega) hp (by omega) hb0 hlt) k c k2
   have e1 : Q k - Q m = (Q m' - Q m) + (Q k - Q m') := by omega
   have e2 : P k - P m = (P m' - P m) + (P k - P m') := by omega
   rw [e1, e2, Int.mul_add, Int.add_mul]
   omega
  ·have q2 := Qlt hQ k1 (by omega)
   exact d2q (by omega) hp (by omega) hb0 (h5 k k1 c)
theorem SegL.after {n : Nat} (hQ : ∀ j, j < n → Q j < Q (j + 1)) {b : Bk} {r : List Bk} {a m e : Nat} (he : e ≤ n) (h1 : a < m) (h2 : b.1 = P m - P a) (h3 : b.2.1 = Q m - Q a) (h6 : SegL P Q v m r e) (hi : Inc (b :: r)) :
  ∀ k, m < k → k ≤ e → (P m - P a) * (Q k - Q a) < (P k - P a) * (Q m - Q a) := by
 intro k k1 k2
 have hme := h6.le
 have q1 := Qlt hQ h1 (by omega)
 have a1 := SegL.above hQ (X := P m - P a) (p := Q m - Q a) (by omega) he h6 hi.tail (fun c hc => by
  cases r with
  | nil => cases hc
  | cons c' r =>
   have hcc : c' = c := Option.some.inj hc
   subst hcc
   have hlt : ltB b c' := hi.1
   unfold ltB at hlt
   rwa [h2, h3] at hlt) k k1 k2
 have e1 : Q k - Q a = (Q m - Q a) + (Q k - Q m) := by omega
 have e2 : P k - P a = (P m - P a) + (P k - P m) := by omega
 rw [e1, e2, Int.mul_add, Int.add_mul]
 omega
def fiU : List Bk → Int → Nat
 | [], _ => 0
 | b :: r, x => if x ≤ b.2.2 then 0 else fiU r x + 1
theorem SegL.has {n : Nat} (hv : ∀ i j, i < j → j < n → v i < v j) : ∀ {bs : List Bk} {a e g : Nat}, e ≤ n → SegL P Q v a bs e → g < e → a < e → fiU bs (v g) < bs.length
 | [], a, e, g, _, h, _, h2 => by cases (h : a = e); omega
 | b :: r, a, e, g, he, h, hg, _ => by
  obtain ⟨m, h1, h2, h3, h4, h5, h6⟩ := h
  unfold fiU
  split
  ·simp
  ·rename_i c
   have hm := h6.le
   have hgm : m ≤ g := by
    refine Classical.byContradiction fun hc => c ?_
    rw [h4]
    rcases Nat.lt_or_ge g (m - 1) with c2 | c2
    ·have := hv g (m - 1) c2 (by omega); omega
    ·have : g = m - 1 := by omega
     rw [this]; exact Int.le_refl _
   have := SegL.has hv he h6 hg (by omega)
   simpa using this
end
end Go.Mv
end

section
namespace Go.Mv
open Go
def prS (f : Nat → Int) : Nat → Int
 | 0 => 0
 | k + 1 => prS f k + f k
theorem c6o {f : Nat → Int} {c : Int} : ∀ {n : Nat}, (∀ i, i < n → 0 ≤ f i ∧ f i ≤ c) → 0 ≤ prS f n ∧ prS f n ≤ n * c
 | 0, _ => ⟨Int.le_refl _, by simp [prS]⟩
 | n + 1, h => by
  have h1 := c6o (n := n) fun i hi => h i (by omega)
  have h2 := h n (by omega)
  rw [prS]
  have : ((n + 1 : Nat) : Int) * c = n * c + c := by rw [Int.natCast_succ, Int.add_mul, Int.one_mul]
  omega
theorem c3e (f : Nat → Int) : ∀ n, prS f n = ((List.range n).map f).sum
 | 0 => rfl
 | n + 1 => by rw [prS, c3e f n, List.range_succ, List.map_append, List.sum_append]; simp
def fX (xs : List Int) (i : Nat) : Int := xs.getD i default
def b5c (xs : List Int) (i : Nat) (d : List Nat) : Prop := d.Perm (List.range i) ∧ (d.map (fX xs)).Pairwise (· ≤ ·)
theorem b5c.step {xs : List Int} {i k : Nat} {d : List Nat} (h : b5c xs i d) (hk : k ≤ d.length) (h1 : ∀ j, j < k → fX xs (d.getD j default) ≤ fX xs i) (h2 : k < d.length → fX xs i ≤ fX xs (d.getD k default)) :
  b5c xs (i + 1) (d.take k ++ [i] ++ d.drop k) := by
 refine ⟨?_, ?_⟩
 ·rw [List.range_succ]
  have : (d.take k ++ [i] ++ d.drop k).Perm (d.take k ++ d.drop k ++ [i]) := by
   rw [List.append_assoc, List.append_assoc]
   exact List.Perm.append_left _ List.perm_append_comm
  rw [List.take_append_drop] at this
  exact this.trans (h.1.append_right _)
 ·have e : ∀ j, j < d.length → (d.map (fX xs)).getD j default = fX xs (d.getD j default) := by
   intro j hj
   rw [List.getD_eq_getElem?_getD, List.getD_eq_getElem?_getD, List.getElem?_map, List.getElem?_eq_getElem hj]; rfl
  have := a5k (out := d.map (fX xs)) (x := fX xs i) (k := k) h.2 (by simpa using hk) (fun j hj => by rw [e j (by omega)]; exact h1 j hj) (fun hk2 => by rw [e k (by simpa using hk2)]; exact h2 (by simpa using hk2))
  have e2 : (d.take k ++ [i] ++ d.drop k).map (fX xs) = a5p (fX xs i) (d.map (fX xs)) := by rw [← this]; simp [List.map_take, List.map_drop]
  rw [e2]
  exact a0w _ _ h.2
theorem b5c.ys {xs : List Int} {d : List Nat} (h : b5c xs xs.length d) : d.map (fX xs) = T7 xs := by
 refine c0g ?_ h.2
 have := h.1.map (fX xs)
 have e : (List.range xs.length).map (fX xs) = xs := by
  apply List.ext_getElem
  ·simp
  ·intro i h1 h2
   simp [fX, List.getD_eq_getElem?_getD, List.getElem?_eq_getElem h2]
 rwa [e] at this
theorem b5c.len {xs : List Int} {i : Nat} {d : List Nat} (h : b5c xs i d) : d.length = i := by rw [h.1.length_eq, List.length_range]
theorem b5c.lt {xs : List Int} {i : Nat} {d : List Nat} (h : b5c xs i d) {j : Nat} (hj : j < d.length) : d.getD j default < i := List.mem_range.1 (h.1.mem_iff.1 (a1k hj))
end Go.Mv
end

section
namespace Go.Mv
open Go
abbrev wList : ByteArray := ⟨#[108, 105, 115, 116]⟩
abbrev wA : ByteArray := ⟨#[97]⟩
abbrev wB : ByteArray := ⟨#[98]⟩
abbrev wC : ByteArray := ⟨#[99]⟩
abbrev wD : ByteArray := ⟨#[100]⟩
abbrev c8p : ByteArray := ⟨#[115, 111, 114, 116]⟩
abbrev d1u : ByteArray := ⟨#[114, 101, 118]⟩
abbrev d2p : ByteArray := ⟨#[110, 101, 103]⟩
abbrev d2e : ByteArray := ⟨#[97, 98, 115]⟩
abbrev c7q : ByteArray := ⟨#[100, 105, 102, 102]⟩
abbrev c6y : ByteArray := ⟨#[115, 117, 109, 115]⟩
abbrev c0w : ByteArray := ⟨#[114, 97, 110, 107, 115]⟩
abbrev c1r : ByteArray := ⟨#[116, 111, 116, 97, 108]⟩
abbrev d1o : ByteArray := ⟨#[97, 100, 100]⟩
abbrev c7m : ByteArray := ⟨#[106, 111, 105, 110]⟩
def nd (w : ByteArray) : Int :=
 if w.toList = wList.toList then 0 else if w.toList = wA.toList then 0 else if w.toList = wB.toList then 0 else if w.toList = wC.toList then 0 else if w.toList = wD.toList then 0
 else if w.toList = c8p.toList then 1 else if w.toList = d1u.toList then 1 else if w.toList = d2p.toList then 1 else if w.toList = d2e.toList then 1 else if w.toList = c7q.toList then 1
 else if w.toList = c6y.toList then 1 else if w.toList = c0w.toList then 1 else if w.toList = c1r.toList then 1 else if w.toList = d1o.toList then 2 else if w.toList = c7m.toList then 2 else -1
def rch (w : ByteArray) : Int :=
 if w.toList = c8p.toList then 1 else if w.toList = d1u.toList then 1 else if w.toList = d2p.toList then 1 else if w.toList = d2e.toList then 1 else if w.toList = c7q.toList then 1
 else if w.toList = c6y.toList then 1 else if w.toList = c0w.toList then 1 else if w.toList = c1r.toList then 1 else if w.toList = d1o.toList then 2 else if w.toList = c7m.toList then 2
 else if w.toList = wA.toList then 0 else if w.toList = wB.toList then 0 else if w.toList = wC.toList then 0 else if w.toList = wD.toList then 0 else -1
theorem d2i {p : Prop} [Decidable p] {a b : Int} (ha : -1 ≤ a ∧ a ≤ 2) (hb : -1 ≤ b ∧ b ≤ 2) : -1 ≤ (if p then a else b) ∧ (if p then a else b) ≤ 2 := by split <;> assumption
theorem c6r (w : ByteArray) : -1 ≤ rch w ∧ rch w ≤ 2 := by
 unfold rch
 repeat (refine d2i (by decide) ?_)
 decide
def I3 (x : List Int) (i : Nat) : Int := x.getD i default
def dfI (x : List Int) : List Int := (List.range x.length).map fun i => if i = 0 then I3 x 0 else I3 x i - I3 x (i - 1)
def smI (x : List Int) : List Int := (List.range x.length).map fun i => prS (I3 x) (i + 1)
def rkT (x : List Int) (v : Int) (j : Nat) : Int := if I3 x j < v then 2 else if I3 x j = v then 1 else 0
def rkI (x : List Int) : List Int := (List.range x.length).map fun i => 1 + prS (rkT x (I3 x i)) x.length
def adI (x y : List Int) : List Int := (List.range x.length).map fun i => I3 x i + I3 y i
def T3 (op : ByteArray) (x y : List Int) : Option (List Int) :=
 if op.toList = c8p.toList then some (T7 x) else if op.toList = d1u.toList then some x.reverse else if op.toList = d2p.toList then some (x.map fun v => -v)
 else if op.toList = d2e.toList then some (x.map fun v => max v (-v)) else if op.toList = c7q.toList then some (dfI x) else if op.toList = c6y.toList then some (smI x)
 else if op.toList = c0w.toList then some (rkI x) else if op.toList = c1r.toList then some [x.sum] else if op.toList = d1o.toList then (if x.length = y.length then some (adI x y) else none)
 else if op.toList = c7m.toList then some (x ++ y) else some x
def vl (x : List Int) : Bool := decide (x.length ≤ 40) && a7p (-100000) 100000 x
theorem Q9 {x : List Int} : vl x = true ↔ x.length ≤ 40 ∧ a7p (-100000) 100000 x = true := by simp [vl]
theorem b9t {x : List Int} (h : vd x = true) : vl x = true := by
 rw [Q9]
 have h1 := a7y h
 refine ⟨by omega, a1z.2 fun i hi => ?_⟩
 have := a1z.1 (c7g h) i hi
 omega
def mkR (op : ByteArray) (x y : List Int) : Option (List Int) := (T3 op x y).bind fun r => if vl r = true then some r else none
def raR (op : ByteArray) (x y : List Int) : List Int := (T3 op x y).getD []
theorem a8b {op : ByteArray} {x y r : List Int} (h : mkR op x y = some r) : vl r = true := by
 unfold mkR at h
 cases hr : T3 op x y with
 | none => rw [hr] at h; cases h
 | some q =>
  rw [hr, Option.bind_some] at h
  split at h
  ·cases h; assumption
  ·cases h
theorem c3l {op : ByteArray} {x y r : List Int} (h : mkR op x y = some r) : raR op x y = r := by
 unfold mkR at h
 unfold raR
 cases hr : T3 op x y with
 | none => rw [hr] at h; cases h
 | some q =>
  rw [hr, Option.bind_some] at h
  split at h
  ·cases h; rfl
  ·cases h
theorem a0c {x : List Int} (h : vl x = true) (i : Nat) : -100000 ≤ I3 x i ∧ I3 x i ≤ 100000 := by
 unfold I3
 rcases Nat.lt_or_ge i x.length with c | c
 ·exact a1z.1 (Q9.1 h).2 i c
 ·rw [List.getD_eq_getElem?_getD, List.getElem?_eq_none c]; decide
theorem b8j {x : List Int} (h : vl x = true) : ∀ i : Nat, -(100000 * (i : Int)) ≤ prS (I3 x) i ∧ prS (I3 x) i ≤ 100000 * (i : Int)
 | 0 => by simp [prS]
 | i + 1 => by
  have h1 := b8j h i
  have h2 := a0c h i
  rw [prS]
  omega
theorem d3h (x : List Int) (v : Int) (k : Nat) : 0 ≤ prS (rkT x v) k ∧ prS (rkT x v) k ≤ k * 2 := c6o fun i _ => by unfold rkT; split <;> (try split) <;> omega
def S9 (n : Nat) (f g : Nat → Int) (i : Nat) (l : List Int) : Prop := l.length = n ∧ ∀ j, j < n → l.getD j default = if j < i then f j else g j
theorem S9.step {n i : Nat} {f g : Nat → Int} {l : List Int} (h : S9 n f g i l) (hi : i < n) {v : Int} (hv : v = f i) : S9 n f g (i + 1) (l.set i v) := by
 refine ⟨by simp [h.1], fun j hj => ?_⟩
 rw [a3u _ _ _ _ (by rw [h.1]; exact hi)]
 by_cases e : j = i
 ·subst e; rw [if_pos rfl, if_pos (by omega), hv]
 ·rw [if_neg e, h.2 j hj]
  by_cases c : j < i
  ·rw [if_pos c, if_pos (by omega)]
  ·rw [if_neg c, if_neg (by omega)]
theorem S9.at {n i : Nat} {f g : Nat → Int} {l : List Int} (h : S9 n f g i l) (hi : i < n) : l.getD i default = g i := by rw [h.2 i hi, if_neg (by omega)]
theorem S9.fin {n i : Nat} {f g : Nat → Int} {l : List Int} (h : S9 n f g i l) (hi : n ≤ i) : l = (List.range n).map f := by
 refine a1d (d := default) (by simp [h.1]) fun j hj => ?_
 rw [h.1] at hj
 rw [h.2 j hj, if_pos (by omega), List.getD_eq_getElem?_getD, List.getElem?_map, List.getElem?_range hj]
 rfl
theorem S9.start (x : List Int) (f : Nat → Int) : S9 x.length f (I3 x) 0 x := ⟨rfl, fun j hj => by rw [if_neg (by omega)]; rfl⟩
theorem a6f (x : List Int) (f : Int → Int) : (List.range x.length).map (fun i => f (I3 x i)) = x.map f := by
 apply List.ext_getElem
 ·simp
 ·intro i h1 h2
  simp at h1
  simp [I3, List.getD_eq_getElem?_getD, List.getElem?_eq_getElem h1]
theorem U3 {f : Nat → Int} (i : Nat) : (List.range (i + 1)).map f = (List.range i).map f ++ [f i] := by rw [List.range_succ, List.map_append]; rfl
def a2z (x : List Int) (i : Nat) (l : List Int) : Prop := l.length = x.length ∧ ∀ j, j < x.length → l.getD j default = if i < j then I3 x j - I3 x (j - 1) else I3 x j
theorem a2z.step {x l : List Int} {i : Nat} (h : a2z x i l) (h0 : 0 < i) (hi : i < x.length) : a2z x (i - 1) (l.set i (l.getD i default - l.getD (i - 1) default)) := by
 refine ⟨by simp [h.1], fun j hj => ?_⟩
 rw [a3u _ _ _ _ (by rw [h.1]; exact hi)]
 by_cases e : j = i
 ·subst e
  rw [if_pos rfl, h.2 j hj, h.2 (j - 1) (by omega), if_neg (by omega), if_neg (by omega), if_pos (by omega)]
 ·rw [if_neg e, h.2 j hj]
  by_cases c : i < j
  ·rw [if_pos c, if_pos (by omega)]
  ·rw [if_neg c, if_neg (by omega)]
theorem a2z.fin {x l : List Int} (h : a2z x 0 l) : l = dfI x := by
 refine a1d (d := default) (by simp [h.1, dfI]) fun j hj => ?_
 rw [h.1] at hj
 rw [h.2 j hj, dfI, List.getD_eq_getElem?_getD, List.getElem?_map, List.getElem?_range hj]
 show _ = if j = 0 then _ else _
 by_cases e : j = 0
 ·subst e; rw [if_neg (by omega), if_pos rfl]
 ·rw [if_pos (by omega), if_neg e]
theorem b4d (x : List Int) : prS (I3 x) x.length = x.sum := c3e (I3 x) x.length ▸ (by
 congr 1
 apply List.ext_getElem
 ·simp
 ·intro i h1 h2
  simp [I3, List.getD_eq_getElem?_getD, List.getElem?_eq_getElem h2])
end Go.Mv
namespace Go.Mv
theorem c6a {x : List Int} {k : Nat} (h : k < x.length) : x.drop k = x.getD k default :: x.drop (k + 1) := by
 rw [List.drop_eq_getElem_cons h, List.getD_eq_getElem?_getD, List.getElem?_eq_getElem h]; rfl
end Go.Mv
end

section
namespace Go.Mv
open Go
def d0t (k : Nat) : ByteArray := ⟨#[UInt8.ofNat (97 + k)]⟩
def vcs (cols : List (List Int)) : Bool := cols.all vd && decide (cols.length ≤ 4)
theorem d0b {cols : List (List Int)} : vcs cols = true ↔ (∀ c ∈ cols, vd c = true) ∧ cols.length ≤ 4 := by simp [vcs]
def b6i (x : List Int) (i : Nat) (l : List Int) : Prop := l.length = x.length ∧ ∀ j, j < x.length → l.getD j default = if j < i ∨ x.length - 1 - i < j then I3 x (x.length - 1 - j) else I3 x j
theorem b6i.start (x : List Int) : b6i x 0 x := ⟨rfl, fun j hj => by rw [if_neg (by omega)]; rfl⟩
theorem b6i.step {x l : List Int} {i : Nat} (h : b6i x i l) (hi : i < x.length - 1 - i) : b6i x (i + 1) ((l.set i (l.getD (x.length - 1 - i) default)).set (x.length - 1 - i) (l.getD i default)) := by
 refine ⟨by simp [h.1], fun j hj => ?_⟩
 rw [a3u _ _ _ _ (by simp [h.1]; omega), a3u _ _ _ _ (by rw [h.1]; omega)]
 by_cases e : j = x.length - 1 - i
 ·subst e
  rw [if_pos rfl, h.2 i (by omega), if_neg (by omega), if_pos (by omega), show x.length - 1 - (x.length - 1 - i) = i by omega]
 ·rw [if_neg e]
  by_cases e2 : j = i
  ·subst e2
   rw [if_pos rfl, h.2 _ (by omega), if_neg (by omega), if_pos (by omega)]
  ·rw [if_neg e2, h.2 j hj]
   by_cases c : j < i ∨ x.length - 1 - i < j
   ·rw [if_pos c, if_pos (by omega)]
   ·rw [if_neg c, if_neg (by omega)]
theorem b6i.fin {x l : List Int} {i : Nat} (h : b6i x i l) (hi : x.length - 1 - i ≤ i) : l = x.reverse := by
 refine a1d (d := default) (by simp [h.1]) fun j hj => ?_
 rw [h.1] at hj
 have hr : x.reverse.getD j default = I3 x (x.length - 1 - j) := by
  unfold I3
  rw [List.getD_eq_getElem?_getD, List.getD_eq_getElem?_getD, List.getElem?_reverse hj]
 rw [h.2 j hj, hr]
 split
 ·rfl
 ·rename_i c
  rw [show x.length - 1 - j = j by omega]
end Go.Mv
namespace Go.Mv
theorem c6p {w : ByteArray} (h : 1 ≤ nd w) : w.toList = [115, 111, 114, 116] ∨ w.toList = [114, 101, 118] ∨ w.toList = [110, 101, 103] ∨ w.toList = [97, 98, 115] ∨ w.toList = [100, 105, 102, 102] ∨ w.toList = [115, 117, 109, 115] ∨
  w.toList = [114, 97, 110, 107, 115] ∨ w.toList = [116, 111, 116, 97, 108] ∨ w.toList = [97, 100, 100] ∨ w.toList = [106, 111, 105, 110] := by
 refine Classical.byContradiction fun hn => ?_
 simp only [not_or] at hn
 obtain ⟨h1, h2, h3, h4, h5, h6, h7, h8, h9, h10⟩ := hn
 have key : nd w ≤ 0 := by
  simp [nd, h1, h2, h3, h4, h5, h6, h7, h8, h9, h10]
  (repeat' split) <;> decide
 omega
theorem c6w {w : ByteArray} (h : w.toList = [97, 100, 100] ∨ w.toList = [106, 111, 105, 110]) : nd w = 2 := by
 rcases h with h | h <;> simp [nd, h]
theorem S9.start1 (x : List Int) : S9 x.length (fun i => prS (I3 x) (i + 1)) (I3 x) 1 x := ⟨rfl, fun j hj => by
 by_cases c : j < 1
 ·rw [if_pos c, show j = 0 by omega]; simp [prS, I3]
 ·rw [if_neg c]; rfl⟩
theorem a2z.start (x : List Int) : a2z x (x.length - 1) x := ⟨rfl, fun j hj => by rw [if_neg (by omega)]; rfl⟩
theorem a2z.val {x l : List Int} {i : Nat} (h : a2z x i l) (j : Nat) : l.getD j default = if i < j ∧ j < x.length then I3 x j - I3 x (j - 1) else I3 x j := by
 rcases Nat.lt_or_ge j x.length with c | c
 ·rw [h.2 j c]
  by_cases c2 : i < j
  ·rw [if_pos c2, if_pos ⟨c2, c⟩]
  ·rw [if_neg c2, if_neg (by omega)]
 ·rw [if_neg (by omega), List.getD_eq_getElem?_getD, List.getElem?_eq_none (by rw [h.1]; exact c)]
  unfold I3
  rw [List.getD_eq_getElem?_getD, List.getElem?_eq_none c]
theorem S9.before {n i j : Nat} {f g : Nat → Int} {l : List Int} (h : S9 n f g i l) (hj : j < i) (hn : j < n) : l.getD j default = f j := by rw [h.2 j hn, if_pos hj]
theorem adF {op : ByteArray} {x y l : List Int} (ho : op.toList = [97, 100, 100]) (hl : x.length = y.length) (h : l = adI x y) (_ : True = True) : T3 op x y = some l := by
 simp [T3, ho, hl, h]
theorem apF {op : ByteArray} {x y l l' : List Int} (h : l = l') (h2 : T3 op x y = some l') : T3 op x y = some l := by rw [h]; exact h2
end Go.Mv
end

section
namespace Go.Mv
open Go
structure Stp where
 op : ByteArray
 a : Int
 b : Int
 ns : List Int
instance : Inhabited Stp := ⟨⟨⟨#[]⟩, 0, 0, []⟩⟩
end Go.Mv
end

section
namespace Go.Mv
open Go
section
variable {cx : Cx} {keep : List Nat} {ops0 : Array Oper} {r : List Oper} {A : Asr} {Q : Asr → List Log → Prop} {d : Nat} {ty : Nat} {pos : String} {aft : Array Edge}
def Stp.sOp (y : Stp) (s : ByteArray) : Stp := ⟨s, y.a, y.b, y.ns⟩
def Stp.sA (y : Stp) (n : Int) : Stp := ⟨y.op, n, y.b, y.ns⟩
def Stp.sB (y : Stp) (n : Int) : Stp := ⟨y.op, y.a, n, y.ns⟩
def Stp.sN (y : Stp) (l : List Int) : Stp := ⟨y.op, y.a, y.b, l⟩
@[simp] theorem Stp.sOp_ns (y : Stp) (s : ByteArray) : (y.sOp s).ns = y.ns := rfl
@[simp] theorem Stp.sA_ns (y : Stp) (s : Int) : (y.sA s).ns = y.ns := rfl
@[simp] theorem Stp.sB_ns (y : Stp) (s : Int) : (y.sB s).ns = y.ns := rfl
@[simp] theorem Stp.sN_ns (y : Stp) (s : List Int) : (y.sN s).ns = s := rfl
end
end Go.Mv
end

section
namespace Go.Mv
open Go
theorem c9l {w : ByteArray} (h : w.toList = wList.toList) : nd w = 0 := by rw [nd, if_pos h]
theorem c0j (w : ByteArray) (h : w.toList ≠ wList.toList) : nd w = rch w := by
 by_cases hA : w.toList = wA.toList
 ·simp [nd, rch, hA]
 by_cases hB : w.toList = wB.toList
 ·simp [nd, rch, hB]
 by_cases hC : w.toList = wC.toList
 ·simp [nd, rch, hC]
 by_cases hD : w.toList = wD.toList
 ·simp [nd, rch, hD]
 unfold nd rch
 rw [if_neg h, if_neg hA, if_neg hB, if_neg hC, if_neg hD, if_neg hA, if_neg hB, if_neg hC, if_neg hD]
end Go.Mv
end

section
namespace Go.Mv
open Go
section
variable {cx : Cx} {keep : List Nat} {ops0 : Array Oper} {r : List Oper} {A : Asr} {Q : Asr → List Log → Prop} {d : Nat} {ty : Nat} {pos : String} {aft : Array Edge}
end
def c6n (w : ByteArray) : Nat := (w.toList.headD 0).toNat - 97
theorem d1c {cols : List (List Int)} (h : vcs cols = true) (k : Nat) : vl (cols.getD k default) = true := by
 rcases Nat.lt_or_ge k cols.length with c | c
 ·exact b9t ((d0b.1 h).1 _ (a1k c))
 ·rw [List.getD_eq_getElem?_getD, List.getElem?_eq_none c]; decide
theorem c9n {w : ByteArray} (h : nd w = 0) : w.toList = wList.toList ∨ ∃ k, k < 4 ∧ w.toList = [UInt8.ofNat (97 + k)] := by
 refine Classical.byContradiction fun hn => ?_
 simp only [not_or, not_exists, not_and] at hn
 obtain ⟨h0, h1⟩ := hn
 have a := h1 0 (by decide); have b := h1 1 (by decide); have c := h1 2 (by decide); have dd := h1 3 (by decide)
 simp at a b c dd
 have h0' : ¬ w.toList = [108, 105, 115, 116] := by simpa using h0
 simp [nd, h0', a, b, c, dd] at h
 (repeat' split at h) <;> simp at h
theorem d0z (b : ByteArray) : ∀ n i r, b.size - i = n → ByteArray.toList.loop b i r = r.reverse ++ b.data.toList.drop i := by
 intro n
 induction n with
 | zero =>
  intro i r h
  rw [ByteArray.toList.loop]
  have h1 : ¬ i < b.size := by omega
  rw [if_neg h1, List.drop_eq_nil_of_le (by rw [Array.length_toList]; show b.size ≤ i; omega), List.append_nil]
 | succ n ih =>
  intro i r h
  rw [ByteArray.toList.loop]
  have h1 : i < b.size := by omega
  have h2 : i < b.data.toList.length := by rw [Array.length_toList]; exact h1
  rw [if_pos h1, ih (i + 1) _ (by omega), List.drop_eq_getElem_cons h2, List.reverse_cons, List.append_assoc]
  have e : b.get! i = b.data.toList[i] := by
   show b.data[i]! = _
   rw [getElem!_pos b.data i h1]
   exact (Array.getElem_toList ..).symm
  rw [e]; rfl
theorem X3 (b : ByteArray) : b.toList = b.data.toList := by
 rw [ByteArray.toList, d0z b b.size 0 [] (by omega)]; rfl
theorem c0y {a b : ByteArray} (h : a.toList = b.toList) : a = b := by
 rw [X3, X3] at h
 cases a; cases b
 congr 1
 exact Array.toList_inj.1 h
theorem d2b {w : ByteArray} (h : nd w = 0) : w = wList ∨ ∃ k, k < 4 ∧ w = d0t k := by
 rcases c9n h with c | ⟨k, hk, c⟩
 ·exact .inl (c0y c)
 ·refine .inr ⟨k, hk, c0y (c.trans ?_)⟩
  rw [X3]; rfl
theorem c9z {k : Nat} (hk : k < 4) : c6n (d0t k) = k := by
 unfold c6n
 rw [X3]
 show (UInt8.ofNat (97 + k)).toNat - 97 = k
 match k, hk with
 | 0, _ => rfl
 | 1, _ => rfl
 | 2, _ => rfl
 | 3, _ => rfl
end Go.Mv
namespace Go.Mv
open Go
end Go.Mv
namespace Go.Mv
theorem K0 (xs : List Int) (b : Bool) : hasList (.tup [.own 1 (xs.map iV), bV b]) = false := by simp [hasList, G2]
end Go.Mv
namespace Go.Mv
end Go.Mv
namespace Go.Mv
theorem b0w {w : ByteArray} (h : w.toList = wList.toList) : rch w = -1 := by
 have e : w = wList := c0y h
 subst e
 decide +kernel
theorem d0x {w : ByteArray} (h : rch w = 0) : (∃ k, k < 4 ∧ w = d0t k) ∧ nd w = 0 := by
 have hl : w.toList ≠ wList.toList := fun e => by rw [b0w e] at h; cases h
 have h0 : nd w = 0 := (c0j w hl).trans h
 rcases d2b h0 with c | c
 ·exact absurd (by rw [c]) hl
 ·exact ⟨c, h0⟩
theorem c8y : vl [] = true := by decide
end Go.Mv
namespace Go.Mv
open Go
end Go.Mv
namespace Go.Mv
open Go
end Go.Mv
end

section
namespace Go.Mv
open Go
abbrev bA (l : List UInt8) : ByteArray := ⟨l.toArray⟩
abbrev tV (l : List UInt8) : AV := sV (bA l)
theorem a1n (l : List UInt8) : (bA l).toList = l := by rw [X3]
theorem c4k (a b : List UInt8) : bA a ++ bA b = bA (a ++ b) := by
 apply ByteArray.ext
 simp
theorem c2p (a : List UInt8) (i j : Nat) : (bA a).extract i j = bA ((a.drop i).take (j - i)) := by
 apply ByteArray.ext
 simp [ByteArray.data_extract]
theorem b5u (b : ByteArray) : bA b.data.toList = b := by cases b; rfl
section
variable {cx : Cx} {keep : List Nat} {ops0 : Array Oper} {r : List Oper} {A : Asr} {Q : Asr → List Log → Prop} {d : Nat} {ty : Nat} {pos : String} {aft : Array Edge}
theorem a3v {x : Operand} {T : Nat} {l : List UInt8} (hx : opd A x = some (tV l)) (hT : a4j (tyS cx.P T).k = true)
  (h : XR cx keep ops0 r ((.t d, iV l.length) :: A) fun A' lg => Q A' ((rds x, [.t d]) :: lg)) : XR cx keep ops0 (⟨some d, .call ⟨.builtin .len, #[x], #[T]⟩, ty, pos, aft, none⟩ :: r) A Q := c5b hx hT h
theorem P2 {x i : Operand} {T n : Nat} {l : List UInt8} {k : IntKind} (hT : a4j (tyS cx.P T).k = true) (hx : opd A x = some (tV l)) (hi : opd A i = some (.val (.int k (n : Int)))) (hn : n < l.length)
  (h : XR cx keep ops0 r ((.t d, uV (l.getD n 0).toNat) :: A) fun A' lg => Q A' ((rds x ++ rds i, [.t d]) :: lg)) : XR cx keep ops0 (⟨some d, .index T x i, ty, pos, aft, none⟩ :: r) A Q :=
 a8m hT hx hi (by omega) (by rw [Int.toNat_natCast]; show l[n]? = _; rw [List.getD_eq_getElem?_getD, List.getElem?_eq_getElem hn]; rfl) h
theorem a0l {T z : Nat} {a b : Operand} {x y : List UInt8} (ha : opd A a = some (tV x)) (hb : opd A b = some (tV y)) (hi : x.length + y.length ≤ H6)
  (h : XR cx keep ops0 r ((.t d, tV (x ++ y)) :: A) fun A' lg => Q A' ((rds a ++ rds b, [.t d]) :: lg)) : XR cx keep ops0 (⟨some d, .binOp .add T a b z, ty, pos, aft, none⟩ :: r) A Q :=
 d1w ha hb hi (by rw [c4k]; exact h)
theorem a1m {T z : Nat} {a b : Operand} {x y : List UInt8} (ha : opd A a = some (tV x)) (hb : opd A b = some (tV y))
  (h : XR cx keep ops0 r ((.t d, bV (decide (x = y))) :: A) fun A' lg => Q A' ((rds a ++ rds b, [.t d]) :: lg)) : XR cx keep ops0 (⟨some d, .binOp .eql T a b z, ty, pos, aft, none⟩ :: r) A Q :=
 I8 ha hb (by rw [a1n, a1n, show (x == y) = decide (x = y) from Bool.eq_iff_iff.2 (by simp)]; exact h)
theorem b1m {T z : Nat} {a b : Operand} {x y : List UInt8} (ha : opd A a = some (tV x)) (hb : opd A b = some (tV y))
  (h : XR cx keep ops0 r ((.t d, bV (!decide (x = y))) :: A) fun A' lg => Q A' ((rds a ++ rds b, [.t d]) :: lg)) : XR cx keep ops0 (⟨some d, .binOp .neq T a b z, ty, pos, aft, none⟩ :: r) A Q :=
 d2u ha hb (by rw [a1n, a1n, show (x == y) = decide (x = y) from Bool.eq_iff_iff.2 (by simp)]; exact h)
theorem a3k {x : Operand} {T lo1 hi1 : Nat} {lo hi : Option Operand} {l : List UInt8} {ls1 ls2 : List Mv.Loc} (hx : opd A x = some (tV l)) (hT : (tyS cx.P T).k = .string)
  (hh : wpA (CW cx) A (optNat hi l.length) fun k ls => k = hi1 ∧ ls = ls1) (hl : wpA (CW cx) A (optNat lo 0) fun k ls => k = lo1 ∧ ls = ls2) (hc : lo1 ≤ hi1 ∧ hi1 ≤ l.length)
  (h : XR cx keep ops0 r ((.t d, tV ((l.drop lo1).take (hi1 - lo1))) :: A) fun A' lg => Q A' ((rds x ++ (ls1 ++ ls2), [.t d]) :: lg)) : XR cx keep ops0 (⟨some d, .slice T x lo hi none, ty, pos, aft, none⟩ :: r) A Q := by
 refine K5 (fun o ho => by simp only [aopV, ho]) ?_ (by simp [slotOk, refOkV, refsOk]) h
 simp only [opV, E3, E5 hx, sliceA, hT, F8]
 refine ⟨trivial, ?_⟩
 refine M2 ?_ hh
 rintro _ _ ⟨rfl, rfl⟩
 refine M2 ?_ hl
 rintro _ _ ⟨rfl, rfl⟩
 simp only [F8, F4, c2p, List.append_nil]
 exact ⟨hc, by simp⟩
end
end Go.Mv
namespace Go.Mv
open Go
theorem d2m {x : Int} (h : 0 ≤ x ∧ x ≤ 255) : inI .u8 x := by
 constructor <;> simp [IntKind.min, IntKind.max, IntKind.signed, IntKind.bits] <;> omega
end Go.Mv
end

section
namespace Go.Mv
open Go
def decN (n : Nat) : List UInt8 := if n < 10 then [UInt8.ofNat (48 + n)] else decN (n / 10) ++ [UInt8.ofNat (48 + n % 10)]
termination_by n
theorem c3y {n : Nat} (h : n < 10) : decN n = [UInt8.ofNat (48 + n)] := by rw [decN, if_pos h]
theorem d0d {n : Nat} (h : ¬ n < 10) : decN n = decN (n / 10) ++ decN (n % 10) := by
 rw [decN, if_neg h, c3y (show n % 10 < 10 from Nat.mod_lt _ (by decide))]
def dec (n : Int) : List UInt8 := if n < 0 then 45 :: decN (-n).toNat else decN n.toNat
theorem a9s (n : Nat) : dec (n : Int) = decN n := by rw [dec, if_neg (by omega)]; rfl
theorem u8n {k : Nat} (h : k < 256) : (UInt8.ofNat k).toNat = k := by rw [UInt8.toNat_ofNat']; exact Nat.mod_eq_of_lt h
theorem a6u (n : Nat) : ∀ b ∈ decN n, 48 ≤ b.toNat ∧ b.toNat ≤ 57 := by
 induction n using Nat.strongRecOn with
 | _ n ih =>
  rw [decN]
  split
  ·intro b hb
   cases List.mem_singleton.1 hb
   rw [u8n (by omega)]; omega
  ·intro b hb
   rcases List.mem_append.1 hb with c | c
   ·exact ih _ (by omega) b c
   ·cases List.mem_singleton.1 c
    rw [u8n (by omega)]; omega
theorem a6x (n : Nat) : decN n ≠ [] := by
 rw [decN]
 split <;> simp
theorem c7d (n : Int) : dec n ≠ [] := by
 rw [dec]
 split
 ·simp
 ·exact a6x _
theorem b8s (n : Nat) : ∀ {k : Nat}, 1 ≤ k → n < 10 ^ k → (decN n).length ≤ k := by
 induction n using Nat.strongRecOn with
 | _ n ih =>
  intro k hk hn
  rw [decN]
  split
  ·simpa using hk
  ·rename_i h
   match k, hk with
   | 1, _ => omega
   | k + 2, _ =>
    have := ih (n / 10) (by omega) (k := k + 1) (by omega) (by rw [Nat.pow_succ] at hn; omega)
    simp; omega
theorem U0 {m : Int} (h : -1000000 ≤ m ∧ m ≤ 1000000) : (dec m).length ≤ 8 := by
 rw [dec]
 split
 ·have := b8s (-m).toNat (k := 7) (by decide) (by omega)
  simp; omega
 ·have := b8s m.toNat (k := 7) (by decide) (by omega)
  omega
theorem d1b {n : Int} (h : n < 0) : dec n = [45] ++ dec (-n) := by
 rw [dec, if_pos h, dec, if_neg (by omega)]; rfl
theorem c9s {n : Int} (h : 0 ≤ n ∧ n < 10) : dec n = (([48, 49, 50, 51, 52, 53, 54, 55, 56, 57] : List UInt8).drop n.toNat).take ((n + 1).toNat - n.toNat) := by
 obtain ⟨k, rfl⟩ : ∃ k : Nat, n = k := ⟨n.toNat, by omega⟩
 have hk : k < 10 := by omega
 rw [a9s, c3y hk]
 match k, hk with
 | 0, _ => rfl
 | 1, _ => rfl
 | 2, _ => rfl
 | 3, _ => rfl
 | 4, _ => rfl
 | 5, _ => rfl
 | 6, _ => rfl
 | 7, _ => rfl
 | 8, _ => rfl
 | 9, _ => rfl
theorem d2j {n : Int} (h : ¬ n < 10) : dec n = dec (n.tdiv 10) ++ dec (n.tmod 10) := by
 obtain ⟨k, rfl⟩ : ∃ k : Nat, n = k := ⟨n.toNat, by omega⟩
 have e1 : (k : Int).tdiv 10 = ((k / 10 : Nat) : Int) := by rw [Int.tdiv_eq_ediv_of_nonneg (by omega)]; omega
 have e2 : (k : Int).tmod 10 = ((k % 10 : Nat) : Int) := by rw [Int.tmod_eq_emod_of_nonneg (by omega)]; omega
 rw [e1, e2, a9s, a9s, a9s, d0d (by omega)]
def joinB (c : UInt8) : List (List UInt8) → List UInt8
 | [] => []
 | [p] => p
 | p :: q :: r => p ++ c :: joinB c (q :: r)
def U5 (q : List UInt8) : List (List UInt8) → List (List UInt8)
 | p :: ps => (q ++ p) :: ps
 | [] => []
def splitB (c : UInt8) : List UInt8 → List (List UInt8)
 | [] => [[]]
 | b :: r => if b = c then [] :: splitB c r else U5 [b] (splitB c r)
theorem b7s (a b : List UInt8) (l : List (List UInt8)) : U5 a (U5 b l) = U5 (a ++ b) l := by cases l <;> simp [U5]
theorem b4i (l : List (List UInt8)) : U5 [] l = l := by cases l <;> simp [U5]
theorem b3p (c : UInt8) (l : List UInt8) : splitB c l ≠ [] := by
 induction l with
 | nil => simp [splitB]
 | cons b r ih =>
  rw [splitB]
  split
  ·simp
  ·cases h : splitB c r with
   | nil => exact absurd h ih
   | cons p ps => simp [U5]
theorem b8a {c : UInt8} {p : List UInt8} (h : c ∉ p) (r : List UInt8) : splitB c (p ++ c :: r) = p :: splitB c r := by
 induction p with
 | nil => simp [splitB]
 | cons b p ih =>
  simp only [List.mem_cons, not_or] at h
  rw [List.cons_append, splitB, if_neg (fun e => h.1 e.symm), ih h.2]
  rfl
theorem b6h {c : UInt8} {p : List UInt8} (h : c ∉ p) : splitB c p = [p] := by
 induction p with
 | nil => rfl
 | cons b p ih =>
  simp only [List.mem_cons, not_or] at h
  rw [splitB, if_neg (fun e => h.1 e.symm), ih h.2]
  rfl
theorem a3n {c : UInt8} : ∀ {ps : List (List UInt8)}, ps ≠ [] → (∀ p ∈ ps, c ∉ p) → splitB c (joinB c ps) = ps
 | [], h, _ => absurd rfl h
 | [p], _, h => b6h (h p (by simp))
 | p :: q :: r, _, h => by
  rw [joinB, b8a (h p (by simp)), a3n (by simp) fun x hx => h x (List.mem_cons_of_mem _ hx)]
theorem R9 {c : UInt8} {p : List UInt8} {r : List (List UInt8)} (h : r ≠ []) : joinB c (p :: r) = p ++ c :: joinB c r := by
 cases r with
 | nil => exact absurd rfl h
 | cons q r => rfl
theorem b0m (c : UInt8) (l : List UInt8) : joinB c (splitB c l) = l := by
 induction l with
 | nil => rfl
 | cons b r ih =>
  rw [splitB]
  split
  ·rename_i e
   subst e
   rw [R9 (b3p _ _), ih]; rfl
  ·cases h : splitB c r with
   | nil => exact absurd h (b3p c r)
   | cons p ps =>
    rw [h] at ih
    cases ps with
    | nil => simp only [U5, joinB] at ih ⊢; rw [ih]; rfl
    | cons q ps => simp only [U5, joinB] at ih ⊢; rw [← ih]; rfl
theorem b2j {c : UInt8} {s : List UInt8} {out : List (List UInt8)} {fr i : Nat} (hi : i < s.length) (hf : fr ≤ i) (h : splitB c s = out ++ U5 ((s.drop fr).take (i - fr)) (splitB c (s.drop i))) :
  (s.getD i 0 = c → splitB c s = (out ++ [(s.drop fr).take (i - fr)]) ++ U5 ((s.drop (i + 1)).take (i + 1 - (i + 1))) (splitB c (s.drop (i + 1)))) ∧
  (s.getD i 0 ≠ c → splitB c s = out ++ U5 ((s.drop fr).take (i + 1 - fr)) (splitB c (s.drop (i + 1)))) := by
 have e : s.drop i = s.getD i 0 :: s.drop (i + 1) := by
  rw [List.drop_eq_getElem_cons hi, List.getD_eq_getElem?_getD, List.getElem?_eq_getElem hi]; rfl
 refine ⟨fun hc => ?_, fun hc => ?_⟩
 ·rw [h, e, splitB, if_pos hc, Nat.sub_self, List.take_zero, b4i, U5, List.append_nil, List.append_assoc]; rfl
 ·rw [h, e, splitB, if_neg hc, b7s]
  congr 2
  have e2 : (s.drop fr).take (i + 1 - fr) = (s.drop fr).take (i - fr) ++ [s.getD i 0] := by
   rw [show i + 1 - fr = (i - fr) + 1 by omega, List.take_succ_eq_append_getElem (by simp; omega)]
   congr 2
   rw [List.getElem_drop, List.getD_eq_getElem?_getD, List.getElem?_eq_getElem hi]
   simp [show fr + (i - fr) = i by omega]
  rw [e2]
def V1 : Nat → List UInt8 → Option Nat
 | a, [] => some a
 | a, b :: r => if 48 ≤ b.toNat ∧ b.toNat ≤ 57 ∧ a ≤ 10000 then V1 (10 * a + (b.toNat - 48)) r else none
theorem a3o (x y : List UInt8) : ∀ a, V1 a (x ++ y) = (V1 a x).bind fun b => V1 b y := by
 induction x with
 | nil => intro a; rfl
 | cons c x ih =>
  intro a
  rw [List.cons_append, V1, V1]
  split
  ·exact ih _
  ·rfl
theorem b9o (n : Nat) : n ≤ 100009 → V1 0 (decN n) = some n := by
 induction n using Nat.strongRecOn with
 | _ n ih =>
  intro hn
  rw [decN]
  split
  ·rename_i h
   rw [V1, u8n (by omega), if_pos (by omega), V1]
   congr 1; omega
  ·rename_i h
   rw [a3o, ih (n / 10) (by omega) (by omega), Option.bind_some, V1, u8n (by omega), if_pos (by omega), V1]
   congr 1; omega
def neg? (t : List UInt8) : Bool := decide (t.head? = some 45)
def unS (t : List UInt8) : List UInt8 := if neg? t = true then t.tail else t
def rdI (t : List UInt8) : Option Int := (V1 0 (unS t)).bind fun n => if unS t = [] ∨ dec (if neg? t = true then -(n : Int) else n) ≠ t then none else some (if neg? t = true then -(n : Int) else n)
theorem c6s {t : List UInt8} {m : Int} (h : rdI t = some m) : t = dec m := by
 unfold rdI at h
 obtain ⟨n, _, h2⟩ := Option.bind_eq_some_iff.1 h
 by_cases hc : unS t = [] ∨ dec (if neg? t = true then -(n : Int) else n) ≠ t
 ·rw [if_pos hc] at h2; cases h2
 ·rw [if_neg hc] at h2
  simp only [not_or, Decidable.not_not] at hc
  rw [Option.some.injEq] at h2
  rw [← h2]
  exact hc.2.symm
theorem c8d (n : Nat) : neg? (decN n) = false := by
 cases h : decN n with
 | nil => rfl
 | cons b r =>
  have := a6u n b (by rw [h]; simp)
  simp only [neg?, List.head?_cons, Option.some.injEq, decide_eq_false_iff_not]
  intro e
  subst e
  exact absurd this.1 (by decide)
theorem d0h {m : Int} (h : -100000 ≤ m ∧ m ≤ 100000) : rdI (dec m) = some m := by
 by_cases hm : m < 0
 ·have e : dec m = 45 :: decN (-m).toNat := by rw [dec, if_pos hm]
  have hn : neg? (dec m) = true := by rw [e]; rfl
  have hu : unS (dec m) = decN (-m).toNat := by rw [unS, if_pos hn, e]; rfl
  rw [rdI, hu, b9o _ (by omega), Option.bind_some, hn]
  simp only [if_true]
  have e2 : -(((-m).toNat : Nat) : Int) = m := by omega
  rw [e2, if_neg (by simp [a6x])]
 ·have e : dec m = decN m.toNat := by rw [dec, if_neg hm]
  have hn : neg? (dec m) = false := by rw [e]; exact c8d _
  have hu : unS (dec m) = decN m.toNat := by rw [unS, hn, if_neg (by decide), e]
  rw [rdI, hu, b9o _ (by omega), Option.bind_some, hn]
  simp only [Bool.false_eq_true, if_false]
  have e2 : ((m.toNat : Nat) : Int) = m := by omega
  rw [e2, if_neg (by simp [a6x])]
theorem b9r {c : UInt8} (hc : c ≠ 45) (hd : ¬(48 ≤ c.toNat ∧ c.toNat ≤ 57)) (n : Int) : c ∉ dec n := by
 rw [dec]
 split
 ·intro h
  rcases List.mem_cons.1 h with e | e
  ·exact hc e
  ·exact hd (a6u _ c e)
 ·exact fun h => hd (a6u _ c h)
def O9 (ns : List Int) : List UInt8 := joinB 44 (ns.map dec)
theorem b0g {c : UInt8} (p : List UInt8) : ∀ {r : List (List UInt8)}, r ≠ [] → joinB c (r ++ [p]) = joinB c r ++ c :: p
 | [], h => absurd rfl h
 | [q], _ => rfl
 | q :: q2 :: r, _ => by
  have h1 := b0g (c := c) p (r := q2 :: r) (by simp)
  show q ++ c :: joinB c ((q2 :: r) ++ [p]) = (q ++ c :: joinB c (q2 :: r)) ++ c :: p
  rw [h1]; simp
theorem b7o {ns : List Int} {i : Nat} (hi : i < ns.length) (h0 : 0 < i) : O9 (ns.take (i + 1)) = O9 (ns.take i) ++ [44] ++ dec (ns.getD i default) := by
 have e : ns.getD i default = ns[i] := by rw [List.getD_eq_getElem?_getD, List.getElem?_eq_getElem hi]; rfl
 rw [O9, O9, List.take_succ_eq_append_getElem hi, List.map_append, List.map_singleton, b0g, e, List.append_assoc]
 ·rfl
 ·intro h
  have := congrArg List.length h
  rw [List.length_map, List.length_take, List.length_nil] at this
  omega
theorem b9p {ns : List Int} {i : Nat} (hi : i < ns.length) (h0 : i = 0) : O9 (ns.take (i + 1)) = O9 (ns.take i) ++ dec (ns.getD i default) := by
 subst h0
 cases ns with
 | nil => simp at hi
 | cons n r => rfl
theorem a0e {ns : List Int} (h : ∀ n ∈ ns, -1000000 ≤ n ∧ n ≤ 1000000) : (O9 ns).length ≤ 9 * ns.length := by
 have key : ∀ ps : List (List UInt8), (∀ p ∈ ps, p.length ≤ 8) → (joinB 44 ps).length ≤ 9 * ps.length := by
  intro ps
  induction ps with
  | nil => intro _; simp [joinB]
  | cons p r ih =>
   intro hp
   have h1 := hp p (by simp)
   have h2 := ih fun q hq => hp q (List.mem_cons_of_mem _ hq)
   cases r with
   | nil => simp only [joinB, List.length_singleton]; omega
   | cons q r => rw [R9 (by simp)]; simp only [List.length_append, List.length_cons] at h2 ⊢; omega
 have := key (ns.map dec) fun p hp => by
  obtain ⟨n, hn, rfl⟩ := List.mem_map.1 hp
  exact U0 (h n hn)
 simpa [O9] using this
def Q2 (ns : List Int) : List UInt8 := 91 :: (O9 ns ++ [93])
def a0j : List (List UInt8) → Option (List Int)
 | [] => some []
 | p :: r => (rdI p).bind fun n => (a0j r).map fun ns => n :: ns
def rdL (s : List UInt8) : Option (List Int) := a0j (splitB 44 s)
theorem a7x : ∀ {ps : List (List UInt8)} {ns : List Int}, a0j ps = some ns → ps = ns.map dec
 | [], ns, h => by cases h; rfl
 | p :: r, ns, h => by
  simp only [a0j, Option.bind_eq_some_iff, Option.map_eq_some_iff] at h
  obtain ⟨n, h1, ms, h2, rfl⟩ := h
  rw [List.map_cons, ← c6s h1, ← a7x h2]
theorem b7a : ∀ {ns : List Int}, (∀ n ∈ ns, -100000 ≤ n ∧ n ≤ 100000) → a0j (ns.map dec) = some ns
 | [], _ => rfl
 | n :: ns, h => by rw [List.map_cons, a0j, d0h (h n (by simp)), Option.bind_some, b7a fun x hx => h x (List.mem_cons_of_mem _ hx)]; rfl
theorem a8v (x y : List (List UInt8)) : a0j (x ++ y) = (a0j x).bind fun a => (a0j y).map fun b => a ++ b := by
 induction x with
 | nil => cases h : a0j y <;> simp [a0j, h]
 | cons p x ih =>
  rw [List.cons_append, a0j, a0j, ih]
  cases rdI p with
  | none => rfl
  | some n =>
   cases a0j x with
   | none => rfl
   | some a =>
    cases a0j y with
    | none => rfl
    | some b => rfl
theorem a7j {ps : List (List UInt8)} {ns : List Int} {i : Nat} {n : Int} (hi : i < ps.length) (h : a0j (ps.take i) = some ns) (hn : rdI (ps.getD i default) = some n) : a0j (ps.take (i + 1)) = some (ns ++ [n]) := by
 have e : ps.getD i default = ps[i] := by rw [List.getD_eq_getElem?_getD, List.getElem?_eq_getElem hi]; rfl
 rw [e] at hn
 rw [List.take_succ_eq_append_getElem hi, a8v, h, Option.bind_some, a0j, hn]
 rfl
theorem L6 {ps : List (List UInt8)} {i : Nat} (hi : i < ps.length) (hn : rdI (ps.getD i default) = none) : a0j ps = none := by
 have e : ps.getD i default = ps[i] := by rw [List.getD_eq_getElem?_getD, List.getElem?_eq_getElem hi]; rfl
 rw [e] at hn
 rw [← List.take_append_drop i ps, a8v, List.drop_eq_getElem_cons hi, a0j, hn]
 cases a0j (ps.take i) <;> rfl
theorem a8o : ∀ {ps : List (List UInt8)} {ns : List Int}, a0j ps = some ns → ns.length = ps.length := fun h => by rw [a7x h, List.length_map]
theorem b0d : ∀ {u : List UInt8} {a n : Nat}, a ≤ 100009 → V1 a u = some n → n ≤ 100009
 | [], a, n, ha, h => by cases h; exact ha
 | b :: r, a, n, _, h => by
  rw [V1] at h
  split at h
  ·exact b0d (by omega) h
  ·cases h
theorem a8f {u : List UInt8} {k a : Nat} (hk : k < u.length) (h : V1 0 (u.take k) = some a) (hb : 48 ≤ (u.getD k 0).toNat ∧ (u.getD k 0).toNat ≤ 57 ∧ a ≤ 10000) : V1 0 (u.take (k + 1)) = some (10 * a + ((u.getD k 0).toNat - 48)) := by
 have e : u.getD k 0 = u[k] := by rw [List.getD_eq_getElem?_getD, List.getElem?_eq_getElem hk]; rfl
 rw [e] at hb ⊢
 rw [List.take_succ_eq_append_getElem hk, a3o, h, Option.bind_some, V1, if_pos hb, V1]
theorem S1 {u : List UInt8} {k a : Nat} (hk : k < u.length) (h : V1 0 (u.take k) = some a) (hb : ¬(48 ≤ (u.getD k 0).toNat ∧ (u.getD k 0).toNat ≤ 57 ∧ a ≤ 10000)) : V1 0 u = none := by
 have e : u.getD k 0 = u[k] := by rw [List.getD_eq_getElem?_getD, List.getElem?_eq_getElem hk]; rfl
 rw [e] at hb
 rw [← List.take_append_drop k u, a3o, h, Option.bind_some, List.drop_eq_getElem_cons hk, V1, if_neg hb]
theorem V2 {p : List UInt8} (h : V1 0 (unS p) = none) : rdI p = none := by rw [rdI, h]; rfl
theorem c2s {p : List UInt8} {a : Nat} {m : Int} (h : V1 0 (unS p) = some a) (hm : m = if neg? p = true then -(a : Int) else a) (h1 : unS p ≠ []) (h2 : dec m = p) : rdI p = some m := by
 rw [rdI, h, Option.bind_some, ← hm, if_neg (by simp [h1, h2])]
theorem a7s {p : List UInt8} {a : Nat} {m : Int} (h : V1 0 (unS p) = some a) (hm : m = if neg? p = true then -(a : Int) else a) (h1 : unS p = [] ∨ dec m ≠ p) : rdI p = none := by
 rw [rdI, h, Option.bind_some, ← hm, if_pos h1]
theorem d2z {p : List UInt8} (h : p ≠ []) (h2 : (p.getD 0 0).toNat = 45) : neg? p = true ∧ unS p = (p.drop 1).take (p.length - 1) := by
 have hn : neg? p = true := by
  cases p with
  | nil => exact absurd rfl h
  | cons b r => exact decide_eq_true (congrArg some (UInt8.toNat_inj.1 h2))
 refine ⟨hn, ?_⟩
 rw [unS, if_pos hn]
 cases p with
 | nil => rfl
 | cons b r => simp
theorem d1i {p : List UInt8} (h : p = [] ∨ (p.getD 0 0).toNat ≠ 45) : neg? p = false ∧ unS p = p := by
 have hn : neg? p = false := by
  cases p with
  | nil => rfl
  | cons b r =>
   refine decide_eq_false fun e => ?_
   rcases h with h | h
   ·cases h
   ·cases e; exact h rfl
 exact ⟨hn, by rw [unS, hn, if_neg (by decide)]⟩
theorem a0y {ns : List Int} (h : ns ≠ []) : splitB 44 (O9 ns) = ns.map dec :=
 a3n (by simpa using h) fun p hp => by
  obtain ⟨n, _, rfl⟩ := List.mem_map.1 hp
  exact b9r (by decide) (by decide) n
def numsOf (w : List UInt8) : Option (List Int) :=
 if 2 ≤ w.length ∧ w.getD 0 0 = 91 ∧ w.getD (w.length - 1) 0 = 93 then
  (if w.length = 2 then some [] else (rdL ((w.drop 1).take (w.length - 1 - 1))).bind fun ns => if vd ns = true then some ns else none) else none
theorem c4r (ns : List Int) : (Q2 ns).length = (O9 ns).length + 2 := by simp [Q2]
theorem c8k {w : List UInt8} (h : 2 ≤ w.length ∧ w.getD 0 0 = 91 ∧ w.getD (w.length - 1) 0 = 93) : w = 91 :: ((w.drop 1).take (w.length - 1 - 1) ++ [93]) := by
 obtain ⟨h1, h2, h3⟩ := h
 match w, h1 with
 | a :: r, h1 =>
  simp only [List.length_cons] at h1
  have e1 : a = 91 := h2
  subst e1
  have hr : r ≠ [] := fun e => by subst e; simp at h1
  simp only [List.length_cons, Nat.add_sub_cancel, List.drop_succ_cons, List.drop_zero]
  congr 1
  have h4 : r.getD (r.length - 1) 0 = 93 := by
   have : (91 :: r).getD (r.length) 0 = 93 := by simpa using h3
   rw [show r.length = (r.length - 1) + 1 by omega, List.getD_cons_succ] at this
   exact this
  have h5 := List.take_succ_eq_append_getElem (l := r) (i := r.length - 1) (by omega)
  rw [show r.length - 1 + 1 = r.length by omega, List.take_length] at h5
  rw [List.getD_eq_getElem?_getD, List.getElem?_eq_getElem (by omega)] at h4
  have h6 : r[r.length - 1] = 93 := h4
  rw [h6] at h5
  exact h5
theorem a4a {w : List UInt8} {ns : List Int} (h : numsOf w = some ns) : w = Q2 ns ∧ vd ns = true := by
 unfold numsOf at h
 split at h
 ·rename_i hb
  have hp := c8k hb
  split at h
  ·rename_i h2
   cases h
   refine ⟨?_, by decide⟩
   rw [hp, h2]
   rfl
  ·obtain ⟨ms, h3, h4⟩ := Option.bind_eq_some_iff.1 h
   split at h4
   ·rename_i hv
    cases h4
    refine ⟨?_, hv⟩
    rw [hp, Q2, O9, ← a7x h3, b0m]
   ·cases h4
 ·cases h
theorem c7j {ns : List Int} (h : vd ns = true) : ∀ n ∈ ns, -200 ≤ n ∧ n ≤ 200 := by
 intro n hn
 obtain ⟨i, hi, rfl⟩ := List.getElem_of_mem hn
 have := a1z.1 (c7g h) i hi
 rw [List.getD_eq_getElem?_getD, List.getElem?_eq_getElem hi] at this
 exact this
theorem a8x {ns : List Int} (h : vd ns = true) : numsOf (Q2 ns) = some ns := by
 unfold numsOf
 have hl := c4r ns
 rw [if_pos ⟨by omega, rfl, by
  rw [hl, Q2, show (O9 ns).length + 2 - 1 = (O9 ns).length + 1 by omega, List.getD_cons_succ, List.getD_eq_getElem?_getD, List.getElem?_append_right (Nat.le_refl _)]; simp⟩]
 by_cases hn : ns = []
 ·subst hn
  rfl
 ·have h2 : O9 ns ≠ [] := by
   intro e
   have := a0y hn
   rw [e] at this
   cases ns with
   | nil => exact hn rfl
   | cons n r =>
    simp only [splitB, List.map_cons, List.cons.injEq] at this
    exact c7d n this.1.symm
  have h3 : 0 < (O9 ns).length := List.length_pos_iff.2 h2
  rw [if_neg (by omega), hl]
  have e : ((Q2 ns).drop 1).take ((O9 ns).length + 2 - 1 - 1) = O9 ns := by
   rw [Q2, List.drop_succ_cons, List.drop_zero, show (O9 ns).length + 2 - 1 - 1 = (O9 ns).length by omega, List.take_left]
  rw [e, rdL, a0y hn, b7a fun n hn => by have := c7j h n hn; omega, Option.bind_some, if_pos h]
end Go.Mv
namespace Go.Mv
theorem T6 (c : UInt8) (l : List UInt8) : (splitB c l).length ≤ l.length + 1 := by
 induction l with
 | nil => simp [splitB]
 | cons b r ih =>
  rw [splitB]
  split
  ·simp; omega
  ·cases h : splitB c r with
   | nil => simp [U5]
   | cons p ps => rw [h] at ih; simp [U5] at ih ⊢; omega
theorem Y2 (c : UInt8) (l : List UInt8) : ∀ p ∈ splitB c l, p.length ≤ l.length := by
 induction l with
 | nil => simp [splitB]
 | cons b r ih =>
  rw [splitB]
  split
  ·intro p hp
   rcases List.mem_cons.1 hp with e | e
   ·subst e; simp
   ·have := ih p e; simp; omega
  ·cases h : splitB c r with
   | nil => simp [U5]
   | cons q ps =>
    rw [h] at ih
    intro p hp
    rcases List.mem_cons.1 hp with e | e
    ·subst e; have := ih q (by simp); simp; omega
    ·have := ih p (by simp [e]); simp; omega
end Go.Mv
namespace Go.Mv
theorem b6e (p : List UInt8) : (unS p).length ≤ p.length := by
 unfold unS
 split
 ·cases p <;> simp
 ·exact Nat.le_refl _
end Go.Mv
namespace Go.Mv
def b9b (w : List UInt8) : List Int :=
 if 2 ≤ w.length ∧ w.getD 0 0 = 91 ∧ w.getD (w.length - 1) 0 = 93 then (if w.length = 2 then [] else (rdL ((w.drop 1).take (w.length - 1 - 1))).getD []) else []
theorem d1g {b c : UInt8} {k : Nat} (h : (b.toNat : Int) = k) (hc : c.toNat = k) : b = c := UInt8.toNat_inj.1 (by omega)
theorem a4w {s : List UInt8} (h : s.length < 2 ∨ (s.getD 0 0).toNat ≠ 91 ∨ (s.getD (s.length - 1) 0).toNat ≠ 93) : numsOf s = none ∧ b9b s = [] := by
 have hn : ¬(2 ≤ s.length ∧ s.getD 0 0 = 91 ∧ s.getD (s.length - 1) 0 = 93) := by
  rintro ⟨h1, h2, h3⟩
  rcases h with h | h | h
  ·omega
  ·exact h (by rw [h2]; rfl)
  ·exact h (by rw [h3]; rfl)
 exact ⟨if_neg hn, if_neg hn⟩
theorem c4s {s : List UInt8} (h1 : 2 ≤ s.length) (h2 : ((s.getD 0 0).toNat : Int) = 91) (h3 : ((s.getD (s.length - 1) 0).toNat : Int) = 93) :
  (s.length = 2 → numsOf s = some [] ∧ b9b s = []) ∧ (s.length ≠ 2 → numsOf s = ((rdL ((s.drop 1).take (s.length - 1 - 1))).bind fun ns => if vd ns = true then some ns else none) ∧ b9b s = (rdL ((s.drop 1).take (s.length - 1 - 1))).getD []) := by
 have hb : 2 ≤ s.length ∧ s.getD 0 0 = 91 ∧ s.getD (s.length - 1) 0 = 93 := ⟨h1, d1g h2 rfl, d1g h3 rfl⟩
 refine ⟨fun e => ?_, fun e => ?_⟩
 ·rw [numsOf, b9b, if_pos hb, if_pos hb, if_pos e, if_pos e]; exact ⟨rfl, rfl⟩
 ·rw [numsOf, b9b, if_pos hb, if_pos hb, if_neg e, if_neg e]; exact ⟨rfl, rfl⟩
theorem d0v {s : List UInt8} {ns : List Int} (h : numsOf s = some ns) : b9b s = ns := by
 unfold numsOf at h
 unfold b9b
 split at h
 ·rename_i hb
  rw [if_pos hb]
  split at h
  ·rename_i h2
   rw [if_pos h2]; cases h; rfl
  ·rename_i h2
   rw [if_neg h2]
   obtain ⟨ms, h3, h4⟩ := Option.bind_eq_some_iff.1 h
   split at h4
   ·cases h4; rw [h3]; rfl
   ·cases h4
 ·cases h
theorem d1a (s : List UInt8) : ((rdL s).getD []).length ≤ s.length + 1 := by
 cases h : rdL s with
 | none => exact Nat.zero_le _
 | some ns => have := a8o h; have h2 := T6 44 s; simp only [Option.getD_some]; omega
theorem b0p {s : List UInt8} {o : Option (List Int)} (h : numsOf s = (o.bind fun ns => if vd ns = true then some ns else none)) : (numsOf s).isSome = (o.isSome && vd (o.getD [])) := by
 rw [h]
 cases o with
 | none => rfl
 | some ns =>
  simp only [Option.bind_some, Option.isSome_some, Bool.true_and, Option.getD_some]
  cases hv : vd ns <;> rfl
end Go.Mv
end

section
namespace Go.Mv
open Go
inductive Pl where
 | lst (ns : List Int)
 | col (w : List UInt8)
 | un (w : List UInt8) (p : Pl)
 | bin (w : List UInt8) (p q : Pl)
 deriving Inhabited
abbrev lW : List UInt8 := [108, 105, 115, 116]
def Pl.op : Pl → List UInt8
 | .lst _ => lW
 | .col w => w
 | .un w _ => w
 | .bin w _ _ => w
def Pl.ns : Pl → List Int
 | .lst ns => ns
 | _ => []
def Pl.kids : Pl → List Pl
 | .lst _ => []
 | .col _ => []
 | .un _ p => [p]
 | .bin _ p q => [p, q]
def b8y : Pl → List AV
 | .lst _ => []
 | .col _ => []
 | .un _ p => [.agg [tV p.op, .list (p.ns.map iV), .list (b8y p)]]
 | .bin _ p q => [.agg [tV p.op, .list (p.ns.map iV), .list (b8y p)], .agg [tV q.op, .list (q.ns.map iV), .list (b8y q)]]
abbrev trV (t : Pl) : AV := .agg [tV t.op, .list (t.ns.map iV), .list (b8y t)]
abbrev trK (t : Pl) : AV := .agg [tV t.op, .list (t.ns.map iV), .list (t.kids.map trV)]
theorem c9e (t : Pl) : b8y t = t.kids.map trV := by cases t <;> rfl
theorem Z3 (t : Pl) : trV t = trK t := by show AV.agg _ = AV.agg _; rw [c9e]
abbrev trZ : AV := .agg [tV [], .list [], .list []]
abbrev W8 := List UInt8
def rdP : Nat → List W8 → Option (Pl × List W8)
 | 0, _ => none
 | _ + 1, [] => none
 | n + 1, w :: ws => match numsOf w with
  | some ns => some (.lst ns, ws)
  | none =>
   if rch (bA w) = 0 then some (.col w, ws)
   else if rch (bA w) = 1 then (rdP n ws).map fun x => (.un w x.1, x.2)
   else if rch (bA w) = 2 then (rdP n ws).bind fun x => (rdP n x.2).map fun y => (.bin w x.1 y.1, y.2)
   else none
def rdT (ws : List W8) : Option (Pl × List W8) := rdP ws.length ws
theorem a1r : ∀ {n : Nat} {ws r : List W8} {t : Pl}, rdP n ws = some (t, r) → r.length < ws.length
 | 0, _, _, _, h => by cases h
 | _ + 1, [], _, _, h => by cases h
 | n + 1, w :: ws, r, t, h => by
  rw [rdP] at h
  split at h
  ·cases h; exact Nat.lt_succ_self _
  ·split at h
   ·cases h; exact Nat.lt_succ_self _
   ·split at h
    ·obtain ⟨⟨p, r1⟩, h1, h2⟩ := Option.map_eq_some_iff.1 h
     cases h2
     have := a1r h1
     simp only [List.length_cons]; omega
    ·split at h
     ·obtain ⟨⟨p, r1⟩, h1, h2⟩ := Option.bind_eq_some_iff.1 h
      obtain ⟨⟨q, r2⟩, h3, h4⟩ := Option.map_eq_some_iff.1 h2
      cases h4
      have a := a1r h1
      have b := a1r h3
      simp only [List.length_cons] at b ⊢; omega
     ·cases h
theorem b1k : ∀ {n m : Nat} {ws : List W8}, ws.length ≤ n → ws.length ≤ m → rdP n ws = rdP m ws
 | 0, 0, _, _, _ => rfl
 | 0, m + 1, [], _, _ => rfl
 | n + 1, 0, [], _, _ => rfl
 | n + 1, m + 1, [], _, _ => rfl
 | 0, _, w :: ws, h, _ => by simp at h
 | n + 1, 0, w :: ws, _, h => by simp at h
 | n + 1, m + 1, w :: ws, h1, h2 => by
  simp only [List.length_cons] at h1 h2
  have e : rdP n ws = rdP m ws := b1k (by omega) (by omega)
  rw [rdP, rdP, e]
  have e2 : ((rdP m ws).bind fun x => (rdP n x.2).map fun y => (Pl.bin w x.1 y.1, y.2)) = (rdP m ws).bind fun x => (rdP m x.2).map fun y => (Pl.bin w x.1 y.1, y.2) := by
   cases h : rdP m ws with
   | none => rfl
   | some x =>
    obtain ⟨p, r⟩ := x
    have := a1r h
    simp only [Option.bind_some]
    rw [b1k (n := n) (m := m) (ws := r) (by omega) (by omega)]
  rw [e2]
theorem b9i {w : W8} {ws : List W8} {ns : List Int} (h : numsOf w = some ns) : rdT (w :: ws) = some (.lst ns, ws) := by
 rw [rdT, List.length_cons, rdP, h]
theorem c3j {w : W8} {ws : List W8} (h : numsOf w = none) (h0 : rch (bA w) = 0) : rdT (w :: ws) = some (.col w, ws) := by
 rw [rdT, List.length_cons, rdP, h]
 exact if_pos h0
theorem c2z {w : W8} {ws : List W8} (h : numsOf w = none) (h0 : rch (bA w) < 0) : rdT (w :: ws) = none := by
 rw [rdT, List.length_cons, rdP, h]
 simp only
 rw [if_neg (by omega), if_neg (by omega), if_neg (by omega)]
theorem b5m {w : W8} {ws : List W8} (h : numsOf w = none) (h0 : rch (bA w) = 1) : rdT (w :: ws) = (rdT ws).map fun x => (.un w x.1, x.2) := by
 rw [rdT, List.length_cons, rdP, h]
 simp only
 rw [if_neg (by omega), if_pos h0]; rfl
theorem a5c {w : W8} {ws : List W8} (h : numsOf w = none) (h0 : rch (bA w) = 2) : rdT (w :: ws) = (rdT ws).bind fun x => (rdT x.2).map fun y => (.bin w x.1 y.1, y.2) := by
 rw [rdT, List.length_cons, rdP, h]
 simp only
 rw [if_neg (by omega), if_neg (by omega), if_pos h0]
 show (rdT ws).bind _ = _
 cases h : rdT ws with
 | none => rfl
 | some x =>
  obtain ⟨p, r⟩ := x
  have := a1r h
  simp only [Option.bind_some]
  rw [b1k (n := ws.length) (m := r.length) (ws := r) (by omega) (by omega)]; rfl
theorem Y8 {ws r : List W8} {t : Pl} (h : rdT ws = some (t, r)) : r.length < ws.length := a1r h
def rtR : Option (Pl × List W8) → AV
 | some (t, r) => .tup [trV t, .list (r.map tV), bV true]
 | none => .tup [trZ, .own 1 [], bV false]
theorem b3v {w : ByteArray} (h : 0 ≤ rch w) : rch w = 0 ∨ rch w = 1 ∨ rch w = 2 := by have := c6r w; omega
end Go.Mv
namespace Go.Mv
theorem a6n : ∀ {n : Nat} {ws r : List W8} {t : Pl}, rdP n ws = some (t, r) → ∀ x ∈ r, x ∈ ws
 | 0, _, _, _, h => by cases h
 | _ + 1, [], _, _, h => by cases h
 | n + 1, w :: ws, r, t, h => by
  rw [rdP] at h
  split at h
  ·cases h; exact fun x hx => List.mem_cons_of_mem _ hx
  ·split at h
   ·cases h; exact fun x hx => List.mem_cons_of_mem _ hx
   ·split at h
    ·obtain ⟨⟨p, r1⟩, h1, h2⟩ := Option.map_eq_some_iff.1 h
     cases h2
     exact fun x hx => List.mem_cons_of_mem _ (a6n h1 x hx)
    ·split at h
     ·obtain ⟨⟨p, r1⟩, h1, h2⟩ := Option.bind_eq_some_iff.1 h
      obtain ⟨⟨q, r2⟩, h3, h4⟩ := Option.map_eq_some_iff.1 h2
      cases h4
      exact fun x hx => List.mem_cons_of_mem _ (a6n h1 x (a6n h3 x hx))
     ·cases h
theorem b0b {ws r : List W8} {t : Pl} (h : rdT ws = some (t, r)) : ∀ x ∈ r, x ∈ ws := a6n h
end Go.Mv
namespace Go.Mv
def rpT (s : List UInt8) : Pl := if s.length ≤ 160 ∧ (splitB 32 s).length ≤ 16 then (match rdT (splitB 32 s) with | some (t, _) => t | none => .col []) else .col []
def rdPlan (s : List UInt8) : Option Pl := if s.length ≤ 160 ∧ (splitB 32 s).length ≤ 16 then (rdT (splitB 32 s)).bind fun x => if x.2.length = 0 then some x.1 else none else none
theorem d2l {s : List UInt8} {t : Pl} (h : rdPlan s = some t) : rpT s = t := by
 unfold rdPlan at h
 unfold rpT
 split at h
 ·rename_i hc
  rw [if_pos hc]
  obtain ⟨⟨t1, r⟩, h1, h2⟩ := Option.bind_eq_some_iff.1 h
  split at h2
  ·cases h2; rw [h1]
  ·cases h2
 ·cases h
theorem b1p {s : List UInt8} (h : 160 < s.length ∨ 16 < (splitB 32 s).length) : rdPlan s = none ∧ rpT s = .col [] := by
 have hn : ¬(s.length ≤ 160 ∧ (splitB 32 s).length ≤ 16) := by omega
 exact ⟨if_neg hn, if_neg hn⟩
theorem c4t {s : List UInt8} {ws : List W8} (hw : ws = splitB 32 s) (h : s.length ≤ 160 ∧ ws.length ≤ 16) : (rdT ws = none → rdPlan s = none ∧ rpT s = .col []) ∧ ∀ t r, rdT ws = some (t, r) → (rdPlan s).isSome = decide ((r.length : Int) = 0) ∧ rpT s = t := by
 subst hw
 refine ⟨fun hr => ?_, fun t r hr => ?_⟩
 ·rw [rdPlan, rpT, if_pos h, if_pos h, hr]; exact ⟨rfl, rfl⟩
 ·rw [rdPlan, rpT, if_pos h, if_pos h, hr]
  refine ⟨?_, rfl⟩
  rw [Option.bind_some]
  by_cases c : r.length = 0
  ·rw [if_pos c]; simp [c]
  ·rw [if_neg c, decide_eq_false (by omega)]; rfl
end Go.Mv
end

section
namespace Go.Mv
open Go
section
variable {cx : Cx} {keep : List Nat} {ops0 : Array Oper} {r : List Oper} {A : Asr} {Q : Asr → List Log → Prop} {d : Nat} {ty : Nat} {pos : String} {aft : Array Edge}
variable {C : Caller} {m f j : Nat} {cs fs : List AV} {G : Type} {vs : G → List AV} {ws : G → Ws} {ls : List Mv.Loc}
theorem L7 {id g n : Nat} (hid : id < 100000) (t : b7m C A 3 f (j + 1) cs.tail fs vs ws ls) : b7m C A 3 f j cs (.sl id g none 0 n :: fs) (fun x => .sl id g none 0 n :: vs x) ws ls := by
 refine A6 ?_
 unfold K7
 simp only [if_true]
 rw [if_neg (by simp; omega)]
 refine C3 (A6 (H8 t ?_))
 rintro _ _ _ ⟨g, rfl, rfl, rfl⟩
 exact C3 ⟨g, rfl, by simp, by simp⟩
theorem c9g {id g s n : Nat} {es : List AV} (ho : look A (.h id) = some (.obj g 0 s es)) (hn : n = es.length) (hi : G7 es = true) {R : List AV → Ws → List Mv.Loc → Prop} (h : R (frzL es) [(.h id, .obj g 2 s (frzL es))] [.h id]) : wpW C A (freeze (.sl id g none 0 n)) R := by
 subst hn
 unfold freeze
 refine A6 (K3 ho (A6 (E8 (by simp [bxB]) ?_)))
 simp only [show ¬ ((0 : Nat) = 2) from by decide, if_false]
 refine A6 (E8 (by simp [hi]) (A6 (J2 (C3 ?_))))
 have e : (frzL es).take es.length = frzL es := by rw [← R6 es, List.take_length]
 simpa [e] using h
variable {b : Bool} {us : List AV} {w1 : Ws}
theorem I1 (hb : b = true) (t : b3e C A b fs us w1 ls) : b3e C A b (.nil :: fs) (.list [] :: us) w1 ls := by
 subst hb
 refine A6 ?_
 unfold retLf
 rw [if_pos rfl]
 refine C3 (A6 (H8 t ?_))
 rintro _ _ _ ⟨rfl, rfl, rfl⟩
 exact C3 ⟨rfl, by simp, by simp⟩
theorem J5 {α : Type} {φ : α → AV} {xs : List α} {id g s n : Nat} (hb : b = true) (ho : look A (.h id) = some (.obj g 0 s (xs.map φ))) (hn : n = (xs.map φ).length) (hi : ∀ a, L3 (φ a) = true) (t : b3e C (put A (.h id) (.obj g 2 s (xs.map φ))) b fs us w1 ls) :
  b3e C A b (.sl id g none 0 n :: fs) (.list (xs.map φ) :: us) ((.h id, .obj g 2 s (xs.map φ)) :: w1) (.h id :: ls) := by
 subst hb
 refine A6 ?_
 unfold retLf
 rw [if_pos rfl]
 have hr : G7 (xs.map φ) = true := A7 fun a => by
  have := hi a
  cases hfa : φ a <;> rw [hfa] at this <;> simp_all [L3, M6]
 refine A6 (c9g ho hn hr (C3 (A6 ?_)))
 rw [a4f hi]
 refine H8 t ?_
 rintro _ _ _ ⟨rfl, rfl, rfl⟩
 exact C3 ⟨rfl, by simp, by simp⟩
end
end Go.Mv
namespace Go.Mv
open Go
section
variable {cx : Cx} {keep : List Nat} {ops0 : Array Oper} {r : List Oper} {A : Asr} {Q : Asr → List Log → Prop} {d : Nat} {ty : Nat} {pos : String} {aft : Array Edge}
theorem b8l {T z : Nat} {a b : Operand} (hT : a1s cx.P T = true) (ha : opd A a = some .ifc) (hb : opd A b = some (.val .nilIface))
  (h : XR cx keep ops0 r ((.t d, bV true) :: A) fun A' lg => Q A' ((rds a ++ rds b, [.t d]) :: lg)) : XR cx keep ops0 (⟨some d, .binOp .neq T a b z, ty, pos, aft, none⟩ :: r) A Q :=
 K5 (fun o ho => by simp only [aopV, ho]) (by simp only [opV, E3, E5 ha, E5 hb, F8, F4, a2o, a0t, List.append_nil, List.nil_append, true_and, and_self, and_true]; exact ⟨hT, by simp [F4]⟩) (by simp [slotOk, refOkV, refsOk]) h
theorem c8e {T z : Nat} {a b : Operand} (hT : a1s cx.P T = true) (hc : a3p b = true) (ha : opd A a = some (.val .nilIface)) (hb : opd A b = some (.val .nilIface))
  (h : XR cx keep ops0 r ((.t d, bV false) :: A) fun A' lg => Q A' ((rds a ++ rds b, [.t d]) :: lg)) : XR cx keep ops0 (⟨some d, .binOp .neq T a b z, ty, pos, aft, none⟩ :: r) A Q :=
 K5 (fun o ho => by simp only [aopV, ho]) (by simp only [opV, E3, E5 ha, E5 hb, F8, F4, a2o, a0t, List.append_nil, List.nil_append, true_and, and_self, and_true, hT, hc, Bool.or_true, Bool.and_self]) (by simp [slotOk, refOkV, refsOk]) h
end
end Go.Mv
namespace Go.Mv
open Go
theorem b5q {A : Asr} {C : Caller} {fs us : List AV} {w1 : Ws} {ls : List Mv.Loc} {b : Bool} {id g s n : Nat} (hb : b = true) (ho : look A (.h id) = some (.obj g 0 s [])) (hn : n = 0) (t : b3e C (put A (.h id) (.obj g 2 s [])) b fs us w1 ls) :
  b3e C A b (.sl id g none 0 n :: fs) (.list [] :: us) ((.h id, .obj g 2 s []) :: w1) (.h id :: ls) :=
 J5 (φ := iV) (xs := []) hb ho hn (fun _ => rfl) t
end Go.Mv
end

section
namespace Go.Mv
open Go
def unT : List AV → Option (List (List UInt8))
 | [] => some []
 | .val (.string s) :: r => (unT r).map (s.data.toList :: ·)
 | _ => none
theorem c9y (ps : List (List UInt8)) : unT (ps.map tV) = some ps := by
 induction ps with
 | nil => rfl
 | cons p ps ih => simp [unT, ih]
def one? (s : ByteArray) : Option UInt8 := match s.data.toList with
 | [b] => some b
 | _ => none
theorem one?_some {s : ByteArray} {b : UInt8} (h : one? s = some b) : s = bA [b] := by
 unfold one? at h
 split at h
 ·rename_i b' hs
  cases h
  have : s = bA s.data.toList := (b5u s).symm
  rw [hs] at this
  exact this
 ·cases h
def b1w : List AV → Option (AV × List (List AV))
 | [.val (.string s), .val (.string c)] => (one? c).bind fun b => if s.size < 4294967281 then some (.own 1 ((splitB b s.data.toList).map tV), []) else none
 | _ => none
def b5y : List AV → Option (AV × List (List AV))
 | [.list es, .val (.string c)] => (one? c).bind fun b => (unT es).bind fun ps => if ps.length ≤ H6 ∧ (joinB b ps).length ≤ H6 then some (tV (joinB b ps), []) else none
 | _ => none
def a3d (b : UInt8) (l : List UInt8) : List UInt8 := if l.head? = some b then l.tail else l
def b3f (b : UInt8) (l : List UInt8) : List UInt8 := if l.getLast? = some b then l.dropLast else l
def b5l : List AV → Option (AV × List (List AV))
 | [.val (.string s), .val (.string c)] => (one? c).bind fun b => some (.tup [tV (a3d b s.data.toList), bV (decide (s.data.toList.head? = some b))], [])
 | _ => none
def b5f : List AV → Option (AV × List (List AV))
 | [.val (.string s), .val (.string c)] => (one? c).bind fun b => if s.size < 4294967281 then some (.tup [tV (b3f b s.data.toList), bV (decide (s.data.toList.getLast? = some b))], []) else none
 | _ => none
def a9r : List AV → Option (AV × List (List AV))
 | [.val (.int .i64 n)] => if -9223372036854775808 ≤ n ∧ n ≤ 9223372036854775807 then some (tV (dec n), []) else none
 | _ => none
def atR (l : List UInt8) : AV := match Lib.atoiAll l with
 | .ok v => .tup [iV v, .val .nilIface]
 | .range => .tup [iV (Lib.atoiSat l), .ifc]
 | _ => .tup [iV 0, .ifc]
def b4t : List AV → Option (AV × List (List AV))
 | [.val (.string s)] => if s.size < 4294967281 then some (atR s.data.toList, []) else none
 | _ => none
theorem b1s {c : UInt8} (hc : 48 ≤ c.toNat ∧ c.toNat ≤ 57) : ∀ (x : List UInt8) (a u : Nat), Lib.parseUint10 a x = .ok u → u ≤ 100000000 → Lib.parseUint10 a (x ++ [c]) = .ok (u * 10 + (c.toNat - 48))
 | [], a, u, h, hu => by
  simp only [Lib.parseUint10] at h
  injection h with h
  subst h
  simp only [List.nil_append, Lib.parseUint10]
  rw [if_pos hc, if_neg (by omega), if_neg (by omega)]
 | b :: r, a, u, h, hu => by
  simp only [Lib.parseUint10] at h
  simp only [List.cons_append, Lib.parseUint10]
  split at h
  ·split at h
   ·cases h
   ·split at h
    ·cases h
    ·rename_i h1 h2 h3
     rw [if_pos h1, if_neg h2, if_neg h3]
     exact b1s hc r _ u h hu
  ·cases h
theorem c4w (n : Nat) : n ≤ 1000000 → Lib.parseUint10 0 (decN n) = .ok n := by
 induction n using Nat.strongRecOn with
 | _ n ih =>
  intro hn
  rw [decN]
  split
  ·simp only [Lib.parseUint10]
   rw [u8n (by omega), if_pos (by omega), if_neg (by omega), if_neg (by omega)]
   congr 1; omega
  ·rw [b1s (by rw [u8n (by omega)]; omega) _ _ _ (ih (n / 10) (by omega) (by omega)) (by omega), u8n (by omega)]
   congr 1; omega
theorem c8o {n : Int} (h : -1000000 ≤ n ∧ n ≤ 1000000) : Lib.atoiAll (dec n) = .ok n := by
 have key : ∀ m : Nat, m ≤ 1000000 → Lib.parseMag (decN m) = .ok m := fun m hm => by rw [Lib.parseMag, if_neg (a6x m), c4w m hm]
 by_cases hn : n < 0
 ·rw [dec, if_pos hn]
  simp only [Lib.atoiAll]
  rw [if_pos (.inr (by decide)), key _ (by omega)]
  simp only
  rw [if_neg (by omega), if_neg (by omega)]
  have : (45 : UInt8).toNat = 45 := rfl
  simp only [this, if_true]
  congr 1; omega
 ·have e : dec n = decN n.toNat := by rw [dec, if_neg hn]
  rw [e]
  have hk := key n.toNat (by omega)
  cases hd : decN n.toNat with
  | nil => exact absurd hd (a6x _)
  | cons b r =>
   have hb := a6u n.toNat b (by rw [hd]; simp)
   rw [hd] at hk
   simp only [Lib.atoiAll]
   rw [if_neg (by omega), hk]
   have h45 : ¬ b.toNat = 45 := by omega
   simp only [h45, not_false_eq_true, true_and, false_and, if_false]
   rw [if_neg (by omega)]
   congr 1; omega
def rdA : List (List UInt8) → Option (List Int)
 | [] => some []
 | p :: r => match Lib.atoiAll p with
  | .ok v => (rdA r).map fun ns => v :: ns
  | _ => none
theorem c3d : ∀ {ns : List Int}, (∀ n ∈ ns, -1000000 ≤ n ∧ n ≤ 1000000) → rdA (ns.map dec) = some ns
 | [], _ => rfl
 | n :: ns, h => by rw [List.map_cons, rdA, c8o (h n (by simp)), c3d fun x hx => h x (List.mem_cons_of_mem _ hx)]; rfl
theorem c7k {ps : List (List UInt8)} {ns : List Int} {i : Nat} {v : Int} (hi : i < ps.length) (h : rdA (ps.take i) = some ns) (hv : Lib.atoiAll (ps.getD i default) = .ok v) : rdA (ps.take (i + 1)) = some (ns ++ [v]) := by
 induction ps generalizing ns i with
 | nil => simp at hi
 | cons p r ih =>
  cases i with
  | zero =>
   simp only [List.take_zero, rdA, Option.some.injEq] at h
   subst h
   have hv' : Lib.atoiAll p = .ok v := hv
   simp [rdA, hv']
  | succ i =>
   simp only [List.take_succ_cons, rdA] at h ⊢
   split at h
   ·rename_i u hu
    obtain ⟨ms, h1, rfl⟩ := Option.map_eq_some_iff.1 h
    rw [ih (by simpa using hi) h1 (by simpa using hv)]; rfl
   ·cases h
theorem b7n {ps : List (List UInt8)} {i : Nat} (hi : i < ps.length) (hv : ∀ v, Lib.atoiAll (ps.getD i default) ≠ .ok v) : rdA ps = none := by
 induction ps generalizing i with
 | nil => simp at hi
 | cons p r ih =>
  cases i with
  | zero =>
   have hv' : ∀ v, Lib.atoiAll p ≠ .ok v := hv
   rw [rdA]
   split
   ·rename_i u hu; exact absurd hu (hv' u)
   ·rfl
  | succ i =>
   rw [rdA]
   split
   ·rw [ih (by simpa using hi) (by simpa using hv)]; rfl
   ·rfl
end Go.Mv
namespace Go.Mv
open Go
def a3h (w : List UInt8) : List UInt8 := b3f 93 (a3d 91 w)
def okB (w : List UInt8) : Bool := decide (w.head? = some 91) && decide ((a3d 91 w).getLast? = some 93)
def a2a (w : List UInt8) : Option (List Int) := if okB w = true then (if a3h w = [] then some [] else rdA (splitB 44 (a3h w))) else none
def okI (w : List UInt8) : Bool := match a2a w with
 | some ns => vd ns && decide (Q2 ns = w)
 | none => false
theorem b7g {w : List UInt8} {ns : List Int} (h : numsOf w = some ns) : a2a w = some ns := by
 obtain ⟨rfl, hv⟩ := a4a h
 have h1 : a3d 91 (Q2 ns) = O9 ns ++ [93] := by rw [a3d, if_pos (show (Q2 ns).head? = some 91 from rfl)]; rfl
 have h2 : (a3d 91 (Q2 ns)).getLast? = some 93 := by rw [h1]; simp
 have h3 : a3h (Q2 ns) = O9 ns := by rw [a3h, b3f, if_pos h2, h1]; simp
 have hok : okB (Q2 ns) = true := by rw [okB, h2]; rfl
 rw [a2a, if_pos hok, h3]
 by_cases hn : ns = []
 ·subst hn; rfl
 ·have h4 : O9 ns ≠ [] := by
   intro e
   have := a0y hn
   rw [e] at this
   cases ns with
   | nil => exact hn rfl
   | cons n r =>
    simp only [splitB, List.map_cons, List.cons.injEq] at this
    exact c7d n this.1.symm
  rw [if_neg h4, a0y hn]
  exact c3d fun n hn => by have := c7j hv n hn; omega
theorem d2c (w : List UInt8) : okI w = (numsOf w).isSome := by
 cases h : numsOf w with
 | some ns =>
  obtain ⟨e, hv⟩ := a4a h
  rw [okI, b7g h]
  simp [hv, ← e]
 | none =>
  rw [okI]
  cases hi : a2a w with
  | none => rfl
  | some ns =>
   simp only
   cases hv : vd ns with
   | false => rfl
   | true =>
    rw [Bool.true_and]
    refine decide_eq_false fun e => ?_
    have := a8x hv
    rw [e, h] at this
    cases this
theorem c9f (w : List UInt8) : (∃ ns, numsOf w = some ns) ∨ (numsOf w = none ∧ rch (bA w) = 0) ∨ (numsOf w = none ∧ rch (bA w) = 1) ∨ (numsOf w = none ∧ rch (bA w) = 2) ∨ (numsOf w = none ∧ rch (bA w) < 0) := by
 cases h : numsOf w with
 | some ns => exact .inl ⟨ns, rfl⟩
 | none =>
  have := c6r (bA w)
  rcases Int.lt_or_le (rch (bA w)) 0 with c | c
  ·exact .inr (.inr (.inr (.inr ⟨rfl, c⟩)))
  ·rcases b3v c with c | c | c
   ·exact .inr (.inl ⟨rfl, c⟩)
   ·exact .inr (.inr (.inl ⟨rfl, c⟩))
   ·exact .inr (.inr (.inr (.inl ⟨rfl, c⟩)))
theorem c9t (w : List UInt8) : (decide (w ≠ lW) && decide (0 ≤ nd (bA w))) = decide (0 ≤ rch (bA w)) := by
 by_cases h : w = lW
 ·subst h
  rw [b0w (show (bA lW).toList = wList.toList from rfl)]
  rfl
 ·rw [decide_eq_true h, Bool.true_and, c0j _ (by rw [a1n, X3]; exact h)]
theorem S4 {w : List UInt8} (h : 0 ≤ rch (bA w)) : nd (bA w) = rch (bA w) := by
 refine c0j _ fun e => ?_
 rw [b0w e] at h
 omega
end Go.Mv
namespace Go.Mv
theorem b2q {ns : List Int} {i : Nat} (h : i < ns.length) : (ns.take (i + 1)).map dec = (ns.take i).map dec ++ [dec (ns.getD i default)] := by
 rw [List.take_succ_eq_append_getElem h, List.map_append, List.map_singleton, List.getD_eq_getElem?_getD, List.getElem?_eq_getElem h]; rfl
theorem c7w (b : UInt8) (l : List UInt8) : (a3d b l).length ≤ l.length := by
 unfold a3d
 split
 ·cases l <;> simp
 ·exact Nat.le_refl _
theorem c9a (b : UInt8) (l : List UInt8) : (b3f b l).length ≤ l.length := by
 unfold b3f
 split
 ·simp
 ·exact Nat.le_refl _
theorem b2b : ∀ {ps : List (List UInt8)} {ns : List Int}, rdA ps = some ns → ns.length = ps.length
 | [], ns, h => by cases h; rfl
 | p :: r, ns, h => by
  rw [rdA] at h
  split at h
  ·obtain ⟨ms, h1, rfl⟩ := Option.map_eq_some_iff.1 h
   simp [b2b h1]
  ·cases h
def rlX (w : List UInt8) : List Int := (a2a w).getD []
theorem d1x {w : List UInt8} {ns : List Int} (h : numsOf w = some ns) : rlX w = ns := by rw [rlX, b7g h]; rfl
theorem b6f {w : List UInt8} (h : a2a w = none) : okI w = false ∧ rlX w = [] := by rw [okI, rlX, h]; exact ⟨rfl, rfl⟩
theorem a6a {w : List UInt8} {ns : List Int} (h : a2a w = some ns) : okI w = (vd ns && decide (Q2 ns = w)) ∧ rlX w = ns := by rw [okI, rlX, h]; exact ⟨rfl, rfl⟩
theorem b7p {w : List UInt8} (h : okB w = false) : a2a w = none := by rw [a2a, h]; rfl
theorem c4e {w : List UInt8} (h : okB w = true) (h2 : a3h w = []) : a2a w = some [] := by rw [a2a, if_pos h, if_pos h2]
theorem a9v {w : List UInt8} (h : okB w = true) (h2 : a3h w ≠ []) : a2a w = rdA (splitB 44 (a3h w)) := by rw [a2a, if_pos h, if_neg h2]
theorem c2y {ns : List Int} (h : vd ns = true) : ∀ n ∈ ns, -1000000 ≤ n ∧ n ≤ 1000000 := fun n hn => by have := c7j h n hn; omega
theorem c6f {w : List UInt8} (h : okB w = true) : (a3h w).length + 2 ≤ w.length := by
 simp only [okB, Bool.and_eq_true, decide_eq_true_eq] at h
 obtain ⟨h1, h2⟩ := h
 have e1 : (a3d 91 w).length + 1 = w.length := by
  rw [a3d, if_pos h1]
  cases w with
  | nil => cases h1
  | cons b r => rfl
 have e2 : (a3h w).length + 1 = (a3d 91 w).length := by
  rw [a3h, b3f, if_pos h2]
  cases hc : a3d 91 w with
  | nil => rw [hc] at h2; cases h2
  | cons b r => simp
 omega
end Go.Mv
namespace Go.Mv
def ipT (s : List UInt8) : Pl := match rdT (splitB 32 s) with
 | some (t, _) => t
 | none => .col []
def b7j (s : List UInt8) : Bool := match rdT (splitB 32 s) with
 | some (_, r) => decide ((r.length : Int) = 0) && decide (((splitB 32 s).length : Int) ≤ 16)
 | none => false
theorem d0p {s : List UInt8} {ws : List W8} (hw : ws = splitB 32 s) (h : rdT ws = none) : ipT s = .col [] ∧ b7j s = false := by
 subst hw; rw [ipT, b7j, h]; exact ⟨rfl, rfl⟩
theorem b6u {s : List UInt8} {ws : List W8} {t : Pl} {r : List W8} (hw : ws = splitB 32 s) (h : rdT ws = some (t, r)) : ipT s = t ∧ b7j s = (decide ((r.length : Int) = 0) && decide ((ws.length : Int) ≤ 16)) := by
 subst hw; rw [ipT, b7j, h]; exact ⟨rfl, rfl⟩
theorem d2v (s : List UInt8) : (b7j s && decide ((s.length : Int) ≤ 160)) = (rdPlan s).isSome := by
 rw [b7j, rdPlan]
 by_cases h : s.length ≤ 160 ∧ (splitB 32 s).length ≤ 16
 ·rw [if_pos h, decide_eq_true (show (s.length : Int) ≤ 160 by omega), Bool.and_true]
  cases hr : rdT (splitB 32 s) with
  | none => rfl
  | some x =>
   obtain ⟨t, r⟩ := x
   simp only [Option.bind_some]
   rw [decide_eq_true (show ((splitB 32 s).length : Int) ≤ 16 by omega), Bool.and_true]
   by_cases c : r.length = 0
   ·rw [if_pos c]; simp [c]
   ·rw [if_neg c, decide_eq_false (by omega)]; rfl
 ·rw [if_neg h]
  rcases Nat.lt_or_ge 160 s.length with c | c
  ·rw [decide_eq_false (show ¬ (s.length : Int) ≤ 160 by omega), Bool.and_false]; rfl
  ·have h16 : ¬ ((splitB 32 s).length : Int) ≤ 16 := by omega
   split
   ·rw [decide_eq_false h16, Bool.and_false]; rfl
   ·rfl
end Go.Mv
end

section
namespace Go.Mv
open Go
def Pl.sz : Pl → Nat
 | .lst _ => 1
 | .col _ => 1
 | .un _ p => p.sz + 1
 | .bin _ p q => p.sz + q.sz + 1
theorem c7h {t : Pl} {i : Nat} (hi : i < t.kids.length) : (t.kids.getD i default).sz < t.sz := by
 cases t with
 | lst ns => simp [Pl.kids] at hi
 | col w => simp [Pl.kids] at hi
 | un w p =>
  obtain rfl : i = 0 := by simp [Pl.kids] at hi; omega
  exact Nat.lt_succ_self _
 | bin w p q =>
  rcases i with _ | _ | i
  ·simp only [Pl.kids, List.getD_cons_zero, Pl.sz]; omega
  ·simp only [Pl.kids, List.getD_cons_zero, List.getD_cons_succ, Pl.sz]; omega
  ·simp [Pl.kids] at hi; omega
theorem b6z (t : Pl) : t.kids.length ≤ 2 := by cases t <;> simp [Pl.kids]
theorem b5b : ∀ {n : Nat} {ws r : List W8} {t : Pl}, rdP n ws = some (t, r) → t.sz + r.length ≤ ws.length
 | 0, _, _, _, h => by cases h
 | _ + 1, [], _, _, h => by cases h
 | n + 1, w :: ws, r, t, h => by
  rw [rdP] at h
  split at h
  ·cases h; simp only [Pl.sz, List.length_cons]; omega
  ·split at h
   ·cases h; simp only [Pl.sz, List.length_cons]; omega
   ·split at h
    ·obtain ⟨⟨p, r1⟩, h1, h2⟩ := Option.map_eq_some_iff.1 h
     cases h2
     have := b5b h1
     simp only [Pl.sz, List.length_cons]; omega
    ·split at h
     ·obtain ⟨⟨p, r1⟩, h1, h2⟩ := Option.bind_eq_some_iff.1 h
      obtain ⟨⟨q, r2⟩, h3, h4⟩ := Option.map_eq_some_iff.1 h2
      cases h4
      have a := b5b h1
      have b := b5b h3
      simp only [Pl.sz, List.length_cons] at b ⊢; omega
     ·cases h
theorem b4k {s : List UInt8} {t : Pl} (h : rdPlan s = some t) : t.sz ≤ 16 := by
 unfold rdPlan at h
 split at h
 ·rename_i hc
  obtain ⟨⟨t1, r⟩, h1, h2⟩ := Option.bind_eq_some_iff.1 h
  have := b5b h1
  split at h2
  ·cases h2; simp only; omega
  ·cases h2
 ·cases h
theorem b1v {s : List UInt8} (h : (rdPlan s).isSome = true) : ∃ t, rdPlan s = some t ∧ rpT s = t ∧ t.sz ≤ 16 := by
 obtain ⟨t, ht⟩ := Option.isSome_iff_exists.1 h
 exact ⟨t, ht, d2l ht, b4k ht⟩
end Go.Mv
end

section
namespace Go.Mv
open Go
def Pl.good : Pl → Prop
 | .lst ns => vd ns = true
 | .col w => w ≠ lW ∧ w.length ≤ 1048576
 | .un w p => w ≠ lW ∧ w.length ≤ 1048576 ∧ p.good
 | .bin w p q => w ≠ lW ∧ w.length ≤ 1048576 ∧ p.good ∧ q.good
theorem U6 {t : Pl} (h : t.good) (e : t.op = lW) : ∃ ns, t = .lst ns ∧ vd ns = true := by
 cases t with
 | lst ns => exact ⟨ns, rfl, h⟩
 | col w => exact absurd e h.1
 | un w p => exact absurd e h.1
 | bin w p q => exact absurd e h.1
theorem b8b {t : Pl} (h : t.good) {i : Nat} (hi : i < t.kids.length) : (t.kids.getD i default).good := by
 cases t with
 | lst ns => simp [Pl.kids] at hi
 | col w => simp [Pl.kids] at hi
 | un w p =>
  obtain rfl : i = 0 := by simp [Pl.kids] at hi; omega
  exact h.2.2
 | bin w p q =>
  rcases i with _ | _ | i
  ·exact h.2.2.1
  ·exact h.2.2.2
  ·simp [Pl.kids] at hi; omega
theorem b1t {w : W8} {ws : List W8} (hb : ∀ x ∈ w :: ws, x.length ≤ 1048576) (h : 0 ≤ rch (bA w)) : w ≠ lW ∧ w.length ≤ 1048576 :=
 ⟨fun e => absurd h (by subst e; decide +kernel), hb w (List.mem_cons_self ..)⟩
theorem c5s {w : W8} {ns : List Int} (h : numsOf w = some ns) : vd ns = true := by
 unfold numsOf at h
 split at h
 ·split at h
  ·cases h; rfl
  ·obtain ⟨ms, h1, h2⟩ := Option.bind_eq_some_iff.1 h
   split at h2
   ·cases h2; assumption
   ·cases h2
 ·cases h
theorem a6j : ∀ {n : Nat} {ws r : List W8} {t : Pl}, (∀ x ∈ ws, x.length ≤ 1048576) → rdP n ws = some (t, r) → t.good
 | 0, _, _, _, _, h => by cases h
 | _ + 1, [], _, _, _, h => by cases h
 | n + 1, w :: ws, r, t, hb, h => by
  have hb1 : ∀ x ∈ ws, x.length ≤ 1048576 := fun x hx => hb x (List.mem_cons_of_mem _ hx)
  rw [rdP] at h
  split at h
  ·cases h; exact c5s (by assumption)
  ·split at h
   ·cases h; exact b1t hb (by omega)
   ·split at h
    ·obtain ⟨⟨p, r1⟩, h1, h2⟩ := Option.map_eq_some_iff.1 h
     cases h2
     have hg := b1t hb (by omega)
     exact ⟨hg.1, hg.2, a6j hb1 h1⟩
    ·split at h
     ·obtain ⟨⟨p, r1⟩, h1, h2⟩ := Option.bind_eq_some_iff.1 h
      obtain ⟨⟨q, r2⟩, h3, h4⟩ := Option.map_eq_some_iff.1 h2
      cases h4
      have hg := b1t hb (by omega)
      exact ⟨hg.1, hg.2, a6j hb1 h1, a6j (fun x hx => hb1 x (a6n h1 x hx)) h3⟩
     ·cases h
theorem b8g {s : List UInt8} (hs : s.length ≤ 1048576) {t : Pl} (h : rdPlan s = some t) : t.good := by
 unfold rdPlan at h
 split at h
 ·obtain ⟨⟨t1, r⟩, h1, h2⟩ := Option.bind_eq_some_iff.1 h
  split at h2
  ·cases h2; exact a6j (fun x hx => by have := Y2 32 s x hx; omega) h1
  ·cases h2
 ·cases h
def mT (k : Int) : W8 := 109 :: (if k ≤ 0 then [48] else decN k.toNat)
def mkT (k : Int) (n : Nat) : List W8 := (List.range n).map fun (j : Nat) => mT (k + j)
@[simp] theorem mkT_length (k : Int) (n : Nat) : (mkT k n).length = n := by simp [mkT]
end Go.Mv
end

section
namespace Go.Mv
open Go
abbrev c8s : W8 := [114, 101, 118]
abbrev c9p : W8 := [110, 101, 103]
abbrev c9q : W8 := [97, 98, 115]
abbrev c6q : W8 := [100, 105, 102, 102]
abbrev c7a : W8 := [115, 117, 109, 115]
abbrev lSort : W8 := [115, 111, 114, 116]
abbrev d1s : W8 := [116, 111, 116, 97, 108]
def d3a : List (W8 × Bool × Bool) :=
 [(c8s ++ 32 :: c8s, true, true), (c9p ++ 32 :: c9p, true, true), (c6q ++ 32 :: c7a, true, true), (c7a ++ 32 :: c6q, true, true), (lSort ++ 32 :: lSort, true, false), (c9q ++ 32 :: c9q, true, false),
  (lSort ++ 32 :: c8s, false, true), (c9q ++ 32 :: c9p, false, true), (d1s ++ 32 :: lSort, false, true), (d1s ++ 32 :: c8s, false, true)]
def wordsP : Pl → List W8
 | .lst ns => [Q2 ns]
 | .col w => [w]
 | .un w p => w :: wordsP p
 | .bin w p q => w :: (wordsP p ++ wordsP q)
def Pl.wf : Pl → Prop
 | .lst _ => True
 | .col w => rch (bA w) = 0
 | .un w p => rch (bA w) = 1 ∧ p.wf
 | .bin w p q => rch (bA w) = 2 ∧ p.wf ∧ q.wf
def opsL : List (W8 × Int) := [(lSort, 1), (c8s, 1), (c9p, 1), (c9q, 1), (c6q, 1), (c7a, 1), ([114, 97, 110, 107, 115], 1), (d1s, 1), ([97, 100, 100], 2), ([106, 111, 105, 110], 2), ([97], 0), ([98], 0), ([99], 0), ([100], 0)]
theorem c9x {w : W8} (h : 0 ≤ rch (bA w)) : (w, rch (bA w)) ∈ opsL := by
 by_cases e : w ∈ opsL.map (·.1)
 ·have key : ∀ x ∈ opsL.map (·.1), (x, rch (bA x)) ∈ opsL := by decide +kernel
  exact key w e
 ·exfalso
  simp [opsL] at e
  unfold rch at h
  simp only [X3] at h
  simp_all [bA]
theorem a4p (t : Pl) : wordsP t ≠ [] := by cases t <;> simp [wordsP]
theorem a4r : ∀ {n : Nat} {ws r : List W8} {t : Pl}, rdP n ws = some (t, r) → ws = wordsP t ++ r ∧ t.wf
 | 0, _, _, _, h => by cases h
 | _ + 1, [], _, _, h => by cases h
 | n + 1, w :: ws, r, t, h => by
  rw [rdP] at h
  split at h
  ·cases h
   rename_i ns hn
   exact ⟨by rw [(a4a hn).1]; rfl, trivial⟩
  ·split at h
   ·cases h; exact ⟨rfl, by assumption⟩
   ·split at h
    ·obtain ⟨⟨p, r1⟩, h1, h2⟩ := Option.map_eq_some_iff.1 h
     cases h2
     obtain ⟨e1, e2⟩ := a4r h1
     exact ⟨by rw [e1]; rfl, by assumption, e2⟩
    ·split at h
     ·obtain ⟨⟨p, r1⟩, h1, h2⟩ := Option.bind_eq_some_iff.1 h
      obtain ⟨⟨q, r2⟩, h3, h4⟩ := Option.map_eq_some_iff.1 h2
      cases h4
      obtain ⟨e1, e2⟩ := a4r h1
      obtain ⟨e3, e4⟩ := a4r h3
      simp only at e3
      exact ⟨by rw [e1, e3]; simp [wordsP], by assumption, e2, e4⟩
     ·cases h
def M1 (t : Pl) : W8 := joinB 32 (wordsP t)
def d3c (t : Pl) : Prop := ∀ w ∈ wordsP t, (32 : UInt8) ∉ w
theorem c0l {t : Pl} (h : d3c t) : splitB 32 (M1 t) = wordsP t := a3n (a4p t) h
end Go.Mv
end

section
namespace Go.Mv
open Go
theorem a6e {c : UInt8} : ∀ {a b : List W8}, a ≠ [] → b ≠ [] → joinB c (a ++ b) = joinB c a ++ c :: joinB c b
 | [], _, h, _ => absurd rfl h
 | [p], b, _, h => R9 h
 | p :: q :: r, b, _, h => by
  have ih := a6e (c := c) (a := q :: r) (b := b) (by simp) h
  rw [List.cons_append, R9 (p := p) (r := q :: r ++ b) (by simp), ih, R9 (p := p) (r := q :: r) (by simp)]
  simp
theorem c8x (ns : List Int) : M1 (.lst ns) = Q2 ns := rfl
theorem b5o (w : W8) (p : Pl) : M1 (.un w p) = (w ++ [32]) ++ M1 p := by
 rw [M1, wordsP, R9 (a4p p)]; simp [M1]
theorem b1q (w : W8) (p q : Pl) : M1 (.bin w p q) = ((((w ++ [32]) ++ M1 p) ++ [32]) ++ M1 q) := by
 rw [M1, wordsP, R9 (by simp [a4p]), a6e (a4p p) (a4p q)]; simp [M1]
def a0u (t : Pl) : Nat → W8
 | 0 => t.op
 | i + 1 => (a0u t i ++ [32]) ++ M1 (t.kids.getD i default)
theorem a7n {t : Pl} (h : t.op ≠ lW) : a0u t t.kids.length = M1 t := by
 cases t with
 | lst ns => exact absurd rfl h
 | col w => rfl
 | un w p => exact (b5o w p).symm
 | bin w p q => exact (b1q w p q).symm
theorem c5m {t : Pl} (h : t.op ≠ lW) {i : Nat} (hi : i ≤ t.kids.length) : (a0u t i).length ≤ (M1 t).length := by
 have key : ∀ k j : Nat, (a0u t j).length ≤ (a0u t (j + k)).length := by
  intro k
  induction k with
  | zero => intro j; exact Nat.le_refl _
  | succ k ih => intro j; have := ih j; rw [← Nat.add_assoc, a0u]; simp only [List.length_append]; omega
 have := key (t.kids.length - i) i
 rwa [show i + (t.kids.length - i) = t.kids.length by omega, a7n h] at this
theorem b6p {t : Pl} {i : Nat} (hi : i < t.kids.length) : (M1 (t.kids.getD i default)).length < (M1 t).length := by
 cases t with
 | lst ns => simp [Pl.kids] at hi
 | col w => simp [Pl.kids] at hi
 | un w p =>
  obtain rfl : i = 0 := by simp [Pl.kids] at hi; omega
  rw [b5o]; simp [Pl.kids]; omega
 | bin w p q =>
  rw [b1q]
  rcases i with _ | _ | i
  ·simp [Pl.kids]; omega
  ·simp [Pl.kids]; omega
  ·simp [Pl.kids] at hi; omega
theorem b2f {t : Pl} (h : t.op ≠ lW) {i : Nat} (hi : i < t.kids.length) : (a0u t i).length + 1 + (M1 (t.kids.getD i default)).length ≤ (M1 t).length := by
 have := c5m h (i := i + 1) (by omega)
 rw [a0u] at this
 simp only [List.length_append, List.length_cons, List.length_nil] at this
 omega
end Go.Mv
end

section
namespace Go.Mv
open Go
abbrev Pl.k0 (t : Pl) : Pl := t.kids.getD 0 default
end Go.Mv
end

section
namespace Go.Mv
open Go
section
variable {cx : Cx} {keep : List Nat} {ops0 : Array Oper} {r : List Oper} {A : Asr} {Q : Asr → List Log → Prop} {d : Nat} {ty : Nat} {pos : String} {aft : Array Edge}
variable {C : Caller} {m f j : Nat} {cs fs : List AV} {G : Type} {vs : G → List AV} {ws : G → Ws} {ls : List Mv.Loc}
theorem c5k {α : Type} {φ : α → AV} {xs : List α} (hi : ∀ a, L3 (φ a) = true) : G7 (xs.map φ) = true := A7 fun a => by
 have := hi a
 cases hfa : φ a <;> rw [hfa] at this <;> simp_all [L3, M6]
def W3 (C : Caller) (A : Asr) (fs fs' : List AV) (lf : List Mv.Loc) : Prop := wpA C A (passLeaves fs) fun a l => a = fs' ∧ l = lf
variable {fs' : List AV} {lf : List Mv.Loc}
theorem c7f : W3 C A [] [] [] := ⟨rfl, rfl⟩
theorem c8m {v : Value} (t : W3 C A fs fs' lf) : W3 C A (.val v :: fs) (.val v :: fs') lf := by
 unfold W3 at t ⊢
 simp only [passLeaves, passLeaf, E3, F4]
 refine M2 ?_ t
 rintro x l ⟨rfl, rfl⟩
 exact ⟨rfl, by simp⟩
theorem d3g {id g m s n : Nat} {es : List AV} (ho : look A (.h id) = some (.obj g m s es)) (hb : bxB m none = false) (hn : n = es.length) (hr : G7 es = true) (t : W3 C A fs fs' lf) : W3 C A (.sl id g none 0 n :: fs) (.list (frzL es) :: fs') (.h id :: lf) := by
 subst hn
 unfold W3 at t ⊢
 simp only [passLeaves, passLeaf, slc, E3, rdNode, O3 ho, F8, F4, true_and, hb, Nat.zero_add, Nat.le_refl, and_self, List.drop_zero, List.take_length, hr, List.append_nil, List.nil_append]
 refine M2 ?_ t
 rintro x l ⟨rfl, rfl⟩
 exact ⟨rfl, by simp⟩
theorem c8t {α : Type} {φ : α → AV} {xs : List α} {id g m s n : Nat} (ho : look A (.h id) = some (.obj g m s (xs.map φ))) (hb : bxB m none = false) (hn : n = (xs.map φ).length) (hi : ∀ a, L3 (φ a) = true) (t : W3 C A fs fs' lf) : W3 C A (.sl id g none 0 n :: fs) (.list (xs.map φ) :: fs') (.h id :: lf) := by
 have := d3g ho hb hn (c5k hi) t
 rwa [a4f hi] at this
theorem a6g {cur v : AV} (h : S5 .undef v = true) {R : AV → Ws → List Mv.Loc → Prop} (hr : R v [] []) : wpW C A (K7 m cur f v) R := by
 unfold K7
 cases v with
 | val v => exact A6 (E8 h (C3 hr))
 | clo k caps =>
  refine A6 (E8 h (C3 ?_))
  simpa using hr
 | list es => exact C3 hr
 | _ => simp [S5, J3] at h
theorem b0e : ∀ (vs cs : List AV) (j : Nat) {A : Asr}, (vs.all fun v => S5 .undef v) = true → ∀ {R : List AV → Ws → List Mv.Loc → Prop}, R vs [] [] → wpW C A (absorbLeaves m f j cs vs) R := by
 intro vs
 induction vs with
 | nil => intro cs j A _ R hr; exact C3 hr
 | cons v vs ih =>
  intro cs j A h R hr
  simp only [List.all_cons, Bool.and_eq_true] at h
  refine A6 (a6g h.1 (A6 (ih cs.tail (j + 1) h.2 (C3 ?_))))
  simpa using hr
theorem c9d {v : AV} (h : ((leaves v).all fun v => S5 .undef v) = true) {R : AV → Ws → List Mv.Loc → Prop} (hr : R v [] []) : wpW C A (absorb m f j cs v) R := by
 by_cases he : ∃ fs, v = .agg fs
 ·obtain ⟨fs, rfl⟩ := he
  refine A6 (b0e fs cs j h (C3 ?_))
  simpa using hr
 ·have h1 : ∀ fs, v ≠ .agg fs := fun fs e => he ⟨fs, e⟩
  have e1 : absorb m f j cs v = K7 m (cs.headD .undef) (fid f j) v := by
   unfold absorb
   split
   ·exact (h1 _ rfl).elim
   ·rfl
  have e2 : leaves v = [v] := by
   unfold leaves
   split
   ·exact (h1 _ rfl).elim
   ·rfl
  rw [e2] at h
  simp only [List.all_cons, List.all_nil, Bool.and_true] at h
  rw [e1]
  exact a6g h hr
def fillI (A : Asr) (s : Nat) (es : List AV) : List (Nat × Operand) → Option (List AV)
 | [] => some es
 | (i, x) :: r => match opd A x with
  | some v => if (leaves v).length = s ∧ i < es.length ∧ ((leaves v).all fun v => S5 .undef v) = true then fillI A s (es.set i v) r else none
  | none => none
theorem c4u {mk s : Nat} : ∀ (ps : List (Nat × Operand)) (es : List AV) {es' : List AV}, fillI A s es ps = some es' → ∀ {R : List AV → Ws → List Mv.Loc → Prop}, R es' [] (a1u (ps.map (·.2))) → wpW C A (Z7 mk s es ps) R := by
 intro ps
 induction ps with
 | nil => intro es es' h R hr; simp only [fillI, Option.some.injEq] at h; subst h; exact C3 hr
 | cons p ps ih =>
  intro es es' h R hr
  obtain ⟨i, x⟩ := p
  simp only [fillI] at h
  split at h
  ·rename_i v hv
   split at h
   ·rename_i hc
    refine A6 (J9 hv (A6 (E8 ⟨hc.1, hc.2.1⟩ (A6 (c9d hc.2.2 ?_)))))
    refine H8 (ih _ h (R := fun a w l => a = es' ∧ w = [] ∧ l = a1u (ps.map (·.2))) ⟨rfl, rfl, rfl⟩) ?_
    rintro _ _ _ ⟨rfl, rfl, rfl⟩
    simpa [a1u] using hr
   ·cases h
  ·cases h
theorem a1c {T n E s : Nat} {ps : Array (Nat × Operand)} {z : AV} {es : List AV} (hT : P7 cx.P T = some (E, s)) (hz : a0r cx.P E = some (z, s)) (hn : n * s ≤ 16777216 ∧ 0 < s) (hf : fillI A s (List.replicate n z) ps.toList = some es) (hl : es.length = n)
  (hko : ∀ g, slotOk keep (.h (tid d 0)) (.obj g 0 s es) = true) (hk : ∀ g, slotOk keep (.t d) (.sl (tid d 0) g none 0 n) = true)
  (h : ∀ g, XR cx keep ops0 r ((.t d, .sl (tid d 0) g none 0 n) :: (.h (tid d 0), .obj g 0 s es) :: A) fun A' lg => Q A' ((a1u (ps.toList.map (·.2)) ++ [.h (tid d 0)], [.h (tid d 0), .t d]) :: lg)) :
  XR cx keep ops0 (⟨some d, .buildSlice T n ps, ty, pos, aft, none⟩ :: r) A Q := by
 obtain ⟨h1, h2, h3, h4⟩ := W5 hz
 refine a3b (v := fun g => .sl (tid d 0) g none 0 n) (ws := fun g => [(.h (tid d 0), .obj g 0 s es)]) (ls := a1u (ps.toList.map (·.2)) ++ [.h (tid d 0)]) rfl ?_ (fun g => C9 (hko g) (J6 (hk g))) (fun g => rfl) (fun g => a5a _ _ _ _ _) h
 simp only [aopV, dstOf]
 refine A6 (I4 (show wpA (CW cx) A (.ret d) _ from ?_))
 show wpW (CW cx) (puts A []) _ _
 refine A6 (V9 hT (A6 (E8 ⟨by rw [h2]; exact hn.1, h3, h4, by rw [h2]; exact hn.2⟩ ?_)))
 simp only [h1, h2]
 refine A6 (c4u ps.toList _ hf (A6 (M5 fun o => A6 (J2 (C3 ?_)))))
 exact ⟨H3 o + 1, rfl, by simp, by simp⟩
end
end Go.Mv
end

section
namespace Go.Mv
open Go
theorem b0j {c d : UInt8} (hcd : c ≠ d) : ∀ {ps : List W8}, (∀ p ∈ ps, c ∉ p) → c ∉ joinB d ps
 | [], _ => by simp [joinB]
 | [p], h => by simpa [joinB] using h p (by simp)
 | p :: q :: r, h => by
  have ih := b0j hcd (ps := q :: r) fun x hx => h x (List.mem_cons_of_mem _ hx)
  rw [R9 (by simp)]
  simp only [List.mem_append, List.mem_cons, not_or]
  exact ⟨h p (by simp), hcd, ih⟩
theorem c2i (ns : List Int) : (32 : UInt8) ∉ Q2 ns := by
 have h : (32 : UInt8) ∉ O9 ns := b0j (by decide) fun p hp => by
  obtain ⟨n, _, rfl⟩ := List.mem_map.1 hp
  exact b9r (by decide) (by decide) n
 simp only [Q2, List.mem_cons, List.mem_append, List.not_mem_nil, or_false, not_or]
 exact ⟨by decide, h, by decide⟩
theorem d1r : ∀ x ∈ opsL, (32 : UInt8) ∉ x.1 ∧ (x.1.getD 0 0).toNat ≠ 91 ∧ x.1 ≠ lW ∧ x.1.length ≤ 5 ∧ x.1 ≠ [] := by decide +kernel
theorem a6h {w : W8} (h : 0 ≤ rch (bA w)) : (32 : UInt8) ∉ w ∧ numsOf w = none ∧ w ≠ lW ∧ w.length ≤ 5 ∧ w ≠ [] := by
 obtain ⟨a, b, c, d, e⟩ := d1r _ (c9x h)
 exact ⟨a, (a4w (.inr (.inl b))).1, c, d, e⟩
theorem a9q : ∀ {t : Pl}, t.wf → d3c t
 | .lst ns, _ => by intro w hw; simp only [wordsP, List.mem_singleton] at hw; subst hw; exact c2i ns
 | .col w, h => by
  intro v hv
  simp only [wordsP, List.mem_singleton] at hv; subst hv
  simp only [Pl.wf] at h
  exact (a6h (by omega)).1
 | .un w p, h => by
  intro v hv
  simp only [wordsP, List.mem_cons] at hv
  rcases hv with rfl | hv
  ·exact (a6h (by have := h.1; omega)).1
  ·exact a9q h.2 v hv
 | .bin w p q, h => by
  intro v hv
  simp only [wordsP, List.mem_cons, List.mem_append] at hv
  rcases hv with rfl | hv | hv
  ·exact (a6h (by have := h.1; omega)).1
  ·exact a9q h.2.1 v hv
  ·exact a9q h.2.2 v hv
theorem a1l : ∀ t : Pl, (wordsP t).length = t.sz
 | .lst ns => rfl
 | .col w => rfl
 | .un w p => by simp [wordsP, Pl.sz, a1l p]
 | .bin w p q => by simp [wordsP, Pl.sz, a1l p, a1l q]
theorem a7a : ∀ (t : Pl) (n : Nat) (r : List W8), t.wf → t.good → t.sz ≤ n → rdP n (wordsP t ++ r) = some (t, r)
 | t, 0, _, _, _, h => by cases t <;> simp [Pl.sz] at h
 | .lst ns, n + 1, r, _, hg, _ => by
  show rdP (n + 1) (Q2 ns :: r) = _
  rw [rdP, a8x hg]
 | .col w, n + 1, r, hw, _, _ => by
  have hw0 : rch (bA w) = 0 := hw
  show rdP (n + 1) (w :: r) = _
  rw [rdP, (a6h (by omega)).2.1]
  simp only [if_pos hw0]
 | .un w p, n + 1, r, hw, hg, hn => by
  have hw0 := hw.1
  simp only [Pl.sz] at hn
  show rdP (n + 1) (w :: (wordsP p ++ r)) = _
  rw [rdP, (a6h (by omega)).2.1]
  simp only
  rw [if_neg (by omega), if_pos hw0, a7a p n r hw.2 hg.2.2 (by omega)]; rfl
 | .bin w p q, n + 1, r, hw, hg, hn => by
  have hw0 := hw.1
  simp only [Pl.sz] at hn
  show rdP (n + 1) (w :: ((wordsP p ++ wordsP q) ++ r)) = _
  rw [rdP, (a6h (by omega)).2.1]
  simp only
  rw [if_neg (by omega), if_neg (by omega), if_pos hw0, List.append_assoc, a7a p n _ hw.2.1 hg.2.2.1 (by omega), Option.bind_some, a7a q n r hw.2.2 hg.2.2.2 (by omega)]; rfl
theorem b1l {s : W8} {t : Pl} (h : rdPlan s = some t) : s = M1 t ∧ t.wf ∧ t.good ∧ s.length ≤ 160 ∧ t.sz ≤ 16 := by
 have hz := b4k h
 have hl : s.length ≤ 160 := by
  unfold rdPlan at h
  split at h
  ·rename_i hc; exact hc.1
  ·cases h
 have hg := b8g (by omega) h
 unfold rdPlan at h
 split at h
 ·obtain ⟨⟨t1, r⟩, h1, h2⟩ := Option.bind_eq_some_iff.1 h
  split at h2
  ·rename_i hr
   cases h2
   obtain ⟨e1, e2⟩ := a4r h1
   obtain rfl : r = [] := List.length_eq_zero_iff.1 hr
   rw [List.append_nil] at e1
   exact ⟨by rw [M1, ← e1, b0m], e2, hg, hl, hz⟩
  ·cases h2
 ·cases h
end Go.Mv
end

section
namespace Go.Mv
open Go
theorem c2g (t : Pl) : 0 < t.sz := by cases t <;> simp [Pl.sz]
deriving instance DecidableEq for Stp
def d3m (t : Pl) (a b : Int) : Stp := ⟨bA t.op, a, b, t.ns⟩
end Go.Mv
namespace Go.Mv
open Go
end Go.Mv
end

section
namespace Go.Mv
open Go
def d1y : List (ByteArray × Value) := d3a.map fun e => (bA e.1, .agg #[.bool e.2.1, .bool e.2.2])
end Go.Mv
namespace Go.Mv
end Go.Mv
namespace Go.Mv
end Go.Mv
end

section
namespace Go.Mv
open Go
theorem d0g {t : Pl} (h : t.good) : vd t.ns = true := by
 cases t with
 | lst ns => exact h
 | _ => rfl
def kAt (ss : List Stp) (k : Int) (i : Nat) : Int := k + (((ss.take i).map fun s => 3 + s.ns.length).sum : Nat)
def d3j (q : Int) (n : Nat) : Stp := ⟨bA (mT q), q + 1, q + 1 + 1, mkI (q + 1 + 1 + 1) n⟩
def d2w (ss : List Stp) (k : Int) : List Stp := (List.range ss.length).map fun i => d3j (kAt ss k i) (ss.getD i default).ns.length
@[simp] theorem mkSt_length (ss : List Stp) (k : Int) : (d2w ss k).length = ss.length := by simp [d2w]
end Go.Mv
namespace Go.Mv
open Go
end Go.Mv
namespace Go.Mv
end Go.Mv
namespace Go.Mv
theorem b5h (ns : List Int) : trK (.lst ns) = .agg [tV lW, .list (ns.map iV), .list (([] : List Pl).map trV)] := rfl
theorem b5s (w : W8) : trK (.col w) = .agg [tV w, .list (([] : List Int).map iV), .list (([] : List Pl).map trV)] := rfl
theorem c2f (w : W8) (p : Pl) : trK (.un w p) = .agg [tV w, .list (([] : List Int).map iV), .list ([p].map trV)] := rfl
theorem b6b (w : W8) (p q : Pl) : trK (.bin w p q) = .agg [tV w, .list (([] : List Int).map iV), .list ([p, q].map trV)] := rfl
end Go.Mv
end

section
namespace Go.Mv
open Go
deriving instance DecidableEq for Pl
structure ClQ (P : List Pl) : Prop where
 nd : P.Nodup
 good : ∀ t ∈ P, t.good
 kids : ∀ A t B, P = A ++ t :: B → ∀ k ∈ t.kids, k ∈ A
theorem ClQ.nil : ClQ [] := ⟨List.nodup_nil, (fun _ h => by cases h), (fun A t B h => by cases A <;> cases h)⟩
theorem ClQ.mem {P : List Pl} (h : ClQ P) {t k : Pl} (ht : t ∈ P) (hk : k ∈ t.kids) : k ∈ P := by
 obtain ⟨A, B, rfl⟩ := List.append_of_mem ht
 exact List.mem_append_left _ (h.kids A t B rfl k hk)
def ixQ (t : Pl) : List Pl → Nat
 | [] => 0
 | x :: r => if x = t then 0 else ixQ t r + 1
def d2x (P : List Pl) (t : Pl) (k : Nat) : Int := if k < t.kids.length then (ixQ (t.kids.getD k default) P : Int) else -1
def d3k (P : List Pl) (t : Pl) : Stp := d3m t (d2x P t 0) (d2x P t 1)
def enc (P : List Pl) : List Stp := P.map (d3k P)
end Go.Mv
end

section
namespace Go.Mv
open Go
def a1q (cols : List (List Int)) : Pl → Option (List Int)
 | .lst ns => some ns
 | .col w => some (cols.getD (c6n (bA w)) default)
 | .un w p => (a1q cols p).bind fun x => mkR (bA w) x []
 | .bin w p q => (a1q cols p).bind fun x => (a1q cols q).bind fun y => mkR (bA w) x y
theorem c2m {cols : List (List Int)} (hc : vcs cols = true) : ∀ {t : Pl} {r : List Int}, t.good → a1q cols t = some r → vl r = true
 | .lst ns, r, hg, h => by cases h; exact b9t hg
 | .col w, r, _, h => by cases h; exact d1c hc _
 | .un w p, r, _, h => by
  obtain ⟨x, _, h2⟩ := Option.bind_eq_some_iff.1 h
  exact a8b h2
 | .bin w p q, r, _, h => by
  obtain ⟨x, _, h2⟩ := Option.bind_eq_some_iff.1 h
  obtain ⟨y, _, h3⟩ := Option.bind_eq_some_iff.1 h2
  exact a8b h3
end Go.Mv
end

section
namespace Go.Mv
open Go
def foldP : Pl → Pl
 | .lst ns => .lst ns
 | .col w => .col w
 | .un w p => match foldP p with
  | .lst ns => match mkR (bA w) ns [] with
   | some r => if vd r = true then .lst r else .un w (.lst ns)
   | none => .un w (.lst ns)
  | k => .un w k
 | .bin w p q => match foldP p, foldP q with
  | .lst ns, .lst ms => match mkR (bA w) ns ms with
   | some r => if vd r = true then .lst r else .bin w (.lst ns) (.lst ms)
   | none => .bin w (.lst ns) (.lst ms)
  | k, l => .bin w k l
theorem b0a (w : W8) (p : Pl) : foldP (.un w p) = .un w (foldP p) ∨ ∃ ns r, foldP p = .lst ns ∧ mkR (bA w) ns [] = some r ∧ vd r = true ∧ foldP (.un w p) = .lst r := by
 simp only [foldP]
 split
 ·split
  ·split
   ·rename_i _ ns e _ r h hv; exact .inr ⟨ns, r, e, h, hv, rfl⟩
   ·rename_i _ ns e _ r h hv; exact .inl (by rw [e])
  ·rename_i _ ns e _ h; exact .inl (by rw [e])
 ·exact .inl rfl
theorem a6t (w : W8) (p q : Pl) : foldP (.bin w p q) = .bin w (foldP p) (foldP q) ∨ ∃ ns ms r, foldP p = .lst ns ∧ foldP q = .lst ms ∧ mkR (bA w) ns ms = some r ∧ vd r = true ∧ foldP (.bin w p q) = .lst r := by
 simp only [foldP]
 split
 ·split
  ·split
   ·rename_i _ _ ns ms e1 e2 _ r h hv; exact .inr ⟨ns, ms, r, e1, e2, h, hv, rfl⟩
   ·rename_i _ _ ns ms e1 e2 _ r h hv; exact .inl (by rw [e1, e2])
  ·rename_i _ _ ns ms e1 e2 _ h; exact .inl (by rw [e1, e2])
 ·exact .inl rfl
theorem a7f : ∀ t : Pl, t.wf → (foldP t).wf
 | .lst _, h => h
 | .col _, h => h
 | .un w p, h => by
  rcases b0a w p with e | ⟨ns, r, _, _, _, e⟩
  ·rw [e]; exact ⟨h.1, a7f p h.2⟩
  ·rw [e]; exact trivial
 | .bin w p q, h => by
  rcases a6t w p q with e | ⟨ns, ms, r, _, _, _, _, e⟩
  ·rw [e]; exact ⟨h.1, a7f p h.2.1, a7f q h.2.2⟩
  ·rw [e]; exact trivial
theorem P0 : ∀ t : Pl, t.good → (foldP t).good
 | .lst _, h => h
 | .col _, h => h
 | .un w p, h => by
  rcases b0a w p with e | ⟨ns, r, _, _, hv, e⟩
  ·rw [e]; exact ⟨h.1, h.2.1, P0 p h.2.2⟩
  ·rw [e]; exact hv
 | .bin w p q, h => by
  rcases a6t w p q with e | ⟨ns, ms, r, _, _, _, hv, e⟩
  ·rw [e]; exact ⟨h.1, h.2.1, P0 p h.2.2.1, P0 q h.2.2.2⟩
  ·rw [e]; exact hv
theorem a9w : ∀ t : Pl, (foldP t).sz < t.sz ∨ foldP t = t
 | .lst _ => .inr rfl
 | .col _ => .inr rfl
 | .un w p => by
  have ih := a9w p
  have := c2g p
  rcases b0a w p with e | ⟨ns, r, _, _, _, e⟩
  ·rw [e]
   rcases ih with ih | ih
   ·left; simp only [Pl.sz]; omega
   ·right; rw [ih]
  ·rw [e]; left; simp only [Pl.sz]; omega
 | .bin w p q => by
  have ih := a9w p
  have ih2 := a9w q
  have := c2g p
  have := c2g q
  rcases a6t w p q with e | ⟨ns, ms, r, _, _, _, _, e⟩
  ·rw [e]
   rcases ih with ih | ih
   ·left
    rcases ih2 with ih2 | ih2
    ·simp only [Pl.sz]; omega
    ·rw [ih2]; simp only [Pl.sz]; omega
   ·rcases ih2 with ih2 | ih2
    ·left; rw [ih]; simp only [Pl.sz]; omega
    ·right; rw [ih, ih2]
  ·rw [e]; left; simp only [Pl.sz]; omega
end Go.Mv
end

section
namespace Go.Mv
open Go
def b4g (s : W8) : W8 := match rdPlan s with
 | some t => M1 (foldP t)
 | none => []
theorem b0t {s : W8} {t : Pl} (h : rdPlan s = some t) : b4g s = M1 (foldP t) := by rw [b4g, h]
theorem b0l {s : W8} (h : (rdPlan s).isSome = false) : b4g s = [] := by
 cases e : rdPlan s with
 | none => rw [b4g, e]
 | some t => rw [e] at h; cases h
theorem b3y (t : Pl) : (foldP t).sz ≤ t.sz := by rcases a9w t with h | h; omega; rw [h]; exact Nat.le_refl _
end Go.Mv
end

section
namespace Go.Mv
open Go
section
variable {C : Caller} {A : Asr} {fs fs' : List AV} {lf : List Mv.Loc}
theorem c3z {es : List AV} (t : W3 C A fs fs' lf) : W3 C A (.list es :: fs) (.list es :: fs') lf := by
 unfold W3 at t ⊢
 simp only [passLeaves, passLeaf, E3, F4]
 refine M2 ?_ t
 rintro x l ⟨rfl, rfl⟩
 exact ⟨rfl, by simp⟩
theorem c8q {md : Nat} (hmd : md ≠ 3) (hf : W3 C A fs fs' lf) : M7 C A md (.agg fs) (.agg fs') (slIds false fs) [] lf := by
 unfold W3 at hf
 unfold M7 a3a
 simp only [hmd, if_false]
 refine A6 (I4 (M2 ?_ hf))
 rintro x l ⟨rfl, rfl⟩
 exact C3 ⟨rfl, rfl, by simp⟩
end
theorem c1o {ns : List Int} (h : vd ns = true) : (Q2 ns).length ≤ 100 := by
 have h1 := a0e (c2y h)
 have h2 := a7y h
 simp only [Q2, List.length_cons, List.length_append, List.length_nil]
 omega
theorem a0m : ∀ {t : Pl}, t.wf → t.good → (M1 t).length ≤ 100 * t.sz
 | .lst ns, _, hg => by rw [c8x]; simp only [Pl.sz]; exact c1o hg
 | .col w, hw, _ => by
  have h := (a6h (w := w) (by have h0 : rch (bA w) = 0 := hw; omega)).2.2.2.1
  show w.length ≤ _
  simp only [Pl.sz]; omega
 | .un w p, hw, hg => by
  have h := (a6h (w := w) (by have h0 := hw.1; omega)).2.2.2.1
  have h1 := a0m hw.2 hg.2.2
  rw [b5o]
  simp only [Pl.sz, List.length_append, List.length_cons, List.length_nil]; omega
 | .bin w p q, hw, hg => by
  have h := (a6h (w := w) (by have h0 := hw.1; omega)).2.2.2.1
  have h1 := a0m hw.2.1 hg.2.2.1
  have h2 := a0m hw.2.2 hg.2.2.2
  rw [b1q]
  simp only [Pl.sz, List.length_append, List.length_cons, List.length_nil]; omega
theorem d0r {t : Pl} (hw : t.wf) (hg : t.good) (hz : t.sz ≤ 16) : ipT (M1 t) = t ∧ b7j (M1 t) = true := by
 have hs := c0l (a9q hw)
 have h := a7a t (wordsP t).length [] hw hg (by rw [a1l]; exact Nat.le_refl _)
 rw [List.append_nil] at h
 have hr : rdT (wordsP t) = some (t, []) := h
 obtain ⟨h1, h2⟩ := b6u hs.symm hr
 refine ⟨h1, h2.trans ?_⟩
 rw [a1l]
 simp
 omega
theorem b3w {w : W8} {p : Pl} (h : ∀ ns, foldP p ≠ .lst ns) : foldP (.un w p) = .un w (foldP p) := by
 rcases b0a w p with e | ⟨ns, r, e, _⟩
 ·exact e
 ·exact absurd e (h ns)
theorem a2j {w : W8} {p q : Pl} (h : (∀ ns, foldP p ≠ .lst ns) ∨ ∀ ns, foldP q ≠ .lst ns) : foldP (.bin w p q) = .bin w (foldP p) (foldP q) := by
 rcases a6t w p q with e | ⟨ns, ms, r, e1, e2, _⟩
 ·exact e
 ·rcases h with h | h
  ·exact absurd e1 (h ns)
  ·exact absurd e2 (h ms)
theorem b3z {w : W8} {p : Pl} {ns r : List Int} (h : foldP p = .lst ns) (h1 : mkR (bA w) ns [] = some r) (h2 : vd r = true) : foldP (.un w p) = .lst r := by
 simp only [foldP, h, h1, h2, if_true]
theorem a4x {w : W8} {p : Pl} {ns : List Int} (h : foldP p = .lst ns) (h1 : mkR (bA w) ns [] = none ∨ ∃ r, mkR (bA w) ns [] = some r ∧ vd r = false) : foldP (.un w p) = .un w (.lst ns) := by
 rcases h1 with h1 | ⟨r, h1, h2⟩
 ·simp only [foldP, h, h1]
 ·simp only [foldP, h, h1, h2, Bool.false_eq_true, if_false]
theorem b1j {w : W8} {p q : Pl} {ns ms r : List Int} (h : foldP p = .lst ns) (h' : foldP q = .lst ms) (h1 : mkR (bA w) ns ms = some r) (h2 : vd r = true) : foldP (.bin w p q) = .lst r := by
 simp only [foldP, h, h', h1, h2, if_true]
theorem a2b {w : W8} {p q : Pl} {ns ms : List Int} (h : foldP p = .lst ns) (h' : foldP q = .lst ms) (h1 : mkR (bA w) ns ms = none ∨ ∃ r, mkR (bA w) ns ms = some r ∧ vd r = false) : foldP (.bin w p q) = .bin w (.lst ns) (.lst ms) := by
 rcases h1 with h1 | ⟨r, h1, h2⟩
 ·simp only [foldP, h, h', h1]
 ·simp only [foldP, h, h', h1, h2, Bool.false_eq_true, if_false]
end Go.Mv
end
