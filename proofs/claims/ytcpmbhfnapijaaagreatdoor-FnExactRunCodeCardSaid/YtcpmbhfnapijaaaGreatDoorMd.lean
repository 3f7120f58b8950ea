/- The abstract machine, part 4 of 4: it runs the model's code on abstract values and is proved sound over any program. Conditions: none. -/
import Derived.Lib.AtoiAll
import Derived.Test.YtcpmbhfnapijaaaGreatDoorMc

set_option linter.unusedVariables false
set_option linter.unusedSimpArgs false
section
namespace Go.Mv
open Go
section
variable {cx : Cx} {keep : List Nat} {A : Asr} {Q : AExit → Asr → Prop}
theorem E4 {β : Type} {body : Code} (K : Asr) (I : β → Asr) (P : β → Prop) (m : β → Nat) (b0 : β) (hA : HasL A (K ++ I b0)) (h0 : P b0)
  (hs : ∀ b, P b → XA cx keep body (K ++ I b) fun r A' => match r with
   | .normal => ∃ b', P b' ∧ m b' < m b ∧ HasL A' (K ++ I b')
   | r => Q r A') : XA cx keep (.loop body) A Q := c3u (fun b => K ++ I b) P m b0 hA h0 hs
end
theorem b3m {id g i : Nat} {p : Option (Nat × Nat)} : ∀ (ls : List AV) (j : Nat), (ls.all fun l => !isOwn l) = true → viewLeaves id g p i j ls = ls := by
 intro ls
 induction ls with
 | nil => intro j _; rfl
 | cons l ls ih =>
  intro j h
  simp only [List.all_cons, Bool.and_eq_true] at h
  simp only [viewLeaves, ih _ h.2]
  have : a3j id g p i j l = l := by
   unfold a3j
   split
   ·simp [isOwn] at h
   ·rfl
  rw [this]
theorem c9y {ls : List AV} (h : (ls.all fun l => !isOwn l) = true) (j : Nat) : ((ls.drop j).all fun l => !isOwn l) = true := by
 rw [List.all_eq_true] at h ⊢
 exact fun l hl => h l (List.mem_of_mem_drop hl)
section
variable {cx : Cx} {b : Bool} {cids : List Cid} {outs : List (List AV)}
def b8i (cx : Cx) (b : Bool) (cids : List Cid) (outs : List (List AV)) (rs : List ResultVar) (A : Asr) (vs : List AV) : Prop :=
 wpW (CW cx) A (retAll cx.P b rs) fun us ws _ => us = vs ∧ a0v (puts A ws) cids outs
theorem F4 {A : Asr} (ho : a0v A cids outs) : b8i cx b cids outs [] A [] := B6 ⟨rfl, ho⟩
theorem E8 {A : Asr} {t : Nat} {v : AV} {rs : List ResultVar} {vs : List AV} (hv : look A (.t t) = some v) (hi : c5o v = true) (h : b8i cx b cids outs rs A vs) : b8i cx b cids outs (.tmp t :: rs) A (v :: vs) := by
 refine a5t (Z2 hv (b9q hi ?_))
 refine H6 h ?_
 rintro us ws ls ⟨rfl, h2⟩
 exact ⟨rfl, h2⟩
theorem a8n (A : Asr) : ∀ (a b : Ws), puts A (a ++ b) = puts (puts A a) b := by
 intro a
 induction a generalizing A with
 | nil => intro b; rfl
 | cons x a ih => intro b; obtain ⟨l, v⟩ := x; exact ih _ b
theorem F6 {A : Asr} {t id g s n : Nat} {es : List AV} {rs : List ResultVar} {vs : List AV} (hv : look A (.t t) = some (.sl id g none 0 n)) (hob : look A (.h id) = some (.obj g 0 s es)) (hn : n = es.length) (hi : F5 es = true)
  (h : b8i cx b cids outs rs (put A (.h id) (.dead g)) vs) : b8i cx b cids outs (.tmp t :: rs) A (.own s es :: vs) := by
 refine a5t (Z2 hv (a8s hob hn hi ?_))
 refine H6 h ?_
 rintro us ws ls ⟨rfl, h2⟩
 refine ⟨rfl, ?_⟩
 rw [a8n]
 exact h2
theorem D4 {A : Asr} {rs : List ResultVar} {us : List AV} {res : AV} (h : b8i cx b cids outs rs A us) (he : N6 us = res) : RetA cx b rs cids A res outs := by
 refine b6j (H6 h ?_)
 rintro us' ws _ ⟨rfl, h2⟩
 exact ⟨he, h2⟩
def b5m (C : Caller) (A : Asr) (d k : Nat) (vs : List AV) {G : Type} (us : G → List AV) (ws : G → Ws) (ls : List Mv.Loc) : Prop := wpW C A (instAll d k vs) fun a w l => ∃ g, a = us g ∧ w = ws g ∧ l = ls
variable {C : Caller} {A : Asr} {d k : Nat}
theorem L6 : b5m C A d k [] (fun _ : Unit => []) (fun _ => []) [] := B6 ⟨(), rfl, rfl, rfl⟩
theorem J7 {G : Type} {v : AV} {vs : List AV} {us : G → List AV} {ws : G → Ws} {ls : List Mv.Loc} (h : I8 v = true) (t : b5m C A d (k + 16) vs us ws ls) : b5m C A d k (v :: vs) (fun g => v :: us g) ws ls := by
 refine A4 (a7s h (A4 (H6 t ?_)))
 rintro _ _ _ ⟨g, rfl, rfl, rfl⟩
 exact B6 ⟨g, rfl, by simp, by simp⟩
theorem L8 {G : Type} {s : Nat} {es : List AV} {vs : List AV} {us : G → List AV} {ws : G → Ws} {ls : List Mv.Loc} (t : ∀ g0, b5m C (put A (.h (tid d k)) (.obj g0 0 s es)) d (k + 16) vs us ws ls) :
  b5m C A d k (.own s es :: vs) (fun g : Nat × G => .sl (tid d k) g.1 none 0 es.length :: us g.2) (fun g => (.h (tid d k), .obj g.1 0 s es) :: ws g.2) (.h (tid d k) :: ls) := by
 refine A4 (a5q fun g0 => A4 (H6 (t g0) ?_))
 rintro _ _ _ ⟨g, rfl, rfl, rfl⟩
 exact B6 ⟨(g0, g), rfl, by simp, by simp⟩
theorem H1 {G : Type} {vs : List AV} {us : G → List AV} {ws : G → Ws} {ls : List Mv.Loc} (h : b5m C A d 16 vs us ws ls) : a5p C A d (.tup vs) (fun g => .tup (us g)) ws ls := by
 refine A4 (H6 h ?_)
 rintro _ _ _ ⟨g, rfl, rfl, rfl⟩
 exact B6 ⟨g, rfl, by simp, by simp⟩
end
section
variable {cx : Cx} {keep : List Nat} {ops0 : Array Oper} {r : List Oper} {A : Asr} {Q : Asr → List Log → Prop} {d : Nat} {ty : Nat} {pos : String} {aft : Array Edge}
theorem a3a {a : Operand} {T id g m s i j : Nat} {es : List AV} {e v : AV} (ha : opd A a = some (.ptr id g none i j)) (ho : look A (.h id) = some (.obj g m s es)) (he : es[i]? = some e) (hn : ((leaves e).all fun l => !isOwn l) = true)
  (hp : partF cx.P T ((leaves e).drop j) = some v) (hk : slotOk keep (.t d) v = true)
  (h : XR cx keep ops0 r ((.t d, v) :: A) fun A' lg => Q A' ((rds a ++ [.h id], [.t d]) :: lg)) : XR cx keep ops0 (⟨some d, .load T a, ty, pos, aft, none⟩ :: r) A Q :=
 b2s ha ho he (by rw [b3m _ _ (c9y hn j)]; exact hp) hk h
theorem c0s {α : Type} [Inhabited α] {f : α → AV} {xs : List α} {a : Operand} {T id g m s i j : Nat} {v : AV} (ha : opd A a = some (.ptr id g none i j)) (ho : look A (.h id) = some (.obj g m s (xs.map f))) (hi : i < xs.length)
  (hn : ∀ a, ((leaves (f a)).all fun l => !isOwn l) = true) (hp : partF cx.P T ((leaves (f (xs.getD i default))).drop j) = some v) (hk : slotOk keep (.t d) v = true)
  (h : XR cx keep ops0 r ((.t d, v) :: A) fun A' lg => Q A' ((rds a ++ [.h id], [.t d]) :: lg)) : XR cx keep ops0 (⟨some d, .load T a, ty, pos, aft, none⟩ :: r) A Q :=
 a3a (e := f (xs.getD i default)) ha ho (by rw [List.getElem?_map, List.getElem?_eq_getElem hi, List.getD_eq_getElem?_getD, List.getElem?_eq_getElem hi]; rfl) (hn _) hp hk h
theorem G0 {α : Type} [Inhabited α] {f : α → AV} {xs : List α} {a : Operand} {T id g m s i : Nat} (ha : opd A a = some (.ptr id g none i 0)) (ho : look A (.h id) = some (.obj g m s (xs.map f))) (hi : i < xs.length)
  (hn : ∀ a, ((leaves (f a)).all fun l => !isOwn l) = true) (hp : ∀ a, partF cx.P T (leaves (f a)) = some (f a)) (hk : slotOk keep (.t d) (f (xs.getD i default)) = true)
  (h : XR cx keep ops0 r ((.t d, f (xs.getD i default)) :: A) fun A' lg => Q A' ((rds a ++ [.h id], [.t d]) :: lg)) : XR cx keep ops0 (⟨some d, .load T a, ty, pos, aft, none⟩ :: r) A Q :=
 c0s ha ho hi hn (hp _) hk h
theorem b9c {a : Operand} {T id g m s : Nat} {e : AV} (ha : opd A a = some (.ptr id g none 0 0)) (ho : look A (.h id) = some (.obj g m s [e])) (hn : ((leaves e).all fun l => !isOwn l) = true)
  (hp : partF cx.P T (leaves e) = some e) (hk : slotOk keep (.t d) e = true)
  (h : XR cx keep ops0 r ((.t d, e) :: A) fun A' lg => Q A' ((rds a ++ [.h id], [.t d]) :: lg)) : XR cx keep ops0 (⟨some d, .load T a, ty, pos, aft, none⟩ :: r) A Q :=
 a3a ha ho rfl hn hp hk h
theorem b7z {a : Operand} {T : Nat} {e : AV} (ha : opd A a = some (.ipt e 0)) (hp : partF cx.P T (leaves e) = some e) (hk : slotOk keep (.t d) e = true)
  (h : XR cx keep ops0 r ((.t d, e) :: A) fun A' lg => Q A' ((rds a, [.t d]) :: lg)) : XR cx keep ops0 (⟨some d, .load T a, ty, pos, aft, none⟩ :: r) A Q :=
 c1y ha hp hk h
theorem H8 {α : Type} [Inhabited α] {f : α → AV} {xs : List α} {y : α} {T id g m s i : Nat} {a x : Operand} (ha : opd A a = some (.ptr id g none i 0)) (ho : look A (.h id) = some (.obj g m s (xs.map f))) (hx : opd A x = some (f y)) (hi : i < xs.length)
  (hl : ∀ a b, a9k (leaves (f b)) (f a) = true ∧ (leaves (f a)).length = (tyS cx.P T).size ∧ 0 < (leaves (f a)).length ∧ (leaves (f a)).length ≤ (leaves (f b)).length ∧ R5 (leaves (f a)) (leaves (f b)) = true ∧ putAt (f b) 0 (f a) = f a) (hm : m ≠ 2)
  (hko : slotOk keep (.h id) (.obj g m s ((xs.set i y).map f)) = true)
  (h : XR cx keep ops0 r ((.h id, .obj g m s ((xs.set i y).map f)) :: A) fun A' lg => Q A' ((rds a ++ (rds x ++ [.h id, .h id, .h id]), [.h id]) :: lg)) :
  XR cx keep ops0 (⟨none, .store T a x, ty, pos, aft, none⟩ :: r) A Q := c0b ha hx ho hi hl hm hko h
theorem b5x {T id g m s : Nat} {a x : Operand} {e v : AV} (ha : opd A a = some (.ptr id g none 0 0)) (hx : opd A x = some v) (ho : look A (.h id) = some (.obj g m s [e]))
  (hl : a9k (leaves e) v = true) (hc : m ≠ 2 ∧ (leaves v).length = (tyS cx.P T).size ∧ 0 < (leaves v).length ∧ (leaves v).length ≤ (leaves e).length ∧ R5 (leaves v) (leaves e) = true) (hp : putAt e 0 v = v)
  (hko : slotOk keep (.h id) (.obj g m s [v]) = true)
  (h : XR cx keep ops0 r ((.h id, .obj g m s [v]) :: A) fun A' lg => Q A' ((rds a ++ (rds x ++ [.h id, .h id, .h id]), [.h id]) :: lg)) :
  XR cx keep ops0 (⟨none, .store T a x, ty, pos, aft, none⟩ :: r) A Q :=
 b6p (i := 0) (j := 0) ha hx ho rfl hl ⟨hc.1, hc.2.1, hc.2.2.1, by have := hc.2.2.2.1; omega, hc.2.2.2.2⟩ (by rw [hp]; exact hko) (by rw [hp]; exact h)
theorem P5 {α : Type} {f : α → AV} {xs ys : List α} {T T' E s id g n id2 g2 m2 off n2 : Nat} {x y : Operand} {z : AV} (hx : opd A x = some (.sl id g none 0 n)) (hy : opd A y = some (.sl id2 g2 none off n2)) (ho : look A (.h id) = some (.obj g 0 s (xs.map f))) (ho2 : look A (.h id2) = some (.obj g2 m2 s (ys.map f)))
  (hid : id2 < 1000000) (hb2 : bxB m2 none = false) (hn : n = (xs.map f).length) (hn2 : off + n2 ≤ ys.length) (hT : N3 cx.P T = some (E, s)) (hT' : L0 (tyS cx.P T').k = true) (hz : X5 cx.P E = some (z, s)) (hb : (tyS cx.P E).bytes ≤ 4096)
  (hf : ∀ a, (leaves (f a)).all cellLeaf = true ∧ J0 (f a) = true ∧ I8 (f a) = true)
  (hle : xs.length + n2 ≤ H3) (hk : ∀ g, slotOk keep (.t d) (.sl (tid d 0) g none 0 (xs ++ (ys.drop off).take n2).length) = true)
  (h : ∀ g', XR cx keep ops0 r ((.t d, .sl (tid d 0) g' none 0 (xs ++ (ys.drop off).take n2).length) :: (.h (tid d 0), .obj g' 0 s ((xs ++ (ys.drop off).take n2).map f)) :: (.h id, .dead g) :: A) fun A' lg => Q A' ((rds x ++ (rds y ++ [.h id2, .h id2, .h id, .h (tid d 0)]), [.h id, .h (tid d 0), .t d]) :: lg)) :
  XR cx keep ops0 (⟨some d, .call ⟨.builtin .append, #[x, y], #[T, T']⟩, ty, pos, aft, none⟩ :: r) A Q := by
 obtain ⟨h1, h2, h3, h4⟩ := T9 hz
 have hl2 : ((ys.drop off).take n2).length = n2 := by simp; omega
 have el : (xs ++ (ys.drop off).take n2).length = xs.length + n2 := by rw [List.length_append, hl2]
 have em : (((ys.map f).drop off).take n2) = ((ys.drop off).take n2).map f := by rw [List.map_take, List.map_drop]
 subst hn
 refine a2g (v := fun g' => .sl (tid d 0) g' none 0 (xs ++ (ys.drop off).take n2).length) (ws := fun g' => [(.h id, .dead g), (.h (tid d 0), .obj g' 0 s ((xs ++ (ys.drop off).take n2).map f))]) (ls := rds x ++ (rds y ++ [.h id2, .h id2, .h id, .h (tid d 0)])) rfl ?_
  (fun g => D6 (by simp [slotOk, refOkV]) (D6 (B7 (A7 fun a => (hf a).2.1)) (H7 (hk g)))) (fun g => rfl) (fun g => a6a _ _ _ _ _ _ _) h
 simp only [aopV, dstOf]
 refine A4 (G6 (show wpA (CW cx) A (.ret d) _ from ?_))
 show wpW (CW cx) (puts A []) _ _
 refine A4 (C9 hT' (A4 (I6 hx (A4 (I6 hy ?_)))))
 unfold a1o
 refine A4 (U0 hT (A4 (C9 ⟨hb, h3, h4⟩ (A4 ?_))))
 simp only [c2p]
 refine A4 (I3 ho2 (A4 (C9 h2.symm ?_)))
 rw [if_neg (by omega)]
 refine A4 (G6 ?_)
 simp only [slc, rdNode, C7]
 rw [K3 (by exact ho2)]
 simp only [C7, D8, D3, hb2, List.length_map, hn2, true_and, and_true, List.append_nil, List.nil_append]
 rw [em, if_pos (M9 fun a => (hf a).2.2)]
 refine B6 ?_
 refine A4 (C9 (a4i fun a => (hf a).1) ?_)
 refine A4 (I3 ho (A4 (C9 ⟨rfl, by simp, h2.symm, by simp only [List.length_map, hl2]; exact hle⟩ (A4 (H4 (A4 (K9 fun o => A4 (H4 (B6 ?_)))))))))
 have e3 : xs.length + (((ys.drop off).take n2).map f).length = (xs ++ (ys.drop off).take n2).length := by rw [el, List.length_map, hl2]
 have e4 : List.take xs.length (xs.map f) = xs.map f := by rw [← List.length_map (f := f), List.take_length]
 exact ⟨G1 o + 1, by rw [e3], by simp only [e4, List.map_append]; simp, by simp⟩
theorem U6 {x : Operand} {T E id g n m : Nat} {p : Option (Nat × Nat)} {off : Nat} {hi : Option Operand} {ls1 : List Mv.Loc} (hx : opd A x = some (.sl id g p off n)) (hT : (tyS cx.P T).k = .slice E) (hb : M7 (tyS cx.P E).k = false)
  (hh : wpA (CW cx) A (optNat hi n) fun k ls => k = m ∧ ls = ls1) (hc : m ≤ n) (hk : slotOk keep (.t d) (.sl id g p off m) = true)
  (h : XR cx keep ops0 r ((.t d, .sl id g p off m) :: A) fun A' lg => Q A' ((rds x ++ ls1, [.t d]) :: lg)) : XR cx keep ops0 (⟨some d, .slice T x none hi none, ty, pos, aft, none⟩ :: r) A Q := by
 refine I4 (fun o ho => by simp only [aopV, ho]) ?_ hk h
 simp only [opV, C7, C6 hx, sliceA, hT, optNat, D3, List.nil_append]
 refine P1 ?_ hh
 rintro _ _ ⟨rfl, rfl⟩
 simp only [D8, hb, D3, ne_eq, not_true_eq_false, false_and, if_false, if_true, List.append_nil, List.nil_append, and_self, and_true, true_and, true_or, Nat.le_refl, Nat.zero_le, hc]
theorem c0z {x : Operand} {T E id g n m l k0 s : Nat} {off : Nat} {lo hi : Option Operand} {es : List AV} {ls1 ls2 : List Mv.Loc} (hx : opd A x = some (.sl id g none off n)) (ho : look A (.h id) = some (.obj g k0 s es)) (hT : N3 cx.P T = some (E, s))
  (hh : wpA (CW cx) A (optNat hi n) fun k ls => k = m ∧ ls = ls1) (hl : wpA (CW cx) A (optNat lo 0) fun k ls => k = l ∧ ls = ls2) (hc : l ≤ m ∧ m ≤ n) (hl0 : l ≠ 0) (hk : slotOk keep (.t d) (.sl id g none (off + l) (m - l)) = true)
  (h : XR cx keep ops0 r ((.t d, .sl id g none (off + l) (m - l)) :: A) fun A' lg => Q A' ((rds x ++ (ls1 ++ (ls2 ++ [.h id])), [.t d]) :: lg)) : XR cx keep ops0 (⟨some d, .slice T x lo hi none, ty, pos, aft, none⟩ :: r) A Q := by
 refine I4 (fun o ho => by simp only [aopV, ho]) ?_ hk h
 unfold N3 at hT
 split at hT
 ·rename_i E' hE
  split at hT
  ·rename_i hbad'
   simp only [Option.some.injEq, Prod.mk.injEq] at hT
   obtain ⟨rfl, hs⟩ := hT
   simp only [opV, C7, C6 hx, sliceA, hE, optNat, D3, List.nil_append]
   refine P1 ?_ hh
   rintro _ _ ⟨rfl, rfl⟩
   refine P1 ?_ hl
   rintro _ _ ⟨rfl, rfl⟩
   simp only [D8, hbad', ne_eq, not_true_eq_false, false_and, if_false, and_self, and_true, true_and, true_or, Nat.le_refl, hc, hl0, C7, rdNode, K3 ho, D3, hs, List.nil_append, List.append_nil, List.append_assoc, List.singleton_append]
  ·cases hT
 ·cases hT
theorem G7 {C : Caller} {A : Asr} {x : Operand} {k : IntKind} {n : Nat} {dflt : Nat} (h : opd A x = some (.val (.int k (n : Int)))) : wpA C A (optNat (some x) dflt) fun m ls => m = n ∧ ls = rds x := by
 have := a2t (C := C) (dflt := dflt) h (Int.natCast_nonneg n)
 simpa using this
theorem d0v {α : Type} {C : Caller} {A : Asr} {x : Rd α} {R : α → Ws → List Mv.Loc → Prop} {ls0 : List Mv.Loc} (h : wpA C A x fun a ls => (∀ l ∈ ls, l ∈ ls0) ∧ R a [] ls0) : wpW C A (up x) R := by
 intro st hs
 obtain ⟨a, ls, h1, h2, h3⟩ := b5j hs _ _ h
 exact ⟨a, [], ls, ls0, c2o x h1, h2, h3⟩
theorem a0f {x : Operand} {T E id g n m l k0 s : Nat} {off : Nat} {lo hi : Option Operand} {es : List AV} {ls1 ls2 : List Mv.Loc} (hx : opd A x = some (.sl id g none off n)) (ho : look A (.h id) = some (.obj g k0 s es)) (hT : N3 cx.P T = some (E, s))
  (hh : wpA (CW cx) A (optNat hi n) fun k ls => k = m ∧ ls = ls1) (hl : wpA (CW cx) A (optNat lo 0) fun k ls => k = l ∧ ls = ls2) (hc : l ≤ m ∧ m ≤ n) (hk : slotOk keep (.t d) (.sl id g none (off + l) (m - l)) = true)
  (h : XR cx keep ops0 r ((.t d, .sl id g none (off + l) (m - l)) :: A) fun A' lg => Q A' ((rds x ++ (ls1 ++ (ls2 ++ [.h id])), [.t d]) :: lg)) : XR cx keep ops0 (⟨some d, .slice T x lo hi none, ty, pos, aft, none⟩ :: r) A Q := by
 by_cases hl0 : l = 0
 ·refine d0z (v := .sl id g none (off + l) (m - l)) (ws := []) (ls := rds x ++ (ls1 ++ (ls2 ++ [.h id]))) rfl ?_ (H7 hk) (fun k b hb => by rw [← hb]; exact (a1r A _ _ k).symm) h
  show wpW (CW cx) A (up (opV cx (.slice T x lo hi none))) _
  refine d0v (ls0 := rds x ++ (ls1 ++ (ls2 ++ [.h id]))) ?_
  unfold N3 at hT
  split at hT
  ·rename_i E' hE
   split at hT
   ·rename_i hbad'
    simp only [opV, C7, C6 hx, sliceA, hE, optNat, D3, List.nil_append]
    refine P1 ?_ hh
    rintro _ _ ⟨rfl, rfl⟩
    refine P1 ?_ hl
    rintro _ _ ⟨rfl, rfl⟩
    simp only [D8, hbad', ne_eq, not_true_eq_false, false_and, if_false, and_self, and_true, true_and, true_or, Nat.le_refl, hc, hl0, if_true, D3, Nat.add_zero, Nat.sub_zero, List.append_nil]
    refine ⟨Nat.zero_le _, fun q hq => ?_⟩
    simp only [List.mem_append] at hq ⊢
    rcases hq with hq | hq | hq
    ·exact .inl hq
    ·exact .inr (.inl hq)
    ·exact .inr (.inr (.inl hq))
   ·cases hT
  ·cases hT
 ·exact c0z hx ho hT hh hl hc hl0 hk h
theorem d3d {x : Operand} {T E id g n : Nat} {hi mx : Operand} {k k' : IntKind} (hx : opd A x = some (.sl id g none 0 n)) (hT : (tyS cx.P T).k = .slice E) (hb : M7 (tyS cx.P E).k = false)
  (hh : opd A hi = some (.val (.int k n))) (hm : opd A mx = some (.val (.int k' n))) (hk : slotOk keep (.t d) (.sl id g none 0 n) = true)
  (h0 : n = 0 → XR cx keep ops0 r ((.t d, .nil) :: A) fun A' lg => Q A' ((rds x ++ (rds mx ++ rds hi), [.t d]) :: lg))
  (h : n ≠ 0 → XR cx keep ops0 r ((.t d, .sl id g none 0 n) :: A) fun A' lg => Q A' ((rds x ++ (rds mx ++ rds hi), [.t d]) :: lg)) : XR cx keep ops0 (⟨some d, .slice T x none (some hi) (some mx), ty, pos, aft, none⟩ :: r) A Q := by
 have e : (n : Int).toNat = n := by simp
 by_cases hn : n = 0
 ·refine I4 (v := .nil) (fun o ho => by simp only [aopV, ho]) ?_ (by simp [slotOk, refOkV, refsOk]) (h0 hn)
  simp only [opV, C7, C6 hx, sliceA, hT, optNat, C6 hh, C6 hm, S1 (Int.natCast_nonneg n), e, D3, D8, hb]
  simp [hn, wpA]
 ·refine I4 (v := .sl id g none 0 n) (fun o ho => by simp only [aopV, ho]) ?_ hk (h hn)
  simp only [opV, C7, C6 hx, sliceA, hT, optNat, C6 hh, C6 hm, S1 (Int.natCast_nonneg n), e, D3, D8, hb]
  simp [hn, wpA]
end
theorem a0l {α : Type} {f : α → AV} {xs : List α} (h : ∀ a, hasList (f a) = false) : E3 (xs.map f) = false := by
 induction xs with
 | nil => rfl
 | cons x xs ih => simp [E3, h, ih]
theorem a4a (x : Int) (r : List Int) : (a5h x r).Perm (x :: r) := by
 induction r with
 | nil => exact .refl _
 | cons y r ih =>
  simp only [a5h]
  split
  ·exact .refl _
  ·exact (List.Perm.cons y ih).trans (List.Perm.swap x y r)
theorem a4z (xs : List Int) : (Q7 xs).Perm xs := by
 induction xs with
 | nil => exact .refl _
 | cons x r ih => exact (a4a x (Q7 r)).trans (List.Perm.cons x ih)
theorem a0d (x : Int) (r : List Int) (h : r.Pairwise (· ≤ ·)) : (a5h x r).Pairwise (· ≤ ·) := by
 induction r with
 | nil => simp [a5h]
 | cons y r ih =>
  simp only [a5h]
  have h2 := List.pairwise_cons.1 h
  split
  ·rename_i hxy
   refine List.pairwise_cons.2 ⟨fun z hz => ?_, h⟩
   rcases List.mem_cons.1 hz with rfl | hz
   ·exact hxy
   ·have := h2.1 z hz; omega
  ·rename_i hxy
   refine List.pairwise_cons.2 ⟨fun z hz => ?_, ih h2.2⟩
   rcases List.mem_cons.1 ((a4a x r).mem_iff.1 hz) with rfl | hz
   ·omega
   ·exact h2.1 z hz
theorem T1 (xs : List Int) : (Q7 xs).Pairwise (· ≤ ·) := by
 induction xs with
 | nil => exact .nil
 | cons x r ih => exact a0d x _ ih
theorem b8j {xs ys : List Int} (hp : ys.Perm xs) (hs : ys.Pairwise (· ≤ ·)) : ys = Q7 xs :=
 List.Perm.eq_of_pairwise (le := (· ≤ ·)) (fun a b _ _ h1 h2 => by omega) hs (T1 xs) (hp.trans (a4z xs).symm)
theorem a8d {s : List Int} (h : s.Pairwise (· ≤ ·)) {i j : Nat} (hij : i ≤ j) (hj : j < s.length) : s.getD i default ≤ s.getD j default := by
 rw [List.getD_eq_getElem?_getD, List.getD_eq_getElem?_getD, List.getElem?_eq_getElem (by omega), List.getElem?_eq_getElem hj]
 rcases Nat.lt_or_ge i j with h1 | h1
 ·exact List.pairwise_iff_getElem.1 h i j (by omega) hj h1
 ·have : i = j := by omega
  subst this
  exact Int.le_refl _
theorem a2s {xs : List Int} {x : Int} (h : x ∈ xs) : ∃ i, i < xs.length ∧ xs.getD i default = x := by
 obtain ⟨i, hi, rfl⟩ := List.getElem_of_mem h
 exact ⟨i, hi, by rw [List.getD_eq_getElem?_getD, List.getElem?_eq_getElem hi]; rfl⟩
theorem a4p {out : List Int} {x : Int} {k : Nat} (hs : out.Pairwise (· ≤ ·)) (hk : k ≤ out.length) (h1 : ∀ j, j < k → out.getD j default ≤ x) (h2 : k < out.length → x ≤ out.getD k default) :
  out.take k ++ [x] ++ out.drop k = a5h x out := by
 have hp : (out.take k ++ [x] ++ out.drop k).Perm (x :: out) := by
  have := (List.perm_middle (l₁ := out.take k) (l₂ := out.drop k) (a := x))
  rw [List.take_append_drop] at this
  rw [List.append_assoc]; exact this
 have hsrt : (out.take k ++ [x] ++ out.drop k).Pairwise (· ≤ ·) := by
  rw [List.append_assoc, List.pairwise_append]
  refine ⟨hs.take, ?_, ?_⟩
  ·rw [List.singleton_append, List.pairwise_cons]
   refine ⟨fun b hb => ?_, hs.drop⟩
   obtain ⟨i, hi, rfl⟩ := a2s hb
   rw [List.length_drop] at hi
   have e : (out.drop k).getD i default = out.getD (k + i) default := by rw [List.getD_eq_getElem?_getD, List.getD_eq_getElem?_getD, List.getElem?_drop]
   rw [e]
   exact Int.le_trans (h2 (by omega)) (a8d hs (by omega) (by omega))
  ·intro a ha b hb
   obtain ⟨i, hi, rfl⟩ := a2s ha
   rw [List.length_take] at hi
   have e : (out.take k).getD i default = out.getD i default := by rw [List.getD_eq_getElem?_getD, List.getD_eq_getElem?_getD, List.getElem?_take, if_pos (by omega)]
   rw [e]
   rw [List.singleton_append, List.mem_cons] at hb
   rcases hb with rfl | hb
   ·exact h1 i (by omega)
   ·obtain ⟨j, hj, rfl⟩ := a2s hb
    rw [List.length_drop] at hj
    have e2 : (out.drop k).getD j default = out.getD (k + j) default := by rw [List.getD_eq_getElem?_getD, List.getD_eq_getElem?_getD, List.getElem?_drop]
    rw [e2]
    exact a8d hs (by omega) (by omega)
 exact List.Perm.eq_of_pairwise (le := (· ≤ ·)) (fun a b _ _ h1 h2 => by omega) hsrt (a0d x out hs) (hp.trans (a4a x out).symm)
theorem a8o {out : List Int} {x : Int} {k : Nat} (hs : out.Pairwise (· ≤ ·)) (hk : k ≤ out.length) (h1 : ∀ j, j < k → out.getD j default ≤ x) (h2 : k < out.length → x ≤ out.getD k default) :
  (([] ++ (out.drop 0).take k) ++ [x]) ++ (out.drop (0 + k)).take (out.length - k) = a5h x out := by
 rw [← a4p hs hk h1 h2]
 simp
 exact List.take_of_length_le (by simp)
theorem b0u {xs : List Int} {i : Nat} (h : i < xs.length) : Q7 (xs.take (i + 1)) = a5h (xs.getD i default) (Q7 (xs.take i)) := by
 refine (b8j ?_ (a0d _ _ (T1 _))).symm
 have e : xs.take (i + 1) = xs.take i ++ [xs.getD i default] := by
  rw [List.take_add_one, List.getD_eq_getElem?_getD, List.getElem?_eq_getElem h]; rfl
 rw [e]
 exact ((a4a _ _).trans (List.Perm.cons _ (a4z _))).trans (List.perm_append_comm (l₁ := [xs.getD i default]) (l₂ := xs.take i))
def bitN (s i : Nat) : Nat := s / 2 ^ i % 2
theorem c6r (s i : Nat) : bitN s i = 1 ↔ s.testBit i = true := by
 unfold bitN
 rw [Nat.testBit_eq_decide_div_mod_eq, decide_eq_true_eq]
theorem d0t (s i : Nat) : bitN s i = 0 ∨ bitN s i = 1 := by unfold bitN; omega
theorem b2u (i j : Nat) : bitN (2 ^ i) j = 1 ↔ j = i := by
 rw [c6r, Nat.testBit_two_pow]
 simp [eq_comm]
section
variable {cx : Cx} {keep : List Nat} {ops0 : Array Oper} {r : List Oper} {A : Asr} {Q : Asr → List Log → Prop} {d : Nat} {ty : Nat} {pos : String} {aft : Array Edge}
end
end Go.Mv
end

section
namespace Go.Mv
open Go Classical
section
variable {cx : Cx} {keep : List Nat} {ops0 : Array Oper} {r : List Oper} {A : Asr} {Q : Asr → List Log → Prop} {d : Nat} {ty : Nat} {pos : String} {aft : Array Edge}
theorem c8p {T z : Nat} {a b : Operand} {x y : ByteArray} {t : Bool} (ha : opd A a = some (.val (.string x))) (hb : opd A b = some (.val (.string y))) (ht : (x.toList == y.toList) = t)
  (h : XR cx keep ops0 r ((.t d, bV t) :: A) fun A' lg => Q A' ((rds a ++ rds b, [.t d]) :: lg)) : XR cx keep ops0 (⟨some d, .binOp .eql T a b z, ty, pos, aft, none⟩ :: r) A Q := by
 subst ht; exact H0 ha hb h
end
def a7z (lo hi : Int) (xs : List Int) : Bool := xs.all fun x => decide (lo ≤ x) && decide (x ≤ hi)
theorem a0u {lo hi : Int} {xs : List Int} : a7z lo hi xs = true ↔ ∀ i, i < xs.length → lo ≤ xs.getD i default ∧ xs.getD i default ≤ hi := by
 unfold a7z
 rw [List.all_eq_true]
 constructor
 ·intro h i hi'
  have := h _ (b1k hi')
  simpa using this
 ·intro h x hx
  obtain ⟨i, hi', rfl⟩ := a2s hx
  simpa using h i hi'
def c5l (l : List Int) (s : Nat) : Nat → List Int
 | 0 => []
 | k + 1 => if bitN s k = 1 then c5l l s k ++ [l.getD k default] else c5l l s k
def sel (l : List Int) (s : Nat) : List Int := c5l l s l.length
theorem b9g (l : List Int) (i : Nat) : ∀ k, c5l l (2 ^ i) k = if i < k then [l.getD i default] else []
 | 0 => by simp [c5l]
 | k + 1 => by
  unfold c5l
  rw [b9g l i k]
  by_cases e : k = i
  ·subst e; rw [if_pos ((b2u k k).2 rfl)]; simp
  ·rw [if_neg (fun h => e ((b2u i k).1 h))]
   by_cases h : i < k
   ·rw [if_pos h, if_pos (by omega)]
   ·rw [if_neg h, if_neg (by omega)]
theorem d1m {l : List Int} {i : Nat} (hi : i < l.length) : sel l (2 ^ i) = [l.getD i default] := by
 unfold sel; rw [b9g, if_pos hi]
def Fnd (e : Bool) (s : List Int) (lev : Int) : Prop := ∃ i, i < s.length ∧ s.getD i default * s.length ≤ if e then ((i : Int) + 1) * lev else lev
theorem Fnd.mono {e : Bool} {s : List Int} {lev lev' : Int} (h : Fnd e s lev) (hl : lev ≤ lev') : Fnd e s lev' := by
 obtain ⟨i, hi, h⟩ := h
 refine ⟨i, hi, ?_⟩
 cases e
 ·simp only [Bool.false_eq_true, if_false] at h ⊢; omega
 ·simp only [if_true] at h ⊢
  have := Int.mul_le_mul_of_nonneg_left hl (show (0 : Int) ≤ (i : Int) + 1 by omega)
  omega
theorem Fnd.each {e : Bool} {s : List Int} {lev : Int} (h : Fnd e s lev) (h0 : 0 ≤ lev) : Fnd true s lev := by
 obtain ⟨i, hi, h⟩ := h
 refine ⟨i, hi, ?_⟩
 cases e
 ·simp only [Bool.false_eq_true, if_false, if_true] at h ⊢
  have := Int.mul_le_mul_of_nonneg_right (show (1 : Int) ≤ (i : Int) + 1 by omega) h0
  omega
 ·exact h
def CPr (l : List Int) (lev : Int) (e : Bool) (i : Nat) : Prop := ∀ s, 1 ≤ s → s < 2 ^ l.length → bitN s i = 1 → Fnd e (Q7 (sel l s)) lev
noncomputable def d4k (l : List Int) (lev : Int) (e : Bool) (k : Nat) : List Int := ((List.range k).filter fun i => decide (CPr l lev e i)).map Int.ofNat
noncomputable def clo (l : List Int) (lev : Int) (e : Bool) : List Int := d4k l lev e l.length
theorem CPr.le {l : List Int} {lev : Int} {e : Bool} {i : Nat} (h : CPr l lev e i) (hi : i < l.length) : l.getD i default ≤ lev := by
 have := h (2 ^ i) (Nat.one_le_two_pow) (Nat.pow_lt_pow_right (by decide) hi) ((b2u i i).2 rfl)
 rw [d1m hi] at this
 obtain ⟨j, hj, h2⟩ := this
 have : j = 0 := by simp [Q7, a5h] at hj; omega
 subst this
 cases e <;> simp [Q7, a5h] at h2 <;> simpa using h2
def Mis (l : List Int) (lev : Int) (e : Bool) (s mi : Nat) : Prop := 1 ≤ s ∧ s ≤ 2 ^ l.length ∧ mi < 2 ^ l.length ∧ ∀ i, i < l.length → (bitN mi i = 1 ↔ ∃ s', 1 ≤ s' ∧ s' < s ∧ bitN s' i = 1 ∧ ¬ Fnd e (Q7 (sel l s')) lev)
theorem Mis.start (l : List Int) (lev : Int) (e : Bool) : Mis l lev e 1 0 := by
 refine ⟨Nat.le_refl _, Nat.one_le_two_pow, Nat.two_pow_pos _, fun i hi => ⟨fun h => ?_, fun ⟨s', h1, h2, _⟩ => by omega⟩⟩
 unfold bitN at h; simp at h
theorem Mis.fin {l : List Int} {lev : Int} {e : Bool} {s mi : Nat} (h : Mis l lev e s mi) (hs : 2 ^ l.length ≤ s) {i : Nat} (hi : i < l.length) : bitN mi i = 0 ↔ CPr l lev e i := by
 obtain ⟨h1, h2, h3, h4⟩ := h
 have := h4 i hi
 have h5 := d0t mi i
 constructor
 ·intro h0 s' q1 q2 q3
  refine Classical.byContradiction fun hn => ?_
  have := this.2 ⟨s', q1, by omega, q3, hn⟩
  omega
 ·intro hc
  rcases h5 with h5 | h5
  ·exact h5
  ·obtain ⟨s', q1, q2, q3, q4⟩ := this.1 h5
   exact absurd (hc s' q1 (by omega) q3) q4
theorem d1t {xs : List Int} {q : Int → Bool} {i : Nat} (hi : i < xs.length) (h : q (xs.getD i default) = true) : decide (0 ≤ (i : Int)) = xs.any q := by
 rw [decide_eq_true (Int.natCast_nonneg i)]
 exact (List.any_eq_true.2 ⟨_, b1k hi, h⟩).symm
theorem c8d {xs : List Int} {q : Int → Bool} (h : ∀ j, j < xs.length → q (xs.getD j default) = false) : decide (0 ≤ (-1 : Int)) = xs.any q := by
 have : xs.any q = false := by
  rw [List.any_eq_false]
  intro x hx
  obtain ⟨i, hi, rfl⟩ := a2s hx
  rw [h i hi]; decide
 rw [this]; rfl
theorem c9b (lo hi : Int) (xs : List Int) : (!(xs.any fun x => !(decide (lo ≤ x) && decide (x ≤ hi)))) = a7z lo hi xs := by
 unfold a7z
 rw [List.not_any_eq_all_not]
 simp
theorem J4 {α : Type} [Inhabited α] {xs : List α} {i : Nat} (h : i < xs.length) : xs.getD i default ∈ xs := by
 rw [List.getD_eq_getElem?_getD, List.getElem?_eq_getElem h]
 exact List.getElem_mem h
def FndAt (e : Bool) (s : List Int) (lev : Int) (j : Nat) : Prop := (e = true ∧ s.getD j default * (s.length : Int) ≤ lev * ((j : Int) + 1)) ∨ s.getD j default * (s.length : Int) ≤ lev
theorem FndAt.none {e : Bool} {s : List Int} {lev : Int} (hl : 0 ≤ lev ∧ lev ≤ 1000) (h : ∀ j, j < s.length → ¬ FndAt e s lev j) : ¬ Fnd e s lev := by
 rintro ⟨j, hj, hf⟩
 refine h j hj ?_
 cases e
 ·exact .inr hf
 ·rw [if_pos rfl] at hf
  exact .inl ⟨rfl, by rw [Int.mul_comm lev]; exact hf⟩
theorem CPr.each {l : List Int} {lev : Int} {e : Bool} {i : Nat} (h : CPr l lev e i) (h0 : 0 ≤ lev) : CPr l lev true i := fun s h1 h2 h3 => (h s h1 h2 h3).each h0
theorem CPr.mono {l : List Int} {lev lev' : Int} {e : Bool} {i : Nat} (h : CPr l lev e i) (h0 : lev ≤ lev') : CPr l lev' e i := fun s h1 h2 h3 => (h s h1 h2 h3).mono h0
theorem a4b {α : Type} [Inhabited α] {xs : List α} {i j : Nat} {y : α} (h : i < xs.length) : (xs.set i y).getD j default = if j = i then y else xs.getD j default := by
 rw [List.getD_eq_getElem?_getD, List.getElem?_set, List.getD_eq_getElem?_getD]
 by_cases e : i = j
 ·subst e; rw [if_pos rfl, if_pos h, if_pos rfl]; rfl
 ·rw [if_neg e, if_neg (fun h => e h.symm)]
section
variable {cx : Cx} {keep : List Nat} {ops0 : Array Oper} {r : List Oper} {A : Asr} {Q : Asr → List Log → Prop} {d : Nat} {ty : Nat} {pos : String} {aft : Array Edge}
theorem b6g {α : Type} [Inhabited α] {f : α → AV} {xs : List α} {y : α} {v : AV} {T id g m s i j : Nat} {a x : Operand} (ha : opd A a = some (.ptr id g none i j)) (ho : look A (.h id) = some (.obj g m s (xs.map f))) (hx : opd A x = some v) (hi : i < xs.length)
  (hl : a9k ((leaves (f (xs.getD i default))).drop j) v = true)
  (hc : (leaves v).length = (tyS cx.P T).size ∧ 0 < (leaves v).length ∧ j + (leaves v).length ≤ (leaves (f (xs.getD i default))).length ∧ R5 (leaves v) ((leaves (f (xs.getD i default))).drop j) = true) (hm : m ≠ 2)
  (hp : putAt (f (xs.getD i default)) j v = f y)
  (hko : slotOk keep (.h id) (.obj g m s ((xs.set i y).map f)) = true)
  (h : XR cx keep ops0 r ((.h id, .obj g m s ((xs.set i y).map f)) :: A) fun A' lg => Q A' ((rds a ++ (rds x ++ [.h id, .h id, .h id]), [.h id]) :: lg)) :
  XR cx keep ops0 (⟨none, .store T a x, ty, pos, aft, none⟩ :: r) A Q := by
 have he : (xs.map f)[i]? = some (f (xs.getD i default)) := by rw [List.getElem?_map, List.getElem?_eq_getElem hi, List.getD_eq_getElem?_getD, List.getElem?_eq_getElem hi]; rfl
 have hs : (xs.map f).set i (putAt (f (xs.getD i default)) j v) = (xs.set i y).map f := by rw [hp, List.map_set]
 refine b6p ha hx ho he hl ⟨hm, hc.1, hc.2.1, hc.2.2.1, hc.2.2.2⟩ (by rw [hs]; exact hko) ?_
 rw [hs]
 exact h
end
def mkI (k : Int) (n : Nat) : List Int := (List.range n).map fun i : Nat => k + (i : Int)
@[simp] theorem c1o (k : Int) (n : Nat) : (mkI k n).length = n := by simp [mkI]
theorem c0a {k : Int} {n i : Nat} (h : i < n) : (mkI k n).getD i default = k + i := by
 rw [List.getD_eq_getElem?_getD]; simp [mkI, h]
def mkF (k : Int) (n : Nat) : List (Int × Int) := (List.range n).map fun i : Nat => (k + 2 * (i : Int), k + 2 * (i : Int) + 1)
@[simp] theorem mkF_length (k : Int) (n : Nat) : (mkF k n).length = n := by simp [mkF]
theorem a4e {α : Type} [Inhabited α] {xs ys : List α} (hl : xs.length = ys.length) (h : ∀ j, j < xs.length → xs.getD j default = ys.getD j default) : xs = ys := by
 refine List.ext_getElem hl fun i h1 h2 => ?_
 have := h i h1
 rw [List.getD_eq_getElem?_getD, List.getD_eq_getElem?_getD, List.getElem?_eq_getElem h1, List.getElem?_eq_getElem h2] at this
 exact this
theorem a1x : ∀ (cs ls : List AV), (ls.all fun l => !H5 l) = true → R6 cs ls = true
 | [], [], _ => rfl
 | _ :: _, [], _ => rfl
 | [], l :: ls, h => by
  simp only [List.all_cons, Bool.and_eq_true] at h
  simp only [R6, h.1, Bool.true_and]; exact a1x [] ls h.2
 | c :: cs, l :: ls, h => by
  simp only [List.all_cons, Bool.and_eq_true] at h
  simp only [R6, h.1, Bool.true_or, Bool.true_and]; exact a1x cs ls h.2
theorem b2b {α : Type} {f : α → AV} (hf : ∀ a, ((leaves (f a)).all fun l => !H5 l) = true) (ys : List α) : ∀ es, nilFit es (ys.map f) = true := by
 induction ys with
 | nil => intro es; cases es <;> rfl
 | cons y ys ih =>
  intro es
  cases es with
  | nil => simp only [List.map_cons, nilFit, Bool.and_eq_true]; exact ⟨a1x _ _ (hf y), ih []⟩
  | cons e es => simp only [List.map_cons, nilFit, Bool.and_eq_true]; exact ⟨a1x _ _ (hf y), ih es⟩
section
variable {cx : Cx} {keep : List Nat} {ops0 : Array Oper} {r : List Oper} {A : Asr} {Q : Asr → List Log → Prop} {d : Nat} {ty : Nat} {pos : String} {aft : Array Edge}
end
section
variable {cx : Cx} {keep : List Nat} {ops0 : Array Oper} {r : List Oper} {A : Asr} {Q : Asr → List Log → Prop} {d : Nat} {ty : Nat} {pos : String} {aft : Array Edge}
end
theorem d1n {cx : Cx} {keep : List Nat} {A B : Asr} {c : Code} {Q : AExit → Asr → Prop} (h : HasL A B) (hx : XA cx keep c B Q) : XA cx keep c A Q := fun st hs => hx st (h.sat hs)
theorem c5b {keep : List Nat} {id g m s : Nat} {es : List AV} (h : F5 es = true) (hm : ¬ (m = 3 ∨ m = 4)) : slotOk keep (.h id) (.obj g m s es) = true := by
 simp [slotOk, refOkV, h, hm]
def vd (xs : List Int) : Bool := decide (xs.length ≤ 10) && a7z (-200) 200 xs
theorem c1s {xs : List Int} (h : vd xs = true) : xs.length ≤ 10 := by
 simp only [vd, Bool.and_eq_true, decide_eq_true_eq] at h; exact h.1
theorem c3s {lo hi : Int} {xs : List Int} (h : ∀ i, i < xs.length → lo ≤ xs.getD i default ∧ xs.getD i default ≤ hi) : a7z lo hi xs = true := a0u.2 h
theorem b7x {lo hi : Int} {xs : List Int} {i : Nat} (hi' : i < xs.length) (h : ¬ (lo ≤ xs.getD i default ∧ xs.getD i default ≤ hi)) : a7z lo hi xs = false := by
 rw [Bool.eq_false_iff]
 exact fun h2 => h (a0u.1 h2 i hi')
theorem c9v {xs : List Int} (h : vd xs = true) : a7z (-200) 200 xs = true := by
 simp only [vd, Bool.and_eq_true] at h; exact h.2
section
variable {cx : Cx} {keep : List Nat} {ops0 : Array Oper} {r : List Oper} {A : Asr} {Q : Asr → List Log → Prop} {d : Nat} {ty : Nat} {pos : String} {aft : Array Edge}
theorem a6n {α : Type} {f : α → AV} {xs ys : List α} {T T' E s id g n id2 g2 n2 : Nat} {x y : Operand} {z : AV} (hx : opd A x = some (.sl id g none 0 n)) (hy : opd A y = some (.sl id2 g2 none 0 n2)) (ho : look A (.h id) = some (.obj g 0 s (xs.map f))) (ho2 : look A (.h id2) = some (.obj g2 0 s (ys.map f)))
  (hn : n ≤ xs.length) (hn2 : n2 = (ys.map f).length) (hid : 1000000 ≤ id2) (hne : Loc.beq (.h id) (.h id2) = false) (hT : N3 cx.P T = some (E, s)) (hT' : L0 (tyS cx.P T').k = true) (hz : X5 cx.P E = some (z, s)) (hb : (tyS cx.P E).bytes ≤ 4096) (hf : ∀ a, (leaves (f a)).all cellLeaf = true ∧ J0 (f a) = true)
  (hle : n + ys.length ≤ H3) (hk : ∀ g, slotOk keep (.t d) (.sl (tid d 0) g none 0 (xs.take n ++ ys).length) = true)
  (h : ∀ g', XR cx keep ops0 r ((.t d, .sl (tid d 0) g' none 0 (xs.take n ++ ys).length) :: (.h (tid d 0), .obj g' 0 s ((xs.take n ++ ys).map f)) :: (.h id, .dead g) :: (.h id2, .dead g2) :: A) fun A' lg => Q A' ((rds x ++ (rds y ++ [.h id2, .h id, .h (tid d 0)]), [.h id2, .h id, .h (tid d 0), .t d]) :: lg)) :
  XR cx keep ops0 (⟨some d, .call ⟨.builtin .append, #[x, y], #[T, T']⟩, ty, pos, aft, none⟩ :: r) A Q := by
 obtain ⟨h1, h2, h3, h4⟩ := T9 hz
 subst hn2
 have el : (xs.take n ++ ys).length = n + ys.length := by simp; omega
 refine a2g (v := fun g' => .sl (tid d 0) g' none 0 (xs.take n ++ ys).length) (ws := fun g' => [(.h id2, .dead g2), (.h id, .dead g), (.h (tid d 0), .obj g' 0 s ((xs.take n ++ ys).map f))]) (ls := rds x ++ (rds y ++ [.h id2, .h id, .h (tid d 0)])) rfl ?_
  (fun g => D6 (by simp [slotOk, refOkV]) (D6 (by simp [slotOk, refOkV]) (D6 (B7 (A7 fun a => (hf a).2)) (H7 (hk g))))) (fun g => rfl) (fun g => c3w _ _ _ _ _ _ _ _ _) h
 simp only [aopV, dstOf]
 refine A4 (G6 (show wpA (CW cx) A (.ret d) _ from ?_))
 show wpW (CW cx) (puts A []) _ _
 refine A4 (C9 hT' (A4 (I6 hx (A4 (I6 hy ?_)))))
 unfold a1o
 refine A4 (U0 hT (A4 (C9 ⟨hb, h3, h4⟩ (A4 ?_))))
 simp only [c2p]
 refine A4 (I3 ho2 (A4 (C9 h2.symm ?_)))
 rw [if_pos (by simp [hid])]
 refine A4 (H4 (B6 ?_))
 refine A4 (C9 (a4i fun a => (hf a).1) ?_)
 simp only
 refine A4 (I3 (by
  show look (put A (.h id2) (.dead g2)) (.h id) = _
  rw [K0, hne]
  simpa using ho) (A4 (C9 ⟨rfl, by simp; omega, h2.symm, by simp only [List.length_map]; exact hle⟩ (A4 (H4 (A4 (K9 fun o => A4 (H4 (B6 ?_)))))))))
 have e3 : n + (ys.map f).length = (xs.take n ++ ys).length := by rw [el, List.length_map]
 exact ⟨G1 o + 1, by rw [e3], by simp [List.map_take], by simp⟩
end
section
variable {cx : Cx} {keep : List Nat} {A : Asr} {Q : AExit → Asr → Prop}
theorem c8m {β : Type} {a b : Code} (K : Asr) (_ : HasL A K) (I : β → Asr) (P : β → Prop) (ha : XA cx keep a A fun r A' => match r with
   | .normal => ∃ b, P b ∧ HasL A' (K ++ I b)
   | r => Q r A')
  (hb : ∀ x, P x → XA cx keep b (K ++ I x) Q) : XA cx keep (.seq a b) A Q := by
 refine A3 ?_
 intro st hs
 obtain ⟨n, r, st1, h1, A', h2, h3⟩ := ha st hs
 refine ⟨n, r, st1, h1, A', h2, ?_⟩
 cases r with
 | normal =>
  obtain ⟨x, hp, hl⟩ := h3
  exact d1n hl (hb x hp)
 | ret => exact h3
 | exit i => exact h3
theorem b8k {a b c : Code} (h : XA cx keep (.seq a (.seq b c)) A Q) : XA cx keep (.seq (.seq a b) c) A Q := by
 intro st hs
 obtain ⟨n, r, st1, h1, h2⟩ := h st hs
 refine ⟨n + 1, r, st1, ?_, h2⟩
 cases n with
 | zero => simp [aexec] at h1
 | succ n =>
  simp only [aexec] at h1 ⊢
  cases ha : aexec (CW cx) cx keep n a st with
  | none => simp [ha] at h1
  | some x =>
   obtain ⟨r1, s1⟩ := x
   have ha' := Z8 cx ha (Nat.le_succ n)
   simp only [ha] at h1
   cases r1 with
   | normal =>
    simp only at h1 ⊢
    cases n with
    | zero => simp [aexec] at ha
    | succ n =>
     simp only [aexec] at h1
     cases hb : aexec (CW cx) cx keep n b s1 with
     | none => simp [hb] at h1
     | some y =>
      obtain ⟨r2, s2⟩ := y
      have hb' := Z8 cx hb (show n ≤ n + 1 by omega)
      simp only [hb] at h1
      simp only [ha, hb']
      cases r2 with
      | normal => exact Z8 cx h1 (show n ≤ n + 1 + 1 by omega)
      | ret => simpa using h1
      | exit i => simpa using h1
   | ret => simpa [ha] using h1
   | exit i => simpa [ha] using h1
end
section
variable {cx : Cx} {keep : List Nat} {ops0 : Array Oper} {r : List Oper} {A : Asr} {Q : Asr → List Log → Prop} {d : Nat} {ty : Nat} {pos : String} {aft : Array Edge}
end
abbrev Bk := Int × Int × Int
section
variable {P Q v : Nat → Int}
def SegL (P Q v : Nat → Int) : Nat → List Bk → Nat → Prop
 | a, [], e => a = e
 | a, b :: r, e => ∃ m, a < m ∧ b.1 = P m - P a ∧ b.2.1 = Q m - Q a ∧ b.2.2 = v (m - 1) ∧ (∀ k, a < k → k ≤ m → (P m - P a) * (Q k - Q a) ≤ (P k - P a) * (Q m - Q a)) ∧ SegL P Q v m r e
theorem SegL.le : ∀ {l : List Bk} {a e : Nat}, SegL P Q v a l e → a ≤ e
 | [], _, _, h => Nat.le_of_eq h
 | _ :: _, _, _, ⟨_, h1, _, _, _, _, h⟩ => by have := h.le; omega
theorem SegL.append : ∀ {l1 l2 : List Bk} {a e : Nat}, SegL P Q v a (l1 ++ l2) e ↔ ∃ m, SegL P Q v a l1 m ∧ SegL P Q v m l2 e
 | [], l2, a, e => ⟨fun h => ⟨a, rfl, h⟩, fun ⟨m, h1, h2⟩ => by cases (h1 : a = m); exact h2⟩
 | b :: l1, l2, a, e => by
  constructor
  ·rintro ⟨m, h1, h2, h3, h4, h5, h6⟩
   obtain ⟨k, k1, k2⟩ := SegL.append.1 h6
   exact ⟨k, ⟨m, h1, h2, h3, h4, h5, k1⟩, k2⟩
  ·rintro ⟨k, ⟨m, h1, h2, h3, h4, h5, k1⟩, k2⟩
   exact ⟨m, h1, h2, h3, h4, h5, SegL.append.2 ⟨k, k1, k2⟩⟩
theorem Qlt {m : Nat} (hQ : ∀ j, j < m → Q j < Q (j + 1)) : ∀ {b a : Nat}, a < b → b ≤ m → Q a < Q b
 | 0, _, h, _ => by omega
 | b + 1, a, h, hm => by
  have h1 := hQ b (by omega)
  by_cases e : a = b
  ·subst e; exact h1
  ·have := Qlt hQ (b := b) (a := a) (by omega) (by omega); omega
def ltB (x y : Bk) : Prop := x.1 * y.2.1 < y.1 * x.2.1
def Inc : List Bk → Prop
 | [] => True
 | [_] => True
 | b :: c :: r => ltB b c ∧ Inc (c :: r)
theorem Inc.snoc : ∀ {l : List Bk} {x z : Bk}, Inc (l ++ [x] ++ [z]) ↔ Inc (l ++ [x]) ∧ ltB x z
 | [], x, z => by simp [Inc]
 | [b], x, z => by simp [Inc, and_assoc]
 | b :: c :: r, x, z => by
  have := Inc.snoc (l := c :: r) (x := x) (z := z)
  simp only [List.cons_append] at this ⊢
  simp only [Inc, this, and_assoc]
theorem Inc.init : ∀ {l : List Bk} {x : Bk}, Inc (l ++ [x]) → Inc l
 | [], _, _ => trivial
 | [_], _, _ => trivial
 | b :: c :: r, x, h => ⟨h.1, Inc.init (l := c :: r) (x := x) h.2⟩
theorem Inc.tail {b : Bk} {r : List Bk} (h : Inc (b :: r)) : Inc r := by
 cases r with
 | nil => trivial
 | cons c r => exact h.2
theorem d3m {X p Y q Z r : Int} (hq : 0 < q) (hp : 0 < p) (hr : 0 < r) (h1 : X * q < Y * p) (h2 : Y * r < Z * q) : X * r < Z * p := by
 refine Int.lt_of_mul_lt_mul_left (a := q) ?_ (by omega)
 have a1 := Int.mul_lt_mul_of_pos_right h1 hr
 have a2 := Int.mul_lt_mul_of_pos_right h2 hp
 grind
theorem d3a {X p Y q u z : Int} (hq : 0 < q) (hp : 0 < p) (hu : 0 < u) (h1 : X * q < Y * p) (h2 : Y * u ≤ z * q) : X * u < z * p := by
 refine Int.lt_of_mul_lt_mul_left (a := q) ?_ (by omega)
 have a1 := Int.mul_lt_mul_of_pos_right h1 hu
 have a2 := Int.mul_le_mul_of_nonneg_right h2 (show 0 ≤ p by omega)
 grind
theorem SegL.above {n : Nat} (hQ : ∀ j, j < n → Q j < Q (j + 1)) {X p : Int} (hp : 0 < p) : ∀ {r : List Bk} {m e : Nat}, e ≤ n → SegL P Q v m r e → Inc r → (∀ b, r.head? = some b → X * b.2.1 < b.1 * p) →
  ∀ k, m < k → k ≤ e → X * (Q k - Q m) < (P k - P m) * p
 | [], m, e, _, h, _, _, k, k1, k2 => by cases (h : m = e); omega
 | b :: r, m, e, he, h, hi, hb, k, k1, k2 => by
  obtain ⟨m', h1, h2, h3, h4, h5, h6⟩ := h
  have hme := h6.le
  have hb0 : X * b.2.1 < b.1 * p := hb b rfl
  rw [h2, h3] at hb0
  clear hb
  have q1 := Qlt hQ h1 (by omega)
  rcases Nat.lt_or_ge m' k with c | c
  ·have a1 := SegL.above hQ hp he h6 hi.tail (fun c hc => by
    cases r with
    | nil => cases hc
    | cons c' r =>
     have hcc : c' = c := Option.some.inj hc
     subst hcc
     obtain ⟨m2, g1, g2, g3, _, _, g6⟩ := h6
     have hlt : ltB b c' := hi.1
     unfold ltB at hlt
     rw [h2, h3] at hlt
     have hm2 := g6.le
     have q2 := Qlt hQ g1 (by omega)
     exact d3m (by omega) hp (by omega) hb0 hlt) k c k2
   have e1 : Q k - Q m = (Q m' - Q m) + (Q k - Q m') := by omega
   have e2 : P k - P m = (P m' - P m) + (P k - P m') := by omega
   rw [e1, e2, Int.mul_add, Int.add_mul]
   omega
  ·have q2 := Qlt hQ k1 (by omega)
   exact d3a (by omega) hp (by omega) hb0 (h5 k k1 c)
theorem SegL.after {n : Nat} (hQ : ∀ j, j < n → Q j < Q (j + 1)) {b : Bk} {r : List Bk} {a m e : Nat} (he : e ≤ n) (h1 : a < m) (h2 : b.1 = P m - P a) (h3 : b.2.1 = Q m - Q a) (h6 : SegL P Q v m r e) (hi : Inc (b :: r)) :
  ∀ k, m < k → k ≤ e → (P m - P a) * (Q k - Q a) < (P k - P a) * (Q m - Q a) := by
 intro k k1 k2
 have hme := h6.le
 have q1 := Qlt hQ h1 (by omega)
 have a1 := SegL.above hQ (X := P m - P a) (p := Q m - Q a) (by omega) he h6 hi.tail (fun c hc => by
  cases r with
  | nil => cases hc
  | cons c' r =>
   have hcc : c' = c := Option.some.inj hc
   subst hcc
   have hlt : ltB b c' := hi.1
   unfold ltB at hlt
   rwa [h2, h3] at hlt) k k1 k2
 have e1 : Q k - Q a = (Q m - Q a) + (Q k - Q m) := by omega
 have e2 : P k - P a = (P m - P a) + (P k - P m) := by omega
 rw [e1, e2, Int.mul_add, Int.add_mul]
 omega
def fiU : List Bk → Int → Nat
 | [], _ => 0
 | b :: r, x => if x ≤ b.2.2 then 0 else fiU r x + 1
theorem SegL.has {n : Nat} (hv : ∀ i j, i < j → j < n → v i < v j) : ∀ {bs : List Bk} {a e g : Nat}, e ≤ n → SegL P Q v a bs e → g < e → a < e → fiU bs (v g) < bs.length
 | [], a, e, g, _, h, _, h2 => by cases (h : a = e); omega
 | b :: r, a, e, g, he, h, hg, _ => by
  obtain ⟨m, h1, h2, h3, h4, h5, h6⟩ := h
  unfold fiU
  split
  ·simp
  ·rename_i c
   have hm := h6.le
   have hgm : m ≤ g := by
    refine Classical.byContradiction fun hc => c ?_
    rw [h4]
    rcases Nat.lt_or_ge g (m - 1) with c2 | c2
    ·have := hv g (m - 1) c2 (by omega); omega
    ·have : g = m - 1 := by omega
     rw [this]; exact Int.le_refl _
   have := SegL.has hv he h6 hg (by omega)
   simpa using this
end
def prS (f : Nat → Int) : Nat → Int
 | 0 => 0
 | k + 1 => prS f k + f k
theorem c7q {f : Nat → Int} {c : Int} : ∀ {n : Nat}, (∀ i, i < n → 0 ≤ f i ∧ f i ≤ c) → 0 ≤ prS f n ∧ prS f n ≤ n * c
 | 0, _ => ⟨Int.le_refl _, by simp [prS]⟩
 | n + 1, h => by
  have h1 := c7q (n := n) fun i hi => h i (by omega)
  have h2 := h n (by omega)
  rw [prS]
  have : ((n + 1 : Nat) : Int) * c = n * c + c := by rw [Int.natCast_succ, Int.add_mul, Int.one_mul]
  omega
theorem c4d (f : Nat → Int) : ∀ n, prS f n = ((List.range n).map f).sum
 | 0 => rfl
 | n + 1 => by rw [prS, c4d f n, List.range_succ, List.map_append, List.sum_append]; simp
def fX (xs : List Int) (i : Nat) : Int := xs.getD i default
def b6i (xs : List Int) (i : Nat) (d : List Nat) : Prop := d.Perm (List.range i) ∧ (d.map (fX xs)).Pairwise (· ≤ ·)
theorem b6i.step {xs : List Int} {i k : Nat} {d : List Nat} (h : b6i xs i d) (hk : k ≤ d.length) (h1 : ∀ j, j < k → fX xs (d.getD j default) ≤ fX xs i) (h2 : k < d.length → fX xs i ≤ fX xs (d.getD k default)) :
  b6i xs (i + 1) (d.take k ++ [i] ++ d.drop k) := by
 refine ⟨?_, ?_⟩
 ·rw [List.range_succ]
  have : (d.take k ++ [i] ++ d.drop k).Perm (d.take k ++ d.drop k ++ [i]) := by
   rw [List.append_assoc, List.append_assoc]
   exact List.Perm.append_left _ List.perm_append_comm
  rw [List.take_append_drop] at this
  exact this.trans (h.1.append_right _)
 ·have e : ∀ j, j < d.length → (d.map (fX xs)).getD j default = fX xs (d.getD j default) := by
   intro j hj
   rw [List.getD_eq_getElem?_getD, List.getD_eq_getElem?_getD, List.getElem?_map, List.getElem?_eq_getElem hj]; rfl
  have := a4p (out := d.map (fX xs)) (x := fX xs i) (k := k) h.2 (by simpa using hk) (fun j hj => by rw [e j (by omega)]; exact h1 j hj) (fun hk2 => by rw [e k (by simpa using hk2)]; exact h2 (by simpa using hk2))
  have e2 : (d.take k ++ [i] ++ d.drop k).map (fX xs) = a5h (fX xs i) (d.map (fX xs)) := by rw [← this]; simp [List.map_take, List.map_drop]
  rw [e2]
  exact a0d _ _ h.2
theorem b6i.ys {xs : List Int} {d : List Nat} (h : b6i xs xs.length d) : d.map (fX xs) = Q7 xs := by
 refine b8j ?_ h.2
 have := h.1.map (fX xs)
 have e : (List.range xs.length).map (fX xs) = xs := by
  apply List.ext_getElem
  ·simp
  ·intro i h1 h2
   simp [fX, List.getD_eq_getElem?_getD, List.getElem?_eq_getElem h2]
 rwa [e] at this
theorem b6i.len {xs : List Int} {i : Nat} {d : List Nat} (h : b6i xs i d) : d.length = i := by rw [h.1.length_eq, List.length_range]
theorem b6i.lt {xs : List Int} {i : Nat} {d : List Nat} (h : b6i xs i d) {j : Nat} (hj : j < d.length) : d.getD j default < i := List.mem_range.1 (h.1.mem_iff.1 (J4 hj))
abbrev wList : ByteArray := ⟨#[108, 105, 115, 116]⟩
abbrev wA : ByteArray := ⟨#[97]⟩
abbrev wB : ByteArray := ⟨#[98]⟩
abbrev wC : ByteArray := ⟨#[99]⟩
abbrev wD : ByteArray := ⟨#[100]⟩
abbrev d0d : ByteArray := ⟨#[115, 111, 114, 116]⟩
abbrev d3j : ByteArray := ⟨#[114, 101, 118]⟩
abbrev d2i : ByteArray := ⟨#[110, 101, 103]⟩
abbrev d3s : ByteArray := ⟨#[97, 98, 115]⟩
abbrev c9t : ByteArray := ⟨#[100, 105, 102, 102]⟩
abbrev c7s : ByteArray := ⟨#[115, 117, 109, 115]⟩
abbrev c1x : ByteArray := ⟨#[114, 97, 110, 107, 115]⟩
abbrev c2u : ByteArray := ⟨#[116, 111, 116, 97, 108]⟩
abbrev d2y : ByteArray := ⟨#[97, 100, 100]⟩
abbrev d0b : ByteArray := ⟨#[106, 111, 105, 110]⟩
def nd (w : ByteArray) : Int :=
 if w.toList = wList.toList then 0 else if w.toList = wA.toList then 0 else if w.toList = wB.toList then 0 else if w.toList = wC.toList then 0 else if w.toList = wD.toList then 0
 else if w.toList = d0d.toList then 1 else if w.toList = d3j.toList then 1 else if w.toList = d2i.toList then 1 else if w.toList = d3s.toList then 1 else if w.toList = c9t.toList then 1
 else if w.toList = c7s.toList then 1 else if w.toList = c1x.toList then 1 else if w.toList = c2u.toList then 1 else if w.toList = d2y.toList then 2 else if w.toList = d0b.toList then 2 else -1
def rch (w : ByteArray) : Int :=
 if w.toList = d0d.toList then 1 else if w.toList = d3j.toList then 1 else if w.toList = d2i.toList then 1 else if w.toList = d3s.toList then 1 else if w.toList = c9t.toList then 1
 else if w.toList = c7s.toList then 1 else if w.toList = c1x.toList then 1 else if w.toList = c2u.toList then 1 else if w.toList = d2y.toList then 2 else if w.toList = d0b.toList then 2
 else if w.toList = wA.toList then 0 else if w.toList = wB.toList then 0 else if w.toList = wC.toList then 0 else if w.toList = wD.toList then 0 else -1
theorem d2r {p : Prop} [Decidable p] {a b : Int} (ha : -1 ≤ a ∧ a ≤ 2) (hb : -1 ≤ b ∧ b ≤ 2) : -1 ≤ (if p then a else b) ∧ (if p then a else b) ≤ 2 := by split <;> assumption
theorem c7j (w : ByteArray) : -1 ≤ rch w ∧ rch w ≤ 2 := by
 unfold rch
 repeat (refine d2r (by decide) ?_)
 decide
def G5 (x : List Int) (i : Nat) : Int := x.getD i default
def dfI (x : List Int) : List Int := (List.range x.length).map fun i => if i = 0 then G5 x 0 else G5 x i - G5 x (i - 1)
def smI (x : List Int) : List Int := (List.range x.length).map fun i => prS (G5 x) (i + 1)
def rkT (x : List Int) (v : Int) (j : Nat) : Int := if G5 x j < v then 2 else if G5 x j = v then 1 else 0
def rkI (x : List Int) : List Int := (List.range x.length).map fun i => 1 + prS (rkT x (G5 x i)) x.length
def adI (x y : List Int) : List Int := (List.range x.length).map fun i => G5 x i + G5 y i
def Q6 (op : ByteArray) (x y : List Int) : Option (List Int) :=
 if op.toList = d0d.toList then some (Q7 x) else if op.toList = d3j.toList then some x.reverse else if op.toList = d2i.toList then some (x.map fun v => -v)
 else if op.toList = d3s.toList then some (x.map fun v => max v (-v)) else if op.toList = c9t.toList then some (dfI x) else if op.toList = c7s.toList then some (smI x)
 else if op.toList = c1x.toList then some (rkI x) else if op.toList = c2u.toList then some [x.sum] else if op.toList = d2y.toList then (if x.length = y.length then some (adI x y) else none)
 else if op.toList = d0b.toList then some (x ++ y) else some x
def vl (x : List Int) : Bool := decide (x.length ≤ 40) && a7z (-100000) 100000 x
theorem S8 {x : List Int} : vl x = true ↔ x.length ≤ 40 ∧ a7z (-100000) 100000 x = true := by simp [vl]
theorem d1w {x : List Int} (h : vd x = true) : vl x = true := by
 rw [S8]
 have h1 := c1s h
 refine ⟨by omega, a0u.2 fun i hi => ?_⟩
 have := a0u.1 (c9v h) i hi
 omega
def mkR (op : ByteArray) (x y : List Int) : Option (List Int) := (Q6 op x y).bind fun r => if vl r = true then some r else none
def raR (op : ByteArray) (x y : List Int) : List Int := (Q6 op x y).getD []
theorem d2o {op : ByteArray} {x y r : List Int} (h : mkR op x y = some r) : vl r = true := by
 unfold mkR at h
 cases hr : Q6 op x y with
 | none => rw [hr] at h; cases h
 | some q =>
  rw [hr, Option.bind_some] at h
  split at h
  ·cases h; assumption
  ·cases h
theorem c4u {op : ByteArray} {x y r : List Int} (h : mkR op x y = some r) : raR op x y = r := by
 unfold mkR at h
 unfold raR
 cases hr : Q6 op x y with
 | none => rw [hr] at h; cases h
 | some q =>
  rw [hr, Option.bind_some] at h
  split at h
  ·cases h; rfl
  ·cases h
theorem Y1 {x : List Int} (h : vl x = true) (i : Nat) : -100000 ≤ G5 x i ∧ G5 x i ≤ 100000 := by
 unfold G5
 rcases Nat.lt_or_ge i x.length with c | c
 ·exact a0u.1 (S8.1 h).2 i c
 ·rw [List.getD_eq_getElem?_getD, List.getElem?_eq_none c]; decide
theorem c1e {x : List Int} (h : vl x = true) : ∀ i : Nat, -(100000 * (i : Int)) ≤ prS (G5 x) i ∧ prS (G5 x) i ≤ 100000 * (i : Int)
 | 0 => by simp [prS]
 | i + 1 => by
  have h1 := c1e h i
  have h2 := Y1 h i
  rw [prS]
  omega
theorem d3z (x : List Int) (v : Int) (k : Nat) : 0 ≤ prS (rkT x v) k ∧ prS (rkT x v) k ≤ k * 2 := c7q fun i _ => by unfold rkT; split <;> (try split) <;> omega
def P9 (n : Nat) (f g : Nat → Int) (i : Nat) (l : List Int) : Prop := l.length = n ∧ ∀ j, j < n → l.getD j default = if j < i then f j else g j
theorem P9.step {n i : Nat} {f g : Nat → Int} {l : List Int} (h : P9 n f g i l) (hi : i < n) {v : Int} (hv : v = f i) : P9 n f g (i + 1) (l.set i v) := by
 refine ⟨by simp [h.1], fun j hj => ?_⟩
 rw [a2u _ _ _ _ (by rw [h.1]; exact hi)]
 by_cases e : j = i
 ·subst e; rw [if_pos rfl, if_pos (by omega), hv]
 ·rw [if_neg e, h.2 j hj]
  by_cases c : j < i
  ·rw [if_pos c, if_pos (by omega)]
  ·rw [if_neg c, if_neg (by omega)]
theorem P9.at {n i : Nat} {f g : Nat → Int} {l : List Int} (h : P9 n f g i l) (hi : i < n) : l.getD i default = g i := by rw [h.2 i hi, if_neg (by omega)]
theorem P9.fin {n i : Nat} {f g : Nat → Int} {l : List Int} (h : P9 n f g i l) (hi : n ≤ i) : l = (List.range n).map f := by
 refine V6 (d := default) (by simp [h.1]) fun j hj => ?_
 rw [h.1] at hj
 rw [h.2 j hj, if_pos (by omega), List.getD_eq_getElem?_getD, List.getElem?_map, List.getElem?_range hj]
 rfl
theorem P9.start (x : List Int) (f : Nat → Int) : P9 x.length f (G5 x) 0 x := ⟨rfl, fun j hj => by rw [if_neg (by omega)]; rfl⟩
theorem a6j (x : List Int) (f : Int → Int) : (List.range x.length).map (fun i => f (G5 x i)) = x.map f := by
 apply List.ext_getElem
 ·simp
 ·intro i h1 h2
  simp at h1
  simp [G5, List.getD_eq_getElem?_getD, List.getElem?_eq_getElem h1]
theorem R8 {f : Nat → Int} (i : Nat) : (List.range (i + 1)).map f = (List.range i).map f ++ [f i] := by rw [List.range_succ, List.map_append]; rfl
def a2i (x : List Int) (i : Nat) (l : List Int) : Prop := l.length = x.length ∧ ∀ j, j < x.length → l.getD j default = if i < j then G5 x j - G5 x (j - 1) else G5 x j
theorem a2i.step {x l : List Int} {i : Nat} (h : a2i x i l) (h0 : 0 < i) (hi : i < x.length) : a2i x (i - 1) (l.set i (l.getD i default - l.getD (i - 1) default)) := by
 refine ⟨by simp [h.1], fun j hj => ?_⟩
 rw [a2u _ _ _ _ (by rw [h.1]; exact hi)]
 by_cases e : j = i
 ·subst e
  rw [if_pos rfl, h.2 j hj, h.2 (j - 1) (by omega), if_neg (by omega), if_neg (by omega), if_pos (by omega)]
 ·rw [if_neg e, h.2 j hj]
  by_cases c : i < j
  ·rw [if_pos c, if_pos (by omega)]
  ·rw [if_neg c, if_neg (by omega)]
theorem a2i.fin {x l : List Int} (h : a2i x 0 l) : l = dfI x := by
 refine V6 (d := default) (by simp [h.1, dfI]) fun j hj => ?_
 rw [h.1] at hj
 rw [h.2 j hj, dfI, List.getD_eq_getElem?_getD, List.getElem?_map, List.getElem?_range hj]
 show _ = if j = 0 then _ else _
 by_cases e : j = 0
 ·subst e; rw [if_neg (by omega), if_pos rfl]
 ·rw [if_pos (by omega), if_neg e]
theorem b4p (x : List Int) : prS (G5 x) x.length = x.sum := c4d (G5 x) x.length ▸ (by
 congr 1
 apply List.ext_getElem
 ·simp
 ·intro i h1 h2
  simp [G5, List.getD_eq_getElem?_getD, List.getElem?_eq_getElem h2])
end Go.Mv
namespace Go.Mv
theorem c7a {x : List Int} {k : Nat} (h : k < x.length) : x.drop k = x.getD k default :: x.drop (k + 1) := by
 rw [List.drop_eq_getElem_cons h, List.getD_eq_getElem?_getD, List.getElem?_eq_getElem h]; rfl
def c8v (k : Nat) : ByteArray := ⟨#[UInt8.ofNat (97 + k)]⟩
def vcs (cols : List (List Int)) : Bool := cols.all vd && decide (cols.length ≤ 4)
theorem c3z {cols : List (List Int)} : vcs cols = true ↔ (∀ c ∈ cols, vd c = true) ∧ cols.length ≤ 4 := by simp [vcs]
theorem d1c {cols : List (List Int)} {i : Nat} (hi : i < cols.length) (h : vd (cols.getD i default) = false) : vcs cols = false := by
 cases hv : vcs cols with
 | false => rfl
 | true => rw [(c3z.1 hv).1 _ (J4 hi)] at h; cases h
theorem c9c {cols : List (List Int)} (h : ∀ j, j < cols.length → vd (cols.getD j default) = true) : vcs cols = decide ((cols.length : Int) ≤ 4) := by
 have h1 : cols.all vd = true := by
  rw [List.all_eq_true]
  intro c hc
  obtain ⟨i, hi, rfl⟩ := List.getElem_of_mem hc
  have := h i hi
  rwa [List.getD_eq_getElem?_getD, List.getElem?_eq_getElem hi] at this
 rw [vcs, h1, Bool.true_and]
 exact decide_eq_decide.2 (by omega)
theorem c3n (cols : List (List Int)) : vcs cols = (decide ((cols.length : Int) ≤ 4) && !(cols.any fun c => !vd c)) := by
 have h1 : (!(cols.any fun c => !vd c)) = cols.all vd := by
  induction cols with
  | nil => rfl
  | cons c r ih => simp [ih]
 have h2 : decide ((cols.length : Int) ≤ 4) = decide (cols.length ≤ 4) := decide_eq_decide.2 (by omega)
 rw [vcs, h1, h2, Bool.and_comm]
theorem c8e {ls : List (List Int)} {q : List Int → Bool} {i : Nat} (hi : i < ls.length) (h : q (ls.getD i default) = true) : decide (0 ≤ (i : Int)) = ls.any q := by
 rw [decide_eq_true (by omega), eq_comm, List.any_eq_true]
 exact ⟨_, J4 hi, h⟩
theorem c5a {ls : List (List Int)} {q : List Int → Bool} (h : ∀ j, j < ls.length → q (ls.getD j default) = false) : decide (0 ≤ (-1 : Int)) = ls.any q := by
 rw [decide_eq_false (by omega), eq_comm, List.any_eq_false]
 intro c hc
 obtain ⟨i, hi, rfl⟩ := List.getElem_of_mem hc
 have := h i hi
 rw [List.getD_eq_getElem?_getD, List.getElem?_eq_getElem hi] at this
 simp [show q ls[i] = false from this]
def b5n (x : List Int) (i : Nat) (l : List Int) : Prop := l.length = x.length ∧ ∀ j, j < x.length → l.getD j default = if j < i ∨ x.length - 1 - i < j then G5 x (x.length - 1 - j) else G5 x j
theorem b5n.start (x : List Int) : b5n x 0 x := ⟨rfl, fun j hj => by rw [if_neg (by omega)]; rfl⟩
theorem b5n.step {x l : List Int} {i : Nat} (h : b5n x i l) (hi : i < x.length - 1 - i) : b5n x (i + 1) ((l.set i (l.getD (x.length - 1 - i) default)).set (x.length - 1 - i) (l.getD i default)) := by
 refine ⟨by simp [h.1], fun j hj => ?_⟩
 rw [a2u _ _ _ _ (by simp [h.1]; omega), a2u _ _ _ _ (by rw [h.1]; omega)]
 by_cases e : j = x.length - 1 - i
 ·subst e
  rw [if_pos rfl, h.2 i (by omega), if_neg (by omega), if_pos (by omega), show x.length - 1 - (x.length - 1 - i) = i by omega]
 ·rw [if_neg e]
  by_cases e2 : j = i
  ·subst e2
   rw [if_pos rfl, h.2 _ (by omega), if_neg (by omega), if_pos (by omega)]
  ·rw [if_neg e2, h.2 j hj]
   by_cases c : j < i ∨ x.length - 1 - i < j
   ·rw [if_pos c, if_pos (by omega)]
   ·rw [if_neg c, if_neg (by omega)]
theorem b5n.fin {x l : List Int} {i : Nat} (h : b5n x i l) (hi : x.length - 1 - i ≤ i) : l = x.reverse := by
 refine V6 (d := default) (by simp [h.1]) fun j hj => ?_
 rw [h.1] at hj
 have hr : x.reverse.getD j default = G5 x (x.length - 1 - j) := by
  unfold G5
  rw [List.getD_eq_getElem?_getD, List.getD_eq_getElem?_getD, List.getElem?_reverse hj]
 rw [h.2 j hj, hr]
 split
 ·rfl
 ·rename_i c
  rw [show x.length - 1 - j = j by omega]
end Go.Mv
namespace Go.Mv
theorem c7g {w : ByteArray} (h : 1 ≤ nd w) : w.toList = [115, 111, 114, 116] ∨ w.toList = [114, 101, 118] ∨ w.toList = [110, 101, 103] ∨ w.toList = [97, 98, 115] ∨ w.toList = [100, 105, 102, 102] ∨ w.toList = [115, 117, 109, 115] ∨
  w.toList = [114, 97, 110, 107, 115] ∨ w.toList = [116, 111, 116, 97, 108] ∨ w.toList = [97, 100, 100] ∨ w.toList = [106, 111, 105, 110] := by
 refine Classical.byContradiction fun hn => ?_
 simp only [not_or] at hn
 obtain ⟨h1, h2, h3, h4, h5, h6, h7, h8, h9, h10⟩ := hn
 have key : nd w ≤ 0 := by
  simp [nd, h1, h2, h3, h4, h5, h6, h7, h8, h9, h10]
  (repeat' split) <;> decide
 omega
theorem c8s {w : ByteArray} (h : w.toList = [97, 100, 100] ∨ w.toList = [106, 111, 105, 110]) : nd w = 2 := by
 rcases h with h | h <;> simp [nd, h]
theorem P9.start1 (x : List Int) : P9 x.length (fun i => prS (G5 x) (i + 1)) (G5 x) 1 x := ⟨rfl, fun j hj => by
 by_cases c : j < 1
 ·rw [if_pos c, show j = 0 by omega]; simp [prS, G5]
 ·rw [if_neg c]; rfl⟩
theorem a2i.start (x : List Int) : a2i x (x.length - 1) x := ⟨rfl, fun j hj => by rw [if_neg (by omega)]; rfl⟩
theorem a2i.val {x l : List Int} {i : Nat} (h : a2i x i l) (j : Nat) : l.getD j default = if i < j ∧ j < x.length then G5 x j - G5 x (j - 1) else G5 x j := by
 rcases Nat.lt_or_ge j x.length with c | c
 ·rw [h.2 j c]
  by_cases c2 : i < j
  ·rw [if_pos c2, if_pos ⟨c2, c⟩]
  ·rw [if_neg c2, if_neg (by omega)]
 ·rw [if_neg (by omega), List.getD_eq_getElem?_getD, List.getElem?_eq_none (by rw [h.1]; exact c)]
  unfold G5
  rw [List.getD_eq_getElem?_getD, List.getElem?_eq_none c]
theorem P9.before {n i j : Nat} {f g : Nat → Int} {l : List Int} (h : P9 n f g i l) (hj : j < i) (hn : j < n) : l.getD j default = f j := by rw [h.2 j hn, if_pos hj]
theorem adF {op : ByteArray} {x y l : List Int} (ho : op.toList = [97, 100, 100]) (hl : x.length = y.length) (h : l = adI x y) (_ : True = True) : Q6 op x y = some l := by
 simp [Q6, ho, hl, h]
theorem apF {op : ByteArray} {x y l l' : List Int} (h : l = l') (h2 : Q6 op x y = some l') : Q6 op x y = some l := by rw [h]; exact h2
structure Stp where
 op : ByteArray
 a : Int
 b : Int
 ns : List Int
instance : Inhabited Stp := ⟨⟨⟨#[]⟩, 0, 0, []⟩⟩
def szR (rows : List (List Int)) : Nat := (rows.map List.length).sum
theorem b3o (l : List Nat) {i : Nat} (hi : i < l.length) : (l.take (i + 1)).sum = (l.take i).sum + l[i] := by
 rw [List.take_succ_eq_append_getElem hi, List.sum_append]; simp
theorem b2k (ss : List (List Int)) {i : Nat} (hi : i < ss.length) : szR (ss.take (i + 1)) = szR (ss.take i) + (ss.getD i default).length := by
 unfold szR
 rw [List.map_take, List.map_take, b3o _ (by simpa using hi), List.getElem_map, List.getD_eq_getElem?_getD, List.getElem?_eq_getElem hi]; rfl
theorem c2k (ss : List (List Int)) (i : Nat) : szR (ss.take i) ≤ szR ss := by
 induction ss generalizing i with
 | nil => simp
 | cons s r ih =>
  cases i with
  | zero => simp [szR]
  | succ i => have := ih i; simp only [szR, List.take_succ_cons, List.map_cons, List.sum_cons] at this ⊢; omega
theorem b5s (ss : List (List Int)) {i : Nat} (hi : i < ss.length) : (ss.getD i default).length ≤ szR ss := by
 have h1 := c2k ss (i + 1); have h2 := b2k ss hi; omega
theorem c5h {α : Type} (n j : Nat) : (List.replicate n (none : Option α)).getD j none = none := by
 rw [List.getD_eq_getElem?_getD, List.getElem?_replicate]
 split <;> rfl
theorem b5k {α : Type} {l : List (Option α)} {i j : Nat} {v : Option α} (hi : i < l.length) : (l.set i v).getD j none = if j = i then v else l.getD j none := by
 rw [List.getD_eq_getElem?_getD, List.getElem?_set, List.getD_eq_getElem?_getD]
 by_cases e : i = j
 ·subst e; simp [hi]
 ·rw [if_neg e, if_neg (fun h => e h.symm)]
theorem c5j {α : Type} [Inhabited α] {l : List (Option α)} {ss : List α} (hl : l.length = ss.length) (h : ∀ j, j < ss.length → l.getD j none = some (ss.getD j default)) : l = ss.map some := by
 refine V6 (d := none) (by simp [hl]) fun j hj => ?_
 rw [h j (by omega), List.getD_eq_getElem?_getD, List.getD_eq_getElem?_getD, List.getElem?_map, List.getElem?_eq_getElem (by omega)]
 rfl
theorem c9f (ss : List (List Int)) : (ss.map some).map oN = ss.map oI := by rw [List.map_map]; rfl
section
variable {cx : Cx} {keep : List Nat} {ops0 : Array Oper} {r : List Oper} {A : Asr} {Q : Asr → List Log → Prop} {d : Nat} {ty : Nat} {pos : String} {aft : Array Edge}
theorem d0r {S T e id g m s n : Nat} {x : Operand} {es : List AV} {l : List UInt8} (hx : opd A x = some (.sl id g none 0 n)) (ho : look A (.h id) = some (.obj g m s es)) (hS : (tyS cx.P S).k = .slice e) (hT : (tyS cx.P T).k = .string) (hE : (tyS cx.P e).k = .int .u8)
  (hb : bxB m none = false) (hn : n = es.length) (hl : M4 es = some l)
  (h : XR cx keep ops0 r ((.t d, sV ⟨l.toArray⟩) :: A) fun A' lg => Q A' ((rds x ++ [.h id], [.t d]) :: lg)) : XR cx keep ops0 (⟨some d, .convert S T x, ty, pos, aft, none⟩ :: r) A Q := by
 subst hn
 refine I4 (fun o ho => by simp only [aopV, ho]) ?_ (by simp [slotOk, refOkV, refsOk]) h
 simp only [opV, C7, C6 hx, b6r, hS, hT, hE, slc, rdNode, K3 ho, D8, D3, hb, List.append_nil, List.nil_append, List.drop_zero, List.take_length, Nat.zero_add, Nat.le_refl, and_self, true_and, hl]
theorem d3h {v : Int} (h : 0 ≤ v ∧ v < 256) : M4 [.val (.int .u8 v)] = some [UInt8.ofNat v.toNat] := by
 simp [M4, h]
def Stp.sOp (y : Stp) (s : ByteArray) : Stp := ⟨s, y.a, y.b, y.ns⟩
def Stp.sA (y : Stp) (n : Int) : Stp := ⟨y.op, n, y.b, y.ns⟩
def Stp.sB (y : Stp) (n : Int) : Stp := ⟨y.op, y.a, n, y.ns⟩
def Stp.sN (y : Stp) (l : List Int) : Stp := ⟨y.op, y.a, y.b, l⟩
@[simp] theorem Stp.sOp_ns (y : Stp) (s : ByteArray) : (y.sOp s).ns = y.ns := rfl
@[simp] theorem Stp.sA_ns (y : Stp) (s : Int) : (y.sA s).ns = y.ns := rfl
@[simp] theorem Stp.sB_ns (y : Stp) (s : Int) : (y.sB s).ns = y.ns := rfl
@[simp] theorem Stp.sN_ns (y : Stp) (s : List Int) : (y.sN s).ns = s := rfl
theorem c6d {C : Caller} {md id g m s0 i j s n : Nat} {es ys : List AV} (hmd : md = 1) (ho : look A (.h id) = some (.obj g m s0 es)) (hl : leafAt es i j = some (.own s ys)) (hm : m ≠ 2) (hn : n = ys.length) (hi : L1 ys = true) :
  J1 C A md (.sl id g (some (i, j)) 0 n) (.own s ys) [(id, true)] [] [.h id] := by
 subst hmd hn
 unfold J1 a2f
 simp only [show ¬ ((1 : Nat) = 0) from by decide, if_false, if_true]
 refine A4 (a7a ho hl ?_)
 rw [if_neg (by simp)]
 refine A4 (C9 ⟨hm, by simp [bxB], trivial, rfl, hi⟩ (B6 ⟨rfl, rfl, by simp⟩))
theorem c6g {C : Caller} {id g m s0 i j s : Nat} {es ys o : List AV} {e : AV} (ho : look A (.h id) = some (.obj g m s0 es)) (hl : leafAt es i j = some (.own s ys)) (he : es[i]? = some e) (hn : o.length = ys.length) (hf : nilFit ys o = true) :
  b4m C A [(id, g, some (i, j))] [o] [(.h id, .obj g m s0 (es.set i (putAt e j (.own s o))))] [.h id, .h id] := by
 unfold b4m V9
 refine A4 ?_
 unfold a3m
 refine A4 (a7a ho hl (A4 (C9 ⟨hn, hf⟩ (A4 (G6 ?_)))))
 simp only [wrNode]
 have ho' : look (puts (puts A []) []) (.h id) = some (.obj g m s0 es) := ho
 rw [K3 ho']
 simp only [he, hl, D3]
 refine H4 ?_
 exact B6 ⟨by simp, by simp⟩
theorem c8u {C : Caller} {id g m s0 i : Nat} {ys : List (List Int)} {o : List Int} (ho : look A (.h id) = some (.obj g m s0 (ys.map oI))) (hi : i < ys.length) (hn : o.length = (ys.getD i default).length) :
  b4m C A [(id, g, some (i, 0))] [o.map iV] [(.h id, .obj g m s0 ((ys.set i o).map oI))] [.h id, .h id] := by
 have := c6g (C := C) (o := o.map iV) ho (a5a (j := 0) hi rfl) (getElem?_map_getD hi) (by simpa using hn) (a2c _ _)
 have e : (ys.map oI).set i (putAt (oI (ys.getD i default)) 0 (.own 1 (o.map iV))) = (ys.set i o).map oI := by
  rw [List.map_set]; rfl
 rwa [e] at this
end
theorem d1v {w : ByteArray} (h : w.toList = wList.toList) : nd w = 0 := by rw [nd, if_pos h]
theorem c3g (w : ByteArray) (h : w.toList ≠ wList.toList) : nd w = rch w := by
 by_cases hA : w.toList = wA.toList
 ·simp [nd, rch, hA]
 by_cases hB : w.toList = wB.toList
 ·simp [nd, rch, hB]
 by_cases hC : w.toList = wC.toList
 ·simp [nd, rch, hC]
 by_cases hD : w.toList = wD.toList
 ·simp [nd, rch, hD]
 unfold nd rch
 rw [if_neg h, if_neg hA, if_neg hB, if_neg hC, if_neg hD, if_neg hA, if_neg hB, if_neg hC, if_neg hD]
section
variable {cx : Cx} {keep : List Nat} {ops0 : Array Oper} {r : List Oper} {A : Asr} {Q : Asr → List Log → Prop} {d : Nat} {ty : Nat} {pos : String} {aft : Array Edge}
theorem c7w {C : Caller} {id g s0 i j s n : Nat} {es ys : List AV} {e : AV} (ho : look A (.h id) = some (.obj g 0 s0 es)) (hl : leafAt es i j = some (.own s ys)) (he : es[i]? = some e) (hn : n = ys.length) (hr : F5 ys = true)
  {R : AV → Ws → List Mv.Loc → Prop} (h : R (.own s ys) [(.h id, .obj g 0 s0 (es.set i (putAt e j .undef)))] [.h id, .h id]) : wpW C A (Q9 (.sl id g (some (i, j)) 0 n)) R := by
 subst hn
 unfold Q9
 refine A4 (a7a ho hl ?_)
 simp only [and_self, if_true]
 refine A4 (C9 ⟨Nat.le_refl _, hr⟩ (A4 ?_))
 unfold b1p
 refine A4 (G6 ?_)
 rw [b6f (v := .obj g 0 s0 es) (by exact ho)]
 simp only [he]
 refine H4 (B6 ?_)
 simpa using h
theorem d1f {b : Bool} {cids : List Cid} {outs : List (List AV)} {t id g s0 i j s n : Nat} {es ys : List AV} {e : AV} {rs : List ResultVar} {vs : List AV} (hv : look A (.t t) = some (.sl id g (some (i, j)) 0 n)) (ho : look A (.h id) = some (.obj g 0 s0 es))
  (hl : leafAt es i j = some (.own s ys)) (he : es[i]? = some e) (hn : n = ys.length) (hr : F5 ys = true) (h : b8i cx b cids outs rs (put A (.h id) (.obj g 0 s0 (es.set i (putAt e j .undef)))) vs) : b8i cx b cids outs (.tmp t :: rs) A (.own s ys :: vs) := by
 refine a5t (Z2 hv ?_)
 refine c7w ho hl he hn hr ?_
 refine H6 h ?_
 rintro us ws ls ⟨rfl, h2⟩
 refine ⟨rfl, ?_⟩
 rw [a8n]
 exact h2
end
section
variable {cx : Cx} {keep : List Nat} {ops0 : Array Oper} {r : List Oper} {A : Asr} {Q : Asr → List Log → Prop} {d : Nat} {ty : Nat} {pos : String} {aft : Array Edge}
end
def b9j (w : ByteArray) : Nat := (w.toList.headD 0).toNat - 97
theorem d1p {cols : List (List Int)} (h : vcs cols = true) (k : Nat) : vl (cols.getD k default) = true := by
 rcases Nat.lt_or_ge k cols.length with c | c
 ·exact d1w ((c3z.1 h).1 _ (J4 c))
 ·rw [List.getD_eq_getElem?_getD, List.getElem?_eq_none c]; decide
theorem d0m {w : ByteArray} (h : nd w = 0) : w.toList = wList.toList ∨ ∃ k, k < 4 ∧ w.toList = [UInt8.ofNat (97 + k)] := by
 refine Classical.byContradiction fun hn => ?_
 simp only [not_or, not_exists, not_and] at hn
 obtain ⟨h0, h1⟩ := hn
 have a := h1 0 (by decide); have b := h1 1 (by decide); have c := h1 2 (by decide); have dd := h1 3 (by decide)
 simp at a b c dd
 have h0' : ¬ w.toList = [108, 105, 115, 116] := by simpa using h0
 simp [nd, h0', a, b, c, dd] at h
 (repeat' split at h) <;> simp at h
theorem d1j (b : ByteArray) : ∀ n i r, b.size - i = n → ByteArray.toList.loop b i r = r.reverse ++ b.data.toList.drop i := by
 intro n
 induction n with
 | zero =>
  intro i r h
  rw [ByteArray.toList.loop]
  have h1 : ¬ i < b.size := by omega
  rw [if_neg h1, List.drop_eq_nil_of_le (by rw [Array.length_toList]; show b.size ≤ i; omega), List.append_nil]
 | succ n ih =>
  intro i r h
  rw [ByteArray.toList.loop]
  have h1 : i < b.size := by omega
  have h2 : i < b.data.toList.length := by rw [Array.length_toList]; exact h1
  rw [if_pos h1, ih (i + 1) _ (by omega), List.drop_eq_getElem_cons h2, List.reverse_cons, List.append_assoc]
  have e : b.get! i = b.data.toList[i] := by
   show b.data[i]! = _
   rw [getElem!_pos b.data i h1]
   exact (Array.getElem_toList ..).symm
  rw [e]; rfl
theorem Y4 (b : ByteArray) : b.toList = b.data.toList := by
 rw [ByteArray.toList, d1j b b.size 0 [] (by omega)]; rfl
theorem c2h {a b : ByteArray} (h : a.toList = b.toList) : a = b := by
 rw [Y4, Y4] at h
 cases a; cases b
 congr 1
 exact Array.toList_inj.1 h
theorem d2s {w : ByteArray} (h : nd w = 0) : w = wList ∨ ∃ k, k < 4 ∧ w = c8v k := by
 rcases d0m h with c | ⟨k, hk, c⟩
 ·exact .inl (c2h c)
 ·refine .inr ⟨k, hk, c2h (c.trans ?_)⟩
  rw [Y4]; rfl
theorem c3v {k : Nat} (hk : k < 4) : b9j (c8v k) = k := by
 unfold b9j
 rw [Y4]
 show (UInt8.ofNat (97 + k)).toNat - 97 = k
 match k, hk with
 | 0, _ => rfl
 | 1, _ => rfl
 | 2, _ => rfl
 | 3, _ => rfl
theorem a4d {made : List (List Int)} (h : ∀ m ∈ made, vl m = true) (i : Nat) : vl (made.getD i default) = true := by
 rcases Nat.lt_or_ge i made.length with c | c
 ·exact h _ (J4 c)
 ·rw [List.getD_eq_getElem?_getD, List.getElem?_eq_none c]; decide
end Go.Mv
namespace Go.Mv
theorem G9 (xs : List Int) (b : Bool) : hasList (.tup [.own 1 (xs.map iV), bV b]) = false := by simp [hasList, E3]
end Go.Mv
namespace Go.Mv
end Go.Mv
namespace Go.Mv
theorem b0w {w : ByteArray} (h : w.toList = wList.toList) : rch w = -1 := by
 have e : w = wList := c2h h
 subst e
 decide +kernel
theorem c4s {w : ByteArray} (h : rch w = 0) : (∃ k, k < 4 ∧ w = c8v k) ∧ nd w = 0 := by
 have hl : w.toList ≠ wList.toList := fun e => by rw [b0w e] at h; cases h
 have h0 : nd w = 0 := (c3g w hl).trans h
 rcases d2s h0 with c | c
 ·exact absurd (by rw [c]) hl
 ·exact ⟨c, h0⟩
theorem c7z : vl [] = true := by decide
theorem a3y {cols : List (List Int)} {n : Nat} (h : szR cols ≤ n) : ∀ c ∈ cols, c.length ≤ n := by
 intro c hc
 obtain ⟨i, hi, rfl⟩ := List.getElem_of_mem hc
 have := b5s cols hi
 rw [List.getD_eq_getElem?_getD, List.getElem?_eq_getElem hi] at this
 exact Nat.le_trans this h
end Go.Mv
end

section
namespace Go.Mv
open Go Go.RowKit Go.ChangeShapes Go.WideShapes Go.ChangeAt
section
variable {H : Type} {enc : TypeId × Value → H} {P : Program} {W : World}
def b1r {α : Type} (enc : TypeId × Value → H) (P : Program) (W : World) (t c : Nat) (f : α → AV) (good : α → Prop) : Prop :=
 P.cellsOf t = c ∧ ∀ fuel cs x, DataW.trod enc P W 0 (fun _ => true) true fuel t cs = some x → ∃ a, good a ∧ cs.length = c ∧ (leaves (f a)).length = c ∧ ∀ (j : Nat) l, (leaves (f a))[j]? = some l → RV W (fun b => b < W.heap.size) l (cs.getD j undef)
theorem c1r {a : Addr} {v : Value} (h : W.cell? a = some v) : a = ⟨a.block, a.off, none⟩ ∧ a.block < W.heap.size := by
 unfold World.cell? at h
 split at h
 ·rename_i cc _ _ hh
  split at h
  ·cases h
  ·rename_i hs
   refine ⟨?_, (Array.getElem?_eq_some_iff.1 hh).1⟩
   obtain ⟨b, o, s⟩ := a
   cases s
   ·rfl
   ·simp at hs
 ·cases h
theorem c7u {t : Nat} {k : IntKind} (ht : P.underlying t = some (.int k)) (hc : P.cellsOf t = 1) : b1r enc P W t 1 (fun x : Int => .val (.int k x)) (fun x => (Lit.int k x).wf = true) := by
 refine ⟨hc, fun fuel cs x h => ?_⟩
 obtain ⟨n, rfl, rfl, hw⟩ := DataW.trod_int ht h
 refine ⟨n, hw, rfl, rfl, fun j l hl => ?_⟩
 cases j with
 | zero => cases hl; exact .val _
 | succ j => simp [leaves] at hl
theorem c9l {t : Nat} (ht : P.underlying t = some .string) (hc : P.cellsOf t = 1) : b1r enc P W t 1 (fun s : ByteArray => sV s) (fun s => s.size ≤ maxLen) := by
 refine ⟨hc, fun fuel cs x h => ?_⟩
 obtain ⟨s, rfl, rfl, hw⟩ := DataW.trod_string ht h
 refine ⟨s, hw, rfl, rfl, fun j l hl => ?_⟩
 cases j with
 | zero => cases hl; exact .val _
 | succ j => simp [leaves] at hl
theorem a5b {α : Type} {t e c : Nat} {f : α → AV} {good : α → Prop} (ht : P.underlying t = some (.slice e)) (hc : P.cellsOf t = 1) (hp : 0 < c) (hE : b1r enc P W e c f good) :
  b1r enc P W t 1 (fun xs : List α => .list (xs.map f)) (fun xs => xs.length ≤ maxLen ∧ ∀ x ∈ xs, good x) := by
 obtain ⟨hec, hE⟩ := hE
 refine ⟨hc, fun fuel cs x h => ?_⟩
 rcases DataW.trod_slice ht h with ⟨rfl, rfl⟩ | ⟨a, len, cap, elems, rest, n, rfl, rfl, rfl, _, hl, hm, hlen, hel, _, _⟩
 ·refine ⟨[], ⟨Nat.zero_le _, fun _ h => by cases h⟩, rfl, rfl, fun j l hl => ?_⟩
  cases j with
  | zero => cases hl; exact .list [] none 0 0 0 1 (fun _ _ => undef) (Nat.le_refl _) (fun h => (h rfl).elim) (fun _ h => by simp at h) (fun i j l h => by simp [leafAt] at h) (fun i j l h => by simp [leafAt] at h)
  | succ j => simp [leaves] at hl
 ·have each : ∀ i : Fin len, ∃ (y : α) (cs' : List Value), W.cells? 0 (a.add (i * c)) c = some cs' ∧ good y ∧ cs'.length = c ∧ (leaves (f y)).length = c ∧ ∀ (j : Nat) l, (leaves (f y))[j]? = some l → RV W (fun b => b < W.heap.size) l (cs'.getD j undef) := by
   intro i
   have h1 := hel i i.2
   rw [hec, List.getElem?_eq_getElem (by omega)] at h1
   obtain ⟨cs', h2, h3⟩ := Option.bind_eq_some_iff.1 h1
   obtain ⟨y, h4, h5, h6, h7⟩ := hE _ _ _ h3
   exact ⟨y, cs', h2, h4, h5, h6, h7⟩
  let g : Fin len → α := fun i => Classical.choose (each i)
  have hg : ∀ i : Fin len, ∃ cs' : List Value, W.cells? 0 (a.add (i * c)) c = some cs' ∧ good (g i) ∧ cs'.length = c ∧ (leaves (f (g i))).length = c ∧ ∀ (j : Nat) l, (leaves (f (g i)))[j]? = some l → RV W (fun b => b < W.heap.size) l (cs'.getD j undef) := fun i => Classical.choose_spec (each i)
  let k : Fin len → List Value := fun i => Classical.choose (hg i)
  have hk : ∀ i : Fin len, W.cells? 0 (a.add (i * c)) c = some (k i) ∧ good (g i) ∧ (k i).length = c ∧ (leaves (f (g i))).length = c ∧ ∀ (j : Nat) l, (leaves (f (g i)))[j]? = some l → RV W (fun b => b < W.heap.size) l ((k i).getD j undef) := fun i => Classical.choose_spec (hg i)
  have hcell : ∀ (i : Fin len) (j : Nat), j < c → W.cell? ((a.add (i * c)).add j) = some ((k i).getD j undef) := by
   intro i j hj
   have := (World.cells?_some (hk i).1).2.2 j hj
   rw [this, List.getD_eq_getElem?_getD, List.getElem?_eq_getElem (by rw [(hk i).2.2.1]; exact hj)]; rfl
  have hap : 0 < len → a = ⟨a.block, a.off, none⟩ ∧ a.block < W.heap.size := by
   intro h0
   have := hcell ⟨0, h0⟩ 0 hp
   have e : (a.add (0 * c)).add 0 = a := by rw [Nat.zero_mul]; obtain ⟨b, o, s⟩ := a; cases s <;> rfl
   simp only at this
   rw [e] at this
   exact c1r this
  have hlf : ∀ i j l, leafAt ((List.ofFn g).map f) i j = some l → ∃ hi : i < len, (leaves (f (g ⟨i, hi⟩)))[j]? = some l := by
   intro i j l h
   unfold leafAt at h
   rw [List.getElem?_map] at h
   rcases Nat.lt_or_ge i len with c1 | c1
   ·rw [List.getElem?_eq_getElem (by simpa using c1)] at h
    simp only [List.getElem_ofFn] at h
    exact ⟨c1, h⟩
   ·rw [List.getElem?_eq_none (by simpa using c1)] at h
    cases h
  have hlen2 : ((List.ofFn g).map f).length = len := by simp
  refine ⟨List.ofFn g, ⟨by simp; omega, fun y hy => ?_⟩, rfl, rfl, fun j l hl => ?_⟩
  ·obtain ⟨i, rfl⟩ := List.mem_ofFn.1 hy
   exact (hk i).2.1
  ·cases j with
   | succ j => simp [leaves] at hl
   | zero =>
    cases hl
    have := RV.list (w := W) (D := fun b => b < W.heap.size) ((List.ofFn g).map f) (some a) cap a.block a.off c (fun i j => if hi : i < len then (k ⟨i, hi⟩).getD j undef else undef) (by rw [hlen2]; exact hl) (fun hne => ?_) (fun e he => ?_) (fun i j l h => ?_) (fun i j l h => ?_)
    ·rw [hlen2] at this; exact this
    ·have h0 : 0 < len := by
      rcases Nat.eq_zero_or_pos len with h | h
      ·exact absurd (List.length_eq_zero_iff.1 (by rw [hlen2]; exact h)) hne
      ·exact h
     obtain ⟨h1, h2⟩ := hap h0
     exact ⟨congrArg some h1, h2, h2⟩
    ·obtain ⟨y, hy, rfl⟩ := List.mem_map.1 he
     obtain ⟨i, rfl⟩ := List.mem_ofFn.1 hy
     exact (hk i).2.2.2.1
    ·obtain ⟨hi, h2⟩ := hlf i j l h
     have hj : j < c := by rw [← (hk ⟨i, hi⟩).2.2.2.1]; exact (List.getElem?_eq_some_iff.1 h2).1
     have h3 := hcell ⟨i, hi⟩ j hj
     have ea := (hap (by omega)).1
     rw [ea, U7, U7] at h3
     simpa [hi] using h3
    ·obtain ⟨hi, h2⟩ := hlf i j l h
     simpa [hi] using (hk ⟨i, hi⟩).2.2.2.2 j l h2
theorem c4b {α : Type} {t : Nat} {f : α → AV} {good : α → Prop} (hE : b1r enc P W t 1 f good) (hf : ∀ a, leaves (f a) = [f a]) {v : Value} {d : DataW H} {p : List MemPlace} (hv : v.cells.toList = [v]) (h : DataW.Trod enc P W 0 (fun _ => true) true t v d p) :
  ∃ a, RV W (fun b => b < W.heap.size) (f a) v ∧ good a := by
 obtain ⟨fuel, h1⟩ := h
 obtain ⟨a, h2, _, _, h5⟩ := hE.2 _ _ _ h1
 refine ⟨a, ?_, h2⟩
 have := h5 0 (f a) (by rw [hf]; rfl)
 rwa [hv] at this
end
abbrev bA (l : List UInt8) : ByteArray := ⟨l.toArray⟩
abbrev tV (l : List UInt8) : AV := sV (bA l)
theorem a0x (l : List UInt8) : (bA l).toList = l := by rw [Y4]
theorem c5c (a b : List UInt8) : bA a ++ bA b = bA (a ++ b) := by
 apply ByteArray.ext
 simp
theorem c1k (a : List UInt8) (i j : Nat) : (bA a).extract i j = bA ((a.drop i).take (j - i)) := by
 apply ByteArray.ext
 simp [ByteArray.data_extract]
theorem b7k (b : ByteArray) : bA b.data.toList = b := by cases b; rfl
section
variable {cx : Cx} {keep : List Nat} {ops0 : Array Oper} {r : List Oper} {A : Asr} {Q : Asr → List Log → Prop} {d : Nat} {ty : Nat} {pos : String} {aft : Array Edge}
theorem a6x {x : Operand} {T : Nat} {l : List UInt8} (hx : opd A x = some (tV l)) (hT : a3b (tyS cx.P T).k = true)
  (h : XR cx keep ops0 r ((.t d, iV l.length) :: A) fun A' lg => Q A' ((rds x, [.t d]) :: lg)) : XR cx keep ops0 (⟨some d, .call ⟨.builtin .len, #[x], #[T]⟩, ty, pos, aft, none⟩ :: r) A Q := c4z hx hT h
theorem M5 {x i : Operand} {T n : Nat} {l : List UInt8} {k : IntKind} (hT : a3b (tyS cx.P T).k = true) (hx : opd A x = some (tV l)) (hi : opd A i = some (.val (.int k (n : Int)))) (hn : n < l.length)
  (h : XR cx keep ops0 r ((.t d, uV (l.getD n 0).toNat) :: A) fun A' lg => Q A' ((rds x ++ rds i, [.t d]) :: lg)) : XR cx keep ops0 (⟨some d, .index T x i, ty, pos, aft, none⟩ :: r) A Q :=
 a3u hT hx hi (by omega) (by rw [Int.toNat_natCast]; show l[n]? = _; rw [List.getD_eq_getElem?_getD, List.getElem?_eq_getElem hn]; rfl) h
theorem b0p {T z : Nat} {a b : Operand} {x y : List UInt8} (ha : opd A a = some (tV x)) (hb : opd A b = some (tV y)) (hi : x.length + y.length ≤ H3)
  (h : XR cx keep ops0 r ((.t d, tV (x ++ y)) :: A) fun A' lg => Q A' ((rds a ++ rds b, [.t d]) :: lg)) : XR cx keep ops0 (⟨some d, .binOp .add T a b z, ty, pos, aft, none⟩ :: r) A Q :=
 d2h ha hb hi (by rw [c5c]; exact h)
theorem b8u {T z : Nat} {a b : Operand} {x y : List UInt8} (ha : opd A a = some (tV x)) (hb : opd A b = some (tV y))
  (h : XR cx keep ops0 r ((.t d, bV (decide (x = y))) :: A) fun A' lg => Q A' ((rds a ++ rds b, [.t d]) :: lg)) : XR cx keep ops0 (⟨some d, .binOp .eql T a b z, ty, pos, aft, none⟩ :: r) A Q :=
 H0 ha hb (by rw [a0x, a0x, show (x == y) = decide (x = y) from Bool.eq_iff_iff.2 (by simp)]; exact h)
theorem b2e {T z : Nat} {a b : Operand} {x y : List UInt8} (ha : opd A a = some (tV x)) (hb : opd A b = some (tV y))
  (h : XR cx keep ops0 r ((.t d, bV (!decide (x = y))) :: A) fun A' lg => Q A' ((rds a ++ rds b, [.t d]) :: lg)) : XR cx keep ops0 (⟨some d, .binOp .neq T a b z, ty, pos, aft, none⟩ :: r) A Q :=
 d3w ha hb (by rw [a0x, a0x, show (x == y) = decide (x = y) from Bool.eq_iff_iff.2 (by simp)]; exact h)
theorem a3e {x : Operand} {T lo1 hi1 : Nat} {lo hi : Option Operand} {l : List UInt8} {ls1 ls2 : List Mv.Loc} (hx : opd A x = some (tV l)) (hT : (tyS cx.P T).k = .string)
  (hh : wpA (CW cx) A (optNat hi l.length) fun k ls => k = hi1 ∧ ls = ls1) (hl : wpA (CW cx) A (optNat lo 0) fun k ls => k = lo1 ∧ ls = ls2) (hc : lo1 ≤ hi1 ∧ hi1 ≤ l.length)
  (h : XR cx keep ops0 r ((.t d, tV ((l.drop lo1).take (hi1 - lo1))) :: A) fun A' lg => Q A' ((rds x ++ (ls1 ++ ls2), [.t d]) :: lg)) : XR cx keep ops0 (⟨some d, .slice T x lo hi none, ty, pos, aft, none⟩ :: r) A Q := by
 refine I4 (fun o ho => by simp only [aopV, ho]) ?_ (by simp [slotOk, refOkV, refsOk]) h
 simp only [opV, C7, C6 hx, sliceA, hT, D8]
 refine ⟨trivial, ?_⟩
 refine P1 ?_ hh
 rintro _ _ ⟨rfl, rfl⟩
 refine P1 ?_ hl
 rintro _ _ ⟨rfl, rfl⟩
 simp only [D8, D3, c1k, List.append_nil]
 exact ⟨hc, by simp⟩
end
theorem d2k {x : Int} (h : 0 ≤ x ∧ x ≤ 255) : inI .u8 x := by
 constructor <;> simp [IntKind.min, IntKind.max, IntKind.signed, IntKind.bits] <;> omega
def decN (n : Nat) : List UInt8 := if n < 10 then [UInt8.ofNat (48 + n)] else decN (n / 10) ++ [UInt8.ofNat (48 + n % 10)]
termination_by n
theorem b0b {n : Nat} (h : n < 10) : decN n = [UInt8.ofNat (48 + n)] := by rw [decN, if_pos h]
theorem c4n {n : Nat} (h : ¬ n < 10) : decN n = decN (n / 10) ++ decN (n % 10) := by
 rw [decN, if_neg h, b0b (show n % 10 < 10 from Nat.mod_lt _ (by decide))]
def dec (n : Int) : List UInt8 := if n < 0 then 45 :: decN (-n).toNat else decN n.toNat
theorem b0c (n : Nat) : dec (n : Int) = decN n := by rw [dec, if_neg (by omega)]; rfl
theorem u8n {k : Nat} (h : k < 256) : (UInt8.ofNat k).toNat = k := by rw [UInt8.toNat_ofNat']; exact Nat.mod_eq_of_lt h
theorem a6c (n : Nat) : ∀ b ∈ decN n, 48 ≤ b.toNat ∧ b.toNat ≤ 57 := by
 induction n using Nat.strongRecOn with
 | _ n ih =>
  rw [decN]
  split
  ·intro b hb
   cases List.mem_singleton.1 hb
   rw [u8n (by omega)]; omega
  ·intro b hb
   rcases List.mem_append.1 hb with c | c
   ·exact ih _ (by omega) b c
   ·cases List.mem_singleton.1 c
    rw [u8n (by omega)]; omega
theorem a6h (n : Nat) : decN n ≠ [] := by
 rw [decN]
 split <;> simp
theorem c9h (n : Int) : dec n ≠ [] := by
 rw [dec]
 split
 ·simp
 ·exact a6h _
theorem c1c (n : Nat) : ∀ {k : Nat}, 1 ≤ k → n < 10 ^ k → (decN n).length ≤ k := by
 induction n using Nat.strongRecOn with
 | _ n ih =>
  intro k hk hn
  rw [decN]
  split
  ·simpa using hk
  ·rename_i h
   match k, hk with
   | 1, _ => omega
   | k + 2, _ =>
    have := ih (n / 10) (by omega) (k := k + 1) (by omega) (by rw [Nat.pow_succ] at hn; omega)
    simp; omega
theorem V5 {m : Int} (h : -1000000 ≤ m ∧ m ≤ 1000000) : (dec m).length ≤ 8 := by
 rw [dec]
 split
 ·have := c1c (-m).toNat (k := 7) (by decide) (by omega)
  simp; omega
 ·have := c1c m.toNat (k := 7) (by decide) (by omega)
  omega
theorem d0s {n : Int} (h : n < 0) : dec n = [45] ++ dec (-n) := by
 rw [dec, if_pos h, dec, if_neg (by omega)]; rfl
theorem d1i {n : Int} (h : 0 ≤ n ∧ n < 10) : dec n = (([48, 49, 50, 51, 52, 53, 54, 55, 56, 57] : List UInt8).drop n.toNat).take ((n + 1).toNat - n.toNat) := by
 obtain ⟨k, rfl⟩ : ∃ k : Nat, n = k := ⟨n.toNat, by omega⟩
 have hk : k < 10 := by omega
 rw [b0c, b0b hk]
 match k, hk with
 | 0, _ => rfl
 | 1, _ => rfl
 | 2, _ => rfl
 | 3, _ => rfl
 | 4, _ => rfl
 | 5, _ => rfl
 | 6, _ => rfl
 | 7, _ => rfl
 | 8, _ => rfl
 | 9, _ => rfl
theorem d2p {n : Int} (h : ¬ n < 10) : dec n = dec (n.tdiv 10) ++ dec (n.tmod 10) := by
 obtain ⟨k, rfl⟩ : ∃ k : Nat, n = k := ⟨n.toNat, by omega⟩
 have e1 : (k : Int).tdiv 10 = ((k / 10 : Nat) : Int) := by rw [Int.tdiv_eq_ediv_of_nonneg (by omega)]; omega
 have e2 : (k : Int).tmod 10 = ((k % 10 : Nat) : Int) := by rw [Int.tmod_eq_emod_of_nonneg (by omega)]; omega
 rw [e1, e2, b0c, b0c, b0c, c4n (by omega)]
def joinB (c : UInt8) : List (List UInt8) → List UInt8
 | [] => []
 | [p] => p
 | p :: q :: r => p ++ c :: joinB c (q :: r)
def S4 (q : List UInt8) : List (List UInt8) → List (List UInt8)
 | p :: ps => (q ++ p) :: ps
 | [] => []
def splitB (c : UInt8) : List UInt8 → List (List UInt8)
 | [] => [[]]
 | b :: r => if b = c then [] :: splitB c r else S4 [b] (splitB c r)
theorem c0k (a b : List UInt8) (l : List (List UInt8)) : S4 a (S4 b l) = S4 (a ++ b) l := by cases l <;> simp [S4]
theorem b4u (l : List (List UInt8)) : S4 [] l = l := by cases l <;> simp [S4]
theorem b4v (c : UInt8) (l : List UInt8) : splitB c l ≠ [] := by
 induction l with
 | nil => simp [splitB]
 | cons b r ih =>
  rw [splitB]
  split
  ·simp
  ·cases h : splitB c r with
   | nil => exact absurd h ih
   | cons p ps => simp [S4]
theorem c1b {c : UInt8} {p : List UInt8} (h : c ∉ p) (r : List UInt8) : splitB c (p ++ c :: r) = p :: splitB c r := by
 induction p with
 | nil => simp [splitB]
 | cons b p ih =>
  simp only [List.mem_cons, not_or] at h
  rw [List.cons_append, splitB, if_neg (fun e => h.1 e.symm), ih h.2]
  rfl
theorem b5z {c : UInt8} {p : List UInt8} (h : c ∉ p) : splitB c p = [p] := by
 induction p with
 | nil => rfl
 | cons b p ih =>
  simp only [List.mem_cons, not_or] at h
  rw [splitB, if_neg (fun e => h.1 e.symm), ih h.2]
  rfl
theorem a8j {c : UInt8} : ∀ {ps : List (List UInt8)}, ps ≠ [] → (∀ p ∈ ps, c ∉ p) → splitB c (joinB c ps) = ps
 | [], h, _ => absurd rfl h
 | [p], _, h => b5z (h p (by simp))
 | p :: q :: r, _, h => by
  rw [joinB, c1b (h p (by simp)), a8j (by simp) fun x hx => h x (List.mem_cons_of_mem _ hx)]
theorem b3c {c : UInt8} {p : List UInt8} {r : List (List UInt8)} (h : r ≠ []) : joinB c (p :: r) = p ++ c :: joinB c r := by
 cases r with
 | nil => exact absurd rfl h
 | cons q r => rfl
theorem c1p (c : UInt8) (l : List UInt8) : joinB c (splitB c l) = l := by
 induction l with
 | nil => rfl
 | cons b r ih =>
  rw [splitB]
  split
  ·rename_i e
   subst e
   rw [b3c (b4v _ _), ih]; rfl
  ·cases h : splitB c r with
   | nil => exact absurd h (b4v c r)
   | cons p ps =>
    rw [h] at ih
    cases ps with
    | nil => simp only [S4, joinB] at ih ⊢; rw [ih]; rfl
    | cons q ps => simp only [S4, joinB] at ih ⊢; rw [← ih]; rfl
theorem b2z {c : UInt8} {s : List UInt8} {out : List (List UInt8)} {fr i : Nat} (hi : i < s.length) (hf : fr ≤ i) (h : splitB c s = out ++ S4 ((s.drop fr).take (i - fr)) (splitB c (s.drop i))) :
  (s.getD i 0 = c → splitB c s = (out ++ [(s.drop fr).take (i - fr)]) ++ S4 ((s.drop (i + 1)).take (i + 1 - (i + 1))) (splitB c (s.drop (i + 1)))) ∧
  (s.getD i 0 ≠ c → splitB c s = out ++ S4 ((s.drop fr).take (i + 1 - fr)) (splitB c (s.drop (i + 1)))) := by
 have e : s.drop i = s.getD i 0 :: s.drop (i + 1) := by
  rw [List.drop_eq_getElem_cons hi, List.getD_eq_getElem?_getD, List.getElem?_eq_getElem hi]; rfl
 refine ⟨fun hc => ?_, fun hc => ?_⟩
 ·rw [h, e, splitB, if_pos hc, Nat.sub_self, List.take_zero, b4u, S4, List.append_nil, List.append_assoc]; rfl
 ·rw [h, e, splitB, if_neg hc, c0k]
  congr 2
  have e2 : (s.drop fr).take (i + 1 - fr) = (s.drop fr).take (i - fr) ++ [s.getD i 0] := by
   rw [show i + 1 - fr = (i - fr) + 1 by omega, List.take_succ_eq_append_getElem (by simp; omega)]
   congr 2
   rw [List.getElem_drop, List.getD_eq_getElem?_getD, List.getElem?_eq_getElem hi]
   simp [show fr + (i - fr) = i by omega]
  rw [e2]
def S6 : Nat → List UInt8 → Option Nat
 | a, [] => some a
 | a, b :: r => if 48 ≤ b.toNat ∧ b.toNat ≤ 57 ∧ a ≤ 10000 then S6 (10 * a + (b.toNat - 48)) r else none
theorem a2v (x y : List UInt8) : ∀ a, S6 a (x ++ y) = (S6 a x).bind fun b => S6 b y := by
 induction x with
 | nil => intro a; rfl
 | cons c x ih =>
  intro a
  rw [List.cons_append, S6, S6]
  split
  ·exact ih _
  ·rfl
theorem b9a (n : Nat) : n ≤ 100009 → S6 0 (decN n) = some n := by
 induction n using Nat.strongRecOn with
 | _ n ih =>
  intro hn
  rw [decN]
  split
  ·rename_i h
   rw [S6, u8n (by omega), if_pos (by omega), S6]
   congr 1; omega
  ·rename_i h
   rw [a2v, ih (n / 10) (by omega) (by omega), Option.bind_some, S6, u8n (by omega), if_pos (by omega), S6]
   congr 1; omega
def neg? (t : List UInt8) : Bool := decide (t.head? = some 45)
def unS (t : List UInt8) : List UInt8 := if neg? t = true then t.tail else t
def rdI (t : List UInt8) : Option Int := (S6 0 (unS t)).bind fun n => if unS t = [] ∨ dec (if neg? t = true then -(n : Int) else n) ≠ t then none else some (if neg? t = true then -(n : Int) else n)
theorem d0h {t : List UInt8} {m : Int} (h : rdI t = some m) : t = dec m := by
 unfold rdI at h
 obtain ⟨n, _, h2⟩ := Option.bind_eq_some_iff.1 h
 by_cases hc : unS t = [] ∨ dec (if neg? t = true then -(n : Int) else n) ≠ t
 ·rw [if_pos hc] at h2; cases h2
 ·rw [if_neg hc] at h2
  simp only [not_or, Decidable.not_not] at hc
  rw [Option.some.injEq] at h2
  rw [← h2]
  exact hc.2.symm
theorem c8o (n : Nat) : neg? (decN n) = false := by
 cases h : decN n with
 | nil => rfl
 | cons b r =>
  have := a6c n b (by rw [h]; simp)
  simp only [neg?, List.head?_cons, Option.some.injEq, decide_eq_false_iff_not]
  intro e
  subst e
  exact absurd this.1 (by decide)
theorem d0o {m : Int} (h : -100000 ≤ m ∧ m ≤ 100000) : rdI (dec m) = some m := by
 by_cases hm : m < 0
 ·have e : dec m = 45 :: decN (-m).toNat := by rw [dec, if_pos hm]
  have hn : neg? (dec m) = true := by rw [e]; rfl
  have hu : unS (dec m) = decN (-m).toNat := by rw [unS, if_pos hn, e]; rfl
  rw [rdI, hu, b9a _ (by omega), Option.bind_some, hn]
  simp only [if_true]
  have e2 : -(((-m).toNat : Nat) : Int) = m := by omega
  rw [e2, if_neg (by simp [a6h])]
 ·have e : dec m = decN m.toNat := by rw [dec, if_neg hm]
  have hn : neg? (dec m) = false := by rw [e]; exact c8o _
  have hu : unS (dec m) = decN m.toNat := by rw [unS, hn, if_neg (by decide), e]
  rw [rdI, hu, b9a _ (by omega), Option.bind_some, hn]
  simp only [Bool.false_eq_true, if_false]
  have e2 : ((m.toNat : Nat) : Int) = m := by omega
  rw [e2, if_neg (by simp [a6h])]
theorem c9j {c : UInt8} (hc : c ≠ 45) (hd : ¬(48 ≤ c.toNat ∧ c.toNat ≤ 57)) (n : Int) : c ∉ dec n := by
 rw [dec]
 split
 ·intro h
  rcases List.mem_cons.1 h with e | e
  ·exact hc e
  ·exact hd (a6c _ c e)
 ·exact fun h => hd (a6c _ c h)
def S9 (ns : List Int) : List UInt8 := joinB 44 (ns.map dec)
theorem b4y {ns : List Int} (h : ∀ n ∈ ns, -1000000 ≤ n ∧ n ≤ 1000000) : (S9 ns).length ≤ 9 * ns.length := by
 have key : ∀ ps : List (List UInt8), (∀ p ∈ ps, p.length ≤ 8) → (joinB 44 ps).length ≤ 9 * ps.length := by
  intro ps
  induction ps with
  | nil => intro _; simp [joinB]
  | cons p r ih =>
   intro hp
   have h1 := hp p (by simp)
   have h2 := ih fun q hq => hp q (List.mem_cons_of_mem _ hq)
   cases r with
   | nil => simp only [joinB, List.length_singleton]; omega
   | cons q r => rw [b3c (by simp)]; simp only [List.length_append, List.length_cons] at h2 ⊢; omega
 have := key (ns.map dec) fun p hp => by
  obtain ⟨n, hn, rfl⟩ := List.mem_map.1 hp
  exact V5 (h n hn)
 simpa [S9] using this
def X4 (ns : List Int) : List UInt8 := 91 :: (S9 ns ++ [93])
def Z9 : List (List UInt8) → Option (List Int)
 | [] => some []
 | p :: r => (rdI p).bind fun n => (Z9 r).map fun ns => n :: ns
def rdL (s : List UInt8) : Option (List Int) := Z9 (splitB 44 s)
theorem a6q : ∀ {ps : List (List UInt8)} {ns : List Int}, Z9 ps = some ns → ps = ns.map dec
 | [], ns, h => by cases h; rfl
 | p :: r, ns, h => by
  simp only [Z9, Option.bind_eq_some_iff, Option.map_eq_some_iff] at h
  obtain ⟨n, h1, ms, h2, rfl⟩ := h
  rw [List.map_cons, ← d0h h1, ← a6q h2]
theorem b8a : ∀ {ns : List Int}, (∀ n ∈ ns, -100000 ≤ n ∧ n ≤ 100000) → Z9 (ns.map dec) = some ns
 | [], _ => rfl
 | n :: ns, h => by rw [List.map_cons, Z9, d0o (h n (by simp)), Option.bind_some, b8a fun x hx => h x (List.mem_cons_of_mem _ hx)]; rfl
theorem a8y (x y : List (List UInt8)) : Z9 (x ++ y) = (Z9 x).bind fun a => (Z9 y).map fun b => a ++ b := by
 induction x with
 | nil => cases h : Z9 y <;> simp [Z9, h]
 | cons p x ih =>
  rw [List.cons_append, Z9, Z9, ih]
  cases rdI p with
  | none => rfl
  | some n =>
   cases Z9 x with
   | none => rfl
   | some a =>
    cases Z9 y with
    | none => rfl
    | some b => rfl
theorem a7d {ps : List (List UInt8)} {ns : List Int} {i : Nat} {n : Int} (hi : i < ps.length) (h : Z9 (ps.take i) = some ns) (hn : rdI (ps.getD i default) = some n) : Z9 (ps.take (i + 1)) = some (ns ++ [n]) := by
 have e : ps.getD i default = ps[i] := by rw [List.getD_eq_getElem?_getD, List.getElem?_eq_getElem hi]; rfl
 rw [e] at hn
 rw [List.take_succ_eq_append_getElem hi, a8y, h, Option.bind_some, Z9, hn]
 rfl
theorem J5 {ps : List (List UInt8)} {i : Nat} (hi : i < ps.length) (hn : rdI (ps.getD i default) = none) : Z9 ps = none := by
 have e : ps.getD i default = ps[i] := by rw [List.getD_eq_getElem?_getD, List.getElem?_eq_getElem hi]; rfl
 rw [e] at hn
 rw [← List.take_append_drop i ps, a8y, List.drop_eq_getElem_cons hi, Z9, hn]
 cases Z9 (ps.take i) <;> rfl
theorem a8g : ∀ {ps : List (List UInt8)} {ns : List Int}, Z9 ps = some ns → ns.length = ps.length := fun h => by rw [a6q h, List.length_map]
theorem b0h : ∀ {u : List UInt8} {a n : Nat}, a ≤ 100009 → S6 a u = some n → n ≤ 100009
 | [], a, n, ha, h => by cases h; exact ha
 | b :: r, a, n, _, h => by
  rw [S6] at h
  split at h
  ·exact b0h (by omega) h
  ·cases h
theorem a7o {u : List UInt8} {k a : Nat} (hk : k < u.length) (h : S6 0 (u.take k) = some a) (hb : 48 ≤ (u.getD k 0).toNat ∧ (u.getD k 0).toNat ≤ 57 ∧ a ≤ 10000) : S6 0 (u.take (k + 1)) = some (10 * a + ((u.getD k 0).toNat - 48)) := by
 have e : u.getD k 0 = u[k] := by rw [List.getD_eq_getElem?_getD, List.getElem?_eq_getElem hk]; rfl
 rw [e] at hb ⊢
 rw [List.take_succ_eq_append_getElem hk, a2v, h, Option.bind_some, S6, if_pos hb, S6]
theorem P4 {u : List UInt8} {k a : Nat} (hk : k < u.length) (h : S6 0 (u.take k) = some a) (hb : ¬(48 ≤ (u.getD k 0).toNat ∧ (u.getD k 0).toNat ≤ 57 ∧ a ≤ 10000)) : S6 0 u = none := by
 have e : u.getD k 0 = u[k] := by rw [List.getD_eq_getElem?_getD, List.getElem?_eq_getElem hk]; rfl
 rw [e] at hb
 rw [← List.take_append_drop k u, a2v, h, Option.bind_some, List.drop_eq_getElem_cons hk, S6, if_neg hb]
theorem T3 {p : List UInt8} (h : S6 0 (unS p) = none) : rdI p = none := by rw [rdI, h]; rfl
theorem c2d {p : List UInt8} {a : Nat} {m : Int} (h : S6 0 (unS p) = some a) (hm : m = if neg? p = true then -(a : Int) else a) (h1 : unS p ≠ []) (h2 : dec m = p) : rdI p = some m := by
 rw [rdI, h, Option.bind_some, ← hm, if_neg (by simp [h1, h2])]
theorem a6z {p : List UInt8} {a : Nat} {m : Int} (h : S6 0 (unS p) = some a) (hm : m = if neg? p = true then -(a : Int) else a) (h1 : unS p = [] ∨ dec m ≠ p) : rdI p = none := by
 rw [rdI, h, Option.bind_some, ← hm, if_pos h1]
theorem d4e {p : List UInt8} (h : p ≠ []) (h2 : (p.getD 0 0).toNat = 45) : neg? p = true ∧ unS p = (p.drop 1).take (p.length - 1) := by
 have hn : neg? p = true := by
  cases p with
  | nil => exact absurd rfl h
  | cons b r => exact decide_eq_true (congrArg some (UInt8.toNat_inj.1 h2))
 refine ⟨hn, ?_⟩
 rw [unS, if_pos hn]
 cases p with
 | nil => rfl
 | cons b r => simp
theorem d2c {p : List UInt8} (h : p = [] ∨ (p.getD 0 0).toNat ≠ 45) : neg? p = false ∧ unS p = p := by
 have hn : neg? p = false := by
  cases p with
  | nil => rfl
  | cons b r =>
   refine decide_eq_false fun e => ?_
   rcases h with h | h
   ·cases h
   ·cases e; exact h rfl
 exact ⟨hn, by rw [unS, hn, if_neg (by decide)]⟩
theorem a0g {ns : List Int} (h : ns ≠ []) : splitB 44 (S9 ns) = ns.map dec :=
 a8j (by simpa using h) fun p hp => by
  obtain ⟨n, _, rfl⟩ := List.mem_map.1 hp
  exact c9j (by decide) (by decide) n
def numsOf (w : List UInt8) : Option (List Int) :=
 if 2 ≤ w.length ∧ w.getD 0 0 = 91 ∧ w.getD (w.length - 1) 0 = 93 then
  (if w.length = 2 then some [] else (rdL ((w.drop 1).take (w.length - 1 - 1))).bind fun ns => if vd ns = true then some ns else none) else none
theorem c6f (ns : List Int) : (X4 ns).length = (S9 ns).length + 2 := by simp [X4]
theorem c8g {w : List UInt8} (h : 2 ≤ w.length ∧ w.getD 0 0 = 91 ∧ w.getD (w.length - 1) 0 = 93) : w = 91 :: ((w.drop 1).take (w.length - 1 - 1) ++ [93]) := by
 obtain ⟨h1, h2, h3⟩ := h
 match w, h1 with
 | a :: r, h1 =>
  simp only [List.length_cons] at h1
  have e1 : a = 91 := h2
  subst e1
  have hr : r ≠ [] := fun e => by subst e; simp at h1
  simp only [List.length_cons, Nat.add_sub_cancel, List.drop_succ_cons, List.drop_zero]
  congr 1
  have h4 : r.getD (r.length - 1) 0 = 93 := by
   have : (91 :: r).getD (r.length) 0 = 93 := by simpa using h3
   rw [show r.length = (r.length - 1) + 1 by omega, List.getD_cons_succ] at this
   exact this
  have h5 := List.take_succ_eq_append_getElem (l := r) (i := r.length - 1) (by omega)
  rw [show r.length - 1 + 1 = r.length by omega, List.take_length] at h5
  rw [List.getD_eq_getElem?_getD, List.getElem?_eq_getElem (by omega)] at h4
  have h6 : r[r.length - 1] = 93 := h4
  rw [h6] at h5
  exact h5
theorem a9e {w : List UInt8} {ns : List Int} (h : numsOf w = some ns) : w = X4 ns ∧ vd ns = true := by
 unfold numsOf at h
 split at h
 ·rename_i hb
  have hp := c8g hb
  split at h
  ·rename_i h2
   cases h
   refine ⟨?_, by decide⟩
   rw [hp, h2]
   rfl
  ·obtain ⟨ms, h3, h4⟩ := Option.bind_eq_some_iff.1 h
   split at h4
   ·rename_i hv
    cases h4
    refine ⟨?_, hv⟩
    rw [hp, X4, S9, ← a6q h3, c1p]
   ·cases h4
 ·cases h
theorem d0j {ns : List Int} (h : vd ns = true) : ∀ n ∈ ns, -200 ≤ n ∧ n ≤ 200 := by
 intro n hn
 obtain ⟨i, hi, rfl⟩ := List.getElem_of_mem hn
 have := a0u.1 (c9v h) i hi
 rw [List.getD_eq_getElem?_getD, List.getElem?_eq_getElem hi] at this
 exact this
theorem b8x {ns : List Int} (h : vd ns = true) : numsOf (X4 ns) = some ns := by
 unfold numsOf
 have hl := c6f ns
 rw [if_pos ⟨by omega, rfl, by
  rw [hl, X4, show (S9 ns).length + 2 - 1 = (S9 ns).length + 1 by omega, List.getD_cons_succ, List.getD_eq_getElem?_getD, List.getElem?_append_right (Nat.le_refl _)]; simp⟩]
 by_cases hn : ns = []
 ·subst hn
  rfl
 ·have h2 : S9 ns ≠ [] := by
   intro e
   have := a0g hn
   rw [e] at this
   cases ns with
   | nil => exact hn rfl
   | cons n r =>
    simp only [splitB, List.map_cons, List.cons.injEq] at this
    exact c9h n this.1.symm
  have h3 : 0 < (S9 ns).length := List.length_pos_iff.2 h2
  rw [if_neg (by omega), hl]
  have e : ((X4 ns).drop 1).take ((S9 ns).length + 2 - 1 - 1) = S9 ns := by
   rw [X4, List.drop_succ_cons, List.drop_zero, show (S9 ns).length + 2 - 1 - 1 = (S9 ns).length by omega, List.take_left]
  rw [e, rdL, a0g hn, b8a fun n hn => by have := d0j h n hn; omega, Option.bind_some, if_pos h]
end Go.Mv
namespace Go.Mv
theorem a0q (c : UInt8) (l : List UInt8) : (splitB c l).length ≤ l.length + 1 := by
 induction l with
 | nil => simp [splitB]
 | cons b r ih =>
  rw [splitB]
  split
  ·simp; omega
  ·cases h : splitB c r with
   | nil => simp [S4]
   | cons p ps => rw [h] at ih; simp [S4] at ih ⊢; omega
theorem a9d (c : UInt8) (l : List UInt8) : ∀ p ∈ splitB c l, p.length ≤ l.length := by
 induction l with
 | nil => simp [splitB]
 | cons b r ih =>
  rw [splitB]
  split
  ·intro p hp
   rcases List.mem_cons.1 hp with e | e
   ·subst e; simp
   ·have := ih p e; simp; omega
  ·cases h : splitB c r with
   | nil => simp [S4]
   | cons q ps =>
    rw [h] at ih
    intro p hp
    rcases List.mem_cons.1 hp with e | e
    ·subst e; have := ih q (by simp); simp; omega
    ·have := ih p (by simp [e]); simp; omega
end Go.Mv
namespace Go.Mv
theorem b7a (p : List UInt8) : (unS p).length ≤ p.length := by
 unfold unS
 split
 ·cases p <;> simp
 ·exact Nat.le_refl _
end Go.Mv
namespace Go.Mv
def c0e (w : List UInt8) : List Int :=
 if 2 ≤ w.length ∧ w.getD 0 0 = 91 ∧ w.getD (w.length - 1) 0 = 93 then (if w.length = 2 then [] else (rdL ((w.drop 1).take (w.length - 1 - 1))).getD []) else []
theorem d2g {b c : UInt8} {k : Nat} (h : (b.toNat : Int) = k) (hc : c.toNat = k) : b = c := UInt8.toNat_inj.1 (by omega)
theorem a7x {s : List UInt8} (h : s.length < 2 ∨ (s.getD 0 0).toNat ≠ 91 ∨ (s.getD (s.length - 1) 0).toNat ≠ 93) : numsOf s = none ∧ c0e s = [] := by
 have hn : ¬(2 ≤ s.length ∧ s.getD 0 0 = 91 ∧ s.getD (s.length - 1) 0 = 93) := by
  rintro ⟨h1, h2, h3⟩
  rcases h with h | h | h
  ·omega
  ·exact h (by rw [h2]; rfl)
  ·exact h (by rw [h3]; rfl)
 exact ⟨if_neg hn, if_neg hn⟩
theorem c6l {s : List UInt8} (h1 : 2 ≤ s.length) (h2 : ((s.getD 0 0).toNat : Int) = 91) (h3 : ((s.getD (s.length - 1) 0).toNat : Int) = 93) :
  (s.length = 2 → numsOf s = some [] ∧ c0e s = []) ∧ (s.length ≠ 2 → numsOf s = ((rdL ((s.drop 1).take (s.length - 1 - 1))).bind fun ns => if vd ns = true then some ns else none) ∧ c0e s = (rdL ((s.drop 1).take (s.length - 1 - 1))).getD []) := by
 have hb : 2 ≤ s.length ∧ s.getD 0 0 = 91 ∧ s.getD (s.length - 1) 0 = 93 := ⟨h1, d2g h2 rfl, d2g h3 rfl⟩
 refine ⟨fun e => ?_, fun e => ?_⟩
 ·rw [numsOf, c0e, if_pos hb, if_pos hb, if_pos e, if_pos e]; exact ⟨rfl, rfl⟩
 ·rw [numsOf, c0e, if_pos hb, if_pos hb, if_neg e, if_neg e]; exact ⟨rfl, rfl⟩
theorem d1g {s : List UInt8} {ns : List Int} (h : numsOf s = some ns) : c0e s = ns := by
 unfold numsOf at h
 unfold c0e
 split at h
 ·rename_i hb
  rw [if_pos hb]
  split at h
  ·rename_i h2
   rw [if_pos h2]; cases h; rfl
  ·rename_i h2
   rw [if_neg h2]
   obtain ⟨ms, h3, h4⟩ := Option.bind_eq_some_iff.1 h
   split at h4
   ·cases h4; rw [h3]; rfl
   ·cases h4
 ·cases h
theorem d1b (s : List UInt8) : ((rdL s).getD []).length ≤ s.length + 1 := by
 cases h : rdL s with
 | none => exact Nat.zero_le _
 | some ns => have := a8g h; have h2 := a0q 44 s; simp only [Option.getD_some]; omega
theorem b2i {s : List UInt8} {o : Option (List Int)} (h : numsOf s = (o.bind fun ns => if vd ns = true then some ns else none)) : (numsOf s).isSome = (o.isSome && vd (o.getD [])) := by
 rw [h]
 cases o with
 | none => rfl
 | some ns =>
  simp only [Option.bind_some, Option.isSome_some, Bool.true_and, Option.getD_some]
  cases hv : vd ns <;> rfl
inductive Pl where
 | lst (ns : List Int)
 | col (w : List UInt8)
 | un (w : List UInt8) (p : Pl)
 | bin (w : List UInt8) (p q : Pl)
 deriving Inhabited
abbrev lW : List UInt8 := [108, 105, 115, 116]
def Pl.op : Pl → List UInt8
 | .lst _ => lW
 | .col w => w
 | .un w _ => w
 | .bin w _ _ => w
def Pl.ns : Pl → List Int
 | .lst ns => ns
 | _ => []
def Pl.kids : Pl → List Pl
 | .lst _ => []
 | .col _ => []
 | .un _ p => [p]
 | .bin _ p q => [p, q]
abbrev W8 := List UInt8
theorem c5r {w : ByteArray} (h : 0 ≤ rch w) : rch w = 0 ∨ rch w = 1 ∨ rch w = 2 := by have := c7j w; omega
end Go.Mv
namespace Go.Mv
end Go.Mv
namespace Go.Mv
section
variable {cx : Cx} {keep : List Nat} {ops0 : Array Oper} {r : List Oper} {A : Asr} {Q : Asr → List Log → Prop} {d : Nat} {ty : Nat} {pos : String} {aft : Array Edge}
variable {C : Caller} {m f j : Nat} {cs fs : List AV} {G : Type} {vs : G → List AV} {ws : G → Ws} {ls : List Mv.Loc}
theorem c9q {id g s n : Nat} {es : List AV} (ho : look A (.h id) = some (.obj g 0 s es)) (hn : n = es.length) (hi : F5 es = true) {R : List AV → Ws → List Mv.Loc → Prop} (h : R (frzL es) [(.h id, .obj g 2 s (frzL es))] [.h id]) : wpW C A (freeze (.sl id g none 0 n)) R := by
 subst hn
 unfold freeze
 refine A4 (I3 ho (A4 (C9 (by simp [bxB]) ?_)))
 simp only [show ¬ ((0 : Nat) = 2) from by decide, if_false]
 refine A4 (C9 (by simp [hi]) (A4 (H4 (B6 ?_))))
 have e : (frzL es).take es.length = frzL es := by rw [← O2 es, List.take_length]
 simpa [e] using h
variable {b : Bool} {us : List AV} {w1 : Ws}
end
section
variable {cx : Cx} {keep : List Nat} {ops0 : Array Oper} {r : List Oper} {A : Asr} {Q : Asr → List Log → Prop} {d : Nat} {ty : Nat} {pos : String} {aft : Array Edge}
theorem b9p {T z : Nat} {a b : Operand} (hT : a0s cx.P T = true) (ha : opd A a = some .ifc) (hb : opd A b = some (.val .nilIface))
  (h : XR cx keep ops0 r ((.t d, bV true) :: A) fun A' lg => Q A' ((rds a ++ rds b, [.t d]) :: lg)) : XR cx keep ops0 (⟨some d, .binOp .neq T a b z, ty, pos, aft, none⟩ :: r) A Q :=
 I4 (fun o ho => by simp only [aopV, ho]) (by simp only [opV, C7, C6 ha, C6 hb, D8, D3, a0z, Z1, List.append_nil, List.nil_append, true_and, and_self, and_true]; exact ⟨hT, by simp [D3]⟩) (by simp [slotOk, refOkV, refsOk]) h
theorem c8b {T z : Nat} {a b : Operand} (hT : a0s cx.P T = true) (hc : a3k b = true) (ha : opd A a = some (.val .nilIface)) (hb : opd A b = some (.val .nilIface))
  (h : XR cx keep ops0 r ((.t d, bV false) :: A) fun A' lg => Q A' ((rds a ++ rds b, [.t d]) :: lg)) : XR cx keep ops0 (⟨some d, .binOp .neq T a b z, ty, pos, aft, none⟩ :: r) A Q :=
 I4 (fun o ho => by simp only [aopV, ho]) (by simp only [opV, C7, C6 ha, C6 hb, D8, D3, a0z, Z1, List.append_nil, List.nil_append, true_and, and_self, and_true, hT, hc, Bool.or_true, Bool.and_self]) (by simp [slotOk, refOkV, refsOk]) h
end
def unT : List AV → Option (List (List UInt8))
 | [] => some []
 | .val (.string s) :: r => (unT r).map (s.data.toList :: ·)
 | _ => none
theorem d1s (ps : List (List UInt8)) : unT (ps.map tV) = some ps := by
 induction ps with
 | nil => rfl
 | cons p ps ih => simp [unT, ih]
def one? (s : ByteArray) : Option UInt8 := match s.data.toList with
 | [b] => some b
 | _ => none
theorem one?_some {s : ByteArray} {b : UInt8} (h : one? s = some b) : s = bA [b] := by
 unfold one? at h
 split at h
 ·rename_i b' hs
  cases h
  have : s = bA s.data.toList := (b7k s).symm
  rw [hs] at this
  exact this
 ·cases h
def b1w : List AV → Option (AV × List (List AV))
 | [.val (.string s), .val (.string c)] => (one? c).bind fun b => if s.size < 4294967281 then some (.own 1 ((splitB b s.data.toList).map tV), []) else none
 | _ => none
def b5y : List AV → Option (AV × List (List AV))
 | [.list es, .val (.string c)] => (one? c).bind fun b => (unT es).bind fun ps => if ps.length ≤ H3 ∧ (joinB b ps).length ≤ H3 then some (tV (joinB b ps), []) else none
 | _ => none
def a2l (b : UInt8) (l : List UInt8) : List UInt8 := if l.head? = some b then l.tail else l
def b3v (b : UInt8) (l : List UInt8) : List UInt8 := if l.getLast? = some b then l.dropLast else l
def b7u : List AV → Option (AV × List (List AV))
 | [.val (.string s), .val (.string c)] => (one? c).bind fun b => some (.tup [tV (a2l b s.data.toList), bV (decide (s.data.toList.head? = some b))], [])
 | _ => none
def b7e : List AV → Option (AV × List (List AV))
 | [.val (.string s), .val (.string c)] => (one? c).bind fun b => if s.size < 4294967281 then some (.tup [tV (b3v b s.data.toList), bV (decide (s.data.toList.getLast? = some b))], []) else none
 | _ => none
def b0e : List AV → Option (AV × List (List AV))
 | [.val (.int .i64 n)] => if -9223372036854775808 ≤ n ∧ n ≤ 9223372036854775807 then some (tV (dec n), []) else none
 | _ => none
def atR (l : List UInt8) : AV := match Lib.atoiAll l with
 | .ok v => .tup [iV v, .val .nilIface]
 | .range => .tup [iV (Lib.atoiSat l), .ifc]
 | _ => .tup [iV 0, .ifc]
def b6t : List AV → Option (AV × List (List AV))
 | [.val (.string s)] => if s.size < 4294967281 then some (atR s.data.toList, []) else none
 | _ => none
theorem b2l {c : UInt8} (hc : 48 ≤ c.toNat ∧ c.toNat ≤ 57) : ∀ (x : List UInt8) (a u : Nat), Lib.parseUint10 a x = .ok u → u ≤ 100000000 → Lib.parseUint10 a (x ++ [c]) = .ok (u * 10 + (c.toNat - 48))
 | [], a, u, h, hu => by
  simp only [Lib.parseUint10] at h
  injection h with h
  subst h
  simp only [List.nil_append, Lib.parseUint10]
  rw [if_pos hc, if_neg (by omega), if_neg (by omega)]
 | b :: r, a, u, h, hu => by
  simp only [Lib.parseUint10] at h
  simp only [List.cons_append, Lib.parseUint10]
  split at h
  ·split at h
   ·cases h
   ·split at h
    ·cases h
    ·rename_i h1 h2 h3
     rw [if_pos h1, if_neg h2, if_neg h3]
     exact b2l hc r _ u h hu
  ·cases h
theorem c6s (n : Nat) : n ≤ 1000000 → Lib.parseUint10 0 (decN n) = .ok n := by
 induction n using Nat.strongRecOn with
 | _ n ih =>
  intro hn
  rw [decN]
  split
  ·simp only [Lib.parseUint10]
   rw [u8n (by omega), if_pos (by omega), if_neg (by omega), if_neg (by omega)]
   congr 1; omega
  ·rw [b2l (by rw [u8n (by omega)]; omega) _ _ _ (ih (n / 10) (by omega) (by omega)) (by omega), u8n (by omega)]
   congr 1; omega
theorem c7d {n : Int} (h : -1000000 ≤ n ∧ n ≤ 1000000) : Lib.atoiAll (dec n) = .ok n := by
 have key : ∀ m : Nat, m ≤ 1000000 → Lib.parseMag (decN m) = .ok m := fun m hm => by rw [Lib.parseMag, if_neg (a6h m), c6s m hm]
 by_cases hn : n < 0
 ·rw [dec, if_pos hn]
  simp only [Lib.atoiAll]
  rw [if_pos (.inr (by decide)), key _ (by omega)]
  simp only
  rw [if_neg (by omega), if_neg (by omega)]
  have : (45 : UInt8).toNat = 45 := rfl
  simp only [this, if_true]
  congr 1; omega
 ·have e : dec n = decN n.toNat := by rw [dec, if_neg hn]
  rw [e]
  have hk := key n.toNat (by omega)
  cases hd : decN n.toNat with
  | nil => exact absurd hd (a6h _)
  | cons b r =>
   have hb := a6c n.toNat b (by rw [hd]; simp)
   rw [hd] at hk
   simp only [Lib.atoiAll]
   rw [if_neg (by omega), hk]
   have h45 : ¬ b.toNat = 45 := by omega
   simp only [h45, not_false_eq_true, true_and, false_and, if_false]
   rw [if_neg (by omega)]
   congr 1; omega
def rdA : List (List UInt8) → Option (List Int)
 | [] => some []
 | p :: r => match Lib.atoiAll p with
  | .ok v => (rdA r).map fun ns => v :: ns
  | _ => none
theorem c4w : ∀ {ns : List Int}, (∀ n ∈ ns, -1000000 ≤ n ∧ n ≤ 1000000) → rdA (ns.map dec) = some ns
 | [], _ => rfl
 | n :: ns, h => by rw [List.map_cons, rdA, c7d (h n (by simp)), c4w fun x hx => h x (List.mem_cons_of_mem _ hx)]; rfl
theorem c7n {ps : List (List UInt8)} {ns : List Int} {i : Nat} {v : Int} (hi : i < ps.length) (h : rdA (ps.take i) = some ns) (hv : Lib.atoiAll (ps.getD i default) = .ok v) : rdA (ps.take (i + 1)) = some (ns ++ [v]) := by
 induction ps generalizing ns i with
 | nil => simp at hi
 | cons p r ih =>
  cases i with
  | zero =>
   simp only [List.take_zero, rdA, Option.some.injEq] at h
   subst h
   have hv' : Lib.atoiAll p = .ok v := hv
   simp [rdA, hv']
  | succ i =>
   simp only [List.take_succ_cons, rdA] at h ⊢
   split at h
   ·rename_i u hu
    obtain ⟨ms, h1, rfl⟩ := Option.map_eq_some_iff.1 h
    rw [ih (by simpa using hi) h1 (by simpa using hv)]; rfl
   ·cases h
theorem b8w {ps : List (List UInt8)} {i : Nat} (hi : i < ps.length) (hv : ∀ v, Lib.atoiAll (ps.getD i default) ≠ .ok v) : rdA ps = none := by
 induction ps generalizing i with
 | nil => simp at hi
 | cons p r ih =>
  cases i with
  | zero =>
   have hv' : ∀ v, Lib.atoiAll p ≠ .ok v := hv
   rw [rdA]
   split
   ·rename_i u hu; exact absurd hu (hv' u)
   ·rfl
  | succ i =>
   rw [rdA]
   split
   ·rw [ih (by simpa using hi) (by simpa using hv)]; rfl
   ·rfl
def a2r (w : List UInt8) : List UInt8 := b3v 93 (a2l 91 w)
def okB (w : List UInt8) : Bool := decide (w.head? = some 91) && decide ((a2l 91 w).getLast? = some 93)
def a0t (w : List UInt8) : Option (List Int) := if okB w = true then (if a2r w = [] then some [] else rdA (splitB 44 (a2r w))) else none
def okI (w : List UInt8) : Bool := match a0t w with
 | some ns => vd ns && decide (X4 ns = w)
 | none => false
theorem b8s {w : List UInt8} {ns : List Int} (h : numsOf w = some ns) : a0t w = some ns := by
 obtain ⟨rfl, hv⟩ := a9e h
 have h1 : a2l 91 (X4 ns) = S9 ns ++ [93] := by rw [a2l, if_pos (show (X4 ns).head? = some 91 from rfl)]; rfl
 have h2 : (a2l 91 (X4 ns)).getLast? = some 93 := by rw [h1]; simp
 have h3 : a2r (X4 ns) = S9 ns := by rw [a2r, b3v, if_pos h2, h1]; simp
 have hok : okB (X4 ns) = true := by rw [okB, h2]; rfl
 rw [a0t, if_pos hok, h3]
 by_cases hn : ns = []
 ·subst hn; rfl
 ·have h4 : S9 ns ≠ [] := by
   intro e
   have := a0g hn
   rw [e] at this
   cases ns with
   | nil => exact hn rfl
   | cons n r =>
    simp only [splitB, List.map_cons, List.cons.injEq] at this
    exact c9h n this.1.symm
  rw [if_neg h4, a0g hn]
  exact c4w fun n hn => by have := d0j hv n hn; omega
theorem d3c (w : List UInt8) : okI w = (numsOf w).isSome := by
 cases h : numsOf w with
 | some ns =>
  obtain ⟨e, hv⟩ := a9e h
  rw [okI, b8s h]
  simp [hv, ← e]
 | none =>
  rw [okI]
  cases hi : a0t w with
  | none => rfl
  | some ns =>
   simp only
   cases hv : vd ns with
   | false => rfl
   | true =>
    rw [Bool.true_and]
    refine decide_eq_false fun e => ?_
    have := b8x hv
    rw [e, h] at this
    cases this
theorem c0j (w : List UInt8) : (∃ ns, numsOf w = some ns) ∨ (numsOf w = none ∧ rch (bA w) = 0) ∨ (numsOf w = none ∧ rch (bA w) = 1) ∨ (numsOf w = none ∧ rch (bA w) = 2) ∨ (numsOf w = none ∧ rch (bA w) < 0) := by
 cases h : numsOf w with
 | some ns => exact .inl ⟨ns, rfl⟩
 | none =>
  have := c7j (bA w)
  rcases Int.lt_or_le (rch (bA w)) 0 with c | c
  ·exact .inr (.inr (.inr (.inr ⟨rfl, c⟩)))
  ·rcases c5r c with c | c | c
   ·exact .inr (.inl ⟨rfl, c⟩)
   ·exact .inr (.inr (.inl ⟨rfl, c⟩))
   ·exact .inr (.inr (.inr (.inl ⟨rfl, c⟩)))
theorem d1e (w : List UInt8) : (decide (w ≠ lW) && decide (0 ≤ nd (bA w))) = decide (0 ≤ rch (bA w)) := by
 by_cases h : w = lW
 ·subst h
  rw [b0w (show (bA lW).toList = wList.toList from rfl)]
  rfl
 ·rw [decide_eq_true h, Bool.true_and, c3g _ (by rw [a0x, Y4]; exact h)]
theorem V0 {w : List UInt8} (h : 0 ≤ rch (bA w)) : nd (bA w) = rch (bA w) := by
 refine c3g _ fun e => ?_
 rw [b0w e] at h
 omega
end Go.Mv
namespace Go.Mv
theorem b3u {ns : List Int} {i : Nat} (h : i < ns.length) : (ns.take (i + 1)).map dec = (ns.take i).map dec ++ [dec (ns.getD i default)] := by
 rw [List.take_succ_eq_append_getElem h, List.map_append, List.map_singleton, List.getD_eq_getElem?_getD, List.getElem?_eq_getElem h]; rfl
theorem c8q (b : UInt8) (l : List UInt8) : (a2l b l).length ≤ l.length := by
 unfold a2l
 split
 ·cases l <;> simp
 ·exact Nat.le_refl _
theorem c7l (b : UInt8) (l : List UInt8) : (b3v b l).length ≤ l.length := by
 unfold b3v
 split
 ·simp
 ·exact Nat.le_refl _
theorem b3a : ∀ {ps : List (List UInt8)} {ns : List Int}, rdA ps = some ns → ns.length = ps.length
 | [], ns, h => by cases h; rfl
 | p :: r, ns, h => by
  rw [rdA] at h
  split at h
  ·obtain ⟨ms, h1, rfl⟩ := Option.map_eq_some_iff.1 h
   simp [b3a h1]
  ·cases h
def rlX (w : List UInt8) : List Int := (a0t w).getD []
theorem d3g {w : List UInt8} {ns : List Int} (h : numsOf w = some ns) : rlX w = ns := by rw [rlX, b8s h]; rfl
theorem b6b {w : List UInt8} (h : a0t w = none) : okI w = false ∧ rlX w = [] := by rw [okI, rlX, h]; exact ⟨rfl, rfl⟩
theorem a5s {w : List UInt8} {ns : List Int} (h : a0t w = some ns) : okI w = (vd ns && decide (X4 ns = w)) ∧ rlX w = ns := by rw [okI, rlX, h]; exact ⟨rfl, rfl⟩
theorem b8t {w : List UInt8} (h : okB w = false) : a0t w = none := by rw [a0t, h]; rfl
theorem c4o {w : List UInt8} (h : okB w = true) (h2 : a2r w = []) : a0t w = some [] := by rw [a0t, if_pos h, if_pos h2]
theorem b0f {w : List UInt8} (h : okB w = true) (h2 : a2r w ≠ []) : a0t w = rdA (splitB 44 (a2r w)) := by rw [a0t, if_pos h, if_neg h2]
theorem d3v {ns : List Int} (h : vd ns = true) : ∀ n ∈ ns, -1000000 ≤ n ∧ n ≤ 1000000 := fun n hn => by have := d0j h n hn; omega
theorem c8f {w : List UInt8} (h : okB w = true) : (a2r w).length + 2 ≤ w.length := by
 simp only [okB, Bool.and_eq_true, decide_eq_true_eq] at h
 obtain ⟨h1, h2⟩ := h
 have e1 : (a2l 91 w).length + 1 = w.length := by
  rw [a2l, if_pos h1]
  cases w with
  | nil => cases h1
  | cons b r => rfl
 have e2 : (a2r w).length + 1 = (a2l 91 w).length := by
  rw [a2r, b3v, if_pos h2]
  cases hc : a2l 91 w with
  | nil => rw [hc] at h2; cases h2
  | cons b r => simp
 omega
end Go.Mv
namespace Go.Mv
def Pl.sz : Pl → Nat
 | .lst _ => 1
 | .col _ => 1
 | .un _ p => p.sz + 1
 | .bin _ p q => p.sz + q.sz + 1
def Pl.good : Pl → Prop
 | .lst ns => vd ns = true
 | .col w => w ≠ lW ∧ w.length ≤ 1048576
 | .un w p => w ≠ lW ∧ w.length ≤ 1048576 ∧ p.good
 | .bin w p q => w ≠ lW ∧ w.length ≤ 1048576 ∧ p.good ∧ q.good
theorem b5d {w : W8} {ns : List Int} (h : numsOf w = some ns) : vd ns = true := by
 unfold numsOf at h
 split at h
 ·split at h
  ·cases h; rfl
  ·obtain ⟨ms, h1, h2⟩ := Option.bind_eq_some_iff.1 h
   split at h2
   ·cases h2; assumption
   ·cases h2
 ·cases h
def mT (k : Int) : W8 := 109 :: (if k ≤ 0 then [48] else decN k.toNat)
def mkT (k : Int) (n : Nat) : List W8 := (List.range n).map fun (j : Nat) => mT (k + j)
@[simp] theorem a5j (k : Int) (n : Nat) : (mkT k n).length = n := by simp [mkT]
theorem d0a {k : Int} {n i : Nat} (h : i < n) : (mkT k n).getD i default = mT (k + i) := by
 simp [mkT, List.getD_eq_getElem?_getD, h]
def mkS (k : Int) (q : Int) (s : W8) : Prop := decN k.toNat = (if q ≤ 0 then [] else decN q.toNat) ++ s
theorem d0w {k q : Int} {s : W8} (h : mkS k q s) (hk : 0 < k) (hq : q ≤ 0) : (109 : UInt8) :: s = mT k := by
 rw [mkS, if_pos hq, List.nil_append] at h
 rw [mT, if_neg (by omega), h]
theorem c9a {k q : Int} {s : W8} (h : mkS k q s) (hq : 0 < q) : mkS k (q.tdiv 10) ([UInt8.ofNat (48 + q.tmod 10).toNat] ++ s) := by
 have hm : q.tmod 10 = q % 10 := Int.tmod_eq_emod_of_nonneg (by omega)
 have hd : q.tdiv 10 = q / 10 := Int.tdiv_eq_ediv_of_nonneg (by omega)
 rw [mkS, if_neg (by omega)] at h
 rw [mkS, hd, h, hm]
 obtain ⟨n, rfl⟩ : ∃ n : Nat, q = n := ⟨q.toNat, by omega⟩
 have e1 : ((n : Int) / 10).toNat = n / 10 := by omega
 have e2 : (48 + (n : Int) % 10).toNat = 48 + n % 10 := by omega
 rw [e1, e2, Int.toNat_natCast]
 by_cases hn : n < 10
 ·rw [if_pos (by omega), b0b hn, Nat.mod_eq_of_lt hn]; rfl
 ·rw [if_neg (by omega), c4n hn, b0b (Nat.mod_lt _ (by decide))]; simp
abbrev d1a : W8 := [114, 101, 118]
abbrev d3e : W8 := [110, 101, 103]
abbrev d3b : W8 := [97, 98, 115]
abbrev d1z : W8 := [100, 105, 102, 102]
abbrev d2a : W8 := [115, 117, 109, 115]
abbrev lSort : W8 := [115, 111, 114, 116]
abbrev d4a : W8 := [116, 111, 116, 97, 108]
def d4c : List (W8 × Bool × Bool) :=
 [(d1a ++ 32 :: d1a, true, true), (d3e ++ 32 :: d3e, true, true), (d1z ++ 32 :: d2a, true, true), (d2a ++ 32 :: d1z, true, true), (lSort ++ 32 :: lSort, true, false), (d3b ++ 32 :: d3b, true, false),
  (lSort ++ 32 :: d1a, false, true), (d3b ++ 32 :: d3e, false, true), (d4a ++ 32 :: lSort, false, true), (d4a ++ 32 :: d1a, false, true)]
def Pl.wf : Pl → Prop
 | .lst _ => True
 | .col w => rch (bA w) = 0
 | .un w p => rch (bA w) = 1 ∧ p.wf
 | .bin w p q => rch (bA w) = 2 ∧ p.wf ∧ q.wf
abbrev Pl.k0 (t : Pl) : Pl := t.kids.getD 0 default
section
variable {cx : Cx} {keep : List Nat} {ops0 : Array Oper} {r : List Oper} {A : Asr} {Q : Asr → List Log → Prop} {d : Nat} {ty : Nat} {pos : String} {aft : Array Edge}
variable {C : Caller} {m f j : Nat} {cs fs : List AV} {G : Type} {vs : G → List AV} {ws : G → Ws} {ls : List Mv.Loc}
theorem b4t {α : Type} {φ : α → AV} {xs : List α} (hi : ∀ a, I8 (φ a) = true) : F5 (xs.map φ) = true := A7 fun a => by
 have := hi a
 cases hfa : φ a <;> rw [hfa] at this <;> simp_all [I8, J0]
theorem Y0 {α : Type} {φ : α → AV} {xs : List α} {T E id g s n : Nat} {x : Operand} {z : AV} (hx : opd A x = some (.sl id g none 0 n)) (ho : look A (.h id) = some (.obj g 0 s (xs.map φ))) (hn : n = (xs.map φ).length) (hi : ∀ a, I8 (φ a) = true)
  (hT : N3 cx.P T = some (E, 1)) (hz : X5 cx.P E = some (z, 1)) (hfz : cx.fzB T d = true) (hne : Loc.beq (.h (tid d 0)) (.h id) = false)
  (hk : ∀ g', slotOk keep (.t d) (.sl (tid d 0) g' none 0 1) = true)
  (h : ∀ g', XR cx keep ops0 r ((.t d, .sl (tid d 0) g' none 0 1) :: (.h (tid d 0), .obj g' 0 1 [.list (xs.map φ)]) :: (.h id, .obj g 2 s (xs.map φ)) :: A) fun A' lg => Q A' ((rds x ++ [.h id, .h (tid d 0)], [.h id, .h (tid d 0), .t d]) :: lg)) :
  XR cx keep ops0 (⟨some d, .buildSlice T 1 #[(0, x)], ty, pos, aft, none⟩ :: r) A Q := by
 obtain ⟨h1, h2, h3, h4⟩ := T9 hz
 refine a2g (v := fun g' => .sl (tid d 0) g' none 0 1) (ws := fun g' => [(.h id, .obj g 2 s (xs.map φ)), (.h (tid d 0), .obj g' 0 1 [.list (xs.map φ)])]) (ls := rds x ++ [.h id, .h (tid d 0)]) rfl ?_
  (fun g => D6 (c5b (b4t hi) (by decide)) (D6 (B7 rfl) (H7 (hk g)))) (fun g => rfl) (fun g => a6a _ _ _ _ _ _ _) h
 simp only [aopV, dstOf]
 refine A4 (G6 (show wpA (CW cx) A (.ret d) _ from ?_))
 show wpW (CW cx) (puts A []) _ _
 refine A4 (U0 hT (A4 (C9 ⟨by rw [h2]; decide, h3, h4, by rw [h2]; decide⟩ ?_)))
 simp only [h1, h2, hfz, if_true]
 refine A4 ?_
 simp only [X9]
 refine A4 (I6 hx (A4 (C9 (by simp [leaves]) ?_)))
 refine A4 ?_
 simp only [absorb, List.replicate, List.headD]
 unfold M2
 simp only [show ¬ ((2 : Nat) = 3) from by decide, if_false]
 rw [if_neg (by simp)]
 refine A4 (c9q ho hn (b4t hi) (B6 (B6 ?_)))
 rw [a6k hi]
 refine A4 (K9 fun o => A4 (H4 (B6 ?_)))
 exact ⟨G1 o + 1, rfl, by simp, by simp⟩
variable {fs' : List AV} {lf : List Mv.Loc}
end
theorem a7e {α : Type} [Inhabited α] {l : List α} {j : Nat} (h : j < l.length) : l.take (j + 1) = l.take j ++ [l.getD j default] := by
 rw [List.take_succ_eq_append_getElem h, List.getD_eq_getElem?_getD, List.getElem?_eq_getElem h]; rfl
deriving instance DecidableEq for Stp
def d4h (t : Pl) (a b : Int) : Stp := ⟨bA t.op, a, b, t.ns⟩
def d2n : List (ByteArray × Value) := d4c.map fun e => (bA e.1, .agg #[.bool e.2.1, .bool e.2.2])
end Go.Mv
namespace Go.Mv
end Go.Mv
namespace Go.Mv
def kAt (ss : List Stp) (k : Int) (i : Nat) : Int := k + (((ss.take i).map fun s => 3 + s.ns.length).sum : Nat)
def d4j (q : Int) (n : Nat) : Stp := ⟨bA (mT q), q + 1, q + 1 + 1, mkI (q + 1 + 1 + 1) n⟩
def d4f (ss : List Stp) (k : Int) : List Stp := (List.range ss.length).map fun i => d4j (kAt ss k i) (ss.getD i default).ns.length
@[simp] theorem mkSt_length (ss : List Stp) (k : Int) : (d4f ss k).length = ss.length := by simp [d4f]
end Go.Mv
namespace Go.Mv
end Go.Mv
namespace Go.Mv
abbrev lF (l : List Int) : AV := .list (l.map iV)
end Go.Mv
namespace Go.Mv
deriving instance DecidableEq for Pl
structure ClQ (P : List Pl) : Prop where
 nd : P.Nodup
 good : ∀ t ∈ P, t.good
 kids : ∀ A t B, P = A ++ t :: B → ∀ k ∈ t.kids, k ∈ A
theorem ClQ.nil : ClQ [] := ⟨List.nodup_nil, (fun _ h => by cases h), (fun A t B h => by cases A <;> cases h)⟩
theorem ClQ.mem {P : List Pl} (h : ClQ P) {t k : Pl} (ht : t ∈ P) (hk : k ∈ t.kids) : k ∈ P := by
 obtain ⟨A, B, rfl⟩ := List.append_of_mem ht
 exact List.mem_append_left _ (h.kids A t B rfl k hk)
def ixQ (t : Pl) : List Pl → Nat
 | [] => 0
 | x :: r => if x = t then 0 else ixQ t r + 1
def d3u (P : List Pl) (t : Pl) (k : Nat) : Int := if k < t.kids.length then (ixQ (t.kids.getD k default) P : Int) else -1
def d4g (P : List Pl) (t : Pl) : Stp := d4h t (d3u P t 0) (d3u P t 1)
def enc (P : List Pl) : List Stp := P.map (d4g P)
def G3 (cols : List (List Int)) : List W8 → List (List Int) → Option (List (List Int))
 | [], st => some st
 | w :: ws, st => match numsOf w with
  | some ns => G3 cols ws (st ++ [ns])
  | none =>
   if rch (bA w) < 0 ∨ (st.length : Int) < rch (bA w) then none
   else if rch (bA w) = 0 then G3 cols ws (st ++ [cols.getD (b9j (bA w)) default])
   else (mkR (bA w) (st.getD (st.length - (rch (bA w)).toNat) default) (if rch (bA w) = 2 then st.getD (st.length - 1) default else [])).bind fun r => G3 cols ws (st.take (st.length - (rch (bA w)).toNat) ++ [r])
theorem c0y (cols : List (List Int)) {w : W8} {ns : List Int} (ws : List W8) (st : List (List Int)) (h : numsOf w = some ns) : G3 cols (w :: ws) st = G3 cols ws (st ++ [ns]) := by rw [G3, h]
theorem c0p (cols : List (List Int)) {w : W8} (ws : List W8) (st : List (List Int)) (h : numsOf w = none) (h0 : rch (bA w) = 0) : G3 cols (w :: ws) st = G3 cols ws (st ++ [cols.getD (b9j (bA w)) default]) := by
 rw [G3, h]; simp only; rw [if_neg (by omega), if_pos h0]
def rcF (cols : List (List Int)) (ws : List W8) : Option (List Int) := if ws.length ≤ 16 ∧ vcs cols = true then (G3 cols ws []).bind fun st => if st.length = 1 then some (st.getD 0 default) else none else none
theorem R9 (cols : List (List Int)) : ∀ (ws vs : List W8) (st : List (List Int)), G3 cols (ws ++ vs) st = (G3 cols ws st).bind (G3 cols vs)
 | [], vs, st => rfl
 | w :: ws, vs, st => by
  rw [List.cons_append, G3, G3]
  cases numsOf w with
  | some ns => exact R9 cols ws vs _
  | none =>
   simp only
   split
   ·rfl
   ·split
    ·exact R9 cols ws vs _
    ·rw [Option.bind_assoc]
     congr 1
     funext r
     exact R9 cols ws vs _
theorem a1h {cols : List (List Int)} (hc : vcs cols = true) (hv : ∀ w ns, numsOf w = some ns → vl ns = true) : ∀ (ws : List W8) (st st' : List (List Int)), (∀ x ∈ st, vl x = true) → G3 cols ws st = some st' → ∀ x ∈ st', vl x = true
 | [], st, st', hs, h => by cases h; exact hs
 | w :: ws, st, st', hs, h => by
  have snoc : ∀ {A : List (List Int)} {r : List Int}, (∀ x ∈ A, vl x = true) → vl r = true → ∀ x ∈ A ++ [r], vl x = true := by
   intro A r h1 h2 x hx
   rcases List.mem_append.1 hx with h | h
   ·exact h1 x h
   ·rw [List.mem_singleton.1 h]; exact h2
  rw [G3] at h
  cases e : numsOf w with
  | some ns => rw [e] at h; exact a1h hc hv ws _ _ (snoc hs (hv w ns e)) h
  | none =>
   rw [e] at h
   simp only at h
   split at h
   ·cases h
   ·split at h
    ·exact a1h hc hv ws _ _ (snoc hs (d1p hc _)) h
    ·obtain ⟨r, h1, h2⟩ := Option.bind_eq_some_iff.1 h
     exact a1h hc hv ws _ _ (snoc (fun x hx => hs x (List.mem_of_mem_take hx)) (d2o h1)) h2
theorem d3l {cols : List (List Int)} {ws : List W8} {r : List Int} (h : rcF cols ws = some r) : ws.length ≤ 16 ∧ vcs cols = true ∧ G3 cols ws [] = some [r] := by
 unfold rcF at h
 split at h
 ·rename_i hc
  obtain ⟨st, h1, h2⟩ := Option.bind_eq_some_iff.1 h
  split at h2
  ·rename_i hl
   obtain ⟨a, rfl⟩ := List.length_eq_one_iff.1 hl
   cases h2
   exact ⟨hc.1, hc.2, h1⟩
  ·cases h2
 ·cases h
theorem b7o {A : Asr} {C : Caller} {md id g m s off n : Nat} {es ys : List AV} (hmd : md = 0) (ho : look A (.h id) = some (.obj g m s es)) (hb : bxB m none = false) (hn : off + n ≤ es.length) (hr : F5 ((es.drop off).take n) = true) (hf : frzL ((es.drop off).take n) = ys) :
  J1 C A md (.sl id g none off n) (.list ys) [(id, false)] [] [.h id] := by
 subst hmd
 unfold J1 a2f
 simp only [if_true]
 refine A4 (G6 ?_)
 simp only [passLeaf, slc, rdNode, C7, K3 ho, D8, D3, hb, List.append_nil, List.nil_append, hn, hr, and_self, true_and, hf]
 exact B6 ⟨rfl, rfl, by simp⟩
theorem a5m {A : Asr} {C : Caller} {ss : List (List Int)} {md id g m s off n : Nat} (hmd : md = 0) (ho : look A (.h id) = some (.obj g m s (ss.map oI))) (hb : bxB m none = false) (hn : off + n ≤ ss.length) :
  J1 C A md (.sl id g none off n) (.list (((ss.drop off).take n).map fun xs => .list (xs.map iV))) [(id, false)] [] [.h id] := by
 have e : ((ss.map oI).drop off).take n = ((ss.drop off).take n).map oI := by rw [List.map_take, List.map_drop]
 exact b7o hmd ho hb (by rw [List.length_map]; exact hn) (by rw [e]; exact A7 a2z) (by rw [e, b7t])
theorem d0k (cols : List (List Int)) {w : W8} {ns : List Int} (st : List (List Int)) (h : numsOf w = some ns) : G3 cols [w] st = some (st ++ [ns]) := c0y cols [] st h
theorem c9o (cols : List (List Int)) {w : W8} (st : List (List Int)) (h : numsOf w = none) (h0 : rch (bA w) = 0) : G3 cols [w] st = some (st ++ [cols.getD (b9j (bA w)) default]) := c0p cols [] st h h0
theorem a8c (cols : List (List Int)) {w : W8} {n : Nat} (st : List (List Int)) (h : numsOf w = none) (h0 : rch (bA w) = n) (h1 : 1 ≤ n) (hl : n ≤ st.length) :
  G3 cols [w] st = (mkR (bA w) (st.getD (st.length - n) default) (if n = 2 then st.getD (st.length - 1) default else [])).map fun r => st.take (st.length - n) ++ [r] := by
 rw [G3, h]
 simp only
 rw [if_neg (by omega), if_neg (by omega), h0, Int.toNat_natCast]
 have e : ((n : Int) = 2) = (n = 2) := propext ⟨fun h => by omega, fun h => by omega⟩
 simp only [e]
 cases mkR (bA w) (st.getD (st.length - n) default) (if n = 2 then st.getD (st.length - 1) default else []) with
 | none => rfl
 | some r => rfl
theorem a0o (cols : List (List Int)) {w : W8} (st : List (List Int)) (h : numsOf w = none) (h0 : rch (bA w) < 0 ∨ (st.length : Int) < rch (bA w)) : G3 cols [w] st = none := by
 rw [G3, h]
 simp only
 rw [if_pos h0]
theorem a0h {cols : List (List Int)} {ws : List W8} {i : Nat} {st st' : List (List Int)} (hi : i < ws.length) (h : G3 cols (ws.take i) [] = some st) (e : G3 cols [ws.getD i default] st = some st') : G3 cols (ws.take (i + 1)) [] = some st' := by
 rw [a7e hi, R9, h, Option.bind_some, e]
theorem N8 {cols : List (List Int)} {ws : List W8} {i : Nat} {st : List (List Int)} (hi : i < ws.length) (h : G3 cols (ws.take i) [] = some st) (e : G3 cols [ws.getD i default] st = none) : G3 cols ws [] = none := by
 have e1 : ws = ws.take (i + 1) ++ ws.drop (i + 1) := (List.take_append_drop _ _).symm
 rw [e1, R9, a7e hi, R9, h, Option.bind_some, e]
 rfl
theorem b1h {cols : List (List Int)} : ∀ (ws : List W8) {st st' : List (List Int)}, G3 cols ws st = some st' → st'.length ≤ st.length + ws.length
 | [], st, st', h => by cases h; simp
 | w :: ws, st, st', h => by
  rw [G3] at h
  cases e : numsOf w with
  | some ns => rw [e] at h; have := b1h ws h; simp only [List.length_append, List.length_cons, List.length_nil] at this ⊢; omega
  | none =>
   rw [e] at h
   simp only at h
   split at h
   ·cases h
   ·split at h
    ·have := b1h ws h; simp only [List.length_append, List.length_cons, List.length_nil] at this ⊢; omega
    ·obtain ⟨r, h1, h2⟩ := Option.bind_eq_some_iff.1 h
     have := b1h ws h2
     simp only [List.length_append, List.length_cons, List.length_nil, List.length_take] at this ⊢; omega
theorem c7p {cols : List (List Int)} {ws : List W8} {i : Nat} {st : List (List Int)} (hc : vcs cols = true) (h : G3 cols (ws.take i) [] = some st) : ∀ x ∈ st, vl x = true :=
 a1h hc (fun _ _ h => d1w (b5d h)) _ _ _ (fun _ h => by cases h) h
theorem c4p {cols : List (List Int)} {ws : List W8} (h : 16 < ws.length ∨ vcs cols = false) : rcF cols ws = none := by
 rw [rcF, if_neg]
 rintro ⟨h1, h2⟩
 rcases h with h | h
 ·omega
 ·rw [h] at h2; cases h2
theorem N9 {cols : List (List Int)} {ws : List W8} (h : G3 cols ws [] = none) : rcF cols ws = none := by
 rw [rcF]
 split
 ·rw [h]; rfl
 ·rfl
theorem c3t {cols : List (List Int)} {ws : List W8} {st : List (List Int)} (h : G3 cols ws [] = some st) (hl : st.length ≠ 1) : rcF cols ws = none := by
 rw [rcF]
 split
 ·rw [h, Option.bind_some, if_neg hl]
 ·rfl
theorem c7t {cols : List (List Int)} {ws : List W8} {st : List (List Int)} (hw : ws.length ≤ 16) (hc : vcs cols = true) (h : G3 cols ws [] = some st) (hl : st.length = 1) : rcF cols ws = some (st.getD 0 default) := by
 rw [rcF, if_pos ⟨hw, hc⟩, h, Option.bind_some, if_pos hl]
theorem d2l (cols : List (List Int)) (ws : List W8) : ((rcF cols ws).getD []).length ≤ 40 := by
 cases h : rcF cols ws with
 | none => exact Nat.zero_le _
 | some r =>
  obtain ⟨h1, h2, h3⟩ := d3l h
  have := c7p (i := ws.length) h2 (by rw [List.take_length]; exact h3) r (by simp)
  exact (S8.1 this).1
theorem a3i {α : Type} (st : List α) {n : Nat} (h : n ≤ st.length) : ((st.drop (0 + (st.length - n))).take (st.length - (st.length - n))).length = n := by
 rw [List.length_take, List.length_drop]; omega
theorem b1q {α : Type} [Inhabited α] (st : List α) {n j : Nat} (h : n ≤ st.length) (hj : j < n) : ((st.drop (0 + (st.length - n))).take (st.length - (st.length - n))).getD j default = st.getD (st.length - n + j) default := by
 rw [List.getD_eq_getElem?_getD, List.getD_eq_getElem?_getD, List.getElem?_take, if_pos (by omega), List.getElem?_drop, Nat.zero_add]
def szW (ws : List W8) : Nat := (ws.map List.length).sum
theorem b7w (ws : List W8) {i : Nat} (h : i < ws.length) : szW (ws.take (i + 1)) = szW (ws.take i) + (ws.getD i default).length := by
 rw [a7e h, szW, szW, List.map_append, List.sum_append]
 simp
theorem d2t (ws : List W8) {i : Nat} (h : i < ws.length) : (ws.getD i default).length ≤ szW ws := by
 have h1 := b7w ws h
 have h2 : szW (ws.take (i + 1)) ≤ szW ws := by
  have e : ws = ws.take (i + 1) ++ ws.drop (i + 1) := (List.take_append_drop _ _).symm
  have : szW ws = szW (ws.take (i + 1)) + szW (ws.drop (i + 1)) := by
   rw [szW, szW, szW, ← List.sum_append, ← List.map_append, List.take_append_drop]
  omega
 omega
theorem a4l {ws : List W8} {n : Nat} (h : szW ws ≤ n) : ∀ w ∈ ws, w.length ≤ n := by
 intro w hw
 obtain ⟨i, hi, rfl⟩ := List.getElem_of_mem hw
 have := d2t ws hi
 rw [List.getD_eq_getElem?_getD, List.getElem?_eq_getElem hi] at this
 exact Nat.le_trans this h
theorem d1q (xs : List ByteArray) : xs.map sV = (xs.map fun s => s.data.toList).map tV := by
 rw [List.map_map]
 exact List.map_congr_left fun s _ => (congrArg sV (b7k s)).symm
end Go.Mv
end
