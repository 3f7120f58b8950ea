/- The abstract machine, part 4 of 4: it runs the model's code on abstract values and is proved sound over any program. Conditions: none. -/
import Derived.Lib.AtoiAll
import Derived.Test.YtfiobkibbebeiaaMc

set_option linter.unusedVariables false
set_option linter.unusedSimpArgs false
section
namespace Go.Mv
open Go
section
variable {cx : Cx} {keep : List Nat} {A : Asr} {Q : AExit → Asr → Prop}
theorem G2 {β : Type} {body : Code} (K : Asr) (I : β → Asr) (P : β → Prop) (m : β → Nat) (b0 : β) (hA : HasL A (K ++ I b0)) (h0 : P b0)
  (hs : ∀ b, P b → XA cx keep body (K ++ I b) fun r A' => match r with
   | .normal => ∃ b', P b' ∧ m b' < m b ∧ HasL A' (K ++ I b')
   | r => Q r A') : XA cx keep (.loop body) A Q := a4j (fun b => K ++ I b) P m b0 hA h0 hs
end
theorem a2w {id g i : Nat} {p : Option (Nat × Nat)} : ∀ (ls : List AV) (j : Nat), (ls.all fun l => !isOwn l) = true → viewLeaves id g p i j ls = ls := by
 intro ls
 induction ls with
 | nil => intro j _; rfl
 | cons l ls ih =>
  intro j h
  simp only [List.all_cons, Bool.and_eq_true] at h
  simp only [viewLeaves, ih _ h.2]
  have : a1n id g p i j l = l := by
   unfold a1n
   split
   ·simp [isOwn] at h
   ·rfl
  rw [this]
theorem c4b {ls : List AV} (h : (ls.all fun l => !isOwn l) = true) (j : Nat) : ((ls.drop j).all fun l => !isOwn l) = true := by
 rw [List.all_eq_true] at h ⊢
 exact fun l hl => h l (List.mem_of_mem_drop hl)
section
variable {cx : Cx} {b : Bool} {cids : List Cid} {outs : List (List AV)}
def b6n (cx : Cx) (b : Bool) (cids : List Cid) (outs : List (List AV)) (rs : List ResultVar) (A : Asr) (vs : List AV) : Prop :=
 wpW (CW cx) A (retAll cx.P b rs) fun us ws _ => us = vs ∧ Z3 (puts A ws) cids outs
theorem F6 {A : Asr} (ho : Z3 A cids outs) : b6n cx b cids outs [] A [] := A7 ⟨rfl, ho⟩
theorem a5e {A : Asr} {t : Nat} {v : AV} {rs : List ResultVar} {vs : List AV} (hv : look A (.t t) = some v) (hi : b7r v = true) (h : b6n cx b cids outs rs A vs) : b6n cx b cids outs (.tmp t :: rs) A (v :: vs) := by
 refine a2m (V5 hv (a9m hi ?_))
 refine F9 h ?_
 rintro us ws ls ⟨rfl, h2⟩
 exact ⟨rfl, h2⟩
theorem b5z (A : Asr) : ∀ (a b : Ws), puts A (a ++ b) = puts (puts A a) b := by
 intro a
 induction a generalizing A with
 | nil => intro b; rfl
 | cons x a ih => intro b; obtain ⟨l, v⟩ := x; exact ih _ b
theorem X6 {A : Asr} {t id g s n : Nat} {es : List AV} {rs : List ResultVar} {vs : List AV} (hv : look A (.t t) = some (.sl id g none 0 n)) (hob : look A (.h id) = some (.obj g 0 s es)) (hn : n = es.length) (hi : D6 es = true)
  (h : b6n cx b cids outs rs (put A (.h id) (.dead g)) vs) : b6n cx b cids outs (.tmp t :: rs) A (.own s es :: vs) := by
 refine a2m (V5 hv (a6m hob hn hi ?_))
 refine F9 h ?_
 rintro us ws ls ⟨rfl, h2⟩
 refine ⟨rfl, ?_⟩
 rw [b5z]
 exact h2
theorem E8 {A : Asr} {a T id g s : Nat} {e : AV} {rs : List ResultVar} {vs : List AV} (hv : look A (.t a) = some (.ptr id g none 0 0)) (ho : look A (.h id) = some (.obj g 3 s [e])) (hn : ((leaves e).all fun l => !isOwn l) = true)
  (hp : partF cx.P T (leaves e) = some e) (hi : b7r e = true) (h : b6n cx b cids outs rs A vs) : b6n cx b cids outs (.cell a T :: rs) A (e :: vs) := by
 refine a2m ?_
 unfold retVar
 refine A4 (G9 ?_)
 rw [b2s hv]
 refine A4 (G9 ?_)
 simp only [loadG, loadA, rdNode, B3]
 rw [O2 (by exact ho)]
 simp only [B3, C5, C4, true_and, List.getElem?_cons_zero, List.drop_zero]
 rw [a2w _ _ hn, a0l hp]
 refine a9m hi ?_
 refine F9 h ?_
 rintro us ws ls ⟨rfl, h2⟩
 exact ⟨rfl, h2⟩
theorem E5 {A : Asr} {rs : List ResultVar} {us : List AV} {res : AV} (h : b6n cx b cids outs rs A us) (he : L9 us = res) : RetA cx b rs cids A res outs := by
 refine b2r (F9 h ?_)
 rintro us' ws _ ⟨rfl, h2⟩
 exact ⟨he, h2⟩
def c0q (C : Caller) (A : Asr) (d k : Nat) (vs : List AV) {G : Type} (us : G → List AV) (ws : G → Ws) (ls : List Mv.Loc) : Prop := wpW C A (instAll d k vs) fun a w l => ∃ g, a = us g ∧ w = ws g ∧ l = ls
variable {C : Caller} {A : Asr} {d k : Nat}
theorem c5o : c0q C A d k [] (fun _ : Unit => []) (fun _ => []) [] := A7 ⟨(), rfl, rfl, rfl⟩
theorem b2i {G : Type} {s : Nat} {es : List AV} {vs : List AV} {us : G → List AV} {ws : G → Ws} {ls : List Mv.Loc} (t : ∀ g0, c0q C (put A (.h (tid d k)) (.obj g0 0 s es)) d (k + 16) vs us ws ls) :
  c0q C A d k (.own s es :: vs) (fun g : Nat × G => .sl (tid d k) g.1 none 0 es.length :: us g.2) (fun g => (.h (tid d k), .obj g.1 0 s es) :: ws g.2) (.h (tid d k) :: ls) := by
 refine A4 (a4w fun g0 => A4 (F9 (t g0) ?_))
 rintro _ _ _ ⟨g, rfl, rfl, rfl⟩
 exact A7 ⟨(g0, g), rfl, by simp, by simp⟩
theorem b1u {G : Type} {vs : List AV} {us : G → List AV} {ws : G → Ws} {ls : List Mv.Loc} (h : c0q C A d 16 vs us ws ls) : a1d C A d (.tup vs) (fun g => .tup (us g)) ws ls := by
 refine A4 (F9 h ?_)
 rintro _ _ _ ⟨g, rfl, rfl, rfl⟩
 exact A7 ⟨g, rfl, by simp, by simp⟩
end
section
variable {cx : Cx} {keep : List Nat} {ops0 : Array Oper} {r : List Oper} {A : Asr} {Q : Asr → List Log → Prop} {d : Nat} {ty : Nat} {pos : String} {aft : Array Edge}
theorem a1g {a : Operand} {T id g m s i j : Nat} {es : List AV} {e v : AV} (ha : opd A a = some (.ptr id g none i j)) (ho : look A (.h id) = some (.obj g m s es)) (he : es[i]? = some e) (hn : ((leaves e).all fun l => !isOwn l) = true)
  (hp : partF cx.P T ((leaves e).drop j) = some v) (hk : slotOk keep (.t d) v = true)
  (h : XR cx keep ops0 r ((.t d, v) :: A) fun A' lg => Q A' ((rds a ++ [.h id], [.t d]) :: lg)) : XR cx keep ops0 (⟨some d, .load T a, ty, pos, aft, none⟩ :: r) A Q :=
 b8t ha ho he (by rw [a2w _ _ (c4b hn j)]; exact hp) hk h
theorem b6t {α : Type} [Inhabited α] {f : α → AV} {xs : List α} {a : Operand} {T id g m s i j : Nat} {v : AV} (ha : opd A a = some (.ptr id g none i j)) (ho : look A (.h id) = some (.obj g m s (xs.map f))) (hi : i < xs.length)
  (hn : ∀ a, ((leaves (f a)).all fun l => !isOwn l) = true) (hp : partF cx.P T ((leaves (f (xs.getD i default))).drop j) = some v) (hk : slotOk keep (.t d) v = true)
  (h : XR cx keep ops0 r ((.t d, v) :: A) fun A' lg => Q A' ((rds a ++ [.h id], [.t d]) :: lg)) : XR cx keep ops0 (⟨some d, .load T a, ty, pos, aft, none⟩ :: r) A Q :=
 a1g (e := f (xs.getD i default)) ha ho (by rw [List.getElem?_map, List.getElem?_eq_getElem hi, List.getD_eq_getElem?_getD, List.getElem?_eq_getElem hi]; rfl) (hn _) hp hk h
theorem a1o {α : Type} [Inhabited α] {f : α → AV} {xs : List α} {a : Operand} {T id g m s i : Nat} (ha : opd A a = some (.ptr id g none i 0)) (ho : look A (.h id) = some (.obj g m s (xs.map f))) (hi : i < xs.length)
  (hn : ∀ a, ((leaves (f a)).all fun l => !isOwn l) = true) (hp : ∀ a, partF cx.P T (leaves (f a)) = some (f a)) (hk : slotOk keep (.t d) (f (xs.getD i default)) = true)
  (h : XR cx keep ops0 r ((.t d, f (xs.getD i default)) :: A) fun A' lg => Q A' ((rds a ++ [.h id], [.t d]) :: lg)) : XR cx keep ops0 (⟨some d, .load T a, ty, pos, aft, none⟩ :: r) A Q :=
 b6t ha ho hi hn (hp _) hk h
theorem b6j {a : Operand} {T id g m s : Nat} {e : AV} (ha : opd A a = some (.ptr id g none 0 0)) (ho : look A (.h id) = some (.obj g m s [e])) (hn : ((leaves e).all fun l => !isOwn l) = true)
  (hp : partF cx.P T (leaves e) = some e) (hk : slotOk keep (.t d) e = true)
  (h : XR cx keep ops0 r ((.t d, e) :: A) fun A' lg => Q A' ((rds a ++ [.h id], [.t d]) :: lg)) : XR cx keep ops0 (⟨some d, .load T a, ty, pos, aft, none⟩ :: r) A Q :=
 a1g ha ho rfl hn hp hk h
theorem b6b {a : Operand} {T : Nat} {e : AV} (ha : opd A a = some (.ipt e 0)) (hp : partF cx.P T (leaves e) = some e) (hk : slotOk keep (.t d) e = true)
  (h : XR cx keep ops0 r ((.t d, e) :: A) fun A' lg => Q A' ((rds a, [.t d]) :: lg)) : XR cx keep ops0 (⟨some d, .load T a, ty, pos, aft, none⟩ :: r) A Q :=
 b8z ha hp hk h
theorem b4a {α : Type} [Inhabited α] {f : α → AV} {xs : List α} {y : α} {T id g m s i : Nat} {a x : Operand} (ha : opd A a = some (.ptr id g none i 0)) (ho : look A (.h id) = some (.obj g m s (xs.map f))) (hx : opd A x = some (f y)) (hi : i < xs.length)
  (hl : ∀ a b, a8g (leaves (f b)) (f a) = true ∧ (leaves (f a)).length = (tyS cx.P T).size ∧ 0 < (leaves (f a)).length ∧ (leaves (f a)).length ≤ (leaves (f b)).length ∧ S7 (leaves (f a)) (leaves (f b)) = true ∧ putAt (f b) 0 (f a) = f a) (hm : m ≠ 2)
  (hko : slotOk keep (.h id) (.obj g m s ((xs.set i y).map f)) = true)
  (h : XR cx keep ops0 r ((.h id, .obj g m s ((xs.set i y).map f)) :: A) fun A' lg => Q A' ((rds a ++ (rds x ++ [.h id, .h id, .h id]), [.h id]) :: lg)) :
  XR cx keep ops0 (⟨none, .store T a x, ty, pos, aft, none⟩ :: r) A Q := b4x ha hx ho hi hl hm hko h
theorem b4h {T id g m s : Nat} {a x : Operand} {e v : AV} (ha : opd A a = some (.ptr id g none 0 0)) (hx : opd A x = some v) (ho : look A (.h id) = some (.obj g m s [e]))
  (hl : a8g (leaves e) v = true) (hc : m ≠ 2 ∧ (leaves v).length = (tyS cx.P T).size ∧ 0 < (leaves v).length ∧ (leaves v).length ≤ (leaves e).length ∧ S7 (leaves v) (leaves e) = true) (hp : putAt e 0 v = v)
  (hko : slotOk keep (.h id) (.obj g m s [v]) = true)
  (h : XR cx keep ops0 r ((.h id, .obj g m s [v]) :: A) fun A' lg => Q A' ((rds a ++ (rds x ++ [.h id, .h id, .h id]), [.h id]) :: lg)) :
  XR cx keep ops0 (⟨none, .store T a x, ty, pos, aft, none⟩ :: r) A Q :=
 b2y (i := 0) (j := 0) ha hx ho rfl hl ⟨hc.1, hc.2.1, hc.2.2.1, by have := hc.2.2.2.1; omega, hc.2.2.2.2⟩ (by rw [hp]; exact hko) (by rw [hp]; exact h)
theorem b4o {C : Caller} {A : Asr} {x : Operand} {k : IntKind} {n : Nat} {dflt : Nat} (h : opd A x = some (.val (.int k (n : Int)))) : wpA C A (optNat (some x) dflt) fun m ls => m = n ∧ ls = rds x := by
 have := b6x (C := C) (dflt := dflt) h (Int.natCast_nonneg n)
 simpa using this
theorem c8c {x : Operand} {T E id g n : Nat} {hi mx : Operand} {k k' : IntKind} (hx : opd A x = some (.sl id g none 0 n)) (hT : (tyS cx.P T).k = .slice E) (hb : K6 (tyS cx.P E).k = false)
  (hh : opd A hi = some (.val (.int k n))) (hm : opd A mx = some (.val (.int k' n))) (hk : slotOk keep (.t d) (.sl id g none 0 n) = true)
  (h0 : n = 0 → XR cx keep ops0 r ((.t d, .nil) :: A) fun A' lg => Q A' ((rds x ++ (rds mx ++ rds hi), [.t d]) :: lg))
  (h : n ≠ 0 → XR cx keep ops0 r ((.t d, .sl id g none 0 n) :: A) fun A' lg => Q A' ((rds x ++ (rds mx ++ rds hi), [.t d]) :: lg)) : XR cx keep ops0 (⟨some d, .slice T x none (some hi) (some mx), ty, pos, aft, none⟩ :: r) A Q := by
 have e : (n : Int).toNat = n := by simp
 by_cases hn : n = 0
 ·refine H0 (v := .nil) (fun o ho => by simp only [aopV, ho]) ?_ (by simp [slotOk, refOkV, refsOk]) (h0 hn)
  simp only [opV, B3, B2 hx, sliceA, hT, optNat, B2 hh, B2 hm, Y2 (Int.natCast_nonneg n), e, C4, C5, hb]
  simp [hn, wpA]
 ·refine H0 (v := .sl id g none 0 n) (fun o ho => by simp only [aopV, ho]) ?_ hk (h hn)
  simp only [opV, B3, B2 hx, sliceA, hT, optNat, B2 hh, B2 hm, Y2 (Int.natCast_nonneg n), e, C4, C5, hb]
  simp [hn, wpA]
end
theorem b0v {α : Type} {f : α → AV} {xs : List α} (h : ∀ a, hasList (f a) = false) : C3 (xs.map f) = false := by
 induction xs with
 | nil => rfl
 | cons x xs ih => simp [C3, h, ih]
abbrev Jn := Nat × Nat × Int
end Go.Mv
end

section
namespace Go.Mv
open Classical
def ZD (n : Nat) (m : List (List Int)) : Prop := Sq n m ∧ (∀ i, i < n → G m i i = 0) ∧ ∀ i k, i < n → k < n → 0 ≤ G m i k
def nw (m : List (List Int)) (v a b : Nat) : Int := min (G m a b) (max (G m a v) (G m v b))
theorem c5b {n : Nat} {m : List (List Int)} (h : ZD n m) {v b : Nat} (hv : v < n) (hb : b < n) : nw m v v b = G m v b := by
 have h1 := h.2.1 v hv
 have h2 := h.2.2 v b hv hb
 unfold nw; omega
theorem c4f {n : Nat} {m : List (List Int)} (h : ZD n m) {v a : Nat} (hv : v < n) (ha : a < n) : nw m v a v = G m a v := by
 have h1 := h.2.1 v hv
 have h2 := h.2.2 a v ha hv
 unfold nw; omega
theorem c6d {n : Nat} {m X : List (List Int)} (hz : ZD n m) {v i : Nat} (hv : v < n) (hi : i < n) (hX : Sq n X)
  (h : ∀ a b, a < n → b < n → G X a b = if a < i then nw m v a b else G m a b) :
  ∀ k, k ≤ n → ∀ a b, a < n → b < n → G (fwIn X v i k) a b = if a < i ∨ (a = i ∧ b < k) then nw m v a b else G m a b
 | 0, _, a, b, ha, hb => by
  rw [show fwIn X v i 0 = X from rfl, h a b ha hb]
  by_cases h1 : a < i
  ·rw [if_pos h1, if_pos (.inl h1)]
  ·rw [if_neg h1, if_neg (by omega)]
 | k + 1, hk, a, b, ha, hb => by
  have ih := c6d hz hv hi hX h k (by omega)
  have hs := a7s hX (v := v) hi k
  rw [show fwIn X v i (k + 1) = b2d (fwIn X v i k) v i k from rfl, c0m hs hi (by omega)]
  by_cases h1 : a = i ∧ b = k
  ·obtain ⟨rfl, rfl⟩ := h1
   rw [if_pos ⟨rfl, rfl⟩, if_pos (by omega), ih a b ha hb, ih a v ha hv, ih v b hv hb, if_neg (by omega)]
   have e1 : (if a < a ∨ (a = a ∧ v < b) then nw m v a v else G m a v) = G m a v := by
    split
    ·exact c4f hz hv ha
    ·rfl
   have e2 : (if v < a ∨ (v = a ∧ b < b) then nw m v v b else G m v b) = G m v b := by
    split
    ·exact c5b hz hv hb
    ·rfl
   rw [e1, e2]
   rfl
  ·rw [if_neg h1, ih a b ha hb]
   by_cases h2 : a < i ∨ (a = i ∧ b < k)
   ·rw [if_pos h2, if_pos (by omega)]
   ·rw [if_neg h2, if_neg (by omega)]
theorem c0r {n : Nat} {m : List (List Int)} (hz : ZD n m) {v : Nat} (hv : v < n) :
  ∀ i, i ≤ n → ∀ a b, a < n → b < n → G (fwMid n m v i) a b = if a < i then nw m v a b else G m a b
 | 0, _, a, b, _, _ => by rw [if_neg (by omega)]; rfl
 | i + 1, hi, a, b, ha, hb => by
  rw [show fwMid n m v (i + 1) = fwIn (fwMid n m v i) v i n from rfl, c6d hz hv (by omega) (a4b hz.1 i (by omega)) (c0r hz hv i (by omega)) n (Nat.le_refl _) a b ha hb]
  by_cases h2 : a < i + 1
  ·rw [if_pos h2, if_pos (by omega)]
  ·rw [if_neg h2, if_neg (by omega)]
theorem M0 {n : Nat} {m : List (List Int)} {v : Nat} (hz : ZD n (fwOut n m v)) (hv : v < n) {a b : Nat} (ha : a < n) (hb : b < n) : G (fwOut n m (v + 1)) a b = nw (fwOut n m v) v a b := by
 rw [show fwOut n m (v + 1) = fwMid n (fwOut n m v) v n from rfl, c0r hz hv n (Nat.le_refl _) a b ha hb, if_pos ha]
theorem a1k {n : Nat} {m : List (List Int)} (hz : ZD n m) : ∀ v, v ≤ n → ZD n (fwOut n m v)
 | 0, _ => hz
 | v + 1, hv => by
  have ih := a1k hz v (by omega)
  refine ⟨a4k hz.1 _, fun i hi => ?_, fun i k hi hk => ?_⟩
  ·rw [M0 ih (by omega) hi hi]
   have h1 := ih.2.1 i hi
   have h2 := ih.2.2 i v hi (by omega)
   unfold nw; omega
  ·rw [M0 ih (by omega) hi hk]
   have h1 := ih.2.2 i k hi hk
   have h2 := ih.2.2 i v hi (by omega)
   unfold nw; omega
theorem b1v {n : Nat} {m : List (List Int)} (hz : ZD n m) : ∀ v, v ≤ n → ∀ i k u, i < n → k < n → u < v → G (fwOut n m v) i k ≤ max (G (fwOut n m v) i u) (G (fwOut n m v) u k)
 | 0, _, _, _, _, _, _, hu => by omega
 | v + 1, hv, i, k, u, hi, hk, hu => by
  have ih := b1v hz v (by omega)
  have zd := a1k hz v (by omega)
  have hvn : v < n := by omega
  rw [M0 zd hvn hi hk, M0 zd hvn hi (by omega), M0 zd hvn (by omega) hk]
  rcases Nat.lt_succ_iff_lt_or_eq.1 hu with h | h
  ·have e1 := ih i k u hi hk h
   have e2 := ih v k u hvn hk h
   have e3 := ih i v u hi hvn h
   have e4 := ih v v u hvn hvn h
   unfold nw; omega
  ·subst h
   rw [c4f zd hvn hi, c5b zd hvn hk]
   unfold nw; omega
theorem VG.zd {gs : List (List Int)} (h : VG gs) : ZD gs.length gs := ⟨h.sq, fun i hi => (h.1 i hi).2.1, fun i k hi hk => (h.pos hi hk).1⟩
theorem c8f {n : Nat} {m : List (List Int)} (h : Sq n m) : (fw m).length = n := (c8z h).1
theorem c5h {gs : List (List Int)} (h : ZD gs.length gs) {i k u : Nat} (hi : i < gs.length) (hk : k < gs.length) (hu : u < gs.length) : G (fw gs) i k ≤ max (G (fw gs) i u) (G (fw gs) u k) :=
 b1v h gs.length (Nat.le_refl _) i k u hi hk hu
theorem c7t {gs : List (List Int)} (h : ZD gs.length gs) : ZD gs.length (fw gs) := a1k h _ (Nat.le_refl _)
theorem b2e {n : Nat} {m : List (List Int)} (hz : ZD n m) (hs : ∀ i k, i < n → k < n → G m i k = G m k i) : ∀ v, v ≤ n → ∀ i k, i < n → k < n → G (fwOut n m v) i k = G (fwOut n m v) k i
 | 0, _, i, k, hi, hk => hs i k hi hk
 | v + 1, hv, i, k, hi, hk => by
  have ih := b2e hz hs v (by omega)
  have zd := a1k hz v (by omega)
  rw [M0 zd (by omega) hi hk, M0 zd (by omega) hk hi]
  unfold nw
  rw [ih i k hi hk, ih i v hi (by omega), ih v k (by omega) hk]
  omega
theorem b1p {n : Nat} {m : List (List Int)} (hz : ZD n m) {U : Nat → Nat → Int} (hU : ∀ i k u, i < n → k < n → u < n → U i k ≤ max (U i u) (U u k)) (hm : ∀ i k, i < n → k < n → U i k ≤ G m i k) :
  ∀ v, v ≤ n → ∀ i k, i < n → k < n → U i k ≤ G (fwOut n m v) i k
 | 0, _, i, k, hi, hk => hm i k hi hk
 | v + 1, hv, i, k, hi, hk => by
  have ih := b1p hz hU hm v (by omega)
  have zd := a1k hz v (by omega)
  rw [M0 zd (by omega) hi hk]
  have h1 := ih i k hi hk
  have h2 := ih i v hi (by omega)
  have h3 := ih v k (by omega) hk
  have h4 := hU i k v hi hk (by omega)
  unfold nw; omega
theorem c8r {gs : List (List Int)} (hz : ZD gs.length gs) {U : Nat → Nat → Int} (hU : ∀ i k u, i < gs.length → k < gs.length → u < gs.length → U i k ≤ max (U i u) (U u k)) (hm : ∀ i k, i < gs.length → k < gs.length → U i k ≤ G gs i k)
  {i k : Nat} (hi : i < gs.length) (hk : k < gs.length) : U i k ≤ G (fw gs) i k := b1p hz hU hm gs.length (Nat.le_refl _) i k hi hk
def Lab (g : List Int) (i k : Nat) : Prop := g.getD i default = g.getD k default
def mergeL (g : List Int) (a b : Nat) : List Int := g.map fun x => if x = g.getD b default then g.getD a default else x
def a4s (n : Nat) (g g2 : List Int) : Prop := ∀ i k, i < n → k < n → (Lab g i k ↔ Lab g2 i k)
def b8f (gs : List (List Int)) (n : Nat) (g : List Int) (j : Jn) : Prop :=
 j.1 < n ∧ j.2.1 < n ∧ ¬ Lab g j.1 j.2.1 ∧ j.2.2 = G gs j.1 j.2.1 ∧ ∀ i k, i < n → k < n → ¬ Lab g i k → j.2.2 ≤ G gs i k
theorem T7 {g : List Int} {f : Int → Int} {i : Nat} (hi : i < g.length) : (g.map f).getD i default = f (g.getD i default) := by
 rw [List.getD_eq_getElem?_getD, List.getD_eq_getElem?_getD, List.getElem?_map, List.getElem?_eq_getElem hi]
 rfl
theorem R8 {g : List Int} {n a b i k : Nat} (hg : g.length = n) (hi : i < n) (hk : k < n) : Lab (mergeL g a b) i k ↔ Lab g i k ∨ (Lab g i a ∧ Lab g b k) ∨ (Lab g i b ∧ Lab g a k) := by
 unfold Lab mergeL
 rw [T7 (by omega), T7 (by omega)]
 split <;> split <;> omega
@[simp] theorem b0h (g : List Int) (a b : Nat) : (mergeL g a b).length = g.length := by simp [mergeL]
theorem a4s.merge {n : Nat} {g g2 : List Int} (h : a4s n g g2) (hg : g.length = n) (hg2 : g2.length = n) {a b : Nat} (ha : a < n) (hb : b < n) : a4s n (mergeL g a b) (mergeL g2 a b) := by
 intro i k hi hk
 rw [R8 hg hi hk, R8 hg2 hi hk, h i k hi hk, h i a hi ha, h b k hb hk, h i b hi hb, h a k ha hk]
theorem a4s.trans {n : Nat} {g g2 g3 : List Int} (h : a4s n g g2) (h2 : a4s n g2 g3) : a4s n g g3 := fun i k hi hk => (h i k hi hk).trans (h2 i k hi hk)
theorem b8f.same {gs : List (List Int)} {n : Nat} {g g2 : List Int} {j : Jn} (h : b8f gs n g2 j) (hs : a4s n g g2) : b8f gs n g j := by
 obtain ⟨h1, h2, h3, h4, h5⟩ := h
 exact ⟨h1, h2, fun h => h3 ((hs _ _ h1 h2).1 h), h4, fun i k hi hk hne => h5 i k hi hk fun h => hne ((hs i k hi hk).2 h)⟩
def KI (gs : List (List Int)) (g : List Int) (out : List (List Int)) : Prop :=
 Sq gs.length out ∧ g.length = gs.length ∧ ∀ i k, i < gs.length → k < gs.length → Lab g i k → G out i k = G (fw gs) i k ∧ ∀ i' k', i' < gs.length → k' < gs.length → ¬ Lab g i' k' → G (fw gs) i k ≤ G gs i' k'
theorem KI.step {gs : List (List Int)} (hv : VG gs) {g : List Int} {out out' : List (List Int)} {j : Jn} (h : KI gs g out) (hj : b8f gs gs.length g j) (hs : Sq gs.length out')
  (ho : ∀ i k, i < gs.length → k < gs.length → G out' i k = if (Lab g i j.1 ∧ Lab g k j.2.1) ∨ (Lab g k j.1 ∧ Lab g i j.2.1) then j.2.2 else G out i k) : KI gs (mergeL g j.1 j.2.1) out' := by
 obtain ⟨a, b, hh⟩ := j
 obtain ⟨ha, hb, hne, hgap, hmin⟩ := hj
 simp only at ha hb hne hgap hmin ho ⊢
 obtain ⟨h1, h2, h3⟩ := h
 have sy : ∀ {i k : Nat}, Lab g i k → Lab g k i := fun h => h.symm
 have tr : ∀ {i k l : Nat}, Lab g i k → Lab g k l → Lab g i l := fun h h' => Eq.trans h h'
 -- the step between two groups
 have key : ∀ i k, i < gs.length → k < gs.length → Lab g i a → Lab g k b → G (fw gs) i k = hh ∧ G (fw gs) k i = hh := by
  intro i k hi hk hia hkb
  have low : ∀ {x0 y0 : Nat}, x0 < gs.length → y0 < gs.length → (if Lab g x0 y0 then 0 else hh) ≤ G (fw gs) x0 y0 := fun {x0 y0} hx0 hy0 => c8r hv.zd (U := fun x y => if Lab g x y then 0 else hh) (fun x y u hx hy hu => by
   have hpos : 0 ≤ hh := by rw [hgap]; exact (hv.pos ha hb).1
   show (if Lab g x y then 0 else hh) ≤ max (if Lab g x u then 0 else hh) (if Lab g u y then 0 else hh)
   by_cases e1 : Lab g x u
   ·by_cases e2 : Lab g u y
    ·rw [if_pos (tr e1 e2), if_pos e1, if_pos e2]; omega
    ·rw [if_neg e2]; split <;> (try split) <;> omega
   ·rw [if_neg e1]; split <;> (try split) <;> omega) (fun x y hx hy => by
   show (if Lab g x y then 0 else hh) ≤ _
   by_cases e : Lab g x y
   ·rw [if_pos e]; exact (hv.pos hx hy).1
   ·rw [if_neg e]; exact hmin x y hx hy e) hx0 hy0
  have hik : ¬ Lab g i k := fun e => hne (tr (tr (sy hia) e) hkb)
  have l1 := low hi hk
  rw [if_neg hik] at l1
  have hsym : G (fw gs) i k = G (fw gs) k i := b2e hv.zd (fun i k hi hk => hv.sym hi hk) gs.length (Nat.le_refl _) i k hi hk
  have u1 := (h3 i a hi ha hia).2 a b ha hb hne
  have u2 := (h3 b k hb hk (sy hkb)).2 a b ha hb hne
  have u3 := c9p hv.sq a b
  have t1 := c5h hv.zd hi hk ha
  have t2 := c5h hv.zd ha hk hb
  omega
 refine ⟨hs, by rw [b0h]; exact h2, fun i k hi hk hl => ?_⟩
 have hl' := (R8 h2 hi hk).1 hl
 have cross : ∀ i' k', i' < gs.length → k' < gs.length → ¬ Lab (mergeL g a b) i' k' → ¬ Lab g i' k' := fun i' k' hi' hk' hn e => hn ((R8 h2 hi' hk').2 (.inl e))
 rcases hl' with e | ⟨e1, e2⟩ | ⟨e1, e2⟩
 ·have hno : ¬ ((Lab g i a ∧ Lab g k b) ∨ (Lab g k a ∧ Lab g i b)) := by
   rintro (⟨q1, q2⟩ | ⟨q1, q2⟩)
   ·exact hne (tr (tr (sy q1) e) q2)
   ·exact hne (tr (tr (sy q1) (sy e)) q2)
  rw [ho i k hi hk, if_neg hno]
  obtain ⟨p1, p2⟩ := h3 i k hi hk e
  exact ⟨p1, fun i' k' hi' hk' hn => p2 i' k' hi' hk' (cross i' k' hi' hk' hn)⟩
 ·rw [ho i k hi hk, if_pos (.inl ⟨e1, sy e2⟩)]
  have p := (key i k hi hk e1 (sy e2)).1
  exact ⟨p.symm, fun i' k' hi' hk' hn => by rw [p]; exact hmin i' k' hi' hk' (cross i' k' hi' hk' hn)⟩
 ·rw [ho i k hi hk, if_pos (.inr ⟨sy e2, e1⟩)]
  have p := (key k i hk hi (sy e2) e1).2
  exact ⟨p.symm, fun i' k' hi' hk' hn => by rw [p]; exact hmin i' k' hi' hk' (cross i' k' hi' hk' hn)⟩
theorem KI.start {gs : List (List Int)} (hv : VG gs) {g : List Int} (hg : g.length = gs.length) (hd : ∀ i, i < gs.length → g.getD i default = (i : Int)) {out : List (List Int)} (hs : Sq gs.length out) (ho : ∀ i k, i < gs.length → k < gs.length → G out i k = 0) : KI gs g out := by
 refine ⟨hs, hg, fun i k hi hk hl => ?_⟩
 unfold Lab at hl
 rw [hd i hi, hd k hk] at hl
 have e : i = k := by omega
 subst e
 rw [ho i i hi hi, (c7t hv.zd).2.1 i hi]
 refine ⟨rfl, fun i' k' hi' hk' _ => (hv.pos hi' hk').1⟩
theorem KI.fin {gs : List (List Int)} (hv : VG gs) {g : List Int} {out : List (List Int)} (h : KI gs g out) (ha : ∀ i k, i < gs.length → k < gs.length → Lab g i k) : out = fw gs := by
 have hl := c8f hv.sq
 refine J9 (d := default) (by rw [h.1.1, hl]) fun i hi => J9 (d := default) ?_ fun k hk => ?_
 ·rw [h.1.1] at hi
  rw [h.1.2 i hi, (c7t hv.zd).1.2 i hi]
 ·rw [h.1.1] at hi
  rw [h.1.2 i hi] at hk
  exact (h.2.2 i k hi hk (ha i k hi hk)).1
end Go.Mv
end

section
namespace Go.Mv
def idn (n : Nat) : List Int := (List.range n).map Int.ofNat
@[simp] theorem idn_length (n : Nat) : (idn n).length = n := by simp [idn]
theorem c3f {n i : Nat} (h : i < n) : (idn n).getD i default = (i : Int) := by
 unfold idn
 rw [List.getD_eq_getElem?_getD, List.getElem?_map, List.getElem?_range h]; rfl
def Al (n : Nat) (g : List Int) (k : Nat) : Prop := ∃ al : List Int, al.Nodup ∧ al.length = k ∧ (∀ i, i < n → g.getD i default ∈ al) ∧ (∀ v ∈ al, ∃ i, i < n ∧ g.getD i default = v)
theorem Al.start (n : Nat) : Al n (idn n) n := by
 refine ⟨idn n, ?_, by simp, fun i hi => ?_, fun v hv => ?_⟩
 ·unfold idn
  rw [List.nodup_iff_pairwise_ne, List.pairwise_map]
  exact (List.nodup_iff_pairwise_ne.1 List.nodup_range).imp fun h e => h (Int.ofNat.inj e)
 ·exact I8 (by simpa using hi)
 ·unfold idn at hv
  obtain ⟨i, hi, rfl⟩ := List.mem_map.1 hv
  exact ⟨i, by simpa using hi, c3f (by simpa using hi)⟩
theorem Al.merge {n k : Nat} {g : List Int} (h : Al n g k) (hg : g.length = n) {a b : Nat} (ha : a < n) (hb : b < n) (hne : ¬ Lab g a b) : Al n (mergeL g a b) (k - 1) ∧ 1 ≤ k := by
 obtain ⟨al, h1, h2, h3, h4⟩ := h
 have hbm := h3 b hb
 have hpos : 1 ≤ al.length := List.length_pos_of_mem hbm
 refine ⟨⟨al.erase (g.getD b default), h1.erase _, by rw [List.length_erase_of_mem hbm, h2], fun i hi => ?_, fun v hv => ?_⟩, by omega⟩
 ·unfold mergeL
  rw [T7 (by omega), List.Nodup.mem_erase_iff h1]
  split
  ·exact ⟨hne, h3 a ha⟩
  ·rename_i h5; exact ⟨h5, h3 i hi⟩
 ·rw [List.Nodup.mem_erase_iff h1] at hv
  obtain ⟨i, hi, hiv⟩ := h4 v hv.2
  refine ⟨i, hi, ?_⟩
  unfold mergeL
  rw [T7 (by omega), hiv, if_neg hv.1]
theorem Al.two {n k : Nat} {g : List Int} (h : Al n g k) (hk : 2 ≤ k) : ∃ x y, x < y ∧ y < n ∧ ¬ Lab g x y := by
 obtain ⟨al, h1, h2, h3, h4⟩ := h
 match al, h2 with
 | v1 :: v2 :: r, _ =>
  obtain ⟨i, hi, hiv⟩ := h4 v1 (by simp)
  obtain ⟨j, hj, hjv⟩ := h4 v2 (by simp)
  have hne : v1 ≠ v2 := by
   have := (List.nodup_cons.1 h1).1
   intro e; subst e; simp at this
  rcases Nat.lt_trichotomy i j with h5 | h5 | h5
  ·exact ⟨i, j, h5, hj, fun e => hne (by unfold Lab at e; rw [← hiv, ← hjv, e])⟩
  ·subst h5; exact absurd (hiv.symm.trans hjv) hne
  ·exact ⟨j, i, h5, hi, fun e => hne (by unfold Lab at e; rw [← hiv, ← hjv, e])⟩
 | [_], h2 => simp at h2; omega
 | [], h2 => simp at h2; omega
theorem Al.one {n k : Nat} {g : List Int} (h : Al n g k) (hk : k ≤ 1) {i j : Nat} (hi : i < n) (hj : j < n) : Lab g i j := by
 obtain ⟨al, h1, h2, h3, h4⟩ := h
 match al, h2 with
 | [v], _ =>
  have a1 := h3 i hi
  have a2 := h3 j hj
  simp only [List.mem_singleton] at a1 a2
  unfold Lab; rw [a1, a2]
 | [], _ => exact absurd (h3 i hi) (by simp)
 | _ :: _ :: _, h2 => simp at h2; omega
def Bst (gs : List (List Int)) (n : Nat) (g : List Int) (a b : Nat) (j : Jn) : Prop :=
 (∀ x y, x < y → y < n → (x < a ∨ (x = a ∧ y < b)) → ¬ Lab g x y → j.2.2 ≤ G gs x y) ∧ (j.2.2 = 41 ∨ (j.1 < n ∧ j.2.1 < n ∧ ¬ Lab g j.1 j.2.1 ∧ j.2.2 = G gs j.1 j.2.1))
theorem Bst.start (gs : List (List Int)) (n : Nat) (g : List Int) : Bst gs n g 0 0 (0, 0, 41) := ⟨fun x y _ _ h => by omega, .inl rfl⟩
theorem Bst.row {gs : List (List Int)} {n : Nat} {g : List Int} {a : Nat} {j : Jn} (h : Bst gs n g a 0 j) : Bst gs n g a (a + 1) j := ⟨fun x y h1 h2 h3 => h.1 x y h1 h2 (by omega), h.2⟩
theorem Bst.take {gs : List (List Int)} {n : Nat} {g : List Int} {a b : Nat} {j : Jn} (h : Bst gs n g a b j) (hab : a < b) (hb : b < n) (hne : ¬ Lab g a b) (hlt : G gs a b < j.2.2) : Bst gs n g a (b + 1) (a, b, G gs a b) := by
 refine ⟨fun x y h1 h2 h3 h4 => ?_, .inr ⟨by simp only; omega, hb, hne, rfl⟩⟩
 by_cases e : x = a ∧ y = b
 ·obtain ⟨rfl, rfl⟩ := e; exact Int.le_refl _
 ·have := h.1 x y h1 h2 (by omega) h4
  simp only; omega
theorem Bst.ok {gs : List (List Int)} (hv : VG gs) {g : List Int} {k : Nat} {a : Nat} {j : Jn} (h : Bst gs gs.length g a 0 j) (ha : gs.length ≤ a) (hk : Al gs.length g k) (h2 : 2 ≤ k) : b8f gs gs.length g j := by
 obtain ⟨x, y, hxy, hy, hne⟩ := hk.two h2
 have h1 := h.1 x y hxy hy (by omega) hne
 have h3 := (hv.pos (a := x) (b := y) (by omega) hy).2
 rcases h.2 with h4 | ⟨p1, p2, p3, p4⟩
 ·omega
 ·refine ⟨p1, p2, p3, p4, fun i k hi hk hn => ?_⟩
  rcases Nat.lt_trichotomy i k with h5 | h5 | h5
  ·exact h.1 i k h5 hk (by omega) hn
  ·subst h5; exact absurd rfl hn
  ·have := h.1 k i h5 hi (by omega) (fun e => hn e.symm)
   rw [hv.sym hi hk]; exact this
def a3i (gs : List (List Int)) (n : Nat) (g : List Int) (h : Int) (a b : Nat) : Prop :=
 ∀ x y, x < y → y < n → (G gs x y < h ∨ (G gs x y = h ∧ (x < a ∨ (x = a ∧ y < b)))) → Lab g x y
theorem a3i.row {gs : List (List Int)} {n : Nat} {g : List Int} {h : Int} {a : Nat} (hs : a3i gs n g h a 0) : a3i gs n g h a (a + 1) := fun x y h1 h2 h3 => hs x y h1 h2 (by omega)
theorem a3i.next {gs : List (List Int)} {n : Nat} {g : List Int} {h : Int} {a : Nat} (hs : a3i gs n g h a 0) (ha : n ≤ a) : a3i gs n g (h + 1) 0 0 := fun x y h1 h2 h3 => hs x y h1 h2 (by omega)
theorem a3i.ok {gs : List (List Int)} (hv : VG gs) {g : List Int} {h : Int} {a b : Nat} (hs : a3i gs gs.length g h a b) (hab : a < b) (hb : b < gs.length) (hh : G gs a b = h) (hne : ¬ Lab g a b) : b8f gs gs.length g (a, b, h) := by
 refine ⟨by simp only; omega, hb, hne, hh.symm, fun i k hi hk hn => ?_⟩
 rcases Nat.lt_trichotomy i k with h5 | h5 | h5
 ·exact Int.not_lt.1 fun h6 => hn (hs i k h5 hk (.inl h6))
 ·subst h5; exact absurd rfl hn
 ·refine Int.not_lt.1 fun h6 => hn (hs k i h5 hi (.inl ?_)).symm
  rw [hv.sym hk hi]; exact h6
def mergeM (g : List Int) (a b : Nat) : List Int := g.map fun x => if x = max (g.getD a default) (g.getD b default) then min (g.getD a default) (g.getD b default) else x
theorem b1h (g : List Int) (a b : Nat) : mergeM g a b = mergeL g a b ∨ mergeM g a b = mergeL g b a := by
 unfold mergeM mergeL
 rcases Int.le_total (g.getD a default) (g.getD b default) with h | h
 ·left; rw [Int.max_eq_right h, Int.min_eq_left h]
 ·right; rw [Int.max_eq_left h, Int.min_eq_right h]
@[simp] theorem mergeM_length (g : List Int) (a b : Nat) : (mergeM g a b).length = g.length := by simp [mergeM]
theorem b4t {g : List Int} {n a b : Nat} (hg : g.length = n) : a4s n (mergeL g a b) (mergeM g a b) := by
 intro i k hi hk
 rcases b1h g a b with e | e <;> rw [e]
 rw [R8 hg hi hk, R8 hg hi hk]
 unfold Lab; omega
theorem Al.mergeM {n k : Nat} {g : List Int} (h : Al n g k) (hg : g.length = n) {a b : Nat} (ha : a < n) (hb : b < n) (hne : ¬ Lab g a b) : Al n (mergeM g a b) (k - 1) ∧ 1 ≤ k := by
 rcases b1h g a b with e | e <;> rw [e]
 ·exact h.merge hg ha hb hne
 ·exact h.merge hg hb ha fun e => hne e.symm
theorem a3i.merge {gs : List (List Int)} {g : List Int} {h : Int} {a b : Nat} (hs : a3i gs gs.length g h a b) (hg : g.length = gs.length) (ha : a < gs.length) (hb : b < gs.length) : a3i gs gs.length (mergeM g a b) h a (b + 1) := by
 intro x y h1 h2 h3
 refine (b4t hg x y (by omega) h2).1 ((R8 hg (by omega) h2).2 ?_)
 by_cases e : x = a ∧ y = b
 ·obtain ⟨rfl, rfl⟩ := e
  exact .inr (.inl ⟨rfl, rfl⟩)
 ·exact .inl (hs x y h1 h2 (by omega))
theorem a3i.all {gs : List (List Int)} (hv : VG gs) {g : List Int} (hs : a3i gs gs.length g 41 0 0) {i k : Nat} (hi : i < gs.length) (hk : k < gs.length) : Lab g i k := by
 have h0 := (hv.pos hi hk).2
 rcases Nat.lt_trichotomy i k with h5 | h5 | h5
 ·exact hs i k h5 hk (.inl (by omega))
 ·subst h5; rfl
 ·exact (hs k i h5 hi (.inl (by rw [hv.sym hk hi]; omega))).symm
theorem a3i.start {gs : List (List Int)} (hv : VG gs) (g : List Int) : a3i gs gs.length g 1 0 0 := by
 intro x y h1 h2 h3
 have := (hv.1 y h2).2.2 x h1
 obtain ⟨q1, q2, q3⟩ := this
 omega
theorem c3c {g m : List Int} {n : Nat} {f : Int → Int} (hg : g.length = n) (hm : m.length = n) (h : ∀ j, j < n → m.getD j default = f (g.getD j default)) : m = g.map f :=
 J9 (d := default) (by simp [hg, hm]) fun j hj => by rw [h j (by omega), T7 (by omega)]
end Go.Mv
end

section
namespace Go.Mv
def a6v (f : Int → Int) (g m : List Int) (i : Nat) : Prop := i ≤ g.length ∧ m.length = g.length ∧ ∀ j, j < g.length → m.getD j default = if j < i then f (g.getD j default) else g.getD j default
theorem a6v.start (f : Int → Int) (g : List Int) : a6v f g g 0 := ⟨Nat.zero_le _, rfl, fun j _ => by rw [if_neg (by omega)]⟩
theorem a6v.cur {f : Int → Int} {g m : List Int} {i : Nat} (h : a6v f g m i) (hi : i < g.length) : m.getD i default = g.getD i default := by rw [h.2.2 i hi, if_neg (by omega)]
theorem a6v.set {f : Int → Int} {g m : List Int} {i : Nat} (h : a6v f g m i) (hi : i < g.length) {v : Int} (hv : v = f (g.getD i default)) : a6v f g (m.set i v) (i + 1) := by
 refine ⟨by omega, by simp [h.2.1], fun j hj => ?_⟩
 rw [L3 _ _ _ _ (by rw [h.2.1]; exact hi)]
 by_cases e : j = i
 ·subst e; rw [if_pos rfl, if_pos (by omega), hv]
 ·rw [if_neg e, h.2.2 j hj]
  by_cases h2 : j < i
  ·rw [if_pos h2, if_pos (by omega)]
  ·rw [if_neg h2, if_neg (by omega)]
theorem a6v.skip {f : Int → Int} {g m : List Int} {i : Nat} (h : a6v f g m i) (hi : i < g.length) (hv : f (g.getD i default) = g.getD i default) : a6v f g m (i + 1) := by
 refine ⟨by omega, h.2.1, fun j hj => ?_⟩
 rw [h.2.2 j hj]
 by_cases e : j = i
 ·subst e; rw [if_neg (by omega), if_pos (by omega), hv]
 ·by_cases h2 : j < i
  ·rw [if_pos h2, if_pos (by omega)]
  ·rw [if_neg h2, if_neg (by omega)]
theorem a6v.fin {f : Int → Int} {g m : List Int} {i : Nat} (h : a6v f g m i) (hi : g.length ≤ i) : m = g.map f := c3c rfl h.2.1 fun j hj => by rw [h.2.2 j hj, if_pos (by omega)]
def Put (n : Nat) (c : Nat → Nat → Prop) (h : Int) (m m' : List (List Int)) : Prop := Sq n m' ∧ ∀ i k, i < n → k < n → (c i k → G m' i k = h) ∧ (¬ c i k → G m' i k = G m i k)
theorem Put.congr {n : Nat} {c c' : Nat → Nat → Prop} {h : Int} {m m' : List (List Int)} (hp : Put n c h m m') (he : ∀ i k, i < n → k < n → (c i k ↔ c' i k)) : Put n c' h m m' :=
 ⟨hp.1, fun i k hi hk => ⟨fun hc => (hp.2 i k hi hk).1 ((he i k hi hk).2 hc), fun hc => (hp.2 i k hi hk).2 fun h => hc ((he i k hi hk).1 h)⟩⟩
theorem c9q {n : Nat} {m : List (List Int)} (h : Sq n m) {i k : Nat} (hi : i < n) (hk : k < n) (x : Int) (a b : Nat) :
  G (m.set i ((m.getD i default).set k x)) a b = if a = i ∧ b = k then x else G m a b := by
 unfold G
 rw [L3 _ _ _ _ (by rw [h.1]; exact hi)]
 by_cases h1 : a = i
 ·subst h1
  rw [if_pos rfl, L3 _ _ _ _ (by rw [h.2 a hi]; exact hk)]
  by_cases h2 : b = k
  ·subst h2; simp
  ·simp [h2]
 ·rw [if_neg h1, if_neg (by intro h2; exact h1 h2.1)]
theorem Put.cell {n : Nat} {c : Nat → Nat → Prop} {h : Int} {m m' : List (List Int)} (hp : Put n c h m m') {i k : Nat} (hi : i < n) (hk : k < n) :
  Put n (fun x y => c x y ∨ (x = i ∧ y = k)) h m (m'.set i ((m'.getD i default).set k h)) := by
 refine ⟨b7a hp.1 hi, fun a b ha hb => ?_⟩
 rw [c9q hp.1 hi hk]
 by_cases e : a = i ∧ b = k
 ·rw [if_pos e]
  exact ⟨fun _ => rfl, fun hn => absurd (.inr e) hn⟩
 ·rw [if_neg e]
  have := hp.2 a b ha hb
  exact ⟨fun h => this.1 (h.resolve_right e), fun hn => this.2 fun h => hn (.inl h)⟩
theorem Put.start {n : Nat} {m : List (List Int)} (hs : Sq n m) (C : Nat → Nat → Prop) (h : Int) : Put n (fun x y => x < 0 ∧ C x y) h m m := ⟨hs, fun i k _ _ => ⟨fun h => absurd h.1 (by omega), fun _ => rfl⟩⟩
abbrev C2 (a b : Nat) (C : Nat → Nat → Prop) : Nat → Nat → Prop := fun x y => (x < a ∨ (x = a ∧ y < b)) ∧ C x y
theorem Put.row {n a : Nat} {C : Nat → Nat → Prop} {h : Int} {m m' : List (List Int)} (hp : Put n (fun x y => x < a ∧ C x y) h m m') : Put n (C2 a 0 C) h m m' :=
 hp.congr fun i k _ _ => ⟨fun h => ⟨.inl h.1, h.2⟩, fun h => ⟨by omega, h.2⟩⟩
abbrev D1 (a : Nat) (D : Nat → Nat → Prop) : Nat → Nat → Prop := fun x y => (x < a ∧ D x y) ∨ (y < a ∧ D y x)
abbrev D2 (a b : Nat) (D : Nat → Nat → Prop) : Nat → Nat → Prop := fun x y => C2 a b D x y ∨ C2 a b D y x
abbrev JC (g : List Int) (j : Jn) : Nat → Nat → Prop := fun x y => Lab g x j.1 ∧ Lab g y j.2.1
theorem KI.put {gs : List (List Int)} (hv : VG gs) {g : List Int} {out out' : List (List Int)} {j : Jn} (h : KI gs g out) (hj : b8f gs gs.length g j) (hp : Put gs.length (fun x y => JC g j x y ∨ JC g j y x) j.2.2 out out') : KI gs (mergeL g j.1 j.2.1) out' :=
 h.step hv hj hp.1 fun i k hi hk => by
  have := hp.2 i k hi hk
  split
  ·rename_i hc; exact this.1 (hc.elim .inl fun h => .inr h)
  ·rename_i hc; exact this.2 fun h => hc (h.elim .inl fun h => .inr h)
theorem KI.sq {gs : List (List Int)} {g : List Int} {out : List (List Int)} (h : KI gs g out) : Sq gs.length out ∧ g.length = gs.length := ⟨h.1, h.2.1⟩
theorem a5p (x : Int) (r : List Int) : (a5v x r).Perm (x :: r) := by
 induction r with
 | nil => exact .refl _
 | cons y r ih =>
  simp only [a5v]
  split
  ·exact .refl _
  ·exact (List.Perm.cons y ih).trans (List.Perm.swap x y r)
theorem a9r (xs : List Int) : (V9 xs).Perm xs := by
 induction xs with
 | nil => exact .refl _
 | cons x r ih => exact (a5p x (V9 r)).trans (List.Perm.cons x ih)
theorem a1h (x : Int) (r : List Int) (h : r.Pairwise (· ≤ ·)) : (a5v x r).Pairwise (· ≤ ·) := by
 induction r with
 | nil => simp [a5v]
 | cons y r ih =>
  simp only [a5v]
  have h2 := List.pairwise_cons.1 h
  split
  ·rename_i hxy
   refine List.pairwise_cons.2 ⟨fun z hz => ?_, h⟩
   rcases List.mem_cons.1 hz with rfl | hz
   ·exact hxy
   ·have := h2.1 z hz; omega
  ·rename_i hxy
   refine List.pairwise_cons.2 ⟨fun z hz => ?_, ih h2.2⟩
   rcases List.mem_cons.1 ((a5p x r).mem_iff.1 hz) with rfl | hz
   ·omega
   ·exact h2.1 z hz
theorem a3w (xs : List Int) : (V9 xs).Pairwise (· ≤ ·) := by
 induction xs with
 | nil => exact .nil
 | cons x r ih => exact a1h x _ ih
theorem c4r {xs ys : List Int} (hp : ys.Perm xs) (hs : ys.Pairwise (· ≤ ·)) : ys = V9 xs :=
 List.Perm.eq_of_pairwise (le := (· ≤ ·)) (fun a b _ _ h1 h2 => by omega) hs (a3w xs) (hp.trans (a9r xs).symm)
theorem a6e {s : List Int} (h : s.Pairwise (· ≤ ·)) {i j : Nat} (hij : i ≤ j) (hj : j < s.length) : s.getD i default ≤ s.getD j default := by
 rw [List.getD_eq_getElem?_getD, List.getD_eq_getElem?_getD, List.getElem?_eq_getElem (by omega), List.getElem?_eq_getElem hj]
 rcases Nat.lt_or_ge i j with h1 | h1
 ·exact List.pairwise_iff_getElem.1 h i j (by omega) hj h1
 ·have : i = j := by omega
  subst this
  exact Int.le_refl _
theorem L4 {xs : List Int} {x : Int} (h : x ∈ xs) : ∃ i, i < xs.length ∧ xs.getD i default = x := by
 obtain ⟨i, hi, rfl⟩ := List.getElem_of_mem h
 exact ⟨i, hi, by rw [List.getD_eq_getElem?_getD, List.getElem?_eq_getElem hi]; rfl⟩
theorem b0j {out : List Int} {x : Int} {k : Nat} (hs : out.Pairwise (· ≤ ·)) (hk : k ≤ out.length) (h1 : ∀ j, j < k → out.getD j default ≤ x) (h2 : k < out.length → x ≤ out.getD k default) :
  out.take k ++ [x] ++ out.drop k = a5v x out := by
 have hp : (out.take k ++ [x] ++ out.drop k).Perm (x :: out) := by
  have := (List.perm_middle (l₁ := out.take k) (l₂ := out.drop k) (a := x))
  rw [List.take_append_drop] at this
  rw [List.append_assoc]; exact this
 have hsrt : (out.take k ++ [x] ++ out.drop k).Pairwise (· ≤ ·) := by
  rw [List.append_assoc, List.pairwise_append]
  refine ⟨hs.take, ?_, ?_⟩
  ·rw [List.singleton_append, List.pairwise_cons]
   refine ⟨fun b hb => ?_, hs.drop⟩
   obtain ⟨i, hi, rfl⟩ := L4 hb
   rw [List.length_drop] at hi
   have e : (out.drop k).getD i default = out.getD (k + i) default := by rw [List.getD_eq_getElem?_getD, List.getD_eq_getElem?_getD, List.getElem?_drop]
   rw [e]
   exact Int.le_trans (h2 (by omega)) (a6e hs (by omega) (by omega))
  ·intro a ha b hb
   obtain ⟨i, hi, rfl⟩ := L4 ha
   rw [List.length_take] at hi
   have e : (out.take k).getD i default = out.getD i default := by rw [List.getD_eq_getElem?_getD, List.getD_eq_getElem?_getD, List.getElem?_take, if_pos (by omega)]
   rw [e]
   rw [List.singleton_append, List.mem_cons] at hb
   rcases hb with rfl | hb
   ·exact h1 i (by omega)
   ·obtain ⟨j, hj, rfl⟩ := L4 hb
    rw [List.length_drop] at hj
    have e2 : (out.drop k).getD j default = out.getD (k + j) default := by rw [List.getD_eq_getElem?_getD, List.getD_eq_getElem?_getD, List.getElem?_drop]
    rw [e2]
    exact a6e hs (by omega) (by omega)
 exact List.Perm.eq_of_pairwise (le := (· ≤ ·)) (fun a b _ _ h1 h2 => by omega) hsrt (a1h x out hs) (hp.trans (a5p x out).symm)
def bitN (s i : Nat) : Nat := s / 2 ^ i % 2
theorem c1p (s i : Nat) : bitN s i = 1 ↔ s.testBit i = true := by
 unfold bitN
 rw [Nat.testBit_eq_decide_div_mod_eq, decide_eq_true_eq]
theorem c6k (s i : Nat) : bitN s i = 0 ∨ bitN s i = 1 := by unfold bitN; omega
theorem a9e (i j : Nat) : bitN (2 ^ i) j = 1 ↔ j = i := by
 rw [c1p, Nat.testBit_two_pow]
 simp [eq_comm]
section
variable {cx : Cx} {keep : List Nat} {ops0 : Array Oper} {r : List Oper} {A : Asr} {Q : Asr → List Log → Prop} {d : Nat} {ty : Nat} {pos : String} {aft : Array Edge}
end
end Go.Mv
end

section
namespace Go.Mv
open Go Classical
section
variable {cx : Cx} {keep : List Nat} {ops0 : Array Oper} {r : List Oper} {A : Asr} {Q : Asr → List Log → Prop} {d : Nat} {ty : Nat} {pos : String} {aft : Array Edge}
end
def J3 (lo hi : Int) (xs : List Int) : Bool := xs.all fun x => decide (lo ≤ x) && decide (x ≤ hi)
theorem a1u {lo hi : Int} {xs : List Int} : J3 lo hi xs = true ↔ ∀ i, i < xs.length → lo ≤ xs.getD i default ∧ xs.getD i default ≤ hi := by
 unfold J3
 rw [List.all_eq_true]
 constructor
 ·intro h i hi'
  have := h _ (I8 hi')
  simpa using this
 ·intro h x hx
  obtain ⟨i, hi', rfl⟩ := L4 hx
  simpa using h i hi'
def c2y (l : List Int) (s : Nat) : Nat → List Int
 | 0 => []
 | k + 1 => if bitN s k = 1 then c2y l s k ++ [l.getD k default] else c2y l s k
def sel (l : List Int) (s : Nat) : List Int := c2y l s l.length
theorem b4s (l : List Int) (i : Nat) : ∀ k, c2y l (2 ^ i) k = if i < k then [l.getD i default] else []
 | 0 => by simp [c2y]
 | k + 1 => by
  unfold c2y
  rw [b4s l i k]
  by_cases e : k = i
  ·subst e; rw [if_pos ((a9e k k).2 rfl)]; simp
  ·rw [if_neg (fun h => e ((a9e i k).1 h))]
   by_cases h : i < k
   ·rw [if_pos h, if_pos (by omega)]
   ·rw [if_neg h, if_neg (by omega)]
theorem c7c {l : List Int} {i : Nat} (hi : i < l.length) : sel l (2 ^ i) = [l.getD i default] := by
 unfold sel; rw [b4s, if_pos hi]
def Fnd (e : Bool) (s : List Int) (lev : Int) : Prop := ∃ i, i < s.length ∧ s.getD i default * s.length ≤ if e then ((i : Int) + 1) * lev else lev
theorem Fnd.mono {e : Bool} {s : List Int} {lev lev' : Int} (h : Fnd e s lev) (hl : lev ≤ lev') : Fnd e s lev' := by
 obtain ⟨i, hi, h⟩ := h
 refine ⟨i, hi, ?_⟩
 cases e
 ·simp only [Bool.false_eq_true, if_false] at h ⊢; omega
 ·simp only [if_true] at h ⊢
  have := Int.mul_le_mul_of_nonneg_left hl (show (0 : Int) ≤ (i : Int) + 1 by omega)
  omega
theorem Fnd.each {e : Bool} {s : List Int} {lev : Int} (h : Fnd e s lev) (h0 : 0 ≤ lev) : Fnd true s lev := by
 obtain ⟨i, hi, h⟩ := h
 refine ⟨i, hi, ?_⟩
 cases e
 ·simp only [Bool.false_eq_true, if_false, if_true] at h ⊢
  have := Int.mul_le_mul_of_nonneg_right (show (1 : Int) ≤ (i : Int) + 1 by omega) h0
  omega
 ·exact h
def CPr (l : List Int) (lev : Int) (e : Bool) (i : Nat) : Prop := ∀ s, 1 ≤ s → s < 2 ^ l.length → bitN s i = 1 → Fnd e (V9 (sel l s)) lev
noncomputable def c9z (l : List Int) (lev : Int) (e : Bool) (k : Nat) : List Int := ((List.range k).filter fun i => decide (CPr l lev e i)).map Int.ofNat
noncomputable def clo (l : List Int) (lev : Int) (e : Bool) : List Int := c9z l lev e l.length
theorem CPr.le {l : List Int} {lev : Int} {e : Bool} {i : Nat} (h : CPr l lev e i) (hi : i < l.length) : l.getD i default ≤ lev := by
 have := h (2 ^ i) (Nat.one_le_two_pow) (Nat.pow_lt_pow_right (by decide) hi) ((a9e i i).2 rfl)
 rw [c7c hi] at this
 obtain ⟨j, hj, h2⟩ := this
 have : j = 0 := by simp [V9, a5v] at hj; omega
 subst this
 cases e <;> simp [V9, a5v] at h2 <;> simpa using h2
def Mis (l : List Int) (lev : Int) (e : Bool) (s mi : Nat) : Prop := 1 ≤ s ∧ s ≤ 2 ^ l.length ∧ mi < 2 ^ l.length ∧ ∀ i, i < l.length → (bitN mi i = 1 ↔ ∃ s', 1 ≤ s' ∧ s' < s ∧ bitN s' i = 1 ∧ ¬ Fnd e (V9 (sel l s')) lev)
theorem Mis.start (l : List Int) (lev : Int) (e : Bool) : Mis l lev e 1 0 := by
 refine ⟨Nat.le_refl _, Nat.one_le_two_pow, Nat.two_pow_pos _, fun i hi => ⟨fun h => ?_, fun ⟨s', h1, h2, _⟩ => by omega⟩⟩
 unfold bitN at h; simp at h
theorem Mis.fin {l : List Int} {lev : Int} {e : Bool} {s mi : Nat} (h : Mis l lev e s mi) (hs : 2 ^ l.length ≤ s) {i : Nat} (hi : i < l.length) : bitN mi i = 0 ↔ CPr l lev e i := by
 obtain ⟨h1, h2, h3, h4⟩ := h
 have := h4 i hi
 have h5 := c6k mi i
 constructor
 ·intro h0 s' q1 q2 q3
  refine Classical.byContradiction fun hn => ?_
  have := this.2 ⟨s', q1, by omega, q3, hn⟩
  omega
 ·intro hc
  rcases h5 with h5 | h5
  ·exact h5
  ·obtain ⟨s', q1, q2, q3, q4⟩ := this.1 h5
   exact absurd (hc s' q1 (by omega) q3) q4
theorem c6z {xs : List Int} {q : Int → Bool} {i : Nat} (hi : i < xs.length) (h : q (xs.getD i default) = true) : decide (0 ≤ (i : Int)) = xs.any q := by
 rw [decide_eq_true (Int.natCast_nonneg i)]
 exact (List.any_eq_true.2 ⟨_, I8 hi, h⟩).symm
theorem c5d {xs : List Int} {q : Int → Bool} (h : ∀ j, j < xs.length → q (xs.getD j default) = false) : decide (0 ≤ (-1 : Int)) = xs.any q := by
 have : xs.any q = false := by
  rw [List.any_eq_false]
  intro x hx
  obtain ⟨i, hi, rfl⟩ := L4 hx
  rw [h i hi]; decide
 rw [this]; rfl
theorem c4j (lo hi : Int) (xs : List Int) : (!(xs.any fun x => !(decide (lo ≤ x) && decide (x ≤ hi)))) = J3 lo hi xs := by
 unfold J3
 rw [List.not_any_eq_all_not]
 simp
theorem P5 {α : Type} [Inhabited α] {xs : List α} {i : Nat} (h : i < xs.length) : xs.getD i default ∈ xs := by
 rw [List.getD_eq_getElem?_getD, List.getElem?_eq_getElem h]
 exact List.getElem_mem h
def FndAt (e : Bool) (s : List Int) (lev : Int) (j : Nat) : Prop := (e = true ∧ s.getD j default * (s.length : Int) ≤ lev * ((j : Int) + 1)) ∨ s.getD j default * (s.length : Int) ≤ lev
theorem FndAt.none {e : Bool} {s : List Int} {lev : Int} (hl : 0 ≤ lev ∧ lev ≤ 1000) (h : ∀ j, j < s.length → ¬ FndAt e s lev j) : ¬ Fnd e s lev := by
 rintro ⟨j, hj, hf⟩
 refine h j hj ?_
 cases e
 ·exact .inr hf
 ·rw [if_pos rfl] at hf
  exact .inl ⟨rfl, by rw [Int.mul_comm lev]; exact hf⟩
theorem CPr.each {l : List Int} {lev : Int} {e : Bool} {i : Nat} (h : CPr l lev e i) (h0 : 0 ≤ lev) : CPr l lev true i := fun s h1 h2 h3 => (h s h1 h2 h3).each h0
theorem CPr.mono {l : List Int} {lev lev' : Int} {e : Bool} {i : Nat} (h : CPr l lev e i) (h0 : lev ≤ lev') : CPr l lev' e i := fun s h1 h2 h3 => (h s h1 h2 h3).mono h0
end Go.Mv
end

section
namespace Go.Mv
open Go Classical
abbrev nV (x : Nat) : AV := iV (x : Int)
def LTl (l : List Int) (a b : Nat) : Prop := l.getD a default < l.getD b default ∨ (l.getD a default = l.getD b default ∧ a < b)
theorem LTl.trans {l : List Int} {a b c : Nat} (h : LTl l a b) (h2 : LTl l b c) : LTl l a c := by unfold LTl at *; omega
theorem LTl.irr {l : List Int} {a : Nat} : ¬ LTl l a a := by unfold LTl; omega
theorem LTl.le {l : List Int} {a b : Nat} (h : LTl l a b) : l.getD a default ≤ l.getD b default := by unfold LTl at h; omega
def Ord (l : List Int) (i : Nat) (d : List Nat) : Prop := d.length = l.length ∧ i ≤ l.length ∧ (∀ x, i ≤ x → x < l.length → d.getD x default = x) ∧ (∀ x, x < i → d.getD x default < i) ∧
 (∀ x y, x < y → y < i → LTl l (d.getD x default) (d.getD y default)) ∧ ∀ v, v < i → ∃ x, x < i ∧ d.getD x default = v
def a4u (l : List Int) (i : Nat) (d0 : List Nat) (j : Nat) (d : List Nat) : Prop := j ≤ i ∧ d.length = l.length ∧
 (∀ x, x < l.length → d.getD x default = if x < j then d0.getD x default else if x = j then i else if x ≤ i then d0.getD (x - 1) default else x) ∧ ∀ x, j ≤ x → x < i → l.getD i default < l.getD (d0.getD x default) default
theorem b1y {l : List Nat} {i j x : Nat} (hi : i < l.length) : (l.set i x).getD j default = if j = i then x else l.getD j default := L3 l i x j hi
theorem a4u.start {l : List Int} {i : Nat} {d0 : List Nat} (h : Ord l i d0) (hi : i < l.length) : a4u l i d0 i d0 := by
 refine ⟨Nat.le_refl _, h.1, fun x hx => ?_, fun x h1 h2 => by omega⟩
 by_cases h1 : x < i
 ·rw [if_pos h1]
 ·rw [if_neg h1]
  by_cases h2 : x = i
  ·subst h2; rw [if_pos rfl, h.2.2.1 x (Nat.le_refl _) hx]
  ·rw [if_neg h2, if_neg (by omega), h.2.2.1 x (by omega) hx]
theorem a4u.step {l : List Int} {i j : Nat} {d0 d : List Nat} (h : a4u l i d0 j d) (hi : i < l.length) (hj : 0 < j) (hlt : l.getD (d.getD j default) default < l.getD (d.getD (j - 1) default) default) :
  a4u l i d0 (j - 1) ((d.set j (d.getD (j - 1) default)).set (j - 1) (d.getD j default)) := by
 obtain ⟨h1, h2, h3, h4⟩ := h
 have e1 : d.getD j default = i := by rw [h3 j (by omega), if_neg (by omega), if_pos rfl]
 have e2 : d.getD (j - 1) default = d0.getD (j - 1) default := by rw [h3 (j - 1) (by omega), if_pos (by omega)]
 rw [e1, e2] at hlt
 refine ⟨by omega, by simp [h2], fun x hx => ?_, fun x q1 q2 => ?_⟩
 ·rw [b1y (by rw [List.length_set]; omega), b1y (by omega), e1, e2]
  by_cases a1 : x = j - 1
  ·rw [if_pos a1, if_neg (by omega), if_pos a1]
  ·rw [if_neg a1]
   by_cases a2 : x = j
   ·rw [if_pos a2, if_neg (by omega), if_neg a1, if_pos (by omega), a2]
   ·rw [if_neg a2, h3 x hx]
    by_cases a3 : x < j
    ·rw [if_pos a3, if_pos (by omega)]
    ·simp only [a1, a2, a3, if_false, show ¬ x < j - 1 by omega]
 ·by_cases a1 : x = j - 1
  ·subst a1; exact hlt
  ·exact h4 x (by omega) q2
theorem a4u.fin {l : List Int} {i j : Nat} {d0 d : List Nat} (h0 : Ord l i d0) (h : a4u l i d0 j d) (hi : i < l.length) (he : j = 0 ∨ ¬ l.getD (d.getD j default) default < l.getD (d.getD (j - 1) default) default) : Ord l (i + 1) d := by
 obtain ⟨h1, h2, h3, h4⟩ := h
 obtain ⟨g1, g2, g3, g4, g5, g6⟩ := h0
 have e1 : d.getD j default = i := by rw [h3 j (by omega), if_neg (by omega), if_pos rfl]
 have hlow : ∀ x, x < j → LTl l (d0.getD x default) i := by
  intro x hx
  have hle : l.getD (d0.getD (j - 1) default) default ≤ l.getD i default := by
   rcases he with he | he
   ·omega
   ·rw [e1, h3 (j - 1) (by omega), if_pos (by omega)] at he; omega
  have hx2 := g4 x (by omega)
  by_cases e : x = j - 1
  ·subst e; unfold LTl; omega
  ·have := (g5 x (j - 1) (by omega) (by omega)).le
   unfold LTl; omega
 have hhigh : ∀ x, j ≤ x → x < i → LTl l i (d0.getD x default) := fun x q1 q2 => .inl (h4 x q1 q2)
 refine ⟨h2, by omega, fun x q1 q2 => ?_, fun x q1 => ?_, fun x y q1 q2 => ?_, fun v hv => ?_⟩
 ·rw [h3 x q2, if_neg (by omega), if_neg (by omega), if_neg (by omega)]
 ·rw [h3 x (by omega)]
  split
  ·have := g4 x (by omega); omega
  ·split
   ·omega
   ·have := g4 (x - 1) (by omega)
    rw [if_pos (by omega)]; omega
 ·rw [h3 x (by omega), h3 y (by omega)]
  by_cases a1 : y < j
  ·rw [if_pos (show x < j by omega), if_pos a1]; exact g5 x y q1 (by omega)
  ·rw [if_neg a1]
   by_cases a2 : y = j
   ·rw [if_pos a2, if_pos (show x < j by omega)]; exact hlow x (by omega)
   ·rw [if_neg a2, if_pos (show y ≤ i by omega)]
    by_cases b1 : x < j
    ·rw [if_pos b1]; exact g5 x (y - 1) (by omega) (by omega)
    ·rw [if_neg b1]
     by_cases b2 : x = j
     ·rw [if_pos b2]; exact hhigh (y - 1) (by omega) (by omega)
     ·rw [if_neg b2, if_pos (show x ≤ i by omega)]; exact g5 (x - 1) (y - 1) (by omega) (by omega)
 ·by_cases e : v = i
  ·exact ⟨j, by omega, by rw [e1, e]⟩
  ·obtain ⟨x, hx, hxv⟩ := g6 v (by omega)
   by_cases a1 : x < j
   ·exact ⟨x, by omega, by rw [h3 x (by omega), if_pos a1, hxv]⟩
   ·refine ⟨x + 1, by omega, ?_⟩
    rw [h3 (x + 1) (by omega), if_neg (by omega), if_neg (by omega), if_pos (by omega)]
    simpa using hxv
theorem Ord.start {l : List Int} {d : List Nat} (h : d.length = l.length) (hd : ∀ x, x < l.length → d.getD x default = x) : Ord l 0 d := ⟨h, Nat.zero_le _, fun x _ hx => hd x hx, fun x h => by omega, fun x y _ h => by omega, fun v h => by omega⟩
theorem Ord.one {l : List Int} {d : List Nat} (h : d.length = l.length) (hd : ∀ x, x < l.length → d.getD x default = x) (hp : 1 ≤ l.length) : Ord l 1 d := by
 refine ⟨h, hp, fun x _ hx => hd x hx, fun x hx => ?_, fun x y h1 h2 => by omega, fun v hv => ⟨0, by omega, ?_⟩⟩
 ·rw [hd x (by omega)]; exact hx
 ·rw [hd 0 (by omega)]; omega
noncomputable def pl (l : List Int) (i k : Nat) : Nat := (List.range k).countP fun x => decide (LTl l x i)
noncomputable def at' (l : List Int) (i : Nat) : Nat := pl l i l.length
theorem b2q {α : Type} {p : α → Bool} {d : List α} {r : Nat} (hr : r ≤ d.length) (h1 : ∀ x ∈ d.take r, p x = true) (h2 : ∀ x ∈ d.drop r, p x = false) : d.countP p = r := by
 conv => lhs; rw [← List.take_append_drop r d]
 rw [List.countP_append, List.countP_eq_length.2 h1, List.countP_eq_zero.2 (fun x hx => by simp [h2 x hx])]
 simp [hr]
theorem a2j {xs : List Nat} {x : Nat} (h : x ∈ xs) : ∃ i, i < xs.length ∧ xs.getD i default = x := by
 obtain ⟨i, hi, rfl⟩ := List.getElem_of_mem h
 exact ⟨i, hi, by rw [List.getD_eq_getElem?_getD, List.getElem?_eq_getElem hi]; rfl⟩
theorem Ord.perm {l : List Int} {d : List Nat} (h : Ord l l.length d) : (List.range l.length).Perm d := by
 obtain ⟨g1, g2, g3, g4, g5, g6⟩ := h
 have hnd : d.Nodup := by
  rw [List.nodup_iff_pairwise_ne, List.pairwise_iff_getElem]
  intro i j hi hj hij e
  have := g5 i j hij (by omega)
  rw [List.getD_eq_getElem?_getD, List.getD_eq_getElem?_getD, List.getElem?_eq_getElem hi, List.getElem?_eq_getElem hj] at this
  simp only [Option.getD_some, e] at this
  exact LTl.irr this
 rw [List.perm_ext_iff_of_nodup List.nodup_range hnd]
 intro a
 rw [List.mem_range]
 constructor
 ·intro ha
  obtain ⟨x, hx, rfl⟩ := g6 a ha
  exact P5 (by omega)
 ·intro ha
  obtain ⟨x, hx, rfl⟩ := a2j ha
  exact g4 x (by omega)
theorem Ord.count {l : List Int} {d : List Nat} (h : Ord l l.length d) {p : Nat → Bool} {r : Nat} (hr : r ≤ l.length) (h1 : ∀ x, x < r → p (d.getD x default) = true) (h2 : ∀ x, r ≤ x → x < l.length → p (d.getD x default) = false) : (List.range l.length).countP p = r := by
 rw [h.perm.countP_eq]
 refine b2q (by rw [h.1]; exact hr) (fun y hy => ?_) (fun y hy => ?_)
 ·obtain ⟨x, hx, rfl⟩ := a2j hy
  rw [List.length_take] at hx
  have e : (d.take r).getD x default = d.getD x default := by rw [List.getD_eq_getElem?_getD, List.getD_eq_getElem?_getD, List.getElem?_take, if_pos (by omega)]
  rw [e]; exact h1 x (by omega)
 ·obtain ⟨x, hx, rfl⟩ := a2j hy
  rw [List.length_drop, h.1] at hx
  have e : (d.drop r).getD x default = d.getD (r + x) default := by rw [List.getD_eq_getElem?_getD, List.getD_eq_getElem?_getD, List.getElem?_drop]
  rw [e]; exact h2 (r + x) (by omega) (by omega)
theorem Ord.at {l : List Int} {d : List Nat} (h : Ord l l.length d) {r : Nat} (hr : r < l.length) : at' l (d.getD r default) = r := by
 obtain ⟨g1, g2, g3, g4, g5, g6⟩ := id h
 refine h.count (Nat.le_of_lt hr) (fun x hx => decide_eq_true (g5 x r hx hr)) (fun x h1 h2 => decide_eq_false fun hc => ?_)
 by_cases e : x = r
 ·subst e; exact LTl.irr hc
 ·exact LTl.irr (hc.trans (g5 r x (by omega) h2))
theorem Ord.ix {l : List Int} {d : List Nat} (h : Ord l l.length d) {k : Nat} (hk : k < l.length) : at' l k < l.length ∧ d.getD (at' l k) default = k := by
 obtain ⟨x, hx, rfl⟩ := h.2.2.2.2.2 k hk
 rw [h.at hx]; exact ⟨hx, rfl⟩
theorem Ord.mono {l : List Int} {d : List Nat} (h : Ord l l.length d) {a b : Nat} (ha : a < l.length) (hb : b < l.length) (hab : at' l a ≤ at' l b) : l.getD a default ≤ l.getD b default := by
 obtain ⟨a1, a2⟩ := h.ix ha
 obtain ⟨b1, b2⟩ := h.ix hb
 by_cases e : at' l a = at' l b
 ·rw [← a2, ← b2, e]; exact Int.le_refl _
 ·have := (h.2.2.2.2.1 (at' l a) (at' l b) (by omega) b1).le
  rwa [a2, b2] at this
noncomputable def mxU (l : List Int) (i : Nat) : Nat → Int
 | 0 => 0
 | k + 1 => if at' l k ≤ at' l i then max (mxU l i k) (l.getD k default * ((l.length : Int) - (at' l k : Int))) else mxU l i k
theorem b9r {l : List Int} {i : Nat} {V : Int} (h0 : 0 ≤ V) : ∀ k, (mxU l i k ≤ V ↔ ∀ x, x < k → at' l x ≤ at' l i → l.getD x default * ((l.length : Int) - (at' l x : Int)) ≤ V)
 | 0 => ⟨fun _ x h => by omega, fun _ => h0⟩
 | k + 1 => by
  unfold mxU
  have ih := b9r (l := l) (i := i) h0 k
  by_cases c : at' l k ≤ at' l i
  ·rw [if_pos c]
   constructor
   ·intro h x hx hc
    by_cases e : x = k
    ·subst e; omega
    ·exact ih.1 (by omega) x (by omega) hc
   ·intro h
    have h1 := ih.2 fun x hx => h x (by omega)
    have h2 := h k (by omega) c
    omega
  ·rw [if_neg c, ih]
   constructor
   ·intro h x hx hc
    by_cases e : x = k
    ·subst e; exact absurd hc c
    ·exact h x (by omega) hc
   ·exact fun h x hx => h x (by omega)
noncomputable def sdv (l : List Int) (i : Nat) : Int := min (mxU l i l.length) 1000
noncomputable def sdU (l : List Int) (k : Nat) : List Int := (List.range k).map (sdv l)
@[simp] theorem sdU_length (l : List Int) (k : Nat) : (sdU l k).length = k := by simp [sdU]
theorem c4c {l : List Int} {k i : Nat} (h : i < k) : (sdU l k).getD i default = sdv l i := by
 unfold sdU
 rw [List.getD_eq_getElem?_getD, List.getElem?_map, List.getElem?_range h]; rfl
noncomputable def mR (l : List Int) (d : List Nat) : Nat → Int
 | 0 => 0
 | r + 1 => max (mR l d r) (min 1000 (l.getD (d.getD r default) default * ((l.length : Int) - (r : Int))))
theorem c7r {l : List Int} {d : List Nat} {V : Int} (h0 : 0 ≤ V) : ∀ r, (mR l d r ≤ V ↔ ∀ x, x < r → min 1000 (l.getD (d.getD x default) default * ((l.length : Int) - (x : Int))) ≤ V)
 | 0 => ⟨fun _ x h => by omega, fun _ => h0⟩
 | r + 1 => by
  unfold mR
  have ih := c7r (l := l) (d := d) h0 r
  constructor
  ·intro h x hx
   by_cases e : x = r
   ·subst e; omega
   ·exact ih.1 (by omega) x (by omega)
  ·intro h
   have h1 := ih.2 fun x hx => h x (by omega)
   have h2 := h r (by omega)
   omega
theorem c5t {l : List Int} {d : List Nat} : ∀ r, 0 ≤ mR l d r
 | 0 => Int.le_refl _
 | r + 1 => by have := c5t (l := l) (d := d) r; unfold mR; omega
theorem c1c {l : List Int} {i : Nat} : ∀ k, 0 ≤ mxU l i k
 | 0 => Int.le_refl _
 | k + 1 => by have := c1c (l := l) (i := i) k; unfold mxU; split <;> omega
theorem Ord.mR {l : List Int} {d : List Nat} (h : Ord l l.length d) {r : Nat} (hr : r < l.length) : Mv.mR l d (r + 1) = sdv l (d.getD r default) := by
 have key : ∀ V : Int, 0 ≤ V → (Mv.mR l d (r + 1) ≤ V ↔ sdv l (d.getD r default) ≤ V) := by
  intro V h0
  rw [c7r h0]
  unfold sdv
  constructor
  ·intro hx
   by_cases hv : 1000 ≤ V
   ·omega
   ·have : mxU l (d.getD r default) l.length ≤ V := (b9r h0 _).2 fun k hk hc => by
     obtain ⟨a1, a2⟩ := h.ix hk
     rw [h.at hr] at hc
     have := hx (at' l k) (by omega)
     rw [a2] at this
     omega
    omega
  ·intro hm x hx
   by_cases hv : 1000 ≤ V
   ·omega
   ·have hm' : mxU l (d.getD r default) l.length ≤ V := by omega
    have := (b9r h0 _).1 hm' (d.getD x default) (h.2.2.2.1 x (by omega)) (by rw [h.at hr, h.at (by omega)]; omega)
    rw [h.at (by omega)] at this
    omega
 have p1 := c5t (l := l) (d := d) (r + 1)
 have p2 : 0 ≤ sdv l (d.getD r default) := by have := c1c (l := l) (i := d.getD r default) l.length; unfold sdv; omega
 have k1 := (key _ p2).2 (Int.le_refl _)
 have k2 := (key _ p1).1 (Int.le_refl _)
 omega
theorem Ord.from {l : List Int} {d : List Nat} (h : Ord l l.length d) {r : Nat} (hr : r ≤ l.length) : (List.range l.length).countP (fun k => decide (r ≤ at' l k)) = l.length - r := by
 have h1 : (List.range l.length).countP (fun k => !decide (r ≤ at' l k)) = r := h.count hr (fun x hx => by rw [h.at (by omega)]; simp; omega) (fun x h1 h2 => by rw [h.at h2]; simp; omega)
 have h2 := List.length_eq_countP_add_countP (fun k => decide (r ≤ at' l k)) (l := List.range l.length)
 rw [List.length_range] at h2
 have h3 : (fun k => decide (¬ decide (r ≤ at' l k) = true)) = fun k => !decide (r ≤ at' l k) := by
  funext k
  by_cases c : r ≤ at' l k <;> simp [c]
 rw [h3, h1] at h2
 omega
end Go.Mv
namespace Go.Mv
open Go Classical
theorem a4u.lt {l : List Int} {i j : Nat} {d0 d : List Nat} (h0 : Ord l i d0) (h : a4u l i d0 j d) (hi : i < l.length) {x : Nat} (hx : x < l.length) : d.getD x default < l.length := by
 rw [h.2.2.1 x hx]
 have h4 := h0.2.2.2.1
 split
 ·have := h4 x (by have := h.1; omega); omega
 ·split
  ·exact hi
  ·split
   ·have := h4 (x - 1) (by omega); omega
   ·exact hx
noncomputable def plU (l : List Int) (k : Nat) : List Nat := (List.range k).map (at' l)
@[simp] theorem plU_length (l : List Int) (k : Nat) : (plU l k).length = k := by simp [plU]
def Fil (l : List Int) (d : List Nat) (r : Nat) (out : List Int) : Prop := r ≤ l.length ∧ out.length = l.length ∧ ∀ x, x < r → out.getD (d.getD x default) default = mR l d (x + 1)
theorem Fil.set {l : List Int} {d : List Nat} (h : Ord l l.length d) {r : Nat} {out : List Int} (hf : Fil l d r out) (hr : r < l.length) : Fil l d (r + 1) (out.set (d.getD r default) (mR l d (r + 1))) := by
 obtain ⟨h1, h2, h3⟩ := hf
 have hdr := h.2.2.2.1 r hr
 refine ⟨by omega, by simp [h2], fun x hx => ?_⟩
 rw [L3 _ _ _ _ (by omega)]
 by_cases e : x = r
 ·subst e; rw [if_pos rfl]
 ·rw [if_neg, h3 x (by omega)]
  intro he
  have := h.2.2.2.2.1 x r (by omega) hr
  rw [he] at this
  exact LTl.irr this
theorem Fil.fin {l : List Int} {d : List Nat} (h : Ord l l.length d) {r : Nat} {out : List Int} (hf : Fil l d r out) (hr : l.length ≤ r) : out = sdU l l.length := by
 obtain ⟨h1, h2, h3⟩ := hf
 refine J9 (d := default) (by simp [h2]) fun i hi => ?_
 obtain ⟨a1, a2⟩ := h.ix (k := i) (by omega)
 rw [c4c (by omega)]
 have := h3 (at' l i) (by omega)
 rw [a2, h.mR a1, a2] at this
 exact this
end Go.Mv
namespace Go.Mv
end Go.Mv
namespace Go.Mv
abbrev qV (q : Rat) : AV := .agg [iV q.num, iV (q.den : Int)]
theorem a3u (a b : Int) : Int.gcd b (a.tmod b) = Int.gcd a b := by
 unfold Int.gcd
 rw [Int.natAbs_tmod, Nat.gcd_comm b.natAbs, ← Nat.gcd_rec, Nat.gcd_comm]
theorem a7i (a b : Int) : (a.tmod b).natAbs ≤ a.natAbs := by rw [Int.natAbs_tmod]; exact Nat.mod_le _ _
theorem a7o (a : Int) {b : Int} (h : b ≠ 0) : (a.tmod b).natAbs < b.natAbs := by rw [Int.natAbs_tmod]; exact Nat.mod_lt _ (by omega)
theorem a7j (a : Int) : max a (-a) = (Int.gcd a 0 : Int) := by
 simp only [Int.gcd_zero_right]; omega
theorem V3 {u g : Int} (h : g ∣ u) : u.tdiv g = u / g := Int.tdiv_eq_ediv_of_dvd h
theorem V6 {u d : Int} (hd : 0 < d) : (Rat.divInt u d).num = u.tdiv (Int.gcd u d : Int) ∧ ((Rat.divInt u d).den : Int) = d.tdiv (Int.gcd u d : Int) := by
 rw [V3 (Int.gcd_dvd_left ..), V3 (Int.gcd_dvd_right ..), Rat.num_divInt, Rat.den_divInt, if_neg (by omega), Int.gcd_comm d u, Int.sign_eq_one_of_pos hd, Int.one_mul]
 refine ⟨rfl, ?_⟩
 have e : ((d.natAbs : Nat) : Int) = d := by omega
 rw [Int.natCast_ediv, e]
theorem c4g {u d : Int} (hd : d < 0) : (Rat.divInt u d).num = u.tdiv (-(Int.gcd u d : Int)) ∧ ((Rat.divInt u d).den : Int) = d.tdiv (-(Int.gcd u d : Int)) := by
 rw [← Rat.neg_divInt_neg]
 have := V6 (u := -u) (d := -d) (by omega)
 rw [Int.neg_gcd, Int.gcd_neg] at this
 rw [this.1, this.2, Int.neg_tdiv, Int.neg_tdiv, Int.tdiv_neg, Int.tdiv_neg]
 exact ⟨rfl, rfl⟩
theorem N8 {u d : Int} (hd : d ≠ 0) : 0 < (Int.gcd u d : Int) := by
 have := Int.gcd_pos_of_ne_zero_right u hd
 omega
theorem a7r {u d : Int} (hd : d ≠ 0) : (Int.gcd u d : Int) ≤ (d.natAbs : Int) := by
 have := Nat.le_of_dvd (by omega) (Int.gcd_dvd_natAbs_right u d)
 omega
theorem D9 (q : Rat) : 0 < (q.den : Int) := by have := q.den_nz; omega
def Sm (b : Int) (q : Rat) : Prop := -b ≤ q.num ∧ q.num ≤ b ∧ (q.den : Int) ≤ b
theorem a2u (u : Int) (g : Nat) : (u.tdiv (g : Int)).natAbs ≤ u.natAbs := by
 rw [Int.natAbs_tdiv]
 exact Nat.div_le_self _ _
theorem a4m {u d : Int} (hd : d ≠ 0) : (Rat.divInt u d).num.natAbs ≤ u.natAbs ∧ (Rat.divInt u d).den ≤ d.natAbs := by
 have key : ∀ (u d : Int), 0 < d → (Rat.divInt u d).num.natAbs ≤ u.natAbs ∧ (Rat.divInt u d).den ≤ d.natAbs := by
  intro u d hd
  have h := V6 (u := u) hd
  have h1 := a2u u (Int.gcd u d)
  have h2 := a2u d (Int.gcd u d)
  rw [← h.1] at h1
  rw [← h.2] at h2
  exact ⟨h1, by omega⟩
 by_cases h : 0 < d
 ·exact key u d h
 ·have := key (-u) (-d) (by omega)
  rw [Rat.neg_divInt_neg] at this
  omega
theorem Sm.fr {u d b : Int} (hd : d ≠ 0) (hu : -b ≤ u ∧ u ≤ b) (hd2 : -b ≤ d ∧ d ≤ b) : Sm b (Rat.divInt u d) := by
 have := a4m (u := u) hd
 unfold Sm; omega
theorem J2 {x y a b : Int} (hx : -a ≤ x ∧ x ≤ a) (hy : -b ≤ y ∧ y ≤ b) : -(a * b) ≤ x * y ∧ x * y ≤ a * b := by
 have h1 : (x * y).natAbs ≤ (a * b).natAbs := by
  rw [Int.natAbs_mul, Int.natAbs_mul]
  exact Nat.mul_le_mul (by omega) (by omega)
 have h2 : 0 ≤ a * b := Int.mul_nonneg (by omega) (by omega)
 omega
theorem b9v (p q : Rat) : p + q = Rat.divInt (p.num * q.den + q.num * p.den) ((p.den : Int) * q.den) := by
 rw [Rat.add_def', ← Rat.divInt_ofNat]; simp
theorem c8n (p q : Rat) : p - q = Rat.divInt (p.num * q.den - q.num * p.den) ((p.den : Int) * q.den) := by
 rw [Rat.sub_def', ← Rat.divInt_ofNat]; simp
theorem b3l (p q : Rat) : p * q = Rat.divInt (p.num * q.num) ((p.den : Int) * q.den) := by
 rw [Rat.mul_def', ← Rat.divInt_ofNat]; simp
theorem I9 (p q : Rat) : ((p.den : Int) * q.den) ≠ 0 := by
 have h1 := D9 p; have h2 := D9 q
 have := Int.mul_pos h1 h2
 omega
theorem c0o (p q : Rat) : p + q = Rat.divInt (p.num * ((q.den : Int).tdiv (Int.gcd p.den q.den : Int)) + q.num * ((p.den : Int).tdiv (Int.gcd p.den q.den : Int))) (((p.den : Int).tdiv (Int.gcd p.den q.den : Int)) * q.den) := by
 have hg := N8 (u := (p.den : Int)) (d := (q.den : Int)) (by have := D9 q; omega)
 obtain ⟨a, ha⟩ := Int.gcd_dvd_left (p.den : Int) (q.den : Int)
 obtain ⟨b, hb⟩ := Int.gcd_dvd_right (p.den : Int) (q.den : Int)
 rw [V3 (Int.gcd_dvd_left ..), V3 (Int.gcd_dvd_right ..)]
 have ea : (p.den : Int) / (Int.gcd (p.den : Int) (q.den : Int) : Int) = a := by
  conv => lhs; lhs; rw [ha]
  exact Int.mul_ediv_cancel_left _ (by omega)
 have eb : (q.den : Int) / (Int.gcd (p.den : Int) (q.den : Int) : Int) = b := by
  conv => lhs; lhs; rw [hb]
  exact Int.mul_ediv_cancel_left _ (by omega)
 rw [ea, eb, b9v]
 have hp := D9 p
 have hq := D9 q
 have ha0 : a ≠ 0 := by intro h; rw [h] at ha; omega
 rw [Rat.divInt_eq_divInt_iff (I9 p q) (Int.mul_ne_zero ha0 (by omega))]
 generalize (Int.gcd (p.den : Int) (q.den : Int) : Int) = g at *
 rw [ha, hb]
 grind
theorem a8q (p q : Rat) : (p - q).num < 0 ↔ p < q := by
 have h : 0 ≤ (p - q).num ↔ 0 ≤ p - q := Rat.num_nonneg
 constructor
 ·intro h1
  have h2 : ¬ 0 ≤ p - q := fun h3 => by have := h.2 h3; omega
  grind
 ·intro h1
  have h2 : ¬ 0 ≤ p - q := by grind
  have h3 : ¬ 0 ≤ (p - q).num := fun h4 => h2 (h.1 h4)
  omega
theorem W5 (q : Rat) : (-q).num = -q.num ∧ (-q).den = q.den := ⟨rfl, rfl⟩
theorem c2a (p q : Rat) : (p * q).num = (Rat.divInt p.num (q.den : Int)).num * (Rat.divInt q.num (p.den : Int)).num ∧ ((p * q).den : Int) = ((Rat.divInt p.num (q.den : Int)).den : Int) * ((Rat.divInt q.num (p.den : Int)).den : Int) := by
 obtain ⟨A, hA⟩ : ∃ A, A = Rat.divInt p.num (q.den : Int) := ⟨_, rfl⟩
 obtain ⟨B, hB⟩ : ∃ B, B = Rat.divInt q.num (p.den : Int) := ⟨_, rfl⟩
 rw [← hA, ← hB]
 have hp := D9 p
 have hq := D9 q
 -- the value
 have hv : p * q = A * B := by
  rw [hA, hB, Rat.divInt_mul_divInt, b3l, Int.mul_comm (q.den : Int)]
 have fA := V6 (u := p.num) hq
 have fB := V6 (u := q.num) hp
 rw [← hA] at fA
 rw [← hB] at fB
 have dvd1 : A.num.natAbs ∣ p.num.natAbs := by
  rw [fA.1, Int.natAbs_tdiv]
  exact Nat.div_dvd_of_dvd (Int.gcd_dvd_natAbs_left ..)
 have dvd2 : A.den ∣ q.den := by
  have e : A.den = q.den / Int.gcd p.num (q.den : Int) := by
   have := fA.2; rw [V3 (Int.gcd_dvd_right ..)] at this; omega
  rw [e]
  exact Nat.div_dvd_of_dvd (by have := Int.gcd_dvd_natAbs_right p.num (q.den : Int); simpa using this)
 have dvd3 : B.num.natAbs ∣ q.num.natAbs := by
  rw [fB.1, Int.natAbs_tdiv]
  exact Nat.div_dvd_of_dvd (Int.gcd_dvd_natAbs_left ..)
 have dvd4 : B.den ∣ p.den := by
  have e : B.den = p.den / Int.gcd q.num (p.den : Int) := by
   have := fB.2; rw [V3 (Int.gcd_dvd_right ..)] at this; omega
  rw [e]
  exact Nat.div_dvd_of_dvd (by have := Int.gcd_dvd_natAbs_right q.num (p.den : Int); simpa using this)
 have c1 : A.num.natAbs.Coprime A.den := A.reduced
 have c2 : B.num.natAbs.Coprime B.den := B.reduced
 have c3 : A.num.natAbs.Coprime B.den := Nat.Coprime.coprime_dvd_left dvd1 (Nat.Coprime.coprime_dvd_right dvd4 p.reduced)
 have c4 : B.num.natAbs.Coprime A.den := Nat.Coprime.coprime_dvd_left dvd3 (Nat.Coprime.coprime_dvd_right dvd2 q.reduced)
 have cop : (A.num * B.num).natAbs.Coprime (A.den * B.den) := by
  rw [Int.natAbs_mul]
  exact Nat.Coprime.mul_left (Nat.Coprime.mul_right c1 c3) (Nat.Coprime.mul_right c4 c2)
 rw [hv, b3l]
 have hpos : 0 < ((A.den : Int) * B.den) := Int.mul_pos (D9 A) (D9 B)
 have f := V6 (u := A.num * B.num) hpos
 have g1 : Int.gcd (A.num * B.num) ((A.den : Int) * B.den) = 1 := by
  unfold Int.gcd
  rw [show ((A.den : Int) * B.den).natAbs = A.den * B.den by rw [Int.natAbs_mul]; simp]
  exact cop
 rw [g1] at f
 simpa using f
end Go.Mv
namespace Go.Mv
theorem c6l {p q : Rat} (h1 : p.num = q.num) (h2 : p.den = q.den) : p = q := Rat.ext h1 h2
theorem b1g (p q : Rat) : ((p.den : Int).tdiv (Int.gcd p.den q.den : Int)) * q.den ≠ 0 := by
 have hp := D9 p
 have hq := D9 q
 have hg := N8 (u := (p.den : Int)) (d := (q.den : Int)) (by omega)
 obtain ⟨a, ha⟩ := Int.gcd_dvd_left (p.den : Int) (q.den : Int)
 rw [V3 (Int.gcd_dvd_left ..)]
 have ea : (p.den : Int) / (Int.gcd (p.den : Int) (q.den : Int) : Int) = a := by
  conv => lhs; lhs; rw [ha]
  exact Int.mul_ediv_cancel_left _ (by omega)
 rw [ea]
 refine Int.mul_ne_zero (fun h => ?_) (by omega)
 rw [h] at ha; omega
def vs (l : List Int) : Bool := decide (1 ≤ l.length) && decide (l.length ≤ 8) && J3 (-30) 30 l
theorem b4g (n : Nat) : (n : Int).tdiv 2 = ((n / 2 : Nat) : Int) := rfl
abbrev a5s (a : Int × Int) : AV := .agg [iV a.1, iV a.2]
section
variable {cx : Cx} {keep : List Nat} {ops0 : Array Oper} {r : List Oper} {A : Asr} {Q : Asr → List Log → Prop} {d : Nat} {ty : Nat} {pos : String} {aft : Array Edge}
theorem c1j {x : Operand} {T f : Nat} {ls : List AV} {o : Nat × Nat} {v : AV} (hx : opd A x = some (.agg ls)) (hT : (match (tyS cx.P T).k with | .struct fs => fs[f]? | _ => none) = some o)
  (hp : partF cx.P o.2 (ls.drop o.1) = some v) (hk : slotOk keep (.t d) v = true)
  (h : XR cx keep ops0 r ((.t d, v) :: A) fun A' lg => Q A' ((rds x, [.t d]) :: lg)) : XR cx keep ops0 (⟨some d, .field T x f, ty, pos, aft, none⟩ :: r) A Q := by
 refine H0 (fun o ho => by simp only [aopV, ho]) ?_ hk h
 simp only [opV, B3, B2 hx, fieldA]
 split at hT
 ·rename_i fs hfs
  simp only [hfs, hT, a0l hp, List.append_nil, and_self]
 ·cases hT
end
section
variable {cx : Cx} {keep : List Nat} {ops0 : Array Oper} {r : List Oper} {A : Asr} {Q : Asr → List Log → Prop} {d : Nat} {ty : Nat} {pos : String} {aft : Array Edge}
end
def mkI (k : Int) (n : Nat) : List Int := (List.range n).map fun i : Nat => k + (i : Int)
@[simp] theorem mkI_length (k : Int) (n : Nat) : (mkI k n).length = n := by simp [mkI]
def mkF (k : Int) (n : Nat) : List (Int × Int) := (List.range n).map fun i : Nat => (k + 2 * (i : Int), k + 2 * (i : Int) + 1)
@[simp] theorem mkF_length (k : Int) (n : Nat) : (mkF k n).length = n := by simp [mkF]
theorem a0j : ∀ (cs ls : List AV), (ls.all fun l => !G0 l) = true → S9 cs ls = true
 | [], [], _ => rfl
 | _ :: _, [], _ => rfl
 | [], l :: ls, h => by
  simp only [List.all_cons, Bool.and_eq_true] at h
  simp only [S9, h.1, Bool.true_and]; exact a0j [] ls h.2
 | c :: cs, l :: ls, h => by
  simp only [List.all_cons, Bool.and_eq_true] at h
  simp only [S9, h.1, Bool.true_or, Bool.true_and]; exact a0j cs ls h.2
theorem b9h {α : Type} {f : α → AV} (hf : ∀ a, ((leaves (f a)).all fun l => !G0 l) = true) (ys : List α) : ∀ es, nilFit es (ys.map f) = true := by
 induction ys with
 | nil => intro es; cases es <;> rfl
 | cons y ys ih =>
  intro es
  cases es with
  | nil => simp only [List.map_cons, nilFit, Bool.and_eq_true]; exact ⟨a0j _ _ (hf y), ih []⟩
  | cons e es => simp only [List.map_cons, nilFit, Bool.and_eq_true]; exact ⟨a0j _ _ (hf y), ih es⟩
theorem c4m (ys : List Rat) (es : List AV) : nilFit es (ys.map qV) = true := b9h (fun _ => rfl) ys es
def c5j (xs : List Int) : List Int := xs.foldl (fun a x => if a.getLast? = some x then a else a ++ [x]) []
@[simp] theorem compactI_nil : c5j [] = [] := rfl
instance : Inhabited Rat := ⟨0⟩
def sortQ (xs : List Rat) : List Rat := xs.mergeSort fun x y => decide (x ≤ y)
theorem a3e (xs : List Rat) : (sortQ xs).Perm xs := List.mergeSort_perm _ _
theorem b3u (xs : List Rat) : (sortQ xs).Pairwise (· ≤ ·) := by
 have := List.pairwise_mergeSort (le := fun x y : Rat => decide (x ≤ y)) (fun a b c h1 h2 => by simp at *; exact Rat.le_trans h1 h2) (fun a b => by simp; exact Rat.le_total) xs
 unfold sortQ; simpa using this
@[simp] theorem Q5 (xs : List Rat) : (sortQ xs).length = xs.length := List.length_mergeSort _
theorem b3q {xs ys : List Rat} (h1 : xs.Pairwise (· ≤ ·)) (h2 : ys.Pairwise (· ≤ ·)) (hp : xs.Perm ys) : xs = ys :=
 List.Perm.eq_of_pairwise (le := (· ≤ ·)) (fun a b _ _ h1 h2 => Rat.le_antisymm h1 h2) h1 h2 hp
theorem c5r {xs ys : List Rat} (hp : ys.Perm xs) (hs : ys.Pairwise (· ≤ ·)) : ys = sortQ xs := b3q hs (b3u xs) (hp.trans (a3e xs).symm)
theorem F5 {α : Type} [Inhabited α] {xs : List α} {i : Nat} (h : i < xs.length) : xs.take (i + 1) = xs.take i ++ [xs.getD i default] := by
 rw [List.take_add_one, List.getD_eq_getElem?_getD, List.getElem?_eq_getElem h]; rfl
theorem c8k {p q : Rat} (h : qV p = qV q) : p = q := by
 simp only [qV, AV.agg.injEq, List.cons.injEq, AV.val.injEq, Value.int.injEq, true_and, and_true] at h
 exact c6l h.1 (by omega)
theorem a9g : ∀ {xs ys : List Rat}, xs.map qV = ys.map qV → xs = ys
 | [], [], _ => rfl
 | [], _ :: _, h => by cases h
 | _ :: _, [], h => by cases h
 | x :: xs, y :: ys, h => by
  rw [List.map_cons, List.map_cons] at h
  injection h with h1 h2
  rw [c8k h1, a9g h2]
noncomputable def Z6 (cmp : Nat) : List AV → Option (AV × List (List AV))
 | [.own 2 es, .clo k []] => open Classical in if h : k = cmp ∧ es.length ≤ O8 ∧ ∃ xs : List Rat, es = xs.map qV ∧ ∀ x ∈ xs, Sm 1000000000 x then some (.tup [], [(sortQ h.2.2.choose).map qV]) else none
 | _ => none
theorem b5w (cmp : Nat) {xs : List Rat} (hl : xs.length ≤ O8) (hx : ∀ x ∈ xs, Sm 1000000000 x) : Z6 cmp [.own 2 (xs.map qV), .clo cmp []] = some (.tup [], [(sortQ xs).map qV]) := by
 have h : cmp = cmp ∧ (xs.map qV).length ≤ O8 ∧ ∃ ys : List Rat, xs.map qV = ys.map qV ∧ ∀ x ∈ ys, Sm 1000000000 x := ⟨rfl, by simpa using hl, xs, rfl, hx⟩
 have e : Z6 cmp [.own 2 (xs.map qV), .clo cmp []] = open Classical in if h : cmp = cmp ∧ (xs.map qV).length ≤ O8 ∧ ∃ ys : List Rat, xs.map qV = ys.map qV ∧ ∀ x ∈ ys, Sm 1000000000 x then some (.tup [], [(sortQ h.2.2.choose).map qV]) else none := rfl
 rw [e, dif_pos h]
 have := a9g h.2.2.choose_spec.1
 rw [← this]
theorem b3c {cmp : Nat} {args : List AV} {r : AV × List (List AV)} (h : Z6 cmp args = some r) : ∃ xs : List Rat, args = [.own 2 (xs.map qV), .clo cmp []] ∧ xs.length ≤ O8 ∧ (∀ x ∈ xs, Sm 1000000000 x) ∧ r = (.tup [], [(sortQ xs).map qV]) := by
 unfold Z6 at h
 split at h
 ·rename_i es k
  split at h
  ·rename_i hh
   cases h
   obtain ⟨rfl, hl, hx⟩ := id hh
   have hs := hh.2.2.choose_spec
   refine ⟨hh.2.2.choose, by rw [← hs.1], ?_, hs.2, rfl⟩
   have := congrArg List.length hs.1
   rw [List.length_map] at this
   rw [← this]; exact hl
  ·cases h
 ·cases h
end Go.Mv
end

section
namespace Go.Mv
open Go Go.RowKit
def cq (xs : List Rat) (t : Nat) : Value := .int .i64 (if t % 2 = 0 then (xs.getD (t / 2) default).num else ((xs.getD (t / 2) default).den : Int))
def cellsQ (xs : List Rat) : Array Value := (Array.range (xs.length * 2)).map (cq xs)
@[simp] theorem b6g (xs : List Rat) : (cellsQ xs).size = xs.length * 2 := by simp [cellsQ]
theorem a1t {xs : List Rat} {t : Nat} (h : t < xs.length * 2) : (cellsQ xs)[t]! = cq xs t := by
 rw [getElem!_pos (cellsQ xs) t (by simpa using h)]
 simp [cellsQ]
theorem a2l {xs : List Rat} {i j : Nat} {l : AV} (h : leafAt (xs.map qV) i j = some l) : ∃ n : Int, i < xs.length ∧ j < 2 ∧ l = iV n ∧ cq xs (i * 2 + j) = .int .i64 n := by
 unfold leafAt at h
 rw [List.getElem?_map] at h
 cases hx : xs[i]? with
 | none => simp [hx] at h
 | some x =>
  have hi : i < xs.length := (List.getElem?_eq_some_iff.1 hx).1
  have hg : xs.getD i default = x := by rw [List.getD_eq_getElem?_getD, hx]; rfl
  simp only [hx, Option.map_some, Option.bind_some, qV, leaves] at h
  match j with
  | 0 => simp at h; exact ⟨x.num, hi, by omega, h.symm, by unfold cq; rw [if_pos (by omega), show (i * 2 + 0) / 2 = i by omega, hg]⟩
  | 1 => simp at h; exact ⟨(x.den : Int), hi, by omega, h.symm, by unfold cq; rw [if_neg (by omega), show (i * 2 + 1) / 2 = i by omega, hg]⟩
  | j + 2 => simp at h
theorem c6e {xs : List Rat} {t : Nat} (h : t < xs.length * 2) : ∃ n : Int, leafAt (xs.map qV) (t / 2) (t % 2) = some (iV n) ∧ cq xs t = .int .i64 n := by
 have hi : t / 2 < xs.length := by omega
 unfold leafAt
 rw [List.getElem?_map, List.getElem?_eq_getElem hi]
 have hg : xs.getD (t / 2) default = xs[t / 2] := by rw [List.getD_eq_getElem?_getD, List.getElem?_eq_getElem hi]; rfl
 simp only [Option.map_some, Option.bind_some, qV, leaves]
 rcases (by omega : t % 2 = 0 ∨ t % 2 = 1) with e | e
 ·rw [e]; exact ⟨_, rfl, by unfold cq; rw [if_pos e, hg]⟩
 ·rw [e]; exact ⟨_, rfl, by unfold cq; rw [if_neg (by omega), hg]⟩
theorem c6x (xs : List Rat) : H9 (xs.map qV) = true := a7k fun _ => rfl
section
variable {P : Program} {Γ : Env}
theorem a9i {f g : Nat} {md : Nat → Nat} (xs ys : List Rat) (hx : xs.length ≤ O8) (hy : ys.length = xs.length) (hmd : md 0 = 1)
  (hnil : ∀ (w : World) (a : Option Addr) (c : Nat), Calls P f #[.slice a 0 c, .func (.func g) #[] #[]] w fun e w' => e = .returned (.tuple #[]) ∧ w' = w)
  (hrow : ∀ (w : World) (b o c : Nat), Γ.G w → (∀ k, Γ.gb k → k < w.heap.size) → Sort.Holds id w b o (cellsQ xs) → b < w.heap.size →
   Calls P f #[.slice (some ⟨b, o, none⟩) xs.length c, .func (.func g) #[] #[]] w fun e w' => e = .returned (.tuple #[]) ∧ ∃ n os, w' = Sort.grow (Sort.putRow id (Sort.ahead w n) b o (cellsQ ys)) os) :
  T4 Γ P md f [.own 2 (xs.map qV), .clo g []] (.tup []) [ys.map qV] := by
 intro w A O0 ν0 D vals hOA R hA
 have h0 := R.slots 0 (by simp)
 have h1 := R.slots 1 (by simp)
 have hsz : vals.size = 2 := by simpa using R.size
 obtain ⟨v, v1, rfl⟩ : ∃ v v1, vals = #[v, v1] := by
  match vals, hsz with
  | ⟨[v, v1]⟩, _ => exact ⟨v, v1, rfl⟩
 have h0' : RS (initLoc md [.own 2 (xs.map qV), .clo g []]) ν0 w D (.sl 0 1 none 0 (xs.map qV).length) v := h0
 have h1' : RS (initLoc md [.own 2 (xs.map qV), .clo g []]) ν0 w D (.clo g []) v1 := h1
 obtain ⟨cs, rfl, hcs, _⟩ := h1'.clo_list
 obtain rfl : cs = #[] := Array.size_eq_zero_iff.1 (by simpa using hcs)
 have hob : initLoc md [.own 2 (xs.map qV), .clo g []] (.h 0) = .obj 1 1 2 (xs.map qV) := by simp [initLoc, hmd]
 have hob2 : noSlots (initLoc md [.own 2 (xs.map qV), .clo g []]) (.h 0) = .obj 1 1 2 (xs.map qV) := hob
 have hcid : cidAll md 0 [.own 2 (xs.map qV), .clo g []] = [(0, 1, 2)] := by simp [cidAll, J4, cidCaps, hmd]
 have hres : ∀ {F : Fl} {D : Nat → Prop} {w : World}, a0o F D w (.tup []) (.tuple #[]) := .inl ⟨[], #[], rfl, rfl, rfl, fun k l h => by simp at h⟩
 obtain ⟨⟨a, cap, rfl, hcap⟩, _, _, hS⟩ := h0'.sl_inv
 have hS := hS 1 2 (xs.map qV) (by unfold nodeAt; rw [hob]; simp)
 have R0 := R.noSlots
 rw [List.length_map] at hcap hS ⊢
 by_cases hn : xs = []
 ·subst hn
  have hy0 : ys = [] := List.length_eq_zero_iff.1 hy
  subst hy0
  refine (hnil w a cap).mono ?_
  rintro e w' ⟨rfl, rfl⟩
  refine ⟨_, rfl, Fl.emp, D, _, ν0, R0, ?_, hres, fun _ _ h => by cases h⟩
  rw [hcid]
  unfold outsOf
  rw [hob2]
  simp [outsOf, H9]
 ·obtain ⟨a', cap', he, _, hb⟩ := hS
  cases he
  have hpos : 0 < xs.length := List.length_pos_iff.2 hn
  rcases hb with hb | ⟨b, o, hν, ha, hbd⟩
  ·omega
  ·rw [Nat.zero_mul, Nat.add_zero] at ha
   subst ha
   have hRO := R0.objs 0 1 1 2 (xs.map qV) hob2
   have hT := hRO.top
   rw [hν] at hT
   obtain ⟨c, ety, hc1, hc2, _, _, hc3⟩ := hT
   rw [List.length_map] at hc2
   have hget : ∀ t, t < xs.length * 2 → c[o + t]? = some (cq xs t) := by
    intro t ht
    obtain ⟨n, h2, h3⟩ := c6e ht
    obtain ⟨v, hv, hr⟩ := hc3 _ _ _ h2
    have h4 : v = Value.int .i64 n := by
     have hr' : RS (noSlots (initLoc md [.own 2 (xs.map qV), .clo g []])) ν0 w D (iV n) v := hr
     cases hr' with | data _ _ h => cases h; rfl
    rw [h4, ← h3, show o + t / 2 * 2 + t % 2 = o + t by omega] at hv
    exact hv
   have hblt : b < w.heap.size := (Array.getElem?_eq_some_iff.1 hc1).1
   refine (hrow w b o cap R.gi (fun k hk => (R.gO k hk).2) (fun j hj => ?_) hblt).mono ?_
   ·have hj' : j < xs.length * 2 := by simpa using hj
    refine ⟨?_, ?_⟩
    ·unfold World.cell?
     simp only [hc1]
     rw [a1t hj']
     simp [hget j hj']
    ·unfold World.frozen?
     simp only [hc1]
     simp
   ·rintro e w' ⟨rfl, n, os, rfl⟩
    have hheap : ∀ k, k < w.heap.size → (Sort.grow (Sort.putRow id (Sort.ahead w n) b o (cellsQ ys)) os).heap[k]? =
      if k = b then some (.cells (Sort.putCells id o (cellsQ ys) c) ety (0, 0)) else w.heap[k]? := by
     intro k hk
     have h1 : k < (Sort.putRow id (Sort.ahead w n) b o (cellsQ ys)).heap.size := by simpa [Sort.ahead] using hk
     simp only [Sort.grow]
     rw [Array.getElem?_append_left h1]
     simp only [Sort.putRow, Sort.mapBlock, Sort.ahead, Array.getElem?_modify]
     by_cases e : b = k
     ·subst e
      simp [hc1, Sort.onCells]
     ·rw [if_neg e, if_neg (fun h => e h.symm)]
    have W : WStep Γ w (Sort.grow (Sort.putRow id (Sort.ahead w n) b o (cellsQ ys)) os) b := by
     refine ⟨by simp [Sort.grow, Sort.ahead], rfl, rfl, rfl, fun _ => by simp [Sort.grow, Sort.putRow, Sort.mapBlock, Sort.ahead], fun k hk hne => ?_, fun k hk => ?_⟩
     ·rw [hheap k hk, if_neg hne]
     ·unfold csize
      rw [hheap k hk]
      by_cases e : k = b
      ·subst e
       rw [if_pos rfl, hc1]
       exact S6 _ _ _ _
      ·rw [if_neg e]
    have hRN : RN (Sort.grow (Sort.putRow id (Sort.ahead w n) b o (cellsQ ys)) os) (RS (noSlots (initLoc md [.own 2 (xs.map qV), .clo g []])) ν0 w D) (ν0 0) (ν0 0 none) (1 = 3 ∨ 1 = 4) 2 (ys.map qV) := by
     rw [hν]
     refine ⟨_, ety, by rw [hheap b hblt, if_pos rfl], ?_, fun _ e he => ?_, fun h => by simp at h, fun i j l hl => ?_⟩
     ·rw [S6, List.length_map, hy]; omega
     ·obtain ⟨x, _, rfl⟩ := List.mem_map.1 he
      rfl
     ·obtain ⟨m, hi, hj, rfl, hc⟩ := a2l hl
      refine ⟨.int .i64 m, ?_, RS.data _ _ (.val _)⟩
      have hlt : o + i * 2 + j < c.size := by omega
      have ht : i * 2 + j < ys.length * 2 := by omega
      simp only [Sort.putCells, Array.getElem?_mapIdx]
      rw [Array.getElem?_eq_getElem hlt]
      simp only [Option.map_some, b6g]
      rw [if_pos (by omega), show o + i * 2 + j - o = i * 2 + j by omega, a1t ht, hc]
      rfl
    have hno : ∀ (i j s' : Nat) (es2 : List AV), leafAt (ys.map qV) i j = some (.own s' es2) → False := fun i j s' es2 h => by obtain ⟨m, _, _, h, _⟩ := a2l h; cases h
    have hno2 : ∀ (i j s' : Nat) (es2 : List AV), leafAt (xs.map qV) i j = some (.own s' es2) → False := fun i j s' es2 h => by obtain ⟨m, _, _, h, _⟩ := a2l h; cases h
    obtain ⟨R1, _⟩ := R0.storeTop W hob2 (by decide) ⟨o, hν⟩ (ν0 0) rfl hRN (fun i j h => by obtain ⟨m, _, _, h, _⟩ := a2l h; cases h) (fun _ _ => False) (fun _ _ => (0, 0, 0)) (fun _ => False)
     (fun i j s' es2 h => (hno _ _ _ _ h).elim) (fun i j i' j' s1 e1 s2 e2 _ _ h => h.elim) (fun _ => rfl) (F' := Fl.emp) (fun k h => h.elim) (fun k _ => rfl)
    refine ⟨_, rfl, Fl.emp, D, _, _, R1, ?_, hres, fun _ _ h => by cases h⟩
    rw [hcid]
    have hi : H9 (ys.map qV) = true := c6x ys
    simp [outsOf, St.upd_eq, hi]
end
end Go.Mv
namespace Go.Mv
theorem c8y {w : World} {D : Nat → Prop} (x : Rat) : RV w D (qV x) (.agg #[.int .i64 x.num, .int .i64 (x.den : Int)]) := by
 refine .agg _ _ rfl fun i l h => ?_
 match i, h with
 | 0, h => cases h; exact .val _
 | 1, h => cases h; exact .val _
def vpS (xs ys : List Int) : Bool := decide (xs.length = ys.length) && decide (xs.length ≤ 7) && J3 (-12) 12 xs && J3 (-12) 12 ys
def wd (xs : List Int) : Bool := xs.any fun x => x != xs.getD 0 default
def vc (xs ys : List Int) : Bool := vpS xs ys && wd xs
theorem b2h {xs ys : List Int} : vpS xs ys = true ↔ xs.length = ys.length ∧ xs.length ≤ 7 ∧ J3 (-12) 12 xs = true ∧ J3 (-12) 12 ys = true := by
 simp [vpS, and_assoc]
theorem a8t {xs ys : List Int} : vc xs ys = true ↔ xs.length = ys.length ∧ xs.length ≤ 7 ∧ J3 (-12) 12 xs = true ∧ J3 (-12) 12 ys = true ∧ wd xs = true := by
 simp [vc, vpS, and_assoc]
theorem a9f {xs : List Int} : wd xs = true ↔ ∃ i, i < xs.length ∧ xs.getD i default ≠ xs.getD 0 default := by
 unfold wd
 rw [List.any_eq_true]
 constructor
 ·rintro ⟨x, hx, h⟩
  obtain ⟨i, hi, rfl⟩ := L4 hx
  exact ⟨i, hi, by simpa using h⟩
 ·rintro ⟨i, hi, h⟩
  exact ⟨_, I8 hi, by simpa using h⟩
theorem c9x {xs : List Int} (h : ∀ i, i < xs.length → xs.getD i default = xs.getD 0 default) : wd xs = false := by
 cases e : wd xs
 ·rfl
 ·obtain ⟨i, hi, h2⟩ := a9f.1 e
  exact absurd (h i hi) h2
theorem c9m {xs : List Int} {i : Nat} (hi : i < xs.length) (h : xs.getD i default ≠ xs.getD 0 default) : wd xs = true := a9f.2 ⟨i, hi, h⟩
theorem c1t {xs : List Int} {a b : Int} (ha : a ∈ xs) (ha2 : ∀ x ∈ xs, a ≤ x) (hb : b ∈ xs) (hb2 : ∀ x ∈ xs, x ≤ b) : decide (a < b) = wd xs := by
 cases e : wd xs
 ·rw [decide_eq_false_iff_not]
  intro h
  have key : ∀ x ∈ xs, x = xs.getD 0 default := fun x hx => Classical.byContradiction fun h => by
   obtain ⟨i, hi, rfl⟩ := L4 hx
   rw [c9m hi h] at e; cases e
  rw [key a ha, key b hb] at h
  omega
 ·rw [decide_eq_true_eq]
  obtain ⟨i, hi, h⟩ := a9f.1 e
  have h1 := ha2 _ (I8 hi)
  have h2 := hb2 _ (I8 hi)
  have h3 := ha2 _ (I8 (xs := xs) (i := 0) (by omega))
  have h4 := hb2 _ (I8 (xs := xs) (i := 0) (by omega))
  omega
theorem a5m {xs : List Int} (h : wd xs = true) : 2 ≤ xs.length := by
 obtain ⟨i, hi, h2⟩ := a9f.1 h
 by_cases h0 : i = 0
 ·subst h0; exact absurd rfl h2
 ·omega
theorem b6u {xs ys : List Int} (h : ∀ j, j < xs.length → j < ys.length ∧ (-12 ≤ xs.getD j default ∧ xs.getD j default ≤ 12) ∧ (-12 ≤ ys.getD j default ∧ ys.getD j default ≤ 12)) :
  vpS xs ys = (decide ((xs.length : Int) = (ys.length : Int)) && decide ((xs.length : Int) ≤ 7)) := by
 by_cases hl : xs.length = ys.length
 ·have h1 : J3 (-12) 12 xs = true := a1u.2 fun j hj => (h j hj).2.1
  have h2 : J3 (-12) 12 ys = true := a1u.2 fun j hj => (h j (by omega)).2.2
  simp only [vpS, h1, h2, Bool.and_true]
  congr 1 <;> rw [decide_eq_decide] <;> omega
 ·simp only [vpS, hl, decide_false, Bool.false_and]
  rw [decide_eq_false (show ¬ ((xs.length : Int) = (ys.length : Int)) by omega), Bool.false_and]
theorem b2l {xs ys : List Int} {j : Nat} (hj : j < xs.length) (h : ¬ (j < ys.length ∧ (-12 ≤ xs.getD j default ∧ xs.getD j default ≤ 12) ∧ (-12 ≤ ys.getD j default ∧ ys.getD j default ≤ 12))) : vpS xs ys = false := by
 cases e : vpS xs ys
 ·rfl
 ·obtain ⟨h1, _, h2, h3⟩ := b2h.1 e
  exact absurd ⟨by omega, a1u.1 h2 j hj, a1u.1 h3 j (by omega)⟩ h
theorem c8w {xs ys : List Int} (h : ¬ (xs.length = ys.length ∧ xs.length ≤ 7 ∧ 1 ≤ xs.length)) : (vpS xs ys && decide (1 ≤ xs.length)) = false := by
 cases e : (vpS xs ys && decide (1 ≤ xs.length))
 ·rfl
 ·rw [Bool.and_eq_true, decide_eq_true_eq] at e
  have := b2h.1 e.1
  exact absurd ⟨this.1, this.2.1, e.2⟩ h
theorem c9v {xs ys : List Int} (h1 : xs.length = ys.length) (h2 : xs.length ≤ 7) (h3 : 1 ≤ xs.length) : (vpS xs ys && decide (1 ≤ xs.length)) = (J3 (-12) 12 xs && J3 (-12) 12 ys) := by
 simp only [vpS, decide_eq_true h1, decide_eq_true h2, decide_eq_true h3, Bool.true_and, Bool.and_true]
def slq (xs ys : List Int) (i k : Nat) : Rat := Rat.divInt (ys.getD i default - ys.getD k default) (xs.getD i default - xs.getD k default)
def slV (xs ys : List Int) (i : Nat) : Nat → List Rat
 | 0 => []
 | k + 1 => if xs.getD i default = xs.getD k default then slV xs ys i k else slV xs ys i k ++ [slq xs ys i k]
def slU (xs ys : List Int) : Nat → List Rat
 | 0 => []
 | i + 1 => slU xs ys i ++ slV xs ys i i
def slA (xs ys : List Int) : List Rat := slU xs ys xs.length
def slR (xs ys : List Int) : List Rat := if vc xs ys = true then sortQ (slA xs ys) else []
theorem b4n {xs ys : List Int} {i k : Nat} (h : xs.getD i default ≠ xs.getD k default) : slV xs ys i (k + 1) = slV xs ys i k ++ [slq xs ys i k] := by rw [slV, if_neg h]
theorem b8l {xs ys : List Int} {i k : Nat} (h : xs.getD i default = xs.getD k default) : slV xs ys i (k + 1) = slV xs ys i k := by rw [slV, if_pos h]
theorem a7f (xs ys : List Int) (i : Nat) : ∀ k, (slV xs ys i k).length ≤ k
 | 0 => Nat.le_refl _
 | k + 1 => by
  have := a7f xs ys i k
  rw [slV]; split
  ·omega
  ·rw [List.length_append]; simp only [List.length_singleton]; omega
theorem a2i (xs ys : List Int) : ∀ i, (slU xs ys i).length ≤ i * i
 | 0 => Nat.le_refl _
 | i + 1 => by
  have h1 := a2i xs ys i
  have h2 := a7f xs ys i i
  rw [slU, List.length_append, Nat.succ_mul, Nat.mul_succ]; omega
theorem Sm.mono {a b : Int} {q : Rat} (h : Sm a q) (hab : a ≤ b) : Sm b q := by obtain ⟨h1, h2, h3⟩ := h; exact ⟨by omega, by omega, by omega⟩
theorem Sm.add {a b : Int} {p q : Rat} (hp : Sm a p) (hq : Sm b q) : Sm (2 * (a * b)) (p + q) := by
 obtain ⟨p1, p2, p3⟩ := hp
 obtain ⟨q1, q2, q3⟩ := hq
 have dp := D9 p
 have dq := D9 q
 have m1 := J2 (x := p.num) (y := (q.den : Int)) ⟨p1, p2⟩ ⟨by omega, q3⟩
 have m2 := J2 (x := q.num) (y := (p.den : Int)) ⟨q1, q2⟩ ⟨by omega, p3⟩
 have m3 := J2 (x := (p.den : Int)) (y := (q.den : Int)) ⟨by omega, p3⟩ ⟨by omega, q3⟩
 have e := Int.mul_comm b a
 rw [b9v]
 exact Sm.fr (I9 p q) ⟨by omega, by omega⟩ ⟨by omega, by omega⟩
theorem Sm.neg {a : Int} {p : Rat} (hp : Sm a p) : Sm a (-p) := by
 obtain ⟨p1, p2, p3⟩ := hp
 exact ⟨by rw [(W5 p).1]; omega, by rw [(W5 p).1]; omega, p3⟩
theorem Sm.sub {a b : Int} {p q : Rat} (hp : Sm a p) (hq : Sm b q) : Sm (2 * (a * b)) (p - q) := by rw [Rat.sub_eq_add_neg]; exact hp.add hq.neg
theorem Sm.mul {a b : Int} {p q : Rat} (hp : Sm a p) (hq : Sm b q) : Sm (a * b) (p * q) := by
 obtain ⟨p1, p2, p3⟩ := hp
 obtain ⟨q1, q2, q3⟩ := hq
 have dp := D9 p
 have dq := D9 q
 have m3 := J2 (x := (p.den : Int)) (y := (q.den : Int)) ⟨by omega, p3⟩ ⟨by omega, q3⟩
 have m4 := J2 (x := p.num) (y := q.num) ⟨p1, p2⟩ ⟨q1, q2⟩
 rw [b3l]
 exact Sm.fr (I9 p q) m4 m3
theorem b6k {n b : Int} (h : -b ≤ n ∧ n ≤ b) (hb : 1 ≤ b) : Sm b (n : Rat) := ⟨h.1, h.2, hb⟩
theorem b2t : Sm 2 (1 / 2 : Rat) := by refine ⟨?_, ?_, ?_⟩ <;> decide +kernel
theorem F4 {xs : List Int} {lo hi : Int} (h : J3 lo hi xs = true) (hl : lo ≤ 0 ∧ 0 ≤ hi) (i : Nat) : lo ≤ xs.getD i default ∧ xs.getD i default ≤ hi := by
 rcases Nat.lt_or_ge i xs.length with h1 | h1
 ·exact a1u.1 h i h1
 ·rw [List.getD_eq_getElem?_getD, List.getElem?_eq_none h1]; exact hl
theorem b2p {xs ys : List Int} (hx : J3 (-12) 12 xs = true) (hy : J3 (-12) 12 ys = true) {i k : Nat} (h : xs.getD i default ≠ xs.getD k default) : Sm 24 (slq xs ys i k) := by
 have h1 := F4 hx (by decide) i
 have h2 := F4 hx (by decide) k
 have h3 := F4 hy (by decide) i
 have h4 := F4 hy (by decide) k
 exact Sm.fr (by omega) ⟨by omega, by omega⟩ ⟨by omega, by omega⟩
theorem b9p {xs ys : List Int} (hx : J3 (-12) 12 xs = true) (hy : J3 (-12) 12 ys = true) (i : Nat) : ∀ k, ∀ q ∈ slV xs ys i k, Sm 24 q
 | 0, q, h => by simp [slV] at h
 | k + 1, q, h => by
  by_cases e : xs.getD i default = xs.getD k default
  ·rw [b8l e] at h; exact b9p hx hy i k q h
  ·rw [b4n e] at h
   rcases List.mem_append.1 h with h | h
   ·exact b9p hx hy i k q h
   ·rw [List.mem_singleton.1 h]; exact b2p hx hy e
theorem a0m {xs ys : List Int} (hx : J3 (-12) 12 xs = true) (hy : J3 (-12) 12 ys = true) : ∀ i, ∀ q ∈ slU xs ys i, Sm 24 q
 | 0, q, h => by simp [slU] at h
 | i + 1, q, h => by
  rw [slU] at h
  rcases List.mem_append.1 h with h | h
  ·exact a0m hx hy i q h
  ·exact b9p hx hy i i q h
theorem a4f {xs ys : List Int} (h : xs.length ≤ 7) : (slA xs ys).length ≤ 49 := by
 have := a2i xs ys xs.length
 have h2 := Nat.mul_le_mul h h
 unfold slA; omega
theorem c6u {xs ys : List Int} : (slR xs ys).length ≤ 49 := by
 unfold slR
 split
 ·rename_i h
  rw [Q5]; exact a4f (a8t.1 h).2.1
 ·simp
theorem c5i {xs ys : List Int} {i : Nat} : ∀ {k j : Nat}, j < k → xs.getD i default ≠ xs.getD j default → slq xs ys i j ∈ slV xs ys i k
 | 0, j, h, _ => by omega
 | k + 1, j, h, hne => by
  rcases Nat.lt_or_ge j k with h1 | h1
  ·have := c5i (ys := ys) h1 hne
   rw [slV]; split
   ·exact this
   ·exact List.mem_append_left _ this
  ·obtain rfl : j = k := by omega
   rw [b4n hne]; simp
theorem b2z {xs ys : List Int} : ∀ {n i j : Nat}, i < n → j < i → xs.getD i default ≠ xs.getD j default → slq xs ys i j ∈ slU xs ys n
 | 0, i, j, h, _, _ => by omega
 | n + 1, i, j, h, hj, hne => by
  rw [slU]
  rcases Nat.lt_or_ge i n with h1 | h1
  ·exact List.mem_append_left _ (b2z h1 hj hne)
  ·obtain rfl : i = n := by omega
   exact List.mem_append_right _ (c5i hj hne)
theorem a4x {xs ys : List Int} (h : wd xs = true) : 0 < (slA xs ys).length := by
 obtain ⟨i, hi, hne⟩ := a9f.1 h
 have h0 : i ≠ 0 := fun e => by subst e; exact hne rfl
 exact List.length_pos_of_mem (b2z (ys := ys) hi (show 0 < i by omega) hne)
theorem a5a {n : Nat} (h : 1 ≤ n) : ((n : Int) - 1).tdiv 2 = (((n - 1) / 2 : Nat) : Int) := by
 rw [show (n : Int) - 1 = ((n - 1 : Nat) : Int) by omega]; rfl
theorem a4c {b : Int} {l : List Rat} (h : ∀ q ∈ l, Sm b q) : ∀ q ∈ sortQ l, Sm b q := fun q hq => h q ((a3e l).mem_iff.1 hq)
def tri {α : Type} (f : Nat → Nat → List α) (n : Nat) : List α := (List.range n).flatMap fun i => (List.range i).flatMap (f i)
theorem c4w {α : Type} (f : Nat → Nat → List α) (n : Nat) : tri f (n + 1) = tri f n ++ (List.range n).flatMap (f n) := by
 unfold tri; rw [List.range_succ, List.flatMap_append]; simp
def sl1 (xs ys : List Int) (i k : Nat) : List Rat := if xs.getD i default = xs.getD k default then [] else [slq xs ys i k]
theorem c5k (xs ys : List Int) (i : Nat) : ∀ k, slV xs ys i k = (List.range k).flatMap (sl1 xs ys i)
 | 0 => rfl
 | k + 1 => by
  rw [slV, List.range_succ, List.flatMap_append, ← c5k xs ys i k]
  simp only [List.flatMap_cons, List.flatMap_nil, List.append_nil, sl1]
  split <;> simp
theorem c0f (xs ys : List Int) : ∀ n, slU xs ys n = tri (sl1 xs ys) n
 | 0 => rfl
 | n + 1 => by rw [slU, c4w, c0f xs ys n, c5k]
def ngI (l : List Int) : List Int := l.map fun x => -x
theorem c5v (l : List Int) (i : Nat) : (ngI l).getD i default = -(l.getD i default) := by
 unfold ngI
 rw [List.getD_eq_getElem?_getD, List.getD_eq_getElem?_getD, List.getElem?_map]
 cases l[i]? <;> rfl
@[simp] theorem b9w (l : List Int) : (ngI l).length = l.length := by simp [ngI]
def vd (xs : List Int) : Bool := decide (xs.length ≤ 10) && J3 (-200) 200 xs
abbrev Bk := Int × Int × Int
section
variable {P Q v : Nat → Int}
def SegL (P Q v : Nat → Int) : Nat → List Bk → Nat → Prop
 | a, [], e => a = e
 | a, b :: r, e => ∃ m, a < m ∧ b.1 = P m - P a ∧ b.2.1 = Q m - Q a ∧ b.2.2 = v (m - 1) ∧ (∀ k, a < k → k ≤ m → (P m - P a) * (Q k - Q a) ≤ (P k - P a) * (Q m - Q a)) ∧ SegL P Q v m r e
theorem SegL.le : ∀ {l : List Bk} {a e : Nat}, SegL P Q v a l e → a ≤ e
 | [], _, _, h => Nat.le_of_eq h
 | _ :: _, _, _, ⟨_, h1, _, _, _, _, h⟩ => by have := h.le; omega
theorem SegL.append : ∀ {l1 l2 : List Bk} {a e : Nat}, SegL P Q v a (l1 ++ l2) e ↔ ∃ m, SegL P Q v a l1 m ∧ SegL P Q v m l2 e
 | [], l2, a, e => ⟨fun h => ⟨a, rfl, h⟩, fun ⟨m, h1, h2⟩ => by cases (h1 : a = m); exact h2⟩
 | b :: l1, l2, a, e => by
  constructor
  ·rintro ⟨m, h1, h2, h3, h4, h5, h6⟩
   obtain ⟨k, k1, k2⟩ := SegL.append.1 h6
   exact ⟨k, ⟨m, h1, h2, h3, h4, h5, k1⟩, k2⟩
  ·rintro ⟨k, ⟨m, h1, h2, h3, h4, h5, k1⟩, k2⟩
   exact ⟨m, h1, h2, h3, h4, h5, SegL.append.2 ⟨k, k1, k2⟩⟩
theorem Qlt {m : Nat} (hQ : ∀ j, j < m → Q j < Q (j + 1)) : ∀ {b a : Nat}, a < b → b ≤ m → Q a < Q b
 | 0, _, h, _ => by omega
 | b + 1, a, h, hm => by
  have h1 := hQ b (by omega)
  by_cases e : a = b
  ·subst e; exact h1
  ·have := Qlt hQ (b := b) (a := a) (by omega) (by omega); omega
theorem b8w {X Y p q u z : Int} (hp : 0 < p) (hu : 0 ≤ u) (h0 : Y * p ≤ X * q) (h1 : X * u ≤ z * p) (hq : 0 ≤ q) : (X + Y) * u ≤ z * (p + q) := by
 refine Int.le_of_mul_le_mul_left (a := p) ?_ hp
 have a1 := Int.mul_le_mul_of_nonneg_right h0 hu
 have a2 := Int.mul_le_mul_of_nonneg_right h1 (show 0 ≤ p + q by omega)
 grind
theorem b9l {X Y p q u z : Int} (hq : 0 < q) (hu : u ≤ q) (h0 : Y * p ≤ X * q) (h1 : Y * u ≤ z * q) (hp : 0 ≤ p) : (X + Y) * (p + u) ≤ (X + z) * (p + q) := by
 refine Int.le_of_mul_le_mul_left (a := q) ?_ hq
 have a1 := Int.mul_nonneg (show 0 ≤ X * q - Y * p by omega) (show 0 ≤ q - u by omega)
 have a2 := Int.mul_le_mul_of_nonneg_right h1 (show 0 ≤ p + q by omega)
 grind
theorem SegL.merge {m : Nat} (hQ : ∀ j, j < m → Q j < Q (j + 1)) {x y : Bk} {a e : Nat} (he : e ≤ m) (h : SegL P Q v a [x, y] e) (hxy : ¬ x.1 * y.2.1 < y.1 * x.2.1) : SegL P Q v a [(x.1 + y.1, x.2.1 + y.2.1, y.2.2)] e := by
 obtain ⟨k, h1, h2, h3, h4, h5, j, j1, j2, j3, j4, j5, j6⟩ := h
 have j6 : j = e := j6
 subst j6
 rw [h2, h3, j2, j3] at hxy
 have q1 := Qlt hQ h1 (by omega)
 have q2 := Qlt hQ j1 (by omega)
 refine ⟨j, by omega, by dsimp only; omega, by dsimp only; omega, j4, fun t t1 t2 => ?_, rfl⟩
 have e1 : P j - P a = (P k - P a) + (P j - P k) := by omega
 have e2 : Q j - Q a = (Q k - Q a) + (Q j - Q k) := by omega
 rw [e1, e2]
 rcases Nat.lt_or_ge k t with c | c
 ·have e3 : Q t - Q a = (Q k - Q a) + (Q t - Q k) := by omega
  have e4 : P t - P a = (P k - P a) + (P t - P k) := by omega
  rw [e3, e4]
  have q3 : Q t ≤ Q j := by
   rcases Nat.lt_or_eq_of_le t2 with c2 | c2
   ·have := Qlt hQ c2 (by omega); omega
   ·subst c2; exact Int.le_refl _
  exact b9l (by omega) (by omega) (by omega) (j5 t c t2) (by omega)
 ·have q3 := Qlt hQ t1 (by omega)
  exact b8w (by omega) (by omega) (by omega) (h5 t t1 c) (by omega)
def ltB (x y : Bk) : Prop := x.1 * y.2.1 < y.1 * x.2.1
def Inc : List Bk → Prop
 | [] => True
 | [_] => True
 | b :: c :: r => ltB b c ∧ Inc (c :: r)
theorem Inc.init : ∀ {l : List Bk} {x : Bk}, Inc (l ++ [x]) → Inc l
 | [], _, _ => trivial
 | [_], _, _ => trivial
 | b :: c :: r, x, h => ⟨h.1, Inc.init (l := c :: r) (x := x) h.2⟩
theorem Inc.tail {b : Bk} {r : List Bk} (h : Inc (b :: r)) : Inc r := by
 cases r with
 | nil => trivial
 | cons c r => exact h.2
theorem c8l {X p Y q Z r : Int} (hq : 0 < q) (hp : 0 < p) (hr : 0 < r) (h1 : X * q < Y * p) (h2 : Y * r < Z * q) : X * r < Z * p := by
 refine Int.lt_of_mul_lt_mul_left (a := q) ?_ (by omega)
 have a1 := Int.mul_lt_mul_of_pos_right h1 hr
 have a2 := Int.mul_lt_mul_of_pos_right h2 hp
 grind
theorem c8t {X p Y q u z : Int} (hq : 0 < q) (hp : 0 < p) (hu : 0 < u) (h1 : X * q < Y * p) (h2 : Y * u ≤ z * q) : X * u < z * p := by
 refine Int.lt_of_mul_lt_mul_left (a := q) ?_ (by omega)
 have a1 := Int.mul_lt_mul_of_pos_right h1 hu
 have a2 := Int.mul_le_mul_of_nonneg_right h2 (show 0 ≤ p by omega)
 grind
theorem SegL.above {n : Nat} (hQ : ∀ j, j < n → Q j < Q (j + 1)) {X p : Int} (hp : 0 < p) : ∀ {r : List Bk} {m e : Nat}, e ≤ n → SegL P Q v m r e → Inc r → (∀ b, r.head? = some b → X * b.2.1 < b.1 * p) →
  ∀ k, m < k → k ≤ e → X * (Q k - Q m) < (P k - P m) * p
 | [], m, e, _, h, _, _, k, k1, k2 => by cases (h : m = e); omega
 | b :: r, m, e, he, h, hi, hb, k, k1, k2 => by
  obtain ⟨m', h1, h2, h3, h4, h5, h6⟩ := h
  have hme := h6.le
  have hb0 : X * b.2.1 < b.1 * p := hb b rfl
  rw [h2, h3] at hb0
  clear hb
  have q1 := Qlt hQ h1 (by omega)
  rcases Nat.lt_or_ge m' k with c | c
  ·have a1 := SegL.above hQ hp he h6 hi.tail (fun c hc => by
    cases r with
    | nil => cases hc
    | cons c' r =>
     have hcc : c' = c := Option.some.inj hc
     subst hcc
     obtain ⟨m2, g1, g2, g3, _, _, g6⟩ := h6
     have hlt : ltB b c' := hi.1
     unfold ltB at hlt
     rw [h2, h3] at hlt
     have hm2 := g6.le
     have q2 := Qlt hQ g1 (by omega)
     exact c8l (by omega) hp (by omega) hb0 hlt) k c k2
   have e1 : Q k - Q m = (Q m' - Q m) + (Q k - Q m') := by omega
   have e2 : P k - P m = (P m' - P m) + (P k - P m') := by omega
   rw [e1, e2, Int.mul_add, Int.add_mul]
   omega
  ·have q2 := Qlt hQ k1 (by omega)
   exact c8t (by omega) hp (by omega) hb0 (h5 k k1 c)
theorem SegL.after {n : Nat} (hQ : ∀ j, j < n → Q j < Q (j + 1)) {b : Bk} {r : List Bk} {a m e : Nat} (he : e ≤ n) (h1 : a < m) (h2 : b.1 = P m - P a) (h3 : b.2.1 = Q m - Q a) (h6 : SegL P Q v m r e) (hi : Inc (b :: r)) :
  ∀ k, m < k → k ≤ e → (P m - P a) * (Q k - Q a) < (P k - P a) * (Q m - Q a) := by
 intro k k1 k2
 have hme := h6.le
 have q1 := Qlt hQ h1 (by omega)
 have a1 := SegL.above hQ (X := P m - P a) (p := Q m - Q a) (by omega) he h6 hi.tail (fun c hc => by
  cases r with
  | nil => cases hc
  | cons c' r =>
   have hcc : c' = c := Option.some.inj hc
   subst hcc
   have hlt : ltB b c' := hi.1
   unfold ltB at hlt
   rwa [h2, h3] at hlt) k k1 k2
 have e1 : Q k - Q a = (Q m - Q a) + (Q k - Q m) := by omega
 have e2 : P k - P a = (P m - P a) + (P k - P m) := by omega
 rw [e1, e2, Int.mul_add, Int.add_mul]
 omega
def fiU : List Bk → Int → Nat
 | [], _ => 0
 | b :: r, x => if x ≤ b.2.2 then 0 else fiU r x + 1
theorem SegL.has {n : Nat} (hv : ∀ i j, i < j → j < n → v i < v j) : ∀ {bs : List Bk} {a e g : Nat}, e ≤ n → SegL P Q v a bs e → g < e → a < e → fiU bs (v g) < bs.length
 | [], a, e, g, _, h, _, h2 => by cases (h : a = e); omega
 | b :: r, a, e, g, he, h, hg, _ => by
  obtain ⟨m, h1, h2, h3, h4, h5, h6⟩ := h
  unfold fiU
  split
  ·simp
  ·rename_i c
   have hm := h6.le
   have hgm : m ≤ g := by
    refine Classical.byContradiction fun hc => c ?_
    rw [h4]
    rcases Nat.lt_or_ge g (m - 1) with c2 | c2
    ·have := hv g (m - 1) c2 (by omega); omega
    ·have : g = m - 1 := by omega
     rw [this]; exact Int.le_refl _
   have := SegL.has hv he h6 hg (by omega)
   simpa using this
end
def fX (xs : List Int) (i : Nat) : Int := xs.getD i default
def a8m (xs : List Int) (i : Nat) (d : List Nat) : Prop := d.Perm (List.range i) ∧ (d.map (fX xs)).Pairwise (· ≤ ·)
theorem a8m.step {xs : List Int} {i k : Nat} {d : List Nat} (h : a8m xs i d) (hk : k ≤ d.length) (h1 : ∀ j, j < k → fX xs (d.getD j default) ≤ fX xs i) (h2 : k < d.length → fX xs i ≤ fX xs (d.getD k default)) :
  a8m xs (i + 1) (d.take k ++ [i] ++ d.drop k) := by
 refine ⟨?_, ?_⟩
 ·rw [List.range_succ]
  have : (d.take k ++ [i] ++ d.drop k).Perm (d.take k ++ d.drop k ++ [i]) := by
   rw [List.append_assoc, List.append_assoc]
   exact List.Perm.append_left _ List.perm_append_comm
  rw [List.take_append_drop] at this
  exact this.trans (h.1.append_right _)
 ·have e : ∀ j, j < d.length → (d.map (fX xs)).getD j default = fX xs (d.getD j default) := by
   intro j hj
   rw [List.getD_eq_getElem?_getD, List.getD_eq_getElem?_getD, List.getElem?_map, List.getElem?_eq_getElem hj]; rfl
  have := b0j (out := d.map (fX xs)) (x := fX xs i) (k := k) h.2 (by simpa using hk) (fun j hj => by rw [e j (by omega)]; exact h1 j hj) (fun hk2 => by rw [e k (by simpa using hk2)]; exact h2 (by simpa using hk2))
  have e2 : (d.take k ++ [i] ++ d.drop k).map (fX xs) = a5v (fX xs i) (d.map (fX xs)) := by rw [← this]; simp [List.map_take, List.map_drop]
  rw [e2]
  exact a1h _ _ h.2
theorem a8m.ys {xs : List Int} {d : List Nat} (h : a8m xs xs.length d) : d.map (fX xs) = V9 xs := by
 refine c4r ?_ h.2
 have := h.1.map (fX xs)
 have e : (List.range xs.length).map (fX xs) = xs := by
  apply List.ext_getElem
  ·simp
  ·intro i h1 h2
   simp [fX, List.getD_eq_getElem?_getD, List.getElem?_eq_getElem h2]
 rwa [e] at this
theorem a8m.len {xs : List Int} {i : Nat} {d : List Nat} (h : a8m xs i d) : d.length = i := by rw [h.1.length_eq, List.length_range]
theorem a8m.lt {xs : List Int} {i : Nat} {d : List Nat} (h : a8m xs i d) {j : Nat} (hj : j < d.length) : d.getD j default < i := List.mem_range.1 (h.1.mem_iff.1 (P5 hj))
theorem a8m.ix {xs : List Int} {i : Nat} {d : List Nat} (h : a8m xs i d) {k : Nat} (hk : k < i) : ∃ j, j < d.length ∧ d.getD j default = k := a2j (h.1.mem_iff.2 (List.mem_range.2 hk))
abbrev c9b : ByteArray := ⟨#[108, 105, 115, 116]⟩
abbrev wA : ByteArray := ⟨#[97]⟩
abbrev wB : ByteArray := ⟨#[98]⟩
abbrev wC : ByteArray := ⟨#[99]⟩
abbrev wD : ByteArray := ⟨#[100]⟩
abbrev c7n : ByteArray := ⟨#[115, 111, 114, 116]⟩
abbrev c9u : ByteArray := ⟨#[114, 101, 118]⟩
abbrev c9a : ByteArray := ⟨#[110, 101, 103]⟩
abbrev c9l : ByteArray := ⟨#[97, 98, 115]⟩
abbrev c7p : ByteArray := ⟨#[100, 105, 102, 102]⟩
abbrev c7o : ByteArray := ⟨#[115, 117, 109, 115]⟩
abbrev c5m : ByteArray := ⟨#[114, 97, 110, 107, 115]⟩
abbrev c4a : ByteArray := ⟨#[116, 111, 116, 97, 108]⟩
abbrev c9d : ByteArray := ⟨#[97, 100, 100]⟩
abbrev c7u : ByteArray := ⟨#[106, 111, 105, 110]⟩
def nd (w : ByteArray) : Int :=
 if w.toList = c9b.toList then 0 else if w.toList = wA.toList then 0 else if w.toList = wB.toList then 0 else if w.toList = wC.toList then 0 else if w.toList = wD.toList then 0
 else if w.toList = c7n.toList then 1 else if w.toList = c9u.toList then 1 else if w.toList = c9a.toList then 1 else if w.toList = c9l.toList then 1 else if w.toList = c7p.toList then 1
 else if w.toList = c7o.toList then 1 else if w.toList = c5m.toList then 1 else if w.toList = c4a.toList then 1 else if w.toList = c9d.toList then 2 else if w.toList = c7u.toList then 2 else -1
def rch (w : ByteArray) : Int :=
 if w.toList = c7n.toList then 1 else if w.toList = c9u.toList then 1 else if w.toList = c9a.toList then 1 else if w.toList = c9l.toList then 1 else if w.toList = c7p.toList then 1
 else if w.toList = c7o.toList then 1 else if w.toList = c5m.toList then 1 else if w.toList = c4a.toList then 1 else if w.toList = c9d.toList then 2 else if w.toList = c7u.toList then 2
 else if w.toList = wA.toList then 0 else if w.toList = wB.toList then 0 else if w.toList = wC.toList then 0 else if w.toList = wD.toList then 0 else -1
def a3o (x : List Int) (i : Nat) : Int := x.getD i default
def dfI (x : List Int) : List Int := (List.range x.length).map fun i => if i = 0 then a3o x 0 else a3o x i - a3o x (i - 1)
def vl (x : List Int) : Bool := decide (x.length ≤ 40) && J3 (-100000) 100000 x
def a1w (n : Nat) (f g : Nat → Int) (i : Nat) (l : List Int) : Prop := l.length = n ∧ ∀ j, j < n → l.getD j default = if j < i then f j else g j
theorem a1w.step {n i : Nat} {f g : Nat → Int} {l : List Int} (h : a1w n f g i l) (hi : i < n) {v : Int} (hv : v = f i) : a1w n f g (i + 1) (l.set i v) := by
 refine ⟨by simp [h.1], fun j hj => ?_⟩
 rw [L3 _ _ _ _ (by rw [h.1]; exact hi)]
 by_cases e : j = i
 ·subst e; rw [if_pos rfl, if_pos (by omega), hv]
 ·rw [if_neg e, h.2 j hj]
  by_cases c : j < i
  ·rw [if_pos c, if_pos (by omega)]
  ·rw [if_neg c, if_neg (by omega)]
theorem a1w.at {n i : Nat} {f g : Nat → Int} {l : List Int} (h : a1w n f g i l) (hi : i < n) : l.getD i default = g i := by rw [h.2 i hi, if_neg (by omega)]
theorem a1w.fin {n i : Nat} {f g : Nat → Int} {l : List Int} (h : a1w n f g i l) (hi : n ≤ i) : l = (List.range n).map f := by
 refine J9 (d := default) (by simp [h.1]) fun j hj => ?_
 rw [h.1] at hj
 rw [h.2 j hj, if_pos (by omega), List.getD_eq_getElem?_getD, List.getElem?_map, List.getElem?_range hj]
 rfl
theorem a1w.start (x : List Int) (f : Nat → Int) : a1w x.length f (a3o x) 0 x := ⟨rfl, fun j hj => by rw [if_neg (by omega)]; rfl⟩
def a4e (x : List Int) (i : Nat) (l : List Int) : Prop := l.length = x.length ∧ ∀ j, j < x.length → l.getD j default = if i < j then a3o x j - a3o x (j - 1) else a3o x j
theorem a4e.step {x l : List Int} {i : Nat} (h : a4e x i l) (h0 : 0 < i) (hi : i < x.length) : a4e x (i - 1) (l.set i (l.getD i default - l.getD (i - 1) default)) := by
 refine ⟨by simp [h.1], fun j hj => ?_⟩
 rw [L3 _ _ _ _ (by rw [h.1]; exact hi)]
 by_cases e : j = i
 ·subst e
  rw [if_pos rfl, h.2 j hj, h.2 (j - 1) (by omega), if_neg (by omega), if_neg (by omega), if_pos (by omega)]
 ·rw [if_neg e, h.2 j hj]
  by_cases c : i < j
  ·rw [if_pos c, if_pos (by omega)]
  ·rw [if_neg c, if_neg (by omega)]
theorem a4e.fin {x l : List Int} (h : a4e x 0 l) : l = dfI x := by
 refine J9 (d := default) (by simp [h.1, dfI]) fun j hj => ?_
 rw [h.1] at hj
 rw [h.2 j hj, dfI, List.getD_eq_getElem?_getD, List.getElem?_map, List.getElem?_range hj]
 show _ = if j = 0 then _ else _
 by_cases e : j = 0
 ·subst e; rw [if_neg (by omega), if_pos rfl]
 ·rw [if_pos (by omega), if_neg e]
end Go.Mv
namespace Go.Mv
def b9i (x : List Int) (i : Nat) (l : List Int) : Prop := l.length = x.length ∧ ∀ j, j < x.length → l.getD j default = if j < i ∨ x.length - 1 - i < j then a3o x (x.length - 1 - j) else a3o x j
theorem b9i.start (x : List Int) : b9i x 0 x := ⟨rfl, fun j hj => by rw [if_neg (by omega)]; rfl⟩
theorem b9i.step {x l : List Int} {i : Nat} (h : b9i x i l) (hi : i < x.length - 1 - i) : b9i x (i + 1) ((l.set i (l.getD (x.length - 1 - i) default)).set (x.length - 1 - i) (l.getD i default)) := by
 refine ⟨by simp [h.1], fun j hj => ?_⟩
 rw [L3 _ _ _ _ (by simp [h.1]; omega), L3 _ _ _ _ (by rw [h.1]; omega)]
 by_cases e : j = x.length - 1 - i
 ·subst e
  rw [if_pos rfl, h.2 i (by omega), if_neg (by omega), if_pos (by omega), show x.length - 1 - (x.length - 1 - i) = i by omega]
 ·rw [if_neg e]
  by_cases e2 : j = i
  ·subst e2
   rw [if_pos rfl, h.2 _ (by omega), if_neg (by omega), if_pos (by omega)]
  ·rw [if_neg e2, h.2 j hj]
   by_cases c : j < i ∨ x.length - 1 - i < j
   ·rw [if_pos c, if_pos (by omega)]
   ·rw [if_neg c, if_neg (by omega)]
theorem b9i.fin {x l : List Int} {i : Nat} (h : b9i x i l) (hi : x.length - 1 - i ≤ i) : l = x.reverse := by
 refine J9 (d := default) (by simp [h.1]) fun j hj => ?_
 rw [h.1] at hj
 have hr : x.reverse.getD j default = a3o x (x.length - 1 - j) := by
  unfold a3o
  rw [List.getD_eq_getElem?_getD, List.getD_eq_getElem?_getD, List.getElem?_reverse hj]
 rw [h.2 j hj, hr]
 split
 ·rfl
 ·rename_i c
  rw [show x.length - 1 - j = j by omega]
end Go.Mv
namespace Go.Mv
theorem a4e.start (x : List Int) : a4e x (x.length - 1) x := ⟨rfl, fun j hj => by rw [if_neg (by omega)]; rfl⟩
theorem a4e.val {x l : List Int} {i : Nat} (h : a4e x i l) (j : Nat) : l.getD j default = if i < j ∧ j < x.length then a3o x j - a3o x (j - 1) else a3o x j := by
 rcases Nat.lt_or_ge j x.length with c | c
 ·rw [h.2 j c]
  by_cases c2 : i < j
  ·rw [if_pos c2, if_pos ⟨c2, c⟩]
  ·rw [if_neg c2, if_neg (by omega)]
 ·rw [if_neg (by omega), List.getD_eq_getElem?_getD, List.getElem?_eq_none (by rw [h.1]; exact c)]
  unfold a3o
  rw [List.getD_eq_getElem?_getD, List.getElem?_eq_none c]
theorem a1w.before {n i j : Nat} {f g : Nat → Int} {l : List Int} (h : a1w n f g i l) (hj : j < i) (hn : j < n) : l.getD j default = f j := by rw [h.2 j hn, if_pos hj]
structure Stp where
 op : ByteArray
 a : Int
 b : Int
 ns : List Int
instance : Inhabited Stp := ⟨⟨⟨#[]⟩, 0, 0, []⟩⟩
abbrev bA (l : List UInt8) : ByteArray := ⟨l.toArray⟩
theorem c7i (b : ByteArray) : bA b.data.toList = b := by cases b; rfl
section
variable {cx : Cx} {keep : List Nat} {ops0 : Array Oper} {r : List Oper} {A : Asr} {Q : Asr → List Log → Prop} {d : Nat} {ty : Nat} {pos : String} {aft : Array Edge}
end
def c9h (n : Nat) : List UInt8 := if n < 10 then [UInt8.ofNat (48 + n)] else c9h (n / 10) ++ [UInt8.ofNat (48 + n % 10)]
termination_by n
def neg? (t : List UInt8) : Bool := decide (t.head? = some 45)
end Go.Mv
namespace Go.Mv
end Go.Mv
namespace Go.Mv
end Go.Mv
namespace Go.Mv
inductive Pl where
 | lst (ns : List Int)
 | col (w : List UInt8)
 | un (w : List UInt8) (p : Pl)
 | bin (w : List UInt8) (p q : Pl)
 deriving Inhabited
abbrev lW : List UInt8 := [108, 105, 115, 116]
def Pl.op : Pl → List UInt8
 | .lst _ => lW
 | .col w => w
 | .un w _ => w
 | .bin w _ _ => w
def Pl.ns : Pl → List Int
 | .lst ns => ns
 | _ => []
def Pl.kids : Pl → List Pl
 | .lst _ => []
 | .col _ => []
 | .un _ p => [p]
 | .bin _ p q => [p, q]
abbrev W8 := List UInt8
end Go.Mv
namespace Go.Mv
end Go.Mv
namespace Go.Mv
def one? (s : ByteArray) : Option UInt8 := match s.data.toList with
 | [b] => some b
 | _ => none
theorem one?_some {s : ByteArray} {b : UInt8} (h : one? s = some b) : s = bA [b] := by
 unfold one? at h
 split at h
 ·rename_i b' hs
  cases h
  have : s = bA s.data.toList := (c7i s).symm
  rw [hs] at this
  exact this
 ·cases h
end Go.Mv
namespace Go.Mv
end Go.Mv
namespace Go.Mv
def Pl.sz : Pl → Nat
 | .lst _ => 1
 | .col _ => 1
 | .un _ p => p.sz + 1
 | .bin _ p q => p.sz + q.sz + 1
def Pl.good : Pl → Prop
 | .lst ns => vd ns = true
 | .col w => w ≠ lW ∧ w.length ≤ 1048576
 | .un w p => w ≠ lW ∧ w.length ≤ 1048576 ∧ p.good
 | .bin w p q => w ≠ lW ∧ w.length ≤ 1048576 ∧ p.good ∧ q.good
def mT (k : Int) : W8 := 109 :: (if k ≤ 0 then [48] else c9h k.toNat)
def mkT (k : Int) (n : Nat) : List W8 := (List.range n).map fun (j : Nat) => mT (k + j)
@[simp] theorem mkT_length (k : Int) (n : Nat) : (mkT k n).length = n := by simp [mkT]
def Pl.wf : Pl → Prop
 | .lst _ => True
 | .col w => rch (bA w) = 0
 | .un w p => rch (bA w) = 1 ∧ p.wf
 | .bin w p q => rch (bA w) = 2 ∧ p.wf ∧ q.wf
abbrev Pl.k0 (t : Pl) : Pl := t.kids.getD 0 default
deriving instance DecidableEq for Stp
def c9y (t : Pl) (a b : Int) : Stp := ⟨bA t.op, a, b, t.ns⟩
deriving instance DecidableEq for Pl
structure ClQ (P : List Pl) : Prop where
 nd : P.Nodup
 good : ∀ t ∈ P, t.good
 kids : ∀ A t B, P = A ++ t :: B → ∀ k ∈ t.kids, k ∈ A
theorem ClQ.nil : ClQ [] := ⟨List.nodup_nil, (fun _ h => by cases h), (fun A t B h => by cases A <;> cases h)⟩
theorem ClQ.mem {P : List Pl} (h : ClQ P) {t k : Pl} (ht : t ∈ P) (hk : k ∈ t.kids) : k ∈ P := by
 obtain ⟨A, B, rfl⟩ := List.append_of_mem ht
 exact List.mem_append_left _ (h.kids A t B rfl k hk)
def ixQ (t : Pl) : List Pl → Nat
 | [] => 0
 | x :: r => if x = t then 0 else ixQ t r + 1
def c8x (P : List Pl) (t : Pl) (k : Nat) : Int := if k < t.kids.length then (ixQ (t.kids.getD k default) P : Int) else -1
def c9w (P : List Pl) (t : Pl) : Stp := c9y t (c8x P t 0) (c8x P t 1)
def enc (P : List Pl) : List Stp := P.map (c9w P)
end Go.Mv
end

section
namespace Go.Mv
namespace St
def lf (X Y : Nat → Rat) (s : Rat) (i : Nat) : Rat := Y i - s * X i
structure Mx (n : Nat) (f : Nat → Rat) (v : Rat) : Prop where
 at_ : ∃ i, i < n ∧ f i = v
 le : ∀ i, i < n → f i ≤ v
structure Mn (n : Nat) (f : Nat → Rat) (v : Rat) : Prop where
 at_ : ∃ i, i < n ∧ f i = v
 le : ∀ i, i < n → v ≤ f i
theorem c1e (f : Nat → Rat) : ∀ n, 0 < n → ∃ v, Mx n f v
 | 0, h => absurd h (Nat.lt_irrefl 0)
 | 1, _ => ⟨f 0, ⟨0, by omega, rfl⟩, fun i hi => by have h0 : i = 0 := (by omega); rw [h0]; exact Rat.le_refl⟩
 | n + 2, _ => by
  obtain ⟨v, ⟨i, hi, e⟩, hv⟩ := c1e f (n + 1) (by omega)
  rcases (Rat.le_total : v ≤ f (n + 1) ∨ f (n + 1) ≤ v) with h | h
  ·refine ⟨f (n + 1), ⟨n + 1, by omega, rfl⟩, fun j hj => ?_⟩
   rcases Nat.lt_succ_iff_lt_or_eq.1 hj with h2 | rfl
   ·exact Rat.le_trans (hv j h2) h
   ·exact Rat.le_refl
  ·refine ⟨v, ⟨i, by omega, e⟩, fun j hj => ?_⟩
   rcases Nat.lt_succ_iff_lt_or_eq.1 hj with h2 | rfl
   ·exact hv j h2
   ·exact h
theorem c7x (f : Nat → Rat) (n : Nat) (h : 0 < n) : ∃ v, Mn n f v := by
 obtain ⟨v, ⟨i, hi, e⟩, hv⟩ := c1e (fun i => -f i) n h
 refine ⟨-v, ⟨i, hi, by grind⟩, fun j hj => ?_⟩
 have := hv j hj
 grind
variable {n : Nat} {X Y : Nat → Rat}
theorem cross {i k : Nat} {s t : Rat} (hst : t < s) (h1 : lf X Y s i < lf X Y s k) (h2 : lf X Y t k < lf X Y t i) : X i ≠ X k ∧ t < (Y i - Y k) / (X i - X k) ∧ (Y i - Y k) / (X i - X k) < s := by
 unfold lf at h1 h2
 have hx : X k < X i := by
  by_cases h : X k < X i
  ·exact h
  ·exfalso
   have h := Rat.not_lt.1 h
   have h3 : 0 ≤ (s - t) * (X k - X i) := Rat.mul_nonneg (by grind) (by grind)
   grind
 have h0 : 0 < X i - X k := by grind
 refine ⟨by grind, ?_, ?_⟩
 ·rw [Rat.lt_div_iff h0]; grind
 ·rw [Rat.div_lt_iff h0]; grind
theorem c1f {s hi lo : Rat} (hM : Mx n (lf X Y s) hi) (hN : Mn n (lf X Y s) lo) (hlt : lo < hi)
  (hsep : ∀ u d, u < n → d < n → lf X Y s u = hi → lf X Y s d = lo → X u < X d)
  (hmin : ∀ i k, i < n → k < n → X i ≠ X k → ∃ u d, u < n ∧ d < n ∧ hi - lo ≤ lf X Y ((Y i - Y k) / (X i - X k)) u - lf X Y ((Y i - Y k) / (X i - X k)) d) : False := by
 -- the last top, the first bottom
 have htop : ∃ u, u < n ∧ lf X Y s u = hi ∧ ∀ i, i < n → lf X Y s i = hi → X i ≤ X u := by
  obtain ⟨u0, hu0, eu0⟩ := hM.at_
  obtain ⟨v, ⟨u, hu, ev⟩, hv⟩ := c1e (fun i => if lf X Y s i = hi then X i else X u0) n (by omega)
  by_cases e : lf X Y s u = hi
  ·simp only [e, if_true] at ev
   exact ⟨u, hu, e, fun i hi2 e2 => by have := hv i hi2; simp only [e2, if_true] at this; grind⟩
  ·simp only [e, if_false] at ev
   exact ⟨u0, hu0, eu0, fun i hi2 e2 => by have := hv i hi2; simp only [e2, if_true] at this; grind⟩
 have hbot : ∃ d, d < n ∧ lf X Y s d = lo ∧ ∀ i, i < n → lf X Y s i = lo → X d ≤ X i := by
  obtain ⟨d0, hd0, ed0⟩ := hN.at_
  obtain ⟨v, ⟨d, hd, ev⟩, hv⟩ := c7x (fun i => if lf X Y s i = lo then X i else X d0) n (by omega)
  by_cases e : lf X Y s d = lo
  ·simp only [e, if_true] at ev
   exact ⟨d, hd, e, fun i hi2 e2 => by have := hv i hi2; simp only [e2, if_true] at this; grind⟩
  ·simp only [e, if_false] at ev
   exact ⟨d0, hd0, ed0, fun i hi2 e2 => by have := hv i hi2; simp only [e2, if_true] at this; grind⟩
 obtain ⟨u, hu, eu, hux⟩ := htop
 obtain ⟨d, hd, ed, hdx⟩ := hbot
 have hxud := hsep u d hu hd eu ed
 -- the greatest slope of two points below s
 let ps : List Rat := ((List.range n).flatMap fun i => (List.range n).flatMap fun k => if X i = X k then [] else [(Y i - Y k) / (X i - X k)])
 have hps : ∀ {i k}, i < n → k < n → X i ≠ X k → (Y i - Y k) / (X i - X k) ∈ ps := fun {i k} hi2 hk2 h => by
  simp only [ps, List.mem_flatMap, List.mem_range]
  exact ⟨i, hi2, k, hk2, by rw [if_neg h]; exact List.mem_singleton.2 rfl⟩
 have hps2 : ∀ {p}, p ∈ ps → ∃ i k, i < n ∧ k < n ∧ X i ≠ X k ∧ p = (Y i - Y k) / (X i - X k) := fun {p} hp => by
  simp only [ps, List.mem_flatMap, List.mem_range] at hp
  obtain ⟨i, hi2, k, hk2, h⟩ := hp
  by_cases e : X i = X k
  ·rw [if_pos e] at h; cases h
  ·rw [if_neg e] at h; exact ⟨i, k, hi2, hk2, e, List.mem_singleton.1 h⟩
 have hbelow : (Y u - Y d) / (X u - X d) < s := by
  have h0 : X u - X d ≠ 0 := by grind
  have e := Rat.div_mul_cancel (a := Y u - Y d) h0
  apply Rat.not_le.1
  intro hle
  have h3 : 0 ≤ ((Y u - Y d) / (X u - X d) - s) * (X d - X u) := Rat.mul_nonneg (by grind) (by grind)
  generalize (Y u - Y d) / (X u - X d) = p at *
  unfold lf at eu ed
  grind
 have hgr : ∃ p, p ∈ ps ∧ p < s ∧ ∀ q ∈ ps, q < s → q ≤ p := by
  have key : ∀ l : List Rat, (∃ p ∈ l, p < s) → ∃ p, p ∈ l ∧ p < s ∧ ∀ q ∈ l, q < s → q ≤ p := by
   intro l
   induction l with
   | nil => rintro ⟨p, hp, _⟩; cases hp
   | cons a l ih =>
    intro _
    by_cases hl : ∃ p ∈ l, p < s
    ·obtain ⟨p, hp, hps, hpm⟩ := ih hl
     by_cases ha : a < s ∧ p < a
     ·refine ⟨a, by simp, ha.1, fun q hq hqs => ?_⟩
      rcases List.mem_cons.1 hq with rfl | hq
      ·exact Rat.le_refl
      ·have := hpm q hq hqs; grind
     ·refine ⟨p, by simp [hp], hps, fun q hq hqs => ?_⟩
      rcases List.mem_cons.1 hq with rfl | hq
      ·grind
      ·exact hpm q hq hqs
    ·rename_i hex
     obtain ⟨p, hp, hps⟩ := hex
     rcases List.mem_cons.1 hp with rfl | hp
     ·refine ⟨p, by simp, hps, fun q hq hqs => ?_⟩
      rcases List.mem_cons.1 hq with rfl | hq
      ·exact Rat.le_refl
      ·exact absurd ⟨q, hq, hqs⟩ hl
     ·exact absurd ⟨p, hp, hps⟩ hl
  exact key ps ⟨_, hps hu hd (by grind), hbelow⟩
 obtain ⟨p, hp, hpl, hpm⟩ := hgr
 obtain ⟨i, k, hi2, hk2, hne, rfl⟩ := hps2 hp
 obtain ⟨a, b, ha, hb, hab⟩ := hmin i k hi2 hk2 hne
 generalize hpe : (Y i - Y k) / (X i - X k) = p at *
 -- at p the same two are the greatest and the least
 have hA : lf X Y p a ≤ lf X Y p u := by
  by_cases e : lf X Y s a = hi
  ·have := hux a ha e
   have h3 : 0 ≤ (s - p) * (X u - X a) := Rat.mul_nonneg (by grind) (by grind)
   unfold lf at *
   grind
  ·by_cases c : lf X Y p u < lf X Y p a
   ·have hl := hM.le a ha
    obtain ⟨h1, h2, h3⟩ := cross (X := X) (Y := Y) (i := a) (k := u) hpl (by grind) c
    have := hpm _ (hps ha hu h1) h3
    grind
   ·exact Rat.not_lt.1 c
 have hB : lf X Y p d ≤ lf X Y p b := by
  by_cases e : lf X Y s b = lo
  ·have := hdx b hb e
   have h3 : 0 ≤ (s - p) * (X b - X d) := Rat.mul_nonneg (by grind) (by grind)
   unfold lf at *
   grind
  ·by_cases c : lf X Y p b < lf X Y p d
   ·have hl := hN.le b hb
    obtain ⟨h1, h2, h3⟩ := cross (X := X) (Y := Y) (i := d) (k := b) hpl (by grind) c
    have := hpm _ (hps hd hb h1) h3
    grind
   ·exact Rat.not_lt.1 c
 have h3 : 0 < (s - p) * (X d - X u) := Rat.mul_pos (by grind) (by grind)
 unfold lf at *
 grind
theorem c4t {s hi lo : Rat} (hM : Mx n (lf X Y s) hi) (hN : Mn n (lf X Y s) lo) (hlt : lo < hi)
  (hsep : ∀ u d, u < n → d < n → lf X Y s u = hi → lf X Y s d = lo → X d < X u)
  (hmin : ∀ i k, i < n → k < n → X i ≠ X k → ∃ u d, u < n ∧ d < n ∧ hi - lo ≤ lf X Y ((Y i - Y k) / (X i - X k)) u - lf X Y ((Y i - Y k) / (X i - X k)) d) : False := by
 have e1 : ∀ p i, lf (fun i => -X i) Y (-p) i = lf X Y p i := fun p i => by unfold lf; grind
 have e2 : lf (fun i => -X i) Y (-s) = lf X Y s := funext fun i => e1 s i
 refine c1f (X := fun i => -X i) (Y := Y) (s := -s) (hi := hi) (lo := lo) (n := n) (by rw [e2]; exact hM) (by rw [e2]; exact hN) hlt
  (fun u d hu hd h1 h2 => by rw [e2] at h1 h2; have := hsep u d hu hd h1 h2; grind) (fun i k hi2 hk2 h => ?_)
 have hne : X i ≠ X k := fun e => h (by rw [e])
 obtain ⟨u, d, hu, hd, hud⟩ := hmin i k hi2 hk2 hne
 refine ⟨u, d, hu, hd, ?_⟩
 have h0 : X i - X k ≠ 0 := by grind
 have h1 : -X i - -X k ≠ 0 := by grind
 have e3 := Rat.div_mul_cancel (a := Y i - Y k) h0
 have e4 := Rat.div_mul_cancel (a := Y i - Y k) h1
 have e5 : (Y i - Y k) / (-X i - -X k) = -((Y i - Y k) / (X i - X k)) := by
  have h2 : ((Y i - Y k) / (-X i - -X k) + (Y i - Y k) / (X i - X k)) * (X i - X k) = 0 := by grind
  rcases Rat.mul_eq_zero.1 h2 with h2 | h2
  ·grind
  ·exact absurd h2 h0
 rw [e5, e1, e1]
 exact hud
def absQ (q : Rat) : Rat := if q < 0 then -q else q
theorem c0j {q b : Rat} (h1 : q ≤ b) (h2 : -q ≤ b) : absQ q ≤ b := by unfold absQ; split <;> assumption
theorem c0k (q : Rat) : q ≤ absQ q ∧ -q ≤ absQ q := by unfold absQ; split <;> grind
def IsB (n : Nat) (X Y : Nat → Rat) (s b : Rat) : Prop := ∃ hi lo, Mx n (lf X Y s) hi ∧ Mn n (lf X Y s) lo ∧ b = (hi - lo) * (1 / 2)
theorem c8s (h : 0 < n) (s : Rat) : ∃ b, IsB n X Y s b := by
 obtain ⟨hi, h1⟩ := c1e (lf X Y s) n h
 obtain ⟨lo, h2⟩ := c7x (lf X Y s) n h
 exact ⟨_, hi, lo, h1, h2, rfl⟩
def Th (n : Nat) (X Y : Nat → Rat) (v : Rat) : Prop := v = 0 ∨ (∃ i k, i < n ∧ k < n ∧ X i = X k ∧ v = absQ (Y i - Y k) * (1 / 2)) ∨
 ∃ i k j, i < n ∧ k < n ∧ j < n ∧ X i ≠ X k ∧ j ≠ i ∧ j ≠ k ∧ (X i ≤ X j ∧ X j ≤ X k ∨ X k ≤ X j ∧ X j ≤ X i) ∧ v = absQ (Y j - (Y i + (Y i - Y k) / (X i - X k) * (X j - X i))) * (1 / 2)
theorem c7w {s b v : Rat} (hb : IsB n X Y s b) (hv : Th n X Y v) (hn : 0 < n) : v ≤ b := by
 obtain ⟨hi, lo, ⟨⟨u, hu, eu⟩, hM⟩, ⟨⟨d, hd, ed⟩, hN⟩, rfl⟩ := hb
 have hlh : lo ≤ hi := by have := hM d hd; grind
 rcases hv with rfl | ⟨i, k, hi2, hk2, hx, rfl⟩ | ⟨i, k, j, hi2, hk2, hj2, hx, _, _, hbt, rfl⟩
 ·grind
 ·have h1 := hM i hi2
  have h2 := hN i hi2
  have h3 := hM k hk2
  have h4 := hN k hk2
  have h5 : absQ (Y i - Y k) ≤ hi - lo := by unfold lf at h1 h2 h3 h4; rw [hx] at h1 h2; exact c0j (by grind) (by grind)
  grind
 ·have h1 := hM i hi2
  have h2 := hN i hi2
  have h3 := hM k hk2
  have h4 := hN k hk2
  have h5 := hM j hj2
  have h6 := hN j hj2
  have h0 : X i - X k ≠ 0 := by grind
  have e := Rat.div_mul_cancel (a := Y i - Y k) h0
  generalize (Y i - Y k) / (X i - X k) = p at *
  have key : lo ≤ lf X Y s i + (p - s) * (X j - X i) ∧ lf X Y s i + (p - s) * (X j - X i) ≤ hi := by
   have ek : lf X Y s k = lf X Y s i + (p - s) * (X j - X i) + (p - s) * (X k - X j) := by unfold lf; grind
   rcases (Rat.le_total : s ≤ p ∨ p ≤ s) with c | c <;> rcases hbt with ⟨c1, c2⟩ | ⟨c1, c2⟩
   ·have a1 : 0 ≤ (p - s) * (X j - X i) := Rat.mul_nonneg (by grind) (by grind)
    have a2 : 0 ≤ (p - s) * (X k - X j) := Rat.mul_nonneg (by grind) (by grind)
    constructor <;> grind
   ·have a1 : 0 ≤ (p - s) * (X i - X j) := Rat.mul_nonneg (by grind) (by grind)
    have a2 : 0 ≤ (p - s) * (X j - X k) := Rat.mul_nonneg (by grind) (by grind)
    constructor <;> grind
   ·have a1 : 0 ≤ (s - p) * (X j - X i) := Rat.mul_nonneg (by grind) (by grind)
    have a2 : 0 ≤ (s - p) * (X k - X j) := Rat.mul_nonneg (by grind) (by grind)
    constructor <;> grind
   ·have a1 : 0 ≤ (s - p) * (X i - X j) := Rat.mul_nonneg (by grind) (by grind)
    have a2 : 0 ≤ (s - p) * (X j - X k) := Rat.mul_nonneg (by grind) (by grind)
    constructor <;> grind
  have ev : Y j - (Y i + p * (X j - X i)) = lf X Y s j - (lf X Y s i + (p - s) * (X j - X i)) := by unfold lf; grind
  have h7 : absQ (Y j - (Y i + p * (X j - X i))) ≤ hi - lo := by rw [ev]; exact c0j (by grind) (by grind)
  grind
theorem c3p {s hi lo : Rat} {u1 u2 d : Nat} (h1 : u1 < n) (h2 : u2 < n) (h3 : d < n) (e1 : lf X Y s u1 = hi) (e2 : lf X Y s u2 = hi) (e3 : lf X Y s d = lo) (hx1 : X u1 < X d) (hx2 : X d < X u2) : ∃ v, Th n X Y v ∧ hi - lo ≤ v + v ∧ lo - hi ≤ v + v := by
 have h0 : X u1 - X u2 ≠ 0 := by grind
 have e := Rat.div_mul_cancel (a := Y u1 - Y u2) h0
 have es : (Y u1 - Y u2) / (X u1 - X u2) = s := by
  generalize (Y u1 - Y u2) / (X u1 - X u2) = p at *
  have h2 : (p - s) * (X u1 - X u2) = 0 := by unfold lf at e1 e2; grind
  rcases Rat.mul_eq_zero.1 h2 with h2 | h2
  ·grind
  ·exact absurd h2 h0
 refine ⟨_, .inr (.inr ⟨u1, u2, d, h1, h2, h3, by grind, by rintro rfl; grind, by rintro rfl; grind, .inl ⟨by grind, by grind⟩, rfl⟩), ?_⟩
 rw [es]
 obtain ⟨a1, a2⟩ := c0k (Y d - (Y u1 + s * (X d - X u1)))
 have ev : Y d - (Y u1 + s * (X d - X u1)) = lo - hi := by unfold lf at e1 e3; grind
 rw [ev] at a1 a2 ⊢
 constructor <;> grind
theorem c9o {s b : Rat} (hb : IsB n X Y s b) (hmin : ∀ i k, i < n → k < n → X i ≠ X k → ∀ c, IsB n X Y ((Y i - Y k) / (X i - X k)) c → b ≤ c) (hn : 0 < n) : ∃ v, Th n X Y v ∧ b ≤ v := by
 obtain ⟨hi, lo, hM, hN, rfl⟩ := hb
 have hlh : lo ≤ hi := by obtain ⟨d, hd, ed⟩ := hN.at_; have := hM.le d hd; grind
 by_cases hlt : lo < hi
 ·by_cases hE : ∃ v, Th n X Y v ∧ hi - lo ≤ v + v
  ·obtain ⟨v, h1, h2⟩ := hE
   exact ⟨v, h1, by grind⟩
  ·exfalso
   have hm2 : ∀ i k, i < n → k < n → X i ≠ X k → ∃ u d, u < n ∧ d < n ∧ hi - lo ≤ lf X Y ((Y i - Y k) / (X i - X k)) u - lf X Y ((Y i - Y k) / (X i - X k)) d := by
    intro i k hi2 hk2 hne
    obtain ⟨c, hc⟩ := c8s (n := n) (X := X) (Y := Y) hn ((Y i - Y k) / (X i - X k))
    have h1 := hmin i k hi2 hk2 hne c hc
    obtain ⟨hi', lo', ⟨⟨u, hu, eu⟩, _⟩, ⟨⟨d, hd, ed⟩, _⟩, rfl⟩ := hc
    exact ⟨u, d, hu, hd, by grind⟩
   have hd1 : ∀ u d, u < n → d < n → lf X Y s u = hi → lf X Y s d = lo → X u ≠ X d := by
    intro u d hu hd e1 e2 hx
    refine hE ⟨_, .inr (.inl ⟨u, d, hu, hd, hx, rfl⟩), ?_⟩
    have := (c0k (Y u - Y d)).1
    unfold lf at e1 e2
    rw [hx] at e1
    grind
   have hd2 : ∀ u1 u2 d, u1 < n → u2 < n → d < n → lf X Y s u1 = hi → lf X Y s u2 = hi → lf X Y s d = lo → X u1 < X d → X d < X u2 → False := by
    intro u1 u2 d h1 h2 h3 e1 e2 e3 hx1 hx2
    obtain ⟨v, hv, hv1, hv2⟩ := c3p h1 h2 h3 e1 e2 e3 hx1 hx2
    exact hE ⟨v, hv, hv1⟩
   have hd3 : ∀ d1 d2 u, d1 < n → d2 < n → u < n → lf X Y s d1 = lo → lf X Y s d2 = lo → lf X Y s u = hi → X d1 < X u → X u < X d2 → False := by
    intro d1 d2 u h1 h2 h3 e1 e2 e3 hx1 hx2
    obtain ⟨v, hv, hv1, hv2⟩ := c3p h1 h2 h3 e1 e2 e3 hx1 hx2
    exact hE ⟨v, hv, hv2⟩
   obtain ⟨u0, hu0, eu0⟩ := hM.at_
   obtain ⟨d0, hd0, ed0⟩ := hN.at_
   by_cases c : X u0 < X d0
   ·refine c1f hM hN hlt (fun u d hu hd eu ed => ?_) hm2
    have n1 := hd1 u d hu hd eu ed
    have n2 := hd1 u0 d hu0 hd eu0 ed
    by_cases c2 : X u < X d
    ·exact c2
    ·exfalso
     by_cases c3 : X u0 < X d
     ·exact hd2 u0 u d hu0 hu hd eu0 eu ed c3 (by grind)
     ·exact hd3 d d0 u0 hd hd0 hu0 ed ed0 eu0 (by grind) c
   ·have n0 := hd1 u0 d0 hu0 hd0 eu0 ed0
    refine c4t hM hN hlt (fun u d hu hd eu ed => ?_) hm2
    have n1 := hd1 u d hu hd eu ed
    have n2 := hd1 u0 d hu0 hd eu0 ed
    by_cases c2 : X d < X u
    ·exact c2
    ·exfalso
     by_cases c3 : X d < X u0
     ·exact hd2 u u0 d hu hu0 hd eu eu0 ed (by grind) c3
     ·exact hd3 d0 d u0 hd0 hd hu0 ed0 ed eu0 (by grind) (by grind)
 ·exact ⟨0, .inl rfl, by grind⟩
theorem strip_eq {s b T : Rat} (hb : IsB n X Y s b) (hmin : ∀ i k, i < n → k < n → X i ≠ X k → ∀ c, IsB n X Y ((Y i - Y k) / (X i - X k)) c → b ≤ c) (hn : 0 < n) (hT : Th n X Y T) (hm : ∀ v, Th n X Y v → v ≤ T) : b = T ∧ ∀ t c, IsB n X Y t c → b ≤ c := by
 have h1 := c7w hb hT hn
 obtain ⟨v, hv, h2⟩ := c9o hb hmin hn
 have h3 := hm v hv
 have e : b = T := Rat.le_antisymm (by grind) h1
 exact ⟨e, fun t c hc => by rw [e]; exact c7w hc hT hn⟩
end St
def mxQ : List Rat → Rat
 | [] => 0
 | a :: l => l.foldl (fun m x => if m < x then x else m) a
def mnQ : List Rat → Rat
 | [] => 0
 | a :: l => l.foldl (fun m x => if x < m then x else m) a
theorem a8y : ∀ (l : List Rat) (a : Rat), (l.foldl (fun m x => if m < x then x else m) a ∈ a :: l) ∧ ∀ x ∈ a :: l, x ≤ l.foldl (fun m x => if m < x then x else m) a
 | [], a => ⟨by simp, fun x h => by rw [List.mem_singleton.1 h]; exact Rat.le_refl⟩
 | b :: l, a => by
  rw [List.foldl_cons]
  by_cases h : a < b
  ·rw [if_pos h]
   obtain ⟨h1, h2⟩ := a8y l b
   refine ⟨List.mem_cons_of_mem _ h1, fun x hx => ?_⟩
   rcases List.mem_cons.1 hx with rfl | hx
   ·exact Rat.le_trans (Rat.le_of_lt h) (h2 b (by simp))
   ·exact h2 x hx
  ·rw [if_neg h]
   obtain ⟨h1, h2⟩ := a8y l a
   refine ⟨?_, fun x hx => ?_⟩
   ·rcases List.mem_cons.1 h1 with h1 | h1
    ·rw [h1]; simp
    ·exact List.mem_cons_of_mem _ (List.mem_cons_of_mem _ h1)
   ·rcases List.mem_cons.1 hx with rfl | hx
    ·exact h2 _ (by simp)
    ·rcases List.mem_cons.1 hx with rfl | hx
     ·exact Rat.le_trans (Rat.not_lt.1 h) (h2 a (by simp))
     ·exact h2 x (List.mem_cons_of_mem _ hx)
theorem a9y : ∀ (l : List Rat) (a : Rat), (l.foldl (fun m x => if x < m then x else m) a ∈ a :: l) ∧ ∀ x ∈ a :: l, l.foldl (fun m x => if x < m then x else m) a ≤ x
 | [], a => ⟨by simp, fun x h => by rw [List.mem_singleton.1 h]; exact Rat.le_refl⟩
 | b :: l, a => by
  rw [List.foldl_cons]
  by_cases h : b < a
  ·rw [if_pos h]
   obtain ⟨h1, h2⟩ := a9y l b
   refine ⟨List.mem_cons_of_mem _ h1, fun x hx => ?_⟩
   rcases List.mem_cons.1 hx with rfl | hx
   ·exact Rat.le_trans (h2 b (by simp)) (Rat.le_of_lt h)
   ·exact h2 x hx
  ·rw [if_neg h]
   obtain ⟨h1, h2⟩ := a9y l a
   refine ⟨?_, fun x hx => ?_⟩
   ·rcases List.mem_cons.1 h1 with h1 | h1
    ·rw [h1]; simp
    ·exact List.mem_cons_of_mem _ (List.mem_cons_of_mem _ h1)
   ·rcases List.mem_cons.1 hx with rfl | hx
    ·exact h2 _ (by simp)
    ·rcases List.mem_cons.1 hx with rfl | hx
     ·exact Rat.le_trans (h2 a (by simp)) (Rat.not_lt.1 h)
     ·exact h2 x (List.mem_cons_of_mem _ hx)
theorem U0 {l : List Rat} (h : 0 < l.length) : mxQ l ∈ l ∧ ∀ x ∈ l, x ≤ mxQ l := by
 cases l with
 | nil => exact absurd h (Nat.lt_irrefl 0)
 | cons a l => exact a8y l a
theorem M4 {l : List Rat} (h : 0 < l.length) : mnQ l ∈ l ∧ ∀ x ∈ l, mnQ l ≤ x := by
 cases l with
 | nil => exact absurd h (Nat.lt_irrefl 0)
 | cons a l => exact a9y l a
theorem c8q {l : List Rat} {v : Rat} (h : v ∈ l) (h2 : ∀ x ∈ l, x ≤ v) : mxQ l = v := by
 have hp : 0 < l.length := List.length_pos_of_mem h
 obtain ⟨h3, h4⟩ := U0 hp
 exact Rat.le_antisymm (h2 _ h3) (h4 v h)
theorem c3s {l : List Rat} {v : Rat} (h : v ∈ l) (h2 : ∀ x ∈ l, v ≤ x) : mnQ l = v := by
 have hp : 0 < l.length := List.length_pos_of_mem h
 obtain ⟨h3, h4⟩ := M4 hp
 exact Rat.le_antisymm (h4 v h) (h2 _ h3)
theorem c3l {l k : List Rat} (hp : l.Perm k) : mnQ l = mnQ k := by
 rcases Nat.eq_zero_or_pos l.length with h | h
 ·have h1 := List.length_eq_zero_iff.1 h
  subst h1
  rw [hp.nil_eq]
 ·have h2 : 0 < k.length := by rw [← hp.length_eq]; exact h
  obtain ⟨h3, h4⟩ := M4 h2
  exact c3s (hp.mem_iff.2 h3) fun x hx => h4 x (hp.mem_iff.1 hx)
def xQ (xs : List Int) (i : Nat) : Rat := (xs.getD i default : Int)
def lfQ (xs ys : List Int) (s : Rat) (i : Nat) : Rat := xQ ys i - s * xQ xs i
def lfL (xs ys : List Int) (s : Rat) : List Rat := (List.range xs.length).map (lfQ xs ys s)
def brd (xs ys : List Int) (s : Rat) : Rat := (mxQ (lfL xs ys s) - mnQ (lfL xs ys s)) * (1 / 2)
def stP (xs ys : List Int) : Rat := mnQ ((slA xs ys).map (brd xs ys))
theorem Q3 (xs ys : List Int) (s : Rat) (i : Nat) : (List.range (i + 1)).map (lfQ xs ys s) = (List.range i).map (lfQ xs ys s) ++ [lfQ xs ys s i] := by
 rw [List.range_succ, List.map_append]; rfl
theorem b3v {xs ys : List Int} (s : Rat) (h : 0 < xs.length) : St.IsB xs.length (xQ xs) (xQ ys) s (brd xs ys s) := by
 have hl : 0 < (lfL xs ys s).length := by simp [lfL]; exact h
 obtain ⟨h1, h2⟩ := U0 hl
 obtain ⟨h3, h4⟩ := M4 hl
 have hm : ∀ i, i < xs.length → lfQ xs ys s i ∈ lfL xs ys s := fun i hi => List.mem_map.2 ⟨i, List.mem_range.2 hi, rfl⟩
 refine ⟨_, _, ⟨?_, fun i hi => h2 _ (hm i hi)⟩, ⟨?_, fun i hi => h4 _ (hm i hi)⟩, rfl⟩
 ·obtain ⟨i, hi, e⟩ := List.mem_map.1 h1
  exact ⟨i, List.mem_range.1 hi, e⟩
 ·obtain ⟨i, hi, e⟩ := List.mem_map.1 h3
  exact ⟨i, List.mem_range.1 hi, e⟩
theorem c5p {n : Nat} {X Y : Nat → Rat} {s b c : Rat} (h1 : St.IsB n X Y s b) (h2 : St.IsB n X Y s c) : b = c := by
 obtain ⟨hi, lo, ⟨⟨u, hu, eu⟩, hM⟩, ⟨⟨d, hd, ed⟩, hN⟩, rfl⟩ := h1
 obtain ⟨hi', lo', ⟨⟨u', hu', eu'⟩, hM'⟩, ⟨⟨d', hd', ed'⟩, hN'⟩, rfl⟩ := h2
 have a1 := hM u' hu'
 have a2 := hM' u hu
 have a3 := hN d' hd'
 have a4 := hN' d hd
 have e1 : hi = hi' := Rat.le_antisymm (by grind) (by grind)
 have e2 : lo = lo' := Rat.le_antisymm (by grind) (by grind)
 rw [e1, e2]
theorem c3h (xs ys : List Int) (i k : Nat) : slq xs ys i k = (xQ ys i - xQ ys k) / (xQ xs i - xQ xs k) := by
 unfold slq xQ
 rw [Rat.divInt_eq_div, Rat.intCast_sub, Rat.intCast_sub]
theorem c0c {xs : List Int} {i k : Nat} : xQ xs i ≠ xQ xs k ↔ xs.getD i default ≠ xs.getD k default := by
 unfold xQ
 rw [ne_eq, Rat.intCast_inj]
theorem c7l {xs ys : List Int} {q : Rat} : q ∈ slA xs ys ↔ ∃ i k, i < xs.length ∧ k < xs.length ∧ xs.getD i default ≠ xs.getD k default ∧ q = slq xs ys i k := by
 have hs : ∀ i k, slq xs ys i k = slq xs ys k i := by
  intro i k
  unfold slq
  rw [← Rat.neg_divInt_neg, Int.neg_sub, Int.neg_sub]
 constructor
 ·intro h
  rw [slA, c0f, tri] at h
  obtain ⟨i, hi, h⟩ := List.mem_flatMap.1 h
  obtain ⟨k, hk, h⟩ := List.mem_flatMap.1 h
  rw [List.mem_range] at hi hk
  unfold sl1 at h
  split at h
  ·cases h
  ·rename_i hne
   exact ⟨i, k, hi, by omega, hne, List.mem_singleton.1 h⟩
 ·rintro ⟨i, k, hi, hk, hne, rfl⟩
  rcases Nat.lt_trichotomy i k with h | h | h
  ·rw [hs]; exact b2z hk h (fun e => hne e.symm)
  ·exact absurd (by rw [h]) hne
  ·exact b2z hi h hne
def atQ (xs ys : List Int) (i k j : Nat) : Rat := xQ ys i + slq xs ys i k * (xQ xs j - xQ xs i)
def dvQ (xs ys : List Int) (i k j : Nat) : Rat := St.absQ (xQ ys j - atQ xs ys i k j) * (1 / 2)
def btw (xs : List Int) (i k j : Nat) : Bool := decide (min (xs.getD i default) (xs.getD k default) ≤ xs.getD j default) && decide (xs.getD j default ≤ max (xs.getD i default) (xs.getD k default))
def th3 (xs ys : List Int) (i k j : Nat) : List Rat := if j ≠ i ∧ j ≠ k ∧ btw xs i k j = true then [dvQ xs ys i k j] else []
def th2 (xs ys : List Int) (i k : Nat) : List Rat := if xs.getD i default = xs.getD k default then [St.absQ (xQ ys i - xQ ys k) * (1 / 2)] else (List.range xs.length).flatMap (th3 xs ys i k)
def th1 (xs ys : List Int) (i : Nat) : List Rat := (List.range xs.length).flatMap (th2 xs ys i)
def thA (xs ys : List Int) : List Rat := [0] ++ (List.range xs.length).flatMap (th1 xs ys)
theorem W7 {α : Type} (f : Nat → List α) (n : Nat) : (List.range (n + 1)).flatMap f = (List.range n).flatMap f ++ f n := by
 rw [List.range_succ, List.flatMap_append]; simp
theorem c0v {xs ys : List Int} {v : Rat} : v ∈ thA xs ys ↔ St.Th xs.length (xQ xs) (xQ ys) v := by
 have hle : ∀ a b : Int, ((a : Rat) ≤ (b : Rat)) ↔ a ≤ b := fun a b => Rat.intCast_le_intCast
 have hb : ∀ i k j, btw xs i k j = true ↔ (xQ xs i ≤ xQ xs j ∧ xQ xs j ≤ xQ xs k ∨ xQ xs k ≤ xQ xs j ∧ xQ xs j ≤ xQ xs i) := by
  intro i k j
  unfold btw xQ
  simp only [Bool.and_eq_true, decide_eq_true_eq, hle]
  omega
 constructor
 ·intro h
  rcases List.mem_append.1 h with h | h
  ·exact .inl (List.mem_singleton.1 h)
  ·obtain ⟨i, hi, h⟩ := List.mem_flatMap.1 h
   obtain ⟨k, hk, h⟩ := List.mem_flatMap.1 h
   rw [List.mem_range] at hi hk
   unfold th2 at h
   split at h
   ·rename_i e
    exact .inr (.inl ⟨i, k, hi, hk, by unfold xQ; rw [e], List.mem_singleton.1 h⟩)
   ·rename_i hne
    obtain ⟨j, hj, h⟩ := List.mem_flatMap.1 h
    rw [List.mem_range] at hj
    unfold th3 at h
    split at h
    ·rename_i hc
     refine .inr (.inr ⟨i, k, j, hi, hk, hj, c0c.2 hne, hc.1, hc.2.1, (hb i k j).1 hc.2.2, ?_⟩)
     rw [List.mem_singleton.1 h, dvQ, atQ, c3h]
    ·cases h
 ·rintro (rfl | ⟨i, k, hi, hk, e, rfl⟩ | ⟨i, k, j, hi, hk, hj, hne, h1, h2, h3, rfl⟩)
  ·exact List.mem_append.2 (.inl (by simp))
  ·refine List.mem_append.2 (.inr (List.mem_flatMap.2 ⟨i, List.mem_range.2 hi, List.mem_flatMap.2 ⟨k, List.mem_range.2 hk, ?_⟩⟩))
   have e2 : xs.getD i default = xs.getD k default := by
    by_cases c : xs.getD i default = xs.getD k default
    ·exact c
    ·exact absurd e (c0c.2 c)
   rw [th2, if_pos e2]; simp
  ·refine List.mem_append.2 (.inr (List.mem_flatMap.2 ⟨i, List.mem_range.2 hi, List.mem_flatMap.2 ⟨k, List.mem_range.2 hk, ?_⟩⟩))
   rw [th2, if_neg (c0c.1 hne)]
   refine List.mem_flatMap.2 ⟨j, List.mem_range.2 hj, ?_⟩
   rw [th3, if_pos ⟨h1, h2, (hb i k j).2 h3⟩, dvQ, atQ, c3h]
   simp
theorem b1t {xs ys : List Int} (hw : wd xs = true) : stP xs ys = mxQ (thA xs ys) ∧ ∀ t, stP xs ys ≤ brd xs ys t := by
 have hn : 0 < xs.length := by have := a5m hw; omega
 have hp := a4x (ys := ys) hw
 obtain ⟨h1, h2⟩ := M4 (l := (slA xs ys).map (brd xs ys)) (by simpa using hp)
 obtain ⟨s, hs, es⟩ := List.mem_map.1 h1
 obtain ⟨h3, h4⟩ := U0 (l := thA xs ys) (by simp [thA])
 have hB : St.IsB xs.length (xQ xs) (xQ ys) s (stP xs ys) := by
  have := b3v (xs := xs) (ys := ys) s hn
  rw [es] at this
  exact this
 obtain ⟨a, b⟩ := St.strip_eq hB (fun i k hi hk hne c hc => by
  have hm : slq xs ys i k ∈ slA xs ys := c7l.2 ⟨i, k, hi, hk, c0c.1 hne, rfl⟩
  have := h2 _ (List.mem_map.2 ⟨_, hm, rfl⟩)
  rw [← c3h] at hc
  rw [c5p hc (b3v _ hn)]
  exact this) hn (c0v.1 h3) (fun v hv => h4 v (c0v.2 hv))
 exact ⟨a, fun t => b t _ (b3v t hn)⟩
end Go.Mv
namespace Go.Mv
theorem Y4 {l : List Rat} (x : Rat) (h : 0 < l.length) : mxQ (l ++ [x]) = if mxQ l < x then x else mxQ l := by
 cases l with
 | nil => exact absurd h (Nat.lt_irrefl 0)
 | cons a l => show List.foldl _ a (l ++ [x]) = _; rw [List.foldl_append]; rfl
theorem T9 {l : List Rat} (x : Rat) (h : 0 < l.length) : mnQ (l ++ [x]) = if x < mnQ l then x else mnQ l := by
 cases l with
 | nil => exact absurd h (Nat.lt_irrefl 0)
 | cons a l => show List.foldl _ a (l ++ [x]) = _; rw [List.foldl_append]; rfl
theorem Sm.half {a : Int} {p : Rat} (hp : Sm a p) : Sm (a * 2) (p * (1 / 2)) := hp.mul b2t
theorem P3 {xs : List Int} (h : J3 (-12) 12 xs = true) (i : Nat) : Sm 12 (xQ xs i) := b6k (F4 h (by decide) i) (by decide)
theorem b3p {xs ys : List Int} {s : Rat} (hx : J3 (-12) 12 xs = true) (hy : J3 (-12) 12 ys = true) (hs : Sm 24 s) (i : Nat) : Sm 6912 (lfQ xs ys s i) :=
 ((P3 hy i).sub (hs.mul (P3 hx i))).mono (by decide)
theorem b7w {xs ys : List Int} {s : Rat} (hx : J3 (-12) 12 xs = true) (hy : J3 (-12) 12 ys = true) (hs : Sm 24 s) : ∀ q ∈ lfL xs ys s, Sm 6912 q := by
 intro q hq
 obtain ⟨i, _, rfl⟩ := List.mem_map.1 hq
 exact b3p hx hy hs i
theorem b4j {xs ys : List Int} {s : Rat} (hx : J3 (-12) 12 xs = true) (hy : J3 (-12) 12 ys = true) (hs : Sm 24 s) (hn : 0 < xs.length) : Sm 200000000 (brd xs ys s) := by
 have hl : 0 < (lfL xs ys s).length := by simp [lfL]; exact hn
 exact (((b7w hx hy hs _ (U0 hl).1).sub (b7w hx hy hs _ (M4 hl).1)).half).mono (by decide)
theorem c5e (xs ys : List Int) : mnQ ((sortQ (slA xs ys)).map (brd xs ys)) = stP xs ys := c3l ((a3e _).map _)
theorem a7m {a : Int} {q : Rat} (h : Sm a q) : Sm a (St.absQ q) := by
 unfold St.absQ
 split
 ·exact h.neg
 ·exact h
theorem a7t {xs ys : List Int} (hx : J3 (-12) 12 xs = true) (hy : J3 (-12) 12 ys = true) {i k : Nat} (h : xs.getD i default ≠ xs.getD k default) (j : Nat) : Sm 13824 (atQ xs ys i k j) := by
 have h1 : Sm 24 (xQ xs j - xQ xs i) := by
  have a := F4 hx (by decide) j
  have b := F4 hx (by decide) i
  unfold xQ
  rw [← Rat.intCast_sub]
  exact b6k (by omega) (by decide)
 exact ((P3 hy i).add ((b2p hx hy h).mul h1)).mono (by decide)
theorem c9r {xs ys : List Int} (hx : J3 (-12) 12 xs = true) (hy : J3 (-12) 12 ys = true) : ∀ v ∈ thA xs ys, Sm 1000000 v := by
 intro v hv
 rcases List.mem_append.1 hv with h | h
 ·rw [List.mem_singleton.1 h]; exact b6k (n := 0) (by decide) (by decide)
 ·obtain ⟨i, _, h⟩ := List.mem_flatMap.1 h
  obtain ⟨k, _, h⟩ := List.mem_flatMap.1 h
  unfold th2 at h
  split at h
  ·rw [List.mem_singleton.1 h]
   exact ((a7m ((P3 hy i).sub (P3 hy k))).half).mono (by decide)
  ·rename_i hne
   obtain ⟨j, _, h⟩ := List.mem_flatMap.1 h
   unfold th3 at h
   split at h
   ·rw [List.mem_singleton.1 h]
    exact ((a7m ((P3 hy j).sub (a7t hx hy hne j))).half).mono (by decide)
   ·cases h
end Go.Mv
namespace Go.Mv
theorem c5y (p q : Rat) : 0 < (p - q).num ↔ q < p := by
 rw [← a8q q p, show q - p = -(p - q) by grind, (W5 (p - q)).1]
 omega
def stX (xs ys : List Int) : Int × Int := if vc xs ys = true then ((stP xs ys).num, ((stP xs ys).den : Int)) else (0, 0)
def thX (xs ys : List Int) : Int × Int := if vc xs ys = true then ((mxQ (thA xs ys)).num, ((mxQ (thA xs ys)).den : Int)) else (0, 0)
theorem c7a {xs ys : List Int} (h : xs.length ≤ 7) : (thA xs ys).length ≤ 344 := by
 have fl : ∀ {α : Type} (f : Nat → List α) (c : Nat), (∀ i, (f i).length ≤ c) → ∀ n, ((List.range n).flatMap f).length ≤ n * c := by
  intro α f c hf n
  induction n with
  | zero => simp
  | succ n ih => rw [W7, List.length_append, Nat.succ_mul]; have := hf n; omega
 have h3 : ∀ i k j, (th3 xs ys i k j).length ≤ 1 := by intro i k j; unfold th3; split <;> simp
 have h2 : ∀ i k, (th2 xs ys i k).length ≤ 7 := by
  intro i k
  unfold th2
  split
  ·simp
  ·have := fl (th3 xs ys i k) 1 (h3 i k) xs.length; omega
 have h1 : ∀ i, (th1 xs ys i).length ≤ 49 := by intro i; have := fl (th2 xs ys i) 7 (h2 i) xs.length; unfold th1; omega
 have := fl (th1 xs ys) 49 h1 xs.length
 unfold thA
 rw [List.length_append]
 simp only [List.length_cons, List.length_nil]
 omega
theorem a6j (s : Int) : Rat.divInt s 1 = (s : Rat) := by
 rw [Rat.divInt_eq_div]
 have : ((1 : Int) : Rat) = 1 := rfl
 rw [this]
 grind
theorem c3t (p : Rat) : (St.absQ p).num = max p.num (0 - p.num) ∧ (St.absQ p).den = p.den := by
 unfold St.absQ
 have h := W5 p
 split
 ·rename_i hp
  have := (a8q p 0).2 hp; rw [show p - 0 = p by grind] at this
  exact ⟨by rw [h.1]; omega, h.2⟩
 ·rename_i hp
  have := Rat.num_nonneg.2 (Rat.not_lt.1 hp)
  exact ⟨by omega, rfl⟩
theorem b9x {xs ys : List Int} {m1 m2 : Int} (hl : xs.length = ys.length) (hw : wd xs = true) (h1 : m1 ∈ ys) (h2 : ∀ y ∈ ys, y ≤ m1) (h3 : m2 ∈ ngI ys) (h4 : ∀ y ∈ ngI ys, y ≤ m2) :
  stP xs ys ≤ Rat.divInt (m1 + m2) 2 := by
 have hb := (b1t (ys := ys) hw).2 0
 have e : lfL xs ys 0 = ys.map (fun y : Int => (y : Rat)) := by
  unfold lfL
  apply List.ext_getElem
  ·simp [hl]
  ·intro i a b
   simp only [List.length_map, List.length_range] at a b
   simp only [List.getElem_map, List.getElem_range, lfQ, xQ, Rat.zero_mul, List.getD_eq_getElem?_getD, List.getElem?_eq_getElem b, Option.getD_some]
   grind
 have e1 : mxQ (lfL xs ys 0) = (m1 : Rat) := by
  rw [e]
  refine c8q (List.mem_map_of_mem h1) fun x hx => ?_
  obtain ⟨y, hy, rfl⟩ := List.mem_map.1 hx
  exact Rat.intCast_le_intCast.2 (h2 y hy)
 have e2 : mnQ (lfL xs ys 0) = ((-m2 : Int) : Rat) := by
  rw [e]
  obtain ⟨y, hy, rfl⟩ := List.mem_map.1 h3
  refine c3s (List.mem_map.2 ⟨y, hy, by simp⟩) fun x hx => ?_
  obtain ⟨z, hz, rfl⟩ := List.mem_map.1 hx
  have := h4 (-z) (List.mem_map_of_mem hz)
  exact Rat.intCast_le_intCast.2 (by omega)
 have e3 : brd xs ys 0 = Rat.divInt (m1 + m2) 2 := by
  unfold brd
  rw [e1, e2, Rat.divInt_eq_div, Rat.intCast_add, Rat.intCast_neg]
  have : ((2 : Int) : Rat) = 2 := rfl
  rw [this]
  grind
 rw [← e3]; exact hb
theorem c6n {n a : Int} (h : -a ≤ n ∧ n ≤ a) (ha : 1 ≤ a) : Sm (a * 2) (Rat.divInt n 2) := by
 have e : Rat.divInt n 2 = (n : Rat) * (1 / 2) := by
  rw [Rat.divInt_eq_div]
  have : ((2 : Int) : Rat) = 2 := rfl
  rw [this]
  grind
 rw [e]
 exact (b6k h ha).mul b2t
theorem c8i {xs ys : List Int} (hx : J3 (-12) 12 xs = true) (hy : J3 (-12) 12 ys = true) (hw : wd xs = true) : Sm 200000000 (stP xs ys) := by
 have hp := a4x (ys := ys) hw
 obtain ⟨s, hs, e⟩ := List.mem_map.1 (M4 (l := (slA xs ys).map (brd xs ys)) (by rw [List.length_map]; exact hp)).1
 unfold stP
 rw [← e]
 exact b4j hx hy (a0m hx hy _ _ hs) (by have := a5m hw; omega)
end Go.Mv
end
