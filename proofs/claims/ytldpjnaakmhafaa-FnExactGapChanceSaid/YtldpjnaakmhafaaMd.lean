/- The abstract machine, part 4 of 4: it runs the model's code on abstract values and is proved sound over any program. Conditions: none. -/
import Derived.Lib.AtoiAll
import Derived.Test.YtldpjnaakmhafaaMc

set_option linter.unusedVariables false
set_option linter.unusedSimpArgs false
section
namespace Go.Mv
open Classical
def ZD (n : Nat) (m : List (List Int)) : Prop := Sq n m ∧ (∀ i, i < n → G m i i = 0) ∧ ∀ i k, i < n → k < n → 0 ≤ G m i k
def nw (m : List (List Int)) (v a b : Nat) : Int := min (G m a b) (max (G m a v) (G m v b))
theorem c2b {n : Nat} {m : List (List Int)} (h : ZD n m) {v b : Nat} (hv : v < n) (hb : b < n) : nw m v v b = G m v b := by
 have h1 := h.2.1 v hv
 have h2 := h.2.2 v b hv hb
 unfold nw; omega
theorem c1z {n : Nat} {m : List (List Int)} (h : ZD n m) {v a : Nat} (hv : v < n) (ha : a < n) : nw m v a v = G m a v := by
 have h1 := h.2.1 v hv
 have h2 := h.2.2 a v ha hv
 unfold nw; omega
theorem c1y {n : Nat} {m X : List (List Int)} (hz : ZD n m) {v i : Nat} (hv : v < n) (hi : i < n) (hX : Sq n X)
  (h : ∀ a b, a < n → b < n → G X a b = if a < i then nw m v a b else G m a b) :
  ∀ k, k ≤ n → ∀ a b, a < n → b < n → G (fwIn X v i k) a b = if a < i ∨ (a = i ∧ b < k) then nw m v a b else G m a b
 | 0, _, a, b, ha, hb => by
  rw [show fwIn X v i 0 = X from rfl, h a b ha hb]
  by_cases h1 : a < i
  ·rw [if_pos h1, if_pos (.inl h1)]
  ·rw [if_neg h1, if_neg (by omega)]
 | k + 1, hk, a, b, ha, hb => by
  have ih := c1y hz hv hi hX h k (by omega)
  have hs := a5u hX (v := v) hi k
  rw [show fwIn X v i (k + 1) = a9m (fwIn X v i k) v i k from rfl, b6s hs hi (by omega)]
  by_cases h1 : a = i ∧ b = k
  ·obtain ⟨rfl, rfl⟩ := h1
   rw [if_pos ⟨rfl, rfl⟩, if_pos (by omega), ih a b ha hb, ih a v ha hv, ih v b hv hb, if_neg (by omega)]
   have e1 : (if a < a ∨ (a = a ∧ v < b) then nw m v a v else G m a v) = G m a v := by
    split
    ·exact c1z hz hv ha
    ·rfl
   have e2 : (if v < a ∨ (v = a ∧ b < b) then nw m v v b else G m v b) = G m v b := by
    split
    ·exact c2b hz hv hb
    ·rfl
   rw [e1, e2]
   rfl
  ·rw [if_neg h1, ih a b ha hb]
   by_cases h2 : a < i ∨ (a = i ∧ b < k)
   ·rw [if_pos h2, if_pos (by omega)]
   ·rw [if_neg h2, if_neg (by omega)]
theorem b6p {n : Nat} {m : List (List Int)} (hz : ZD n m) {v : Nat} (hv : v < n) :
  ∀ i, i ≤ n → ∀ a b, a < n → b < n → G (fwMid n m v i) a b = if a < i then nw m v a b else G m a b
 | 0, _, a, b, _, _ => by rw [if_neg (by omega)]; rfl
 | i + 1, hi, a, b, ha, hb => by
  rw [show fwMid n m v (i + 1) = fwIn (fwMid n m v i) v i n from rfl, c1y hz hv (by omega) (a2j hz.1 i (by omega)) (b6p hz hv i (by omega)) n (Nat.le_refl _) a b ha hb]
  by_cases h2 : a < i + 1
  ·rw [if_pos h2, if_pos (by omega)]
  ·rw [if_neg h2, if_neg (by omega)]
theorem L2 {n : Nat} {m : List (List Int)} {v : Nat} (hz : ZD n (fwOut n m v)) (hv : v < n) {a b : Nat} (ha : a < n) (hb : b < n) : G (fwOut n m (v + 1)) a b = nw (fwOut n m v) v a b := by
 rw [show fwOut n m (v + 1) = fwMid n (fwOut n m v) v n from rfl, b6p hz hv n (Nat.le_refl _) a b ha hb, if_pos ha]
theorem a0x {n : Nat} {m : List (List Int)} (hz : ZD n m) : ∀ v, v ≤ n → ZD n (fwOut n m v)
 | 0, _ => hz
 | v + 1, hv => by
  have ih := a0x hz v (by omega)
  refine ⟨a3d hz.1 _, fun i hi => ?_, fun i k hi hk => ?_⟩
  ·rw [L2 ih (by omega) hi hi]
   have h1 := ih.2.1 i hi
   have h2 := ih.2.2 i v hi (by omega)
   unfold nw; omega
  ·rw [L2 ih (by omega) hi hk]
   have h1 := ih.2.2 i k hi hk
   have h2 := ih.2.2 i v hi (by omega)
   unfold nw; omega
theorem a8x {n : Nat} {m : List (List Int)} (hz : ZD n m) : ∀ v, v ≤ n → ∀ i k u, i < n → k < n → u < v → G (fwOut n m v) i k ≤ max (G (fwOut n m v) i u) (G (fwOut n m v) u k)
 | 0, _, _, _, _, _, _, hu => by omega
 | v + 1, hv, i, k, u, hi, hk, hu => by
  have ih := a8x hz v (by omega)
  have zd := a0x hz v (by omega)
  have hvn : v < n := by omega
  rw [L2 zd hvn hi hk, L2 zd hvn hi (by omega), L2 zd hvn (by omega) hk]
  rcases Nat.lt_succ_iff_lt_or_eq.1 hu with h | h
  ·have e1 := ih i k u hi hk h
   have e2 := ih v k u hvn hk h
   have e3 := ih i v u hi hvn h
   have e4 := ih v v u hvn hvn h
   unfold nw; omega
  ·subst h
   rw [c1z zd hvn hi, c2b zd hvn hk]
   unfold nw; omega
theorem VG.zd {gs : List (List Int)} (h : VG gs) : ZD gs.length gs := ⟨h.sq, fun i hi => (h.1 i hi).2.1, fun i k hi hk => (h.pos hi hk).1⟩
theorem c4r {n : Nat} {m : List (List Int)} (h : Sq n m) : (fw m).length = n := (c6n h).1
theorem c0r {gs : List (List Int)} (h : ZD gs.length gs) {i k u : Nat} (hi : i < gs.length) (hk : k < gs.length) (hu : u < gs.length) : G (fw gs) i k ≤ max (G (fw gs) i u) (G (fw gs) u k) :=
 a8x h gs.length (Nat.le_refl _) i k u hi hk hu
theorem c4l {gs : List (List Int)} (h : ZD gs.length gs) : ZD gs.length (fw gs) := a0x h _ (Nat.le_refl _)
theorem a8v {n : Nat} {m : List (List Int)} (hz : ZD n m) (hs : ∀ i k, i < n → k < n → G m i k = G m k i) : ∀ v, v ≤ n → ∀ i k, i < n → k < n → G (fwOut n m v) i k = G (fwOut n m v) k i
 | 0, _, i, k, hi, hk => hs i k hi hk
 | v + 1, hv, i, k, hi, hk => by
  have ih := a8v hz hs v (by omega)
  have zd := a0x hz v (by omega)
  rw [L2 zd (by omega) hi hk, L2 zd (by omega) hk hi]
  unfold nw
  rw [ih i k hi hk, ih i v hi (by omega), ih v k (by omega) hk]
  omega
theorem a9n {n : Nat} {m : List (List Int)} (hz : ZD n m) {U : Nat → Nat → Int} (hU : ∀ i k u, i < n → k < n → u < n → U i k ≤ max (U i u) (U u k)) (hm : ∀ i k, i < n → k < n → U i k ≤ G m i k) :
  ∀ v, v ≤ n → ∀ i k, i < n → k < n → U i k ≤ G (fwOut n m v) i k
 | 0, _, i, k, hi, hk => hm i k hi hk
 | v + 1, hv, i, k, hi, hk => by
  have ih := a9n hz hU hm v (by omega)
  have zd := a0x hz v (by omega)
  rw [L2 zd (by omega) hi hk]
  have h1 := ih i k hi hk
  have h2 := ih i v hi (by omega)
  have h3 := ih v k (by omega) hk
  have h4 := hU i k v hi hk (by omega)
  unfold nw; omega
theorem c4o {gs : List (List Int)} (hz : ZD gs.length gs) {U : Nat → Nat → Int} (hU : ∀ i k u, i < gs.length → k < gs.length → u < gs.length → U i k ≤ max (U i u) (U u k)) (hm : ∀ i k, i < gs.length → k < gs.length → U i k ≤ G gs i k)
  {i k : Nat} (hi : i < gs.length) (hk : k < gs.length) : U i k ≤ G (fw gs) i k := a9n hz hU hm gs.length (Nat.le_refl _) i k hi hk
def Lab (g : List Int) (i k : Nat) : Prop := g.getD i default = g.getD k default
def mergeL (g : List Int) (a b : Nat) : List Int := g.map fun x => if x = g.getD b default then g.getD a default else x
def a2w (n : Nat) (g g2 : List Int) : Prop := ∀ i k, i < n → k < n → (Lab g i k ↔ Lab g2 i k)
def b4y (gs : List (List Int)) (n : Nat) (g : List Int) (j : Jn) : Prop :=
 j.1 < n ∧ j.2.1 < n ∧ ¬ Lab g j.1 j.2.1 ∧ j.2.2 = G gs j.1 j.2.1 ∧ ∀ i k, i < n → k < n → ¬ Lab g i k → j.2.2 ≤ G gs i k
theorem Q9 {g : List Int} {f : Int → Int} {i : Nat} (hi : i < g.length) : (g.map f).getD i default = f (g.getD i default) := by
 rw [List.getD_eq_getElem?_getD, List.getD_eq_getElem?_getD, List.getElem?_map, List.getElem?_eq_getElem hi]
 rfl
theorem P4 {g : List Int} {n a b i k : Nat} (hg : g.length = n) (hi : i < n) (hk : k < n) : Lab (mergeL g a b) i k ↔ Lab g i k ∨ (Lab g i a ∧ Lab g b k) ∨ (Lab g i b ∧ Lab g a k) := by
 unfold Lab mergeL
 rw [Q9 (by omega), Q9 (by omega)]
 split <;> split <;> omega
@[simp] theorem a7q (g : List Int) (a b : Nat) : (mergeL g a b).length = g.length := by simp [mergeL]
theorem a2w.merge {n : Nat} {g g2 : List Int} (h : a2w n g g2) (hg : g.length = n) (hg2 : g2.length = n) {a b : Nat} (ha : a < n) (hb : b < n) : a2w n (mergeL g a b) (mergeL g2 a b) := by
 intro i k hi hk
 rw [P4 hg hi hk, P4 hg2 hi hk, h i k hi hk, h i a hi ha, h b k hb hk, h i b hi hb, h a k ha hk]
theorem a2w.trans {n : Nat} {g g2 g3 : List Int} (h : a2w n g g2) (h2 : a2w n g2 g3) : a2w n g g3 := fun i k hi hk => (h i k hi hk).trans (h2 i k hi hk)
theorem b4y.same {gs : List (List Int)} {n : Nat} {g g2 : List Int} {j : Jn} (h : b4y gs n g2 j) (hs : a2w n g g2) : b4y gs n g j := by
 obtain ⟨h1, h2, h3, h4, h5⟩ := h
 exact ⟨h1, h2, fun h => h3 ((hs _ _ h1 h2).1 h), h4, fun i k hi hk hne => h5 i k hi hk fun h => hne ((hs i k hi hk).2 h)⟩
def KI (gs : List (List Int)) (g : List Int) (out : List (List Int)) : Prop :=
 Sq gs.length out ∧ g.length = gs.length ∧ ∀ i k, i < gs.length → k < gs.length → Lab g i k → G out i k = G (fw gs) i k ∧ ∀ i' k', i' < gs.length → k' < gs.length → ¬ Lab g i' k' → G (fw gs) i k ≤ G gs i' k'
theorem KI.step {gs : List (List Int)} (hv : VG gs) {g : List Int} {out out' : List (List Int)} {j : Jn} (h : KI gs g out) (hj : b4y gs gs.length g j) (hs : Sq gs.length out')
  (ho : ∀ i k, i < gs.length → k < gs.length → G out' i k = if (Lab g i j.1 ∧ Lab g k j.2.1) ∨ (Lab g k j.1 ∧ Lab g i j.2.1) then j.2.2 else G out i k) : KI gs (mergeL g j.1 j.2.1) out' := by
 obtain ⟨a, b, hh⟩ := j
 obtain ⟨ha, hb, hne, hgap, hmin⟩ := hj
 simp only at ha hb hne hgap hmin ho ⊢
 obtain ⟨h1, h2, h3⟩ := h
 have sy : ∀ {i k : Nat}, Lab g i k → Lab g k i := fun h => h.symm
 have tr : ∀ {i k l : Nat}, Lab g i k → Lab g k l → Lab g i l := fun h h' => Eq.trans h h'
 -- the step between two groups
 have key : ∀ i k, i < gs.length → k < gs.length → Lab g i a → Lab g k b → G (fw gs) i k = hh ∧ G (fw gs) k i = hh := by
  intro i k hi hk hia hkb
  have low : ∀ {x0 y0 : Nat}, x0 < gs.length → y0 < gs.length → (if Lab g x0 y0 then 0 else hh) ≤ G (fw gs) x0 y0 := fun {x0 y0} hx0 hy0 => c4o hv.zd (U := fun x y => if Lab g x y then 0 else hh) (fun x y u hx hy hu => by
   have hpos : 0 ≤ hh := by rw [hgap]; exact (hv.pos ha hb).1
   show (if Lab g x y then 0 else hh) ≤ max (if Lab g x u then 0 else hh) (if Lab g u y then 0 else hh)
   by_cases e1 : Lab g x u
   ·by_cases e2 : Lab g u y
    ·rw [if_pos (tr e1 e2), if_pos e1, if_pos e2]; omega
    ·rw [if_neg e2]; split <;> (try split) <;> omega
   ·rw [if_neg e1]; split <;> (try split) <;> omega) (fun x y hx hy => by
   show (if Lab g x y then 0 else hh) ≤ _
   by_cases e : Lab g x y
   ·rw [if_pos e]; exact (hv.pos hx hy).1
   ·rw [if_neg e]; exact hmin x y hx hy e) hx0 hy0
  have hik : ¬ Lab g i k := fun e => hne (tr (tr (sy hia) e) hkb)
  have l1 := low hi hk
  rw [if_neg hik] at l1
  have hsym : G (fw gs) i k = G (fw gs) k i := a8v hv.zd (fun i k hi hk => hv.sym hi hk) gs.length (Nat.le_refl _) i k hi hk
  have u1 := (h3 i a hi ha hia).2 a b ha hb hne
  have u2 := (h3 b k hb hk (sy hkb)).2 a b ha hb hne
  have u3 := c6k hv.sq a b
  have t1 := c0r hv.zd hi hk ha
  have t2 := c0r hv.zd ha hk hb
  omega
 refine ⟨hs, by rw [a7q]; exact h2, fun i k hi hk hl => ?_⟩
 have hl' := (P4 h2 hi hk).1 hl
 have cross : ∀ i' k', i' < gs.length → k' < gs.length → ¬ Lab (mergeL g a b) i' k' → ¬ Lab g i' k' := fun i' k' hi' hk' hn e => hn ((P4 h2 hi' hk').2 (.inl e))
 rcases hl' with e | ⟨e1, e2⟩ | ⟨e1, e2⟩
 ·have hno : ¬ ((Lab g i a ∧ Lab g k b) ∨ (Lab g k a ∧ Lab g i b)) := by
   rintro (⟨q1, q2⟩ | ⟨q1, q2⟩)
   ·exact hne (tr (tr (sy q1) e) q2)
   ·exact hne (tr (tr (sy q1) (sy e)) q2)
  rw [ho i k hi hk, if_neg hno]
  obtain ⟨p1, p2⟩ := h3 i k hi hk e
  exact ⟨p1, fun i' k' hi' hk' hn => p2 i' k' hi' hk' (cross i' k' hi' hk' hn)⟩
 ·rw [ho i k hi hk, if_pos (.inl ⟨e1, sy e2⟩)]
  have p := (key i k hi hk e1 (sy e2)).1
  exact ⟨p.symm, fun i' k' hi' hk' hn => by rw [p]; exact hmin i' k' hi' hk' (cross i' k' hi' hk' hn)⟩
 ·rw [ho i k hi hk, if_pos (.inr ⟨sy e2, e1⟩)]
  have p := (key k i hk hi (sy e2) e1).2
  exact ⟨p.symm, fun i' k' hi' hk' hn => by rw [p]; exact hmin i' k' hi' hk' (cross i' k' hi' hk' hn)⟩
theorem KI.start {gs : List (List Int)} (hv : VG gs) {g : List Int} (hg : g.length = gs.length) (hd : ∀ i, i < gs.length → g.getD i default = (i : Int)) {out : List (List Int)} (hs : Sq gs.length out) (ho : ∀ i k, i < gs.length → k < gs.length → G out i k = 0) : KI gs g out := by
 refine ⟨hs, hg, fun i k hi hk hl => ?_⟩
 unfold Lab at hl
 rw [hd i hi, hd k hk] at hl
 have e : i = k := by omega
 subst e
 rw [ho i i hi hi, (c4l hv.zd).2.1 i hi]
 refine ⟨rfl, fun i' k' hi' hk' _ => (hv.pos hi' hk').1⟩
theorem KI.fin {gs : List (List Int)} (hv : VG gs) {g : List Int} {out : List (List Int)} (h : KI gs g out) (ha : ∀ i k, i < gs.length → k < gs.length → Lab g i k) : out = fw gs := by
 have hl := c4r hv.sq
 refine I7 (d := default) (by rw [h.1.1, hl]) fun i hi => I7 (d := default) ?_ fun k hk => ?_
 ·rw [h.1.1] at hi
  rw [h.1.2 i hi, (c4l hv.zd).1.2 i hi]
 ·rw [h.1.1] at hi
  rw [h.1.2 i hi] at hk
  exact (h.2.2 i k hi hk (ha i k hi hk)).1
end Go.Mv
end

section
namespace Go.Mv
def idn (n : Nat) : List Int := (List.range n).map Int.ofNat
@[simp] theorem idn_length (n : Nat) : (idn n).length = n := by simp [idn]
theorem c1f {n i : Nat} (h : i < n) : (idn n).getD i default = (i : Int) := by
 unfold idn
 rw [List.getD_eq_getElem?_getD, List.getElem?_map, List.getElem?_range h]; rfl
def Al (n : Nat) (g : List Int) (k : Nat) : Prop := ∃ al : List Int, al.Nodup ∧ al.length = k ∧ (∀ i, i < n → g.getD i default ∈ al) ∧ (∀ v ∈ al, ∃ i, i < n ∧ g.getD i default = v)
theorem Al.start (n : Nat) : Al n (idn n) n := by
 refine ⟨idn n, ?_, by simp, fun i hi => ?_, fun v hv => ?_⟩
 ·unfold idn
  rw [List.nodup_iff_pairwise_ne, List.pairwise_map]
  exact (List.nodup_iff_pairwise_ne.1 List.nodup_range).imp fun h e => h (Int.ofNat.inj e)
 ·exact a6i (by simpa using hi)
 ·unfold idn at hv
  obtain ⟨i, hi, rfl⟩ := List.mem_map.1 hv
  exact ⟨i, by simpa using hi, c1f (by simpa using hi)⟩
theorem Al.merge {n k : Nat} {g : List Int} (h : Al n g k) (hg : g.length = n) {a b : Nat} (ha : a < n) (hb : b < n) (hne : ¬ Lab g a b) : Al n (mergeL g a b) (k - 1) ∧ 1 ≤ k := by
 obtain ⟨al, h1, h2, h3, h4⟩ := h
 have hbm := h3 b hb
 have hpos : 1 ≤ al.length := List.length_pos_of_mem hbm
 refine ⟨⟨al.erase (g.getD b default), h1.erase _, by rw [List.length_erase_of_mem hbm, h2], fun i hi => ?_, fun v hv => ?_⟩, by omega⟩
 ·unfold mergeL
  rw [Q9 (by omega), List.Nodup.mem_erase_iff h1]
  split
  ·exact ⟨hne, h3 a ha⟩
  ·rename_i h5; exact ⟨h5, h3 i hi⟩
 ·rw [List.Nodup.mem_erase_iff h1] at hv
  obtain ⟨i, hi, hiv⟩ := h4 v hv.2
  refine ⟨i, hi, ?_⟩
  unfold mergeL
  rw [Q9 (by omega), hiv, if_neg hv.1]
theorem Al.two {n k : Nat} {g : List Int} (h : Al n g k) (hk : 2 ≤ k) : ∃ x y, x < y ∧ y < n ∧ ¬ Lab g x y := by
 obtain ⟨al, h1, h2, h3, h4⟩ := h
 match al, h2 with
 | v1 :: v2 :: r, _ =>
  obtain ⟨i, hi, hiv⟩ := h4 v1 (by simp)
  obtain ⟨j, hj, hjv⟩ := h4 v2 (by simp)
  have hne : v1 ≠ v2 := by
   have := (List.nodup_cons.1 h1).1
   intro e; subst e; simp at this
  rcases Nat.lt_trichotomy i j with h5 | h5 | h5
  ·exact ⟨i, j, h5, hj, fun e => hne (by unfold Lab at e; rw [← hiv, ← hjv, e])⟩
  ·subst h5; exact absurd (hiv.symm.trans hjv) hne
  ·exact ⟨j, i, h5, hi, fun e => hne (by unfold Lab at e; rw [← hiv, ← hjv, e])⟩
 | [_], h2 => simp at h2; omega
 | [], h2 => simp at h2; omega
theorem Al.one {n k : Nat} {g : List Int} (h : Al n g k) (hk : k ≤ 1) {i j : Nat} (hi : i < n) (hj : j < n) : Lab g i j := by
 obtain ⟨al, h1, h2, h3, h4⟩ := h
 match al, h2 with
 | [v], _ =>
  have a1 := h3 i hi
  have a2 := h3 j hj
  simp only [List.mem_singleton] at a1 a2
  unfold Lab; rw [a1, a2]
 | [], _ => exact absurd (h3 i hi) (by simp)
 | _ :: _ :: _, h2 => simp at h2; omega
def Bst (gs : List (List Int)) (n : Nat) (g : List Int) (a b : Nat) (j : Jn) : Prop :=
 (∀ x y, x < y → y < n → (x < a ∨ (x = a ∧ y < b)) → ¬ Lab g x y → j.2.2 ≤ G gs x y) ∧ (j.2.2 = 41 ∨ (j.1 < n ∧ j.2.1 < n ∧ ¬ Lab g j.1 j.2.1 ∧ j.2.2 = G gs j.1 j.2.1))
theorem Bst.start (gs : List (List Int)) (n : Nat) (g : List Int) : Bst gs n g 0 0 (0, 0, 41) := ⟨fun x y _ _ h => by omega, .inl rfl⟩
theorem Bst.row {gs : List (List Int)} {n : Nat} {g : List Int} {a : Nat} {j : Jn} (h : Bst gs n g a 0 j) : Bst gs n g a (a + 1) j := ⟨fun x y h1 h2 h3 => h.1 x y h1 h2 (by omega), h.2⟩
theorem Bst.take {gs : List (List Int)} {n : Nat} {g : List Int} {a b : Nat} {j : Jn} (h : Bst gs n g a b j) (hab : a < b) (hb : b < n) (hne : ¬ Lab g a b) (hlt : G gs a b < j.2.2) : Bst gs n g a (b + 1) (a, b, G gs a b) := by
 refine ⟨fun x y h1 h2 h3 h4 => ?_, .inr ⟨by simp only; omega, hb, hne, rfl⟩⟩
 by_cases e : x = a ∧ y = b
 ·obtain ⟨rfl, rfl⟩ := e; exact Int.le_refl _
 ·have := h.1 x y h1 h2 (by omega) h4
  simp only; omega
theorem Bst.ok {gs : List (List Int)} (hv : VG gs) {g : List Int} {k : Nat} {a : Nat} {j : Jn} (h : Bst gs gs.length g a 0 j) (ha : gs.length ≤ a) (hk : Al gs.length g k) (h2 : 2 ≤ k) : b4y gs gs.length g j := by
 obtain ⟨x, y, hxy, hy, hne⟩ := hk.two h2
 have h1 := h.1 x y hxy hy (by omega) hne
 have h3 := (hv.pos (a := x) (b := y) (by omega) hy).2
 rcases h.2 with h4 | ⟨p1, p2, p3, p4⟩
 ·omega
 ·refine ⟨p1, p2, p3, p4, fun i k hi hk hn => ?_⟩
  rcases Nat.lt_trichotomy i k with h5 | h5 | h5
  ·exact h.1 i k h5 hk (by omega) hn
  ·subst h5; exact absurd rfl hn
  ·have := h.1 k i h5 hi (by omega) (fun e => hn e.symm)
   rw [hv.sym hi hk]; exact this
def a2d (gs : List (List Int)) (n : Nat) (g : List Int) (h : Int) (a b : Nat) : Prop :=
 ∀ x y, x < y → y < n → (G gs x y < h ∨ (G gs x y = h ∧ (x < a ∨ (x = a ∧ y < b)))) → Lab g x y
theorem a2d.row {gs : List (List Int)} {n : Nat} {g : List Int} {h : Int} {a : Nat} (hs : a2d gs n g h a 0) : a2d gs n g h a (a + 1) := fun x y h1 h2 h3 => hs x y h1 h2 (by omega)
theorem a2d.next {gs : List (List Int)} {n : Nat} {g : List Int} {h : Int} {a : Nat} (hs : a2d gs n g h a 0) (ha : n ≤ a) : a2d gs n g (h + 1) 0 0 := fun x y h1 h2 h3 => hs x y h1 h2 (by omega)
theorem a2d.ok {gs : List (List Int)} (hv : VG gs) {g : List Int} {h : Int} {a b : Nat} (hs : a2d gs gs.length g h a b) (hab : a < b) (hb : b < gs.length) (hh : G gs a b = h) (hne : ¬ Lab g a b) : b4y gs gs.length g (a, b, h) := by
 refine ⟨by simp only; omega, hb, hne, hh.symm, fun i k hi hk hn => ?_⟩
 rcases Nat.lt_trichotomy i k with h5 | h5 | h5
 ·exact Int.not_lt.1 fun h6 => hn (hs i k h5 hk (.inl h6))
 ·subst h5; exact absurd rfl hn
 ·refine Int.not_lt.1 fun h6 => hn (hs k i h5 hi (.inl ?_)).symm
  rw [hv.sym hk hi]; exact h6
def mergeM (g : List Int) (a b : Nat) : List Int := g.map fun x => if x = max (g.getD a default) (g.getD b default) then min (g.getD a default) (g.getD b default) else x
theorem a9b (g : List Int) (a b : Nat) : mergeM g a b = mergeL g a b ∨ mergeM g a b = mergeL g b a := by
 unfold mergeM mergeL
 rcases Int.le_total (g.getD a default) (g.getD b default) with h | h
 ·left; rw [Int.max_eq_right h, Int.min_eq_left h]
 ·right; rw [Int.max_eq_left h, Int.min_eq_right h]
@[simp] theorem mergeM_length (g : List Int) (a b : Nat) : (mergeM g a b).length = g.length := by simp [mergeM]
theorem b2f {g : List Int} {n a b : Nat} (hg : g.length = n) : a2w n (mergeL g a b) (mergeM g a b) := by
 intro i k hi hk
 rcases a9b g a b with e | e <;> rw [e]
 rw [P4 hg hi hk, P4 hg hi hk]
 unfold Lab; omega
theorem Al.mergeM {n k : Nat} {g : List Int} (h : Al n g k) (hg : g.length = n) {a b : Nat} (ha : a < n) (hb : b < n) (hne : ¬ Lab g a b) : Al n (mergeM g a b) (k - 1) ∧ 1 ≤ k := by
 rcases a9b g a b with e | e <;> rw [e]
 ·exact h.merge hg ha hb hne
 ·exact h.merge hg hb ha fun e => hne e.symm
theorem a2d.merge {gs : List (List Int)} {g : List Int} {h : Int} {a b : Nat} (hs : a2d gs gs.length g h a b) (hg : g.length = gs.length) (ha : a < gs.length) (hb : b < gs.length) : a2d gs gs.length (mergeM g a b) h a (b + 1) := by
 intro x y h1 h2 h3
 refine (b2f hg x y (by omega) h2).1 ((P4 hg (by omega) h2).2 ?_)
 by_cases e : x = a ∧ y = b
 ·obtain ⟨rfl, rfl⟩ := e
  exact .inr (.inl ⟨rfl, rfl⟩)
 ·exact .inl (hs x y h1 h2 (by omega))
theorem a2d.all {gs : List (List Int)} (hv : VG gs) {g : List Int} (hs : a2d gs gs.length g 41 0 0) {i k : Nat} (hi : i < gs.length) (hk : k < gs.length) : Lab g i k := by
 have h0 := (hv.pos hi hk).2
 rcases Nat.lt_trichotomy i k with h5 | h5 | h5
 ·exact hs i k h5 hk (.inl (by omega))
 ·subst h5; rfl
 ·exact (hs k i h5 hi (.inl (by rw [hv.sym hk hi]; omega))).symm
theorem a2d.start {gs : List (List Int)} (hv : VG gs) (g : List Int) : a2d gs gs.length g 1 0 0 := by
 intro x y h1 h2 h3
 have := (hv.1 y h2).2.2 x h1
 obtain ⟨q1, q2, q3⟩ := this
 omega
theorem c1v {g m : List Int} {n : Nat} {f : Int → Int} (hg : g.length = n) (hm : m.length = n) (h : ∀ j, j < n → m.getD j default = f (g.getD j default)) : m = g.map f :=
 I7 (d := default) (by simp [hg, hm]) fun j hj => by rw [h j (by omega), Q9 (by omega)]
end Go.Mv
end

section
namespace Go.Mv
def a5c (f : Int → Int) (g m : List Int) (i : Nat) : Prop := i ≤ g.length ∧ m.length = g.length ∧ ∀ j, j < g.length → m.getD j default = if j < i then f (g.getD j default) else g.getD j default
theorem a5c.start (f : Int → Int) (g : List Int) : a5c f g g 0 := ⟨Nat.zero_le _, rfl, fun j _ => by rw [if_neg (by omega)]⟩
theorem a5c.cur {f : Int → Int} {g m : List Int} {i : Nat} (h : a5c f g m i) (hi : i < g.length) : m.getD i default = g.getD i default := by rw [h.2.2 i hi, if_neg (by omega)]
theorem a5c.set {f : Int → Int} {g m : List Int} {i : Nat} (h : a5c f g m i) (hi : i < g.length) {v : Int} (hv : v = f (g.getD i default)) : a5c f g (m.set i v) (i + 1) := by
 refine ⟨by omega, by simp [h.2.1], fun j hj => ?_⟩
 rw [I1 _ _ _ _ (by rw [h.2.1]; exact hi)]
 by_cases e : j = i
 ·subst e; rw [if_pos rfl, if_pos (by omega), hv]
 ·rw [if_neg e, h.2.2 j hj]
  by_cases h2 : j < i
  ·rw [if_pos h2, if_pos (by omega)]
  ·rw [if_neg h2, if_neg (by omega)]
theorem a5c.skip {f : Int → Int} {g m : List Int} {i : Nat} (h : a5c f g m i) (hi : i < g.length) (hv : f (g.getD i default) = g.getD i default) : a5c f g m (i + 1) := by
 refine ⟨by omega, h.2.1, fun j hj => ?_⟩
 rw [h.2.2 j hj]
 by_cases e : j = i
 ·subst e; rw [if_neg (by omega), if_pos (by omega), hv]
 ·by_cases h2 : j < i
  ·rw [if_pos h2, if_pos (by omega)]
  ·rw [if_neg h2, if_neg (by omega)]
theorem a5c.fin {f : Int → Int} {g m : List Int} {i : Nat} (h : a5c f g m i) (hi : g.length ≤ i) : m = g.map f := c1v rfl h.2.1 fun j hj => by rw [h.2.2 j hj, if_pos (by omega)]
def Put (n : Nat) (c : Nat → Nat → Prop) (h : Int) (m m' : List (List Int)) : Prop := Sq n m' ∧ ∀ i k, i < n → k < n → (c i k → G m' i k = h) ∧ (¬ c i k → G m' i k = G m i k)
theorem Put.congr {n : Nat} {c c' : Nat → Nat → Prop} {h : Int} {m m' : List (List Int)} (hp : Put n c h m m') (he : ∀ i k, i < n → k < n → (c i k ↔ c' i k)) : Put n c' h m m' :=
 ⟨hp.1, fun i k hi hk => ⟨fun hc => (hp.2 i k hi hk).1 ((he i k hi hk).2 hc), fun hc => (hp.2 i k hi hk).2 fun h => hc ((he i k hi hk).1 h)⟩⟩
theorem c6j {n : Nat} {m : List (List Int)} (h : Sq n m) {i k : Nat} (hi : i < n) (hk : k < n) (x : Int) (a b : Nat) :
  G (m.set i ((m.getD i default).set k x)) a b = if a = i ∧ b = k then x else G m a b := by
 unfold G
 rw [I1 _ _ _ _ (by rw [h.1]; exact hi)]
 by_cases h1 : a = i
 ·subst h1
  rw [if_pos rfl, I1 _ _ _ _ (by rw [h.2 a hi]; exact hk)]
  by_cases h2 : b = k
  ·subst h2; simp
  ·simp [h2]
 ·rw [if_neg h1, if_neg (by intro h2; exact h1 h2.1)]
theorem Put.cell {n : Nat} {c : Nat → Nat → Prop} {h : Int} {m m' : List (List Int)} (hp : Put n c h m m') {i k : Nat} (hi : i < n) (hk : k < n) :
  Put n (fun x y => c x y ∨ (x = i ∧ y = k)) h m (m'.set i ((m'.getD i default).set k h)) := by
 refine ⟨b3h hp.1 hi, fun a b ha hb => ?_⟩
 rw [c6j hp.1 hi hk]
 by_cases e : a = i ∧ b = k
 ·rw [if_pos e]
  exact ⟨fun _ => rfl, fun hn => absurd (.inr e) hn⟩
 ·rw [if_neg e]
  have := hp.2 a b ha hb
  exact ⟨fun h => this.1 (h.resolve_right e), fun hn => this.2 fun h => hn (.inl h)⟩
theorem Put.start {n : Nat} {m : List (List Int)} (hs : Sq n m) (C : Nat → Nat → Prop) (h : Int) : Put n (fun x y => x < 0 ∧ C x y) h m m := ⟨hs, fun i k _ _ => ⟨fun h => absurd h.1 (by omega), fun _ => rfl⟩⟩
abbrev C2 (a b : Nat) (C : Nat → Nat → Prop) : Nat → Nat → Prop := fun x y => (x < a ∨ (x = a ∧ y < b)) ∧ C x y
theorem Put.row {n a : Nat} {C : Nat → Nat → Prop} {h : Int} {m m' : List (List Int)} (hp : Put n (fun x y => x < a ∧ C x y) h m m') : Put n (C2 a 0 C) h m m' :=
 hp.congr fun i k _ _ => ⟨fun h => ⟨.inl h.1, h.2⟩, fun h => ⟨by omega, h.2⟩⟩
abbrev D1 (a : Nat) (D : Nat → Nat → Prop) : Nat → Nat → Prop := fun x y => (x < a ∧ D x y) ∨ (y < a ∧ D y x)
abbrev D2 (a b : Nat) (D : Nat → Nat → Prop) : Nat → Nat → Prop := fun x y => C2 a b D x y ∨ C2 a b D y x
abbrev JC (g : List Int) (j : Jn) : Nat → Nat → Prop := fun x y => Lab g x j.1 ∧ Lab g y j.2.1
theorem KI.put {gs : List (List Int)} (hv : VG gs) {g : List Int} {out out' : List (List Int)} {j : Jn} (h : KI gs g out) (hj : b4y gs gs.length g j) (hp : Put gs.length (fun x y => JC g j x y ∨ JC g j y x) j.2.2 out out') : KI gs (mergeL g j.1 j.2.1) out' :=
 h.step hv hj hp.1 fun i k hi hk => by
  have := hp.2 i k hi hk
  split
  ·rename_i hc; exact this.1 (hc.elim .inl fun h => .inr h)
  ·rename_i hc; exact this.2 fun h => hc (h.elim .inl fun h => .inr h)
theorem KI.sq {gs : List (List Int)} {g : List Int} {out : List (List Int)} (h : KI gs g out) : Sq gs.length out ∧ g.length = gs.length := ⟨h.1, h.2.1⟩
theorem a4g (x : Int) (r : List Int) : (a3p x r).Perm (x :: r) := by
 induction r with
 | nil => exact .refl _
 | cons y r ih =>
  simp only [a3p]
  split
  ·exact .refl _
  ·exact (List.Perm.cons y ih).trans (List.Perm.swap x y r)
theorem a1w (xs : List Int) : (sortI xs).Perm xs := by
 induction xs with
 | nil => exact .refl _
 | cons x r ih => exact (a4g x (sortI r)).trans (List.Perm.cons x ih)
theorem a0d (x : Int) (r : List Int) (h : r.Pairwise (· ≤ ·)) : (a3p x r).Pairwise (· ≤ ·) := by
 induction r with
 | nil => simp [a3p]
 | cons y r ih =>
  simp only [a3p]
  have h2 := List.pairwise_cons.1 h
  split
  ·rename_i hxy
   refine List.pairwise_cons.2 ⟨fun z hz => ?_, h⟩
   rcases List.mem_cons.1 hz with rfl | hz
   ·exact hxy
   ·have := h2.1 z hz; omega
  ·rename_i hxy
   refine List.pairwise_cons.2 ⟨fun z hz => ?_, ih h2.2⟩
   rcases List.mem_cons.1 ((a4g x r).mem_iff.1 hz) with rfl | hz
   ·omega
   ·exact h2.1 z hz
theorem S9 (xs : List Int) : (sortI xs).Pairwise (· ≤ ·) := by
 induction xs with
 | nil => exact .nil
 | cons x r ih => exact a0d x _ ih
theorem c0m {xs ys : List Int} (hp : ys.Perm xs) (hs : ys.Pairwise (· ≤ ·)) : ys = sortI xs :=
 List.Perm.eq_of_pairwise (le := (· ≤ ·)) (fun a b _ _ h1 h2 => by omega) hs (S9 xs) (hp.trans (a1w xs).symm)
theorem U3 {s : List Int} (h : s.Pairwise (· ≤ ·)) {i j : Nat} (hij : i ≤ j) (hj : j < s.length) : s.getD i default ≤ s.getD j default := by
 rw [List.getD_eq_getElem?_getD, List.getD_eq_getElem?_getD, List.getElem?_eq_getElem (by omega), List.getElem?_eq_getElem hj]
 rcases Nat.lt_or_ge i j with h1 | h1
 ·exact List.pairwise_iff_getElem.1 h i j (by omega) hj h1
 ·have : i = j := by omega
  subst this
  exact Int.le_refl _
theorem V9 {xs : List Int} {x : Int} (h : x ∈ xs) : ∃ i, i < xs.length ∧ xs.getD i default = x := by
 obtain ⟨i, hi, rfl⟩ := List.getElem_of_mem h
 exact ⟨i, hi, by rw [List.getD_eq_getElem?_getD, List.getElem?_eq_getElem hi]; rfl⟩
theorem a7v {out : List Int} {x : Int} {k : Nat} (hs : out.Pairwise (· ≤ ·)) (hk : k ≤ out.length) (h1 : ∀ j, j < k → out.getD j default ≤ x) (h2 : k < out.length → x ≤ out.getD k default) :
  out.take k ++ [x] ++ out.drop k = a3p x out := by
 have hp : (out.take k ++ [x] ++ out.drop k).Perm (x :: out) := by
  have := (List.perm_middle (l₁ := out.take k) (l₂ := out.drop k) (a := x))
  rw [List.take_append_drop] at this
  rw [List.append_assoc]; exact this
 have hsrt : (out.take k ++ [x] ++ out.drop k).Pairwise (· ≤ ·) := by
  rw [List.append_assoc, List.pairwise_append]
  refine ⟨hs.take, ?_, ?_⟩
  ·rw [List.singleton_append, List.pairwise_cons]
   refine ⟨fun b hb => ?_, hs.drop⟩
   obtain ⟨i, hi, rfl⟩ := V9 hb
   rw [List.length_drop] at hi
   have e : (out.drop k).getD i default = out.getD (k + i) default := by rw [List.getD_eq_getElem?_getD, List.getD_eq_getElem?_getD, List.getElem?_drop]
   rw [e]
   exact Int.le_trans (h2 (by omega)) (U3 hs (by omega) (by omega))
  ·intro a ha b hb
   obtain ⟨i, hi, rfl⟩ := V9 ha
   rw [List.length_take] at hi
   have e : (out.take k).getD i default = out.getD i default := by rw [List.getD_eq_getElem?_getD, List.getD_eq_getElem?_getD, List.getElem?_take, if_pos (by omega)]
   rw [e]
   rw [List.singleton_append, List.mem_cons] at hb
   rcases hb with rfl | hb
   ·exact h1 i (by omega)
   ·obtain ⟨j, hj, rfl⟩ := V9 hb
    rw [List.length_drop] at hj
    have e2 : (out.drop k).getD j default = out.getD (k + j) default := by rw [List.getD_eq_getElem?_getD, List.getD_eq_getElem?_getD, List.getElem?_drop]
    rw [e2]
    exact U3 hs (by omega) (by omega)
 exact List.Perm.eq_of_pairwise (le := (· ≤ ·)) (fun a b _ _ h1 h2 => by omega) hsrt (a0d x out hs) (hp.trans (a4g x out).symm)
def bitN (s i : Nat) : Nat := s / 2 ^ i % 2
theorem b9g (s i : Nat) : bitN s i = 1 ↔ s.testBit i = true := by
 unfold bitN
 rw [Nat.testBit_eq_decide_div_mod_eq, decide_eq_true_eq]
theorem c2q (s i : Nat) : bitN s i = 0 ∨ bitN s i = 1 := by unfold bitN; omega
theorem a6a (i j : Nat) : bitN (2 ^ i) j = 1 ↔ j = i := by
 rw [b9g, Nat.testBit_two_pow]
 simp [eq_comm]
theorem c1o {n : Nat} (h : n < 2 ^ 63) : IntKind.i64.wrap (n : Int) = (n : Int) := U4 (C5 (by omega))
theorem c0f {a : Nat} (h : a < 2 ^ 63) : (BitVec.ofInt IntKind.i64.bits (a : Int)).toNat = a := by
 rw [BitVec.toNat_ofInt]; simp only [IntKind.bits]; omega
theorem c3n {a b : Nat} (ha : a < 2 ^ 63) (hb : b < 2 ^ 63) : IntKind.i64.wrap ((BitVec.ofInt IntKind.i64.bits (a : Int) &&& BitVec.ofInt IntKind.i64.bits (b : Int)).toNat) = ((a &&& b : Nat) : Int) := by
 rw [BitVec.toNat_and, c0f ha, c0f hb]
 exact c1o (Nat.lt_of_le_of_lt Nat.and_le_left ha)
theorem b3n (i : Nat) : ((2 : Int) ^ i) = ((2 ^ i : Nat) : Int) := by simp
section
variable {cx : Cx} {keep : List Nat} {ops0 : Array Oper} {r : List Oper} {A : Asr} {Q : Asr → List Log → Prop} {d : Nat} {ty : Nat} {pos : String} {aft : Array Edge}
theorem c5k {T z : Nat} {a b : Operand} {x y : Nat} (ha : opd A a = some (iV (x : Int))) (hb : opd A b = some (iV (y : Int))) (hi : y < 64)
  (h : XR cx keep ops0 r ((.t d, iV ((x / 2 ^ y : Nat) : Int)) :: A) fun A' lg => Q A' ((rds a ++ rds b, [.t d]) :: lg)) : XR cx keep ops0 (⟨some d, .binOp .shr T a b z, ty, pos, aft, none⟩ :: r) A Q := by
 refine c6c ha hb (by simp only [IntKind.bits]; omega) ?_
 have e : (x : Int).fdiv (2 ^ (y : Int).toNat) = ((x / 2 ^ y : Nat) : Int) := by
  rw [Int.toNat_natCast, b3n, Int.fdiv_eq_ediv_of_nonneg _ (Int.natCast_nonneg _)]
  simp
 rw [e]
 exact h
theorem c4s {T z : Nat} {a b : Operand} {x y : Nat} (ha : opd A a = some (iV (x : Int))) (hb : opd A b = some (iV (y : Int))) (hi : y < 64 ∧ x * 2 ^ y < 2 ^ 63)
  (h : XR cx keep ops0 r ((.t d, iV ((x * 2 ^ y : Nat) : Int)) :: A) fun A' lg => Q A' ((rds a ++ rds b, [.t d]) :: lg)) : XR cx keep ops0 (⟨some d, .binOp .shl T a b z, ty, pos, aft, none⟩ :: r) A Q := by
 have e : (x : Int) * 2 ^ (y : Int).toNat = ((x * 2 ^ y : Nat) : Int) := by
  rw [Int.toNat_natCast, b3n]
  simp
 refine c6a ha hb ⟨by omega, by simp only [IntKind.bits]; omega, by rw [e]; exact C5 (by omega)⟩ ?_
 rw [e]
 exact h
theorem c4w {T z : Nat} {a b : Operand} {x : Nat} (ha : opd A a = some (iV (x : Int))) (hb : opd A b = some (iV 1)) (hi : x < 2 ^ 63)
  (h : XR cx keep ops0 r ((.t d, iV ((x % 2 : Nat) : Int)) :: A) fun A' lg => Q A' ((rds a ++ rds b, [.t d]) :: lg)) : XR cx keep ops0 (⟨some d, .binOp .and T a b z, ty, pos, aft, none⟩ :: r) A Q := by
 refine c6e ha hb ?_
 have e := c3n hi (show 1 < 2 ^ 63 by decide)
 rw [Nat.and_one_is_mod] at e
 have e' : IntKind.i64.wrap ((BitVec.ofInt IntKind.i64.bits (x : Int) &&& BitVec.ofInt IntKind.i64.bits 1).toNat) = ((x % 2 : Nat) : Int) := e
 rw [e']
 exact h
end
end Go.Mv
end

section
namespace Go.Mv
open Go Classical
section
variable {cx : Cx} {keep : List Nat} {ops0 : Array Oper} {r : List Oper} {A : Asr} {Q : Asr → List Log → Prop} {d : Nat} {ty : Nat} {pos : String} {aft : Array Edge}
end
def a2a (lo hi : Int) (xs : List Int) : Bool := xs.all fun x => decide (lo ≤ x) && decide (x ≤ hi)
theorem a6p {lo hi : Int} {xs : List Int} : a2a lo hi xs = true ↔ ∀ i, i < xs.length → lo ≤ xs.getD i default ∧ xs.getD i default ≤ hi := by
 unfold a2a
 rw [List.all_eq_true]
 constructor
 ·intro h i hi'
  have := h _ (a6i hi')
  simpa using this
 ·intro h x hx
  obtain ⟨i, hi', rfl⟩ := V9 hx
  simpa using h i hi'
def b9l (l : List Int) (s : Nat) : Nat → List Int
 | 0 => []
 | k + 1 => if bitN s k = 1 then b9l l s k ++ [l.getD k default] else b9l l s k
def sel (l : List Int) (s : Nat) : List Int := b9l l s l.length
theorem b2d (l : List Int) (i : Nat) : ∀ k, b9l l (2 ^ i) k = if i < k then [l.getD i default] else []
 | 0 => by simp [b9l]
 | k + 1 => by
  unfold b9l
  rw [b2d l i k]
  by_cases e : k = i
  ·subst e; rw [if_pos ((a6a k k).2 rfl)]; simp
  ·rw [if_neg (fun h => e ((a6a i k).1 h))]
   by_cases h : i < k
   ·rw [if_pos h, if_pos (by omega)]
   ·rw [if_neg h, if_neg (by omega)]
theorem c3x {l : List Int} {i : Nat} (hi : i < l.length) : sel l (2 ^ i) = [l.getD i default] := by
 unfold sel; rw [b2d, if_pos hi]
def Fnd (e : Bool) (s : List Int) (lev : Int) : Prop := ∃ i, i < s.length ∧ s.getD i default * s.length ≤ if e then ((i : Int) + 1) * lev else lev
theorem Fnd.mono {e : Bool} {s : List Int} {lev lev' : Int} (h : Fnd e s lev) (hl : lev ≤ lev') : Fnd e s lev' := by
 obtain ⟨i, hi, h⟩ := h
 refine ⟨i, hi, ?_⟩
 cases e
 ·simp only [Bool.false_eq_true, if_false] at h ⊢; omega
 ·simp only [if_true] at h ⊢
  have := Int.mul_le_mul_of_nonneg_left hl (show (0 : Int) ≤ (i : Int) + 1 by omega)
  omega
theorem Fnd.each {e : Bool} {s : List Int} {lev : Int} (h : Fnd e s lev) (h0 : 0 ≤ lev) : Fnd true s lev := by
 obtain ⟨i, hi, h⟩ := h
 refine ⟨i, hi, ?_⟩
 cases e
 ·simp only [Bool.false_eq_true, if_false, if_true] at h ⊢
  have := Int.mul_le_mul_of_nonneg_right (show (1 : Int) ≤ (i : Int) + 1 by omega) h0
  omega
 ·exact h
def CPr (l : List Int) (lev : Int) (e : Bool) (i : Nat) : Prop := ∀ s, 1 ≤ s → s < 2 ^ l.length → bitN s i = 1 → Fnd e (sortI (sel l s)) lev
noncomputable def c6t (l : List Int) (lev : Int) (e : Bool) (k : Nat) : List Int := ((List.range k).filter fun i => decide (CPr l lev e i)).map Int.ofNat
noncomputable def clo (l : List Int) (lev : Int) (e : Bool) : List Int := c6t l lev e l.length
theorem CPr.le {l : List Int} {lev : Int} {e : Bool} {i : Nat} (h : CPr l lev e i) (hi : i < l.length) : l.getD i default ≤ lev := by
 have := h (2 ^ i) (Nat.one_le_two_pow) (Nat.pow_lt_pow_right (by decide) hi) ((a6a i i).2 rfl)
 rw [c3x hi] at this
 obtain ⟨j, hj, h2⟩ := this
 have : j = 0 := by simp [sortI, a3p] at hj; omega
 subst this
 cases e <;> simp [sortI, a3p] at h2 <;> simpa using h2
def Mis (l : List Int) (lev : Int) (e : Bool) (s mi : Nat) : Prop := 1 ≤ s ∧ s ≤ 2 ^ l.length ∧ mi < 2 ^ l.length ∧ ∀ i, i < l.length → (bitN mi i = 1 ↔ ∃ s', 1 ≤ s' ∧ s' < s ∧ bitN s' i = 1 ∧ ¬ Fnd e (sortI (sel l s')) lev)
theorem Mis.start (l : List Int) (lev : Int) (e : Bool) : Mis l lev e 1 0 := by
 refine ⟨Nat.le_refl _, Nat.one_le_two_pow, Nat.two_pow_pos _, fun i hi => ⟨fun h => ?_, fun ⟨s', h1, h2, _⟩ => by omega⟩⟩
 unfold bitN at h; simp at h
theorem Mis.fin {l : List Int} {lev : Int} {e : Bool} {s mi : Nat} (h : Mis l lev e s mi) (hs : 2 ^ l.length ≤ s) {i : Nat} (hi : i < l.length) : bitN mi i = 0 ↔ CPr l lev e i := by
 obtain ⟨h1, h2, h3, h4⟩ := h
 have := h4 i hi
 have h5 := c2q mi i
 constructor
 ·intro h0 s' q1 q2 q3
  refine Classical.byContradiction fun hn => ?_
  have := this.2 ⟨s', q1, by omega, q3, hn⟩
  omega
 ·intro hc
  rcases h5 with h5 | h5
  ·exact h5
  ·obtain ⟨s', q1, q2, q3, q4⟩ := this.1 h5
   exact absurd (hc s' q1 (by omega) q3) q4
theorem c2w {xs : List Int} {q : Int → Bool} {i : Nat} (hi : i < xs.length) (h : q (xs.getD i default) = true) : decide (0 ≤ (i : Int)) = xs.any q := by
 rw [decide_eq_true (Int.natCast_nonneg i)]
 exact (List.any_eq_true.2 ⟨_, a6i hi, h⟩).symm
theorem c0o {xs : List Int} {q : Int → Bool} (h : ∀ j, j < xs.length → q (xs.getD j default) = false) : decide (0 ≤ (-1 : Int)) = xs.any q := by
 have : xs.any q = false := by
  rw [List.any_eq_false]
  intro x hx
  obtain ⟨i, hi, rfl⟩ := V9 hx
  rw [h i hi]; decide
 rw [this]; rfl
theorem b9x (lo hi : Int) (xs : List Int) : (!(xs.any fun x => !(decide (lo ≤ x) && decide (x ≤ hi)))) = a2a lo hi xs := by
 unfold a2a
 rw [List.not_any_eq_all_not]
 simp
theorem a9l {α : Type} [Inhabited α] {xs : List α} {i : Nat} (h : i < xs.length) : xs.getD i default ∈ xs := by
 rw [List.getD_eq_getElem?_getD, List.getElem?_eq_getElem h]
 exact List.getElem_mem h
def FndAt (e : Bool) (s : List Int) (lev : Int) (j : Nat) : Prop := (e = true ∧ s.getD j default * (s.length : Int) ≤ lev * ((j : Int) + 1)) ∨ s.getD j default * (s.length : Int) ≤ lev
theorem FndAt.none {e : Bool} {s : List Int} {lev : Int} (hl : 0 ≤ lev ∧ lev ≤ 1000) (h : ∀ j, j < s.length → ¬ FndAt e s lev j) : ¬ Fnd e s lev := by
 rintro ⟨j, hj, hf⟩
 refine h j hj ?_
 cases e
 ·exact .inr hf
 ·rw [if_pos rfl] at hf
  exact .inl ⟨rfl, by rw [Int.mul_comm lev]; exact hf⟩
theorem CPr.each {l : List Int} {lev : Int} {e : Bool} {i : Nat} (h : CPr l lev e i) (h0 : 0 ≤ lev) : CPr l lev true i := fun s h1 h2 h3 => (h s h1 h2 h3).each h0
theorem CPr.mono {l : List Int} {lev lev' : Int} {e : Bool} {i : Nat} (h : CPr l lev e i) (h0 : lev ≤ lev') : CPr l lev' e i := fun s h1 h2 h3 => (h s h1 h2 h3).mono h0
end Go.Mv
end

section
namespace Go.Mv
open Go Classical
abbrev nV (x : Nat) : AV := iV (x : Int)
def LTl (l : List Int) (a b : Nat) : Prop := l.getD a default < l.getD b default ∨ (l.getD a default = l.getD b default ∧ a < b)
theorem LTl.trans {l : List Int} {a b c : Nat} (h : LTl l a b) (h2 : LTl l b c) : LTl l a c := by unfold LTl at *; omega
theorem LTl.irr {l : List Int} {a : Nat} : ¬ LTl l a a := by unfold LTl; omega
theorem LTl.le {l : List Int} {a b : Nat} (h : LTl l a b) : l.getD a default ≤ l.getD b default := by unfold LTl at h; omega
def Ord (l : List Int) (i : Nat) (d : List Nat) : Prop := d.length = l.length ∧ i ≤ l.length ∧ (∀ x, i ≤ x → x < l.length → d.getD x default = x) ∧ (∀ x, x < i → d.getD x default < i) ∧
 (∀ x y, x < y → y < i → LTl l (d.getD x default) (d.getD y default)) ∧ ∀ v, v < i → ∃ x, x < i ∧ d.getD x default = v
def a3a (l : List Int) (i : Nat) (d0 : List Nat) (j : Nat) (d : List Nat) : Prop := j ≤ i ∧ d.length = l.length ∧
 (∀ x, x < l.length → d.getD x default = if x < j then d0.getD x default else if x = j then i else if x ≤ i then d0.getD (x - 1) default else x) ∧ ∀ x, j ≤ x → x < i → l.getD i default < l.getD (d0.getD x default) default
theorem a9r {l : List Nat} {i j x : Nat} (hi : i < l.length) : (l.set i x).getD j default = if j = i then x else l.getD j default := I1 l i x j hi
theorem a3a.start {l : List Int} {i : Nat} {d0 : List Nat} (h : Ord l i d0) (hi : i < l.length) : a3a l i d0 i d0 := by
 refine ⟨Nat.le_refl _, h.1, fun x hx => ?_, fun x h1 h2 => by omega⟩
 by_cases h1 : x < i
 ·rw [if_pos h1]
 ·rw [if_neg h1]
  by_cases h2 : x = i
  ·subst h2; rw [if_pos rfl, h.2.2.1 x (Nat.le_refl _) hx]
  ·rw [if_neg h2, if_neg (by omega), h.2.2.1 x (by omega) hx]
theorem a3a.step {l : List Int} {i j : Nat} {d0 d : List Nat} (h : a3a l i d0 j d) (hi : i < l.length) (hj : 0 < j) (hlt : l.getD (d.getD j default) default < l.getD (d.getD (j - 1) default) default) :
  a3a l i d0 (j - 1) ((d.set j (d.getD (j - 1) default)).set (j - 1) (d.getD j default)) := by
 obtain ⟨h1, h2, h3, h4⟩ := h
 have e1 : d.getD j default = i := by rw [h3 j (by omega), if_neg (by omega), if_pos rfl]
 have e2 : d.getD (j - 1) default = d0.getD (j - 1) default := by rw [h3 (j - 1) (by omega), if_pos (by omega)]
 rw [e1, e2] at hlt
 refine ⟨by omega, by simp [h2], fun x hx => ?_, fun x q1 q2 => ?_⟩
 ·rw [a9r (by rw [List.length_set]; omega), a9r (by omega), e1, e2]
  by_cases a1 : x = j - 1
  ·rw [if_pos a1, if_neg (by omega), if_pos a1]
  ·rw [if_neg a1]
   by_cases a2 : x = j
   ·rw [if_pos a2, if_neg (by omega), if_neg a1, if_pos (by omega), a2]
   ·rw [if_neg a2, h3 x hx]
    by_cases a3 : x < j
    ·rw [if_pos a3, if_pos (by omega)]
    ·simp only [a1, a2, a3, if_false, show ¬ x < j - 1 by omega]
 ·by_cases a1 : x = j - 1
  ·subst a1; exact hlt
  ·exact h4 x (by omega) q2
theorem a3a.fin {l : List Int} {i j : Nat} {d0 d : List Nat} (h0 : Ord l i d0) (h : a3a l i d0 j d) (hi : i < l.length) (he : j = 0 ∨ ¬ l.getD (d.getD j default) default < l.getD (d.getD (j - 1) default) default) : Ord l (i + 1) d := by
 obtain ⟨h1, h2, h3, h4⟩ := h
 obtain ⟨g1, g2, g3, g4, g5, g6⟩ := h0
 have e1 : d.getD j default = i := by rw [h3 j (by omega), if_neg (by omega), if_pos rfl]
 have hlow : ∀ x, x < j → LTl l (d0.getD x default) i := by
  intro x hx
  have hle : l.getD (d0.getD (j - 1) default) default ≤ l.getD i default := by
   rcases he with he | he
   ·omega
   ·rw [e1, h3 (j - 1) (by omega), if_pos (by omega)] at he; omega
  have hx2 := g4 x (by omega)
  by_cases e : x = j - 1
  ·subst e; unfold LTl; omega
  ·have := (g5 x (j - 1) (by omega) (by omega)).le
   unfold LTl; omega
 have hhigh : ∀ x, j ≤ x → x < i → LTl l i (d0.getD x default) := fun x q1 q2 => .inl (h4 x q1 q2)
 refine ⟨h2, by omega, fun x q1 q2 => ?_, fun x q1 => ?_, fun x y q1 q2 => ?_, fun v hv => ?_⟩
 ·rw [h3 x q2, if_neg (by omega), if_neg (by omega), if_neg (by omega)]
 ·rw [h3 x (by omega)]
  split
  ·have := g4 x (by omega); omega
  ·split
   ·omega
   ·have := g4 (x - 1) (by omega)
    rw [if_pos (by omega)]; omega
 ·rw [h3 x (by omega), h3 y (by omega)]
  by_cases a1 : y < j
  ·rw [if_pos (show x < j by omega), if_pos a1]; exact g5 x y q1 (by omega)
  ·rw [if_neg a1]
   by_cases a2 : y = j
   ·rw [if_pos a2, if_pos (show x < j by omega)]; exact hlow x (by omega)
   ·rw [if_neg a2, if_pos (show y ≤ i by omega)]
    by_cases b1 : x < j
    ·rw [if_pos b1]; exact g5 x (y - 1) (by omega) (by omega)
    ·rw [if_neg b1]
     by_cases b2 : x = j
     ·rw [if_pos b2]; exact hhigh (y - 1) (by omega) (by omega)
     ·rw [if_neg b2, if_pos (show x ≤ i by omega)]; exact g5 (x - 1) (y - 1) (by omega) (by omega)
 ·by_cases e : v = i
  ·exact ⟨j, by omega, by rw [e1, e]⟩
  ·obtain ⟨x, hx, hxv⟩ := g6 v (by omega)
   by_cases a1 : x < j
   ·exact ⟨x, by omega, by rw [h3 x (by omega), if_pos a1, hxv]⟩
   ·refine ⟨x + 1, by omega, ?_⟩
    rw [h3 (x + 1) (by omega), if_neg (by omega), if_neg (by omega), if_pos (by omega)]
    simpa using hxv
theorem Ord.start {l : List Int} {d : List Nat} (h : d.length = l.length) (hd : ∀ x, x < l.length → d.getD x default = x) : Ord l 0 d := ⟨h, Nat.zero_le _, fun x _ hx => hd x hx, fun x h => by omega, fun x y _ h => by omega, fun v h => by omega⟩
theorem Ord.one {l : List Int} {d : List Nat} (h : d.length = l.length) (hd : ∀ x, x < l.length → d.getD x default = x) (hp : 1 ≤ l.length) : Ord l 1 d := by
 refine ⟨h, hp, fun x _ hx => hd x hx, fun x hx => ?_, fun x y h1 h2 => by omega, fun v hv => ⟨0, by omega, ?_⟩⟩
 ·rw [hd x (by omega)]; exact hx
 ·rw [hd 0 (by omega)]; omega
noncomputable def pl (l : List Int) (i k : Nat) : Nat := (List.range k).countP fun x => decide (LTl l x i)
noncomputable def at' (l : List Int) (i : Nat) : Nat := pl l i l.length
theorem b1f {α : Type} {p : α → Bool} {d : List α} {r : Nat} (hr : r ≤ d.length) (h1 : ∀ x ∈ d.take r, p x = true) (h2 : ∀ x ∈ d.drop r, p x = false) : d.countP p = r := by
 conv => lhs; rw [← List.take_append_drop r d]
 rw [List.countP_append, List.countP_eq_length.2 h1, List.countP_eq_zero.2 (fun x hx => by simp [h2 x hx])]
 simp [hr]
theorem a1c {xs : List Nat} {x : Nat} (h : x ∈ xs) : ∃ i, i < xs.length ∧ xs.getD i default = x := by
 obtain ⟨i, hi, rfl⟩ := List.getElem_of_mem h
 exact ⟨i, hi, by rw [List.getD_eq_getElem?_getD, List.getElem?_eq_getElem hi]; rfl⟩
theorem Ord.perm {l : List Int} {d : List Nat} (h : Ord l l.length d) : (List.range l.length).Perm d := by
 obtain ⟨g1, g2, g3, g4, g5, g6⟩ := h
 have hnd : d.Nodup := by
  rw [List.nodup_iff_pairwise_ne, List.pairwise_iff_getElem]
  intro i j hi hj hij e
  have := g5 i j hij (by omega)
  rw [List.getD_eq_getElem?_getD, List.getD_eq_getElem?_getD, List.getElem?_eq_getElem hi, List.getElem?_eq_getElem hj] at this
  simp only [Option.getD_some, e] at this
  exact LTl.irr this
 rw [List.perm_ext_iff_of_nodup List.nodup_range hnd]
 intro a
 rw [List.mem_range]
 constructor
 ·intro ha
  obtain ⟨x, hx, rfl⟩ := g6 a ha
  exact a9l (by omega)
 ·intro ha
  obtain ⟨x, hx, rfl⟩ := a1c ha
  exact g4 x (by omega)
theorem Ord.count {l : List Int} {d : List Nat} (h : Ord l l.length d) {p : Nat → Bool} {r : Nat} (hr : r ≤ l.length) (h1 : ∀ x, x < r → p (d.getD x default) = true) (h2 : ∀ x, r ≤ x → x < l.length → p (d.getD x default) = false) : (List.range l.length).countP p = r := by
 rw [h.perm.countP_eq]
 refine b1f (by rw [h.1]; exact hr) (fun y hy => ?_) (fun y hy => ?_)
 ·obtain ⟨x, hx, rfl⟩ := a1c hy
  rw [List.length_take] at hx
  have e : (d.take r).getD x default = d.getD x default := by rw [List.getD_eq_getElem?_getD, List.getD_eq_getElem?_getD, List.getElem?_take, if_pos (by omega)]
  rw [e]; exact h1 x (by omega)
 ·obtain ⟨x, hx, rfl⟩ := a1c hy
  rw [List.length_drop, h.1] at hx
  have e : (d.drop r).getD x default = d.getD (r + x) default := by rw [List.getD_eq_getElem?_getD, List.getD_eq_getElem?_getD, List.getElem?_drop]
  rw [e]; exact h2 (r + x) (by omega) (by omega)
theorem Ord.at {l : List Int} {d : List Nat} (h : Ord l l.length d) {r : Nat} (hr : r < l.length) : at' l (d.getD r default) = r := by
 obtain ⟨g1, g2, g3, g4, g5, g6⟩ := id h
 refine h.count (Nat.le_of_lt hr) (fun x hx => decide_eq_true (g5 x r hx hr)) (fun x h1 h2 => decide_eq_false fun hc => ?_)
 by_cases e : x = r
 ·subst e; exact LTl.irr hc
 ·exact LTl.irr (hc.trans (g5 r x (by omega) h2))
theorem Ord.ix {l : List Int} {d : List Nat} (h : Ord l l.length d) {k : Nat} (hk : k < l.length) : at' l k < l.length ∧ d.getD (at' l k) default = k := by
 obtain ⟨x, hx, rfl⟩ := h.2.2.2.2.2 k hk
 rw [h.at hx]; exact ⟨hx, rfl⟩
theorem Ord.mono {l : List Int} {d : List Nat} (h : Ord l l.length d) {a b : Nat} (ha : a < l.length) (hb : b < l.length) (hab : at' l a ≤ at' l b) : l.getD a default ≤ l.getD b default := by
 obtain ⟨a1, a2⟩ := h.ix ha
 obtain ⟨b1, b2⟩ := h.ix hb
 by_cases e : at' l a = at' l b
 ·rw [← a2, ← b2, e]; exact Int.le_refl _
 ·have := (h.2.2.2.2.1 (at' l a) (at' l b) (by omega) b1).le
  rwa [a2, b2] at this
noncomputable def mxU (l : List Int) (i : Nat) : Nat → Int
 | 0 => 0
 | k + 1 => if at' l k ≤ at' l i then max (mxU l i k) (l.getD k default * ((l.length : Int) - (at' l k : Int))) else mxU l i k
theorem b5l {l : List Int} {i : Nat} {V : Int} (h0 : 0 ≤ V) : ∀ k, (mxU l i k ≤ V ↔ ∀ x, x < k → at' l x ≤ at' l i → l.getD x default * ((l.length : Int) - (at' l x : Int)) ≤ V)
 | 0 => ⟨fun _ x h => by omega, fun _ => h0⟩
 | k + 1 => by
  unfold mxU
  have ih := b5l (l := l) (i := i) h0 k
  by_cases c : at' l k ≤ at' l i
  ·rw [if_pos c]
   constructor
   ·intro h x hx hc
    by_cases e : x = k
    ·subst e; omega
    ·exact ih.1 (by omega) x (by omega) hc
   ·intro h
    have h1 := ih.2 fun x hx => h x (by omega)
    have h2 := h k (by omega) c
    omega
  ·rw [if_neg c, ih]
   constructor
   ·intro h x hx hc
    by_cases e : x = k
    ·subst e; exact absurd hc c
    ·exact h x (by omega) hc
   ·exact fun h x hx => h x (by omega)
noncomputable def sdv (l : List Int) (i : Nat) : Int := min (mxU l i l.length) 1000
noncomputable def sdU (l : List Int) (k : Nat) : List Int := (List.range k).map (sdv l)
@[simp] theorem sdU_length (l : List Int) (k : Nat) : (sdU l k).length = k := by simp [sdU]
theorem c2i {l : List Int} {k i : Nat} (h : i < k) : (sdU l k).getD i default = sdv l i := by
 unfold sdU
 rw [List.getD_eq_getElem?_getD, List.getElem?_map, List.getElem?_range h]; rfl
noncomputable def mR (l : List Int) (d : List Nat) : Nat → Int
 | 0 => 0
 | r + 1 => max (mR l d r) (min 1000 (l.getD (d.getD r default) default * ((l.length : Int) - (r : Int))))
theorem c4h {l : List Int} {d : List Nat} {V : Int} (h0 : 0 ≤ V) : ∀ r, (mR l d r ≤ V ↔ ∀ x, x < r → min 1000 (l.getD (d.getD x default) default * ((l.length : Int) - (x : Int))) ≤ V)
 | 0 => ⟨fun _ x h => by omega, fun _ => h0⟩
 | r + 1 => by
  unfold mR
  have ih := c4h (l := l) (d := d) h0 r
  constructor
  ·intro h x hx
   by_cases e : x = r
   ·subst e; omega
   ·exact ih.1 (by omega) x (by omega)
  ·intro h
   have h1 := ih.2 fun x hx => h x (by omega)
   have h2 := h r (by omega)
   omega
theorem c1b {l : List Int} {d : List Nat} : ∀ r, 0 ≤ mR l d r
 | 0 => Int.le_refl _
 | r + 1 => by have := c1b (l := l) (d := d) r; unfold mR; omega
theorem b7d {l : List Int} {i : Nat} : ∀ k, 0 ≤ mxU l i k
 | 0 => Int.le_refl _
 | k + 1 => by have := b7d (l := l) (i := i) k; unfold mxU; split <;> omega
theorem Ord.mR {l : List Int} {d : List Nat} (h : Ord l l.length d) {r : Nat} (hr : r < l.length) : Mv.mR l d (r + 1) = sdv l (d.getD r default) := by
 have key : ∀ V : Int, 0 ≤ V → (Mv.mR l d (r + 1) ≤ V ↔ sdv l (d.getD r default) ≤ V) := by
  intro V h0
  rw [c4h h0]
  unfold sdv
  constructor
  ·intro hx
   by_cases hv : 1000 ≤ V
   ·omega
   ·have : mxU l (d.getD r default) l.length ≤ V := (b5l h0 _).2 fun k hk hc => by
     obtain ⟨a1, a2⟩ := h.ix hk
     rw [h.at hr] at hc
     have := hx (at' l k) (by omega)
     rw [a2] at this
     omega
    omega
  ·intro hm x hx
   by_cases hv : 1000 ≤ V
   ·omega
   ·have hm' : mxU l (d.getD r default) l.length ≤ V := by omega
    have := (b5l h0 _).1 hm' (d.getD x default) (h.2.2.2.1 x (by omega)) (by rw [h.at hr, h.at (by omega)]; omega)
    rw [h.at (by omega)] at this
    omega
 have p1 := c1b (l := l) (d := d) (r + 1)
 have p2 : 0 ≤ sdv l (d.getD r default) := by have := b7d (l := l) (i := d.getD r default) l.length; unfold sdv; omega
 have k1 := (key _ p2).2 (Int.le_refl _)
 have k2 := (key _ p1).1 (Int.le_refl _)
 omega
theorem Ord.from {l : List Int} {d : List Nat} (h : Ord l l.length d) {r : Nat} (hr : r ≤ l.length) : (List.range l.length).countP (fun k => decide (r ≤ at' l k)) = l.length - r := by
 have h1 : (List.range l.length).countP (fun k => !decide (r ≤ at' l k)) = r := h.count hr (fun x hx => by rw [h.at (by omega)]; simp; omega) (fun x h1 h2 => by rw [h.at h2]; simp; omega)
 have h2 := List.length_eq_countP_add_countP (fun k => decide (r ≤ at' l k)) (l := List.range l.length)
 rw [List.length_range] at h2
 have h3 : (fun k => decide (¬ decide (r ≤ at' l k) = true)) = fun k => !decide (r ≤ at' l k) := by
  funext k
  by_cases c : r ≤ at' l k <;> simp [c]
 rw [h3, h1] at h2
 omega
end Go.Mv
namespace Go.Mv
open Go Classical
theorem a3a.lt {l : List Int} {i j : Nat} {d0 d : List Nat} (h0 : Ord l i d0) (h : a3a l i d0 j d) (hi : i < l.length) {x : Nat} (hx : x < l.length) : d.getD x default < l.length := by
 rw [h.2.2.1 x hx]
 have h4 := h0.2.2.2.1
 split
 ·have := h4 x (by have := h.1; omega); omega
 ·split
  ·exact hi
  ·split
   ·have := h4 (x - 1) (by omega); omega
   ·exact hx
noncomputable def plU (l : List Int) (k : Nat) : List Nat := (List.range k).map (at' l)
@[simp] theorem plU_length (l : List Int) (k : Nat) : (plU l k).length = k := by simp [plU]
def Fil (l : List Int) (d : List Nat) (r : Nat) (out : List Int) : Prop := r ≤ l.length ∧ out.length = l.length ∧ ∀ x, x < r → out.getD (d.getD x default) default = mR l d (x + 1)
theorem Fil.set {l : List Int} {d : List Nat} (h : Ord l l.length d) {r : Nat} {out : List Int} (hf : Fil l d r out) (hr : r < l.length) : Fil l d (r + 1) (out.set (d.getD r default) (mR l d (r + 1))) := by
 obtain ⟨h1, h2, h3⟩ := hf
 have hdr := h.2.2.2.1 r hr
 refine ⟨by omega, by simp [h2], fun x hx => ?_⟩
 rw [I1 _ _ _ _ (by omega)]
 by_cases e : x = r
 ·subst e; rw [if_pos rfl]
 ·rw [if_neg, h3 x (by omega)]
  intro he
  have := h.2.2.2.2.1 x r (by omega) hr
  rw [he] at this
  exact LTl.irr this
theorem Fil.fin {l : List Int} {d : List Nat} (h : Ord l l.length d) {r : Nat} {out : List Int} (hf : Fil l d r out) (hr : l.length ≤ r) : out = sdU l l.length := by
 obtain ⟨h1, h2, h3⟩ := hf
 refine I7 (d := default) (by simp [h2]) fun i hi => ?_
 obtain ⟨a1, a2⟩ := h.ix (k := i) (by omega)
 rw [c2i (by omega)]
 have := h3 (at' l i) (by omega)
 rw [a2, h.mR a1, a2] at this
 exact this
end Go.Mv
namespace Go.Mv
end Go.Mv
namespace Go.Mv
theorem b4e {u g : Int} (h : g ∣ u) : u.tdiv g = u / g := Int.tdiv_eq_ediv_of_dvd h
theorem c5d {u d : Int} (hd : 0 < d) : (Rat.divInt u d).num = u.tdiv (Int.gcd u d : Int) ∧ ((Rat.divInt u d).den : Int) = d.tdiv (Int.gcd u d : Int) := by
 rw [b4e (Int.gcd_dvd_left ..), b4e (Int.gcd_dvd_right ..), Rat.num_divInt, Rat.den_divInt, if_neg (by omega), Int.gcd_comm d u, Int.sign_eq_one_of_pos hd, Int.one_mul]
 refine ⟨rfl, ?_⟩
 have e : ((d.natAbs : Nat) : Int) = d := by omega
 rw [Int.natCast_ediv, e]
theorem W4 (q : Rat) : 0 < (q.den : Int) := by have := q.den_nz; omega
def Sm (b : Int) (q : Rat) : Prop := -b ≤ q.num ∧ q.num ≤ b ∧ (q.den : Int) ≤ b
theorem a1r (u : Int) (g : Nat) : (u.tdiv (g : Int)).natAbs ≤ u.natAbs := by
 rw [Int.natAbs_tdiv]
 exact Nat.div_le_self _ _
theorem c6p {u d : Int} (hd : d ≠ 0) : (Rat.divInt u d).num.natAbs ≤ u.natAbs ∧ (Rat.divInt u d).den ≤ d.natAbs := by
 have key : ∀ (u d : Int), 0 < d → (Rat.divInt u d).num.natAbs ≤ u.natAbs ∧ (Rat.divInt u d).den ≤ d.natAbs := by
  intro u d hd
  have h := c5d (u := u) hd
  have h1 := a1r u (Int.gcd u d)
  have h2 := a1r d (Int.gcd u d)
  rw [← h.1] at h1
  rw [← h.2] at h2
  exact ⟨h1, by omega⟩
 by_cases h : 0 < d
 ·exact key u d h
 ·have := key (-u) (-d) (by omega)
  rw [Rat.neg_divInt_neg] at this
  omega
theorem Sm.fr {u d b : Int} (hd : d ≠ 0) (hu : -b ≤ u ∧ u ≤ b) (hd2 : -b ≤ d ∧ d ≤ b) : Sm b (Rat.divInt u d) := by
 have := c6p (u := u) hd
 unfold Sm; omega
theorem b8q {x y a b : Int} (hx : -a ≤ x ∧ x ≤ a) (hy : -b ≤ y ∧ y ≤ b) : -(a * b) ≤ x * y ∧ x * y ≤ a * b := by
 have h1 : (x * y).natAbs ≤ (a * b).natAbs := by
  rw [Int.natAbs_mul, Int.natAbs_mul]
  exact Nat.mul_le_mul (by omega) (by omega)
 have h2 : 0 ≤ a * b := Int.mul_nonneg (by omega) (by omega)
 omega
theorem c5s (p q : Rat) : p + q = Rat.divInt (p.num * q.den + q.num * p.den) ((p.den : Int) * q.den) := by
 rw [Rat.add_def', ← Rat.divInt_ofNat]; simp
theorem c5i (p q : Rat) : p * q = Rat.divInt (p.num * q.num) ((p.den : Int) * q.den) := by
 rw [Rat.mul_def', ← Rat.divInt_ofNat]; simp
theorem a6d (p q : Rat) : ((p.den : Int) * q.den) ≠ 0 := by
 have h1 := W4 p; have h2 := W4 q
 have := Int.mul_pos h1 h2
 omega
theorem b6z (q : Rat) : (-q).num = -q.num ∧ (-q).den = q.den := ⟨rfl, rfl⟩
end Go.Mv
namespace Go.Mv
def vs (l : List Int) : Bool := decide (1 ≤ l.length) && decide (l.length ≤ 8) && a2a (-30) 30 l
theorem b8d {α : Type} [Inhabited α] {xs : List α} {i j : Nat} {y : α} (h : i < xs.length) : (xs.set i y).getD j default = if j = i then y else xs.getD j default := by
 rw [List.getD_eq_getElem?_getD, List.getElem?_set, List.getD_eq_getElem?_getD]
 by_cases e : i = j
 ·subst e; rw [if_pos rfl, if_pos h, if_pos rfl]; rfl
 ·rw [if_neg e, if_neg (fun h => e h.symm)]
section
variable {cx : Cx} {keep : List Nat} {ops0 : Array Oper} {r : List Oper} {A : Asr} {Q : Asr → List Log → Prop} {d : Nat} {ty : Nat} {pos : String} {aft : Array Edge}
end
def c5e (xs : List Int) : Prop := ∀ x ∈ xs, -9223372036854775808 ≤ x ∧ x ≤ 9223372036854775807
def mkI (k : Int) (n : Nat) : List Int := (List.range n).map fun i : Nat => k + (i : Int)
@[simp] theorem mkI_length (k : Int) (n : Nat) : (mkI k n).length = n := by simp [mkI]
def mkF (k : Int) (n : Nat) : List (Int × Int) := (List.range n).map fun i : Nat => (k + 2 * (i : Int), k + 2 * (i : Int) + 1)
@[simp] theorem mkF_length (k : Int) (n : Nat) : (mkF k n).length = n := by simp [mkF]
theorem b7v {α : Type} [Inhabited α] {xs ys : List α} (hl : xs.length = ys.length) (h : ∀ j, j < xs.length → xs.getD j default = ys.getD j default) : xs = ys := by
 refine List.ext_getElem hl fun i h1 h2 => ?_
 have := h i h1
 rw [List.getD_eq_getElem?_getD, List.getD_eq_getElem?_getD, List.getElem?_eq_getElem h1, List.getElem?_eq_getElem h2] at this
 exact this
def c2k (xs : List Int) : List Int := xs.foldl (fun a x => if a.getLast? = some x then a else a ++ [x]) []
@[simp] theorem compactI_nil : c2k [] = [] := rfl
instance : Inhabited Rat := ⟨0⟩
def c6l (xs : List Rat) : List Rat := xs.mergeSort fun x y => decide (x ≤ y)
@[simp] theorem sortQ_length (xs : List Rat) : (c6l xs).length = xs.length := List.length_mergeSort _
theorem Z5 {α : Type} [Inhabited α] {xs : List α} {i : Nat} (h : i < xs.length) : xs.take (i + 1) = xs.take i ++ [xs.getD i default] := by
 rw [List.take_add_one, List.getD_eq_getElem?_getD, List.getElem?_eq_getElem h]; rfl
def vpS (xs ys : List Int) : Bool := decide (xs.length = ys.length) && decide (xs.length ≤ 7) && a2a (-12) 12 xs && a2a (-12) 12 ys
def wd (xs : List Int) : Bool := xs.any fun x => x != xs.getD 0 default
def vc (xs ys : List Int) : Bool := vpS xs ys && wd xs
theorem Sm.mono {a b : Int} {q : Rat} (h : Sm a q) (hab : a ≤ b) : Sm b q := by obtain ⟨h1, h2, h3⟩ := h; exact ⟨by omega, by omega, by omega⟩
theorem Sm.add {a b : Int} {p q : Rat} (hp : Sm a p) (hq : Sm b q) : Sm (2 * (a * b)) (p + q) := by
 obtain ⟨p1, p2, p3⟩ := hp
 obtain ⟨q1, q2, q3⟩ := hq
 have dp := W4 p
 have dq := W4 q
 have m1 := b8q (x := p.num) (y := (q.den : Int)) ⟨p1, p2⟩ ⟨by omega, q3⟩
 have m2 := b8q (x := q.num) (y := (p.den : Int)) ⟨q1, q2⟩ ⟨by omega, p3⟩
 have m3 := b8q (x := (p.den : Int)) (y := (q.den : Int)) ⟨by omega, p3⟩ ⟨by omega, q3⟩
 have e := Int.mul_comm b a
 rw [c5s]
 exact Sm.fr (a6d p q) ⟨by omega, by omega⟩ ⟨by omega, by omega⟩
theorem Sm.neg {a : Int} {p : Rat} (hp : Sm a p) : Sm a (-p) := by
 obtain ⟨p1, p2, p3⟩ := hp
 exact ⟨by rw [(b6z p).1]; omega, by rw [(b6z p).1]; omega, p3⟩
theorem Sm.sub {a b : Int} {p q : Rat} (hp : Sm a p) (hq : Sm b q) : Sm (2 * (a * b)) (p - q) := by rw [Rat.sub_eq_add_neg]; exact hp.add hq.neg
theorem Sm.mul {a b : Int} {p q : Rat} (hp : Sm a p) (hq : Sm b q) : Sm (a * b) (p * q) := by
 obtain ⟨p1, p2, p3⟩ := hp
 obtain ⟨q1, q2, q3⟩ := hq
 have dp := W4 p
 have dq := W4 q
 have m3 := b8q (x := (p.den : Int)) (y := (q.den : Int)) ⟨by omega, p3⟩ ⟨by omega, q3⟩
 have m4 := b8q (x := p.num) (y := q.num) ⟨p1, p2⟩ ⟨q1, q2⟩
 rw [c5i]
 exact Sm.fr (a6d p q) m4 m3
theorem Sm_half : Sm 2 (1 / 2 : Rat) := by refine ⟨?_, ?_, ?_⟩ <;> decide +kernel
def ngI (l : List Int) : List Int := l.map fun x => -x
@[simp] theorem ngI_length (l : List Int) : (ngI l).length = l.length := by simp [ngI]
def vd (xs : List Int) : Bool := decide (xs.length ≤ 10) && a2a (-200) 200 xs
theorem c3q {lo hi : Int} {xs : List Int} (h : ∀ i, i < xs.length → lo ≤ xs.getD i default ∧ xs.getD i default ≤ hi) : a2a lo hi xs = true := a6p.2 h
theorem c2g {lo hi : Int} {xs : List Int} {i : Nat} (hi' : i < xs.length) (h : ¬ (lo ≤ xs.getD i default ∧ xs.getD i default ≤ hi)) : a2a lo hi xs = false := by
 rw [Bool.eq_false_iff]
 exact fun h2 => h (a6p.1 h2 i hi')
section
variable {cx : Cx} {keep : List Nat} {A : Asr} {Q : AExit → Asr → Prop}
theorem T6 {body : Code} (h : XA cx keep body A fun r A' => match r with
  | .normal => XA cx keep (.loop body) A' Q
  | r => Q r A') : XA cx keep (.loop body) A Q := by
 intro st hs
 obtain ⟨n, r, st1, h1, A', h2, h3⟩ := h st hs
 cases r with
 | normal =>
  obtain ⟨m, r2, st2, k1, A2, k2, k3⟩ := h3 st1 h2
  refine ⟨max n m + 1, r2, st2, ?_, A2, k2, k3⟩
  simp only [aexec, W6 cx h1 (Nat.le_max_left n m), W6 cx k1 (Nat.le_max_right n m)]
 | ret => exact ⟨n + 1, _, st1, by simp only [aexec, h1], A', h2, h3⟩
 | exit i => exact ⟨n + 1, _, st1, by simp only [aexec, h1], A', h2, h3⟩
end
section
variable {cx : Cx} {keep : List Nat} {ops0 : Array Oper} {r : List Oper} {A : Asr} {Q : Asr → List Log → Prop} {d : Nat} {ty : Nat} {pos : String} {aft : Array Edge}
end
abbrev Bk := Int × Int × Int
section
variable {P Q v : Nat → Int}
def SegL (P Q v : Nat → Int) : Nat → List Bk → Nat → Prop
 | a, [], e => a = e
 | a, b :: r, e => ∃ m, a < m ∧ b.1 = P m - P a ∧ b.2.1 = Q m - Q a ∧ b.2.2 = v (m - 1) ∧ (∀ k, a < k → k ≤ m → (P m - P a) * (Q k - Q a) ≤ (P k - P a) * (Q m - Q a)) ∧ SegL P Q v m r e
theorem SegL.le : ∀ {l : List Bk} {a e : Nat}, SegL P Q v a l e → a ≤ e
 | [], _, _, h => Nat.le_of_eq h
 | _ :: _, _, _, ⟨_, h1, _, _, _, _, h⟩ => by have := h.le; omega
theorem SegL.append : ∀ {l1 l2 : List Bk} {a e : Nat}, SegL P Q v a (l1 ++ l2) e ↔ ∃ m, SegL P Q v a l1 m ∧ SegL P Q v m l2 e
 | [], l2, a, e => ⟨fun h => ⟨a, rfl, h⟩, fun ⟨m, h1, h2⟩ => by cases (h1 : a = m); exact h2⟩
 | b :: l1, l2, a, e => by
  constructor
  ·rintro ⟨m, h1, h2, h3, h4, h5, h6⟩
   obtain ⟨k, k1, k2⟩ := SegL.append.1 h6
   exact ⟨k, ⟨m, h1, h2, h3, h4, h5, k1⟩, k2⟩
  ·rintro ⟨k, ⟨m, h1, h2, h3, h4, h5, k1⟩, k2⟩
   exact ⟨m, h1, h2, h3, h4, h5, SegL.append.2 ⟨k, k1, k2⟩⟩
theorem Qlt {m : Nat} (hQ : ∀ j, j < m → Q j < Q (j + 1)) : ∀ {b a : Nat}, a < b → b ≤ m → Q a < Q b
 | 0, _, h, _ => by omega
 | b + 1, a, h, hm => by
  have h1 := hQ b (by omega)
  by_cases e : a = b
  ·subst e; exact h1
  ·have := Qlt hQ (b := b) (a := a) (by omega) (by omega); omega
theorem b6e {X Y p q u z : Int} (hp : 0 < p) (hu : 0 ≤ u) (h0 : Y * p ≤ X * q) (h1 : X * u ≤ z * p) (hq : 0 ≤ q) : (X + Y) * u ≤ z * (p + q) := by
 refine Int.le_of_mul_le_mul_left (a := p) ?_ hp
 have a1 := Int.mul_le_mul_of_nonneg_right h0 hu
 have a2 := Int.mul_le_mul_of_nonneg_right h1 (show 0 ≤ p + q by omega)
 grind
theorem b4p {X Y p q u z : Int} (hq : 0 < q) (hu : u ≤ q) (h0 : Y * p ≤ X * q) (h1 : Y * u ≤ z * q) (hp : 0 ≤ p) : (X + Y) * (p + u) ≤ (X + z) * (p + q) := by
 refine Int.le_of_mul_le_mul_left (a := q) ?_ hq
 have a1 := Int.mul_nonneg (show 0 ≤ X * q - Y * p by omega) (show 0 ≤ q - u by omega)
 have a2 := Int.mul_le_mul_of_nonneg_right h1 (show 0 ≤ p + q by omega)
 grind
theorem SegL.merge {m : Nat} (hQ : ∀ j, j < m → Q j < Q (j + 1)) {x y : Bk} {a e : Nat} (he : e ≤ m) (h : SegL P Q v a [x, y] e) (hxy : ¬ x.1 * y.2.1 < y.1 * x.2.1) : SegL P Q v a [(x.1 + y.1, x.2.1 + y.2.1, y.2.2)] e := by
 obtain ⟨k, h1, h2, h3, h4, h5, j, j1, j2, j3, j4, j5, j6⟩ := h
 have j6 : j = e := j6
 subst j6
 rw [h2, h3, j2, j3] at hxy
 have q1 := Qlt hQ h1 (by omega)
 have q2 := Qlt hQ j1 (by omega)
 refine ⟨j, by omega, by dsimp only; omega, by dsimp only; omega, j4, fun t t1 t2 => ?_, rfl⟩
 have e1 : P j - P a = (P k - P a) + (P j - P k) := by omega
 have e2 : Q j - Q a = (Q k - Q a) + (Q j - Q k) := by omega
 rw [e1, e2]
 rcases Nat.lt_or_ge k t with c | c
 ·have e3 : Q t - Q a = (Q k - Q a) + (Q t - Q k) := by omega
  have e4 : P t - P a = (P k - P a) + (P t - P k) := by omega
  rw [e3, e4]
  have q3 : Q t ≤ Q j := by
   rcases Nat.lt_or_eq_of_le t2 with c2 | c2
   ·have := Qlt hQ c2 (by omega); omega
   ·subst c2; exact Int.le_refl _
  exact b4p (by omega) (by omega) (by omega) (j5 t c t2) (by omega)
 ·have q3 := Qlt hQ t1 (by omega)
  exact b6e (by omega) (by omega) (by omega) (h5 t t1 c) (by omega)
def ltB (x y : Bk) : Prop := x.1 * y.2.1 < y.1 * x.2.1
def Inc : List Bk → Prop
 | [] => True
 | [_] => True
 | b :: c :: r => ltB b c ∧ Inc (c :: r)
theorem Inc.init : ∀ {l : List Bk} {x : Bk}, Inc (l ++ [x]) → Inc l
 | [], _, _ => trivial
 | [_], _, _ => trivial
 | b :: c :: r, x, h => ⟨h.1, Inc.init (l := c :: r) (x := x) h.2⟩
theorem Inc.tail {b : Bk} {r : List Bk} (h : Inc (b :: r)) : Inc r := by
 cases r with
 | nil => trivial
 | cons c r => exact h.2
theorem c5p {X p Y q Z r : Int} (hq : 0 < q) (hp : 0 < p) (hr : 0 < r) (h1 : X * q < Y * p) (h2 : Y * r < Z * q) : X * r < Z * p := by
 refine Int.lt_of_mul_lt_mul_left (a := q) ?_ (by omega)
 have a1 := Int.mul_lt_mul_of_pos_right h1 hr
 have a2 := Int.mul_lt_mul_of_pos_right h2 hp
 grind
theorem c5f {X p Y q u z : Int} (hq : 0 < q) (hp : 0 < p) (hu : 0 < u) (h1 : X * q < Y * p) (h2 : Y * u ≤ z * q) : X * u < z * p := by
 refine Int.lt_of_mul_lt_mul_left (a := q) ?_ (by omega)
 have a1 := Int.mul_lt_mul_of_pos_right h1 hu
 have a2 := Int.mul_le_mul_of_nonneg_right h2 (show 0 ≤ p by omega)
 grind
theorem SegL.above {n : Nat} (hQ : ∀ j, j < n → Q j < Q (j + 1)) {X p : Int} (hp : 0 < p) : ∀ {r : List Bk} {m e : Nat}, e ≤ n → SegL P Q v m r e → Inc r → (∀ b, r.head? = some b → X * b.2.1 < b.1 * p) →
  ∀ k, m < k → k ≤ e → X * (Q k - Q m) < (P k - P m) * p
 | [], m, e, _, h, _, _, k, k1, k2 => by cases (h : m = e); omega
 | b :: r, m, e, he, h, hi, hb, k, k1, k2 => by
  obtain ⟨m', h1, h2, h3, h4, h5, h6⟩ := h
  have hme := h6.le
  have hb0 : X * b.2.1 < b.1 * p := hb b rfl
  rw [h2, h3] at hb0
  clear hb
  have q1 := Qlt hQ h1 (by omega)
  rcases Nat.lt_or_ge m' k with c | c
  ·have a1 := SegL.above hQ hp he h6 hi.tail (fun c hc => by
    cases r with
    | nil => cases hc
    | cons c' r =>
     have hcc : c' = c := Option.some.inj hc
     subst hcc
     obtain ⟨m2, g1, g2, g3, _, _, g6⟩ := h6
     have hlt : ltB b c' := hi.1
     unfold ltB at hlt
     rw [h2, h3] at hlt
     have hm2 := g6.le
     have q2 := Qlt hQ g1 (by omega)
     exact c5p (by omega) hp (by omega) hb0 hlt) k c k2
   have e1 : Q k - Q m = (Q m' - Q m) + (Q k - Q m') := by omega
   have e2 : P k - P m = (P m' - P m) + (P k - P m') := by omega
   rw [e1, e2, Int.mul_add, Int.add_mul]
   omega
  ·have q2 := Qlt hQ k1 (by omega)
   exact c5f (by omega) hp (by omega) hb0 (h5 k k1 c)
theorem SegL.after {n : Nat} (hQ : ∀ j, j < n → Q j < Q (j + 1)) {b : Bk} {r : List Bk} {a m e : Nat} (he : e ≤ n) (h1 : a < m) (h2 : b.1 = P m - P a) (h3 : b.2.1 = Q m - Q a) (h6 : SegL P Q v m r e) (hi : Inc (b :: r)) :
  ∀ k, m < k → k ≤ e → (P m - P a) * (Q k - Q a) < (P k - P a) * (Q m - Q a) := by
 intro k k1 k2
 have hme := h6.le
 have q1 := Qlt hQ h1 (by omega)
 have a1 := SegL.above hQ (X := P m - P a) (p := Q m - Q a) (by omega) he h6 hi.tail (fun c hc => by
  cases r with
  | nil => cases hc
  | cons c' r =>
   have hcc : c' = c := Option.some.inj hc
   subst hcc
   have hlt : ltB b c' := hi.1
   unfold ltB at hlt
   rwa [h2, h3] at hlt) k k1 k2
 have e1 : Q k - Q a = (Q m - Q a) + (Q k - Q m) := by omega
 have e2 : P k - P a = (P m - P a) + (P k - P m) := by omega
 rw [e1, e2, Int.mul_add, Int.add_mul]
 omega
def fiU : List Bk → Int → Nat
 | [], _ => 0
 | b :: r, x => if x ≤ b.2.2 then 0 else fiU r x + 1
theorem SegL.has {n : Nat} (hv : ∀ i j, i < j → j < n → v i < v j) : ∀ {bs : List Bk} {a e g : Nat}, e ≤ n → SegL P Q v a bs e → g < e → a < e → fiU bs (v g) < bs.length
 | [], a, e, g, _, h, _, h2 => by cases (h : a = e); omega
 | b :: r, a, e, g, he, h, hg, _ => by
  obtain ⟨m, h1, h2, h3, h4, h5, h6⟩ := h
  unfold fiU
  split
  ·simp
  ·rename_i c
   have hm := h6.le
   have hgm : m ≤ g := by
    refine Classical.byContradiction fun hc => c ?_
    rw [h4]
    rcases Nat.lt_or_ge g (m - 1) with c2 | c2
    ·have := hv g (m - 1) c2 (by omega); omega
    ·have : g = m - 1 := by omega
     rw [this]; exact Int.le_refl _
   have := SegL.has hv he h6 hg (by omega)
   simpa using this
end
def fX (xs : List Int) (i : Nat) : Int := xs.getD i default
def a6j (xs : List Int) (i : Nat) (d : List Nat) : Prop := d.Perm (List.range i) ∧ (d.map (fX xs)).Pairwise (· ≤ ·)
theorem a6j.step {xs : List Int} {i k : Nat} {d : List Nat} (h : a6j xs i d) (hk : k ≤ d.length) (h1 : ∀ j, j < k → fX xs (d.getD j default) ≤ fX xs i) (h2 : k < d.length → fX xs i ≤ fX xs (d.getD k default)) :
  a6j xs (i + 1) (d.take k ++ [i] ++ d.drop k) := by
 refine ⟨?_, ?_⟩
 ·rw [List.range_succ]
  have : (d.take k ++ [i] ++ d.drop k).Perm (d.take k ++ d.drop k ++ [i]) := by
   rw [List.append_assoc, List.append_assoc]
   exact List.Perm.append_left _ List.perm_append_comm
  rw [List.take_append_drop] at this
  exact this.trans (h.1.append_right _)
 ·have e : ∀ j, j < d.length → (d.map (fX xs)).getD j default = fX xs (d.getD j default) := by
   intro j hj
   rw [List.getD_eq_getElem?_getD, List.getD_eq_getElem?_getD, List.getElem?_map, List.getElem?_eq_getElem hj]; rfl
  have := a7v (out := d.map (fX xs)) (x := fX xs i) (k := k) h.2 (by simpa using hk) (fun j hj => by rw [e j (by omega)]; exact h1 j hj) (fun hk2 => by rw [e k (by simpa using hk2)]; exact h2 (by simpa using hk2))
  have e2 : (d.take k ++ [i] ++ d.drop k).map (fX xs) = a3p (fX xs i) (d.map (fX xs)) := by rw [← this]; simp [List.map_take, List.map_drop]
  rw [e2]
  exact a0d _ _ h.2
theorem a6j.ys {xs : List Int} {d : List Nat} (h : a6j xs xs.length d) : d.map (fX xs) = sortI xs := by
 refine c0m ?_ h.2
 have := h.1.map (fX xs)
 have e : (List.range xs.length).map (fX xs) = xs := by
  apply List.ext_getElem
  ·simp
  ·intro i h1 h2
   simp [fX, List.getD_eq_getElem?_getD, List.getElem?_eq_getElem h2]
 rwa [e] at this
theorem a6j.len {xs : List Int} {i : Nat} {d : List Nat} (h : a6j xs i d) : d.length = i := by rw [h.1.length_eq, List.length_range]
theorem a6j.lt {xs : List Int} {i : Nat} {d : List Nat} (h : a6j xs i d) {j : Nat} (hj : j < d.length) : d.getD j default < i := List.mem_range.1 (h.1.mem_iff.1 (a9l hj))
theorem a6j.ix {xs : List Int} {i : Nat} {d : List Nat} (h : a6j xs i d) {k : Nat} (hk : k < i) : ∃ j, j < d.length ∧ d.getD j default = k := a1c (h.1.mem_iff.2 (List.mem_range.2 hk))
abbrev c5v : ByteArray := ⟨#[108, 105, 115, 116]⟩
abbrev wA : ByteArray := ⟨#[97]⟩
abbrev wB : ByteArray := ⟨#[98]⟩
abbrev wC : ByteArray := ⟨#[99]⟩
abbrev wD : ByteArray := ⟨#[100]⟩
abbrev c4i : ByteArray := ⟨#[115, 111, 114, 116]⟩
abbrev c5z : ByteArray := ⟨#[114, 101, 118]⟩
abbrev c5y : ByteArray := ⟨#[110, 101, 103]⟩
abbrev c5w : ByteArray := ⟨#[97, 98, 115]⟩
abbrev c4k : ByteArray := ⟨#[100, 105, 102, 102]⟩
abbrev c4m : ByteArray := ⟨#[115, 117, 109, 115]⟩
abbrev c1e : ByteArray := ⟨#[114, 97, 110, 107, 115]⟩
abbrev c1n : ByteArray := ⟨#[116, 111, 116, 97, 108]⟩
abbrev c6f : ByteArray := ⟨#[97, 100, 100]⟩
abbrev c4d : ByteArray := ⟨#[106, 111, 105, 110]⟩
def nd (w : ByteArray) : Int :=
 if w.toList = c5v.toList then 0 else if w.toList = wA.toList then 0 else if w.toList = wB.toList then 0 else if w.toList = wC.toList then 0 else if w.toList = wD.toList then 0
 else if w.toList = c4i.toList then 1 else if w.toList = c5z.toList then 1 else if w.toList = c5y.toList then 1 else if w.toList = c5w.toList then 1 else if w.toList = c4k.toList then 1
 else if w.toList = c4m.toList then 1 else if w.toList = c1e.toList then 1 else if w.toList = c1n.toList then 1 else if w.toList = c6f.toList then 2 else if w.toList = c4d.toList then 2 else -1
def rch (w : ByteArray) : Int :=
 if w.toList = c4i.toList then 1 else if w.toList = c5z.toList then 1 else if w.toList = c5y.toList then 1 else if w.toList = c5w.toList then 1 else if w.toList = c4k.toList then 1
 else if w.toList = c4m.toList then 1 else if w.toList = c1e.toList then 1 else if w.toList = c1n.toList then 1 else if w.toList = c6f.toList then 2 else if w.toList = c4d.toList then 2
 else if w.toList = wA.toList then 0 else if w.toList = wB.toList then 0 else if w.toList = wC.toList then 0 else if w.toList = wD.toList then 0 else -1
def a1t (x : List Int) (i : Nat) : Int := x.getD i default
def dfI (x : List Int) : List Int := (List.range x.length).map fun i => if i = 0 then a1t x 0 else a1t x i - a1t x (i - 1)
def vl (x : List Int) : Bool := decide (x.length ≤ 40) && a2a (-100000) 100000 x
def Z6 (n : Nat) (f g : Nat → Int) (i : Nat) (l : List Int) : Prop := l.length = n ∧ ∀ j, j < n → l.getD j default = if j < i then f j else g j
theorem Z6.step {n i : Nat} {f g : Nat → Int} {l : List Int} (h : Z6 n f g i l) (hi : i < n) {v : Int} (hv : v = f i) : Z6 n f g (i + 1) (l.set i v) := by
 refine ⟨by simp [h.1], fun j hj => ?_⟩
 rw [I1 _ _ _ _ (by rw [h.1]; exact hi)]
 by_cases e : j = i
 ·subst e; rw [if_pos rfl, if_pos (by omega), hv]
 ·rw [if_neg e, h.2 j hj]
  by_cases c : j < i
  ·rw [if_pos c, if_pos (by omega)]
  ·rw [if_neg c, if_neg (by omega)]
theorem Z6.at {n i : Nat} {f g : Nat → Int} {l : List Int} (h : Z6 n f g i l) (hi : i < n) : l.getD i default = g i := by rw [h.2 i hi, if_neg (by omega)]
theorem Z6.fin {n i : Nat} {f g : Nat → Int} {l : List Int} (h : Z6 n f g i l) (hi : n ≤ i) : l = (List.range n).map f := by
 refine I7 (d := default) (by simp [h.1]) fun j hj => ?_
 rw [h.1] at hj
 rw [h.2 j hj, if_pos (by omega), List.getD_eq_getElem?_getD, List.getElem?_map, List.getElem?_range hj]
 rfl
theorem Z6.start (x : List Int) (f : Nat → Int) : Z6 x.length f (a1t x) 0 x := ⟨rfl, fun j hj => by rw [if_neg (by omega)]; rfl⟩
def a2u (x : List Int) (i : Nat) (l : List Int) : Prop := l.length = x.length ∧ ∀ j, j < x.length → l.getD j default = if i < j then a1t x j - a1t x (j - 1) else a1t x j
theorem a2u.step {x l : List Int} {i : Nat} (h : a2u x i l) (h0 : 0 < i) (hi : i < x.length) : a2u x (i - 1) (l.set i (l.getD i default - l.getD (i - 1) default)) := by
 refine ⟨by simp [h.1], fun j hj => ?_⟩
 rw [I1 _ _ _ _ (by rw [h.1]; exact hi)]
 by_cases e : j = i
 ·subst e
  rw [if_pos rfl, h.2 j hj, h.2 (j - 1) (by omega), if_neg (by omega), if_neg (by omega), if_pos (by omega)]
 ·rw [if_neg e, h.2 j hj]
  by_cases c : i < j
  ·rw [if_pos c, if_pos (by omega)]
  ·rw [if_neg c, if_neg (by omega)]
theorem a2u.fin {x l : List Int} (h : a2u x 0 l) : l = dfI x := by
 refine I7 (d := default) (by simp [h.1, dfI]) fun j hj => ?_
 rw [h.1] at hj
 rw [h.2 j hj, dfI, List.getD_eq_getElem?_getD, List.getElem?_map, List.getElem?_range hj]
 show _ = if j = 0 then _ else _
 by_cases e : j = 0
 ·subst e; rw [if_neg (by omega), if_pos rfl]
 ·rw [if_pos (by omega), if_neg e]
end Go.Mv
namespace Go.Mv
def b5o (x : List Int) (i : Nat) (l : List Int) : Prop := l.length = x.length ∧ ∀ j, j < x.length → l.getD j default = if j < i ∨ x.length - 1 - i < j then a1t x (x.length - 1 - j) else a1t x j
theorem b5o.start (x : List Int) : b5o x 0 x := ⟨rfl, fun j hj => by rw [if_neg (by omega)]; rfl⟩
theorem b5o.step {x l : List Int} {i : Nat} (h : b5o x i l) (hi : i < x.length - 1 - i) : b5o x (i + 1) ((l.set i (l.getD (x.length - 1 - i) default)).set (x.length - 1 - i) (l.getD i default)) := by
 refine ⟨by simp [h.1], fun j hj => ?_⟩
 rw [I1 _ _ _ _ (by simp [h.1]; omega), I1 _ _ _ _ (by rw [h.1]; omega)]
 by_cases e : j = x.length - 1 - i
 ·subst e
  rw [if_pos rfl, h.2 i (by omega), if_neg (by omega), if_pos (by omega), show x.length - 1 - (x.length - 1 - i) = i by omega]
 ·rw [if_neg e]
  by_cases e2 : j = i
  ·subst e2
   rw [if_pos rfl, h.2 _ (by omega), if_neg (by omega), if_pos (by omega)]
  ·rw [if_neg e2, h.2 j hj]
   by_cases c : j < i ∨ x.length - 1 - i < j
   ·rw [if_pos c, if_pos (by omega)]
   ·rw [if_neg c, if_neg (by omega)]
theorem b5o.fin {x l : List Int} {i : Nat} (h : b5o x i l) (hi : x.length - 1 - i ≤ i) : l = x.reverse := by
 refine I7 (d := default) (by simp [h.1]) fun j hj => ?_
 rw [h.1] at hj
 have hr : x.reverse.getD j default = a1t x (x.length - 1 - j) := by
  unfold a1t
  rw [List.getD_eq_getElem?_getD, List.getD_eq_getElem?_getD, List.getElem?_reverse hj]
 rw [h.2 j hj, hr]
 split
 ·rfl
 ·rename_i c
  rw [show x.length - 1 - j = j by omega]
end Go.Mv
namespace Go.Mv
theorem a2u.start (x : List Int) : a2u x (x.length - 1) x := ⟨rfl, fun j hj => by rw [if_neg (by omega)]; rfl⟩
theorem a2u.val {x l : List Int} {i : Nat} (h : a2u x i l) (j : Nat) : l.getD j default = if i < j ∧ j < x.length then a1t x j - a1t x (j - 1) else a1t x j := by
 rcases Nat.lt_or_ge j x.length with c | c
 ·rw [h.2 j c]
  by_cases c2 : i < j
  ·rw [if_pos c2, if_pos ⟨c2, c⟩]
  ·rw [if_neg c2, if_neg (by omega)]
 ·rw [if_neg (by omega), List.getD_eq_getElem?_getD, List.getElem?_eq_none (by rw [h.1]; exact c)]
  unfold a1t
  rw [List.getD_eq_getElem?_getD, List.getElem?_eq_none c]
theorem Z6.before {n i j : Nat} {f g : Nat → Int} {l : List Int} (h : Z6 n f g i l) (hj : j < i) (hn : j < n) : l.getD j default = f j := by rw [h.2 j hn, if_pos hj]
structure Stp where
 op : ByteArray
 a : Int
 b : Int
 ns : List Int
instance : Inhabited Stp := ⟨⟨⟨#[]⟩, 0, 0, []⟩⟩
abbrev bA (l : List UInt8) : ByteArray := ⟨l.toArray⟩
theorem c2z (b : ByteArray) : bA b.data.toList = b := by cases b; rfl
section
variable {cx : Cx} {keep : List Nat} {ops0 : Array Oper} {r : List Oper} {A : Asr} {Q : Asr → List Log → Prop} {d : Nat} {ty : Nat} {pos : String} {aft : Array Edge}
end
def c6o (n : Nat) : List UInt8 := if n < 10 then [UInt8.ofNat (48 + n)] else c6o (n / 10) ++ [UInt8.ofNat (48 + n % 10)]
termination_by n
def neg? (t : List UInt8) : Bool := decide (t.head? = some 45)
end Go.Mv
namespace Go.Mv
end Go.Mv
namespace Go.Mv
end Go.Mv
namespace Go.Mv
inductive Pl where
 | lst (ns : List Int)
 | col (w : List UInt8)
 | un (w : List UInt8) (p : Pl)
 | bin (w : List UInt8) (p q : Pl)
 deriving Inhabited
abbrev lW : List UInt8 := [108, 105, 115, 116]
def Pl.op : Pl → List UInt8
 | .lst _ => lW
 | .col w => w
 | .un w _ => w
 | .bin w _ _ => w
def Pl.ns : Pl → List Int
 | .lst ns => ns
 | _ => []
def Pl.kids : Pl → List Pl
 | .lst _ => []
 | .col _ => []
 | .un _ p => [p]
 | .bin _ p q => [p, q]
abbrev W8 := List UInt8
end Go.Mv
namespace Go.Mv
end Go.Mv
namespace Go.Mv
def one? (s : ByteArray) : Option UInt8 := match s.data.toList with
 | [b] => some b
 | _ => none
theorem one?_some {s : ByteArray} {b : UInt8} (h : one? s = some b) : s = bA [b] := by
 unfold one? at h
 split at h
 ·rename_i b' hs
  cases h
  have : s = bA s.data.toList := (c2z s).symm
  rw [hs] at this
  exact this
 ·cases h
end Go.Mv
namespace Go.Mv
end Go.Mv
namespace Go.Mv
def Pl.sz : Pl → Nat
 | .lst _ => 1
 | .col _ => 1
 | .un _ p => p.sz + 1
 | .bin _ p q => p.sz + q.sz + 1
def Pl.good : Pl → Prop
 | .lst ns => vd ns = true
 | .col w => w ≠ lW ∧ w.length ≤ 1048576
 | .un w p => w ≠ lW ∧ w.length ≤ 1048576 ∧ p.good
 | .bin w p q => w ≠ lW ∧ w.length ≤ 1048576 ∧ p.good ∧ q.good
def mT (k : Int) : W8 := 109 :: (if k ≤ 0 then [48] else c6o k.toNat)
def mkT (k : Int) (n : Nat) : List W8 := (List.range n).map fun (j : Nat) => mT (k + j)
@[simp] theorem mkT_length (k : Int) (n : Nat) : (mkT k n).length = n := by simp [mkT]
abbrev lSort : W8 := [115, 111, 114, 116]
def Pl.wf : Pl → Prop
 | .lst _ => True
 | .col w => rch (bA w) = 0
 | .un w p => rch (bA w) = 1 ∧ p.wf
 | .bin w p q => rch (bA w) = 2 ∧ p.wf ∧ q.wf
section
variable {cx : Cx} {keep : List Nat} {ops0 : Array Oper} {r : List Oper} {A : Asr} {Q : Asr → List Log → Prop} {d : Nat} {ty : Nat} {pos : String} {aft : Array Edge}
variable {C : Caller} {m f j : Nat} {cs fs : List AV} {G : Type} {vs : G → List AV} {ws : G → Ws} {ls : List Mv.Loc}
variable {fs' : List AV} {lf : List Mv.Loc}
theorem c2p {md : Nat} (h : md ≠ 0 ∧ md ≠ 3) : H6 C A md .nil .nil [] [] [] := by
 unfold H6 Z1
 rw [if_neg (by omega)]
 exact A7 ⟨rfl, rfl, rfl⟩
end
theorem T3 {α : Type} [Inhabited α] {l : List α} {j : Nat} (h : j < l.length) : l.take (j + 1) = l.take j ++ [l.getD j default] := by
 rw [List.take_succ_eq_append_getElem h, List.getD_eq_getElem?_getD, List.getElem?_eq_getElem h]; rfl
deriving instance DecidableEq for Stp
def c6u (t : Pl) (a b : Int) : Stp := ⟨bA t.op, a, b, t.ns⟩
deriving instance DecidableEq for Pl
structure ClQ (P : List Pl) : Prop where
 nd : P.Nodup
 good : ∀ t ∈ P, t.good
 kids : ∀ A t B, P = A ++ t :: B → ∀ k ∈ t.kids, k ∈ A
theorem ClQ.nil : ClQ [] := ⟨List.nodup_nil, (fun _ h => by cases h), (fun A t B h => by cases A <;> cases h)⟩
theorem ClQ.mem {P : List Pl} (h : ClQ P) {t k : Pl} (ht : t ∈ P) (hk : k ∈ t.kids) : k ∈ P := by
 obtain ⟨A, B, rfl⟩ := List.append_of_mem ht
 exact List.mem_append_left _ (h.kids A t B rfl k hk)
def ixQ (t : Pl) : List Pl → Nat
 | [] => 0
 | x :: r => if x = t then 0 else ixQ t r + 1
def c5x (P : List Pl) (t : Pl) (k : Nat) : Int := if k < t.kids.length then (ixQ (t.kids.getD k default) P : Int) else -1
def c6s (P : List Pl) (t : Pl) : Stp := c6u t (c5x P t 0) (c5x P t 1)
def enc (P : List Pl) : List Stp := P.map (c6s P)
end Go.Mv
end

section
namespace Go.Mv
namespace Gp
def cnt : Nat → (List Bool → Bool) → Nat
 | 0, p => if p [] then 1 else 0
 | N + 1, p => cnt N (fun r => p (false :: r)) + cnt N fun r => p (true :: r)
def rowS (N s : Nat) : List Bool := (List.range N).map fun i => s.testBit i
theorem rowS_len (N s : Nat) : (rowS N s).length = N := by simp [rowS]
theorem a9o (N s : Nat) : rowS (N + 1) s = decide (s % 2 = 1) :: rowS N (s / 2) := by
 unfold rowS
 rw [List.range_succ_eq_map, List.map_cons, List.map_map]
 congr 1
 ·exact Nat.testBit_zero ..
 ·refine List.map_congr_left fun i _ => ?_
  exact Nat.testBit_succ ..
def cntS (N S : Nat) (p : List Bool → Bool) : Nat := (List.range S).countP fun s => p (rowS N s)
theorem b8s (N : Nat) (p : List Bool → Bool) : cntS N 0 p = 0 := rfl
theorem cntS_succ (N S : Nat) (p : List Bool → Bool) : cntS N (S + 1) p = cntS N S p + if p (rowS N S) = true then 1 else 0 := by
 unfold cntS
 rw [List.range_succ, List.countP_append, List.countP_cons, List.countP_nil, Nat.zero_add]
theorem b3d (N : Nat) (p : List Bool → Bool) : ∀ S, cntS (N + 1) (2 * S) p = cntS N S (fun r => p (false :: r)) + cntS N S fun r => p (true :: r)
 | 0 => rfl
 | S + 1 => by
  have e : 2 * (S + 1) = 2 * S + 1 + 1 := by omega
  rw [e, cntS_succ, cntS_succ, b3d N p S, cntS_succ, cntS_succ, a9o, a9o]
  rw [show (2 * S) % 2 = 0 by omega, show (2 * S + 1) % 2 = 1 by omega, show 2 * S / 2 = S by omega, show (2 * S + 1) / 2 = S by omega]
  have d0 : decide ((0 : Nat) = 1) = false := rfl
  have d1 : decide ((1 : Nat) = 1) = true := rfl
  rw [d0, d1]
  omega
theorem cnt_S : ∀ (N : Nat) (p : List Bool → Bool), cntS N (2 ^ N) p = cnt N p
 | 0, p => by
  rw [Nat.pow_zero, cntS_succ, b8s, cnt, Nat.zero_add]; rfl
 | N + 1, p => by
  rw [Nat.pow_succ, Nat.mul_comm, b3d, cnt_S N, cnt_S N, cnt]
theorem T2 : ∀ {N : Nat} {p q : List Bool → Bool}, (∀ r, r.length = N → p r = q r) → cnt N p = cnt N q
 | 0, p, q, h => by rw [cnt, cnt, h [] rfl]
 | N + 1, p, q, h => by rw [cnt, cnt, T2 (N := N) fun r hr => h (false :: r) (by simp [hr]), T2 (N := N) fun r hr => h (true :: r) (by simp [hr])]
theorem a3x {N : Nat} {p : List Bool → Bool} (h : ∀ r, r.length = N → p r = false) : cnt N p = 0 := by
 rw [T2 (q := fun _ => false) h]
 clear h
 induction N with
 | zero => rfl
 | succ N ih => rw [cnt]; omega
theorem a4f : ∀ (N : Nat) (p q : List Bool → Bool), cnt N p = cnt N (fun r => p r && q r) + cnt N fun r => p r && !q r
 | 0, p, q => by rw [cnt, cnt, cnt]; cases p [] <;> cases q [] <;> rfl
 | N + 1, p, q => by rw [cnt, cnt, cnt, a4f N _ fun r => q (false :: r), a4f N (fun r => p (true :: r)) fun r => q (true :: r)]; omega
def ap (m n : Nat) (i k : Nat) : Nat := ((i : Int) * n - (k : Int) * m).natAbs
def most (m n : Nat) : Nat → Nat → List Bool → Nat
 | _, _, [] => 0
 | i, k, true :: r => max (ap m n (i + 1) k) (most m n (i + 1) k r)
 | i, k, false :: r => max (ap m n i (k + 1)) (most m n i (k + 1) r)
def pF (m n d : Nat) : Nat → Nat → Nat → Nat
 | 0, i, k => if m < i ∨ n < k ∨ d < ap m n i k then 0 else 1
 | L + 1, i, k => if m < i ∨ n < k ∨ d < ap m n i k then 0 else pF m n d L (i + 1) k + pF m n d L i (k + 1)
theorem b5c (m n d : Nat) : ∀ (L i k : Nat), i + k + L = m + n → i ≤ m → k ≤ n → ap m n i k ≤ d → pF m n d L i k = cnt L fun r => decide (r.count true + i = m) && decide (most m n i k r ≤ d)
 | 0, i, k, hL, hi, hk, ha => by
  rw [pF, if_neg (by omega), cnt, if_pos]
  simp [most]; omega
 | L + 1, i, k, hL, hi, hk, ha => by
  rw [pF, if_neg (by omega), cnt]
  have e0 : ∀ r : List Bool, (false :: r).count true = r.count true := fun r => by simp
  have e1 : ∀ r : List Bool, (true :: r).count true = r.count true + 1 := fun r => by simp
  have c1 : pF m n d L (i + 1) k = cnt L fun r => decide ((true :: r).count true + i = m) && decide (most m n i k (true :: r) ≤ d) := by
   by_cases h : i + 1 ≤ m ∧ ap m n (i + 1) k ≤ d
   ·rw [b5c m n d L (i + 1) k (by omega) h.1 hk h.2]
    refine T2 fun r _ => ?_
    rw [e1, most]
    have a1 : (r.count true + (i + 1) = m) = (r.count true + 1 + i = m) := propext ⟨fun _ => by omega, fun _ => by omega⟩
    have a2 : (max (ap m n (i + 1) k) (most m n (i + 1) k r) ≤ d) = (most m n (i + 1) k r ≤ d) := propext ⟨fun _ => by omega, fun _ => by omega⟩
    simp only [a1, a2]
   ·rw [a3x]
    ·cases L <;> rw [pF, if_pos (by omega)]
    ·intro r _
     rw [e1, most]
     by_cases h2 : i + 1 ≤ m
     ·have : ¬ (max (ap m n (i + 1) k) (most m n (i + 1) k r) ≤ d) := by omega
      simp [this]
     ·have : ¬ (r.count true + 1 + i = m) := by omega
      simp [this]
  have c0 : pF m n d L i (k + 1) = cnt L fun r => decide ((false :: r).count true + i = m) && decide (most m n i k (false :: r) ≤ d) := by
   by_cases h : k + 1 ≤ n ∧ ap m n i (k + 1) ≤ d
   ·rw [b5c m n d L i (k + 1) (by omega) hi h.1 h.2]
    refine T2 fun r _ => ?_
    rw [e0, most]
    have a2 : (max (ap m n i (k + 1)) (most m n i (k + 1) r) ≤ d) = (most m n i (k + 1) r ≤ d) := propext ⟨fun _ => by omega, fun _ => by omega⟩
    simp only [a2]
   ·rw [a3x]
    ·cases L <;> rw [pF, if_pos (by omega)]
    ·intro r hr
     rw [e0, most]
     by_cases h2 : k + 1 ≤ n
     ·have : ¬ (max (ap m n i (k + 1)) (most m n i (k + 1) r) ≤ d) := by omega
      simp [this]
     ·have hc := List.count_le_length (a := true) (l := r)
      have : ¬ (r.count true + i = m) := by omega
      simp [this]
  rw [c0, c1, Nat.add_comm]
theorem gap_split (m n d : Nat) : cnt (m + n) (fun r => decide (r.count true = m)) = cnt (m + n) (fun r => decide (r.count true = m) && decide (d + 1 ≤ most m n 0 0 r)) + pF m n d (m + n) 0 0 := by
 rw [b5c m n d (m + n) 0 0 (by omega) (by omega) (by omega) (by simp [ap]), a4f _ _ fun r => decide (most m n 0 0 r ≤ d), Nat.add_comm]
 congr 1
 refine T2 fun r _ => ?_
 by_cases h : most m n 0 0 r ≤ d
 ·have h2 : ¬ d + 1 ≤ most m n 0 0 r := by omega
  simp [h, h2]
 ·have h2 : d + 1 ≤ most m n 0 0 r := by omega
  simp [h, h2]
theorem most_snoc (m n : Nat) (b : Bool) : ∀ (r : List Bool) (i k : Nat), most m n i k (r ++ [b]) = max (most m n i k r) (ap m n (i + (r ++ [b]).count true) (k + (r ++ [b]).count false))
 | [], i, k => by cases b <;> simp [most]
 | true :: r, i, k => by
  rw [List.cons_append, most, most_snoc m n b r, most]
  have e1 : (true :: (r ++ [b])).count true = (r ++ [b]).count true + 1 := by simp
  have e2 : (true :: (r ++ [b])).count false = (r ++ [b]).count false := by simp
  rw [e1, e2, show i + ((r ++ [b]).count true + 1) = i + 1 + (r ++ [b]).count true by omega]
  omega
 | false :: r, i, k => by
  rw [List.cons_append, most, most_snoc m n b r, most]
  have e1 : (false :: (r ++ [b])).count true = (r ++ [b]).count true := by simp
  have e2 : (false :: (r ++ [b])).count false = (r ++ [b]).count false + 1 := by simp
  rw [e1, e2, show k + ((r ++ [b]).count false + 1) = k + 1 + (r ++ [b]).count false by omega]
  omega
def fw (m n d i k : Nat) : Nat := cnt (i + k) fun r => decide (r.count true = i) && decide (most m n 0 0 r ≤ d)
theorem cnt_tf (r : List Bool) : r.count true + r.count false = r.length := by
 induction r with
 | nil => rfl
 | cons b r ih => cases b <;> simp <;> omega
def bin : Nat → Nat → Nat
 | 0, 0 => 1
 | 0, _ + 1 => 0
 | N + 1, 0 => bin N 0
 | N + 1, k + 1 => bin N (k + 1) + bin N k
theorem cnt_bin : ∀ (N k : Nat), (cnt N fun r => decide (r.count true = k)) = bin N k
 | 0, 0 => rfl
 | 0, k + 1 => rfl
 | N + 1, 0 => by
  rw [cnt, bin, ← cnt_bin N 0, a3x (p := fun r => decide ((true :: r).count true = 0)) (fun r _ => by simp)]
  simp
 | N + 1, k + 1 => by
  rw [cnt, bin, ← cnt_bin N (k + 1), ← cnt_bin N k]
  congr 1
  simp
def chN (n : Nat) : Nat → Nat
 | 0 => 1
 | i + 1 => chN n i * (n - i) / (i + 1)
theorem chN_bin : ∀ n < 13, ∀ k < 13, k ≤ n → chN n k = bin n k := by decide +kernel
theorem chN_bd : ∀ n < 13, ∀ k < 13, chN n k ≤ 1000 ∧ 0 < chN n 0 := by decide +kernel
end Gp
end Go.Mv
end

section
namespace Go.Mv
def cl (l : List Int) (x : Int) : Nat := l.countP fun v => decide (v ≤ x)
theorem a0z (l : List Int) (x : Int) : cl l x ≤ l.length := List.countP_le_length
theorem a5q (l : List Int) (v x : Int) : cl (l ++ [v]) x = if v ≤ x then cl l x + 1 else cl l x := by
 unfold cl
 rw [List.countP_append, List.countP_cons, List.countP_nil]
 by_cases h : v ≤ x <;> simp [h]
def smp (a b : List Int) : Bool := vd a && vd b && decide (a.length + b.length ≤ 10) && decide (0 < a.length) && decide (0 < b.length)
def V5 (a b : List Int) : List Int → Nat := fun l => l.foldl (fun g x => max g (Gp.ap a.length b.length (cl a x) (cl b x))) 0
theorem a9a (a b l : List Int) (x : Int) : V5 a b (l ++ [x]) = max (V5 a b l) (Gp.ap a.length b.length (cl a x) (cl b x)) := by
 unfold V5
 rw [List.foldl_append]; rfl
theorem c6q {m n i k : Nat} (hm : m ≤ 10) (hn : n ≤ 10) (hi : i ≤ m) (hk : k ≤ n) : Gp.ap m n i k ≤ 100 := by
 have h1 : i * n ≤ 10 * 10 := Nat.mul_le_mul (by omega) hn
 have h2 : k * m ≤ 10 * 10 := Nat.mul_le_mul (by omega) hm
 have e1 : (i : Int) * (n : Int) = ((i * n : Nat) : Int) := by rw [Int.natCast_mul]
 have e2 : (k : Int) * (m : Int) = ((k * m : Nat) : Int) := by rw [Int.natCast_mul]
 unfold Gp.ap
 rw [e1, e2]
 omega
theorem b2x {α : Type} (f : α → Nat) (c : Nat) (hf : ∀ x, f x ≤ c) : ∀ (l : List α) (g : Nat), g ≤ c → l.foldl (fun g x => max g (f x)) g ≤ c
 | [], g, h => h
 | x :: l, g, h => b2x f c hf l (max g (f x)) (by have := hf x; omega)
theorem b0g (a b : List Int) (ha : a.length ≤ 10) (hb : b.length ≤ 10) (l : List Int) : V5 a b l ≤ 100 :=
 b2x _ 100 (fun x => c6q ha hb (a0z a x) (a0z b x)) l 0 (by omega)
theorem b9t (m n d : Nat) : ∀ L i k, Gp.pF m n d L i k ≤ 2 ^ L
 | 0, i, k => by unfold Gp.pF; split <;> omega
 | L + 1, i, k => by
  have h1 := b9t m n d L (i + 1) k
  have h2 := b9t m n d L i (k + 1)
  unfold Gp.pF
  split <;> omega
theorem b7f (m n d L i k : Nat) (h : L ≤ 20) : Gp.pF m n d L i k ≤ 1048576 :=
 Nat.le_trans (b9t m n d L i k) (Nat.pow_le_pow_right (by decide) h)
theorem b1g {m n d L i k : Nat} (h : m < i ∨ n < k ∨ d < Gp.ap m n i k) : Gp.pF m n d L i k = 0 := by
 cases L <;> unfold Gp.pF <;> rw [if_pos h]
theorem c4t {m n d L i k : Nat} (h1 : i = m) (h2 : k = n) (h : Gp.ap m n i k ≤ d) (hL : i + k + L = m + n) : Gp.pF m n d L i k = 1 := by
 obtain rfl : L = 0 := by omega
 unfold Gp.pF
 rw [if_neg (by omega)]
theorem c2c {m n d L i k : Nat} (h1 : i ≤ m) (h2 : k ≤ n) (h : Gp.ap m n i k ≤ d) : Gp.pF m n d (L + 1) i k = Gp.pF m n d L (i + 1) k + Gp.pF m n d L i (k + 1) := by
 rw [Gp.pF, if_neg (by omega)]
section
variable {cx : Cx} {keep : List Nat} {ops0 : Array Oper} {r : List Oper} {A : Asr} {Q : Asr → List Log → Prop} {d : Nat} {ty : Nat} {pos : String} {aft : Array Edge}
theorem c5g {a b c : Operand} {Ts : Array Nat} {k : IntKind} {x y z : Int} (ha : opd A a = some (.val (.int k x))) (hb : opd A b = some (.val (.int k y))) (hc : opd A c = some (.val (.int k z)))
  (h : XR cx keep ops0 r ((.t d, .val (.int k (max (max x y) z))) :: A) fun A' lg => Q A' ((rds a ++ (rds b ++ rds c), [.t d]) :: lg)) : XR cx keep ops0 (⟨some d, .call ⟨.builtin .max, #[a, b, c], Ts⟩, ty, pos, aft, none⟩ :: r) A Q :=
 H4 (fun o ho => by simp only [aopV, ho]) (by simp only [opV, rdOs, B6, B4 ha, B4 hb, B4 hc, C8, C6, foldA, max2, List.append_nil, List.nil_append, true_and, and_self, List.append_assoc]) (by simp [slotOk, refOkV, refsOk]) h
end
theorem c5h (m n i k g : Nat) : max (max (g : Int) ((i : Int) * n - (k : Int) * m)) (-((i : Int) * n - (k : Int) * m)) = ((max g (Gp.ap m n i k) : Nat) : Int) := by
 unfold Gp.ap
 omega
theorem b6o {n i : Nat} (h : i ≤ n) : ((Gp.chN n i : Int) * ((n : Int) - (i : Int))).tdiv ((i : Int) + 1) = ((Gp.chN n (i + 1) : Nat) : Int) := by
 rw [show ((n : Int) - (i : Int)) = ((n - i : Nat) : Int) by omega, show ((i : Int) + 1) = ((i + 1 : Nat) : Int) by omega, ← Int.natCast_mul, Gp.chN, ← Int.ofNat_tdiv]
theorem b7n {xs : List Int} {v : Int} {j : Nat} (h : j < xs.length) : (xs.take (j + 1)).count v = (xs.take j).count v + if xs.getD j default = v then 1 else 0 := by
 rw [Z5 h, List.count_append, List.count_singleton]
 by_cases e : xs.getD j default = v
 ·rw [if_pos e, if_pos (beq_iff_eq.2 e)]
 ·rw [if_neg e, if_neg (fun h2 => e (beq_iff_eq.1 h2))]
theorem c4b {xs l : List Int} {i c : Nat} (h : c = xs.count ((i : Int) - 200)) (hc : 1 < c) (x : Int) : (l ++ [x] = [] ↔ ∀ w, w < i + 1 → xs.count ((w : Int) - 200) ≤ 1) :=
 ⟨fun e => by simp at e, fun hA => by have := hA i (by omega); omega⟩
theorem c4p {xs l : List Int} {i c : Nat} (h : c = xs.count ((i : Int) - 200)) (hc : c ≤ 1) (hl : l = [] ↔ ∀ w, w < i → xs.count ((w : Int) - 200) ≤ 1) : (l = [] ↔ ∀ w, w < i + 1 → xs.count ((w : Int) - 200) ≤ 1) := by
 rw [hl]
 refine ⟨fun hA w hw => ?_, fun hA w hw => hA w (by omega)⟩
 rcases Nat.lt_succ_iff_lt_or_eq.1 hw with h1 | h1
 ·exact hA w h1
 ·subst h1; omega
theorem c3v {xs : List Int} (hv : vd xs = true) : (∀ w : Nat, w < 401 → xs.count ((w : Int) - 200) ≤ 1) ↔ xs.Nodup := by
 rw [List.nodup_iff_count]
 refine ⟨fun hA a => ?_, fun hA w _ => hA _⟩
 by_cases ha : a ∈ xs
 ·have hb : -200 ≤ a ∧ a ≤ 200 := by
   simp only [vd, Bool.and_eq_true] at hv
   obtain ⟨j, hj, rfl⟩ := V9 ha
   exact a6p.1 hv.2 j hj
  have := hA (a + 200).toNat (by omega)
  rw [show (((a + 200).toNat : Nat) : Int) - 200 = a by omega] at this
  exact this
 ·rw [List.count_eq_zero.2 ha]; omega
def NA (s : List Int) (i : Nat) : Prop := ∀ j, j + 1 < i → s.getD j default ≠ s.getD (j + 1) default
theorem b9y {s l : List Int} {i k : Nat} (h1 : i + 1 < k) (h : ∀ j, i ≤ j → j < k → s.getD j default = s.getD i default) (x : Int) : (l ++ [x] = [] ↔ NA s k) :=
 ⟨fun e => by simp at e, fun hA => absurd (h (i + 1) (by omega) h1).symm (hA i h1)⟩
theorem c4g {s l : List Int} {i : Nat} (hb : i = 0 ∨ s.getD (i - 1) default ≠ s.getD i default) (hl : l = [] ↔ NA s i) : (l = [] ↔ NA s (i + 1)) := by
 rw [hl]
 refine ⟨fun hA j hj => ?_, fun hA j hj => hA j (by omega)⟩
 rcases Nat.lt_or_ge (j + 1) i with h | h
 ·exact hA j h
 ·rcases hb with e | e
  ·omega
  ·rw [show i = j + 1 by omega, Nat.add_sub_cancel] at e; exact e
theorem c5l {xs : List Int} : NA (sortI xs) (sortI xs).length ↔ xs.Nodup := by
 rw [← (a1w xs).nodup_iff]
 constructor
 ·intro hA
  rw [List.nodup_iff_pairwise_ne, List.pairwise_iff_getElem]
  intro a b ha hb hab e
  have h1 := U3 (S9 xs) (show a ≤ a + 1 by omega) (show a + 1 < (sortI xs).length by omega)
  have h2 := U3 (S9 xs) (show a + 1 ≤ b by omega) hb
  have h3 := hA a (by omega)
  have e1 : (sortI xs).getD a default = (sortI xs)[a] := by simp [List.getD_eq_getElem?_getD, List.getElem?_eq_getElem ha]
  have e2 : (sortI xs).getD b default = (sortI xs)[b] := by simp [List.getD_eq_getElem?_getD, List.getElem?_eq_getElem hb]
  rw [e1] at h1 h3
  rw [e2] at h2
  omega
 ·intro hN j hj e
  have ha : j < (sortI xs).length := by omega
  have e1 : (sortI xs).getD j default = (sortI xs)[j] := by simp [List.getD_eq_getElem?_getD, List.getElem?_eq_getElem ha]
  have e2 : (sortI xs).getD (j + 1) default = (sortI xs)[j + 1] := by simp [List.getD_eq_getElem?_getD, List.getElem?_eq_getElem hj]
  rw [List.nodup_iff_pairwise_ne, List.pairwise_iff_getElem] at hN
  exact hN j (j + 1) ha hj (by omega) (by rw [← e1, ← e2, e])
theorem c3l (a b : List Int) {x : Int} : ∀ {l : List Int} (g : Nat), x ∈ l → Gp.ap a.length b.length (cl a x) (cl b x) ≤ l.foldl (fun g x => max g (Gp.ap a.length b.length (cl a x) (cl b x))) g := by
 have mono : ∀ (l : List Int) (g : Nat), g ≤ l.foldl (fun g x => max g (Gp.ap a.length b.length (cl a x) (cl b x))) g := by
  intro l
  induction l with
  | nil => intro g; exact Nat.le_refl _
  | cons y l ih => intro g; exact Nat.le_trans (Nat.le_max_left _ _) (ih _)
 intro l
 induction l with
 | nil => intro g h; cases h
 | cons y l ih =>
  intro g h
  rcases List.mem_cons.1 h with e | h
  ·subst e; exact Nat.le_trans (Nat.le_max_right _ _) (mono l _)
  ·exact ih _ h
theorem b9z : ∀ (l : List Int), l ≠ [] → ∃ x ∈ l, ∀ y ∈ l, x ≤ y
 | [], h => absurd rfl h
 | [x], _ => ⟨x, List.mem_cons_self, fun y hy => by rw [List.mem_singleton.1 hy]; exact Int.le_refl _⟩
 | x :: y :: l, _ => by
  obtain ⟨m, hm, h⟩ := b9z (y :: l) (by simp)
  rcases Int.le_total x m with hx | hx
  ·exact ⟨x, List.mem_cons_self, fun z hz => by rcases List.mem_cons.1 hz with e | e; (· subst e; exact Int.le_refl _); (· exact Int.le_trans hx (h z e))⟩
  ·exact ⟨m, List.mem_cons_of_mem _ hm, fun z hz => by rcases List.mem_cons.1 hz with e | e; (· subst e; exact hx); (· exact h z e)⟩
theorem c0q {l : List Int} {x : Int} (h : x ∈ l) : 0 < cl l x := List.countP_pos_iff.2 ⟨x, h, by simp⟩
theorem b6w {l : List Int} {x : Int} (h : ∀ y ∈ l, x < y) : cl l x = 0 := List.countP_eq_zero.2 fun y hy => by have := h y hy; simp; omega
theorem c0g {a b : List Int} (ha : 0 < a.length) (hb : 0 < b.length) (hn : (a ++ b).Nodup) : 0 < V5 a b (a ++ b) := by
 obtain ⟨x, hx, hmin⟩ := b9z (a ++ b) (by intro e; rw [(List.append_eq_nil_iff.1 e).1] at ha; exact absurd ha (by decide))
 refine Nat.lt_of_lt_of_le ?_ (c3l a b 0 hx)
 rw [List.nodup_append] at hn
 rcases List.mem_append.1 hx with h | h
 ·have h1 : cl b x = 0 := b6w fun y hy => by have := hmin y (List.mem_append_right _ hy); have := hn.2.2 x h y hy; omega
  have h2 := c0q h
  have h3 : 0 < cl a x * b.length := Nat.mul_pos h2 hb
  rw [h1]
  unfold Gp.ap
  rw [← Int.natCast_mul]
  omega
 ·have h1 : cl a x = 0 := b6w fun y hy => by have := hmin y (List.mem_append_left _ hy); have := hn.2.2 y hy x h; omega
  have h2 := c0q h
  have h3 : 0 < cl b x * a.length := Nat.mul_pos h2 ha
  rw [h1]
  unfold Gp.ap
  rw [← Int.natCast_mul, ← Int.natCast_mul]
  omega
def gok (a b : List Int) : Bool := smp a b && decide (a.length ≤ 6) && decide (b.length ≤ 6) && decide (a ++ b).Nodup
def b8j (a b : List Int) : Nat := Gp.cnt (a.length + b.length) fun r => decide (r.count true = a.length) && decide (V5 a b (a ++ b) ≤ Gp.most a.length b.length 0 0 r)
def b2o (a b : List Int) : Nat := Gp.chN (a.length + b.length) a.length
def gX (a b : List Int) : Int × Int := if gok a b = true then ((b8j a b : Int), (b2o a b : Int)) else (-1, -1)
theorem M0 {a b : List Int} : gok a b = true ↔ smp a b = true ∧ a.length ≤ 6 ∧ b.length ≤ 6 ∧ (a ++ b).Nodup := by
 simp [gok, and_assoc]
theorem b2p {a b : List Int} (ha : a.length ≤ 6) (hb : b.length ≤ 6) : b2o a b = Gp.cnt (a.length + b.length) fun r => decide (r.count true = a.length) := by
 unfold b2o
 rw [Gp.cnt_bin, Gp.chN_bin _ (by omega) _ (by omega) (by omega)]
theorem c3z {a b : List Int} (ha : a.length ≤ 6) (hb : b.length ≤ 6) (hg : 0 < V5 a b (a ++ b)) : b2o a b = b8j a b + Gp.pF a.length b.length (V5 a b (a ++ b) - 1) (a.length + b.length) 0 0 := by
 rw [b2p ha hb, Gp.gap_split a.length b.length (V5 a b (a ++ b) - 1), Nat.sub_add_cancel hg]
 rfl
theorem a5t {a b : List Int} : smp a b = true ↔ vd a = true ∧ vd b = true ∧ a.length + b.length ≤ 10 ∧ 0 < a.length ∧ 0 < b.length := by
 simp [smp, and_assoc]
theorem b7j {a b : List Int} (h : smp a b = true) : vd (a ++ b) = true ∧ (a ++ b).length ≤ 10 := by
 obtain ⟨h1, h2, h3, h4, h5⟩ := a5t.1 h
 simp only [vd, Bool.and_eq_true, decide_eq_true_eq] at h1 h2 ⊢
 refine ⟨⟨by rw [List.length_append]; exact h3, ?_⟩, by rw [List.length_append]; exact h3⟩
 unfold a2a at *
 rw [List.all_append, Bool.and_eq_true]
 exact ⟨h1.2, h2.2⟩
theorem a5a {a b : List Int} (h : gok a b = false) : gX a b = (-1, -1) := by unfold gX; rw [h]; rfl
theorem c1w {a b : List Int} (h : gok a b = true) : gX a b = ((b8j a b : Int), (b2o a b : Int)) := if_pos h
section
variable {cx : Cx} {keep : List Nat} {ops0 : Array Oper} {r : List Oper} {A : Asr} {Q : Asr → List Log → Prop} {d : Nat} {ty : Nat} {pos : String} {aft : Array Edge}
end
section
variable {m n d i k : Nat} {fs : List Int}
end
def a5s : List AV → Option (AV × List (List AV))
 | [.nil, .val (.int .i64 n)] => if 1 ≤ n ∧ n ≤ 1000 then some (.own 1 [], []) else none
 | _ => none
section
variable {A : Asr}
def V2 (C : Caller) (A : Asr) (vs as : List AV) (ids : List (Nat × Bool)) (ls : List Mv.Loc) : Prop :=
 wpA C A (passVars vs) fun x l => x = (as, ids) ∧ l = ls
theorem c5a {C : Caller} : V2 C A [] [] [] [] := ⟨rfl, rfl⟩
theorem b1e {C : Caller} {id g m s j : Nat} {es vs as : List AV} {ids : List (Nat × Bool)} {ls : List Mv.Loc} (ho : look A (.h id) = some (.obj g m s es)) (hm : m = 3 ∨ m = 4) (hi : H7 es = true) (h : V2 C A vs as ids ls) :
  V2 C A (.ptr id g none 0 j :: vs) (.ownp es 0 j :: as) ((id, true) :: ids) (.h id :: ls) := by
 unfold V2 at h ⊢
 simp only [passVars, B6, rdNode, N1 ho, C8, C6, hm, hi, and_true, true_and]
 refine W3 ?_ h
 rintro x l ⟨rfl, rfl⟩
 simp
theorem c3p {C : Caller} {md k : Nat} {vs as : List AV} {ids : List (Nat × Bool)} {ls : List Mv.Loc} (hmd : md = 1) (h : V2 C A vs as ids ls) : H6 C A md (.clo k vs) (.clo k as) ids [] ls := by
 subst hmd
 unfold H6 Z1
 unfold V2 at h
 simp only [if_true, show ¬ (1 = 3) by decide, if_false]
 refine A4 (E6 (W3 ?_ h))
 rintro x l ⟨rfl, rfl⟩
 exact A7 ⟨rfl, by simp, by simp⟩
end
def b1w (st : St) : Asr → Prop
 | [] => True
 | (l, v) :: r => st l = v ∧ b1w st r
theorem c2m {st : St} : b1w st [] := trivial
theorem a1k {st : St} {l : Mv.Loc} {v : AV} {r : Asr} (h : st l = v) (t : b1w st r) : b1w st ((l, v) :: r) := ⟨h, t⟩
theorem b1w.app {st : St} {A : Asr} (hA : Sat st A) : ∀ {B : Asr}, b1w st B → Sat st (B ++ A)
 | [], _ => hA
 | (l, v) :: r, h => by
  intro l' v' hl
  have ih := b1w.app hA h.2
  simp only [List.cons_append, look] at hl
  split at hl
  ·rename_i e
   cases hl
   rw [(Loc.beq_iff _ _).1 e]
   exact h.1
  ·exact ih _ _ hl
theorem b6h {cx : Cx} {f : Nat} {fn : Func} {c : Code} {as : List AV} {P : AV → List (List AV) → Prop} {keep : List Nat} (B : Asr) (hB : b1w (initLoc (cx.md f) as) B) (hx : cx.ext f = none) (hf : cx.P.funcs[f]? = some fn) (hb : fn.body = some c)
  (hc : G1 fn.ntmps c = true ∧ as.length = fn.params.size + fn.nfree ∧ as.length ≤ fn.ntmps ∧ as.length ≤ 1000 ∧ (fn.name == "runtime.NumGoroutine") = false) (hk : D8 fn = keep)
  (h : XA cx keep c (B ++ a6u (cx.md f) 0 as) (FnP cx (cx.fz f) fn.results.toList (cidAll (cx.md f) 0 as) P)) : ∃ res outs, P res outs ∧ CW cx f as = some (res, outs) := by
 subst hk
 obtain ⟨n, r, st', h1, A', h2, h3⟩ := h _ (hB.app (a6n hc.2.2.2.1))
 have key : (∃ res outs, P res outs ∧ RetA cx (cx.fz f) fn.results.toList (cidAll (cx.md f) 0 as) A' res outs) → (∀ i, r ≠ .exit i) → ∃ res outs, P res outs ∧ CW cx f as = some (res, outs) := by
  rintro ⟨res, outs, hP, hR⟩ hr
  refine ⟨res, outs, hP, a2o cx (n := n) ?_⟩
  obtain ⟨us, ws, ls, k1, k2, rfl⟩ := hR _ h2
  unfold S0
  simp only [hx, hf, hb]
  rw [if_pos hc, h1]
  cases r with
  | exit i => exact (hr i rfl).elim
  | normal => simp only [k1, k2]
  | ret => simp only [k1, k2]
 cases r with
 | exit i => exact h3.elim
 | normal => exact key h3 (fun _ h => by cases h)
 | ret => exact key h3 (fun _ h => by cases h)
theorem G5 {A : Asr} {cid m s : Nat} {o : List AV} {r : List Cid} {os : List (List AV)} (h : look A (.h cid) = some (.obj 1 m s o)) (hi : H7 o = true) (t : U2 A r os) : U2 A ((cid, m, s) :: r) (o :: os) := ⟨h, hi, t⟩
theorem b1b {cs : List AV} {y : Bool} : O6 cs [bV y] = true := by cases cs <;> simp [O6, E9]
theorem b1t (ys : List Bool) : ∀ es, nilFit es (ys.map bV) = true := by
 induction ys with
 | nil => intro es; cases es <;> rfl
 | cons y ys ih =>
  intro es
  cases es with
  | nil => simp only [List.map_cons, nilFit, leaves, Bool.and_eq_true]; exact ⟨rfl, ih []⟩
  | cons e es => simp only [List.map_cons, nilFit, Bool.and_eq_true, leaves]; exact ⟨b1b, ih es⟩
theorem a0b (g x : Nat) : max (g : Int) (x : Int) = ((max g x : Nat) : Int) := by omega
theorem c3g (S i : Nat) : decide (((S / 2 ^ i % 2 : Nat) : Int) = 1) = S.testBit i := by
 rw [Nat.testBit_eq_decide_div_mod_eq]
 exact decide_eq_decide.2 (by omega)
theorem c2e (S i : Nat) : (((S / 2 ^ i % 2 : Nat) : Int) == 1) = S.testBit i := by
 rw [← c3g]
 by_cases h : ((S / 2 ^ i % 2 : Nat) : Int) = 1
 ·rw [h]; rfl
 ·rw [decide_eq_false h]; exact beq_eq_false_iff_ne.2 h
def Cst (m n : Nat) (r : List Bool) (j i k g : Nat) : Prop := i = (r.take j).count true ∧ k = (r.take j).count false ∧ g = Gp.most m n 0 0 (r.take j)
theorem c0x {m n : Nat} {r : List Bool} : Cst m n r 0 0 0 0 := ⟨rfl, rfl, rfl⟩
theorem c3r {m n j i k g : Nat} {r : List Bool} (h : Cst m n r j i k g) (hj : j ≤ r.length) : i + k = j := by
 rw [h.1, h.2.1, Gp.cnt_tf, List.length_take]; omega
theorem c1h {m n j i k g : Nat} {r : List Bool} (b : Bool) (hj : j < r.length) (e : r.getD j default = b) (h : Cst m n r j i k g) :
  Cst m n r (j + 1) (i + b.toNat) (k + (!b).toNat) (max g (Gp.ap m n (i + b.toNat) (k + (!b).toNat))) := by
 obtain ⟨h1, h2, h3⟩ := h
 have et : r.take (j + 1) = r.take j ++ [b] := by rw [Z5 hj, e]
 have c1 : (r.take (j + 1)).count true = i + b.toNat := by rw [et, List.count_append, ← h1]; cases b <;> rfl
 have c2 : (r.take (j + 1)).count false = k + (!b).toNat := by rw [et, List.count_append, ← h2]; cases b <;> rfl
 refine ⟨c1.symm, c2.symm, ?_⟩
 rw [et, Gp.most_snoc, ← et, c1, c2, ← h3, Nat.zero_add, Nat.zero_add]
theorem b7q {m n j i k g : Nat} {r : List Bool} (h : Cst m n r j i k g) (hj : j = r.length) : g = Gp.most m n 0 0 r := by
 rw [h.2.2, hj, List.take_length]
def isP (m : Nat) (r : List Bool) : Bool := decide (r.count true = m)
def isQ (a b : List Int) (r : List Bool) : Bool := decide (r.count true = a.length) && decide (V5 a b (a ++ b) ≤ Gp.most a.length b.length 0 0 r)
def up1 (a b : List Int) (r : List Bool) (y : Nat) : Nat := if V5 a b (a ++ b) ≤ Gp.most a.length b.length 0 0 r then y + 1 else y
def Sst (a b : List Int) (N S x y : Nat) : Prop := x = Gp.cntS N S (isP a.length) ∧ y = Gp.cntS N S (isQ a b)
theorem c1m {a b : List Int} {N : Nat} : Sst a b N 0 0 0 := ⟨rfl, rfl⟩
theorem b7t (N S : Nat) (p : List Bool → Bool) : Gp.cntS N S p ≤ S := by
 unfold Gp.cntS
 exact Nat.le_trans List.countP_le_length (by simp)
theorem c4q {a b : List Int} {N S x y : Nat} (h : Sst a b N S x y) : x ≤ S ∧ y ≤ S := by rw [h.1, h.2]; exact ⟨b7t .., b7t ..⟩
theorem c2r {a b : List Int} {N S x y : Nat} (hc : (Gp.rowS N S).count true = a.length) (h : Sst a b N S x y) : Sst a b N (S + 1) (x + 1) (up1 a b (Gp.rowS N S) y) := by
 refine ⟨?_, ?_⟩
 ·rw [Gp.cntS_succ, ← h.1, if_pos (by unfold isP; exact decide_eq_true hc)]
 ·rw [Gp.cntS_succ, ← h.2]
  unfold up1 isQ
  rw [decide_eq_true hc, Bool.true_and]
  by_cases hg : V5 a b (a ++ b) ≤ Gp.most a.length b.length 0 0 (Gp.rowS N S)
  ·rw [if_pos hg, if_pos (decide_eq_true hg)]
  ·rw [if_neg hg, if_neg (by simp [hg])]; rfl
theorem c5t {a b : List Int} {N S x y : Nat} (hc : ¬ (Gp.rowS N S).count true = a.length) (h : Sst a b N S x y) : Sst a b N (S + 1) x y := by
 refine ⟨?_, ?_⟩
 ·rw [Gp.cntS_succ, ← h.1, if_neg (by unfold isP; simp [hc])]; rfl
 ·rw [Gp.cntS_succ, ← h.2, if_neg (by unfold isQ; simp [hc])]; rfl
theorem c3d {a b : List Int} {N S x y : Nat} (ha : a.length ≤ 6) (hb : b.length ≤ 6) (hN : N = a.length + b.length) (hS : S = 2 ^ N) (h : Sst a b N S x y) : x = b2o a b ∧ y = b8j a b := by
 obtain ⟨h1, h2⟩ := h
 subst hN hS
 rw [Gp.cnt_S] at h1 h2
 refine ⟨?_, ?_⟩
 ·rw [h1, b2p ha hb]; rfl
 ·rw [h2]; rfl
def Rst (N S i c : Nat) (ys : List Bool) : Prop := ys.length = N ∧ (∀ j, j < i → ys.getD j default = S.testBit j) ∧ c = (Gp.rowS i S).count true
theorem c0a {N S : Nat} : Rst N S 0 0 (List.replicate N false) := ⟨by simp, fun j hj => absurd hj (Nat.not_lt_zero _), rfl⟩
theorem b8m (i S : Nat) : Gp.rowS (i + 1) S = Gp.rowS i S ++ [S.testBit i] := by
 unfold Gp.rowS
 rw [List.range_succ, List.map_append]; rfl
theorem b9w {N S i c : Nat} {ys : List Bool} (b : Bool) (hi : i < N) (e : S.testBit i = b) (h : Rst N S i c ys) : Rst N S (i + 1) (c + b.toNat) (ys.set i (S.testBit i)) := by
 obtain ⟨h1, h2, h3⟩ := h
 refine ⟨by rw [List.length_set, h1], fun j hj => ?_, ?_⟩
 ·rw [I1 _ _ _ _ (by omega)]
  split
  ·rename_i e; rw [e]
  ·exact h2 j (by omega)
 ·rw [b8m, List.count_append, ← h3, e]
  cases b <;> rfl
theorem c5c {N S i c : Nat} {ys : List Bool} (h : Rst N S i c ys) : c ≤ i := by
 rw [h.2.2]
 refine Nat.le_trans List.count_le_length ?_
 simp [Gp.rowS]
theorem c3e {N S i c : Nat} {ys : List Bool} (hi : i = N) (h : Rst N S i c ys) : ys = Gp.rowS N S ∧ c = (Gp.rowS N S).count true := by
 obtain ⟨h1, h2, h3⟩ := h
 subst hi
 refine ⟨?_, h3⟩
 refine List.ext_getElem (by rw [h1, Gp.rowS_len]) fun j hj hj2 => ?_
 have := h2 j (by omega)
 rw [List.getD_eq_getElem?_getD, List.getElem?_eq_getElem hj] at this
 simp only [Option.getD_some] at this
 rw [this]
 simp [Gp.rowS]
theorem c0i {ys : List Bool} {i : Nat} {x : Bool} (h : i < ys.length) : (ys.set i x).getD i default = x := by rw [I1 _ _ _ _ h, if_pos rfl]
end Go.Mv
end
