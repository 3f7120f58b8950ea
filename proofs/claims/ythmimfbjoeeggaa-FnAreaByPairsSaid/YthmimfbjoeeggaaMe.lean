/- The abstract machine, part 5 of 5: it runs the model's code on abstract values and is proved sound over any program. Conditions: none. -/
import Derived.Test.YthmimfbjoeeggaaMd

set_option linter.unusedVariables false
set_option linter.unusedSimpArgs false
section
/- Slopes of points. -/
namespace Go.Mv
open Go

/-- the places are valid -/
def vpS (xs ys : List Int) : Bool := decide (xs.length = ys.length) && decide (xs.length ≤ 7) && allB (-12) 12 xs && allB (-12) 12 ys
/-- not all the same -/
def wd (xs : List Int) : Bool := xs.any fun x => x != xs.getD 0 default
def vc (xs ys : List Int) : Bool := vpS xs ys && wd xs
theorem vpS_iff {xs ys : List Int} : vpS xs ys = true ↔ xs.length = ys.length ∧ xs.length ≤ 7 ∧ allB (-12) 12 xs = true ∧ allB (-12) 12 ys = true := by
  simp [vpS, and_assoc]
theorem vc_iff {xs ys : List Int} : vc xs ys = true ↔ xs.length = ys.length ∧ xs.length ≤ 7 ∧ allB (-12) 12 xs = true ∧ allB (-12) 12 ys = true ∧ wd xs = true := by
  simp [vc, vpS, and_assoc]
theorem wd_iff {xs : List Int} : wd xs = true ↔ ∃ i, i < xs.length ∧ xs.getD i default ≠ xs.getD 0 default := by
  unfold wd
  rw [List.any_eq_true]
  constructor
  · rintro ⟨x, hx, h⟩
    obtain ⟨i, hi, rfl⟩ := mem_getD hx
    exact ⟨i, hi, by simpa using h⟩
  · rintro ⟨i, hi, h⟩
    exact ⟨_, getD_mem hi, by simpa using h⟩
theorem wd_f {xs : List Int} (h : ∀ i, i < xs.length → xs.getD i default = xs.getD 0 default) : wd xs = false := by
  cases e : wd xs
  · rfl
  · obtain ⟨i, hi, h2⟩ := wd_iff.1 e
    exact absurd (h i hi) h2
theorem wd_t {xs : List Int} {i : Nat} (hi : i < xs.length) (h : xs.getD i default ≠ xs.getD 0 default) : wd xs = true := wd_iff.2 ⟨i, hi, h⟩
theorem wd_minmax {xs : List Int} {a b : Int} (ha : a ∈ xs) (ha2 : ∀ x ∈ xs, a ≤ x) (hb : b ∈ xs) (hb2 : ∀ x ∈ xs, x ≤ b) : decide (a < b) = wd xs := by
  cases e : wd xs
  · rw [decide_eq_false_iff_not]
    intro h
    have key : ∀ x ∈ xs, x = xs.getD 0 default := fun x hx => Classical.byContradiction fun h => by
      obtain ⟨i, hi, rfl⟩ := mem_getD hx
      rw [wd_t hi h] at e; cases e
    rw [key a ha, key b hb] at h
    omega
  · rw [decide_eq_true_eq]
    obtain ⟨i, hi, h⟩ := wd_iff.1 e
    have h1 := ha2 _ (getD_mem hi)
    have h2 := hb2 _ (getD_mem hi)
    have h3 := ha2 _ (getD_mem (xs := xs) (i := 0) (by omega))
    have h4 := hb2 _ (getD_mem (xs := xs) (i := 0) (by omega))
    omega
theorem wd_one {xs : List Int} (h : wd xs = true) : 2 ≤ xs.length := by
  obtain ⟨i, hi, h2⟩ := wd_iff.1 h
  by_cases h0 : i = 0
  · subst h0; exact absurd rfl h2
  · omega
theorem vpS_good {xs ys : List Int} (h : ∀ j, j < xs.length → j < ys.length ∧ (-12 ≤ xs.getD j default ∧ xs.getD j default ≤ 12) ∧ (-12 ≤ ys.getD j default ∧ ys.getD j default ≤ 12)) :
    vpS xs ys = (decide ((xs.length : Int) = (ys.length : Int)) && decide ((xs.length : Int) ≤ 7)) := by
  by_cases hl : xs.length = ys.length
  · have h1 : allB (-12) 12 xs = true := allB_iff.2 fun j hj => (h j hj).2.1
    have h2 : allB (-12) 12 ys = true := allB_iff.2 fun j hj => (h j (by omega)).2.2
    simp only [vpS, h1, h2, Bool.and_true]
    congr 1 <;> rw [decide_eq_decide] <;> omega
  · simp only [vpS, hl, decide_false, Bool.false_and]
    rw [decide_eq_false (show ¬ ((xs.length : Int) = (ys.length : Int)) by omega), Bool.false_and]
theorem vpS_bad {xs ys : List Int} {j : Nat} (hj : j < xs.length) (h : ¬ (j < ys.length ∧ (-12 ≤ xs.getD j default ∧ xs.getD j default ≤ 12) ∧ (-12 ≤ ys.getD j default ∧ ys.getD j default ≤ 12))) : vpS xs ys = false := by
  cases e : vpS xs ys
  · rfl
  · obtain ⟨h1, _, h2, h3⟩ := vpS_iff.1 e
    exact absurd ⟨by omega, allB_iff.1 h2 j hj, allB_iff.1 h3 j (by omega)⟩ h

theorem pl_f {xs ys : List Int} (h : ¬ (xs.length = ys.length ∧ xs.length ≤ 7 ∧ 1 ≤ xs.length)) : (vpS xs ys && decide (1 ≤ xs.length)) = false := by
  cases e : (vpS xs ys && decide (1 ≤ xs.length))
  · rfl
  · rw [Bool.and_eq_true, decide_eq_true_eq] at e
    have := vpS_iff.1 e.1
    exact absurd ⟨this.1, this.2.1, e.2⟩ h
theorem pl_t {xs ys : List Int} (h1 : xs.length = ys.length) (h2 : xs.length ≤ 7) (h3 : 1 ≤ xs.length) : (vpS xs ys && decide (1 ≤ xs.length)) = (allB (-12) 12 xs && allB (-12) 12 ys) := by
  simp only [vpS, decide_eq_true h1, decide_eq_true h2, decide_eq_true h3, Bool.true_and, Bool.and_true]
theorem wd_nil {xs : List Int} (h : ¬ 1 ≤ xs.length) : wd xs = false := by
  have h0 : xs = [] := List.length_eq_zero_iff.1 (by omega)
  subst h0; rfl

/-! ### the slopes -/
def slq (xs ys : List Int) (i k : Nat) : Rat := Rat.divInt (ys.getD i default - ys.getD k default) (xs.getD i default - xs.getD k default)
/-- those of one point with those ahead of it -/
def slV (xs ys : List Int) (i : Nat) : Nat → List Rat
  | 0 => []
  | k + 1 => if xs.getD i default = xs.getD k default then slV xs ys i k else slV xs ys i k ++ [slq xs ys i k]
def slU (xs ys : List Int) : Nat → List Rat
  | 0 => []
  | i + 1 => slU xs ys i ++ slV xs ys i i
def slA (xs ys : List Int) : List Rat := slU xs ys xs.length
def slR (xs ys : List Int) : List Rat := if vc xs ys = true then sortQ (slA xs ys) else []
theorem slV_ne {xs ys : List Int} {i k : Nat} (h : xs.getD i default ≠ xs.getD k default) : slV xs ys i (k + 1) = slV xs ys i k ++ [slq xs ys i k] := by rw [slV, if_neg h]
theorem slV_eq {xs ys : List Int} {i k : Nat} (h : xs.getD i default = xs.getD k default) : slV xs ys i (k + 1) = slV xs ys i k := by rw [slV, if_pos h]
theorem slV_len (xs ys : List Int) (i : Nat) : ∀ k, (slV xs ys i k).length ≤ k
  | 0 => Nat.le_refl _
  | k + 1 => by
    have := slV_len xs ys i k
    rw [slV]; split
    · omega
    · rw [List.length_append]; simp only [List.length_singleton]; omega
theorem slU_len (xs ys : List Int) : ∀ i, (slU xs ys i).length ≤ i * i
  | 0 => Nat.le_refl _
  | i + 1 => by
    have h1 := slU_len xs ys i
    have h2 := slV_len xs ys i i
    rw [slU, List.length_append, Nat.succ_mul, Nat.mul_succ]; omega
theorem Sm.mono {a b : Int} {q : Rat} (h : Sm a q) (hab : a ≤ b) : Sm b q := by obtain ⟨h1, h2, h3⟩ := h; exact ⟨by omega, by omega, by omega⟩
theorem Sm.add {a b : Int} {p q : Rat} (hp : Sm a p) (hq : Sm b q) : Sm (2 * (a * b)) (p + q) := by
  obtain ⟨p1, p2, p3⟩ := hp
  obtain ⟨q1, q2, q3⟩ := hq
  have dp := den_posI p
  have dq := den_posI q
  have m1 := mulB (x := p.num) (y := (q.den : Int)) ⟨p1, p2⟩ ⟨by omega, q3⟩
  have m2 := mulB (x := q.num) (y := (p.den : Int)) ⟨q1, q2⟩ ⟨by omega, p3⟩
  have m3 := mulB (x := (p.den : Int)) (y := (q.den : Int)) ⟨by omega, p3⟩ ⟨by omega, q3⟩
  have e := Int.mul_comm b a
  rw [add_fr]
  exact Sm.fr (den_mul_ne p q) ⟨by omega, by omega⟩ ⟨by omega, by omega⟩
theorem Sm.neg {a : Int} {p : Rat} (hp : Sm a p) : Sm a (-p) := by
  obtain ⟨p1, p2, p3⟩ := hp
  exact ⟨by rw [(neg_num p).1]; omega, by rw [(neg_num p).1]; omega, p3⟩
theorem Sm.sub {a b : Int} {p q : Rat} (hp : Sm a p) (hq : Sm b q) : Sm (2 * (a * b)) (p - q) := by rw [Rat.sub_eq_add_neg]; exact hp.add hq.neg
theorem Sm.mul {a b : Int} {p q : Rat} (hp : Sm a p) (hq : Sm b q) : Sm (a * b) (p * q) := by
  obtain ⟨p1, p2, p3⟩ := hp
  obtain ⟨q1, q2, q3⟩ := hq
  have dp := den_posI p
  have dq := den_posI q
  have m3 := mulB (x := (p.den : Int)) (y := (q.den : Int)) ⟨by omega, p3⟩ ⟨by omega, q3⟩
  have m4 := mulB (x := p.num) (y := q.num) ⟨p1, p2⟩ ⟨q1, q2⟩
  rw [mul_fr]
  exact Sm.fr (den_mul_ne p q) m4 m3
theorem Sm_i {n b : Int} (h : -b ≤ n ∧ n ≤ b) (hb : 1 ≤ b) : Sm b (n : Rat) := ⟨h.1, h.2, hb⟩
theorem Sm_half : Sm 2 (1 / 2 : Rat) := by refine ⟨?_, ?_, ?_⟩ <;> decide +kernel
theorem getD_bd {xs : List Int} {lo hi : Int} (h : allB lo hi xs = true) (hl : lo ≤ 0 ∧ 0 ≤ hi) (i : Nat) : lo ≤ xs.getD i default ∧ xs.getD i default ≤ hi := by
  rcases Nat.lt_or_ge i xs.length with h1 | h1
  · exact allB_iff.1 h i h1
  · rw [List.getD_eq_getElem?_getD, List.getElem?_eq_none h1]; exact hl
theorem slq_sm {xs ys : List Int} (hx : allB (-12) 12 xs = true) (hy : allB (-12) 12 ys = true) {i k : Nat} (h : xs.getD i default ≠ xs.getD k default) : Sm 24 (slq xs ys i k) := by
  have h1 := getD_bd hx (by decide) i
  have h2 := getD_bd hx (by decide) k
  have h3 := getD_bd hy (by decide) i
  have h4 := getD_bd hy (by decide) k
  exact Sm.fr (by omega) ⟨by omega, by omega⟩ ⟨by omega, by omega⟩
theorem slV_sm {xs ys : List Int} (hx : allB (-12) 12 xs = true) (hy : allB (-12) 12 ys = true) (i : Nat) : ∀ k, ∀ q ∈ slV xs ys i k, Sm 24 q
  | 0, q, h => by simp [slV] at h
  | k + 1, q, h => by
    by_cases e : xs.getD i default = xs.getD k default
    · rw [slV_eq e] at h; exact slV_sm hx hy i k q h
    · rw [slV_ne e] at h
      rcases List.mem_append.1 h with h | h
      · exact slV_sm hx hy i k q h
      · rw [List.mem_singleton.1 h]; exact slq_sm hx hy e
theorem slU_sm {xs ys : List Int} (hx : allB (-12) 12 xs = true) (hy : allB (-12) 12 ys = true) : ∀ i, ∀ q ∈ slU xs ys i, Sm 24 q
  | 0, q, h => by simp [slU] at h
  | i + 1, q, h => by
    rw [slU] at h
    rcases List.mem_append.1 h with h | h
    · exact slU_sm hx hy i q h
    · exact slV_sm hx hy i i q h
theorem slA_len {xs ys : List Int} (h : xs.length ≤ 7) : (slA xs ys).length ≤ 49 := by
  have := slU_len xs ys xs.length
  have h2 := Nat.mul_le_mul h h
  unfold slA; omega
theorem slR_len {xs ys : List Int} : (slR xs ys).length ≤ 49 := by
  unfold slR
  split
  · rename_i h
    rw [sortQ_length]; exact slA_len (vc_iff.1 h).2.1
  · simp
/-- there is a slope -/
theorem slV_in {xs ys : List Int} {i : Nat} : ∀ {k j : Nat}, j < k → xs.getD i default ≠ xs.getD j default → slq xs ys i j ∈ slV xs ys i k
  | 0, j, h, _ => by omega
  | k + 1, j, h, hne => by
    rcases Nat.lt_or_ge j k with h1 | h1
    · have := slV_in (ys := ys) h1 hne
      rw [slV]; split
      · exact this
      · exact List.mem_append_left _ this
    · obtain rfl : j = k := by omega
      rw [slV_ne hne]; simp
theorem slU_in {xs ys : List Int} : ∀ {n i j : Nat}, i < n → j < i → xs.getD i default ≠ xs.getD j default → slq xs ys i j ∈ slU xs ys n
  | 0, i, j, h, _, _ => by omega
  | n + 1, i, j, h, hj, hne => by
    rw [slU]
    rcases Nat.lt_or_ge i n with h1 | h1
    · exact List.mem_append_left _ (slU_in h1 hj hne)
    · obtain rfl : i = n := by omega
      exact List.mem_append_right _ (slV_in hj hne)
theorem slA_pos {xs ys : List Int} (h : wd xs = true) : 0 < (slA xs ys).length := by
  obtain ⟨i, hi, hne⟩ := wd_iff.1 h
  have h0 : i ≠ 0 := fun e => by subst e; exact hne rfl
  exact List.length_pos_of_mem (slU_in (ys := ys) hi (show 0 < i by omega) hne)
/-- the middle one -/
def mdR (l : List Rat) : Rat := (l.getD ((l.length - 1) / 2) default + l.getD (l.length / 2) default) * (1 / 2 : Rat)
def mdP (xs ys : List Int) : Int × Int := if vc xs ys = true then ((mdR (sortQ (slA xs ys))).num, ((mdR (sortQ (slA xs ys))).den : Int)) else (0, 0)
theorem half_pred {n : Nat} (h : 1 ≤ n) : ((n : Int) - 1).tdiv 2 = (((n - 1) / 2 : Nat) : Int) := by
  rw [show (n : Int) - 1 = ((n - 1 : Nat) : Int) by omega]; rfl
theorem sortQ_sm {b : Int} {l : List Rat} (h : ∀ q ∈ l, Sm b q) : ∀ q ∈ sortQ l, Sm b q := fun q hq => h q ((sortQ_perm l).mem_iff.1 hq)
end Go.Mv
end

section
/- Slopes: points the other way round, other signs. -/
namespace Go.Mv
open Go

/-! ### a table's lower half, the other way round -/
def tri {α : Type} (f : Nat → Nat → List α) (n : Nat) : List α := (List.range n).flatMap fun i => (List.range i).flatMap (f i)
theorem tri_succ {α : Type} (f : Nat → Nat → List α) (n : Nat) : tri f (n + 1) = tri f n ++ (List.range n).flatMap (f n) := by
  unfold tri; rw [List.range_succ, List.flatMap_append]; simp
theorem row_succ {α : Type} (g : Nat → List α) (n : Nat) : (List.range (n + 1)).flatMap g = g 0 ++ (List.range n).flatMap fun k => g (k + 1) := by
  rw [List.range_succ_eq_map, List.flatMap_cons, List.flatMap_map]
theorem tri_shift {α : Type} (f : Nat → Nat → List α) : ∀ n, (tri f (n + 1)).Perm (tri (fun i k => f (i + 1) (k + 1)) n ++ (List.range n).flatMap fun i => f (i + 1) 0)
  | 0 => by simp [tri]
  | n + 1 => by
    have ih := tri_shift f n
    rw [tri_succ f (n + 1), tri_succ (fun i k => f (i + 1) (k + 1)) n, row_succ (f (n + 1)) n, show ((List.range (n + 1)).flatMap fun i => f (i + 1) 0) = ((List.range n).flatMap fun i => f (i + 1) 0) ++ f (n + 1) 0 by rw [List.range_succ, List.flatMap_append]; simp]
    refine (ih.append_right _).trans ?_
    generalize tri (fun i k => f (i + 1) (k + 1)) n = A
    generalize ((List.range n).flatMap fun i => f (i + 1) 0) = B
    generalize f (n + 1) 0 = C
    generalize ((List.range n).flatMap fun k => f (n + 1) (k + 1)) = D
    rw [List.append_assoc, List.append_assoc]
    refine List.Perm.append_left A ?_
    have h1 : (B ++ (C ++ D)).Perm (B ++ (D ++ C)) := List.Perm.append_left B List.perm_append_comm
    refine h1.trans ?_
    rw [← List.append_assoc, ← List.append_assoc]
    exact List.Perm.append_right C List.perm_append_comm
theorem row_rev {α : Type} (g : Nat → List α) (n : Nat) : ((List.range n).flatMap fun k => g (n - 1 - k)).Perm ((List.range n).flatMap g) := by
  induction n with
  | zero => exact .refl _
  | succ n ih =>
    rw [row_succ (fun k => g (n + 1 - 1 - k)) n, List.range_succ, List.flatMap_append]
    simp only [List.flatMap_cons, List.flatMap_nil, List.append_nil, Nat.sub_zero, Nat.add_sub_cancel]
    have e : ((List.range n).flatMap fun k => g (n - (k + 1))) = (List.range n).flatMap fun k => g (n - 1 - k) := by
      congr 1; funext k; congr 1; omega
    rw [e]
    exact List.perm_append_comm.trans (List.Perm.append_right _ ih)
theorem flatMap_congr' {α β : Type} {l : List α} {f g : α → List β} (h : ∀ a ∈ l, f a = g a) : l.flatMap f = l.flatMap g := by
  induction l with
  | nil => rfl
  | cons a l ih => rw [List.flatMap_cons, List.flatMap_cons, h a (by simp), ih fun b hb => h b (by simp [hb])]
theorem tri_congr {α : Type} {f g : Nat → Nat → List α} {n : Nat} (h : ∀ i k, i < n → k < i → f i k = g i k) : tri f n = tri g n := by
  unfold tri
  refine flatMap_congr' fun i hi => flatMap_congr' fun k hk => h i k (List.mem_range.1 hi) (List.mem_range.1 hk)
theorem tri_rev {α : Type} : ∀ (n : Nat) (f : Nat → Nat → List α), (∀ i k, f i k = f k i) → (tri (fun i k => f (n - 1 - i) (n - 1 - k)) n).Perm (tri f n)
  | 0, f, _ => .refl _
  | n + 1, f, hs => by
    rw [tri_succ _ n]
    have e1 : tri (fun i k => f (n + 1 - 1 - i) (n + 1 - 1 - k)) n = tri (fun i k => f (n - 1 - i + 1) (n - 1 - k + 1)) n := by
      refine tri_congr fun i k hi hk => ?_
      rw [show n + 1 - 1 - i = n - 1 - i + 1 by omega, show n + 1 - 1 - k = n - 1 - k + 1 by omega]
    have ih := tri_rev n (fun i k => f (i + 1) (k + 1)) fun i k => hs _ _
    have e2 : ((List.range n).flatMap fun k => f (n + 1 - 1 - n) (n + 1 - 1 - k)) = (List.range n).flatMap fun k => f (n - 1 - k + 1) 0 := by
      refine flatMap_congr' fun k hk => ?_
      have := List.mem_range.1 hk
      rw [hs, show n + 1 - 1 - k = n - 1 - k + 1 by omega, show n + 1 - 1 - n = 0 by omega]
    rw [e1, e2]
    exact ((ih.append (row_rev (fun k => f (k + 1) 0) n))).trans (tri_shift f n).symm

/-! ### slopes -/
def sl1 (xs ys : List Int) (i k : Nat) : List Rat := if xs.getD i default = xs.getD k default then [] else [slq xs ys i k]
theorem slV_fm (xs ys : List Int) (i : Nat) : ∀ k, slV xs ys i k = (List.range k).flatMap (sl1 xs ys i)
  | 0 => rfl
  | k + 1 => by
    rw [slV, List.range_succ, List.flatMap_append, ← slV_fm xs ys i k]
    simp only [List.flatMap_cons, List.flatMap_nil, List.append_nil, sl1]
    split <;> simp
theorem slU_tri (xs ys : List Int) : ∀ n, slU xs ys n = tri (sl1 xs ys) n
  | 0 => rfl
  | n + 1 => by rw [slU, tri_succ, slU_tri xs ys n, slV_fm]
theorem sl1_sym (xs ys : List Int) (i k : Nat) : sl1 xs ys i k = sl1 xs ys k i := by
  unfold sl1 slq
  by_cases h : xs.getD i default = xs.getD k default
  · rw [if_pos h, if_pos h.symm]
  · rw [if_neg h, if_neg (fun e => h e.symm), ← Rat.neg_divInt_neg, Int.neg_sub, Int.neg_sub]
theorem getD_reverse {l : List Int} {i : Nat} (h : i < l.length) : l.reverse.getD i default = l.getD (l.length - 1 - i) default := by
  rw [List.getD_eq_getElem?_getD, List.getD_eq_getElem?_getD, List.getElem?_reverse h]
theorem slA_rev {xs ys : List Int} (hl : xs.length = ys.length) : (slA xs.reverse ys.reverse).Perm (slA xs ys) := by
  unfold slA
  rw [slU_tri, slU_tri, List.length_reverse]
  have e : tri (sl1 xs.reverse ys.reverse) xs.length = tri (fun i k => sl1 xs ys (xs.length - 1 - i) (xs.length - 1 - k)) xs.length := by
    refine tri_congr fun i k hi hk => ?_
    unfold sl1 slq
    rw [getD_reverse hi, getD_reverse (l := xs) (i := k) (by omega), getD_reverse (l := ys) (by omega), getD_reverse (l := ys) (i := k) (by omega), ← hl]
  rw [e]
  exact tri_rev xs.length (sl1 xs ys) (sl1_sym xs ys)
theorem allB_reverse (lo hi : Int) (l : List Int) : allB lo hi l.reverse = allB lo hi l := by unfold allB; rw [List.all_reverse]
theorem wd_rev' {xs : List Int} (h : wd xs = true) : wd xs.reverse = true := by
  obtain ⟨i, hi, hne⟩ := wd_iff.1 h
  by_cases e : xs.reverse.getD 0 default = xs.getD 0 default
  · refine wd_t (i := xs.length - 1 - i) (by simp; omega) ?_
    rw [e, getD_reverse (by omega), show xs.length - 1 - (xs.length - 1 - i) = i by omega]
    exact hne
  · refine wd_t (i := xs.length - 1) (by simp; omega) ?_
    rw [getD_reverse (by omega), show xs.length - 1 - (xs.length - 1) = 0 by omega]
    exact fun h => e h.symm
theorem wd_rev (xs : List Int) : wd xs.reverse = wd xs := by
  cases e : wd xs
  · cases e2 : wd xs.reverse
    · rfl
    · have := wd_rev' e2; rw [List.reverse_reverse, e] at this; cases this
  · exact wd_rev' e
theorem vc_rev (xs ys : List Int) : vc xs.reverse ys.reverse = vc xs ys := by
  simp only [vc, vpS, wd_rev, allB_reverse, List.length_reverse]
theorem slR_rev (xs ys : List Int) : slR xs.reverse ys.reverse = slR xs ys := by
  unfold slR
  rw [vc_rev]
  split
  · rename_i h
    exact sortQ_perm_eq (slA_rev (vc_iff.1 h).1)
  · rfl
theorem slR_sorted (xs ys : List Int) : (slR xs ys).Pairwise (· ≤ ·) := by
  unfold slR; split
  · exact sortQ_sorted _
  · exact .nil
theorem slR_sm (xs ys : List Int) : ∀ q ∈ slR xs ys, Sm 24 q := by
  unfold slR; split
  · rename_i h
    have := vc_iff.1 h
    exact sortQ_sm (slU_sm this.2.2.1 this.2.2.2.1 _)
  · intro q hq; simp at hq
/-- the other signs -/
def ngI (l : List Int) : List Int := l.map fun x => -x
theorem ngI_getD (l : List Int) (i : Nat) : (ngI l).getD i default = -(l.getD i default) := by
  unfold ngI
  rw [List.getD_eq_getElem?_getD, List.getD_eq_getElem?_getD, List.getElem?_map]
  cases l[i]? <;> rfl
@[simp] theorem ngI_length (l : List Int) : (ngI l).length = l.length := by simp [ngI]
theorem slq_neg (xs ys : List Int) (i k : Nat) : slq xs (ngI ys) i k = -(slq xs ys i k) := by
  unfold slq
  rw [ngI_getD, ngI_getD, Rat.neg_divInt]
  congr 1; omega
theorem slV_neg (xs ys : List Int) (i : Nat) : ∀ k, slV xs (ngI ys) i k = (slV xs ys i k).map fun q => -q
  | 0 => rfl
  | k + 1 => by
    rw [slV, slV, slV_neg xs ys i k, slq_neg]
    split <;> simp
theorem slU_neg (xs ys : List Int) : ∀ n, slU xs (ngI ys) n = (slU xs ys n).map fun q => -q
  | 0 => rfl
  | n + 1 => by rw [slU, slU, slU_neg xs ys n, slV_neg, List.map_append]
theorem sortQ_neg (l : List Rat) : sortQ (l.map fun q => -q) = ((sortQ l).map fun q => -q).reverse := by
  refine (sortQ_of ?_ ?_).symm
  · exact (List.reverse_perm _).trans ((sortQ_perm l).map _)
  · rw [List.pairwise_reverse, List.pairwise_map]
    exact (sortQ_sorted l).imp fun h => Rat.neg_le_neg h
theorem getD_mapQ {l : List Rat} {f : Rat → Rat} (hf : f 0 = 0) (i : Nat) : (l.map f).getD i default = f (l.getD i default) := by
  rw [List.getD_eq_getElem?_getD, List.getD_eq_getElem?_getD, List.getElem?_map]
  cases l[i]? with
  | none => exact hf.symm
  | some x => rfl
theorem mdR_neg {s : List Rat} (h : 0 < s.length) : mdR ((s.map fun q => -q).reverse) = -(mdR s) := by
  unfold mdR
  have e : ∀ i, i < s.length → ((s.map fun q => -q).reverse).getD i default = -(s.getD (s.length - 1 - i) default) := by
    intro i hi
    rw [List.getD_eq_getElem?_getD, List.getElem?_reverse (by simpa using hi), List.length_map, ← List.getD_eq_getElem?_getD, getD_mapQ (by decide +kernel)]
  rw [List.length_reverse, List.length_map, e _ (by omega), e _ (by omega)]
  rw [show s.length - 1 - (s.length - 1) / 2 = s.length / 2 by omega, show s.length - 1 - s.length / 2 = (s.length - 1) / 2 by omega]
  grind
theorem mdR_between {s : List Rat} (hs : s.Pairwise (· ≤ ·)) (h : 0 < s.length) : s.getD 0 default ≤ mdR s ∧ mdR s ≤ s.getD (s.length - 1) default := by
  have h1 := sortedQ_getD hs (show 0 ≤ (s.length - 1) / 2 by omega) (by omega)
  have h2 := sortedQ_getD hs (show 0 ≤ s.length / 2 by omega) (by omega)
  have h3 := sortedQ_getD hs (show (s.length - 1) / 2 ≤ s.length - 1 by omega) (by omega)
  have h4 := sortedQ_getD hs (show s.length / 2 ≤ s.length - 1 by omega) (by omega)
  unfold mdR
  grind
theorem allB_neg {l : List Int} (h : allB (-12) 12 l = true) : allB (-12) 12 (ngI l) = true := by
  rw [allB_iff] at *
  intro j hj
  rw [ngI_getD]
  have := h j (by simpa using hj)
  omega
theorem vc_neg {xs ys : List Int} (h : vc xs ys = true) : vc xs (ngI ys) = true := by
  obtain ⟨h1, h2, h3, h4, h5⟩ := vc_iff.1 h
  exact vc_iff.2 ⟨by simpa using h1, h2, h3, allB_neg h4, h5⟩
theorem mdP_neg {xs ys : List Int} (h : vc xs ys = true) : F_Frac (mdP xs (ngI ys)) = qV (-(mdR (sortQ (slA xs ys)))) := by
  have h0 := slA_pos (ys := ys) (vc_iff.1 h).2.2.2.2
  rw [mdP, if_pos (vc_neg h)]
  have e : slA xs (ngI ys) = (slA xs ys).map fun q => -q := slU_neg xs ys _
  rw [e, sortQ_neg, mdR_neg (by simpa using h0)]
end Go.Mv
end

section
/- Corners: how many numbers with each mark are at least each edge. -/
namespace Go.Mv
open Go

theorem compactI_sortedD {xs : List Int} (h : xs.Pairwise (fun a b => b ≤ a)) : (compactI xs).Pairwise (fun a b => b < a) := by
  induction xs using list_snoc with
  | h0 => simp
  | hs xs x ih =>
    rw [List.pairwise_append] at h
    have ih := ih h.1
    rw [compactI_snoc]
    split
    · exact ih
    · rename_i hne
      rw [List.pairwise_append]
      refine ⟨ih, List.pairwise_singleton _ _, fun y hy z hz => ?_⟩
      rw [List.mem_singleton] at hz
      subst hz
      have hle := h.2.2 y (mem_compactI.1 hy) z (List.mem_singleton_self _)
      rcases Int.lt_or_eq_of_le hle with h1 | rfl
      · exact h1
      · exfalso
        apply hne
        cases hl : (compactI xs).getLast? with
        | none => rw [List.getLast?_eq_none_iff] at hl; rw [hl] at hy; cases hy
        | some u =>
          have hu : u ∈ compactI xs := List.mem_of_getLast? hl
          have h2 := h.2.2 u (mem_compactI.1 hu) z (List.mem_singleton_self _)
          obtain ⟨ys, hys⟩ : ∃ ys, compactI xs = ys ++ [u] := by
            rw [List.getLast?_eq_some_iff] at hl
            exact hl
          rw [hys] at hy ih
          rcases List.mem_append.1 hy with h3 | h3
          · have := (List.pairwise_append.1 ih).2.2 z h3 u (List.mem_singleton_self _)
            omega
          · rw [List.mem_singleton] at h3; rw [h3]
theorem compactI_reverse {xs : List Int} (h : xs.Pairwise (· ≤ ·)) : compactI xs.reverse = (compactI xs).reverse := by
  have h1 : (compactI xs.reverse).Pairwise (fun a b => b < a) := compactI_sortedD (by rw [List.pairwise_reverse]; exact h)
  have h2 : ((compactI xs).reverse).Pairwise (fun a b => b < a) := by rw [List.pairwise_reverse]; exact compactI_sorted h
  have n1 : (compactI xs.reverse).Nodup := h1.imp fun h e => by omega
  have n2 : ((compactI xs).reverse).Nodup := h2.imp fun h e => by omega
  refine List.Perm.eq_of_pairwise (le := fun a b => b ≤ a) (fun a b _ _ h1 h2 => by omega) (h1.imp fun h => by omega) (h2.imp fun h => by omega) ?_
  refine (List.perm_ext_iff_of_nodup n1 n2).2 fun y => ?_
  rw [mem_compactI, List.mem_reverse, List.mem_reverse, mem_compactI]

/-- of the first i numbers: those with the mark m that are at least e -/
def cnU (xs ms : List Int) (e m : Int) : Nat → Nat
  | 0 => 0
  | i + 1 => cnU xs ms e m i + if e ≤ xs.getD i default ∧ ms.getD i default = m then 1 else 0
def cn (xs ms : List Int) (m e : Int) : Nat := cnU xs ms e m xs.length
theorem cnU_le (xs ms : List Int) (e m : Int) : ∀ i, cnU xs ms e m i ≤ i
  | 0 => Nat.le_refl _
  | i + 1 => by have := cnU_le xs ms e m i; simp only [cnU]; split <;> omega
theorem cn_le (xs ms : List Int) (m e : Int) : cn xs ms m e ≤ xs.length := cnU_le _ _ _ _ _
def cnI (xs ms : List Int) (m e : Int) : Int := (cn xs ms m e : Int)
theorem cnI_bd (xs ms : List Int) (m e : Int) : 0 ≤ cnI xs ms m e ∧ cnI xs ms m e ≤ xs.length := by
  have := cn_le xs ms m e; unfold cnI; omega
theorem cn_above {xs ms : List Int} {m e : Int} (h : ∀ x ∈ xs, x < e) : cn xs ms m e = 0 := by
  have key : ∀ i, i ≤ xs.length → cnU xs ms e m i = 0 := by
    intro i
    induction i with
    | zero => intro _; rfl
    | succ i ih =>
      intro hi
      have := h _ (getD_mem (show i < xs.length by omega))
      rw [cnU, ih (by omega), if_neg (by omega)]
  exact key _ (Nat.le_refl _)
def corR (xs ms : List Int) (m : Int) : List Int := 0 :: (compactI (sortI xs)).reverse.map (cnI xs ms m)
theorem corR_length (xs ms : List Int) (m : Int) : (corR xs ms m).length = (compactI (sortI xs)).length + 1 := by simp [corR]
theorem corR_len_le (xs ms : List Int) (m : Int) : (corR xs ms m).length ≤ xs.length + 1 := by
  have h1 := compactI_length_le (sortI xs)
  rw [sortI_length] at h1
  rw [corR_length]; omega
def edgesI (xs : List Int) (mx : Int) : List Int := compactI (sortI xs) ++ [mx + 1]
theorem edges_cor {xs ms : List Int} {mx : Int} (hm : ∀ x ∈ xs, x ≤ mx) (m : Int) : (bItems (edgesI xs mx)).map (fun y => cnI xs ms m y.2) = corR xs ms m := by
  have : (bItems (edgesI xs mx)).map (fun y => cnI xs ms m y.2) = ((bItems (edgesI xs mx)).map (·.2)).map (cnI xs ms m) := by rw [List.map_map]; rfl
  rw [this, bItems_snd, edgesI, List.reverse_append, List.reverse_singleton, List.singleton_append, List.map_cons, corR]
  congr 1
  rw [cnI, cn_above fun x hx => by have := hm x hx; omega]
  rfl
/-- the values at place k and behind it, the greatest one first -/
def dsc (s : List Int) (k : Nat) : List Int := compactI (s.drop k).reverse
theorem dsc_len (s : List Int) : dsc s s.length = [] := by simp [dsc]
theorem dsc_skip {s : List Int} {k : Nat} (h : k + 1 < s.length) (he : s.getD k default = s.getD (k + 1) default) : dsc s k = dsc s (k + 1) := by
  unfold dsc
  rw [List.drop_eq_getElem_cons (show k < s.length by omega), List.reverse_cons, compactI_snoc, compactI_last, if_pos]
  rw [List.getLast?_reverse, List.head?_drop, List.getElem?_eq_getElem h]
  rw [List.getD_eq_getElem?_getD, List.getD_eq_getElem?_getD, List.getElem?_eq_getElem (show k < s.length by omega), List.getElem?_eq_getElem h] at he
  exact congrArg some he.symm
theorem dsc_take {s : List Int} {k : Nat} (h : k < s.length) (he : ¬ (k + 1 < s.length ∧ s.getD k default = s.getD (k + 1) default)) : dsc s k = dsc s (k + 1) ++ [s.getD k default] := by
  have hg : s.getD k default = s[k] := by rw [List.getD_eq_getElem?_getD, List.getElem?_eq_getElem h]; rfl
  unfold dsc
  rw [List.drop_eq_getElem_cons h, List.reverse_cons, compactI_snoc, compactI_last, if_neg, hg]
  rw [List.getLast?_reverse, List.head?_drop]
  intro e
  apply he
  have h1 : k + 1 < s.length := by
    rcases Nat.lt_or_ge (k + 1) s.length with h1 | h1
    · exact h1
    · rw [List.getElem?_eq_none h1] at e; cases e
  refine ⟨h1, ?_⟩
  rw [List.getElem?_eq_getElem h1] at e
  rw [hg, List.getD_eq_getElem?_getD, List.getElem?_eq_getElem h1]
  exact (Option.some.inj e).symm
theorem dsc_zero {xs : List Int} : dsc (sortI xs) 0 = (compactI (sortI xs)).reverse := by
  unfold dsc
  rw [List.drop_zero, compactI_reverse (sortI_sorted xs)]
theorem dsc_length_le (s : List Int) (k : Nat) : (dsc s k).length ≤ s.length := by
  have := compactI_length_le (s.drop k).reverse
  simp only [List.length_reverse, List.length_drop] at this
  unfold dsc; omega
def vd (xs : List Int) : Bool := decide (xs.length ≤ 10) && allB (-200) 200 xs
def vca (xs ms : List Int) : Bool := decide (1 ≤ xs.length) && vd xs && decide (ms.length = xs.length) && allB 0 1 ms
theorem vd_len {xs : List Int} (h : vd xs = true) : xs.length ≤ 10 := by
  simp only [vd, Bool.and_eq_true, decide_eq_true_eq] at h; exact h.1
theorem vca_iff {xs ms : List Int} : vca xs ms = true ↔ 1 ≤ xs.length ∧ xs.length ≤ 10 ∧ allB (-200) 200 xs = true ∧ ms.length = xs.length ∧ allB 0 1 ms = true := by
  simp only [vca, vd, Bool.and_eq_true, decide_eq_true_eq]
  constructor
  · rintro ⟨⟨⟨h1, h2, h3⟩, h4⟩, h5⟩; exact ⟨h1, h2, h3, h4, h5⟩
  · rintro ⟨h1, h2, h3, h4, h5⟩; exact ⟨⟨⟨h1, h2, h3⟩, h4⟩, h5⟩
theorem allB_of {lo hi : Int} {xs : List Int} (h : ∀ i, i < xs.length → lo ≤ xs.getD i default ∧ xs.getD i default ≤ hi) : allB lo hi xs = true := allB_iff.2 h
theorem allB_not {lo hi : Int} {xs : List Int} {i : Nat} (hi' : i < xs.length) (h : ¬ (lo ≤ xs.getD i default ∧ xs.getD i default ≤ hi)) : allB lo hi xs = false := by
  rw [Bool.eq_false_iff]
  exact fun h2 => h (allB_iff.1 h2 i hi')
def coR (xs ms : List Int) (m : Int) : List Int := if vca xs ms = true then corR xs ms m else []
theorem coR_len (xs ms : List Int) (m : Int) : (coR xs ms m).length ≤ 11 := by
  unfold coR
  split
  · rename_i h
    have := (vca_iff.1 h).2.1
    have := corR_len_le xs ms m
    omega
  · simp

def cn2 (xs ms : List Int) (e : Int) (i : Nat) : List Int := [(cnU xs ms e 0 i : Int), (cnU xs ms e 1 i : Int)]
theorem cn2_f {xs ms c : List Int} {e : Int} {i : Nat} (h : c = cn2 xs ms e i) (hn : ¬ e ≤ xs.getD i default) : c = cn2 xs ms e (i + 1) := by
  subst h
  unfold cn2
  rw [cnU, cnU, if_neg fun h => hn h.1, if_neg fun h => hn h.1]
  rfl
theorem cn2_t {xs ms c : List Int} {e : Int} {i : Nat} (h : c = cn2 xs ms e i) (he : e ≤ xs.getD i default) (hm : 0 ≤ ms.getD i default ∧ ms.getD i default ≤ 1) :
    c.set (ms.getD i default).toNat (c.getD (ms.getD i default).toNat 0 + 1) = cn2 xs ms e (i + 1) := by
  subst h
  unfold cn2
  rcases (show ms.getD i default = 0 ∨ ms.getD i default = 1 by omega) with h | h
  · rw [cnU, cnU, if_pos ⟨he, h⟩, if_neg (by omega), h]; rfl
  · rw [cnU, cnU, if_neg (by omega), if_pos ⟨he, h⟩, h]; rfl
theorem cn2_bd {xs ms c : List Int} {e : Int} {i : Nat} (h : c = cn2 xs ms e i) (k : Nat) : 0 ≤ c.getD k 0 ∧ c.getD k 0 ≤ i := by
  subst h
  have h1 := cnU_le xs ms e 0 i
  have h2 := cnU_le xs ms e 1 i
  match k with
  | 0 => show 0 ≤ (cnU xs ms e 0 i : Int) ∧ (cnU xs ms e 0 i : Int) ≤ i; omega
  | 1 => show 0 ≤ (cnU xs ms e 1 i : Int) ∧ (cnU xs ms e 1 i : Int) ≤ i; omega
  | k + 2 => show (0 : Int) ≤ 0 ∧ (0 : Int) ≤ i; omega
theorem cn2_len {xs ms c : List Int} {e : Int} {i : Nat} (h : c = cn2 xs ms e i) : c.length = 2 := by subst h; rfl
theorem cn2_get0 {xs ms c : List Int} {e : Int} (h : c = cn2 xs ms e xs.length) : c.getD 0 0 = cnI xs ms 0 e := by subst h; rfl
theorem cn2_get1 {xs ms c : List Int} {e : Int} (h : c = cn2 xs ms e xs.length) : c.getD 1 0 = cnI xs ms 1 e := by subst h; rfl
theorem corU_take {s zs : List Int} {k : Nat} {a : Int} {f : Int → Int} (hz : zs = 0 :: (dsc s (k + 1)).map f) (ha : a = f (s.getD k default)) (h : k < s.length) (he : ¬ (k + 1 < s.length ∧ s.getD k default = s.getD (k + 1) default)) : zs ++ [a] = 0 :: (dsc s k).map f := by
  rw [hz, ha, dsc_take h he, List.map_append]; rfl
theorem cnR_step {xs ms : List Int} {e m a : Int} {i : Nat} (h : a = cnU xs ms e m i) (hc : e ≤ xs.getD i default ∧ ms.getD i default = m) : a + 1 = cnU xs ms e m (i + 1) := by
  rw [cnU, if_pos hc, h]; rfl
theorem cnR_stay {xs ms : List Int} {e m a : Int} {i : Nat} (h : a = cnU xs ms e m i) (hc : ¬ (e ≤ xs.getD i default ∧ ms.getD i default = m)) : a = cnU xs ms e m (i + 1) := by
  rw [cnU, if_neg hc, h]; rfl
end Go.Mv
end

section
/- Wrong marks, found by corners. -/
namespace Go.Mv
open Go
section
variable {cx : Cx} {keep : List Nat} {ops0 : Array Oper} {r : List Oper} {A : Asr} {Q : Asr → List Log → Prop} {d : Nat} {ty : Nat} {pos : String} {aft : Array Edge}
theorem x_min3 {a b c : Operand} {Ts : Array Nat} {k : IntKind} {x y z : Int} (ha : opd A a = some (.val (.int k x))) (hb : opd A b = some (.val (.int k y))) (hc : opd A c = some (.val (.int k z)))
    (h : XR cx keep ops0 r ((.t d, .val (.int k (min (min x y) z))) :: A) fun A' lg => Q A' ((rds a ++ (rds b ++ rds c), [.t d]) :: lg)) : XR cx keep ops0 (⟨some d, .call ⟨.builtin .min, #[a, b, c], Ts⟩, ty, pos, aft, none⟩ :: r) A Q :=
  x_val (fun o ho => by simp only [aopV, ho]) (by simp only [opV, rdOs, wpA_bind, wpA_rdO ha, wpA_rdO hb, wpA_rdO hc, wpA_need, wpA_ret, foldA, min2, List.append_nil, List.nil_append, true_and, and_self, List.append_assoc]) (by simp [slotOk, refOkV, refsOk]) h
end
theorem sum_take_succ {xs : List Int} {i : Nat} (h : i < xs.length) : (xs.take (i + 1)).sum = (xs.take i).sum + xs.getD i default := by
  rw [take_succ_getD h, List.sum_append]; simp
theorem sum01_bd {ms : List Int} (hm : allB 0 1 ms = true) : ∀ i, i ≤ ms.length → 0 ≤ (ms.take i).sum ∧ (ms.take i).sum ≤ i := by
  intro i
  induction i with
  | zero => intro _; simp
  | succ i ih =>
    intro hi
    have h1 := ih (by omega)
    have h2 := allB_iff.1 hm i (by omega)
    rw [sum_take_succ (by omega)]
    omega
theorem sum01 {ms : List Int} (hm : allB 0 1 ms = true) : 0 ≤ ms.sum ∧ ms.sum ≤ ms.length := by
  have := sum01_bd hm ms.length (Nat.le_refl _)
  rwa [List.take_length] at this
theorem cnU_all1 {xs ms : List Int} {e : Int} (hm : allB 0 1 ms = true) (hl : ms.length = xs.length) (he : ∀ x ∈ xs, e ≤ x) : ∀ i, i ≤ xs.length → (cnU xs ms e 1 i : Int) = (ms.take i).sum := by
  intro i
  induction i with
  | zero => intro _; rfl
  | succ i ih =>
    intro hi
    have h1 := ih (by omega)
    have h2 := allB_iff.1 hm i (by omega)
    have h3 := he _ (getD_mem (show i < xs.length by omega))
    rw [sum_take_succ (by omega), ← h1, cnU]
    split <;> omega
theorem cnU_all0 {xs ms : List Int} {e : Int} (hm : allB 0 1 ms = true) (hl : ms.length = xs.length) (he : ∀ x ∈ xs, e ≤ x) : ∀ i, i ≤ xs.length → (cnU xs ms e 0 i : Int) = i - (ms.take i).sum := by
  intro i
  induction i with
  | zero => intro _; rfl
  | succ i ih =>
    intro hi
    have h1 := ih (by omega)
    have h2 := allB_iff.1 hm i (by omega)
    have h3 := he _ (getD_mem (show i < xs.length by omega))
    rw [sum_take_succ (by omega), cnU]
    split <;> omega
theorem compactI_head (xs : List Int) : (compactI xs).head? = xs.head? := by
  induction xs using list_snoc with
  | h0 => rfl
  | hs xs x ih =>
    rw [compactI_snoc]
    split
    · rename_i h
      rw [ih, List.head?_append]
      cases hx : xs with
      | nil => rw [hx] at h; simp at h
      | cons => rfl
    · rw [List.head?_append, List.head?_append, ih]
theorem corR_last {xs ms : List Int} {m : Int} (h : 1 ≤ xs.length) : ∃ e, (∀ x ∈ xs, e ≤ x) ∧ (corR xs ms m).getD ((corR xs ms m).length - 1) default = cnI xs ms m e := by
  have hp := sortI_perm xs
  cases hs : sortI xs with
  | nil => have := sortI_length xs; rw [hs] at this; simp at this; omega
  | cons a s =>
    refine ⟨a, fun x hx => ?_, ?_⟩
    · have hx' : x ∈ sortI xs := hp.mem_iff.2 hx
      have hsd := sortI_sorted xs
      rw [hs] at hx' hsd
      rcases List.mem_cons.1 hx' with rfl | h
      · exact Int.le_refl _
      · exact (List.pairwise_cons.1 hsd).1 x h
    · have hh := compactI_head (sortI xs)
      rw [hs, List.head?_cons] at hh
      cases hc : compactI (a :: s) with
      | nil => rw [hc] at hh; cases hh
      | cons b t =>
        rw [hc] at hh
        cases hh
        unfold corR
        rw [hs, hc, List.reverse_cons, List.map_append, List.map_singleton]
        rw [List.getD_eq_getElem?_getD, ← List.cons_append, List.length_append, List.length_singleton, Nat.add_sub_cancel, List.getElem?_append_right (Nat.le_refl _), Nat.sub_self]
        rfl
theorem corR_last1 {xs ms : List Int} (h : 1 ≤ xs.length) (hm : allB 0 1 ms = true) (hl : ms.length = xs.length) : (corR xs ms 1).getD ((corR xs ms 1).length - 1) default = ms.sum := by
  obtain ⟨e, h1, h2⟩ := corR_last (ms := ms) (m := 1) h
  rw [h2, cnI, cn, cnU_all1 hm hl h1 _ (Nat.le_refl _), ← hl, List.take_length]
theorem corR_last0 {xs ms : List Int} (h : 1 ≤ xs.length) (hm : allB 0 1 ms = true) (hl : ms.length = xs.length) : (corR xs ms 0).getD ((corR xs ms 0).length - 1) default = xs.length - ms.sum := by
  obtain ⟨e, h1, h2⟩ := corR_last (ms := ms) (m := 0) h
  rw [h2, cnI, cn, cnU_all0 hm hl h1 _ (Nat.le_refl _), ← hl, List.take_length]
theorem corR_bd (xs ms : List Int) (m : Int) (i : Nat) : 0 ≤ (corR xs ms m).getD i default ∧ (corR xs ms m).getD i default ≤ xs.length := by
  rcases Nat.lt_or_ge i (corR xs ms m).length with h | h
  · have := getD_mem h
    unfold corR at this
    rcases List.mem_cons.1 this with h1 | h1
    · unfold corR; rw [h1]; omega
    · obtain ⟨e, _, he⟩ := List.mem_map.1 h1
      unfold corR; rw [← he]; exact cnI_bd xs ms m e
  · rw [List.getD_eq_getElem?_getD, List.getElem?_eq_none h]
    show (0 : Int) ≤ 0 ∧ (0 : Int) ≤ _
    omega
/-- wrong marks by the corner i -/
def wAt (xs ms : List Int) (i : Nat) : Int := (corR xs ms 0).getD i default + ms.sum - (corR xs ms 1).getD i default
def wbU (xs ms : List Int) : Nat → Int
  | 0 => xs.length
  | i + 1 => min (min (wbU xs ms i) ((corR xs ms 0).getD i default + ms.sum - (corR xs ms 1).getD i default)) (xs.length - ((corR xs ms 0).getD i default + ms.sum - (corR xs ms 1).getD i default))
def wbR (xs ms : List Int) : Int := if vca xs ms = true then wbU xs ms (corR xs ms 0).length else -1
theorem corR_lens (xs ms : List Int) : (corR xs ms 1).length = (corR xs ms 0).length := by rw [corR_length, corR_length]
end Go.Mv
end

section
/- The area below the corners. -/
namespace Go.Mv
open Go
theorem mem1_iff {ms : List Int} (hm : allB 0 1 ms = true) : 1 ∈ ms ↔ 1 ≤ ms.sum := by
  induction ms with
  | nil => simp
  | cons x ms ih =>
    have hx := allB_mem hm (List.mem_cons_self ..)
    have hr : allB 0 1 ms = true := by unfold allB at *; rw [List.all_cons, Bool.and_eq_true] at hm; exact hm.2
    have h := ih hr
    have hb := sum01 hr
    rw [List.mem_cons, List.sum_cons, h]
    constructor
    · rintro (h1 | h1) <;> omega
    · intro h1
      by_cases e : x = 1
      · exact .inl e.symm
      · exact .inr (by omega)
theorem mem0_iff {ms : List Int} (hm : allB 0 1 ms = true) : 0 ∈ ms ↔ 1 ≤ (ms.length : Int) - ms.sum := by
  induction ms with
  | nil => simp
  | cons x ms ih =>
    have hx := allB_mem hm (List.mem_cons_self ..)
    have hr : allB 0 1 ms = true := by unfold allB at *; rw [List.all_cons, Bool.and_eq_true] at hm; exact hm.2
    have h := ih hr
    have hb := sum01 hr
    rw [List.mem_cons, List.sum_cons, h, List.length_cons]
    constructor
    · rintro (h1 | h1) <;> omega
    · intro h1
      by_cases e : x = 0
      · exact .inl e.symm
      · exact .inr (by omega)
/-- there are both marks -/
def bmk (xs ms : List Int) : Bool := vca xs ms && decide ((0 : Int) ∈ ms) && decide ((1 : Int) ∈ ms)
theorem bmk_iff {xs ms : List Int} : bmk xs ms = true ↔ vca xs ms = true ∧ (0 : Int) ∈ ms ∧ (1 : Int) ∈ ms := by
  simp [bmk, and_assoc]
def arU (xs ms : List Int) : Nat → Int
  | 0 => 0
  | k + 1 => arU xs ms k + ((corR xs ms 0).getD (k + 1) default - (corR xs ms 0).getD k default) * ((corR xs ms 1).getD (k + 1) default + (corR xs ms 1).getD k default)
theorem mulBd {x y : Int} (hx : -10 ≤ x ∧ x ≤ 10) (hy : 0 ≤ y ∧ y ≤ 20) : -200 ≤ x * y ∧ x * y ≤ 200 := by
  have h1 : 0 ≤ (x + 10) * y := Int.mul_nonneg (by omega) hy.1
  have h2 : 0 ≤ (10 - x) * y := Int.mul_nonneg (by omega) hy.1
  rw [Int.add_mul] at h1
  rw [Int.sub_mul] at h2
  omega
theorem ar_step {xs : List Int} (ms : List Int) (hl : xs.length ≤ 10) (k : Nat) :
    -200 ≤ ((corR xs ms 0).getD (k + 1) default - (corR xs ms 0).getD k default) * ((corR xs ms 1).getD (k + 1) default + (corR xs ms 1).getD k default) ∧
      ((corR xs ms 0).getD (k + 1) default - (corR xs ms 0).getD k default) * ((corR xs ms 1).getD (k + 1) default + (corR xs ms 1).getD k default) ≤ 200 := by
  have h1 := corR_bd xs ms 0 (k + 1)
  have h2 := corR_bd xs ms 0 k
  have h3 := corR_bd xs ms 1 (k + 1)
  have h4 := corR_bd xs ms 1 k
  exact mulBd (by omega) (by omega)
theorem arU_bd {xs : List Int} (ms : List Int) (hl : xs.length ≤ 10) : ∀ k : Nat, -(200 * (k : Int)) ≤ arU xs ms k ∧ arU xs ms k ≤ 200 * (k : Int)
  | 0 => by simp [arU]
  | k + 1 => by
    have h1 := arU_bd ms hl k
    have h2 := ar_step ms hl k
    rw [arU]
    omega
def arQ (xs ms : List Int) : Rat := Rat.divInt (arU xs ms ((corR xs ms 0).length - 1)) (2 * ((xs.length : Int) - ms.sum) * ms.sum)
def arP (xs ms : List Int) : Int × Int := if bmk xs ms = true then ((arQ xs ms).num, ((arQ xs ms).den : Int)) else (0, 0)
theorem den_bd {n s : Int} (h1 : 1 ≤ n - s) (h2 : 1 ≤ s) (h3 : n ≤ 10) : 1 ≤ 2 * (n - s) * s ∧ 2 * (n - s) * s ≤ 200 := by
  have h : 1 * 1 ≤ (n - s) * s := Int.mul_le_mul h1 h2 (by decide) (by omega)
  have h4 : (n - s) * s ≤ 10 * 10 := Int.mul_le_mul (by omega) (by omega) (by omega) (by decide)
  have h5 : 2 * (n - s) * s = 2 * ((n - s) * s) := Int.mul_assoc ..
  omega
end Go.Mv
end

section
/- The area below the corners is the number of wins, twice. -/
namespace Go.Mv
open Go
/-- a sum over the first i numbers with their marks -/
def sU (xs ms : List Int) (f : Int → Int → Int) : Nat → Int
  | 0 => 0
  | i + 1 => sU xs ms f i + f (xs.getD i default) (ms.getD i default)
section
variable {xs ms : List Int}
theorem sU_congr {f g : Int → Int → Int} {n : Nat} (h : ∀ i, i < n → f (xs.getD i default) (ms.getD i default) = g (xs.getD i default) (ms.getD i default)) : sU xs ms f n = sU xs ms g n := by
  induction n with
  | zero => rfl
  | succ n ih => rw [sU, sU, ih fun i hi => h i (by omega), h n (by omega)]
theorem sU_add (f g : Int → Int → Int) (n : Nat) : sU xs ms (fun x m => f x m + g x m) n = sU xs ms f n + sU xs ms g n := by
  induction n with
  | zero => rfl
  | succ n ih => rw [sU, sU, sU, ih]; omega
theorem sU_sub (f g : Int → Int → Int) (n : Nat) : sU xs ms (fun x m => f x m - g x m) n = sU xs ms f n - sU xs ms g n := by
  induction n with
  | zero => rfl
  | succ n ih => rw [sU, sU, sU, ih]; omega
theorem sU_mul (f : Int → Int → Int) (c : Int) (n : Nat) : sU xs ms f n * c = sU xs ms (fun x m => f x m * c) n := by
  induction n with
  | zero => simp [sU]
  | succ n ih => rw [sU, sU, Int.add_mul, ih]
theorem sU_zero (n : Nat) : sU xs ms (fun _ _ => 0) n = 0 := by
  induction n with
  | zero => rfl
  | succ n ih => rw [sU, ih]; rfl
/-- sums may be exchanged -/
theorem sU_swap (f : Int → Int → Int → Int → Int) (n k : Nat) : sU xs ms (fun x m => sU xs ms (fun y l => f x m y l) k) n = sU xs ms (fun y l => sU xs ms (fun x m => f x m y l) n) k := by
  induction n with
  | zero => simp only [sU]; rw [sU_zero]
  | succ n ih =>
    simp only [sU]
    rw [ih, ← sU_add]
theorem cnU_sU (e m : Int) : ∀ i, (cnU xs ms e m i : Int) = sU xs ms (fun x k => if e ≤ x ∧ k = m then 1 else 0) i
  | 0 => rfl
  | i + 1 => by
    have := cnU_sU e m i
    rw [cnU, sU, ← this]
    split <;> omega
theorem cnI_sU (e m : Int) : cnI xs ms m e = sU xs ms (fun x k => if e ≤ x ∧ k = m then 1 else 0) xs.length := cnU_sU e m _
end
def sgI (x : Int) : Int := if 0 < x then 1 else if x < 0 then -1 else 0
/-- the values, the greatest one first -/
def vsD (xs : List Int) : List Int := (compactI (sortI xs)).reverse
theorem vsD_desc (xs : List Int) : (vsD xs).Pairwise (fun a b => b < a) := by
  unfold vsD
  rw [List.pairwise_reverse]
  exact compactI_sorted (sortI_sorted xs)
theorem mem_vsD {xs : List Int} {x : Int} : x ∈ vsD xs ↔ x ∈ xs := by
  unfold vsD
  rw [List.mem_reverse, mem_compactI, (sortI_perm xs).mem_iff]
theorem corR_vsD (xs ms : List Int) (m : Int) : corR xs ms m = 0 :: (vsD xs).map (cnI xs ms m) := rfl
theorem vsD_gt {xs : List Int} {i j : Nat} (hi : i < (vsD xs).length) (hj : j < (vsD xs).length) (h : i < j) : (vsD xs)[j] < (vsD xs)[i] := (List.pairwise_iff_getElem.1 (vsD_desc xs)) i j hi hj h
theorem corR_succ {xs : List Int} (ms : List Int) (m : Int) {k : Nat} (hk : k < (vsD xs).length) : (corR xs ms m).getD (k + 1) default = sU xs ms (fun x l => if (vsD xs)[k] ≤ x ∧ l = m then 1 else 0) xs.length := by
  rw [corR_vsD, List.getD_cons_succ, List.getD_eq_getElem?_getD, List.getElem?_map, List.getElem?_eq_getElem hk]
  exact cnI_sU _ _
theorem corR_here {xs : List Int} (ms : List Int) (m : Int) {k : Nat} (hk : k < (vsD xs).length) : (corR xs ms m).getD k default = sU xs ms (fun x l => if (vsD xs)[k] < x ∧ l = m then 1 else 0) xs.length := by
  have hx : ∀ i, i < xs.length → ∃ j, ∃ h : j < (vsD xs).length, (vsD xs)[j] = xs.getD i default := fun i hi => List.mem_iff_getElem.1 (mem_vsD.2 (getD_mem hi))
  cases k with
  | zero =>
    rw [corR_vsD, List.getD_cons_zero]
    refine ((sU_congr (g := fun _ _ => 0) fun i hi => ?_).trans (sU_zero _)).symm
    obtain ⟨j, hj, e⟩ := hx i hi
    rw [if_neg]
    rintro ⟨h, _⟩
    rw [← e] at h
    rcases Nat.eq_zero_or_pos j with rfl | hp
    · omega
    · have := vsD_gt hk hj hp; omega
  | succ k =>
    rw [corR_succ ms m (show k < (vsD xs).length by omega)]
    refine sU_congr fun i hi => ?_
    obtain ⟨j, hj, e⟩ := hx i hi
    have h1 := vsD_gt (show k < (vsD xs).length by omega) hk (Nat.lt_succ_self k)
    have h2 : (vsD xs)[k] ≤ xs.getD i default ↔ (vsD xs)[k + 1] < xs.getD i default := by
      constructor
      · intro h; omega
      · intro h
        rw [← e] at h ⊢
        rcases Nat.lt_trichotomy j k with h3 | h3 | h3
        · have := vsD_gt hj (show k < (vsD xs).length by omega) h3; omega
        · subst h3; exact Int.le_refl _
        · rcases Nat.lt_or_ge (k + 1) j with h4 | h4
          · have := vsD_gt hk hj h4; omega
          · have h5 : j = k + 1 := by omega
            subst h5; omega
    simp only [h2]
/-- twice the ones that win over x -/
def wG (xs ms : List Int) (x : Int) : Int := sU xs ms (fun y l => if l = 1 then 1 + sgI (y - x) else 0) xs.length
theorem wG_eq (xs ms : List Int) (v : Int) : sU xs ms (fun x l => if v ≤ x ∧ l = 1 then 1 else 0) xs.length + sU xs ms (fun x l => if v < x ∧ l = 1 then 1 else 0) xs.length = wG xs ms v := by
  rw [← sU_add]
  refine sU_congr fun i _ => ?_
  unfold sgI
  split <;> split <;> split <;> first | omega | (split <;> first | omega | (split <;> omega))
theorem ar_term {xs : List Int} (ms : List Int) {k : Nat} (hk : k < (vsD xs).length) :
    ((corR xs ms 0).getD (k + 1) default - (corR xs ms 0).getD k default) * ((corR xs ms 1).getD (k + 1) default + (corR xs ms 1).getD k default) = sU xs ms (fun x l => if x = (vsD xs)[k] ∧ l = 0 then wG xs ms x else 0) xs.length := by
  rw [corR_succ ms 0 hk, corR_here ms 0 hk, corR_succ ms 1 hk, corR_here ms 1 hk, wG_eq, ← sU_sub, sU_mul]
  refine sU_congr fun i _ => ?_
  by_cases h1 : xs.getD i default = (vsD xs)[k]
  · by_cases h2 : ms.getD i default = 0
    · rw [if_pos ⟨by omega, h2⟩, if_neg (by omega), if_pos ⟨h1, h2⟩, h1]; omega
    · rw [if_neg (by omega), if_neg (by omega), if_neg (by omega)]; omega
  · rw [if_neg (c := xs.getD i default = _ ∧ _) (by omega)]
    by_cases h2 : ms.getD i default = 0
    · by_cases h3 : (vsD xs)[k] ≤ xs.getD i default
      · rw [if_pos ⟨h3, h2⟩, if_pos ⟨by omega, h2⟩]; omega
      · rw [if_neg (by omega), if_neg (by omega)]; omega
    · rw [if_neg (by omega), if_neg (by omega)]; omega
theorem arU_sU {xs : List Int} (ms : List Int) : ∀ k, k ≤ (vsD xs).length → arU xs ms k = sU xs ms (fun x l => if x ∈ (vsD xs).take k ∧ l = 0 then wG xs ms x else 0) xs.length := by
  intro k
  induction k with
  | zero =>
    intro _
    rw [arU]
    exact ((sU_congr (g := fun _ _ => 0) fun i _ => by simp).trans (sU_zero _)).symm
  | succ k ih =>
    intro hk
    rw [arU, ih (by omega), ar_term ms (show k < (vsD xs).length by omega), ← sU_add]
    refine sU_congr fun i _ => ?_
    have hnd : (vsD xs)[k] ∉ (vsD xs).take k := by
      intro h
      obtain ⟨j, hj, e⟩ := List.mem_iff_getElem.1 h
      rw [List.length_take] at hj
      rw [List.getElem_take] at e
      have := vsD_gt (show j < (vsD xs).length by omega) (show k < (vsD xs).length by omega) (by omega)
      omega
    have hm : xs.getD i default ∈ (vsD xs).take (k + 1) ↔ xs.getD i default ∈ (vsD xs).take k ∨ xs.getD i default = (vsD xs)[k] := by
      rw [List.take_succ_eq_append_getElem (by omega), List.mem_append, List.mem_singleton]
    simp only [hm]
    by_cases h1 : xs.getD i default = (vsD xs)[k]
    · by_cases h2 : ms.getD i default = 0
      · rw [if_neg (fun h => hnd (h1 ▸ h.1)), if_pos ⟨h1, h2⟩, if_pos ⟨.inr h1, h2⟩]; omega
      · rw [if_neg (fun h => h2 h.2), if_neg (fun h => h2 h.2), if_neg (fun h => h2 h.2)]; omega
    · rw [if_neg (c := xs.getD i default = _ ∧ _) (fun h => h1 h.1)]
      by_cases h2 : xs.getD i default ∈ (vsD xs).take k ∧ ms.getD i default = 0
      · rw [if_pos h2, if_pos ⟨.inl h2.1, h2.2⟩]; omega
      · rw [if_neg h2, if_neg (fun h => h2 ⟨h.1.resolve_right h1, h.2⟩)]; omega
/-- twice the wins, the zeros first -/
def wins (xs ms : List Int) : Int := sU xs ms (fun x l => if l = 0 then wG xs ms x else 0) xs.length
theorem area_wins (xs ms : List Int) : arU xs ms ((corR xs ms 0).length - 1) = wins xs ms := by
  have hl : (corR xs ms 0).length - 1 = (vsD xs).length := by rw [corR_vsD]; simp
  rw [hl, arU_sU ms _ (Nat.le_refl _), List.take_length]
  refine sU_congr fun i hi => ?_
  have : xs.getD i default ∈ vsD xs := mem_vsD.2 (getD_mem hi)
  simp only [this, true_and]
end Go.Mv
end

section
/- Pairs and corners. -/
namespace Go.Mv
open Go
section
variable {xs ms : List Int}
theorem sU_bd {f : Int → Int → Int} {c : Int} (h : ∀ x l, 0 ≤ f x l ∧ f x l ≤ c) : ∀ n : Nat, 0 ≤ sU xs ms f n ∧ sU xs ms f n ≤ c * n
  | 0 => by simp [sU]
  | n + 1 => by
    have h1 := sU_bd h n
    have h2 := h (xs.getD n default) (ms.getD n default)
    have e : c * ((n + 1 : Nat) : Int) = c * (n : Int) + c := by rw [Int.natCast_add, Int.mul_add]; simp
    rw [sU, e]
    omega
/-- the pairs of the first i numbers with all of them -/
def pT (xs ms : List Int) (x l : Int) (k : Nat) : Int := sU xs ms (fun y q => if l = 1 ∧ q = 0 then 1 + sgI (x - y) else 0) k
def pA (xs ms : List Int) (l : Int) (k : Nat) : Int := sU xs ms (fun _ q => if l = 1 ∧ q = 0 then 2 else 0) k
def pTs (xs ms : List Int) (i : Nat) : Int := sU xs ms (fun x l => pT xs ms x l xs.length) i
def pAs (xs ms : List Int) (i : Nat) : Int := sU xs ms (fun _ l => pA xs ms l xs.length) i
theorem sgI_bd (x : Int) : -1 ≤ sgI x ∧ sgI x ≤ 1 := by unfold sgI; split <;> (try split) <;> omega
theorem pT_bd (x l : Int) (k : Nat) : 0 ≤ pT xs ms x l k ∧ pT xs ms x l k ≤ 2 * (k : Int) := sU_bd (fun y q => by have := sgI_bd (x - y); split <;> omega) k
theorem pA_bd (l : Int) (k : Nat) : 0 ≤ pA xs ms l k ∧ pA xs ms l k ≤ 2 * (k : Int) := sU_bd (fun y q => by split <;> omega) k
theorem pTs_bd (hl : xs.length ≤ 10) (i : Nat) : 0 ≤ pTs xs ms i ∧ pTs xs ms i ≤ 20 * (i : Int) := sU_bd (fun x l => by have := pT_bd (xs := xs) (ms := ms) x l xs.length; omega) i
theorem pAs_bd (hl : xs.length ≤ 10) (i : Nat) : 0 ≤ pAs xs ms i ∧ pAs xs ms i ≤ 20 * (i : Int) := sU_bd (fun x l => by have := pA_bd (xs := xs) (ms := ms) l xs.length; omega) i
theorem pTs_wins : pTs xs ms xs.length = wins xs ms := by
  unfold pTs pT wins
  rw [sU_swap (fun x l y q => if l = 1 ∧ q = 0 then 1 + sgI (x - y) else 0)]
  refine sU_congr fun i _ => ?_
  by_cases h : ms.getD i default = 0
  · rw [if_pos h]
    exact sU_congr fun j _ => by simp only [h, and_true]
  · rw [if_neg h]
    exact (sU_congr (g := fun _ _ => 0) fun j _ => if_neg fun e => h e.2).trans (sU_zero _)
theorem sU_ones (hm : allB 0 1 ms = true) : ∀ i, i ≤ ms.length → sU xs ms (fun _ l => if l = 1 then 1 else 0) i = (ms.take i).sum := by
  intro i
  induction i with
  | zero => intro _; rfl
  | succ i ih =>
    intro hi
    have := allB_iff.1 hm i (by omega)
    rw [sU, ih (by omega), sum_take_succ (by omega)]
    split <;> omega
theorem sU_zeros (hm : allB 0 1 ms = true) : ∀ i, i ≤ ms.length → sU xs ms (fun _ l => if l = 0 then 1 else 0) i = i - (ms.take i).sum := by
  intro i
  induction i with
  | zero => intro _; rfl
  | succ i ih =>
    intro hi
    have := allB_iff.1 hm i (by omega)
    rw [sU, ih (by omega), sum_take_succ (by omega)]
    split <;> omega
theorem pAs_eq (hm : allB 0 1 ms = true) (hl : ms.length = xs.length) : pAs xs ms xs.length = 2 * ((xs.length : Int) - ms.sum) * ms.sum := by
  have h1 := sU_ones (xs := xs) hm xs.length (by omega)
  have h0 := sU_zeros (xs := xs) hm xs.length (by omega)
  rw [← hl, List.take_length] at h1 h0
  rw [hl] at h1 h0
  have h2 : ∀ l, pA xs ms l xs.length = (if l = 1 then 1 else 0) * (2 * ((xs.length : Int) - ms.sum)) := by
    intro l
    unfold pA
    by_cases h : l = 1
    · rw [if_pos h, Int.one_mul, ← h0, Int.mul_comm, sU_mul]
      exact sU_congr fun i _ => by simp only [h, true_and]; split <;> rfl
    · rw [if_neg h, Int.zero_mul]
      exact (sU_congr (g := fun _ _ => 0) fun i _ => by simp [h]).trans (sU_zero _)
  unfold pAs
  simp only [h2]
  rw [← sU_mul, h1, Int.mul_comm]
end
/-- the numbers with the mark v -/
def ptI (xs ms : List Int) (v : Int) : Nat → List Int
  | 0 => []
  | i + 1 => if ms.getD i default = v then ptI xs ms v i ++ [xs.getD i default] else ptI xs ms v i
theorem ptI_len (xs ms : List Int) (v : Int) : ∀ i, (ptI xs ms v i).length ≤ i
  | 0 => Nat.le_refl _
  | i + 1 => by have := ptI_len xs ms v i; simp only [ptI]; split <;> simp <;> omega
theorem ptI_sum (xs ms : List Int) (v : Int) (g : Int → Int) : ∀ i, ((ptI xs ms v i).map g).sum = sU xs ms (fun x l => if l = v then g x else 0) i
  | 0 => rfl
  | i + 1 => by
    have := ptI_sum xs ms v g i
    rw [ptI, sU, ← this]
    split
    · rw [List.map_append, List.sum_append]; simp
    · omega
/-- twice the wins of two lists -/
def wnL (a b : List Int) : Int := (a.map fun x => (b.map fun y => sgI (x - y) + 1).sum).sum
theorem wnL_wins (xs ms : List Int) : wnL (ptI xs ms 1 xs.length) (ptI xs ms 0 xs.length) = wins xs ms := by
  rw [← pTs_wins, wnL, ptI_sum]
  unfold pTs
  refine sU_congr fun i _ => ?_
  unfold pT
  rw [ptI_sum]
  by_cases h : ms.getD i default = 1
  · rw [if_pos h]
    exact sU_congr fun j _ => by simp only [h, true_and]; split <;> omega
  · rw [if_neg h]
    exact ((sU_congr (g := fun _ _ => 0) fun j _ => if_neg fun e => h e.1).trans (sU_zero _)).symm
theorem ptI_len1 {xs ms : List Int} (hm : allB 0 1 ms = true) (hl : ms.length = xs.length) : ((ptI xs ms 1 xs.length).length : Int) = ms.sum := by
  have h := ptI_sum xs ms 1 (fun _ => 1) xs.length
  have h1 := sU_ones (xs := xs) hm xs.length (by omega)
  rw [← hl, List.take_length, hl] at h1
  rw [h1] at h
  rw [← h, List.map_const', List.sum_replicate_int]; omega
theorem ptI_len0 {xs ms : List Int} (hm : allB 0 1 ms = true) (hl : ms.length = xs.length) : ((ptI xs ms 0 xs.length).length : Int) = xs.length - ms.sum := by
  have h := ptI_sum xs ms 0 (fun _ => 1) xs.length
  have h1 := sU_zeros (xs := xs) hm xs.length (by omega)
  rw [← hl, List.take_length, hl] at h1
  rw [h1] at h
  rw [← h, List.map_const', List.sum_replicate_int]; omega
theorem arQ_wins (xs ms : List Int) : arQ xs ms = Rat.divInt (wins xs ms) (2 * ((xs.length : Int) - ms.sum) * ms.sum) := by rw [arQ, area_wins]
theorem sgn_max (n : Int) : max (-1) (min 1 n) = sgI n := by unfold sgI; split <;> (try split) <;> omega
section
variable {xs ms : List Int}
theorem pT_t {x l : Int} {k : Nat} (h1 : l = 1) (h2 : ms.getD k default = 0) : pT xs ms x l (k + 1) = pT xs ms x l k + (1 + max (-1) (min 1 (x - xs.getD k default))) := by
  unfold pT
  rw [sU, if_pos ⟨h1, h2⟩, sgn_max]
theorem pT_f {x l : Int} {k : Nat} (h : ¬ (l = 1 ∧ ms.getD k default = 0)) : pT xs ms x l (k + 1) = pT xs ms x l k := by
  unfold pT
  rw [sU, if_neg h]; omega
theorem pA_t {l : Int} {k : Nat} (h1 : l = 1) (h2 : ms.getD k default = 0) : pA xs ms l (k + 1) = pA xs ms l k + 2 := by
  unfold pA
  rw [sU, if_pos ⟨h1, h2⟩]
theorem pA_f {l : Int} {k : Nat} (h : ¬ (l = 1 ∧ ms.getD k default = 0)) : pA xs ms l (k + 1) = pA xs ms l k := by
  unfold pA
  rw [sU, if_neg h]; omega
end
theorem tk_sum (l : List Int) (g : Int → Int) {k : Nat} (h : k < l.length) : ((l.take (k + 1)).map g).sum = ((l.take k).map g).sum + g (l.getD k default) := by
  rw [take_succ_getD h, List.map_append, List.sum_append]; simp
theorem map_sum_bd {l : List Int} {g : Int → Int} {c : Int} (h : ∀ x, 0 ≤ g x ∧ g x ≤ c) : 0 ≤ (l.map g).sum ∧ (l.map g).sum ≤ c * l.length := by
  induction l with
  | nil => simp
  | cons x l ih =>
    have := h x
    rw [List.map_cons, List.sum_cons, List.length_cons]
    have e : c * ((l.length + 1 : Nat) : Int) = c * (l.length : Int) + c := by rw [Int.natCast_add, Int.mul_add]; simp
    rw [e]; omega
def rwL (b : List Int) (x : Int) : Int := (b.map fun y => sgI (x - y) + 1).sum
theorem wnL_eq (a b : List Int) : wnL a b = (a.map (rwL b)).sum := rfl
theorem rw_bd (b : List Int) (x : Int) : 0 ≤ rwL b x ∧ rwL b x ≤ 2 * b.length := map_sum_bd fun y => by have := sgI_bd (x - y); omega
/-- the part of a row that has been seen -/
def rwU (b : List Int) (x : Int) (k : Nat) : Int := ((b.take k).map fun y => sgI (x - y) + 1).sum
theorem rwU_succ {b : List Int} (x : Int) {k : Nat} (h : k < b.length) : rwU b x (k + 1) = rwU b x k + sgI (x - b.getD k default) + 1 := by
  unfold rwU; rw [tk_sum _ _ h]; omega
theorem rwU_bd (b : List Int) (x : Int) (k : Nat) : 0 ≤ rwU b x k ∧ rwU b x k ≤ 2 * (k : Int) := by
  have h := map_sum_bd (l := b.take k) (g := fun y => sgI (x - y) + 1) (c := 2) fun y => by have := sgI_bd (x - y); omega
  have h2 : (b.take k).length ≤ k := by rw [List.length_take]; exact Nat.min_le_left _ _
  unfold rwU; omega
def wnU (a b : List Int) (i : Nat) : Int := ((a.take i).map (rwL b)).sum
theorem wnU_succ {a b : List Int} {i : Nat} (h : i < a.length) : wnU a b (i + 1) = wnU a b i + rwU b (a.getD i default) b.length := by
  unfold wnU rwU
  rw [tk_sum _ _ h, List.take_length]; rfl
theorem wnU_bd {a b : List Int} (hb : b.length ≤ 10) (i : Nat) : 0 ≤ wnU a b i ∧ wnU a b i ≤ 20 * (i : Int) := by
  have h := map_sum_bd (l := a.take i) (g := rwL b) (c := 20) fun y => by have := rw_bd b y; omega
  have h2 : (a.take i).length ≤ i := by rw [List.length_take]; exact Nat.min_le_left _ _
  unfold wnU; omega
theorem ptI_bd {xs ms : List Int} {v c : Int} (h : ∀ i, i < xs.length → -c ≤ xs.getD i default ∧ xs.getD i default ≤ c) : ∀ i, i ≤ xs.length → ∀ x ∈ ptI xs ms v i, -c ≤ x ∧ x ≤ c := by
  intro i
  induction i with
  | zero => intro _ x hx; cases hx
  | succ i ih =>
    intro hi x hx
    rw [ptI] at hx
    split at hx
    · rcases List.mem_append.1 hx with h1 | h1
      · exact ih (by omega) x h1
      · rw [List.mem_singleton] at h1; rw [h1]; exact h i (by omega)
    · exact ih (by omega) x hx
end Go.Mv
end

section
/- Areas with the numbers turned. -/
namespace Go.Mv
open Go
theorem sU_ng (xs ms : List Int) (f : Int → Int → Int) : ∀ n, sU (ngI xs) ms f n = sU xs ms (fun x l => f (-x) l) n
  | 0 => rfl
  | n + 1 => by rw [sU, sU, sU_ng xs ms f n, ngI_getD]
theorem sgI_neg (x : Int) : sgI (-x) = -sgI x := by unfold sgI; split <;> split <;> (try split) <;> omega
theorem pTs_ng (xs ms : List Int) : pTs (ngI xs) ms xs.length = pAs xs ms xs.length - pTs xs ms xs.length := by
  unfold pTs pAs
  rw [sU_ng, ngI_length, ← sU_sub]
  refine sU_congr fun i _ => ?_
  unfold pT pA
  rw [sU_ng, ← sU_sub]
  refine sU_congr fun j _ => ?_
  have e : -xs.getD i default - -xs.getD j default = -(xs.getD i default - xs.getD j default) := by omega
  rw [e, sgI_neg]
  split <;> omega
theorem wins_ng {xs ms : List Int} (hm : allB 0 1 ms = true) (hl : ms.length = xs.length) : wins (ngI xs) ms = 2 * ((xs.length : Int) - ms.sum) * ms.sum - wins xs ms := by
  have h := pTs_ng xs ms
  rw [pAs_eq hm hl, pTs_wins] at h
  rw [← h, ← pTs_wins, ngI_length]
theorem allB_ng {l : List Int} {c : Int} (h : allB (-c) c l = true) : allB (-c) c (ngI l) = true := by
  rw [allB_iff] at *
  intro j hj
  rw [ngI_getD]
  have := h j (by simpa using hj)
  omega
theorem bmk_ng {xs ms : List Int} (h : bmk xs ms = true) : bmk (ngI xs) ms = true := by
  obtain ⟨h1, h2, h3⟩ := bmk_iff.1 h
  obtain ⟨a, b, c, d, e⟩ := vca_iff.1 h1
  exact bmk_iff.2 ⟨vca_iff.2 ⟨by simpa using a, by simpa using b, allB_ng (c := 200) c, by simpa using d, e⟩, h2, h3⟩
theorem bmk_den {xs ms : List Int} (h : bmk xs ms = true) : 1 ≤ 2 * ((xs.length : Int) - ms.sum) * ms.sum ∧ 2 * ((xs.length : Int) - ms.sum) * ms.sum ≤ 200 := by
  obtain ⟨h1, h2, h3⟩ := bmk_iff.1 h
  obtain ⟨a, b, c, d, e⟩ := vca_iff.1 h1
  have hs1 := (mem1_iff e).1 h3
  have hs0 := (mem0_iff e).1 h2
  rw [d] at hs0
  exact den_bd hs0 hs1 (by omega)
theorem arQ_ng {xs ms : List Int} (h : bmk xs ms = true) : arQ (ngI xs) ms + arQ xs ms = 1 := by
  obtain ⟨h1, h2, h3⟩ := bmk_iff.1 h
  obtain ⟨a, b, c, d, e⟩ := vca_iff.1 h1
  have hd := bmk_den h
  rw [arQ_wins, arQ_wins, wins_ng e d, ngI_length]
  generalize 2 * ((xs.length : Int) - ms.sum) * ms.sum = D at hd
  have hD : D ≠ 0 := by omega
  have hDD : D * D ≠ 0 := Int.mul_ne_zero hD hD
  have e1 : (D - wins xs ms) * D + wins xs ms * D = D * D := by rw [Int.sub_mul]; omega
  rw [Rat.divInt_add_divInt _ _ hD hD, e1, Rat.divInt_self' hDD]
theorem arQ_sm {xs ms : List Int} (h : bmk xs ms = true) : Sm 200 (arQ xs ms) := by
  obtain ⟨h1, h2, h3⟩ := bmk_iff.1 h
  obtain ⟨a, b, c, d, e⟩ := vca_iff.1 h1
  have hd := bmk_den h
  have hw := pTs_bd (xs := xs) (ms := ms) b xs.length
  rw [pTs_wins] at hw
  rw [arQ_wins]
  exact Sm.fr (by omega) (by omega) (by omega)
theorem arP_q {xs ms : List Int} (h : bmk xs ms = true) : F_Frac (arP xs ms) = qV (arQ xs ms) := by rw [arP, if_pos h]
end Go.Mv
end
