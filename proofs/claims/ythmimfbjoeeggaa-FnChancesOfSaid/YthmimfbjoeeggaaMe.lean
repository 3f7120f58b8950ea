/- The abstract machine, part 5 of 5: it runs the model's code on abstract values and is proved sound over any program. Conditions: none. -/
import Derived.Test.YthmimfbjoeeggaaMd

set_option linter.unusedVariables false
set_option linter.unusedSimpArgs false
section
/- Chances: what both programs answer, and what the law asks. -/
namespace Go.Mv
open Go
def qP (q : Rat) : Int × Int := (q.num, (q.den : Int))
theorem map_qP (l : List Rat) : (l.map qP).map F_Frac = l.map qV := by rw [List.map_map]; rfl
def chQ (xs ms : List Int) (bs : List Bk) : List Rat := if vca xs ms = true then xs.map (chv bs) else []
theorem chQ_len (xs ms : List Int) (bs : List Bk) : (chQ xs ms bs).length ≤ xs.length := by unfold chQ; split <;> simp
theorem chQ_valid {xs ms : List Int} {bs : List Bk} (h : ¬ (((chQ xs ms bs).length : Nat) : Int) = 0) : vca xs ms = true := by
  by_cases hv : vca xs ms = true
  · exact hv
  · unfold chQ at h; rw [if_neg hv] at h; simp at h
/-- a list of shares, place by place -/
theorem shares_eq {xs : List Int} {bs : List Bk} {out : List (Int × Int)} {n : Nat} (hl : out.length = xs.length) (hn : xs.length ≤ n) (h : ∀ x, x < n → x < xs.length → out.getD x default = qP (chv bs (xs.getD x default))) :
    out.map F_Frac = (xs.map (chv bs)).map qV := by
  have : out = (xs.map (chv bs)).map qP := by
    refine list_ext_getD (d := default) (by simp [hl]) fun i hi => ?_
    have e : ((xs.map (chv bs)).map qP).getD i default = qP (chv bs (xs.getD i default)) := by
      simp only [List.getD_eq_getElem?_getD, List.getElem?_map, List.getElem?_eq_getElem (show i < xs.length by omega)]
      rfl
    rw [h i (by omega) (by omega), e]
  rw [this, map_qP]
theorem snoc_of {α : Type} [Inhabited α] {l : List α} (h : 1 ≤ l.length) : l = l.dropLast ++ [l.getD (l.length - 1) default] := by
  have hne : l ≠ [] := by intro e; rw [e] at h; simp at h
  conv => lhs; rw [← List.dropLast_concat_getLast hne]
  rw [List.getLast_eq_getElem, List.getD_eq_getElem?_getD, List.getElem?_eq_getElem (by omega)]
  rfl
section
variable {P Q v : Nat → Int}
/-- blocks while the last one may not rise -/
def Pav (P Q v : Nat → Int) (e : Nat) (bs : List Bk) : Prop := ∃ l z, bs = l ++ [z] ∧ Inc l ∧ SegL P Q v 0 bs e
theorem Pav.start {e : Nat} {bs : List Bk} {z : Bk} (h1 : SegL P Q v 0 bs e) (h2 : Inc bs) (hz : z = (P (e + 1) - P e, Q (e + 1) - Q e, v e)) : Pav P Q v (e + 1) (bs ++ [z]) :=
  ⟨bs, z, rfl, h2, SegL.append.2 ⟨e, h1, hz ▸ SegL.single e⟩⟩
theorem Pav.len {e : Nat} {bs : List Bk} (h : Pav P Q v e bs) : 1 ≤ bs.length := by
  obtain ⟨l, z, rfl, _, _⟩ := h
  simp
theorem Pav.two {e : Nat} {bs : List Bk} (h : Pav P Q v e bs) (hl : 1 < bs.length) : ∃ l, bs = l ++ [bs.getD (bs.length - 2) default] ++ [bs.getD (bs.length - 1) default] ∧ Inc (l ++ [bs.getD (bs.length - 2) default]) ∧ SegL P Q v 0 bs e := by
  obtain ⟨l, z, rfl, h2, h3⟩ := h
  simp only [List.length_append, List.length_singleton] at hl
  obtain ⟨l', x, rfl⟩ : ∃ l' x, l = l' ++ [x] := ⟨_, _, snoc_of (by omega)⟩
  have e1 : (l' ++ [x] ++ [z]).getD ((l' ++ [x] ++ [z]).length - 2) default = x := by
    rw [getD_app, if_pos (by simp), getD_app, if_neg (by simp)]
    simp
  have e2 : (l' ++ [x] ++ [z]).getD ((l' ++ [x] ++ [z]).length - 1) default = z := by
    rw [getD_app, if_neg (by simp)]
    simp
  rw [e1, e2]
  exact ⟨l', rfl, h2, h3⟩
theorem Pav.fin {e : Nat} {bs : List Bk} (h : Pav P Q v e bs) (hc : ¬ 1 < bs.length ∨ (bs.getD (bs.length - 2) default).1 * (bs.getD (bs.length - 1) default).2.1 < (bs.getD (bs.length - 1) default).1 * (bs.getD (bs.length - 2) default).2.1) :
    SegL P Q v 0 bs e ∧ Inc bs := by
  by_cases hl : 1 < bs.length
  · obtain ⟨l, h1, h2, h3⟩ := h.two hl
    refine ⟨h3, ?_⟩
    rw [h1]
    exact Inc.snoc.2 ⟨h2, hc.resolve_left (fun c => c hl)⟩
  · obtain ⟨l, z, rfl, h2, h3⟩ := h
    refine ⟨h3, ?_⟩
    have : l = [] := by cases l with
      | nil => rfl
      | cons a l => simp at hl
    subst this
    trivial
theorem Pav.merge {n e : Nat} (hQ : ∀ j, j < n → Q j < Q (j + 1)) (he : e ≤ n) {bs : List Bk} (h : Pav P Q v e bs) (hl : 1 < bs.length) (hc : ¬ (bs.getD (bs.length - 2) default).1 * (bs.getD (bs.length - 1) default).2.1 < (bs.getD (bs.length - 1) default).1 * (bs.getD (bs.length - 2) default).2.1) :
    Pav P Q v e (bs.take (bs.length - 2) ++ [((bs.getD (bs.length - 2) default).1 + (bs.getD (bs.length - 1) default).1, (bs.getD (bs.length - 2) default).2.1 + (bs.getD (bs.length - 1) default).2.1, (bs.getD (bs.length - 1) default).2.2)]) := by
  obtain ⟨l, h1, h2, h3⟩ := h.two hl
  have ht : bs.take (bs.length - 2) = l := by
    have hll : bs.length = l.length + 2 := by
      have := congrArg List.length h1
      simpa using this
    have hk : bs.length - 2 = l.length := by omega
    rw [hk]
    conv => lhs; rw [h1]
    rw [List.append_assoc, List.take_append_of_le_length (Nat.le_refl _), List.take_length]
  rw [ht]
  rw [h1, List.append_assoc] at h3
  obtain ⟨m, m1, m2⟩ := SegL.append.1 h3
  exact ⟨l, _, rfl, h2.init, SegL.append.2 ⟨m, m1, m2.merge hQ he hc⟩⟩
theorem Pav.mem {n e : Nat} {C : Int} (hQ : ∀ j, j < n → Q j < Q (j + 1)) (hP : ∀ a b, a ≤ b → b ≤ n → P a ≤ P b) (hPC : P n - P 0 ≤ C) (hQC : Q n - Q 0 ≤ C) (he : e ≤ n) {bs : List Bk} (h : Pav P Q v e bs) {i : Nat} (hi : i < bs.length) :
    (0 ≤ (bs.getD i default).1 ∧ (bs.getD i default).1 ≤ C) ∧ (1 ≤ (bs.getD i default).2.1 ∧ (bs.getD i default).2.1 ≤ C) := by
  obtain ⟨l, z, _, _, h3⟩ := h
  exact SegL.bd hQ hP hPC hQC he h3 _ (getD_memG hi)
end
/-! ### bounds at numbers with marks -/
theorem PA_bd {xs ms : List Int} (hl : ms.length = xs.length) (hm : allB 0 1 ms = true) : PA xs ms (vsA xs).length - PA xs ms 0 ≤ xs.length := by
  have h0 : PA xs ms 0 = 0 := rfl
  rw [h0, PA_all]
  have := (prS_bd (f := fun i => ms.getD i default) (c := 1) (n := xs.length) fun i hi => allB_iff.1 hm i (by omega)).2
  omega
theorem PA_mn {xs ms : List Int} (hl : ms.length = xs.length) (hm : allB 0 1 ms = true) : ∀ a b, a ≤ b → b ≤ (vsA xs).length → PA xs ms a ≤ PA xs ms b := PA_mono (fun i hi => (allB_iff.1 hm i hi).1) hl
theorem QA_bd (xs : List Int) : QA xs (vsA xs).length - QA xs 0 ≤ xs.length := by
  have h0 : QA xs 0 = 0 := rfl
  rw [h0, QA_all]; omega
theorem PA_b {xs ms : List Int} (hl : ms.length = xs.length) (hm : allB 0 1 ms = true) {a b : Nat} (hab : a ≤ b) (hb : b ≤ (vsA xs).length) : 0 ≤ PA xs ms b - PA xs ms a ∧ PA xs ms b - PA xs ms a ≤ xs.length := by
  have h1 := PA_mn hl hm a b hab hb
  have h2 := PA_mn hl hm 0 a (Nat.zero_le _) (by omega)
  have h3 := PA_mn hl hm b _ hb (Nat.le_refl _)
  have h4 := PA_bd hl hm
  omega
theorem QA_b {xs : List Int} {a b : Nat} (hab : a < b) (hb : b ≤ (vsA xs).length) : 0 < QA xs b - QA xs a ∧ QA xs b - QA xs a ≤ xs.length := by
  have h1 := Qlt (QA_lt xs) hab hb
  have h2 : QA xs 0 ≤ QA xs a := by
    rcases Nat.eq_zero_or_pos a with c | c
    · subst c; exact Int.le_refl _
    · have := Qlt (QA_lt xs) c (by omega); omega
  have h3 : QA xs b ≤ QA xs (vsA xs).length := by
    rcases Nat.lt_or_ge b (vsA xs).length with c | c
    · have := Qlt (QA_lt xs) c (Nat.le_refl _); omega
    · rw [show b = (vsA xs).length by omega]; exact Int.le_refl _
  have h4 := QA_bd xs
  omega
theorem prS_one (f : Nat → Int) (k : Nat) : prS f (k + 1) - prS f k = f k := by rw [prS]; omega
/-! ### they add up to the marks -/
def prQ (f : Nat → Rat) : Nat → Rat
  | 0 => 0
  | k + 1 => prQ f k + f k
theorem prQ_congr {f g : Nat → Rat} : ∀ {n : Nat}, (∀ i, i < n → f i = g i) → prQ f n = prQ g n
  | 0, _ => rfl
  | n + 1, h => by rw [prQ, prQ, prQ_congr fun i hi => h i (by omega), h n (by omega)]
theorem prQ_add (f g : Nat → Rat) : ∀ n, prQ (fun i => f i + g i) n = prQ f n + prQ g n
  | 0 => by simp [prQ, Rat.add_zero]
  | n + 1 => by rw [prQ, prQ, prQ, prQ_add f g n]; grind
theorem prQ_zero : ∀ n, prQ (fun _ => 0) n = 0
  | 0 => rfl
  | n + 1 => by rw [prQ, prQ_zero n]; exact Rat.add_zero 0
theorem prQ_swap (f : Nat → Nat → Rat) (n : Nat) : ∀ m, prQ (fun j => prQ (f j) n) m = prQ (fun i => prQ (fun j => f j i) m) n
  | 0 => (prQ_zero n).symm
  | m + 1 => by rw [prQ, prQ_swap f n m, ← prQ_add]; rfl
theorem prQ_mul (f : Nat → Rat) (c : Rat) : ∀ n, prQ (fun i => f i * c) n = prQ f n * c
  | 0 => by simp [prQ, Rat.zero_mul]
  | n + 1 => by rw [prQ, prQ, prQ_mul f c n]; grind
theorem prQ_int (f : Nat → Int) : ∀ n, prQ (fun i => (f i : Rat)) n = (prS f n : Rat)
  | 0 => rfl
  | n + 1 => by rw [prQ, prS, prQ_int f n, Rat.intCast_add]
theorem prQ_hit {f : Nat → Rat} {g : Nat} : ∀ {n : Nat}, g < n → (∀ j, j < n → j ≠ g → f j = 0) → prQ f n = f g
  | 0, h, _ => by omega
  | n + 1, h, h0 => by
    rw [prQ]
    by_cases e : g = n
    · subst e
      have : prQ f g = 0 := by rw [prQ_congr (g := fun _ => 0) fun i hi => h0 i (by omega) (by omega), prQ_zero]
      rw [this, Rat.zero_add]
    · rw [prQ_hit (n := n) (by omega) (fun j hj hne => h0 j (by omega) hne), h0 n (by omega) (by omega), Rat.add_zero]
theorem prQ_split (f : Nat → Rat) (a : Nat) : ∀ b, prQ f (a + b) = prQ f a + prQ (fun i => f (a + i)) b
  | 0 => by simp [prQ, Rat.add_zero]
  | b + 1 => by rw [← Nat.add_assoc, prQ, prQ, prQ_split f a b, Rat.add_assoc]
/-- over the numbers as over the values -/
theorem by_values (xs : List Int) (F : Int → Rat) : prQ (fun i => F (xs.getD i default)) xs.length = prQ (fun j => (mcV xs (vA xs j) : Rat) * F (vA xs j)) (vsA xs).length := by
  have h1 : ∀ j, (mcV xs (vA xs j) : Rat) * F (vA xs j) = prQ (fun i => (mcT xs (vA xs j) i : Rat) * F (vA xs j)) xs.length := by
    intro j; rw [prQ_mul, prQ_int]; rfl
  rw [prQ_congr (f := fun j => (mcV xs (vA xs j) : Rat) * F (vA xs j)) (fun j _ => h1 j), prQ_swap (fun j i => (mcT xs (vA xs j) i : Rat) * F (vA xs j)) xs.length]
  refine prQ_congr fun i hi => ?_
  obtain ⟨g, hg, hx⟩ := vA_ix (getD_mem hi)
  rw [prQ_hit hg]
  · rw [hx, mcT, if_pos rfl]; exact (Rat.one_mul _).symm
  · intro j hj hne
    have : mcT xs (vA xs j) i = 0 := if_neg fun h => hne (vA_inj hj hg (by rw [← h, hx]))
    rw [this]; exact Rat.zero_mul _
theorem seg_sum {P Q v : Nat → Int} {n : Nat} {w : Nat → Int} (hw : ∀ j, Q (j + 1) - Q j = w j) (hQ : ∀ j, j < n → Q j < Q (j + 1)) (hv : ∀ i j, i < j → j < n → v i < v j) : ∀ {bs : List Bk} {a : Nat}, SegL P Q v a bs n →
    prQ (fun j => (w (a + j) : Rat) * chv bs (v (a + j))) (n - a) = ((P n - P a : Int) : Rat)
  | [], a, h => by cases (h : a = n); rw [Nat.sub_self, Int.sub_self]; rfl
  | b :: r, a, h => by
    obtain ⟨m, f1, f2, f3, f4, f5, f6⟩ := h
    have hm := f6.le
    have q1 := Qlt hQ f1 hm
    have ih := seg_sum hw hQ hv f6
    rw [show n - a = (m - a) + (n - m) by omega, prQ_split]
    have e2 : prQ (fun i => (fun j => (w (a + j) : Rat) * chv (b :: r) (v (a + j))) (m - a + i)) (n - m) = prQ (fun j => (w (m + j) : Rat) * chv r (v (m + j))) (n - m) := by
      refine prQ_congr fun i hi => ?_
      dsimp only
      rw [show a + (m - a + i) = m + i by omega, SegL.chv_out hv f4 (by omega) (by omega) (by omega)]
    have e1 : prQ (fun j => (w (a + j) : Rat) * chv (b :: r) (v (a + j))) (m - a) = prQ (fun j => (w (a + j) : Rat)) (m - a) * Rat.divInt b.1 b.2.1 := by
      rw [← prQ_mul]
      refine prQ_congr fun i hi => ?_
      rw [SegL.chv_in hv f4 hm (by omega)]
    have e3 : ∀ k, prS (fun j => w (a + j)) k = Q (a + k) - Q a := by
      intro k
      induction k with
      | zero => simp [prS]
      | succ k ih => rw [prS, ih, ← hw (a + k)]; have : a + (k + 1) = a + k + 1 := by omega
                     rw [this]; omega
    rw [e2, ih, e1, prQ_int, e3, show a + (m - a) = m by omega, f2, f3]
    have hz : ((Q m - Q a : Int) : Rat) ≠ 0 := by
      have : Q m - Q a ≠ 0 := by omega
      exact_mod_cast this
    rw [Rat.divInt_eq_div]
    have e5 : ((Q m - Q a : Int) : Rat) * (((P m - P a : Int) : Rat) / ((Q m - Q a : Int) : Rat)) = ((P m - P a : Int) : Rat) := by grind
    rw [e5, ← Rat.intCast_add]
    congr 1
    omega
theorem chances_sum {xs ms : List Int} {bs : List Bk} (h : Bks xs ms bs) : prQ (fun i => chv bs (xs.getD i default)) xs.length = (prS (fun i => ms.getD i default) xs.length : Rat) := by
  rw [by_values xs (chv bs)]
  have := seg_sum (w := fun j => mcV xs (vA xs j)) (fun j => prS_one _ j) (QA_lt xs) (vA_lt xs) h.1
  simp only [Nat.zero_add, Nat.sub_zero] at this
  rw [this, PA_all]
  have h0 : PA xs ms 0 = 0 := rfl
  rw [h0, Int.sub_zero]
/-! ### small fractions -/
theorem sm_int {q : Rat} {z : Int} {N M : Int} (hN : 0 < N) (hNM : N ≤ M) (h : q * (N : Rat) = (z : Rat)) (hz : -M ≤ z ∧ z ≤ M) : Sm M q := by
  have hN' : (N : Rat) ≠ 0 := by exact_mod_cast (show N ≠ 0 by omega)
  have e : q = Rat.divInt z N := by rw [Rat.divInt_eq_div, ← h]; grind
  rw [e]
  exact Sm.fr (by omega) hz ⟨by omega, by omega⟩
theorem chv_int {xs ms : List Int} {bs : List Bk} (h : Bks xs ms bs) (hl : ms.length = xs.length) (hm : allB 0 1 ms = true) (hx : xs.length ≤ 10) {x : Int} (hxm : x ∈ xs) : ∃ z : Int, chv bs x * (2520 : Int) = (z : Rat) ∧ 0 ≤ z ∧ z ≤ 25200 := by
  obtain ⟨g, hg, rfl⟩ := vA_ix hxm
  have hfi := SegL.has (vA_lt xs) (Nat.le_refl _) h.1 hg (by omega)
  have hb := SegL.bd (QA_lt xs) (PA_mn hl hm) (PA_bd hl hm) (QA_bd xs) (Nat.le_refl _) h.1 _ (getD_memG (i := fiU bs (vA xs g)) hfi)
  rw [(chv_fi bs _ hfi).1]
  generalize bs.getD (fiU bs (vA xs g)) default = b at hb
  obtain ⟨k, hk⟩ : ∃ k, 2520 = b.2.1 * k := by
    have : b.2.1 = 1 ∨ b.2.1 = 2 ∨ b.2.1 = 3 ∨ b.2.1 = 4 ∨ b.2.1 = 5 ∨ b.2.1 = 6 ∨ b.2.1 = 7 ∨ b.2.1 = 8 ∨ b.2.1 = 9 ∨ b.2.1 = 10 := by omega
    rcases this with e | e | e | e | e | e | e | e | e | e <;> rw [e]
    · exact ⟨2520, by decide⟩
    · exact ⟨1260, by decide⟩
    · exact ⟨840, by decide⟩
    · exact ⟨630, by decide⟩
    · exact ⟨504, by decide⟩
    · exact ⟨420, by decide⟩
    · exact ⟨360, by decide⟩
    · exact ⟨315, by decide⟩
    · exact ⟨280, by decide⟩
    · exact ⟨252, by decide⟩
  have hk0 : 0 ≤ k ∧ k ≤ 2520 := by
    have h1 : 0 < k := by
      rcases Int.lt_or_le 0 k with c | c
      · exact c
      · have := Int.mul_nonneg (show 0 ≤ b.2.1 by omega) (show 0 ≤ -k by omega)
        rw [Int.mul_neg] at this
        omega
    have h2 := Int.mul_le_mul_of_nonneg_right (show 1 ≤ b.2.1 by omega) (show 0 ≤ k by omega)
    omega
  refine ⟨b.1 * k, ?_, Int.mul_nonneg hb.1.1 hk0.1, ?_⟩
  · have hz : ((b.2.1 : Int) : Rat) ≠ 0 := by exact_mod_cast (show b.2.1 ≠ 0 by omega)
    rw [Rat.divInt_eq_div, hk, Rat.intCast_mul, Rat.intCast_mul]
    grind
  · have h1 := Int.mul_le_mul_of_nonneg_right (show b.1 ≤ 10 by omega) hk0.1
    omega
theorem sums_int {f : Nat → Rat} {c : Int} (hc : 0 ≤ c) : ∀ {n : Nat}, (∀ i, i < n → ∃ z : Int, f i * (2520 : Int) = (z : Rat) ∧ 0 ≤ z ∧ z ≤ c) → ∃ z : Int, prQ f n * (2520 : Int) = (z : Rat) ∧ 0 ≤ z ∧ z ≤ n * c
  | 0, _ => ⟨0, by simp [prQ, Rat.zero_mul], Int.le_refl _, by simp⟩
  | n + 1, h => by
    obtain ⟨z1, a1, a2, a3⟩ := sums_int hc (n := n) fun i hi => h i (by omega)
    obtain ⟨z2, b1, b2, b3⟩ := h n (by omega)
    refine ⟨z1 + z2, ?_, by omega, ?_⟩
    · rw [prQ, Rat.add_mul, a1, b1, Rat.intCast_add]
    · have : ((n + 1 : Nat) : Int) * c = n * c + c := by rw [Int.natCast_succ, Int.add_mul, Int.one_mul]
      omega
theorem prS_list {ms : List Int} : prS (fun i => ms.getD i default) ms.length = ms.sum := by
  rw [prS_sum]
  congr 1
  apply List.ext_getElem
  · simp
  · intro i h1 h2
    simp [List.getD_eq_getElem?_getD, List.getElem?_eq_getElem h2]
theorem divInt_oneR (s : Int) : Rat.divInt s 1 = (s : Rat) := by
  rw [Rat.divInt_eq_div]
  have : ((1 : Int) : Rat) = 1 := rfl
  rw [this]
  grind
theorem chances_total {xs ms : List Int} {bs : List Bk} (h : Bks xs ms bs) (hl : ms.length = xs.length) : Rat.divInt ms.sum 1 = prQ (fun q => chv bs (xs.getD q default)) xs.length := by
  rw [chances_sum h, divInt_oneR, ← hl, prS_list]
theorem getD_mapR {f : Int → Rat} {xs : List Int} {i : Nat} (h : i < xs.length) : (xs.map f).getD i default = f (xs.getD i default) := by
  simp only [List.getD_eq_getElem?_getD, List.getElem?_map, List.getElem?_eq_getElem h]
  rfl
theorem chances_rise {xs ms : List Int} {bs : List Bk} (h : Bks xs ms bs) {x y : Int} (hx : x ∈ xs) (hy : y ∈ xs) (hxy : x < y) : decide (chv bs y < chv bs x) = false := by
  obtain ⟨g, hg, rfl⟩ := vA_ix hx
  obtain ⟨k, hk, rfl⟩ := vA_ix hy
  have hgk : g ≤ k := by
    rcases Nat.lt_or_ge k g with c | c
    · have := vA_lt xs k g c hg; omega
    · exact c
  exact decide_eq_false (Rat.not_lt.2 (chv_mono (QA_lt xs) (vA_lt xs) h.1 h.2 (Nat.zero_le _) hgk hk))
theorem chv_sm {xs ms : List Int} {bs : List Bk} (h : Bks xs ms bs) (hl : ms.length = xs.length) (hm : allB 0 1 ms = true) (hx : xs.length ≤ 10) {i : Nat} (hi : i < xs.length) : Sm 1000000000 (chv bs (xs.getD i default)) := by
  obtain ⟨z, a1, a2, a3⟩ := chv_int h hl hm hx (getD_mem hi)
  exact sm_int (N := 2520) (M := 1000000000) (by decide) (by decide) a1 (by omega)
theorem prQ_sm {xs ms : List Int} {bs : List Bk} (h : Bks xs ms bs) (hl : ms.length = xs.length) (hm : allB 0 1 ms = true) (hx : xs.length ≤ 10) {i : Nat} (hi : i ≤ xs.length) : Sm 1000000000 (prQ (fun q => chv bs (xs.getD q default)) i) := by
  obtain ⟨z, a1, a2, a3⟩ := sums_int (c := 25200) (by decide) (n := i) fun q hq => chv_int h hl hm hx (getD_mem (i := q) (by omega))
  exact sm_int (N := 2520) (M := 1000000000) (by decide) (by decide) a1 (by omega)
end Go.Mv
end
