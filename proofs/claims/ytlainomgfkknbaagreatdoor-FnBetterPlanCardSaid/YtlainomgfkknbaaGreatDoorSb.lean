/- What each function of the program gives on the abstract machine, part 2 of 2. Conditions: those in front of each theorem. -/
import Derived.Test.YtlainomgfkknbaaGreatDoorSa
import Derived.KernelRfl

set_option linter.unusedVariables false
set_option linter.unusedSimpArgs false
namespace Go.Proofs.YtlainomgfkknbaaGreatDoor
open Go Go.Mv Go.Proofs
set_option maxRecDepth 100000
set_option maxHeartbeats 20000000
variable {oG : Option Nat} {rG : Nat}

theorem c6z : F4 Tryz.f26 = [0, 2, 1, 10, 17, 16, 18, 15, 5, 3] := by kernel_rfl
theorem e1l (t : Pl) (hln : (showP t).length ≤ 1048576) (hgd : t.good) : CW (cxT oG) 26 [trK t] = some (tV (showP t), []) := by
 obtain ⟨kk, hkk⟩ : ∃ kk : Nat, t.sz < kk := ⟨_, Nat.lt_succ_self _⟩
 revert t
 induction kk with
 | zero => intro t hln hgd hkk; exact absurd hkk (Nat.not_lt_zero _)
 | succ kk ih =>
  intro t hln hgd hkk
  have hkl := a5w t
  have hkz := fun i => Z2 (t := t) (i := i)
  have hkg := fun i => a4s hgd (i := i)
  have hst := fun i h => b6d (t := t) h (i := i)
  have hall := fun h => b1q (t := t) h
  have hnl : t.op = lW → t.kids.length = 0 ∧ P3 t.ns = showP t := fun e => by obtain ⟨ns, rfl, _⟩ := W0 hgd e; exact ⟨rfl, rfl⟩
  have hvn := d9e hgd
  have hvl := b1g hvn
  have hnb := d1a hvn
  have hll := V9 hnb
  refine E5 rfl Tryz.func26 rfl ⟨by kernel_rfl, rfl, dT rfl, dT rfl, by decide⟩ c6z <| A3 <| A0 <| a0k rfl rfl rfl (fun _ => K3 rfl) (fun _ => rfl) ?_
  intro g1
  refine y_S rfl <| xN [1] [1] rfl <| A3 <| A0 <| y_F rfl <| y_L rfl <| y_S rfl <| xN [1,3] [1] rfl <| A3 <| A3 <| A0 <| y_F rfl <| y_L rfl <| L6 rfl rfl <| xN [1,3,10] [1] rfl ?_
  refine A5 rfl ?_ ?_ <;> intro hc <;> try simp only [SL] at hc
  ·refine A0 <| y_F rfl <| y_L rfl ?_
   refine xC1 rfl rfl (a5z t.ns (by omega) hnb) ⟨rfl, rfl, rfl⟩ rfl rfl fun g13 => ?_
   refine y_S rfl <| xN [1,3] [1] rfl <| A3 <| A3 <| A0 <| y_F rfl <| y_L rfl <| B9 rfl rfl <| y_M rfl <| xN [3,15,16,17] [] rfl <| B0 <| E8 (β := Nat × W8) [(.t 15, _), (.t 16, _)] (fun (z : Nat × W8) => match z with | (i, a) => [(.t 17, iV i), (.t 3, tV a)]) (fun (z : Nat × W8) => match z with | (i, a) => i ≤ t.kids.length ∧ (t.op = lW → a = showP t) ∧ (t.op ≠ lW → a = a2c t i)) (fun (z : Nat × W8) => match z with | (i, a) => t.kids.length - i) (0, _) ⟨rfl, rfl, rfl, rfl, trivial⟩ ⟨Nat.zero_le _, by exact fun e => (hnl e).2, by exact fun h => absurd (by assumption) h⟩ ?_
   intro z hb
   obtain ⟨i, a⟩ := z
   try dsimp only at hb
   obtain ⟨hi1, ha1, ha2⟩ := hb
   refine A3 <| A0 <| F8 rfl rfl <| xN [3,15,16,17,18] [] rfl <| A3 ?_
   refine A5 rfl ?_ ?_ <;> intro hc <;> try simp only [SL] at hc
   ·refine A7 <| A3 <| B0 <| A3 <| A0 <| B8 rfl rfl rfl (fun _ => rfl) (by omega) <| y_I rfl <| y_A rfl (fun _ => rfl) ?_
    intro g5
    refine xB rfl rfl rfl rfl rfl rfl rfl rfl rfl <| xN [3,5,15,16,17] [5] rfl <| A0 <| y_M rfl <| y_B rfl ?_
    have h1 := hst i (fun e => by have := (hnl e).1; omega) (by omega)
    have h2 := hkz i (by omega)
    rw [ha2 (fun e => by have := (hnl e).1; omega)]
    refine xC1 rfl rfl ((by have hi := ih (t.kids.getD i default) (by have := c1u (t := t) (i := i) (by omega); omega) (hkg i (by omega)) (by omega); rw [← L7] at hi; exact hi)) ⟨rfl, rfl, rfl⟩ rfl rfl fun g23 => ?_
    iterate 2 refine L2 rfl rfl (by simp only [G9, List.length_append, List.length_cons, List.length_nil]; omega) ?_
    refine y_S rfl <| xN [3,15,16,17] [] rfl <| A0 <| E4 rfl rfl (C3 (by omega)) <| y_M rfl <| xN [3,15,16,17] [] rfl ?_
    refine ⟨(i + 1, _), ⟨by omega, fun e => by have := (hnl e).1; omega, fun e => by rw [a2c]; simp⟩, (by simp only; omega), ⟨rfl, rfl, rfl, rfl, trivial⟩⟩
   refine E3 <| A3 <| A0 <| y_M rfl <| y_S rfl <| xN [2] [] rfl <| A8 <| C2 rfl rfl trivial ?_
   by_cases e : t.op = lW
   ·rw [ha1 e]
   rw [ha2 e, show i = t.kids.length by omega, hall e]
  refine A7 <| A3 <| A3 <| A0 <| y_F rfl <| y_L rfl <| B9 rfl rfl <| y_M rfl <| xN [3,15,16,17] [] rfl <| B0 <| E8 (β := Nat × W8) [(.t 15, _), (.t 16, _)] (fun (z : Nat × W8) => match z with | (i, a) => [(.t 17, iV i), (.t 3, tV a)]) (fun (z : Nat × W8) => match z with | (i, a) => i ≤ t.kids.length ∧ (t.op = lW → a = showP t) ∧ (t.op ≠ lW → a = a2c t i)) (fun (z : Nat × W8) => match z with | (i, a) => t.kids.length - i) (0, _) ⟨rfl, rfl, rfl, rfl, trivial⟩ ⟨Nat.zero_le _, by exact fun e => absurd e (by assumption), by exact fun _ => rfl⟩ ?_
  intro z hb
  obtain ⟨i, a⟩ := z
  try dsimp only at hb
  obtain ⟨hi1, ha1, ha2⟩ := hb
  refine A3 <| A0 <| F8 rfl rfl <| xN [3,15,16,17,18] [] rfl <| A3 ?_
  refine A5 rfl ?_ ?_ <;> intro hc <;> try simp only [SL] at hc
  ·refine A7 <| A3 <| B0 <| A3 <| A0 <| B8 rfl rfl rfl (fun _ => rfl) (by omega) <| y_I rfl <| y_A rfl (fun _ => rfl) ?_
   intro g5
   refine xB rfl rfl rfl rfl rfl rfl rfl rfl rfl <| xN [3,5,15,16,17] [5] rfl <| A0 <| y_M rfl <| y_B rfl ?_
   have h1 := hst i (fun e => by have := (hnl e).1; omega) (by omega)
   have h2 := hkz i (by omega)
   rw [ha2 (fun e => by have := (hnl e).1; omega)]
   refine xC1 rfl rfl ((by have hi := ih (t.kids.getD i default) (by have := c1u (t := t) (i := i) (by omega); omega) (hkg i (by omega)) (by omega); rw [← L7] at hi; exact hi)) ⟨rfl, rfl, rfl⟩ rfl rfl fun g23 => ?_
   iterate 2 refine L2 rfl rfl (by simp only [G9, List.length_append, List.length_cons, List.length_nil]; omega) ?_
   refine y_S rfl <| xN [3,15,16,17] [] rfl <| A0 <| E4 rfl rfl (C3 (by omega)) <| y_M rfl <| xN [3,15,16,17] [] rfl ?_
   refine ⟨(i + 1, _), ⟨by omega, fun e => by have := (hnl e).1; omega, fun e => by rw [a2c]; simp⟩, (by simp only; omega), ⟨rfl, rfl, rfl, rfl, trivial⟩⟩
  refine E3 <| A3 <| A0 <| y_M rfl <| y_S rfl <| xN [2] [] rfl <| A8 <| C2 rfl rfl trivial ?_
  by_cases e : t.op = lW
  ·rw [ha1 e]
  rw [ha2 e, show i = t.kids.length by omega, hall e]

theorem b4m : F4 Tryz.f58 = [0, 2, 4, 10, 5, 3, 27] := by kernel_rfl
theorem d3h (xs : List Int) (hl : xs.length ≤ 1000) : CW (cxT oG) 58 [L xs] = some (.own 1 ((a0u xs).map iV), []) := by
 refine E5 rfl Tryz.func58 rfl ⟨by kernel_rfl, rfl, dT rfl, dT rfl, by decide⟩ b4m <| A3 <| A0 ?_
 (refine B2 rfl rfl (fun _ => rfl) ?_; intro g2)
 refine xN [0] [] rfl <| A3 <| A0 <| B4 (es := List.map iV []) rfl rfl (dT rfl) rfl rfl (fun _ => B1 (A6 fun _ => rfl)) (fun _ => rfl) ?_
 intro g6
 (refine xO rfl rfl (by simp) rfl (fun _ => rfl) (fun _ => rfl) ?_; intro g3)
 refine xN [0,3] [3] rfl <| A3 <| A3 <| A0 <| y_S rfl <| xN [0,3,4] [3] rfl <| B0 <| E8 (β := Nat × List Int × Nat) [(.t 0, _)] (fun (z : Nat × List Int × Nat) => match z with | (i, out, g) => [(.t 4, iV i), (.t 3, .sl 3 g none 0 out.length), (.h 3, .obj g 0 1 (out.map iV))]) (fun (z : Nat × List Int × Nat) => match z with | (i, out, g) => i ≤ xs.length ∧ out = a0u (xs.take i)) (fun (z : Nat × List Int × Nat) => match z with | (i, out, g) => xs.length - i) (0, [], _) ⟨rfl, rfl, rfl, rfl, trivial⟩ ⟨Nat.zero_le _, rfl⟩ ?_
 intro z hb
 obtain ⟨i, out, g⟩ := z
 try dsimp only at hb
 obtain ⟨hi1, hi2⟩ := hb
 have hol : out.length = i := by rw [hi2, a3v, List.length_take]; omega
 refine A3 <| A3 <| A0 <| y_M rfl <| y_M rfl <| B9 rfl rfl <| F8 rfl rfl <| xN [0,3,4,10] [3] rfl ?_
 refine A5 rfl ?_ ?_ <;> intro hc <;> try simp only [SL] at hc
 ·refine A7 <| A3 <| B0 <| A3 <| A0 <| y_S rfl <| xN [0,3,4,5] [3] rfl <| A3 <| B0 <| E8 (β := Nat) [(.t 0, _), (.t 3, _), (.t 4, _), (.h 3, _)] (fun (k : Nat) => [(.t 5, iV k)]) (fun (k : Nat) => k ≤ out.length ∧ ∀ j, j < k → out.getD j default ≤ xs.getD i default) (fun (k : Nat) => out.length - k) 0 ⟨rfl, rfl, rfl, rfl, rfl, trivial⟩ ⟨Nat.zero_le _, fun j h => by omega⟩ ?_
  intro k hb
  obtain ⟨hk1, hk2⟩ := hb
  refine A3 <| A3 <| A0 <| y_M rfl <| y_M rfl <| I5 rfl rfl <| F8 rfl rfl <| y_M rfl ?_
  refine C6 rfl rfl ?_ ?_ <;> intro hg0 <;> have hg := hg0 <;> try simp only [SG] at hg
  ·refine y_M rfl <| gT rfl rfl <| y_M rfl <| gT rfl rfl <| D9 rfl rfl rfl rfl (by omega) (by (simp; done)) rfl <| gT rfl rfl <| G2 rfl rfl (by omega) (fun _ => rfl) (fun _ => rfl) rfl <| gT rfl rfl <| y_M rfl <| gT rfl rfl <| y_M rfl <| gT rfl rfl <| B8 rfl rfl rfl (fun _ => rfl) (by omega) <| gT rfl rfl <| y_I rfl <| gT rfl rfl <| a7i rfl rfl <| F0 rfl (by assumption) rfl rfl ?_
   refine J6 ⟨fun _ => ⟨by decide +kernel, by decide +kernel⟩, [(.t 0, _), (.t 3, _), (.t 4, _), (.t 5, _), (.t 27, _), (.h 3, _)], ⟨rfl, rfl, rfl, rfl, rfl, rfl, rfl, rfl, rfl, rfl, rfl, rfl, trivial⟩, ?_⟩
   refine A5 rfl ?_ ?_ <;> intro hc <;> try simp only [SL] at hc
   ·refine A7 <| B0 <| A0 <| y_M rfl <| E4 rfl rfl (C3 (by omega)) <| y_S rfl <| xN [0,3,4,5] [3] rfl ?_
    refine ⟨k + 1, ⟨by omega, fun a ha => by rcases Nat.lt_succ_iff_lt_or_eq.1 ha with h | h; exact hk2 a h; subst h; exact hc⟩, (by omega), ⟨rfl, rfl, rfl, rfl, rfl, trivial⟩⟩
   refine E3 <| A0 <| B4 (es := List.map iV []) rfl rfl (dT rfl) rfl rfl (fun _ => B1 (A6 fun _ => rfl)) (fun _ => rfl) ?_
   intro g30
   refine y_M rfl <| y_M rfl <| b7c rfl rfl rfl (H0 rfl) (by omega) rfl <| a1c rfl rfl rfl rfl (by decide) rfl (by (simp; done)) (by omega) rfl rfl rfl (dT rfl) (fun _ => ⟨rfl, rfl, rfl⟩) (by simp only [G9]; (simp only [List.length_nil, List.length_cons, List.length_append, Nat.zero_add, List.length_map]; omega)) (fun _ => rfl) ?_
   intro g34
   refine y_M rfl <| y_M rfl <| B8 rfl rfl rfl (fun _ => rfl) (by omega) <| y_I rfl <| B4 (es := List.map iV [_]) rfl rfl (dT rfl) rfl rfl (fun _ => B1 (A6 fun _ => rfl)) (fun _ => rfl) ?_
   intro g39
   refine Q0 rfl rfl rfl rfl (by (simp; done)) (by simp) (by decide) rfl rfl rfl rfl (dT rfl) (fun _ => ⟨rfl, rfl⟩) (by simp only [G9]; (simp; omega)) (fun _ => rfl) ?_
   intro g40
   refine y_M rfl <| y_M rfl <| b2n rfl rfl rfl H8 (H0 rfl) (by omega) rfl <| a1c rfl rfl rfl rfl (by decide) rfl (by (simp; done)) (by omega) rfl rfl rfl (dT rfl) (fun _ => ⟨rfl, rfl, rfl⟩) (by simp only [G9]; (simp; omega)) (fun _ => rfl) ?_
   intro g44
   (refine xO rfl rfl (by simp) rfl (fun _ => rfl) (fun _ => rfl) ?_; intro g3)
   refine J6 ⟨fun _ => ⟨by decide +kernel, by decide +kernel⟩, [(.t 0, _), (.t 3, _), (.t 4, _), (.h 3, _)], ⟨rfl, rfl, rfl, rfl, rfl, rfl, rfl, rfl, trivial⟩, ?_⟩
   refine A0 <| y_M rfl <| E4 rfl rfl (C3 (by omega)) <| y_S rfl <| xN [0,3,4] [3] rfl ?_
   refine ⟨(i + 1, _, _), ?_, (by simp only; omega), ⟨rfl, rfl, rfl, rfl, trivial⟩⟩
   exact ⟨by omega, by rw [b4x (by omega), ← hi2]; exact b2p (hi2 ▸ Y2 _) hk1 hk2 fun h => by omega⟩
  iterate 8 refine gF rfl rfl ?_
  refine F3 rfl (by assumption) rfl rfl ?_
  refine J6 ⟨fun _ => ⟨by decide +kernel, by decide +kernel⟩, [(.t 0, _), (.t 3, _), (.t 4, _), (.t 5, _), (.t 27, _), (.h 3, _)], ⟨rfl, rfl, rfl, rfl, rfl, rfl, rfl, rfl, rfl, rfl, rfl, rfl, trivial⟩, ?_⟩
  refine A5 rfl (fun hc => absurd hc (by decide)) (fun hc => ?_)
  refine E3 <| A0 <| B4 (es := List.map iV []) rfl rfl (dT rfl) rfl rfl (fun _ => B1 (A6 fun _ => rfl)) (fun _ => rfl) ?_
  intro g30
  refine y_M rfl <| y_M rfl <| b7c rfl rfl rfl (H0 rfl) (by omega) rfl <| a1c rfl rfl rfl rfl (by decide) rfl (by (simp; done)) (by omega) rfl rfl rfl (dT rfl) (fun _ => ⟨rfl, rfl, rfl⟩) (by simp only [G9]; (simp only [List.length_nil, List.length_cons, List.length_append, Nat.zero_add, List.length_map]; omega)) (fun _ => rfl) ?_
  intro g34
  refine y_M rfl <| y_M rfl <| B8 rfl rfl rfl (fun _ => rfl) (by omega) <| y_I rfl <| B4 (es := List.map iV [_]) rfl rfl (dT rfl) rfl rfl (fun _ => B1 (A6 fun _ => rfl)) (fun _ => rfl) ?_
  intro g39
  refine Q0 rfl rfl rfl rfl (by (simp; done)) (by simp) (by decide) rfl rfl rfl rfl (dT rfl) (fun _ => ⟨rfl, rfl⟩) (by simp only [G9]; (simp; omega)) (fun _ => rfl) ?_
  intro g40
  refine y_M rfl <| y_M rfl <| b2n rfl rfl rfl H8 (H0 rfl) (by omega) rfl <| a1c rfl rfl rfl rfl (by decide) rfl (by (simp; done)) (by omega) rfl rfl rfl (dT rfl) (fun _ => ⟨rfl, rfl, rfl⟩) (by simp only [G9]; (simp; omega)) (fun _ => rfl) ?_
  intro g44
  (refine xO rfl rfl (by simp) rfl (fun _ => rfl) (fun _ => rfl) ?_; intro g3)
  refine J6 ⟨fun _ => ⟨by decide +kernel, by decide +kernel⟩, [(.t 0, _), (.t 3, _), (.t 4, _), (.h 3, _)], ⟨rfl, rfl, rfl, rfl, rfl, rfl, rfl, rfl, trivial⟩, ?_⟩
  refine A0 <| y_M rfl <| E4 rfl rfl (C3 (by omega)) <| y_S rfl <| xN [0,3,4] [3] rfl ?_
  refine ⟨(i + 1, _, _), ?_, (by simp only; omega), ⟨rfl, rfl, rfl, rfl, trivial⟩⟩
  exact ⟨by omega, by rw [b4x (by omega), ← hi2]; exact b2p (hi2 ▸ Y2 _) hk1 hk2 fun h => by omega⟩
 refine E3 <| A3 <| A0 <| y_M rfl ?_
 (refine xO rfl rfl (by simp) rfl (fun _ => rfl) (fun _ => rfl) ?_; intro g2)
 refine xN [2] [2] rfl <| A8 <| N4 rfl rfl (by simp) (by exact A6 fun _ => rfl) trivial ?_
 rw [hi2, List.take_of_length_le (by omega)]

theorem c4d : F4 Tryz.f74 = [0, 2, 8, 7, 9, 6, 5, 3] := by kernel_rfl
theorem e1o (x : List Int) (hv : vl x = true) : CW (cxT oG) 74 [L x] = some (iV x.sum, []) := by
 have hx40 := (S4.1 hv).1
 have hgb := a0y hv
 refine E5 rfl Tryz.func74 rfl ⟨by kernel_rfl, rfl, dT rfl, dT rfl, by decide⟩ c4d <| A3 <| A0 <| y_S rfl <| xN [0] [] rfl <| A3 <| A0 <| y_S rfl <| xN [0,3] [] rfl <| A3 <| A3 <| A0 <| y_M rfl <| B9 rfl rfl <| y_M rfl <| xN [3,6,7,8] [] rfl <| B0 <| E8 (β := Nat × Int) [(.t 6, _), (.t 7, _)] (fun (z : Nat × Int) => match z with | (i, a) => [(.t 8, iV i), (.t 3, iV a)]) (fun (z : Nat × Int) => match z with | (i, a) => i ≤ x.length ∧ a = prS (H6 x) i) (fun (z : Nat × Int) => match z with | (i, a) => x.length - i) (0, 0) ⟨rfl, rfl, rfl, rfl, trivial⟩ ⟨Nat.zero_le _, rfl⟩ ?_
 intro z hb
 obtain ⟨i, a⟩ := z
 try dsimp only at hb
 obtain ⟨hi1, ha⟩ := hb
 have hsb := c5z hv i
 have hgi : -100000 ≤ x.getD i default ∧ x.getD i default ≤ 100000 := hgb i
 rw [← ha] at hsb
 refine A3 <| A0 <| F8 rfl rfl <| xN [3,6,7,8,9] [] rfl <| A3 ?_
 refine A5 rfl ?_ ?_ <;> intro hc <;> try simp only [SL] at hc
 ·refine A7 <| A3 <| B0 <| A3 <| A0 <| B8 rfl rfl rfl (fun _ => rfl) (by omega) <| y_I rfl <| y_S rfl <| xN [3,5,6,7,8] [] rfl <| A0 <| y_M rfl <| y_M rfl <| E4 rfl rfl (C3 (by omega)) <| y_S rfl <| xN [3,6,7,8] [] rfl <| A0 <| E4 rfl rfl (C3 (by omega)) <| y_M rfl <| xN [3,6,7,8] [] rfl ?_
  refine ⟨(i + 1, a + x.getD i default), ⟨by omega, by rw [prS, ha]; rfl⟩, (by simp only; omega), ⟨rfl, rfl, rfl, rfl, trivial⟩⟩
 refine E3 <| A3 <| A0 <| y_M rfl <| y_S rfl <| xN [2] [] rfl <| A8 <| C2 rfl rfl trivial ?_
 rw [ha, show i = x.length by omega, c0o]

theorem c4i : F4 Tryz.f61 = [0, 2, 4, 8, 3] := by kernel_rfl
theorem e1j (x : List Int) (hv : vl x = true) : CW (cxT oG) 61 [L x] = some (iV x.sum, []) := by
 have hx40 := (S4.1 hv).1
 have hgb := a0y hv
 refine E5 rfl Tryz.func61 rfl ⟨by kernel_rfl, rfl, dT rfl, dT rfl, by decide⟩ c4i <| A3 <| A0 <| y_S rfl <| xN [0] [] rfl <| A3 <| A0 <| y_S rfl <| xN [0,3] [] rfl <| A3 <| A3 <| A0 <| y_S rfl <| xN [0,3,4] [] rfl <| B0 <| E8 (β := Nat × Int) [(.t 0, _)] (fun (z : Nat × Int) => match z with | (i, a) => [(.t 4, iV i), (.t 3, iV a)]) (fun (z : Nat × Int) => match z with | (i, a) => i ≤ x.length ∧ a = prS (H6 x) i) (fun (z : Nat × Int) => match z with | (i, a) => x.length - i) (0, 0) ⟨rfl, rfl, rfl, trivial⟩ ⟨Nat.zero_le _, rfl⟩ ?_
 intro z hb
 obtain ⟨i, a⟩ := z
 try dsimp only at hb
 obtain ⟨hi1, ha⟩ := hb
 have hsb := c5z hv i
 have hgi : -100000 ≤ x.getD i default ∧ x.getD i default ≤ 100000 := hgb i
 rw [← ha] at hsb
 refine A3 <| A3 <| A0 <| y_M rfl <| y_M rfl <| B9 rfl rfl <| F8 rfl rfl <| xN [0,3,4,8] [] rfl ?_
 refine A5 rfl ?_ ?_ <;> intro hc <;> try simp only [SL] at hc
 ·refine A7 <| A3 <| B0 <| A0 <| y_M rfl <| y_M rfl <| y_M rfl <| B8 rfl rfl rfl (fun _ => rfl) (by omega) <| y_I rfl <| E4 rfl rfl (C3 (by omega)) <| y_S rfl <| xN [0,3,4] [] rfl <| A0 <| y_M rfl <| E4 rfl rfl (C3 (by omega)) <| y_S rfl <| xN [0,3,4] [] rfl ?_
  refine ⟨(i + 1, a + x.getD i default), ⟨by omega, by rw [prS, ha]; rfl⟩, (by simp only; omega), ⟨rfl, rfl, rfl, trivial⟩⟩
 refine E3 <| A3 <| A0 <| y_M rfl <| y_S rfl <| xN [2] [] rfl <| A8 <| C2 rfl rfl trivial ?_
 rw [ha, show i = x.length by omega, c0o]

theorem b8k : F4 Tryz.f73 = [0, 2, 13, 12, 14, 11, 4, 3, 23, 22, 24, 21, 5, 7, 27, 37] := by kernel_rfl
theorem d7l (x : List Int) (hv : vl x = true) : CW (cxT oG) 73 [L x] = some (.own 1 ((rkI x).map iV), []) := by
 have hx40 := (S4.1 hv).1
 have hgb := a0y hv
 refine E5 rfl Tryz.func73 rfl ⟨by kernel_rfl, rfl, dT rfl, dT rfl, by decide⟩ b8k <| A3 <| A0 ?_
 (refine B2 rfl rfl (fun _ => rfl) ?_; intro g2)
 refine xN [0] [] rfl <| A3 <| A0 <| y_M rfl <| B9 rfl rfl <| c4z (f := iV) (x0 := 0) rfl rfl rfl rfl rfl (by simp only [G9]; omega) (dT rfl) (fun _ => B1 (by exact A6 fun _ => rfl)) (fun _ => rfl) ?_
 intro g10
 (refine xO rfl rfl (by simp) rfl (fun _ => rfl) (fun _ => rfl) ?_; intro g3)
 refine xN [0,3] [3] rfl <| A3 <| A3 <| A0 <| y_M rfl <| B9 rfl rfl <| y_M rfl <| xN [0,3,11,12,13] [3] rfl <| B0 ?_
 refine E8 (β := Nat × List Int) [(.t 0, _), (.t 3, _), (.t 11, _), (.t 12, _)] (fun (z : Nat × List Int) => match z with | (i, l) => [(.t 13, iV i), (.h 3, .obj g3 0 1 (l.map iV))]) (fun (z : Nat × List Int) => match z with | (i, l) => i ≤ x.length ∧ T8 x.length (fun i => 1 + prS (rkT x (H6 x i)) x.length) (fun _ => 0) i l) (fun (z : Nat × List Int) => match z with | (i, l) => x.length - i) (0, List.replicate x.length 0) ⟨rfl, rfl, rfl, rfl, rfl, rfl, trivial⟩ ⟨Nat.zero_le _, by simp, fun j hj => by rw [if_neg (by omega)]; simp [List.getD_eq_getElem?_getD, hj]⟩ ?_
 intro z hb
 obtain ⟨i, l⟩ := z
 try dsimp only at hb
 obtain ⟨hi1, hf⟩ := hb
 have hfl := hf.1
 refine A3 <| A0 <| F8 rfl rfl <| xN [0,3,11,12,13,14] [3] rfl <| A3 ?_
 refine A5 rfl ?_ ?_ <;> intro hc <;> try simp only [SL] at hc
 ·refine A7 <| A3 <| B0 <| A3 <| A0 <| y_M rfl <| B8 rfl rfl rfl (fun _ => rfl) (by omega) <| y_I rfl <| y_S rfl <| y_S rfl <| xN [0,3,4,5,11,12,13] [3] rfl <| A3 <| A0 <| y_M rfl <| y_M rfl <| D9 rfl rfl rfl rfl (by omega) (by (simp; omega)) rfl <| K6 rfl rfl rfl (by omega) (fun _ _ => ⟨rfl, rfl, dT rfl, dT rfl, rfl, rfl⟩) (by decide) (by exact B1 (A6 fun _ => rfl)) <| xN [0,3,4,5,11,12,13] [3] rfl <| A3 <| A0 <| y_M rfl <| B9 rfl rfl <| y_M rfl <| xN [0,3,4,5,11,12,13,21,22,23] [3] rfl <| B0 <| E8 (β := Nat × List Int) [(.t 0, _), (.t 3, _), (.t 4, _), (.t 5, _), (.t 11, _), (.t 12, _), (.t 13, _), (.t 21, _), (.t 22, _)] (fun (z : Nat × List Int) => match z with | (k, l2) => [(.t 23, iV k), (.h 3, .obj g3 0 1 (l2.map iV))]) (fun (z : Nat × List Int) => match z with | (k, l2) => k ≤ x.length ∧ l2 = l.set i (1 + prS (rkT x (H6 x i)) k)) (fun (z : Nat × List Int) => match z with | (k, l2) => x.length - k) (0, l.set i 1) ⟨rfl, rfl, rfl, rfl, rfl, rfl, rfl, rfl, rfl, rfl, rfl, trivial⟩ ⟨Nat.zero_le _, rfl⟩ ?_
  intro z hb
  obtain ⟨k, l2⟩ := z
  try dsimp only at hb
  obtain ⟨hk1, hl2⟩ := hb
  have hl2l : l2.length = x.length := by rw [hl2]; simp [hfl]
  have hl2i : l2.getD i default = 1 + prS (rkT x (H6 x i)) k := by rw [hl2, a6d _ _ _ _ (by omega), if_pos rfl]
  have hrb := e2a x (H6 x i) k
  refine A3 <| A0 <| F8 rfl rfl <| xN [0,3,4,5,11,12,13,21,22,23,24] [3] rfl <| A3 ?_
  refine A5 rfl ?_ ?_ <;> intro hc <;> try simp only [SL] at hc
  ·refine A7 <| A3 <| B0 <| A3 <| A0 <| B8 rfl rfl rfl (fun _ => rfl) (by omega) <| y_I rfl <| y_S rfl <| xN [0,3,4,5,7,11,12,13,21,22,23] [3] rfl <| B0 <| A3 <| A0 <| y_M rfl <| y_M rfl <| F8 rfl rfl <| y_S rfl <| xN [0,3,4,5,7,11,12,13,21,22,23,27] [3] rfl ?_
   refine A5 rfl ?_ ?_ <;> intro hc <;> try simp only [SL] at hc
   ·refine A0 <| y_M rfl <| y_M rfl <| D9 rfl rfl rfl rfl (by omega) (by (simp; omega)) rfl <| G2 rfl rfl (by omega) (fun _ => rfl) (fun _ => rfl) rfl <| E4 rfl rfl (C3 (by omega)) <| D9 rfl rfl rfl rfl (by omega) (by (simp; omega)) rfl <| K6 rfl rfl rfl (by omega) (fun _ _ => ⟨rfl, rfl, dT rfl, dT rfl, rfl, rfl⟩) (by decide) (by exact B1 (A6 fun _ => rfl)) <| xN [0,3,4,5,11,12,13,21,22,23] [3] rfl <| A0 <| E4 rfl rfl (C3 (by omega)) <| y_M rfl <| xN [0,3,4,5,11,12,13,21,22,23] [3] rfl ?_
    refine ⟨(k + 1, l2.set i (l2.getD i default + 2)), ?_, (by simp only; omega), ⟨rfl, rfl, rfl, rfl, rfl, rfl, rfl, rfl, rfl, rfl, rfl, trivial⟩⟩
    have hrs : prS (rkT x (H6 x i)) (k + 1) = prS (rkT x (H6 x i)) k + rkT x (H6 x i) k := rfl
    exact ⟨by omega, by rw [hl2i, hl2, List.set_set, hrs, rkT, if_pos (by assumption), Int.add_assoc]⟩
   refine A3 <| A0 <| y_M rfl <| y_M rfl <| M9 rfl rfl <| y_S rfl <| xN [0,3,4,5,11,12,13,21,22,23,37] [3] rfl ?_
   refine A5 rfl ?_ ?_ <;> intro hc <;> try simp only [SL] at hc
   ·refine A0 <| y_M rfl <| y_M rfl <| D9 rfl rfl rfl rfl (by omega) (by (simp; omega)) rfl <| G2 rfl rfl (by omega) (fun _ => rfl) (fun _ => rfl) rfl <| E4 rfl rfl (C3 (by omega)) <| D9 rfl rfl rfl rfl (by omega) (by (simp; omega)) rfl <| K6 rfl rfl rfl (by omega) (fun _ _ => ⟨rfl, rfl, dT rfl, dT rfl, rfl, rfl⟩) (by decide) (by exact B1 (A6 fun _ => rfl)) <| xN [0,3,4,5,11,12,13,21,22,23] [3] rfl <| A0 <| E4 rfl rfl (C3 (by omega)) <| y_M rfl <| xN [0,3,4,5,11,12,13,21,22,23] [3] rfl ?_
    refine ⟨(k + 1, l2.set i (l2.getD i default + 1)), ?_, (by simp only; omega), ⟨rfl, rfl, rfl, rfl, rfl, rfl, rfl, rfl, rfl, rfl, rfl, trivial⟩⟩
    have hrs : prS (rkT x (H6 x i)) (k + 1) = prS (rkT x (H6 x i)) k + rkT x (H6 x i) k := rfl
    exact ⟨by omega, by rw [hl2i, hl2, List.set_set, hrs, rkT, if_neg (by unfold H6; omega), if_pos (by assumption), Int.add_assoc]⟩
   refine A7 <| A0 <| E4 rfl rfl (C3 (by omega)) <| y_M rfl <| xN [0,3,4,5,11,12,13,21,22,23] [3] rfl ?_
   refine ⟨(k + 1, l2), ?_, (by simp only; omega), ⟨rfl, rfl, rfl, rfl, rfl, rfl, rfl, rfl, rfl, rfl, rfl, trivial⟩⟩
   have hrs : prS (rkT x (H6 x i)) (k + 1) = prS (rkT x (H6 x i)) k + rkT x (H6 x i) k := rfl
   exact ⟨by omega, by rw [hl2, hrs, rkT, if_neg (by unfold H6; omega), if_neg (by unfold H6; omega), Int.add_zero]⟩
  refine E3 <| A0 <| E4 rfl rfl (C3 (by omega)) <| y_M rfl <| xN [0,3,11,12,13] [3] rfl ?_
  refine ⟨(i + 1, l2), ?_, (by simp only; omega), ⟨rfl, rfl, rfl, rfl, rfl, rfl, trivial⟩⟩
  exact ⟨by omega, by rw [hl2]; exact hf.step (by omega) (by rw [show k = x.length by omega])⟩
 refine E3 <| A3 <| A0 <| y_M rfl ?_
 (refine H9 rfl rfl (by (simp; omega)) rfl (fun _ => (B1 (by exact A6 fun _ => rfl))) (fun _ => rfl) ?_; intro g2)
 refine xN [2] [2] rfl <| A8 <| N4 rfl rfl (by (simp [hfl]; done)) (by exact A6 fun _ => rfl) trivial ?_
 rw [hf.fin (by omega)]
 rfl

theorem b8h : F4 Tryz.f60 = [0, 2, 4, 12, 7, 18, 29, 5, 40, 6, 3] := by kernel_rfl
theorem d6s (x : List Int) (hv : vl x = true) : CW (cxT oG) 60 [L x] = some (.own 1 ((rkI x).map iV), []) := by
 have hx40 := (S4.1 hv).1
 have hgb := a0y hv
 refine E5 rfl Tryz.func60 rfl ⟨by kernel_rfl, rfl, dT rfl, dT rfl, by decide⟩ b8h <| A3 <| A0 ?_
 (refine B2 rfl rfl (fun _ => rfl) ?_; intro g2)
 refine xN [0] [] rfl <| A3 <| A0 <| B4 (es := List.map iV []) rfl rfl (dT rfl) rfl rfl (fun _ => B1 (A6 fun _ => rfl)) (fun _ => rfl) ?_
 intro g8
 (refine xO rfl rfl (by simp) rfl (fun _ => rfl) (fun _ => rfl) ?_; intro g3)
 refine xN [0,3] [3] rfl <| A3 <| A3 <| A0 <| y_S rfl <| xN [0,3,4] [3] rfl <| B0 <| E8 (β := Nat × List Int × Nat) [(.t 0, _)] (fun (z : Nat × List Int × Nat) => match z with | (i, l, g) => [(.t 4, iV i), (.h 3, .obj g 0 1 (l.map iV)), (.t 3, .sl 3 g none 0 l.length)]) (fun (z : Nat × List Int × Nat) => match z with | (i, l, g) => i ≤ x.length ∧ l = (List.range i).map fun i => 1 + prS (rkT x (H6 x i)) x.length) (fun (z : Nat × List Int × Nat) => match z with | (i, l, g) => x.length - i) (0, [], _) ⟨rfl, rfl, rfl, rfl, trivial⟩ ⟨Nat.zero_le _, rfl⟩ ?_
 intro z hb
 obtain ⟨i, l, g⟩ := z
 try dsimp only at hb
 obtain ⟨hi1, hl⟩ := hb
 have hll : l.length = i := by rw [hl]; simp
 refine A3 <| A3 <| A0 <| y_M rfl <| y_M rfl <| B9 rfl rfl <| F8 rfl rfl <| xN [0,3,4,12] [3] rfl ?_
 refine A5 rfl ?_ ?_ <;> intro hc <;> try simp only [SL] at hc
 ·refine A7 <| A3 <| B0 <| A3 <| A0 <| y_S rfl <| xN [0,3,4,5] [3] rfl <| A3 <| A0 <| y_S rfl <| xN [0,3,4,5,6] [3] rfl <| A3 <| A3 <| A0 <| y_S rfl <| xN [0,3,4,5,6,7] [3] rfl <| B0 <| E8 (β := Nat × Int × Int) [(.t 0, _), (.t 3, _), (.t 4, _), (.h 3, _)] (fun (z : Nat × Int × Int) => match z with | (k, a, b) => [(.t 7, iV k), (.t 5, iV a), (.t 6, iV b)]) (fun (z : Nat × Int × Int) => match z with | (k, a, b) => k ≤ x.length ∧ 2 * a + b = prS (rkT x (H6 x i)) k ∧ 0 ≤ a ∧ a ≤ k ∧ 0 ≤ b ∧ b ≤ k) (fun (z : Nat × Int × Int) => match z with | (k, a, b) => x.length - k) (0, 0, 0) ⟨rfl, rfl, rfl, rfl, rfl, rfl, rfl, trivial⟩ ⟨Nat.zero_le _, rfl, by decide, by decide, by decide, by decide⟩ ?_
  intro z hb
  obtain ⟨k, a, b⟩ := z
  try dsimp only at hb
  obtain ⟨hk1, hab, ha0, ha1, hb0, hb1⟩ := hb
  refine A3 <| A3 <| A0 <| y_M rfl <| y_M rfl <| B9 rfl rfl <| F8 rfl rfl <| xN [0,3,4,5,6,7,18] [3] rfl ?_
  refine A5 rfl ?_ ?_ <;> intro hc <;> try simp only [SL] at hc
  ·refine A7 <| A3 <| B0 <| A3 <| A3 <| A0 <| y_M rfl <| y_M rfl <| B8 rfl rfl rfl (fun _ => rfl) (by omega) <| y_I rfl <| y_M rfl <| y_M rfl <| B8 rfl rfl rfl (fun _ => rfl) (by omega) <| y_I rfl <| F8 rfl rfl ?_
   refine J6 ⟨fun _ => ⟨by decide +kernel, by decide +kernel⟩, [(.t 0, _), (.t 3, _), (.t 4, _), (.t 5, _), (.t 6, _), (.t 7, _), (.t 29, _), (.h 3, _)], ⟨rfl, rfl, rfl, rfl, rfl, rfl, rfl, rfl, rfl, rfl, rfl, rfl, rfl, rfl, rfl, rfl, trivial⟩, ?_⟩
   refine A5 rfl ?_ ?_ <;> intro hc <;> try simp only [SL] at hc
   ·refine A0 <| y_M rfl <| E4 rfl rfl (C3 (by omega)) <| y_S rfl <| xN [0,3,4,5,6,7] [3] rfl <| A3 <| A0 <| y_M rfl <| y_M rfl <| B8 rfl rfl rfl (fun _ => rfl) (by omega) <| y_I rfl <| y_M rfl <| y_M rfl <| B8 rfl rfl rfl (fun _ => rfl) (by omega) <| y_I rfl <| M9 rfl rfl ?_
    refine J6 ⟨fun _ => ⟨by decide +kernel, by decide +kernel⟩, [(.t 0, _), (.t 3, _), (.t 4, _), (.t 5, _), (.t 6, _), (.t 7, _), (.t 40, _), (.h 3, _)], ⟨rfl, rfl, rfl, rfl, rfl, rfl, rfl, rfl, rfl, rfl, rfl, rfl, rfl, rfl, rfl, rfl, trivial⟩, ?_⟩
    refine A5 rfl ?_ ?_ <;> intro hc <;> try simp only [SL] at hc
    ·refine A0 <| y_M rfl <| E4 rfl rfl (C3 (by omega)) <| y_S rfl <| xN [0,3,4,5,6,7] [3] rfl <| A0 <| y_M rfl <| E4 rfl rfl (C3 (by omega)) <| y_S rfl <| xN [0,3,4,5,6,7] [3] rfl ?_
     refine ⟨(k + 1, a + 1, b + 1), ?_, (by simp only; omega), ⟨rfl, rfl, rfl, rfl, rfl, rfl, rfl, trivial⟩⟩
     have hrs : prS (rkT x (H6 x i)) (k + 1) = prS (rkT x (H6 x i)) k + rkT x (H6 x i) k := rfl
     exact ⟨by omega, by rw [hrs, ← hab, rkT, if_pos (by assumption)]; omega, by omega, by omega, by omega, by omega⟩
    refine A7 <| A0 <| y_M rfl <| E4 rfl rfl (C3 (by omega)) <| y_S rfl <| xN [0,3,4,5,6,7] [3] rfl ?_
    refine ⟨(k + 1, a + 1, b), ?_, (by simp only; omega), ⟨rfl, rfl, rfl, rfl, rfl, rfl, rfl, trivial⟩⟩
    have hrs : prS (rkT x (H6 x i)) (k + 1) = prS (rkT x (H6 x i)) k + rkT x (H6 x i) k := rfl
    exact ⟨by omega, by rw [hrs, ← hab, rkT, if_pos (by assumption)]; omega, by omega, by omega, by omega, by omega⟩
   refine A7 <| A3 <| A0 <| y_M rfl <| y_M rfl <| B8 rfl rfl rfl (fun _ => rfl) (by omega) <| y_I rfl <| y_M rfl <| y_M rfl <| B8 rfl rfl rfl (fun _ => rfl) (by omega) <| y_I rfl <| M9 rfl rfl ?_
   refine J6 ⟨fun _ => ⟨by decide +kernel, by decide +kernel⟩, [(.t 0, _), (.t 3, _), (.t 4, _), (.t 5, _), (.t 6, _), (.t 7, _), (.t 40, _), (.h 3, _)], ⟨rfl, rfl, rfl, rfl, rfl, rfl, rfl, rfl, rfl, rfl, rfl, rfl, rfl, rfl, rfl, rfl, trivial⟩, ?_⟩
   refine A5 rfl ?_ ?_ <;> intro hc <;> try simp only [SL] at hc
   ·refine A0 <| y_M rfl <| E4 rfl rfl (C3 (by omega)) <| y_S rfl <| xN [0,3,4,5,6,7] [3] rfl <| A0 <| y_M rfl <| E4 rfl rfl (C3 (by omega)) <| y_S rfl <| xN [0,3,4,5,6,7] [3] rfl ?_
    refine ⟨(k + 1, a, b + 1), ?_, (by simp only; omega), ⟨rfl, rfl, rfl, rfl, rfl, rfl, rfl, trivial⟩⟩
    have hrs : prS (rkT x (H6 x i)) (k + 1) = prS (rkT x (H6 x i)) k + rkT x (H6 x i) k := rfl
    exact ⟨by omega, by rw [hrs, ← hab, rkT, if_neg (by unfold H6; omega), if_pos (by assumption)]; omega, by omega, by omega, by omega, by omega⟩
   refine A7 <| A0 <| y_M rfl <| E4 rfl rfl (C3 (by omega)) <| y_S rfl <| xN [0,3,4,5,6,7] [3] rfl ?_
   refine ⟨(k + 1, a, b), ?_, (by simp only; omega), ⟨rfl, rfl, rfl, rfl, rfl, rfl, rfl, trivial⟩⟩
   have hrs : prS (rkT x (H6 x i)) (k + 1) = prS (rkT x (H6 x i)) k + rkT x (H6 x i) k := rfl
   exact ⟨by omega, by rw [hrs, ← hab, rkT, if_neg (by unfold H6; omega), if_neg (by unfold H6; omega)]; omega, by omega, by omega, by omega, by omega⟩
  refine E3 <| A0 <| y_M rfl <| y_M rfl <| a8z rfl rfl (C3 (by omega)) <| y_M rfl <| E4 rfl rfl (C3 (by omega)) <| E4 rfl rfl (C3 (by omega)) <| B4 (es := List.map iV [_]) rfl rfl (dT rfl) rfl rfl (fun _ => B1 (A6 fun _ => rfl)) (fun _ => rfl) ?_
  intro g49
  refine xA rfl rfl rfl rfl (by simp) (by simp) rfl rfl rfl rfl rfl (fun _ => rfl) (by simp only [LN]; omega) (fun _ => rfl) ?_
  intro g50
  (refine xO rfl rfl (by simp) rfl (fun _ => rfl) (fun _ => rfl) ?_; intro g3)
  refine xN [0,3,4] [3] rfl <| A0 <| y_M rfl <| E4 rfl rfl (C3 (by omega)) <| y_S rfl <| xN [0,3,4] [3] rfl ?_
  refine ⟨(i + 1, l ++ [2 * a + b + 1], _), ?_, (by simp only; omega), ⟨rfl, rfl, rfl, rfl, trivial⟩⟩
  exact ⟨by omega, by rw [hl, V7, hab, show k = x.length by omega, Int.add_comm]⟩
 refine E3 <| A3 <| A0 <| y_M rfl ?_
 (refine xO rfl rfl (by simp) rfl (fun _ => rfl) (fun _ => rfl) ?_; intro g2)
 refine xN [2] [2] rfl <| A8 <| N4 rfl rfl (by simp) (by exact A6 fun _ => rfl) trivial ?_
 rw [hl, show i = x.length by omega]
 rfl

theorem b6n : F4 Tryz.f59 = [0, 2, 4, 10, 3] := by kernel_rfl
theorem d4d (x : List Int) (hl : x.length ≤ 1000) : CW (cxT oG) 59 [L x] = some (.own 1 (x.reverse.map iV), []) := by
 refine E5 rfl Tryz.func59 rfl ⟨by kernel_rfl, rfl, dT rfl, dT rfl, by decide⟩ b6n <| A3 <| A0 ?_
 (refine B2 rfl rfl (fun _ => rfl) ?_; intro g2)
 refine xN [0] [] rfl <| A3 <| A0 <| B4 (es := List.map iV []) rfl rfl (dT rfl) rfl rfl (fun _ => B1 (A6 fun _ => rfl)) (fun _ => rfl) ?_
 intro g5
 (refine xO rfl rfl (by simp) rfl (fun _ => rfl) (fun _ => rfl) ?_; intro g3)
 refine xN [0,3] [3] rfl <| A3 <| A3 <| A0 <| y_M rfl <| B9 rfl rfl <| P6 rfl rfl (C3 (by omega)) <| y_S rfl <| xN [0,3,4] [3] rfl <| B0 <| E8 (β := Nat × List Int × Nat) [(.t 0, _)] (fun (z : Nat × List Int × Nat) => match z with | (k, l, g) => [(.t 4, iV ((k : Int) - 1)), (.h 3, .obj g 0 1 (l.map iV)), (.t 3, .sl 3 g none 0 l.length)]) (fun (z : Nat × List Int × Nat) => match z with | (k, l, g) => k ≤ x.length ∧ l = (x.drop k).reverse) (fun (z : Nat × List Int × Nat) => match z with | (k, l, g) => k) (x.length, [], _) ⟨rfl, rfl, rfl, rfl, trivial⟩ ⟨Nat.le_refl _, by simp⟩ ?_
 intro z hb
 obtain ⟨k, l, g⟩ := z
 try dsimp only at hb
 obtain ⟨hk1, hl2⟩ := hb
 have hll : l.length = x.length - k := by rw [hl2]; simp
 refine A3 <| A3 <| A0 <| y_M rfl <| d2b rfl rfl <| xN [0,3,4,10] [3] rfl ?_
 refine A5 rfl ?_ ?_ <;> intro hc <;> try simp only [SL] at hc
 ·obtain ⟨k', rfl⟩ : ∃ k', k = k' + 1 := ⟨k - 1, by omega⟩
  rw [show (((k' + 1 : Nat) : Int) - 1) = (k' : Int) by omega]
  refine A7 <| A3 <| B0 <| A0 <| y_M rfl <| y_M rfl <| y_M rfl <| B8 rfl rfl rfl (fun _ => rfl) (by omega) <| y_I rfl <| B4 (es := List.map iV [_]) rfl rfl (dT rfl) rfl rfl (fun _ => B1 (A6 fun _ => rfl)) (fun _ => rfl) ?_
  intro g18
  refine xA rfl rfl rfl rfl (by simp) (by simp) rfl rfl rfl rfl rfl (fun _ => rfl) (by simp only [LN]; omega) (fun _ => rfl) ?_
  intro g19
  (refine xO rfl rfl (by simp) rfl (fun _ => rfl) (fun _ => rfl) ?_; intro g3)
  refine xN [0,3,4] [3] rfl <| A0 <| y_M rfl <| P6 rfl rfl (C3 (by omega)) <| y_S rfl <| xN [0,3,4] [3] rfl ?_
  refine ⟨(k', l ++ [x.getD k' default], _), ?_, (by simp only; omega), ⟨rfl, rfl, rfl, rfl, trivial⟩⟩
  exact ⟨by omega, by rw [hl2, d2y (show k' < x.length by omega), List.reverse_cons]⟩
 refine E3 <| A3 <| A0 <| y_M rfl ?_
 (refine xO rfl rfl (by simp) rfl (fun _ => rfl) (fun _ => rfl) ?_; intro g2)
 refine xN [2] [2] rfl <| A8 <| N4 rfl rfl (by simp) (by exact A6 fun _ => rfl) trivial ?_
 rw [hl2, show k = 0 by omega]
 rfl

theorem b1e : F4 Tryz.f62 = [0, 2, 3, 7, 15] := by kernel_rfl
theorem c3u (x : List Int) (hl : x.length ≤ 1048576) : CW (cxT oG) 62 [L x] = some (bV (vl x), []) := by
 refine E5 rfl Tryz.func62 rfl ⟨by kernel_rfl, rfl, dT rfl, dT rfl, by decide⟩ b1e <| A3 <| A0 <| y_S rfl <| xN [0] [] rfl <| A3 <| A3 <| A0 <| y_S rfl <| xN [0,3] [] rfl <| B0 <| E8 (β := Nat) [(.t 0, _)] (fun (i : Nat) => [(.t 3, iV i)]) (fun (i : Nat) => i ≤ x.length ∧ ∀ j, j < i → -100000 ≤ x.getD j default ∧ x.getD j default ≤ 100000) (fun (i : Nat) => x.length - i) 0 ⟨rfl, rfl, trivial⟩ ⟨Nat.zero_le _, fun j h => by omega⟩ ?_
 intro i hb
 obtain ⟨hi1, hi2⟩ := hb
 refine A3 <| A3 <| A0 <| y_M rfl <| y_M rfl <| B9 rfl rfl <| F8 rfl rfl <| xN [0,3,7] [] rfl ?_
 refine A5 rfl ?_ ?_ <;> intro hc <;> try simp only [SL] at hc
 ·refine A7 <| A3 <| B0 <| A3 <| A0 <| y_M rfl <| y_M rfl <| B8 rfl rfl rfl (fun _ => rfl) (by omega) <| y_I rfl ?_
  refine xC3 rfl rfl rfl rfl (c0l _ _ _) ⟨rfl, rfl, rfl⟩ rfl rfl fun g14 => ?_
  refine J0 rfl <| xN [0,3,15] [] rfl ?_
  refine A5 rfl ?_ ?_ <;> intro hc <;> try simp only [SL] at hc
  ·refine A3 <| A0 <| y_S rfl <| xN [2] [] rfl <| A8 <| C2 rfl rfl trivial ?_
   rw [vl, c3p (show i < x.length by omega) (by (simp_all; omega)), Bool.and_false]
   rfl
  refine A7 <| A0 <| y_M rfl <| E4 rfl rfl (C3 (by omega)) <| y_S rfl <| xN [0,3] [] rfl ?_
  refine ⟨i + 1, ⟨by omega, fun j hj => by rcases Nat.lt_succ_iff_lt_or_eq.1 hj with h | h; (· exact hi2 j h); (· subst h; assumption)⟩, (by omega), ⟨rfl, rfl, trivial⟩⟩
 refine E3 <| A3 <| A0 <| y_M rfl <| B9 rfl rfl <| a7i rfl rfl <| y_S rfl <| xN [2] [] rfl <| A8 <| C2 rfl rfl trivial ?_
 rw [vl, d0y fun j hj => hi2 j (by omega), Bool.and_true]
 exact congrArg bV (decide_eq_decide.2 (by omega))

theorem b5w : F4 Tryz.f72 = [0, 3, 2, 9] := by kernel_rfl
theorem d3o (x : List Int) (hl : x.length ≤ 1000) : ∃ res outs, (fun res outs => res = .tup [] ∧ outs = [x.reverse.map iV]) res outs ∧ CW (cxT oG) 72 [.own 1 (x.map iV)] = some (res, outs) := by
 refine Q8 rfl Tryz.func72 rfl ⟨by kernel_rfl, rfl, dT rfl, dT rfl, by decide⟩ b5w <| A3 <| A0 <| y_M rfl <| I5 rfl rfl ?_
 simp only [List.length_map]
 refine P6 rfl rfl (C3 (by omega)) <| y_S rfl <| y_S rfl <| xN [0,2,3] [0] rfl <| B0 ?_
 rw [show ((x.length : Int) - 1) = (x.length : Int) - 1 - ((0 : Nat) : Int) by simp]
 refine E8 (β := Nat × List Int) [(.t 0, _)] (fun (z : Nat × List Int) => match z with | (i, l) => [(.t 2, iV i), (.t 3, iV ((x.length : Int) - 1 - (i : Int))), (.h 0, .obj 1 1 1 (l.map iV))]) (fun (z : Nat × List Int) => match z with | (i, l) => i ≤ x.length ∧ c1m x i l) (fun (z : Nat × List Int) => match z with | (i, l) => x.length - i) (0, x) ⟨rfl, rfl, rfl, rfl, trivial⟩ ⟨Nat.zero_le _, c1m.start x⟩ ?_
 intro z hb
 obtain ⟨i, l⟩ := z
 try dsimp only at hb
 obtain ⟨hi1, hr⟩ := hb
 have hrl := hr.1
 refine A3 <| A3 <| A0 <| y_M rfl <| y_M rfl <| F8 rfl rfl <| xN [0,2,3,9] [0] rfl ?_
 refine A5 rfl ?_ ?_ <;> intro hc <;> try simp only [SL] at hc
 ·refine A7 <| A3 <| B0 <| A0 ?_
  iterate 6 refine y_M rfl ?_
  rw [show ((x.length : Int) - 1 - (i : Int)) = ((x.length - 1 - i : Nat) : Int) by omega]
  refine D9 rfl rfl rfl rfl (by (simp; omega)) (by (simp; omega)) rfl <| G2 rfl rfl (by omega) (fun _ => rfl) (fun _ => rfl) rfl <| y_M rfl <| y_M rfl <| D9 rfl rfl rfl rfl (by (simp; omega)) (by (simp; omega)) rfl <| G2 rfl rfl (by omega) (fun _ => rfl) (fun _ => rfl) rfl <| D9 rfl rfl rfl rfl (by (simp; omega)) (by (simp; omega)) rfl <| K6 rfl rfl rfl (by omega) (fun _ _ => ⟨rfl, rfl, dT rfl, dT rfl, rfl, rfl⟩) (by decide) (by exact b9z (A6 fun _ => rfl)) <| D9 rfl rfl rfl rfl (by (simp; omega)) (by (simp; omega)) rfl <| K6 rfl rfl rfl (by (simp; omega)) (fun _ _ => ⟨rfl, rfl, dT rfl, dT rfl, rfl, rfl⟩) (by decide) (by exact b9z (A6 fun _ => rfl)) ?_
  refine J6 ⟨fun _ => ⟨by decide +kernel, by decide +kernel⟩, [(.t 0, _), (.t 2, _), (.t 3, _), (.h 0, _)], ⟨rfl, rfl, rfl, rfl, rfl, rfl, rfl, rfl, trivial⟩, ?_⟩
  refine A0 <| y_M rfl <| E4 rfl rfl (C3 (by omega)) ?_
  rw [show ((x.length - 1 - i : Nat) : Int) = (x.length : Int) - 1 - (i : Int) by omega]
  refine y_M rfl <| P6 rfl rfl (C3 (by omega)) <| y_S rfl <| y_S rfl <| xN [0,2,3] [0] rfl ?_
  rw [show ((x.length : Int) - 1 - (i : Int) - 1) = (x.length : Int) - 1 - ((i + 1 : Nat) : Int) by omega]
  refine ⟨(i + 1, _), ?_, (by simp only; omega), ⟨rfl, rfl, rfl, rfl, trivial⟩⟩
  exact ⟨by omega, hr.step (by omega)⟩
 refine E3 ?_
 refine ⟨_, _, ?_, d6t (J3 rfl (a3o fun _ => rfl))⟩
 exact ⟨rfl, by rw [hr.fin (by omega)]⟩

theorem b8r : F4 Tryz.f50 = [0, 1, 2, 6, 9, 7, 19] := by kernel_rfl
theorem d4y (k : Nat) (hk : k < 4) (nums : List Int) (cols : List (List Int)) (hc4 : cols.length ≤ 1048576) (hcb : ∀ c ∈ cols, c.length ≤ 1048576) : CW (cxT oG) 50 [sV (d9r k), L nums, M cols] = some (.own 1 ((cols.getD k default).map iV), []) := by
 have hgl : (cols.getD k default).length ≤ 1048576 := by rcases Nat.lt_or_ge k cols.length with c | c; (· exact hcb _ (V8 c)); (· rw [List.getD_eq_getElem?_getD, List.getElem?_eq_none c]; exact Nat.zero_le _)
 refine E5 rfl Tryz.func50 rfl ⟨by kernel_rfl, rfl, dT rfl, dT rfl, by decide⟩ b8r <| A3 <| A0 ?_
 (refine B2 rfl rfl (fun _ => rfl) ?_; intro g6)
 refine xN [0,1,2] [] rfl <| A3 <| A3 <| A0 <| y_M rfl <| d6z (t := false) rfl rfl (by match k, hk with | 0, _ => decide +kernel | 1, _ => decide +kernel | 2, _ => decide +kernel | 3, _ => decide +kernel) <| xN [0,1,2,9] [] rfl ?_
 refine A5 rfl (fun hc => ?_) (fun hc => ?_)
 ·try simp only [SD] at hc
  exact absurd hc (by decide)
 try simp only [SL] at hc
 refine A7 <| A3 <| A3 <| A0 <| y_M rfl <| b1w (b := UInt8.ofNat (97 + k)) rfl rfl rfl (by decide) rfl ?_
 rw [show (UInt8.ofNat (97 + k)).toNat = 97 + k from by match k, hk with | 0, _ => rfl | 1, _ => rfl | 2, _ => rfl | 3, _ => rfl]
 refine P6 rfl rfl (by constructor <;> simp [IntKind.min, IntKind.max, IntKind.signed, IntKind.bits] <;> omega) ?_
 rw [show ((97 + k : Nat) : Int) - 97 = (k : Int) by omega]
 refine a8i rfl rfl rfl (C3 (by omega)) <| y_S rfl <| xN [2,7] [] rfl <| A3 <| A0 <| y_M rfl <| y_M rfl <| B9 rfl rfl <| F8 rfl rfl <| xN [2,7,19] [] rfl ?_
 refine A5 rfl ?_ ?_ <;> intro hc <;> try simp only [SL] at hc
 ·refine A3 <| A0 <| y_M rfl <| y_M rfl <| B8 rfl rfl rfl (fun _ => rfl) (by omega) <| y_I rfl ?_
  apply xC rfl
  ·apply A9
   ·exact B7 rfl
   exact C5
  ·exact d1n (cols.getD k default) hgl
  refine ⟨⟨rfl, rfl, rfl, dT rfl, rfl⟩, .inl rfl, B3, K0, fun _ => rfl, fun g24 => ?_⟩
  simp only [List.length_map]
  (refine xO rfl rfl (by simp) rfl (fun _ => rfl) (fun _ => rfl) ?_; intro g6)
  refine xN [6] [6] rfl <| A8 <| N4 rfl rfl (by simp) (by exact A6 fun _ => rfl) trivial ?_
  rfl
 refine A7 <| A3 <| A0 ?_
 (refine B2 rfl rfl (fun _ => rfl) ?_; intro g6)
 refine xN [6] [6] rfl <| A8 <| N4 rfl rfl (by simp) (by rfl) trivial ?_
 rw [List.getD_eq_getElem?_getD, List.getElem?_eq_none (by omega)]
 rfl

theorem b5y : F4 Tryz.f50 = [0, 1, 2, 6, 9, 7, 19] := by kernel_rfl
theorem d3q (nums : List Int) (hn : nums.length ≤ 1048576) (cols : List (List Int)) : CW (cxT oG) 50 [sV wList, L nums, M cols] = some (.own 1 (nums.map iV), []) := by
 refine E5 rfl Tryz.func50 rfl ⟨by kernel_rfl, rfl, dT rfl, dT rfl, by decide⟩ b5y <| A3 <| A0 ?_
 (refine B2 rfl rfl (fun _ => rfl) ?_; intro g6)
 refine xN [0,1,2] [] rfl <| A3 <| A3 <| A0 <| y_M rfl <| d6z (t := true) rfl rfl (by decide +kernel) <| xN [0,1,2,9] [] rfl ?_
 refine A5 rfl (fun hc => ?_) (fun hc => ?_)
 ·try simp only [SL] at hc
  refine A3 <| A0 <| y_M rfl ?_
  apply xC rfl
  ·apply A9
   ·exact B7 rfl
   exact C5
  ·exact d1n nums hn
  refine ⟨⟨rfl, rfl, rfl, dT rfl, rfl⟩, .inl rfl, B3, K0, fun _ => rfl, fun g11 => ?_⟩
  simp only [List.length_map]
  (refine xO rfl rfl (by simp) rfl (fun _ => rfl) (fun _ => rfl) ?_; intro g6)
  refine xN [6] [6] rfl <| A8 <| N4 rfl rfl (by simp) (by exact A6 fun _ => rfl) trivial ?_
  rfl
 try simp only [SD] at hc
 exact absurd hc (by decide)

theorem b8u : F4 Tryz.f51 = [0, 1, 4, 5, 15, 20, 21, 6, 25, 29, 33, 32, 34, 7, 45, 49, 48, 50, 8, 66, 9, 72, 86, 10, 91, 105, 109, 114, 124, 129, 128, 130, 127, 12, 11, 142, 156, 63] := by kernel_rfl
theorem c5q (op : ByteArray) (h1 : 1 ≤ nd op) (x y : List Int) (hx : vl x = true) (hy : vl y = true) (ls : List (List Int)) (hl1 : 1 ≤ ls.length) (hl2 : nd op = 2 → 2 ≤ ls.length) (hlx : ls.getD 0 default = x) (hly : 2 ≤ ls.length → ls.getD 1 default = y) : CW (cxT oG) 51 [sV op, M ls] = some (.tup [.own 1 (((mkR op x y).getD []).map iV), bV (mkR op x y).isSome], []) := by
 have hx40 := (S4.1 hx).1
 have hy40 := (S4.1 hy).1
 have hgx := a0y hx
 have hgy := a0y hy
 have hsx := a3v x
 refine E5 rfl Tryz.func51 rfl ⟨by kernel_rfl, rfl, dT rfl, dT rfl, by decide⟩ b8u <| A3 <| A0 ?_
 (refine B2 rfl rfl (fun _ => rfl) ?_; intro g4)
 refine y_S rfl <| xN [0,1] [] rfl <| A3 <| A0 ?_
 (refine B2 rfl rfl (fun _ => rfl) ?_; intro g6)
 refine xN [0,1,6] [6] rfl <| A3 <| A3 <| A0 <| y_M rfl <| B9 rfl rfl <| O6 rfl rfl <| xN [0,1,6,15] [6] rfl ?_
 refine A5 rfl (fun hc => ?_) (fun hc => ?_)
 ·try simp only [SL] at hc
  refine A0 <| y_M rfl <| B8 rfl rfl rfl (fun _ => rfl) (by (change 0 < _; omega)) <| y_I rfl ?_
  rw [hlx]
  apply xC rfl
  ·apply A9
   ·exact B7 rfl
   exact C5
  ·exact d1k x (by simp only [G9]; omega)
  refine ⟨⟨rfl, rfl, rfl, dT rfl, rfl⟩, .inl rfl, B3, K0, fun _ => rfl, fun g19 => ?_⟩
  simp only [List.length_map]
  (refine xO rfl rfl (by simp) rfl (fun _ => rfl) (fun _ => rfl) ?_; intro g6)
  refine xN [0,1,6] [6] rfl <| c5d <| A3 <| A0 <| y_M rfl <| xN [1,6,20] [6] rfl ?_
  refine d8a (β := List Int × Nat × Nat) [] trivial (fun (z : List Int × Nat × Nat) => match z with | (r, n, g) => [(.h 6, .obj g 0 1 (r.map iV)), (.t 6, .sl 6 g none 0 n)]) (fun (z : List Int × Nat × Nat) => match z with | (r, n, g) => V2 op x y = some r ∧ n = r.length ∧ r.length ≤ 80) ?_ ?_
  ·skip
   refine B0 <| A3 <| A0 <| I3 rfl rfl <| y_S rfl <| xN [1,6,20,21] [6] rfl ?_
   refine A5 rfl ?_ ?_ <;> intro hc <;> try simp only [SL] at hc
   ·try simp at hc
    refine A0 <| y_M rfl ?_
    apply a8d rfl
    ·apply A9
     ·exact c5a rfl rfl (by decide) (by (simp; done)) (a3o fun _ => rfl)
     exact C5
    ·exact e1g x (by simp only [G9]; omega)
    ·exact ⟨rfl, rfl, rfl, dT rfl, rfl⟩
    ·exact .inl rfl
    ·exact G4 rfl (by simp) (b5k _ _) B3
    ·exact K4 rfl
    ·(intro _; exact C1 (B1 (A6 fun _ => rfl)) rfl)
    intro g24
    refine xN [6] [6] rfl ?_
    refine ⟨(_, _, _), ?_, ⟨rfl, rfl, trivial⟩⟩
    exact ⟨(by (simp [V2, *]; done)), (by (simp; done)), (by omega)⟩
   try simp at hc
   refine A3 <| A0 <| I3 rfl rfl <| y_S rfl <| xN [1,6,20,25] [6] rfl ?_
   refine A5 rfl ?_ ?_ <;> intro hc <;> try simp only [SL] at hc
   ·try simp at hc
    refine A0 <| y_M rfl ?_
    obtain ⟨_, _, ⟨rfl, rfl⟩, hRv⟩ := d3o (oG := oG) x (by omega)
    apply a8d rfl
    ·apply A9
     ·exact c5a rfl rfl (by decide) (by (simp; done)) (a3o fun _ => rfl)
     exact C5
    ·exact hRv
    ·exact ⟨rfl, rfl, rfl, dT rfl, rfl⟩
    ·exact .inl rfl
    ·exact G4 rfl (by simp) (b5k _ _) B3
    ·exact K4 rfl
    ·(intro _; exact C1 (B1 (A6 fun _ => rfl)) rfl)
    intro g28
    refine xN [6] [6] rfl ?_
    refine ⟨(_, _, _), ?_, ⟨rfl, rfl, trivial⟩⟩
    exact ⟨(by (simp [V2, *]; done)), (by (simp; done)), (by (simp; omega))⟩
   try simp at hc
   refine A3 <| A0 <| I3 rfl rfl <| y_S rfl <| xN [1,6,20,29] [6] rfl ?_
   refine A5 rfl ?_ ?_ <;> intro hc <;> try simp only [SL] at hc
   ·try simp at hc
    refine A3 <| A0 <| y_M rfl <| I5 rfl rfl <| y_M rfl <| xN [6,32,33] [6] rfl <| B0 <| E8 (β := Nat × List Int) [(.t 6, _), (.t 32, _)] (fun (z : Nat × List Int) => match z with | (i, l) => [(.t 33, iV i), (.h 6, .obj g6 0 1 (l.map iV))]) (fun (z : Nat × List Int) => match z with | (i, l) => i ≤ x.length ∧ T8 x.length (fun i => -(H6 x i)) (H6 x) i l) (fun (z : Nat × List Int) => match z with | (i, l) => x.length - i) (0, x) ⟨rfl, rfl, rfl, rfl, trivial⟩ ⟨Nat.zero_le _, T8.start x _⟩ ?_
    intro z hb
    obtain ⟨i, l⟩ := z
    try dsimp only at hb
    obtain ⟨hi1, hf⟩ := hb
    have hfl := hf.1
    have hfa := fun h : i < x.length => hf.at h
    have hgi := hgx i
    have hgyi : -100000 ≤ y.getD i default ∧ y.getD i default ≤ 100000 := hgy i
    refine A3 <| A0 <| F8 rfl rfl <| xN [6,32,33,34] [6] rfl <| A3 ?_
    refine A5 rfl ?_ ?_ <;> intro hc <;> try simp only [SL] at hc
    ·refine A7 <| A3 <| B0 <| A3 <| A0 <| y_M rfl <| y_S rfl <| xN [6,7,32,33] [6] rfl <| A0 <| y_M rfl <| y_M rfl <| y_M rfl <| y_M rfl <| D9 rfl rfl rfl rfl (by omega) (by (simp; omega)) rfl <| G2 rfl rfl (by omega) (fun _ => rfl) (fun _ => rfl) rfl <| b9l rfl (C3 (by omega)) <| D9 rfl rfl rfl rfl (by omega) (by (simp; omega)) rfl <| K6 rfl rfl rfl (by omega) (fun _ _ => ⟨rfl, rfl, dT rfl, dT rfl, rfl, rfl⟩) (by decide) (by exact B1 (A6 fun _ => rfl)) <| xN [6,32,33] [6] rfl <| A0 <| E4 rfl rfl (C3 (by omega)) <| y_M rfl <| xN [6,32,33] [6] rfl ?_
     refine ⟨(i + 1, l.set i (-(l.getD i default))), ?_, (by simp only; omega), ⟨rfl, rfl, rfl, rfl, trivial⟩⟩
     exact ⟨by omega, hf.step (by omega) (by rw [hfa (by omega)]; done)⟩
    refine E3 ?_
    refine ⟨(_, _, _), ?_, ⟨rfl, rfl, trivial⟩⟩
    exact ⟨by rw [(hf.fin (by omega)).trans (a9p x fun v => -v)]; simp [V2, *], by omega, by omega⟩
   try simp at hc
   refine A3 <| A0 <| I3 rfl rfl <| y_S rfl <| xN [1,6,20,45] [6] rfl ?_
   refine A5 rfl ?_ ?_ <;> intro hc <;> try simp only [SL] at hc
   ·try simp at hc
    refine A3 <| A0 <| y_M rfl <| I5 rfl rfl <| y_M rfl <| xN [6,48,49] [6] rfl <| B0 <| E8 (β := Nat × List Int) [(.t 6, _), (.t 48, _)] (fun (z : Nat × List Int) => match z with | (i, l) => [(.t 49, iV i), (.h 6, .obj g6 0 1 (l.map iV))]) (fun (z : Nat × List Int) => match z with | (i, l) => i ≤ x.length ∧ T8 x.length (fun i => max (H6 x i) (-(H6 x i))) (H6 x) i l) (fun (z : Nat × List Int) => match z with | (i, l) => x.length - i) (0, x) ⟨rfl, rfl, rfl, rfl, trivial⟩ ⟨Nat.zero_le _, T8.start x _⟩ ?_
    intro z hb
    obtain ⟨i, l⟩ := z
    try dsimp only at hb
    obtain ⟨hi1, hf⟩ := hb
    have hfl := hf.1
    have hfa := fun h : i < x.length => hf.at h
    have hgi := hgx i
    have hgyi : -100000 ≤ y.getD i default ∧ y.getD i default ≤ 100000 := hgy i
    refine A3 <| A0 <| F8 rfl rfl <| xN [6,48,49,50] [6] rfl <| A3 ?_
    refine A5 rfl ?_ ?_ <;> intro hc <;> try simp only [SL] at hc
    ·refine A7 <| A3 <| B0 <| A3 <| A0 <| y_M rfl <| y_S rfl <| xN [6,8,48,49] [6] rfl <| A0 <| y_M rfl <| y_M rfl <| y_M rfl <| y_M rfl <| D9 rfl rfl rfl rfl (by omega) (by (simp; omega)) rfl <| G2 rfl rfl (by omega) (fun _ => rfl) (fun _ => rfl) rfl <| y_M rfl <| y_M rfl <| D9 rfl rfl rfl rfl (by omega) (by (simp; omega)) rfl <| G2 rfl rfl (by omega) (fun _ => rfl) (fun _ => rfl) rfl <| b9l rfl (C3 (by omega)) <| e0k rfl rfl <| D9 rfl rfl rfl rfl (by omega) (by (simp; omega)) rfl <| K6 rfl rfl rfl (by omega) (fun _ _ => ⟨rfl, rfl, dT rfl, dT rfl, rfl, rfl⟩) (by decide) (by exact B1 (A6 fun _ => rfl)) ?_
     refine J6 ⟨fun _ => ⟨by decide +kernel, by decide +kernel⟩, [(.t 6, _), (.t 48, _), (.t 49, _), (.h 6, _)], ⟨rfl, rfl, rfl, rfl, rfl, rfl, rfl, rfl, trivial⟩, ?_⟩
     refine A0 <| E4 rfl rfl (C3 (by omega)) <| y_M rfl <| xN [6,48,49] [6] rfl ?_
     refine ⟨(i + 1, l.set i (max (l.getD i default) (-(l.getD i default)))), ?_, (by simp only; omega), ⟨rfl, rfl, rfl, rfl, trivial⟩⟩
     exact ⟨by omega, hf.step (by omega) (by rw [hfa (by omega)]; done)⟩
    refine E3 ?_
    refine ⟨(_, _, _), ?_, ⟨rfl, rfl, trivial⟩⟩
    exact ⟨by rw [(hf.fin (by omega)).trans (a9p x fun v => max v (-v))]; simp [V2, *], by omega, by omega⟩
   try simp at hc
   refine A3 <| A0 <| I3 rfl rfl <| y_S rfl <| xN [1,6,20,66] [6] rfl ?_
   refine A5 rfl ?_ ?_ <;> intro hc <;> try simp only [SL] at hc
   ·try simp at hc
    refine A3 <| A0 <| y_M rfl <| I5 rfl rfl <| P6 rfl rfl (C3 (by omega)) <| y_S rfl <| xN [6,9] [6] rfl <| B0 <| E8 (β := Nat × List Int) [(.t 6, _)] (fun (z : Nat × List Int) => match z with | (k, l) => [(.t 9, iV ((k : Int) - 1)), (.h 6, .obj g6 0 1 (l.map iV))]) (fun (z : Nat × List Int) => match z with | (k, l) => k ≤ x.length ∧ a4h x (k - 1) l) (fun (z : Nat × List Int) => match z with | (k, l) => k) (x.length, x) ⟨rfl, rfl, rfl, trivial⟩ ⟨Nat.le_refl _, a4h.start x⟩ ?_
    intro z hb
    obtain ⟨k, l⟩ := z
    try dsimp only at hb
    obtain ⟨hk1, hd⟩ := hb
    have hdl := hd.1
    refine A3 <| A3 <| A0 <| y_M rfl <| O6 rfl rfl <| xN [6,9,72] [6] rfl ?_
    refine A5 rfl ?_ ?_ <;> intro hc <;> try simp only [SL] at hc
    ·refine A7 <| A3 <| B0 <| A0 <| y_M rfl <| y_M rfl ?_
     rw [show ((k : Int) - 1) = ((k - 1 : Nat) : Int) by omega]
     refine D9 rfl rfl rfl rfl (by omega) (by (simp; omega)) rfl <| G2 rfl rfl (by omega) (fun _ => rfl) (fun _ => rfl) rfl <| y_M rfl <| y_M rfl <| P6 rfl rfl (C3 (by omega)) ?_
     rw [show ((k - 1 : Nat) : Int) - 1 = ((k - 1 - 1 : Nat) : Int) by omega]
     refine D9 rfl rfl rfl rfl (by omega) (by (simp; omega)) rfl <| G2 rfl rfl (by omega) (fun _ => rfl) (fun _ => rfl) rfl ?_
     have hd1 := hd.val (k - 1)
     have hd2 := hd.val (k - 1 - 1)
     have hg1 := hgx (k - 1)
     have hg2 := hgx (k - 1 - 1)
     have hg3 := hgx (k - 1 - 1 - 1)
     refine P6 rfl rfl (C3 (by omega)) <| D9 rfl rfl rfl rfl (by omega) (by (simp; omega)) rfl <| K6 rfl rfl rfl (by omega) (fun _ _ => ⟨rfl, rfl, dT rfl, dT rfl, rfl, rfl⟩) (by decide) (by exact B1 (A6 fun _ => rfl)) ?_
     refine J6 ⟨fun _ => ⟨by decide +kernel, by decide +kernel⟩, [(.t 6, _), (.t 9, _), (.h 6, _)], ⟨rfl, rfl, rfl, rfl, rfl, rfl, trivial⟩, ?_⟩
     refine A0 <| y_M rfl <| P6 rfl rfl (C3 (by omega)) <| y_S rfl <| xN [6,9] [6] rfl ?_
     refine ⟨(k - 1, _), ?_, (by simp only; omega), ⟨rfl, rfl, rfl, trivial⟩⟩
     exact ⟨by omega, hd.step (by omega) (by omega)⟩
    refine E3 ?_
    refine ⟨(_, _, _), ?_, ⟨rfl, rfl, trivial⟩⟩
    exact ⟨by rw [show l = dfI x from a4h.fin ((show k - 1 = 0 by omega) ▸ hd)]; simp [V2, *], by omega, by omega⟩
   try simp at hc
   refine A3 <| A0 <| I3 rfl rfl <| y_S rfl <| xN [1,6,20,86] [6] rfl ?_
   refine A5 rfl ?_ ?_ <;> intro hc <;> try simp only [SL] at hc
   ·try simp at hc
    refine A3 <| A0 <| y_S rfl <| xN [6,10] [6] rfl <| B0 <| E8 (β := Nat × List Int) [(.t 6, _)] (fun (z : Nat × List Int) => match z with | (i, l) => [(.t 10, iV i), (.h 6, .obj g6 0 1 (l.map iV))]) (fun (z : Nat × List Int) => match z with | (i, l) => 1 ≤ i ∧ T8 x.length (fun i => prS (H6 x) (i + 1)) (H6 x) i l) (fun (z : Nat × List Int) => match z with | (i, l) => x.length - i) (1, x) ⟨rfl, rfl, rfl, trivial⟩ ⟨Nat.le_refl _, T8.start1 x⟩ ?_
    intro z hb
    obtain ⟨i, l⟩ := z
    try dsimp only at hb
    obtain ⟨hi1, hf⟩ := hb
    have hfl := hf.1
    have hfa := fun h : i < x.length => hf.at h
    have hgi := hgx i
    refine A3 <| A3 <| A0 <| y_M rfl <| y_M rfl <| I5 rfl rfl <| F8 rfl rfl <| xN [6,10,91] [6] rfl ?_
    refine A5 rfl ?_ ?_ <;> intro hc <;> try simp only [SL] at hc
    ·refine A7 <| A3 <| B0 <| A0 <| y_M rfl <| y_M rfl <| D9 rfl rfl rfl rfl (by omega) (by (simp; omega)) rfl <| G2 rfl rfl (by omega) (fun _ => rfl) (fun _ => rfl) rfl <| y_M rfl <| y_M rfl <| P6 rfl rfl (C3 (by omega)) ?_
     rw [show ((i : Int) - 1) = ((i - 1 : Nat) : Int) by omega]
     refine D9 rfl rfl rfl rfl (by omega) (by (simp; omega)) rfl <| G2 rfl rfl (by omega) (fun _ => rfl) (fun _ => rfl) rfl ?_
     have hfb := hf.before (j := i - 1) (by omega) (by omega)
     have hsb := c5z hx (i - 1 + 1)
     refine E4 rfl rfl (C3 (by omega)) <| D9 rfl rfl rfl rfl (by omega) (by (simp; omega)) rfl <| K6 rfl rfl rfl (by omega) (fun _ _ => ⟨rfl, rfl, dT rfl, dT rfl, rfl, rfl⟩) (by decide) (by exact B1 (A6 fun _ => rfl)) ?_
     refine J6 ⟨fun _ => ⟨by decide +kernel, by decide +kernel⟩, [(.t 6, _), (.t 10, _), (.h 6, _)], ⟨rfl, rfl, rfl, rfl, rfl, rfl, trivial⟩, ?_⟩
     refine A0 <| y_M rfl <| E4 rfl rfl (C3 (by omega)) <| y_S rfl <| xN [6,10] [6] rfl ?_
     refine ⟨(i + 1, l.set i (l.getD i default + l.getD (i - 1) default)), ?_, (by simp only; omega), ⟨rfl, rfl, rfl, trivial⟩⟩
     have hfb2 := hf.before (j := i - 1) (by omega) (by omega)
     rw [show i - 1 + 1 = i by omega] at hfb2
     exact ⟨by omega, hf.step (by omega) (by rw [hfa (by omega), hfb2, Int.add_comm]; rfl)⟩
    refine E3 ?_
    refine ⟨(_, _, _), ?_, ⟨rfl, rfl, trivial⟩⟩
    exact ⟨by rw [show l = smI x from hf.fin (by omega)]; simp [V2, *], by omega, by omega⟩
   try simp at hc
   refine A3 <| A0 <| I3 rfl rfl <| y_S rfl <| xN [1,6,20,105] [6] rfl ?_
   refine A5 rfl ?_ ?_ <;> intro hc <;> try simp only [SL] at hc
   ·try simp at hc
    refine A0 <| y_M rfl ?_
    apply xC rfl
    ·apply A9
     ·exact I9 rfl rfl rfl (by (simp; done)) (fun _ => rfl)
     exact C5
    ·exact d7l x hx
    refine ⟨⟨rfl, rfl, rfl, dT rfl, rfl⟩, .inr ⟨b8t fun _ => rfl, rfl⟩, B3, K0, fun _ => rfl, fun g108 => ?_⟩
    simp only [List.length_map]
    (refine xO rfl rfl (by simp) rfl (fun _ => rfl) (fun _ => rfl) ?_; intro g6)
    refine xN [6] [6] rfl ?_
    refine ⟨(_, _, _), ?_, ⟨rfl, rfl, trivial⟩⟩
    exact ⟨(by (simp [V2, rkI, *]; done)), (by (simp [dfI, smI, rkI, adI]; done)), (by (simp; omega))⟩
   try simp at hc
   refine A3 <| A0 <| I3 rfl rfl <| y_S rfl <| xN [1,6,20,109] [6] rfl ?_
   refine A5 rfl ?_ ?_ <;> intro hc <;> try simp only [SL] at hc
   ·try simp at hc
    refine A0 <| y_M rfl ?_
    apply xC rfl
    ·apply A9
     ·exact I9 rfl rfl rfl (by (simp; done)) (fun _ => rfl)
     exact C5
    ·exact e1o x hx
    refine ⟨⟨rfl, rfl, rfl, dT rfl, rfl⟩, .inr ⟨rfl, rfl⟩, B3, C9 rfl, fun _ => rfl, fun g112 => ?_⟩
    refine B4 (es := List.map iV [_]) rfl rfl (dT rfl) rfl rfl (fun _ => B1 (A6 fun _ => rfl)) (fun _ => rfl) ?_
    intro g113
    (refine xO rfl rfl (by simp) rfl (fun _ => rfl) (fun _ => rfl) ?_; intro g6)
    refine xN [6] [6] rfl ?_
    refine ⟨(_, _, _), ?_, ⟨rfl, rfl, trivial⟩⟩
    exact ⟨(by (simp [V2, *]; done)), (by (simp; done)), (by (simp; done))⟩
   try simp at hc
   refine A3 <| A0 <| I3 rfl rfl <| y_S rfl <| xN [1,6,20,114] [6] rfl ?_
   refine A5 rfl ?_ ?_ <;> intro hc <;> try simp only [SL] at hc
   ·try simp at hc
    have h2l := hl2 (d5m (.inl hc))
    refine A3 <| A3 <| A0 <| y_M rfl <| B8 rfl rfl rfl (fun _ => rfl) (by (change 0 < _; omega)) <| y_I rfl ?_
    rw [hlx]
    refine B9 rfl rfl <| y_M rfl <| B8 rfl rfl rfl (fun _ => rfl) (by (simp; omega)) <| y_I rfl ?_
    rw [hly h2l]
    refine B9 rfl rfl <| c0g rfl rfl ?_
    refine J6 ⟨fun _ => ⟨by decide +kernel, by decide +kernel⟩, [(.t 1, _), (.t 6, _), (.t 124, _), (.h 6, _)], ⟨rfl, rfl, rfl, rfl, rfl, rfl, rfl, rfl, trivial⟩, ?_⟩
    refine A5 rfl ?_ ?_ <;> intro hc <;> try simp only [SL] at hc
    ·refine A3 <| A0 ?_
     (refine B2 rfl rfl (fun _ => rfl) ?_; intro g4)
     refine y_S rfl <| xN [4,5] [4] rfl <| A8 <| C0 (G3 rfl rfl (by simp) (by rfl) (D4 rfl rfl (C7 B5))) ?_
     have hne : ¬ x.length = y.length := by omega
     rw [show mkR op x y = none from by simp [mkR, V2, *]]
     rfl
    refine A7 <| A3 <| A0 <| y_M rfl <| B8 rfl rfl rfl (fun _ => rfl) (by (simp; omega)) <| y_I rfl ?_
    rw [hly h2l]
    refine B9 rfl rfl <| y_M rfl <| xN [6,127,128,129] [6] rfl <| B0 <| E8 (β := Nat × List Int) [(.t 6, _), (.t 127, _), (.t 128, _)] (fun (z : Nat × List Int) => match z with | (i, l) => [(.t 129, iV i), (.h 6, .obj g6 0 1 (l.map iV))]) (fun (z : Nat × List Int) => match z with | (i, l) => i ≤ x.length ∧ T8 x.length (fun i => H6 x i + H6 y i) (H6 x) i l) (fun (z : Nat × List Int) => match z with | (i, l) => x.length - i) (0, x) ⟨rfl, rfl, rfl, rfl, rfl, trivial⟩ ⟨Nat.zero_le _, T8.start x _⟩ ?_
    intro z hb
    obtain ⟨i, l⟩ := z
    try dsimp only at hb
    obtain ⟨hi1, hf⟩ := hb
    have hfl := hf.1
    have hfa := fun h : i < x.length => hf.at h
    have hgi := hgx i
    have hgyi : -100000 ≤ y.getD i default ∧ y.getD i default ≤ 100000 := hgy i
    refine A3 <| A0 <| F8 rfl rfl <| xN [6,127,128,129,130] [6] rfl <| A3 ?_
    refine A5 rfl ?_ ?_ <;> intro hc <;> try simp only [SL] at hc
    ·refine A7 <| A3 <| B0 <| A3 <| A0 <| y_M rfl <| B8 rfl rfl rfl (fun _ => rfl) (by omega) <| y_I rfl <| y_S rfl <| y_S rfl <| xN [6,11,12,127,128,129] [6] rfl <| A0 <| y_M rfl <| y_M rfl <| D9 rfl rfl rfl rfl (by omega) (by (simp; omega)) rfl <| G2 rfl rfl (by omega) (fun _ => rfl) (fun _ => rfl) rfl <| y_M rfl <| E4 rfl rfl (C3 (by omega)) <| D9 rfl rfl rfl rfl (by omega) (by (simp; omega)) rfl <| K6 rfl rfl rfl (by omega) (fun _ _ => ⟨rfl, rfl, dT rfl, dT rfl, rfl, rfl⟩) (by decide) (by exact B1 (A6 fun _ => rfl)) <| xN [6,127,128,129] [6] rfl <| A0 <| E4 rfl rfl (C3 (by omega)) <| y_M rfl <| xN [6,127,128,129] [6] rfl ?_
     refine ⟨(i + 1, l.set i (l.getD i default + y.getD i default)), ?_, (by simp only; omega), ⟨rfl, rfl, rfl, rfl, rfl, trivial⟩⟩
     exact ⟨by omega, hf.step (by omega) (by rw [hfa (by omega)]; rfl)⟩
    refine E3 ?_
    refine ⟨(_, _, _), ?_, ⟨rfl, rfl, trivial⟩⟩
    exact ⟨adF (by assumption) (by omega) (hf.fin (by omega)) rfl, by omega, by omega⟩
   try simp at hc
   refine A3 <| A0 <| I3 rfl rfl <| y_S rfl <| xN [1,6,142] [6] rfl ?_
   refine A5 rfl ?_ ?_ <;> intro hc <;> try simp only [SL] at hc
   ·try simp at hc
    have h2l := hl2 (d5m (.inr hc))
    refine A0 <| y_M rfl <| y_M rfl <| B8 rfl rfl rfl (fun _ => rfl) (by (simp; omega)) <| y_I rfl ?_
    rw [hly h2l]
    refine S1 rfl rfl rfl (by (simp; done)) rfl rfl rfl (dT rfl) (fun _ => ⟨rfl, rfl, rfl⟩) (by simp only [G9]; omega) (fun _ => rfl) ?_
    intro g148
    (refine xO rfl rfl (by simp) rfl (fun _ => rfl) (fun _ => rfl) ?_; intro g6)
    refine xN [6] [6] rfl ?_
    refine ⟨(_, _, _), ?_, ⟨rfl, rfl, trivial⟩⟩
    exact ⟨(by (simp [V2, *]; done)), (by (simp; done)), (by (simp; omega))⟩
   try simp at hc
   refine A7 ?_
   refine ⟨(_, _, _), ?_, ⟨rfl, rfl, trivial⟩⟩
   exact ⟨(by (simp [V2, *]; done)), (by (simp; done)), (by omega)⟩
  intro z hb
  obtain ⟨r, n, g⟩ := z
  try dsimp only at hb
  obtain ⟨hraw, hn, hr80⟩ := hb
  subst hn
  refine A3 <| A3 <| A0 <| y_M rfl <| I5 rfl rfl <| O6 rfl rfl <| y_M rfl ?_
  refine C6 rfl rfl ?_ ?_ <;> intro hg0 <;> have hg := hg0 <;> try simp only [SG] at hg
  ·refine y_M rfl <| gT rfl rfl ?_
   apply xC rfl
   ·apply A9
    ·exact I9 rfl rfl rfl (by (simp; done)) (fun _ => rfl)
    apply A9
    ·exact B7 rfl
    apply A9
    ·exact B7 rfl
    exact C5
   ·exact d0q r (by omega) (-100000) 100000
   refine ⟨⟨rfl, rfl, rfl, dT rfl, rfl⟩, .inr ⟨rfl, rfl⟩, B3, C9 rfl, fun _ => rfl, fun g154 => ?_⟩
   refine gT rfl rfl <| J0 rfl <| F3 rfl (by assumption) rfl rfl <| xN [6,156] [6] rfl ?_
   refine A5 rfl ?_ ?_ <;> intro hc <;> try simp only [SL] at hc
   ·refine A3 <| A0 ?_
    (refine B2 rfl rfl (fun _ => rfl) ?_; intro g4)
    refine y_S rfl <| xN [4,5] [4] rfl <| A8 <| C0 (G3 rfl rfl (by simp) (by rfl) (D4 rfl rfl (C7 B5))) ?_
    rw [mkR, hraw, Option.bind_some, if_neg (by rw [S4]; simp_all; try omega)]
    rfl
   refine A7 <| A3 <| A0 <| y_M rfl ?_
   apply xC rfl
   ·apply A9
    ·exact c3h rfl rfl (by (simp; done)) (A6 fun _ => rfl)
    exact C5
   ·exact d1x r (by simp only [G9]; omega)
   refine ⟨⟨rfl, rfl, rfl, dT rfl, rfl⟩, .inl rfl, B3, K0, fun _ => rfl, fun g158 => ?_⟩
   simp only [List.length_map]
   (refine xO rfl rfl (by simp) rfl (fun _ => rfl) (fun _ => rfl) ?_; intro g4)
   refine y_S rfl <| xN [4,5] [4] rfl <| A8 <| C0 (G3 rfl rfl (by simp) (by exact A6 fun _ => rfl) (D4 rfl rfl (C7 B5))) ?_
   rw [mkR, hraw, Option.bind_some, if_pos (S4.2 ⟨by omega, by simp_all⟩)]
   rfl
  refine gF rfl rfl <| gF rfl rfl <| F0 rfl (by assumption) rfl rfl <| xN [6,156] [6] rfl ?_
  refine A5 rfl (fun hc => ?_) (fun hc => absurd hc (by decide))
  refine A3 <| A0 ?_
  (refine B2 rfl rfl (fun _ => rfl) ?_; intro g4)
  refine y_S rfl <| xN [4,5] [4] rfl <| A8 <| C0 (G3 rfl rfl (by simp) (by rfl) (D4 rfl rfl (C7 B5))) ?_
  rw [mkR, hraw, Option.bind_some, if_neg (by rw [S4]; simp_all; try omega)]
  rfl
 try simp only [SD] at hc
 omega

theorem c2u : F4 Tryz.f44 = [0, 1, 2, 6, 7, 16, 17, 21, 25, 9, 30, 8, 41, 10, 46, 62, 11, 67, 71, 91, 13, 96, 12, 109, 113, 120, 126, 14, 130, 145] := by kernel_rfl
theorem d1z (op : ByteArray) (h1 : 1 ≤ nd op) (x y : List Int) (hx : vl x = true) (hy : vl y = true) : CW (cxT oG) 44 [sV op, L x, L y] = some (.tup [.own 1 ((raR op x y).map iV), bV (mkR op x y).isSome], []) := by
 have hx40 := (S4.1 hx).1
 have hy40 := (S4.1 hy).1
 have hgx := a0y hx
 have hgy := a0y hy
 have hsx := a3v x
 refine E5 rfl Tryz.func44 rfl ⟨by kernel_rfl, rfl, dT rfl, dT rfl, by decide⟩ c2u <| A3 <| A0 ?_
 (refine B2 rfl rfl (fun _ => rfl) ?_; intro g6)
 refine y_S rfl <| xN [0,1,2] [] rfl <| A3 <| A0 <| B4 (es := List.map iV []) rfl rfl (dT rfl) rfl rfl (fun _ => B1 (A6 fun _ => rfl)) (fun _ => rfl) ?_
 intro g15
 (refine xO rfl rfl (by simp) rfl (fun _ => rfl) (fun _ => rfl) ?_; intro g8)
 refine xN [0,1,2,8] [8] rfl <| c5d <| A3 <| A0 <| y_M rfl <| xN [1,2,8,16] [8] rfl ?_
 refine d8a (β := List Int × Nat × Nat) [] trivial (fun (z : List Int × Nat × Nat) => match z with | (r, n, g) => [(.h 8, .obj g 0 1 (r.map iV)), (.t 8, .sl 8 g none 0 n)]) (fun (z : List Int × Nat × Nat) => match z with | (r, n, g) => V2 op x y = some r ∧ n = r.length ∧ r.length ≤ 80) ?_ ?_
 ·skip
  refine B0 <| A3 <| A0 <| I3 rfl rfl <| y_S rfl <| xN [1,2,8,16,17] [8] rfl ?_
  refine A5 rfl ?_ ?_ <;> intro hc <;> try simp only [SL] at hc
  ·try simp at hc
   refine A0 <| y_M rfl ?_
   apply xC rfl
   ·apply A9
    ·exact B7 rfl
    exact C5
   ·exact d3h x (by omega)
   refine ⟨⟨rfl, rfl, rfl, dT rfl, rfl⟩, .inl rfl, B3, K0, fun _ => rfl, fun g20 => ?_⟩
   simp only [List.length_map]
   (refine xO rfl rfl (by simp) rfl (fun _ => rfl) (fun _ => rfl) ?_; intro g8)
   refine xN [8] [8] rfl ?_
   refine ⟨(_, _, _), ?_, ⟨rfl, rfl, trivial⟩⟩
   exact ⟨(by (simp [V2, *]; done)), (by (simp; done)), (by (simp; omega))⟩
  try simp at hc
  refine A3 <| A0 <| I3 rfl rfl <| y_S rfl <| xN [1,2,8,16,21] [8] rfl ?_
  refine A5 rfl ?_ ?_ <;> intro hc <;> try simp only [SL] at hc
  ·try simp at hc
   refine A0 <| y_M rfl ?_
   apply xC rfl
   ·apply A9
    ·exact B7 rfl
    exact C5
   ·exact d4d x (by omega)
   refine ⟨⟨rfl, rfl, rfl, dT rfl, rfl⟩, .inl rfl, B3, K0, fun _ => rfl, fun g24 => ?_⟩
   simp only [List.length_map]
   (refine xO rfl rfl (by simp) rfl (fun _ => rfl) (fun _ => rfl) ?_; intro g8)
   refine xN [8] [8] rfl ?_
   refine ⟨(_, _, _), ?_, ⟨rfl, rfl, trivial⟩⟩
   exact ⟨(by (simp [V2, *]; done)), (by (simp; done)), (by (simp; omega))⟩
  try simp at hc
  refine A3 <| A0 <| I3 rfl rfl <| y_S rfl <| xN [1,2,8,16,25] [8] rfl ?_
  refine A5 rfl ?_ ?_ <;> intro hc <;> try simp only [SL] at hc
  ·try simp at hc
   refine A3 <| A0 <| y_S rfl <| xN [1,8,9] [8] rfl <| B0 <| E8 (β := Nat × List Int × Nat) [(.t 1, _)] (fun (z : Nat × List Int × Nat) => match z with | (i, l, g) => [(.t 9, iV i), (.h 8, .obj g 0 1 (l.map iV)), (.t 8, .sl 8 g none 0 l.length)]) (fun (z : Nat × List Int × Nat) => match z with | (i, l, g) => i ≤ x.length ∧ l = (List.range i).map (fun i => -(H6 x i))) (fun (z : Nat × List Int × Nat) => match z with | (i, l, g) => x.length - i) (0, [], _) ⟨rfl, rfl, rfl, rfl, trivial⟩ ⟨Nat.zero_le _, rfl⟩ ?_
   intro z hb
   obtain ⟨i, l, g⟩ := z
   try dsimp only at hb
   obtain ⟨hi1, hl⟩ := hb
   have hll : l.length = i := by rw [hl]; simp
   have hgi : -100000 ≤ x.getD i default ∧ x.getD i default ≤ 100000 := hgx i
   have hgyi : -100000 ≤ y.getD i default ∧ y.getD i default ≤ 100000 := hgy i
   refine A3 <| A3 <| A0 <| y_M rfl <| y_M rfl <| B9 rfl rfl <| F8 rfl rfl <| xN [1,8,9,30] [8] rfl ?_
   refine A5 rfl ?_ ?_ <;> intro hc <;> try simp only [SL] at hc
   ·refine A7 <| A3 <| B0 <| A0 <| y_M rfl <| y_M rfl <| y_M rfl <| B8 rfl rfl rfl (fun _ => rfl) (by omega) <| y_I rfl <| b9l rfl (C3 (by omega)) <| B4 (es := List.map iV [_]) rfl rfl (dT rfl) rfl rfl (fun _ => B1 (A6 fun _ => rfl)) (fun _ => rfl) ?_
    intro g39
    refine xA rfl rfl rfl rfl (by simp) (by simp) rfl rfl rfl rfl rfl (fun _ => rfl) (by simp only [LN]; omega) (fun _ => rfl) ?_
    intro g40
    (refine xO rfl rfl (by simp) rfl (fun _ => rfl) (fun _ => rfl) ?_; intro g8)
    refine xN [1,8,9] [8] rfl <| A0 <| y_M rfl <| E4 rfl rfl (C3 (by omega)) <| y_S rfl <| xN [1,8,9] [8] rfl ?_
    refine ⟨(i + 1, l ++ [-(x.getD i default)], _), ?_, (by simp only; omega), ⟨rfl, rfl, rfl, rfl, trivial⟩⟩
    exact ⟨by omega, by rw [hl, V7]; rfl⟩
   refine E3 ?_
   refine ⟨(_, _, _), ?_, ⟨rfl, rfl, trivial⟩⟩
   exact ⟨apF (show l = x.map (fun v => -v) by rw [hl, show i = x.length by omega]; exact a9p x fun v => -v) (by simp [V2, *]), by omega, by omega⟩
  try simp at hc
  refine A3 <| A0 <| I3 rfl rfl <| y_S rfl <| xN [1,2,8,16,41] [8] rfl ?_
  refine A5 rfl ?_ ?_ <;> intro hc <;> try simp only [SL] at hc
  ·try simp at hc
   refine A3 <| A0 <| y_S rfl <| xN [1,8,10] [8] rfl <| B0 <| E8 (β := Nat × List Int × Nat) [(.t 1, _)] (fun (z : Nat × List Int × Nat) => match z with | (i, l, g) => [(.t 10, iV i), (.h 8, .obj g 0 1 (l.map iV)), (.t 8, .sl 8 g none 0 l.length)]) (fun (z : Nat × List Int × Nat) => match z with | (i, l, g) => i ≤ x.length ∧ l = (List.range i).map (fun i => max (H6 x i) (-(H6 x i)))) (fun (z : Nat × List Int × Nat) => match z with | (i, l, g) => x.length - i) (0, [], _) ⟨rfl, rfl, rfl, rfl, trivial⟩ ⟨Nat.zero_le _, rfl⟩ ?_
   intro z hb
   obtain ⟨i, l, g⟩ := z
   try dsimp only at hb
   obtain ⟨hi1, hl⟩ := hb
   have hll : l.length = i := by rw [hl]; simp
   have hgi : -100000 ≤ x.getD i default ∧ x.getD i default ≤ 100000 := hgx i
   have hgyi : -100000 ≤ y.getD i default ∧ y.getD i default ≤ 100000 := hgy i
   refine A3 <| A3 <| A0 <| y_M rfl <| y_M rfl <| B9 rfl rfl <| F8 rfl rfl <| xN [1,8,10,46] [8] rfl ?_
   refine A5 rfl ?_ ?_ <;> intro hc <;> try simp only [SL] at hc
   ·refine A7 <| A3 <| B0 <| A0 <| y_M rfl <| y_M rfl <| y_M rfl <| B8 rfl rfl rfl (fun _ => rfl) (by omega) <| y_I rfl <| y_M rfl <| y_M rfl <| B8 rfl rfl rfl (fun _ => rfl) (by omega) <| y_I rfl <| b9l rfl (C3 (by omega)) <| e0k rfl rfl <| B4 (es := List.map iV [_]) rfl rfl (dT rfl) rfl rfl (fun _ => B1 (A6 fun _ => rfl)) (fun _ => rfl) ?_
    intro g60
    refine xA rfl rfl rfl rfl (by simp) (by simp) rfl rfl rfl rfl rfl (fun _ => rfl) (by simp only [LN]; omega) (fun _ => rfl) ?_
    intro g61
    (refine xO rfl rfl (by simp) rfl (fun _ => rfl) (fun _ => rfl) ?_; intro g8)
    refine J6 ⟨fun _ => ⟨by decide +kernel, by decide +kernel⟩, [(.t 1, _), (.t 8, _), (.t 10, _), (.h 8, _)], ⟨rfl, rfl, rfl, rfl, rfl, rfl, rfl, rfl, trivial⟩, ?_⟩
    refine A0 <| y_M rfl <| E4 rfl rfl (C3 (by omega)) <| y_S rfl <| xN [1,8,10] [8] rfl ?_
    refine ⟨(i + 1, l ++ [max (x.getD i default) (-(x.getD i default))], _), ?_, (by simp only; omega), ⟨rfl, rfl, rfl, rfl, trivial⟩⟩
    exact ⟨by omega, by rw [hl, V7]; rfl⟩
   refine E3 ?_
   refine ⟨(_, _, _), ?_, ⟨rfl, rfl, trivial⟩⟩
   exact ⟨apF (show l = x.map (fun v => max v (-v)) by rw [hl, show i = x.length by omega]; exact a9p x fun v => max v (-v)) (by simp [V2, *]), by omega, by omega⟩
  try simp at hc
  refine A3 <| A0 <| I3 rfl rfl <| y_S rfl <| xN [1,2,8,16,62] [8] rfl ?_
  refine A5 rfl ?_ ?_ <;> intro hc <;> try simp only [SL] at hc
  ·try simp at hc
   refine A3 <| A0 <| y_S rfl <| xN [1,8,11] [8] rfl <| B0 <| E8 (β := Nat × List Int × Nat) [(.t 1, _)] (fun (z : Nat × List Int × Nat) => match z with | (i, l, g) => [(.t 11, iV i), (.h 8, .obj g 0 1 (l.map iV)), (.t 8, .sl 8 g none 0 l.length)]) (fun (z : Nat × List Int × Nat) => match z with | (i, l, g) => i ≤ x.length ∧ l = (List.range i).map (fun i => if i = 0 then H6 x 0 else H6 x i - H6 x (i - 1))) (fun (z : Nat × List Int × Nat) => match z with | (i, l, g) => x.length - i) (0, [], _) ⟨rfl, rfl, rfl, rfl, trivial⟩ ⟨Nat.zero_le _, rfl⟩ ?_
   intro z hb
   obtain ⟨i, l, g⟩ := z
   try dsimp only at hb
   obtain ⟨hi1, hl⟩ := hb
   have hll : l.length = i := by rw [hl]; simp
   have hgi : -100000 ≤ x.getD i default ∧ x.getD i default ≤ 100000 := hgx i
   have hgyi : -100000 ≤ y.getD i default ∧ y.getD i default ≤ 100000 := hgy i
   refine A3 <| A3 <| A0 <| y_M rfl <| y_M rfl <| B9 rfl rfl <| F8 rfl rfl <| xN [1,8,11,67] [8] rfl ?_
   refine A5 rfl ?_ ?_ <;> intro hc <;> try simp only [SL] at hc
   ·refine A7 <| A3 <| B0 <| A3 <| A0 <| y_M rfl <| M9 rfl rfl <| xN [1,8,11,71] [8] rfl ?_
    refine A5 rfl ?_ ?_ <;> intro hc <;> try simp only [SL] at hc
    ·refine A0 <| y_M rfl <| y_M rfl <| B8 rfl rfl rfl (fun _ => rfl) (by (change 0 < _; omega)) <| y_I rfl <| B4 (es := List.map iV [_]) rfl rfl (dT rfl) rfl rfl (fun _ => B1 (A6 fun _ => rfl)) (fun _ => rfl) ?_
     intro g76
     refine xA rfl rfl rfl rfl (by simp) (by simp) rfl rfl rfl rfl rfl (fun _ => rfl) (by simp only [LN]; omega) (fun _ => rfl) ?_
     intro g77
     (refine xO rfl rfl (by simp) rfl (fun _ => rfl) (fun _ => rfl) ?_; intro g8)
     refine xN [1,8,11] [8] rfl <| A0 <| y_M rfl <| E4 rfl rfl (C3 (by omega)) <| y_S rfl <| xN [1,8,11] [8] rfl ?_
     refine ⟨(i + 1, l ++ [x.getD 0 default], _), ?_, (by simp only; omega), ⟨rfl, rfl, rfl, rfl, trivial⟩⟩
     exact ⟨by omega, by rw [hl, V7, if_pos (by omega)]; rfl⟩
    refine A0 <| y_M rfl <| y_M rfl <| y_M rfl <| B8 rfl rfl rfl (fun _ => rfl) (by omega) <| y_I rfl <| y_M rfl <| y_M rfl <| P6 rfl rfl (C3 (by omega)) ?_
    rw [show ((i : Int) - 1) = ((i - 1 : Nat) : Int) by omega]
    have hgi2 : -100000 ≤ x.getD (i - 1) default ∧ x.getD (i - 1) default ≤ 100000 := hgx (i - 1)
    refine B8 rfl rfl rfl (fun _ => rfl) (by omega) <| y_I rfl <| P6 rfl rfl (C3 (by omega)) <| B4 (es := List.map iV [_]) rfl rfl (dT rfl) rfl rfl (fun _ => B1 (A6 fun _ => rfl)) (fun _ => rfl) ?_
    intro g89
    refine xA rfl rfl rfl rfl (by simp) (by simp) rfl rfl rfl rfl rfl (fun _ => rfl) (by simp only [LN]; omega) (fun _ => rfl) ?_
    intro g90
    (refine xO rfl rfl (by simp) rfl (fun _ => rfl) (fun _ => rfl) ?_; intro g8)
    refine J6 ⟨fun _ => ⟨by decide +kernel, by decide +kernel⟩, [(.t 1, _), (.t 8, _), (.t 11, _), (.h 8, _)], ⟨rfl, rfl, rfl, rfl, rfl, rfl, rfl, rfl, trivial⟩, ?_⟩
    refine A0 <| y_M rfl <| E4 rfl rfl (C3 (by omega)) <| y_S rfl <| xN [1,8,11] [8] rfl ?_
    refine ⟨(i + 1, l ++ [x.getD i default - x.getD (i - 1) default], _), ?_, (by simp only; omega), ⟨rfl, rfl, rfl, rfl, trivial⟩⟩
    exact ⟨by omega, by rw [hl, V7, if_neg (by omega)]; rfl⟩
   refine E3 ?_
   refine ⟨(_, _, _), ?_, ⟨rfl, rfl, trivial⟩⟩
   exact ⟨apF (show l = dfI x by rw [hl, show i = x.length by omega]; rfl) (by simp [V2, *]), by omega, by omega⟩
  try simp at hc
  refine A3 <| A0 <| I3 rfl rfl <| y_S rfl <| xN [1,2,8,16,91] [8] rfl ?_
  refine A5 rfl ?_ ?_ <;> intro hc <;> try simp only [SL] at hc
  ·try simp at hc
   refine A3 <| A0 <| y_S rfl <| xN [1,8,12] [8] rfl <| A3 <| A0 <| y_S rfl <| xN [1,8,12,13] [8] rfl <| B0 <| E8 (β := Nat × Int × List Int × Nat) [(.t 1, _)] (fun (z : Nat × Int × List Int × Nat) => match z with | (i, s, l, g) => [(.t 13, iV i), (.t 12, iV s), (.h 8, .obj g 0 1 (l.map iV)), (.t 8, .sl 8 g none 0 l.length)]) (fun (z : Nat × Int × List Int × Nat) => match z with | (i, s, l, g) => i ≤ x.length ∧ s = prS (H6 x) i ∧ l = (List.range i).map fun i => prS (H6 x) (i + 1)) (fun (z : Nat × Int × List Int × Nat) => match z with | (i, s, l, g) => x.length - i) (0, 0, [], _) ⟨rfl, rfl, rfl, rfl, rfl, trivial⟩ ⟨Nat.zero_le _, rfl, rfl⟩ ?_
   intro z hb
   obtain ⟨i, s, l, g⟩ := z
   try dsimp only at hb
   obtain ⟨hi1, hs, hl⟩ := hb
   have hll : l.length = i := by rw [hl]; simp
   have hgi : -100000 ≤ x.getD i default ∧ x.getD i default ≤ 100000 := hgx i
   have hsb := c5z hx i
   rw [← hs] at hsb
   refine A3 <| A3 <| A0 <| y_M rfl <| y_M rfl <| B9 rfl rfl <| F8 rfl rfl <| xN [1,8,12,13,96] [8] rfl ?_
   refine A5 rfl ?_ ?_ <;> intro hc <;> try simp only [SL] at hc
   ·refine A7 <| A3 <| B0 <| A3 <| A0 <| y_M rfl <| y_M rfl <| y_M rfl <| B8 rfl rfl rfl (fun _ => rfl) (by omega) <| y_I rfl <| E4 rfl rfl (C3 (by omega)) <| y_S rfl <| xN [1,8,12,13] [8] rfl <| A0 <| y_M rfl <| y_M rfl <| B4 (es := List.map iV [_]) rfl rfl (dT rfl) rfl rfl (fun _ => B1 (A6 fun _ => rfl)) (fun _ => rfl) ?_
    intro g107
    refine xA rfl rfl rfl rfl (by simp) (by simp) rfl rfl rfl rfl rfl (fun _ => rfl) (by simp only [LN]; omega) (fun _ => rfl) ?_
    intro g108
    (refine xO rfl rfl (by simp) rfl (fun _ => rfl) (fun _ => rfl) ?_; intro g8)
    refine xN [1,8,12,13] [8] rfl <| A0 <| y_M rfl <| E4 rfl rfl (C3 (by omega)) <| y_S rfl <| xN [1,8,12,13] [8] rfl ?_
    refine ⟨(i + 1, s + x.getD i default, l ++ [s + x.getD i default], _), ?_, (by simp only; omega), ⟨rfl, rfl, rfl, rfl, rfl, trivial⟩⟩
    exact ⟨by omega, by rw [prS, hs]; rfl, by rw [hl, V7, prS, hs]; rfl⟩
   refine E3 ?_
   refine ⟨(_, _, _), ?_, ⟨rfl, rfl, trivial⟩⟩
   exact ⟨apF (show l = smI x by rw [hl, show i = x.length by omega]; rfl) (by simp [V2, *]), by omega, by omega⟩
  try simp at hc
  refine A3 <| A0 <| I3 rfl rfl <| y_S rfl <| xN [1,2,8,16,109] [8] rfl ?_
  refine A5 rfl ?_ ?_ <;> intro hc <;> try simp only [SL] at hc
  ·try simp at hc
   refine A0 <| y_M rfl ?_
   apply xC rfl
   ·apply A9
    ·exact B7 rfl
    exact C5
   ·exact d6s x hx
   refine ⟨⟨rfl, rfl, rfl, dT rfl, rfl⟩, .inl rfl, B3, K0, fun _ => rfl, fun g112 => ?_⟩
   simp only [List.length_map]
   (refine xO rfl rfl (by simp) rfl (fun _ => rfl) (fun _ => rfl) ?_; intro g8)
   refine xN [8] [8] rfl ?_
   refine ⟨(_, _, _), ?_, ⟨rfl, rfl, trivial⟩⟩
   exact ⟨(by (simp [V2, rkI, *]; done)), (by (simp [dfI, smI, rkI, adI]; done)), (by (simp; omega))⟩
  try simp at hc
  refine A3 <| A0 <| I3 rfl rfl <| y_S rfl <| xN [1,2,8,16,113] [8] rfl ?_
  refine A5 rfl ?_ ?_ <;> intro hc <;> try simp only [SL] at hc
  ·try simp at hc
   refine A0 <| y_M rfl <| y_M rfl ?_
   refine xC1 rfl rfl (e1j x hx) ⟨rfl, rfl, rfl⟩ rfl rfl fun g117 => ?_
   refine B4 (es := List.map iV [_]) rfl rfl (dT rfl) rfl rfl (fun _ => B1 (A6 fun _ => rfl)) (fun _ => rfl) ?_
   intro g118
   refine xA rfl rfl rfl rfl (by simp) (by simp) rfl rfl rfl rfl rfl (fun _ => rfl) (by simp only [LN]; omega) (fun _ => rfl) ?_
   intro g119
   (refine xO rfl rfl (by simp) rfl (fun _ => rfl) (fun _ => rfl) ?_; intro g8)
   refine xN [8] [8] rfl ?_
   refine ⟨(_, _, _), ?_, ⟨rfl, rfl, trivial⟩⟩
   exact ⟨(by (simp [V2, *]; done)), (by (simp; done)), (by (simp; done))⟩
  try simp at hc
  refine A3 <| A0 <| I3 rfl rfl <| y_S rfl <| xN [1,2,8,16,120] [8] rfl ?_
  refine A5 rfl ?_ ?_ <;> intro hc <;> try simp only [SL] at hc
  ·try simp at hc
   refine A3 <| A3 <| A0 <| y_M rfl <| B9 rfl rfl <| y_M rfl <| B9 rfl rfl <| c0g rfl rfl <| xN [1,2,8,126] [8] rfl ?_
   refine A5 rfl ?_ ?_ <;> intro hc <;> try simp only [SL] at hc
   ·refine A3 <| A0 ?_
    (refine B2 rfl rfl (fun _ => rfl) ?_; intro g6)
    refine y_S rfl <| xN [6,7] [6] rfl <| A8 <| C0 (G3 rfl rfl (by simp) (by rfl) (D4 rfl rfl (C7 B5))) ?_
    have hne : ¬ x.length = y.length := by omega
    rw [show mkR op x y = none from by simp [mkR, V2, *], show raR op x y = [] from by simp [raR, V2, *]]
    rfl
   refine A7 <| A3 <| A0 <| y_S rfl <| xN [1,2,8,14] [8] rfl <| B0 <| E8 (β := Nat × List Int × Nat) [(.t 1, _), (.t 2, _)] (fun (z : Nat × List Int × Nat) => match z with | (i, l, g) => [(.t 14, iV i), (.h 8, .obj g 0 1 (l.map iV)), (.t 8, .sl 8 g none 0 l.length)]) (fun (z : Nat × List Int × Nat) => match z with | (i, l, g) => i ≤ x.length ∧ l = (List.range i).map (fun i => H6 x i + H6 y i)) (fun (z : Nat × List Int × Nat) => match z with | (i, l, g) => x.length - i) (0, [], _) ⟨rfl, rfl, rfl, rfl, rfl, trivial⟩ ⟨Nat.zero_le _, rfl⟩ ?_
   intro z hb
   obtain ⟨i, l, g⟩ := z
   try dsimp only at hb
   obtain ⟨hi1, hl⟩ := hb
   have hll : l.length = i := by rw [hl]; simp
   have hgi : -100000 ≤ x.getD i default ∧ x.getD i default ≤ 100000 := hgx i
   have hgyi : -100000 ≤ y.getD i default ∧ y.getD i default ≤ 100000 := hgy i
   refine A3 <| A3 <| A0 <| y_M rfl <| y_M rfl <| B9 rfl rfl <| F8 rfl rfl <| xN [1,2,8,14,130] [8] rfl ?_
   refine A5 rfl ?_ ?_ <;> intro hc <;> try simp only [SL] at hc
   ·refine A7 <| A3 <| B0 <| A0 <| y_M rfl <| y_M rfl <| y_M rfl <| B8 rfl rfl rfl (fun _ => rfl) (by omega) <| y_I rfl <| y_M rfl <| y_M rfl <| B8 rfl rfl rfl (fun _ => rfl) (by omega) <| y_I rfl <| E4 rfl rfl (C3 (by omega)) <| B4 (es := List.map iV [_]) rfl rfl (dT rfl) rfl rfl (fun _ => B1 (A6 fun _ => rfl)) (fun _ => rfl) ?_
    intro g143
    refine xA rfl rfl rfl rfl (by simp) (by simp) rfl rfl rfl rfl rfl (fun _ => rfl) (by simp only [LN]; omega) (fun _ => rfl) ?_
    intro g144
    (refine xO rfl rfl (by simp) rfl (fun _ => rfl) (fun _ => rfl) ?_; intro g8)
    refine J6 ⟨fun _ => ⟨by decide +kernel, by decide +kernel⟩, [(.t 1, _), (.t 2, _), (.t 8, _), (.t 14, _), (.h 8, _)], ⟨rfl, rfl, rfl, rfl, rfl, rfl, rfl, rfl, rfl, rfl, trivial⟩, ?_⟩
    refine A0 <| y_M rfl <| E4 rfl rfl (C3 (by omega)) <| y_S rfl <| xN [1,2,8,14] [8] rfl ?_
    refine ⟨(i + 1, l ++ [x.getD i default + y.getD i default], _), ?_, (by simp only; omega), ⟨rfl, rfl, rfl, rfl, rfl, trivial⟩⟩
    exact ⟨by omega, by rw [hl, V7]; rfl⟩
   refine E3 ?_
   refine ⟨(_, _, _), ?_, ⟨rfl, rfl, trivial⟩⟩
   exact ⟨adF (by assumption) (by omega) (by rw [hl, show i = x.length by omega]; rfl) rfl, by omega, by omega⟩
  try simp at hc
  refine A3 <| A0 <| I3 rfl rfl <| y_S rfl <| xN [1,2,8,145] [8] rfl ?_
  refine A5 rfl ?_ ?_ <;> intro hc <;> try simp only [SL] at hc
  ·try simp at hc
   refine A0 <| y_M rfl <| y_M rfl <| S1 rfl rfl rfl (by (simp; done)) rfl rfl rfl (dT rfl) (fun _ => ⟨rfl, rfl, rfl⟩) (by simp only [G9]; (simp only [List.length_nil, List.length_cons, List.length_append, Nat.zero_add, List.length_map]; omega)) (fun _ => rfl) ?_
   intro g149
   refine y_M rfl <| S1 rfl rfl rfl (by (simp; done)) rfl rfl rfl (dT rfl) (fun _ => ⟨rfl, rfl, rfl⟩) (by simp only [G9]; (simp only [List.length_nil, List.length_cons, List.length_append, Nat.zero_add, List.length_map]; omega)) (fun _ => rfl) ?_
   intro g151
   (refine xO rfl rfl (by simp) rfl (fun _ => rfl) (fun _ => rfl) ?_; intro g8)
   refine xN [8] [8] rfl ?_
   refine ⟨(_, _, _), ?_, ⟨rfl, rfl, trivial⟩⟩
   exact ⟨(by (simp [V2, *]; done)), (by (simp; done)), (by (simp; omega))⟩
  try simp at hc
  refine A7 ?_
  refine ⟨(_, _, _), ?_, ⟨rfl, rfl, trivial⟩⟩
  exact absurd (d5c h1) (by simp [*])
 intro z hb
 obtain ⟨r, n, g⟩ := z
 try dsimp only at hb
 obtain ⟨hraw, hn, hr80⟩ := hb
 subst hn
 refine A3 <| A0 <| y_M rfl <| y_M rfl ?_
 apply xC rfl
 ·apply A9
  ·exact I9 rfl rfl rfl (by (simp; done)) (fun _ => rfl)
  exact C5
 ·exact c3u r (by omega)
 refine ⟨⟨rfl, rfl, rfl, dT rfl, rfl⟩, .inr ⟨rfl, rfl⟩, B3, C9 rfl, fun _ => rfl, fun g154 => ?_⟩
 (refine xO rfl rfl (by simp) rfl (fun _ => rfl) (fun _ => rfl) ?_; intro g6)
 refine y_S rfl <| xN [6,7] [6] rfl <| A8 <| C0 (G3 rfl rfl (by simp) (by exact A6 fun _ => rfl) (D4 rfl rfl (C7 B5))) ?_
 rw [raR, mkR, hraw, Option.bind_some, Option.getD_some]
 cases hvr : vl r <;> rfl

theorem c7f : F4 Tryz.f36 = [0, 1, 4, 5, 2, 14, 24, 23, 25, 22, 8, 10, 35, 9, 6] := by kernel_rfl
theorem d4w (t : Pl) (hgd : t.good) (hwf : t.wf) (cols : List (List Int)) (hvc : vcs cols = true) (hc4 : cols.length ≤ 1048576) (hcb : ∀ c ∈ cols, c.length ≤ 1048576) : CW (cxT oG) 36 [trK t, M cols] = some (.tup [.own 1 (((a2u cols t).getD []).map iV), bV (a2u cols t).isSome], []) := by
 obtain ⟨kk, hkk⟩ : ∃ kk : Nat, t.sz < kk := ⟨_, Nat.lt_succ_self _⟩
 revert t
 induction kk with
 | zero => intro t hgd hwf hkk; exact absurd hkk (Nat.not_lt_zero _)
 | succ kk ih =>
  intro t hgd hwf hkk
  refine E5 rfl Tryz.func36 rfl ⟨by kernel_rfl, rfl, dT rfl, dT rfl, by decide⟩ c7f <| A3 <| A0 ?_
  rcases t with ns | w | ⟨w, p⟩ | ⟨w, p, q⟩
  ·rw [c2f]
   have hvl := b1g (show vd ns = true from hgd)
   refine a0k rfl rfl rfl (fun _ => K3 rfl) (fun _ => rfl) ?_
   intro g2
   (refine B2 rfl rfl (fun _ => rfl) ?_; intro g4)
   refine y_S rfl <| xN [1,2] [2] rfl <| A3 <| A3 <| A0 <| y_F rfl <| y_L rfl <| B9 rfl rfl <| M9 rfl rfl <| xN [1,2,14] [2] rfl ?_
   refine A5 rfl (fun hc => ?_) (fun hc => absurd hc (by decide))
   refine A3 <| A0 <| y_F rfl <| y_L rfl <| y_F rfl <| y_L rfl <| y_M rfl ?_
   apply xC rfl
   ·apply A9
    ·exact B7 rfl
    apply A9
    ·exact B7 rfl
    apply A9
    ·exact B7 rfl
    exact C5
   ·exact d3q ns (by omega) cols
   refine ⟨⟨rfl, rfl, rfl, dT rfl, rfl⟩, .inl rfl, B3, K0, fun _ => rfl, fun g20 => ?_⟩
   simp only [List.length_map]
   (refine xO rfl rfl (by simp) rfl (fun _ => rfl) (fun _ => rfl) ?_; intro g4)
   refine y_S rfl <| xN [4,5] [4] rfl <| A8 <| C0 (G3 rfl rfl (by simp) (by exact A6 fun _ => rfl) (D4 rfl rfl (C7 B5))) ?_
   rfl
  ·rw [c0y]
   have hwl : rch (bA w) = 0 := hwf
   obtain ⟨⟨k, hk, ek⟩, -⟩ := d9j hwl
   have hci := d9a hk
   refine a0k rfl rfl rfl (fun _ => K3 rfl) (fun _ => rfl) ?_
   intro g2
   (refine B2 rfl rfl (fun _ => rfl) ?_; intro g4)
   refine y_S rfl <| xN [1,2] [2] rfl <| A3 <| A3 <| A0 <| y_F rfl <| y_L rfl <| B9 rfl rfl <| M9 rfl rfl <| xN [1,2,14] [2] rfl ?_
   refine A5 rfl (fun hc => ?_) (fun hc => absurd hc (by decide))
   refine A3 <| A0 <| y_F rfl <| y_L rfl <| y_F rfl <| y_L rfl <| y_M rfl ?_
   apply xC rfl
   ·apply A9
    ·exact B7 rfl
    apply A9
    ·exact B7 rfl
    apply A9
    ·exact B7 rfl
    exact C5
   ·exact (by have hi := d4y (oG := oG) k hk [] cols hc4 hcb; rw [← ek] at hi; exact hi)
   refine ⟨⟨rfl, rfl, rfl, dT rfl, rfl⟩, .inl rfl, B3, K0, fun _ => rfl, fun g20 => ?_⟩
   simp only [List.length_map]
   (refine xO rfl rfl (by simp) rfl (fun _ => rfl) (fun _ => rfl) ?_; intro g4)
   refine y_S rfl <| xN [4,5] [4] rfl <| A8 <| C0 (G3 rfl rfl (by simp) (by exact A6 fun _ => rfl) (D4 rfl rfl (C7 B5))) ?_
   rw [a2u, ek, hci]
   rfl
  ·rw [d0i]
   have hsz1 : (Pl.un w p).sz = p.sz + 1 := rfl
   have hn : nd (bA w) = 1 := (S9 (by have h := hwf.1; omega)).trans hwf.1
   refine a0k rfl rfl rfl (fun _ => K3 rfl) (fun _ => rfl) ?_
   intro g2
   (refine B2 rfl rfl (fun _ => rfl) ?_; intro g4)
   refine y_S rfl <| xN [1,2] [2] rfl <| A3 <| A3 <| A0 <| y_F rfl <| y_L rfl <| B9 rfl rfl <| M9 rfl rfl <| xN [1,2,14] [2] rfl ?_
   refine A5 rfl (fun hc => absurd hc (by exact fun h => Bool.noConfusion (show false = true from h))) (fun hc => ?_)
   refine A7 <| A3 <| A0 ?_
   (refine B2 rfl rfl (fun _ => rfl) ?_; intro g6)
   refine xN [1,2,6] [2,6] rfl <| A3 <| A3 <| A0 <| y_F rfl <| y_L rfl <| B9 rfl rfl <| y_M rfl <| xN [1,2,6,22,23,24] [2,6] rfl <| B0 <| G0 <| A3 <| A0 <| F8 rfl rfl <| xN [1,2,6,22,23,24,25] [2,6] rfl <| A3 ?_
   refine A5 rfl (fun hc => ?_) (fun hc => absurd hc (by exact fun h => Bool.noConfusion (show true = false from h)))
   refine A7 <| A3 <| B0 <| A3 <| A0 <| H2 rfl rfl rfl (fun _ => rfl) (by show (0 : Int) ≤ 0 ∧ (0 : Int) < ((1 : Nat) : Int); omega) <| y_I rfl <| y_A rfl (fun _ => rfl) ?_
   intro g8
   refine xB rfl rfl rfl rfl rfl rfl rfl rfl rfl <| xN [1,2,6,8,22,23,24] [2,6,8] rfl <| A3 <| A0 <| y_B rfl <| y_M rfl ?_
   apply xC rfl
   ·apply A9
    ·exact B7 rfl
    apply A9
    ·exact B7 rfl
    exact C5
   ·exact (by have hi := ih p hgd.2.2 hwf.2 (by omega); rw [← L7] at hi; exact hi)
   refine ⟨⟨rfl, rfl, rfl, dT rfl, rfl⟩, .inr ⟨K5 _ _, rfl⟩, B3, H5 (N0 fun _ => I4 rfl N1), fun _ => rfl, fun g31 => ?_⟩
   simp only [List.length_map]
   refine y_M rfl <| y_E rfl <| y_E rfl ?_
   (refine xO rfl rfl (by simp) rfl (fun _ => rfl) (fun _ => rfl) ?_; intro g9)
   refine y_S rfl <| xN [1,2,6,9,10,22,23,24] [2,6,9] rfl <| A3 <| A3 <| A0 <| y_M rfl <| J0 rfl <| xN [1,2,6,9,22,23,24,35] [2,6,9] rfl ?_
   refine A5 rfl ?_ ?_ <;> intro hc <;> try simp only [SL] at hc
   ·refine A3 <| A0 ?_
    (refine B2 rfl rfl (fun _ => rfl) ?_; intro g4)
    refine y_S rfl <| xN [4,5] [4] rfl <| A8 <| C0 (G3 rfl rfl (by simp) (by rfl) (D4 rfl rfl (C7 B5))) ?_
    have hno : a2u cols p = none := by simpa using hc
    show AV.tup [.own 1 [], bV false] = _
    rw [a2u, hno]
    rfl
   obtain ⟨x, hx⟩ := Option.isSome_iff_exists.1 (show (a2u cols p).isSome = true by assumption)
   rw [hx]
   have hvx := c8v hvc (hgd.2.2) hx
   simp only [Option.getD_some]
   refine A7 <| A0 <| y_M rfl <| y_M rfl <| a6a rfl rfl (by simp) rfl rfl rfl (fun _ => rfl) ?_
   intro g38
   refine Q0 (f := oI) (xs := []) (ys := [x]) rfl rfl rfl rfl (by simp) (by simp) (by decide) rfl rfl rfl rfl (dT rfl) (fun a => ⟨rfl, a9n a⟩) (by simp only [G9]; simp) (fun _ => rfl) ?_
   intro g39
   (refine xO rfl rfl (by simp) rfl (fun _ => rfl) (fun _ => rfl) ?_; intro g6)
   refine xN [1,2,6,22,23,24] [2,6] rfl <| A0 <| E4 rfl rfl (C3 (by omega)) <| y_M rfl <| xN [1,2,6,22,23,24] [2,6] rfl <| G0 <| A3 <| A0 <| F8 rfl rfl <| xN [1,2,6,22,23,24,25] [2,6] rfl <| A3 ?_
   refine A5 rfl (fun hc => absurd hc (by exact fun h => Bool.noConfusion (show false = true from h))) (fun hc => ?_)
   refine E3 <| A3 <| A0 <| y_F rfl <| y_L rfl <| y_M rfl ?_
   apply xC rfl
   ·apply A9
    ·exact B7 rfl
    apply A9
    ·exact a8m rfl rfl rfl (by (simp; done))
    exact C5
   ·exact c5q (bA w) (by omega) x [] hvx d7z [x] (by simp) (by (intro h; omega)) rfl (by (intro _; rfl))
   refine ⟨⟨rfl, rfl, rfl, dT rfl, rfl⟩, .inr ⟨K5 _ _, rfl⟩, B3, H5 (N0 fun _ => I4 rfl N1), fun _ => rfl, fun g44 => ?_⟩
   simp only [List.length_map]
   refine y_E rfl <| y_E rfl ?_
   (refine xO rfl rfl (by simp) rfl (fun _ => rfl) (fun _ => rfl) ?_; intro g4)
   refine y_S rfl <| xN [4,5] [4] rfl <| A8 <| C0 (G3 rfl rfl (by simp) (by exact A6 fun _ => rfl) (D4 rfl rfl (C7 B5))) ?_
   rw [a2u, hx, Option.bind_some]
   rfl
  rw [c1l]
  have hsz1 : (Pl.bin w p q).sz = p.sz + q.sz + 1 := rfl
  have hn : nd (bA w) = 2 := (S9 (by have h := hwf.1; omega)).trans hwf.1
  refine a0k rfl rfl rfl (fun _ => K3 rfl) (fun _ => rfl) ?_
  intro g2
  (refine B2 rfl rfl (fun _ => rfl) ?_; intro g4)
  refine y_S rfl <| xN [1,2] [2] rfl <| A3 <| A3 <| A0 <| y_F rfl <| y_L rfl <| B9 rfl rfl <| M9 rfl rfl <| xN [1,2,14] [2] rfl ?_
  refine A5 rfl (fun hc => absurd hc (by exact fun h => Bool.noConfusion (show false = true from h))) (fun hc => ?_)
  refine A7 <| A3 <| A0 ?_
  (refine B2 rfl rfl (fun _ => rfl) ?_; intro g6)
  refine xN [1,2,6] [2,6] rfl <| A3 <| A3 <| A0 <| y_F rfl <| y_L rfl <| B9 rfl rfl <| y_M rfl <| xN [1,2,6,22,23,24] [2,6] rfl <| B0 <| G0 <| A3 <| A0 <| F8 rfl rfl <| xN [1,2,6,22,23,24,25] [2,6] rfl <| A3 ?_
  refine A5 rfl (fun hc => ?_) (fun hc => absurd hc (by exact fun h => Bool.noConfusion (show true = false from h)))
  refine A7 <| A3 <| B0 <| A3 <| A0 <| H2 rfl rfl rfl (fun _ => rfl) (by show (0 : Int) ≤ 0 ∧ (0 : Int) < ((2 : Nat) : Int); omega) <| y_I rfl <| y_A rfl (fun _ => rfl) ?_
  intro g8
  refine xB rfl rfl rfl rfl rfl rfl rfl rfl rfl <| xN [1,2,6,8,22,23,24] [2,6,8] rfl <| A3 <| A0 <| y_B rfl <| y_M rfl ?_
  apply xC rfl
  ·apply A9
   ·exact B7 rfl
   apply A9
   ·exact B7 rfl
   exact C5
  ·exact (by have hi := ih p hgd.2.2.1 hwf.2.1 (by omega); rw [← L7] at hi; exact hi)
  refine ⟨⟨rfl, rfl, rfl, dT rfl, rfl⟩, .inr ⟨K5 _ _, rfl⟩, B3, H5 (N0 fun _ => I4 rfl N1), fun _ => rfl, fun g31 => ?_⟩
  simp only [List.length_map]
  refine y_M rfl <| y_E rfl <| y_E rfl ?_
  (refine xO rfl rfl (by simp) rfl (fun _ => rfl) (fun _ => rfl) ?_; intro g9)
  refine y_S rfl <| xN [1,2,6,9,10,22,23,24] [2,6,9] rfl <| A3 <| A3 <| A0 <| y_M rfl <| J0 rfl <| xN [1,2,6,9,22,23,24,35] [2,6,9] rfl ?_
  refine A5 rfl ?_ ?_ <;> intro hc <;> try simp only [SL] at hc
  ·refine A3 <| A0 ?_
   (refine B2 rfl rfl (fun _ => rfl) ?_; intro g4)
   refine y_S rfl <| xN [4,5] [4] rfl <| A8 <| C0 (G3 rfl rfl (by simp) (by rfl) (D4 rfl rfl (C7 B5))) ?_
   have hno : a2u cols p = none := by simpa using hc
   show AV.tup [.own 1 [], bV false] = _
   rw [a2u, hno]
   rfl
  obtain ⟨x, hx⟩ := Option.isSome_iff_exists.1 (show (a2u cols p).isSome = true by assumption)
  rw [hx]
  have hvx := c8v hvc (hgd.2.2.1) hx
  simp only [Option.getD_some]
  refine A7 <| A0 <| y_M rfl <| y_M rfl <| a6a rfl rfl (by simp) rfl rfl rfl (fun _ => rfl) ?_
  intro g38
  refine Q0 (f := oI) (xs := []) (ys := [x]) rfl rfl rfl rfl (by simp) (by simp) (by decide) rfl rfl rfl rfl (dT rfl) (fun a => ⟨rfl, a9n a⟩) (by simp only [G9]; simp) (fun _ => rfl) ?_
  intro g39
  (refine xO rfl rfl (by simp) rfl (fun _ => rfl) (fun _ => rfl) ?_; intro g6)
  refine xN [1,2,6,22,23,24] [2,6] rfl <| A0 <| E4 rfl rfl (C3 (by omega)) <| y_M rfl <| xN [1,2,6,22,23,24] [2,6] rfl <| G0 <| A3 <| A0 <| F8 rfl rfl <| xN [1,2,6,22,23,24,25] [2,6] rfl <| A3 ?_
  refine A5 rfl (fun hc => ?_) (fun hc => absurd hc (by exact fun h => Bool.noConfusion (show true = false from h)))
  refine A7 <| A3 <| B0 <| A3 <| A0 <| H2 rfl rfl rfl (fun _ => rfl) (by show (0 : Int) ≤ 1 ∧ (1 : Int) < ((2 : Nat) : Int); omega) <| y_I rfl <| y_A rfl (fun _ => rfl) ?_
  intro g8
  refine xB rfl rfl rfl rfl rfl rfl rfl rfl rfl <| xN [1,2,6,8,22,23,24] [2,6,8] rfl <| A3 <| A0 <| y_B rfl <| y_M rfl ?_
  apply xC rfl
  ·apply A9
   ·exact B7 rfl
   apply A9
   ·exact B7 rfl
   exact C5
  ·exact (by have hi := ih q hgd.2.2.2 hwf.2.2 (by omega); rw [← L7] at hi; exact hi)
  refine ⟨⟨rfl, rfl, rfl, dT rfl, rfl⟩, .inr ⟨K5 _ _, rfl⟩, B3, H5 (N0 fun _ => I4 rfl N1), fun _ => rfl, fun g31 => ?_⟩
  simp only [List.length_map]
  refine y_M rfl <| y_E rfl <| y_E rfl ?_
  (refine xO rfl rfl (by simp) rfl (fun _ => rfl) (fun _ => rfl) ?_; intro g9)
  refine y_S rfl <| xN [1,2,6,9,10,22,23,24] [2,6,9] rfl <| A3 <| A3 <| A0 <| y_M rfl <| J0 rfl <| xN [1,2,6,9,22,23,24,35] [2,6,9] rfl ?_
  refine A5 rfl ?_ ?_ <;> intro hc <;> try simp only [SL] at hc
  ·refine A3 <| A0 ?_
   (refine B2 rfl rfl (fun _ => rfl) ?_; intro g4)
   refine y_S rfl <| xN [4,5] [4] rfl <| A8 <| C0 (G3 rfl rfl (by simp) (by rfl) (D4 rfl rfl (C7 B5))) ?_
   have hno : a2u cols q = none := by simpa using hc
   show AV.tup [.own 1 [], bV false] = _
   rw [a2u, hx, Option.bind_some, hno]
   rfl
  obtain ⟨y, hy⟩ := Option.isSome_iff_exists.1 (show (a2u cols q).isSome = true by assumption)
  rw [hy]
  have hvy := c8v hvc (hgd.2.2.2) hy
  simp only [Option.getD_some]
  refine A7 <| A0 <| y_M rfl <| y_M rfl <| a6a rfl rfl (by simp) rfl rfl rfl (fun _ => rfl) ?_
  intro g38
  refine Q0 (f := oI) (xs := [x]) (ys := [y]) rfl rfl rfl rfl (by simp) (by simp) (by decide) rfl rfl rfl rfl (dT rfl) (fun a => ⟨rfl, a9n a⟩) (by simp only [G9]; simp) (fun _ => rfl) ?_
  intro g39
  (refine xO rfl rfl (by simp) rfl (fun _ => rfl) (fun _ => rfl) ?_; intro g6)
  refine xN [1,2,6,22,23,24] [2,6] rfl <| A0 <| E4 rfl rfl (C3 (by omega)) <| y_M rfl <| xN [1,2,6,22,23,24] [2,6] rfl <| G0 <| A3 <| A0 <| F8 rfl rfl <| xN [1,2,6,22,23,24,25] [2,6] rfl <| A3 ?_
  refine A5 rfl (fun hc => absurd hc (by exact fun h => Bool.noConfusion (show false = true from h))) (fun hc => ?_)
  refine E3 <| A3 <| A0 <| y_F rfl <| y_L rfl <| y_M rfl ?_
  apply xC rfl
  ·apply A9
   ·exact B7 rfl
   apply A9
   ·exact a8m rfl rfl rfl (by (simp; done))
   exact C5
  ·exact c5q (bA w) (by omega) x y hvx hvy [x, y] (by simp) (by (intro h; simp; done)) rfl (by (intro _; rfl))
  refine ⟨⟨rfl, rfl, rfl, dT rfl, rfl⟩, .inr ⟨K5 _ _, rfl⟩, B3, H5 (N0 fun _ => I4 rfl N1), fun _ => rfl, fun g44 => ?_⟩
  simp only [List.length_map]
  refine y_E rfl <| y_E rfl ?_
  (refine xO rfl rfl (by simp) rfl (fun _ => rfl) (fun _ => rfl) ?_; intro g4)
  refine y_S rfl <| xN [4,5] [4] rfl <| A8 <| C0 (G3 rfl rfl (by simp) (by exact A6 fun _ => rfl) (D4 rfl rfl (C7 B5))) ?_
  rw [a2u, hx, Option.bind_some, hy, Option.bind_some]
  rfl

theorem c1e : F4 Tryz.f31 = [0, 2, 1, 5, 20, 6, 4, 3, 46, 7, 51, 8, 9, 10, 73, 28] := by kernel_rfl
theorem e0i (t : Pl) (hgd : t.good) (hwf : t.wf) (hsz : t.sz ≤ 1000) : CW (cxT oG) 31 [trK t] = some (trV (foldP t), []) := by
 obtain ⟨kk, hkk⟩ : ∃ kk : Nat, t.sz < kk := ⟨_, Nat.lt_succ_self _⟩
 revert t
 induction kk with
 | zero => intro t hgd hwf hsz hkk; exact absurd hkk (Nat.not_lt_zero _)
 | succ kk ih =>
  intro t hgd hwf hsz hkk
  refine E5 rfl Tryz.func31 rfl ⟨by kernel_rfl, rfl, dT rfl, dT rfl, by decide⟩ c1e <| A3 <| A0 <| a0k rfl rfl rfl (fun _ => K3 rfl) (fun _ => rfl) ?_
  intro g1
  rcases t with ns | w | ⟨w, p⟩ | ⟨w, p, q⟩
  ·rw [c2f]
    
   refine y_A rfl (fun _ => rfl) ?_
   intro g2
   refine xN [1,2] [1,2] rfl <| A3 <| A0 <| B4 (es := List.map trV []) rfl rfl (dT rfl) rfl rfl (fun _ => B1 (A6 fun _ => rfl)) (fun _ => rfl) ?_
   intro g11
   (refine xO rfl rfl (by simp) rfl (fun _ => rfl) (fun _ => rfl) ?_; intro g3)
   refine xN [1,2,3] [1,2,3] rfl <| A3 <| A0 <| y_F rfl <| y_L rfl <| B9 rfl rfl <| O6 rfl rfl <| y_S rfl <| xN [1,2,3,4] [1,2,3] rfl <| A3 <| A3 <| A0 <| y_S rfl <| xN [1,2,3,4,5] [1,2,3] rfl <| B0 <| G0 <| A3 <| A3 <| A0 <| y_M rfl <| y_F rfl <| y_L rfl <| B9 rfl rfl <| F8 rfl rfl <| xN [1,2,3,4,5,20] [1,2,3] rfl ?_
   refine A5 rfl (fun hc => absurd hc (by decide)) (fun hc => ?_)
   refine E3 <| A3 <| A0 <| y_F rfl <| y_L rfl <| y_F rfl <| y_L rfl <| y_M rfl <| H1 (fs := [_, _, _]) rfl rfl rfl rfl rfl <| y_A rfl (fun _ => rfl) ?_
   intro g7
   refine E7 rfl rfl rfl rfl (F6 rfl (F6 rfl (M3 (by decide) I6))) (fun _ => rfl) ⟨by decide, rfl, dT rfl, Nat.le_refl _⟩ (fun _ => rfl) (fun _ => rfl) (fun _ => (by rfl)) ?_
   intro z
   simp only [I2, List.cons_append, List.nil_append]
   refine xN [1,2,3,4,7] [1,2,3,7] rfl <| A3 <| A3 <| A0 <| y_M rfl <| J0 rfl <| xN [1,2,3,7,46] [1,2,3,7] rfl ?_
   refine A5 rfl (fun hc => ?_) (fun hc => absurd hc (by decide))
   refine A3 <| A0 <| y_B rfl <| E7 rfl rfl rfl rfl (F6 rfl (F6 rfl (M3 (by decide) I6))) (fun _ => rfl) ⟨by decide, rfl, dT rfl, Nat.le_refl _⟩ (fun _ => rfl) (fun _ => rfl) (fun _ => (by rfl)) ?_
   intro z
   simp only [I2, List.cons_append, List.nil_append]
   refine xN [2] [2,3] rfl <| A8 <| C0 (D5 rfl rfl rfl rfl (C4 rfl (C4 rfl (J8 rfl rfl (by simp) (fun _ => rfl) F9))) (C7 B5)) ?_
   rfl
  ·rw [c0y]
    
   refine y_A rfl (fun _ => rfl) ?_
   intro g2
   refine xN [1,2] [1,2] rfl <| A3 <| A0 <| B4 (es := List.map trV []) rfl rfl (dT rfl) rfl rfl (fun _ => B1 (A6 fun _ => rfl)) (fun _ => rfl) ?_
   intro g11
   (refine xO rfl rfl (by simp) rfl (fun _ => rfl) (fun _ => rfl) ?_; intro g3)
   refine xN [1,2,3] [1,2,3] rfl <| A3 <| A0 <| y_F rfl <| y_L rfl <| B9 rfl rfl <| O6 rfl rfl <| y_S rfl <| xN [1,2,3,4] [1,2,3] rfl <| A3 <| A3 <| A0 <| y_S rfl <| xN [1,2,3,4,5] [1,2,3] rfl <| B0 <| G0 <| A3 <| A3 <| A0 <| y_M rfl <| y_F rfl <| y_L rfl <| B9 rfl rfl <| F8 rfl rfl <| xN [1,2,3,4,5,20] [1,2,3] rfl ?_
   refine A5 rfl (fun hc => absurd hc (by decide)) (fun hc => ?_)
   refine E3 <| A3 <| A0 <| y_F rfl <| y_L rfl <| y_F rfl <| y_L rfl <| y_M rfl <| H1 (fs := [_, _, _]) rfl rfl rfl rfl rfl <| y_A rfl (fun _ => rfl) ?_
   intro g7
   refine E7 rfl rfl rfl rfl (F6 rfl (F6 rfl (M3 (by decide) I6))) (fun _ => rfl) ⟨by decide, rfl, dT rfl, Nat.le_refl _⟩ (fun _ => rfl) (fun _ => rfl) (fun _ => (by rfl)) ?_
   intro z
   simp only [I2, List.cons_append, List.nil_append]
   refine xN [1,2,3,4,7] [1,2,3,7] rfl <| A3 <| A3 <| A0 <| y_M rfl <| J0 rfl <| xN [1,2,3,7,46] [1,2,3,7] rfl ?_
   refine A5 rfl (fun hc => ?_) (fun hc => absurd hc (by decide))
   refine A3 <| A0 <| y_B rfl <| E7 rfl rfl rfl rfl (F6 rfl (F6 rfl (M3 (by decide) I6))) (fun _ => rfl) ⟨by decide, rfl, dT rfl, Nat.le_refl _⟩ (fun _ => rfl) (fun _ => rfl) (fun _ => (by rfl)) ?_
   intro z
   simp only [I2, List.cons_append, List.nil_append]
   refine xN [2] [2,3] rfl <| A8 <| C0 (D5 rfl rfl rfl rfl (C4 rfl (C4 rfl (J8 rfl rfl (by simp) (fun _ => rfl) F9))) (C7 B5)) ?_
   rfl
  ·rw [d0i]
   have hsz1 : (Pl.un w p).sz = p.sz + 1 := rfl
   have hn : nd (bA w) = 1 := (S9 (by have h := hwf.1; omega)).trans hwf.1
   refine y_A rfl (fun _ => rfl) ?_
   intro g2
   refine xN [1,2] [1,2] rfl <| A3 <| A0 <| B4 (es := List.map trV []) rfl rfl (dT rfl) rfl rfl (fun _ => B1 (A6 fun _ => rfl)) (fun _ => rfl) ?_
   intro g11
   (refine xO rfl rfl (by simp) rfl (fun _ => rfl) (fun _ => rfl) ?_; intro g3)
   refine xN [1,2,3] [1,2,3] rfl <| A3 <| A0 <| y_F rfl <| y_L rfl <| B9 rfl rfl <| O6 rfl rfl <| y_S rfl <| xN [1,2,3,4] [1,2,3] rfl <| A3 <| A3 <| A0 <| y_S rfl <| xN [1,2,3,4,5] [1,2,3] rfl <| B0 <| G0 <| A3 <| A3 <| A0 <| y_M rfl <| y_F rfl <| y_L rfl <| B9 rfl rfl <| F8 rfl rfl <| xN [1,2,3,4,5,20] [1,2,3] rfl ?_
   refine A5 rfl (fun hc => ?_) (fun hc => absurd hc (by exact fun h => Bool.noConfusion (show true = false from h)))
   refine A7 <| A3 <| B0 <| A3 <| A0 <| y_F rfl <| y_L rfl <| y_M rfl <| H2 rfl rfl rfl (fun _ => rfl) (by show (0 : Int) ≤ 0 ∧ (0 : Int) < ((1 : Nat) : Int); omega) <| y_I rfl ?_
   refine xC1 rfl rfl ((by have hi := ih p hgd.2.2 hwf.2 (by omega) (by omega); rw [← L7] at hi; exact hi)) ⟨rfl, rfl, rfl⟩ rfl rfl fun g28 => ?_
   refine y_A rfl (fun _ => rfl) ?_
   intro g6
   refine xB rfl rfl rfl rfl rfl rfl rfl rfl rfl <| xN [1,2,3,4,5,6] [1,2,3,6] rfl <| A3 <| A0 <| y_M rfl <| y_M rfl <| H3 rfl rfl rfl <| y_F rfl <| H3 rfl rfl rfl <| y_L rfl <| H3 rfl rfl rfl <| L6 rfl rfl <| F0 rfl rfl rfl rfl <| y_S rfl <| xN [1,2,3,4,5,6] [1,2,3,6] rfl <| A0 <| y_M rfl <| y_B rfl <| B4 (es := List.map trV [_]) rfl rfl (dT rfl) rfl rfl (fun _ => B1 (A6 fun _ => rfl)) (fun _ => rfl) ?_
   intro g37
   refine xA rfl rfl rfl rfl (by simp) (by simp) rfl rfl rfl rfl rfl (fun _ => rfl) (by simp only [LN]; omega) (fun _ => rfl) ?_
   intro g38
   (refine xO rfl rfl (by simp) rfl (fun _ => rfl) (fun _ => rfl) ?_; intro g3)
   refine xN [1,2,3,4,5] [1,2,3] rfl <| A0 <| y_M rfl <| E4 rfl rfl (C3 (by omega)) <| y_S rfl <| xN [1,2,3,4,5] [1,2,3] rfl <| G0 <| A3 <| A3 <| A0 <| y_M rfl <| y_F rfl <| y_L rfl <| B9 rfl rfl <| F8 rfl rfl <| xN [1,2,3,4,5,20] [1,2,3] rfl ?_
   refine A5 rfl (fun hc => absurd hc (by exact fun h => Bool.noConfusion (show false = true from h))) (fun hc => ?_)
   refine E3 <| A3 <| A0 <| y_F rfl <| y_L rfl <| y_F rfl <| y_L rfl <| y_M rfl <| H1 (fs := [_, _, _]) rfl rfl rfl rfl rfl <| y_A rfl (fun _ => rfl) ?_
   intro g7
   refine E7 rfl rfl rfl rfl (F6 rfl (F6 rfl (M3 (by decide) I6))) (fun _ => rfl) ⟨by decide, rfl, dT rfl, Nat.le_refl _⟩ (fun _ => rfl) (fun _ => rfl) (fun _ => (by rfl)) ?_
   intro z
   simp only [I2, List.cons_append, List.nil_append]
   refine xN [1,2,3,4,7] [1,2,3,7] rfl <| A3 <| A3 <| A0 <| y_M rfl <| J0 rfl <| xN [1,2,3,7,46] [1,2,3,7] rfl ?_
   refine A5 rfl ?_ ?_ <;> intro hc <;> try simp only [SL] at hc
   ·have hnl : ∀ ns, foldP p ≠ .lst ns := fun ns e => hc (by rw [e]; rfl)
    refine A3 <| A0 <| y_B rfl <| E7 rfl rfl rfl rfl (F6 rfl (F6 rfl (M3 (by decide) I6))) (fun _ => rfl) ⟨by decide, rfl, dT rfl, Nat.le_refl _⟩ (fun _ => rfl) (fun _ => rfl) (fun _ => (by rfl)) ?_
    intro z
    simp only [I2, List.cons_append, List.nil_append]
    refine xN [2] [2,3] rfl <| A8 <| C0 (D5 rfl rfl rfl rfl (C4 rfl (C4 rfl (J8 rfl rfl (by simp) (fun _ => rfl) F9))) (C7 B5)) ?_
    rw [b9c hnl]
    show _ = AV.agg [tV w, .list [], .list [trV (foldP p)]]
    rfl
   obtain ⟨ms, hp, hvp⟩ := W0 (P2 _ hgd.2.2) (show (foldP p).op = lW by assumption)
   rw [hp]
   refine A7 <| A3 <| A0 <| B4 (es := List.map iV []) rfl rfl (dT rfl) rfl rfl (fun _ => B1 (A6 fun _ => rfl)) (fun _ => rfl) ?_
   intro g48
   (refine xO rfl rfl (by simp) rfl (fun _ => rfl) (fun _ => rfl) ?_; intro g8)
   refine xN [1,2,3,7,8] [1,2,3,7,8] rfl <| A3 <| A3 <| A0 <| y_M rfl <| I5 rfl rfl <| M9 rfl rfl <| xN [1,2,3,7,8,51] [1,2,3,7,8] rfl ?_
   refine A5 rfl (fun hc => absurd hc (by exact fun h => Bool.noConfusion (show false = true from h))) (fun hc => ?_)
   refine A7 <| A3 <| A0 <| y_F rfl <| y_L rfl <| y_M rfl <| D9 rfl rfl rfl rfl (by (simp; done)) (by (simp; done)) rfl <| y_F rfl <| a1z rfl rfl (by (simp; done)) (fun _ => rfl) rfl rfl <| y_M rfl ?_
   apply xC rfl
   ·apply A9
    ·exact B7 rfl
    apply A9
    ·exact B7 rfl
    apply A9
    ·exact I9 rfl rfl rfl (by (simp; done)) (fun _ => rfl)
    exact C5
   ·exact d1z (bA w) (by omega) ms [] (c6q hvp) d7z
   refine ⟨⟨rfl, rfl, rfl, dT rfl, rfl⟩, .inr ⟨K5 _ _, rfl⟩, B3, H5 (N0 fun _ => I4 rfl N1), fun _ => rfl, fun g64 => ?_⟩
   simp only [List.length_map]
   refine y_M rfl <| y_E rfl <| y_E rfl ?_
   (refine xO rfl rfl (by simp) rfl (fun _ => rfl) (fun _ => rfl) ?_; intro g9)
   refine y_S rfl ?_
   refine J6 ⟨fun _ => ⟨by (simp only [Z0, List.nil_append, List.append_nil, List.map_cons, List.map_nil, List.cons_append]; decide +kernel), by decide +kernel⟩, [(.t 2, _), (.t 7, _), (.t 9, _), (.t 10, _), (.h 2, _), (.h 7, _), (.h 3, _), (.h 9, _)], ⟨rfl, rfl, rfl, rfl, rfl, rfl, rfl, rfl, rfl, rfl, rfl, rfl, rfl, rfl, rfl, rfl, trivial⟩, ?_⟩
   refine A3 <| A3 <| A0 <| y_M rfl <| J0 rfl <| y_M rfl ?_
   refine C6 rfl rfl ?_ ?_ <;> intro hg0 <;> have hg := hg0 <;> try simp only [SG] at hg
   ·refine y_M rfl <| gT rfl rfl ?_
    obtain ⟨r, hr⟩ := Option.isSome_iff_exists.1 (show (mkR (bA w) ms []).isSome = true by assumption)
    have hraw := d1u hr
    have hrl := (S4.1 (b1j hr)).1
    rw [hraw]
    apply xC rfl
    ·apply A9
     ·exact I9 rfl rfl rfl (by (simp; done)) (fun _ => rfl)
     exact C5
    ·exact a6h r (by omega)
    refine ⟨⟨rfl, rfl, rfl, dT rfl, rfl⟩, .inr ⟨rfl, rfl⟩, B3, C9 rfl, fun _ => rfl, fun g71 => ?_⟩
    refine gT rfl rfl <| J0 rfl <| F3 rfl (by assumption) rfl rfl <| xN [2,7,9,73] [2,7,3,9] rfl ?_
    refine A5 rfl ?_ ?_ <;> intro hc <;> try simp only [SL] at hc
    ·refine A3 <| A0 <| y_B rfl <| E7 rfl rfl rfl rfl (F6 rfl (F6 rfl (M3 (by decide) I6))) (fun _ => rfl) ⟨by decide, rfl, dT rfl, Nat.le_refl _⟩ (fun _ => rfl) (fun _ => rfl) (fun _ => (by rfl)) ?_
     intro z
     simp only [I2, List.cons_append, List.nil_append]
     refine xN [2] [2,3] rfl <| A8 <| C0 (D5 rfl rfl rfl rfl (C4 rfl (C4 rfl (J8 rfl rfl (by simp) (fun _ => rfl) F9))) (C7 B5)) ?_
     have hx : mkR (bA w) ms [] = none ∨ ∃ r, mkR (bA w) ms [] = some r ∧ vd r = false := by exact .inr ⟨r, hr, by simpa using hc⟩
     rw [a7d hp hx]
     rfl
    refine A7 <| A3 <| A0 <| y_M rfl <| H1 (fs := [_, _, _]) rfl rfl rfl rfl rfl <| E7 rfl rfl rfl rfl (F6 rfl (M3 (by decide) (F6 rfl I6))) (fun _ => rfl) ⟨by decide, rfl, dT rfl, Nat.le_refl _⟩ (fun _ => rfl) (fun _ => rfl) (fun _ => (by rfl)) ?_
    intro z
    simp only [I2, List.cons_append, List.nil_append]
    refine xN [2] [2,9] rfl <| A8 <| C0 (D5 rfl rfl rfl rfl (C4 rfl (J8 rfl rfl (by simp) (fun _ => rfl) (G8 rfl F9))) (C7 B5)) ?_
    rw [b9n hp hr (by simpa using hc)]
    rfl
   refine gF rfl rfl <| gF rfl rfl <| F0 rfl (by assumption) rfl rfl <| xN [2,7,9,73] [2,7,3,9] rfl ?_
   refine A5 rfl (fun hc => ?_) (fun hc => absurd hc (by decide))
   refine A3 <| A0 <| y_B rfl <| E7 rfl rfl rfl rfl (F6 rfl (F6 rfl (M3 (by decide) I6))) (fun _ => rfl) ⟨by decide, rfl, dT rfl, Nat.le_refl _⟩ (fun _ => rfl) (fun _ => rfl) (fun _ => (by rfl)) ?_
   intro z
   simp only [I2, List.cons_append, List.nil_append]
   refine xN [2] [2,3] rfl <| A8 <| C0 (D5 rfl rfl rfl rfl (C4 rfl (C4 rfl (J8 rfl rfl (by simp) (fun _ => rfl) F9))) (C7 B5)) ?_
   have hx : mkR (bA w) ms [] = none ∨ ∃ r, mkR (bA w) ms [] = some r ∧ vd r = false := by exact .inl (by simpa using hg)
   rw [a7d hp hx]
   rfl
  rw [c1l]
  have hsz1 : (Pl.bin w p q).sz = p.sz + q.sz + 1 := rfl
  have hn : nd (bA w) = 2 := (S9 (by have h := hwf.1; omega)).trans hwf.1
  refine y_A rfl (fun _ => rfl) ?_
  intro g2
  refine xN [1,2] [1,2] rfl <| A3 <| A0 <| B4 (es := List.map trV []) rfl rfl (dT rfl) rfl rfl (fun _ => B1 (A6 fun _ => rfl)) (fun _ => rfl) ?_
  intro g11
  (refine xO rfl rfl (by simp) rfl (fun _ => rfl) (fun _ => rfl) ?_; intro g3)
  refine xN [1,2,3] [1,2,3] rfl <| A3 <| A0 <| y_F rfl <| y_L rfl <| B9 rfl rfl <| O6 rfl rfl <| y_S rfl <| xN [1,2,3,4] [1,2,3] rfl <| A3 <| A3 <| A0 <| y_S rfl <| xN [1,2,3,4,5] [1,2,3] rfl <| B0 <| G0 <| A3 <| A3 <| A0 <| y_M rfl <| y_F rfl <| y_L rfl <| B9 rfl rfl <| F8 rfl rfl <| xN [1,2,3,4,5,20] [1,2,3] rfl ?_
  refine A5 rfl (fun hc => ?_) (fun hc => absurd hc (by exact fun h => Bool.noConfusion (show true = false from h)))
  refine A7 <| A3 <| B0 <| A3 <| A0 <| y_F rfl <| y_L rfl <| y_M rfl <| H2 rfl rfl rfl (fun _ => rfl) (by show (0 : Int) ≤ 0 ∧ (0 : Int) < ((2 : Nat) : Int); omega) <| y_I rfl ?_
  refine xC1 rfl rfl ((by have hi := ih p hgd.2.2.1 hwf.2.1 (by omega) (by omega); rw [← L7] at hi; exact hi)) ⟨rfl, rfl, rfl⟩ rfl rfl fun g28 => ?_
  refine y_A rfl (fun _ => rfl) ?_
  intro g6
  refine xB rfl rfl rfl rfl rfl rfl rfl rfl rfl <| xN [1,2,3,4,5,6] [1,2,3,6] rfl <| A3 <| A0 <| y_M rfl <| y_M rfl <| H3 rfl rfl rfl <| y_F rfl <| H3 rfl rfl rfl <| y_L rfl <| H3 rfl rfl rfl <| L6 rfl rfl <| F0 rfl rfl rfl rfl <| y_S rfl <| xN [1,2,3,4,5,6] [1,2,3,6] rfl <| A0 <| y_M rfl <| y_B rfl <| B4 (es := List.map trV [_]) rfl rfl (dT rfl) rfl rfl (fun _ => B1 (A6 fun _ => rfl)) (fun _ => rfl) ?_
  intro g37
  refine xA rfl rfl rfl rfl (by simp) (by simp) rfl rfl rfl rfl rfl (fun _ => rfl) (by simp only [LN]; omega) (fun _ => rfl) ?_
  intro g38
  (refine xO rfl rfl (by simp) rfl (fun _ => rfl) (fun _ => rfl) ?_; intro g3)
  refine xN [1,2,3,4,5] [1,2,3] rfl <| A0 <| y_M rfl <| E4 rfl rfl (C3 (by omega)) <| y_S rfl <| xN [1,2,3,4,5] [1,2,3] rfl <| G0 <| A3 <| A3 <| A0 <| y_M rfl <| y_F rfl <| y_L rfl <| B9 rfl rfl <| F8 rfl rfl <| xN [1,2,3,4,5,20] [1,2,3] rfl ?_
  refine A5 rfl (fun hc => ?_) (fun hc => absurd hc (by exact fun h => Bool.noConfusion (show true = false from h)))
  refine A7 <| A3 <| B0 <| A3 <| A0 <| y_F rfl <| y_L rfl <| y_M rfl <| H2 rfl rfl rfl (fun _ => rfl) (by show (0 : Int) ≤ 1 ∧ (1 : Int) < ((2 : Nat) : Int); omega) <| y_I rfl ?_
  refine xC1 rfl rfl ((by have hi := ih q hgd.2.2.2 hwf.2.2 (by omega) (by omega); rw [← L7] at hi; exact hi)) ⟨rfl, rfl, rfl⟩ rfl rfl fun g28 => ?_
  refine y_A rfl (fun _ => rfl) ?_
  intro g6
  refine xB rfl rfl rfl rfl rfl rfl rfl rfl rfl <| xN [1,2,3,4,5,6] [1,2,3,6] rfl <| A3 <| A0 <| y_M rfl <| y_M rfl ?_
  refine C6 rfl rfl ?_ ?_ <;> intro hg0 <;> have hg := hg0 <;> try simp only [SG] at hg
  ·refine y_F rfl <| gT rfl rfl <| y_L rfl <| gT rfl rfl <| L6 rfl rfl <| F0 rfl (by assumption) rfl rfl <| y_S rfl <| xN [1,2,3,4,5,6] [1,2,3,6] rfl <| A0 <| y_M rfl <| y_B rfl <| B4 (es := List.map trV [_]) rfl rfl (dT rfl) rfl rfl (fun _ => B1 (A6 fun _ => rfl)) (fun _ => rfl) ?_
   intro g37
   refine xA rfl rfl rfl rfl (by simp) (by simp) rfl rfl rfl rfl rfl (fun _ => rfl) (by simp only [LN]; omega) (fun _ => rfl) ?_
   intro g38
   (refine xO rfl rfl (by simp) rfl (fun _ => rfl) (fun _ => rfl) ?_; intro g3)
   refine xN [1,2,3,4,5] [1,2,3] rfl <| A0 <| y_M rfl <| E4 rfl rfl (C3 (by omega)) <| y_S rfl <| xN [1,2,3,4,5] [1,2,3] rfl <| G0 <| A3 <| A3 <| A0 <| y_M rfl <| y_F rfl <| y_L rfl <| B9 rfl rfl <| F8 rfl rfl <| xN [1,2,3,4,5,20] [1,2,3] rfl ?_
   refine A5 rfl (fun hc => absurd hc (by exact fun h => Bool.noConfusion (show false = true from h))) (fun hc => ?_)
   refine E3 <| A3 <| A0 <| y_F rfl <| y_L rfl <| y_F rfl <| y_L rfl <| y_M rfl <| H1 (fs := [_, _, _]) rfl rfl rfl rfl rfl <| y_A rfl (fun _ => rfl) ?_
   intro g7
   refine E7 rfl rfl rfl rfl (F6 rfl (F6 rfl (M3 (by decide) I6))) (fun _ => rfl) ⟨by decide, rfl, dT rfl, Nat.le_refl _⟩ (fun _ => rfl) (fun _ => rfl) (fun _ => (by rfl)) ?_
   intro z
   simp only [I2, List.cons_append, List.nil_append]
   refine xN [1,2,3,4,7] [1,2,3,7] rfl <| A3 <| A3 <| A0 <| y_M rfl <| J0 rfl <| xN [1,2,3,7,46] [1,2,3,7] rfl ?_
   refine A5 rfl ?_ ?_ <;> intro hc <;> try simp only [SL] at hc
   ·have hnl : (∀ ns, foldP p ≠ .lst ns) ∨ ∀ ns, foldP q ≠ .lst ns := .inr fun ns e => hc (by rw [e]; rfl)
    refine A3 <| A0 <| y_B rfl <| E7 rfl rfl rfl rfl (F6 rfl (F6 rfl (M3 (by decide) I6))) (fun _ => rfl) ⟨by decide, rfl, dT rfl, Nat.le_refl _⟩ (fun _ => rfl) (fun _ => rfl) (fun _ => (by rfl)) ?_
    intro z
    simp only [I2, List.cons_append, List.nil_append]
    refine xN [2] [2,3] rfl <| A8 <| C0 (D5 rfl rfl rfl rfl (C4 rfl (C4 rfl (J8 rfl rfl (by simp) (fun _ => rfl) F9))) (C7 B5)) ?_
    rw [a3k hnl]
    show _ = AV.agg [tV w, .list [], .list [trV (foldP p), trV (foldP q)]]
    rfl
   obtain ⟨ms, hp, hvp⟩ := W0 (P2 _ hgd.2.2.1) (show (foldP p).op = lW by assumption)
   rw [hp]
   obtain ⟨ls, hq, hvq⟩ := W0 (P2 _ hgd.2.2.2) (show (foldP q).op = lW by assumption)
   rw [hq]
   refine A7 <| A3 <| A0 <| B4 (es := List.map iV []) rfl rfl (dT rfl) rfl rfl (fun _ => B1 (A6 fun _ => rfl)) (fun _ => rfl) ?_
   intro g48
   (refine xO rfl rfl (by simp) rfl (fun _ => rfl) (fun _ => rfl) ?_; intro g8)
   refine xN [1,2,3,7,8] [1,2,3,7,8] rfl <| A3 <| A3 <| A0 <| y_M rfl <| I5 rfl rfl <| M9 rfl rfl <| xN [1,2,3,7,8,51] [1,2,3,7,8] rfl ?_
   refine A5 rfl (fun hc => ?_) (fun hc => absurd hc (by exact fun h => Bool.noConfusion (show true = false from h)))
   refine A0 <| y_M rfl <| D9 rfl rfl rfl rfl (by (simp; done)) (by (simp; done)) rfl <| y_F rfl <| a1z rfl rfl (by (simp; done)) (fun _ => rfl) rfl rfl <| y_S rfl <| xN [1,2,3,7,8] [1,2,3,7,8] rfl <| A3 <| A0 <| y_F rfl <| y_L rfl <| y_M rfl <| D9 rfl rfl rfl rfl (by (simp; done)) (by (simp; done)) rfl <| y_F rfl <| a1z rfl rfl (by (simp; done)) (fun _ => rfl) rfl rfl <| y_M rfl ?_
   apply xC rfl
   ·apply A9
    ·exact B7 rfl
    apply A9
    ·exact B7 rfl
    apply A9
    ·exact B7 rfl
    exact C5
   ·exact d1z (bA w) (by omega) ms ls (c6q hvp) (c6q hvq)
   refine ⟨⟨rfl, rfl, rfl, dT rfl, rfl⟩, .inr ⟨K5 _ _, rfl⟩, B3, H5 (N0 fun _ => I4 rfl N1), fun _ => rfl, fun g64 => ?_⟩
   simp only [List.length_map]
   refine y_M rfl <| y_E rfl <| y_E rfl ?_
   (refine xO rfl rfl (by simp) rfl (fun _ => rfl) (fun _ => rfl) ?_; intro g9)
   refine y_S rfl ?_
   refine J6 ⟨fun _ => ⟨by (simp only [Z0, List.nil_append, List.append_nil, List.map_cons, List.map_nil, List.cons_append]; decide +kernel), by decide +kernel⟩, [(.t 2, _), (.t 7, _), (.t 9, _), (.t 10, _), (.h 2, _), (.h 7, _), (.h 3, _), (.h 9, _)], ⟨rfl, rfl, rfl, rfl, rfl, rfl, rfl, rfl, rfl, rfl, rfl, rfl, rfl, rfl, rfl, rfl, trivial⟩, ?_⟩
   refine A3 <| A3 <| A0 <| y_M rfl <| J0 rfl <| y_M rfl ?_
   refine C6 rfl rfl ?_ ?_ <;> intro hg0 <;> have hg := hg0 <;> try simp only [SG] at hg
   ·refine y_M rfl <| gT rfl rfl ?_
    obtain ⟨r, hr⟩ := Option.isSome_iff_exists.1 (show (mkR (bA w) ms ls).isSome = true by assumption)
    have hraw := d1u hr
    have hrl := (S4.1 (b1j hr)).1
    rw [hraw]
    apply xC rfl
    ·apply A9
     ·exact I9 rfl rfl rfl (by (simp; done)) (fun _ => rfl)
     exact C5
    ·exact a6h r (by omega)
    refine ⟨⟨rfl, rfl, rfl, dT rfl, rfl⟩, .inr ⟨rfl, rfl⟩, B3, C9 rfl, fun _ => rfl, fun g71 => ?_⟩
    refine gT rfl rfl <| J0 rfl <| F3 rfl (by assumption) rfl rfl <| xN [2,7,9,73] [2,7,3,9] rfl ?_
    refine A5 rfl ?_ ?_ <;> intro hc <;> try simp only [SL] at hc
    ·refine A3 <| A0 <| y_B rfl <| E7 rfl rfl rfl rfl (F6 rfl (F6 rfl (M3 (by decide) I6))) (fun _ => rfl) ⟨by decide, rfl, dT rfl, Nat.le_refl _⟩ (fun _ => rfl) (fun _ => rfl) (fun _ => (by rfl)) ?_
     intro z
     simp only [I2, List.cons_append, List.nil_append]
     refine xN [2] [2,3] rfl <| A8 <| C0 (D5 rfl rfl rfl rfl (C4 rfl (C4 rfl (J8 rfl rfl (by simp) (fun _ => rfl) F9))) (C7 B5)) ?_
     have hx : mkR (bA w) ms ls = none ∨ ∃ r, mkR (bA w) ms ls = some r ∧ vd r = false := by exact .inr ⟨r, hr, by simpa using hc⟩
     rw [a4a hp hq hx]
     rfl
    refine A7 <| A3 <| A0 <| y_M rfl <| H1 (fs := [_, _, _]) rfl rfl rfl rfl rfl <| E7 rfl rfl rfl rfl (F6 rfl (M3 (by decide) (F6 rfl I6))) (fun _ => rfl) ⟨by decide, rfl, dT rfl, Nat.le_refl _⟩ (fun _ => rfl) (fun _ => rfl) (fun _ => (by rfl)) ?_
    intro z
    simp only [I2, List.cons_append, List.nil_append]
    refine xN [2] [2,9] rfl <| A8 <| C0 (D5 rfl rfl rfl rfl (C4 rfl (J8 rfl rfl (by simp) (fun _ => rfl) (G8 rfl F9))) (C7 B5)) ?_
    rw [b5p hp hq hr (by simpa using hc)]
    rfl
   refine gF rfl rfl <| gF rfl rfl <| F0 rfl (by assumption) rfl rfl <| xN [2,7,9,73] [2,7,3,9] rfl ?_
   refine A5 rfl (fun hc => ?_) (fun hc => absurd hc (by decide))
   refine A3 <| A0 <| y_B rfl <| E7 rfl rfl rfl rfl (F6 rfl (F6 rfl (M3 (by decide) I6))) (fun _ => rfl) ⟨by decide, rfl, dT rfl, Nat.le_refl _⟩ (fun _ => rfl) (fun _ => rfl) (fun _ => (by rfl)) ?_
   intro z
   simp only [I2, List.cons_append, List.nil_append]
   refine xN [2] [2,3] rfl <| A8 <| C0 (D5 rfl rfl rfl rfl (C4 rfl (C4 rfl (J8 rfl rfl (by simp) (fun _ => rfl) F9))) (C7 B5)) ?_
   have hx : mkR (bA w) ms ls = none ∨ ∃ r, mkR (bA w) ms ls = some r ∧ vd r = false := by exact .inl (by simpa using hg)
   rw [a4a hp hq hx]
   rfl
  refine gF rfl rfl <| gF rfl rfl <| F3 rfl (by assumption) rfl rfl <| y_S rfl <| xN [1,2,3,4,5,6] [1,2,3,6] rfl <| A0 <| y_M rfl <| y_B rfl <| B4 (es := List.map trV [_]) rfl rfl (dT rfl) rfl rfl (fun _ => B1 (A6 fun _ => rfl)) (fun _ => rfl) ?_
  intro g37
  refine xA rfl rfl rfl rfl (by simp) (by simp) rfl rfl rfl rfl rfl (fun _ => rfl) (by simp only [LN]; omega) (fun _ => rfl) ?_
  intro g38
  (refine xO rfl rfl (by simp) rfl (fun _ => rfl) (fun _ => rfl) ?_; intro g3)
  refine xN [1,2,3,4,5] [1,2,3] rfl <| A0 <| y_M rfl <| E4 rfl rfl (C3 (by omega)) <| y_S rfl <| xN [1,2,3,4,5] [1,2,3] rfl <| G0 <| A3 <| A3 <| A0 <| y_M rfl <| y_F rfl <| y_L rfl <| B9 rfl rfl <| F8 rfl rfl <| xN [1,2,3,4,5,20] [1,2,3] rfl ?_
  refine A5 rfl (fun hc => absurd hc (by exact fun h => Bool.noConfusion (show false = true from h))) (fun hc => ?_)
  refine E3 <| A3 <| A0 <| y_F rfl <| y_L rfl <| y_F rfl <| y_L rfl <| y_M rfl <| H1 (fs := [_, _, _]) rfl rfl rfl rfl rfl <| y_A rfl (fun _ => rfl) ?_
  intro g7
  refine E7 rfl rfl rfl rfl (F6 rfl (F6 rfl (M3 (by decide) I6))) (fun _ => rfl) ⟨by decide, rfl, dT rfl, Nat.le_refl _⟩ (fun _ => rfl) (fun _ => rfl) (fun _ => (by rfl)) ?_
  intro z
  simp only [I2, List.cons_append, List.nil_append]
  refine xN [1,2,3,4,7] [1,2,3,7] rfl <| A3 <| A3 <| A0 <| y_M rfl <| J0 rfl <| xN [1,2,3,7,46] [1,2,3,7] rfl ?_
  refine A5 rfl (fun hc => ?_) (fun hc => absurd hc (by decide))
  refine A3 <| A0 <| y_B rfl <| E7 rfl rfl rfl rfl (F6 rfl (F6 rfl (M3 (by decide) I6))) (fun _ => rfl) ⟨by decide, rfl, dT rfl, Nat.le_refl _⟩ (fun _ => rfl) (fun _ => rfl) (fun _ => (by rfl)) ?_
  intro z
  simp only [I2, List.cons_append, List.nil_append]
  refine xN [2] [2,3] rfl <| A8 <| C0 (D5 rfl rfl rfl rfl (C4 rfl (C4 rfl (J8 rfl rfl (by simp) (fun _ => rfl) F9))) (C7 B5)) ?_
  rw [a3k (.inl fun ns e => hg (by rw [e]; rfl))]
  show _ = AV.agg [tV w, .list [], .list [trV (foldP p), trV (foldP q)]]
  rfl

theorem c2w : F4 Tryz.f25 = [0, 2, 1, 22, 21, 23, 20, 6, 7, 4, 3, 41, 8, 9, 51, 27, 38, 50] := by kernel_rfl
theorem d8o (t : Pl) (hgd : t.good) (hwf : t.wf) (hsz : t.sz ≤ 1000) : CW (cxT oG) 25 [trK t] = some (trV (foldP t), []) := by
 obtain ⟨kk, hkk⟩ : ∃ kk : Nat, t.sz < kk := ⟨_, Nat.lt_succ_self _⟩
 revert t
 induction kk with
 | zero => intro t hgd hwf hsz hkk; exact absurd hkk (Nat.not_lt_zero _)
 | succ kk ih =>
  intro t hgd hwf hsz hkk
  refine E5 rfl Tryz.func25 rfl ⟨by kernel_rfl, rfl, dT rfl, dT rfl, by decide⟩ c2w <| A3 <| A0 <| a0k rfl rfl rfl (fun _ => K3 rfl) (fun _ => rfl) ?_
  intro g1
  rcases t with ns | w | ⟨w, p⟩ | ⟨w, p, q⟩
  ·rw [c2f]
    
   refine y_A rfl (fun _ => rfl) ?_
   intro g2
   refine xN [1,2] [1,2] rfl <| A3 <| A0 <| y_F rfl <| y_L rfl <| y_F rfl <| y_L rfl <| H1 (fs := [_, _, _]) rfl rfl rfl rfl rfl <| y_A rfl (fun _ => rfl) ?_
   intro g3
   refine xB rfl rfl rfl rfl rfl rfl rfl rfl rfl <| xN [1,2,3] [1,2,3] rfl <| A3 <| A0 <| y_F rfl <| y_L rfl <| B9 rfl rfl <| O6 rfl rfl <| y_S rfl <| xN [1,2,3,4] [1,2,3] rfl <| A3 <| A3 <| A0 <| y_F rfl <| y_L rfl <| B9 rfl rfl <| y_M rfl <| xN [2,3,4,20,21,22] [2,3] rfl <| B0 <| G0 <| A3 <| A0 <| F8 rfl rfl <| xN [2,3,4,20,21,22,23] [2,3] rfl <| A3 ?_
   refine A5 rfl (fun hc => absurd hc (by decide)) (fun hc => ?_)
   refine E3 <| A3 <| A3 <| A0 <| y_M rfl <| xN [2,3,41] [2,3] rfl ?_
   refine A5 rfl (fun hc => absurd hc (by decide)) (fun hc => ?_)
   refine A7 <| A3 <| A0 <| y_B rfl <| xB rfl rfl rfl rfl rfl rfl rfl rfl rfl <| xN [2] [2] rfl <| A8 <| C0 (D5 rfl rfl rfl rfl (C4 rfl (C4 rfl (G8 rfl F9))) (C7 B5)) ?_
   rfl
  ·rw [c0y]
    
   refine y_A rfl (fun _ => rfl) ?_
   intro g2
   refine xN [1,2] [1,2] rfl <| A3 <| A0 <| y_F rfl <| y_L rfl <| y_F rfl <| y_L rfl <| H1 (fs := [_, _, _]) rfl rfl rfl rfl rfl <| y_A rfl (fun _ => rfl) ?_
   intro g3
   refine xB rfl rfl rfl rfl rfl rfl rfl rfl rfl <| xN [1,2,3] [1,2,3] rfl <| A3 <| A0 <| y_F rfl <| y_L rfl <| B9 rfl rfl <| O6 rfl rfl <| y_S rfl <| xN [1,2,3,4] [1,2,3] rfl <| A3 <| A3 <| A0 <| y_F rfl <| y_L rfl <| B9 rfl rfl <| y_M rfl <| xN [2,3,4,20,21,22] [2,3] rfl <| B0 <| G0 <| A3 <| A0 <| F8 rfl rfl <| xN [2,3,4,20,21,22,23] [2,3] rfl <| A3 ?_
   refine A5 rfl (fun hc => absurd hc (by decide)) (fun hc => ?_)
   refine E3 <| A3 <| A3 <| A0 <| y_M rfl <| xN [2,3,41] [2,3] rfl ?_
   refine A5 rfl (fun hc => absurd hc (by decide)) (fun hc => ?_)
   refine A7 <| A3 <| A0 <| y_B rfl <| xB rfl rfl rfl rfl rfl rfl rfl rfl rfl <| xN [2] [2] rfl <| A8 <| C0 (D5 rfl rfl rfl rfl (C4 rfl (C4 rfl (G8 rfl F9))) (C7 B5)) ?_
   rfl
  ·rw [d0i]
   have hsz1 : (Pl.un w p).sz = p.sz + 1 := rfl
   have hn : nd (bA w) = 1 := (S9 (by have h := hwf.1; omega)).trans hwf.1
   refine y_A rfl (fun _ => rfl) ?_
   intro g2
   refine xN [1,2] [1,2] rfl <| A3 <| A0 <| y_F rfl <| y_L rfl <| y_F rfl <| y_L rfl <| H1 (fs := [_, _, _]) rfl rfl rfl rfl rfl <| y_A rfl (fun _ => rfl) ?_
   intro g3
   refine xB rfl rfl rfl rfl rfl rfl rfl rfl rfl <| xN [1,2,3] [1,2,3] rfl <| A3 <| A0 <| y_F rfl <| y_L rfl <| B9 rfl rfl <| O6 rfl rfl <| y_S rfl <| xN [1,2,3,4] [1,2,3] rfl <| A3 <| A3 <| A0 <| y_F rfl <| y_L rfl <| B9 rfl rfl <| y_M rfl <| xN [2,3,4,20,21,22] [2,3] rfl <| B0 <| G0 <| A3 <| A0 <| F8 rfl rfl <| xN [2,3,4,20,21,22,23] [2,3] rfl <| A3 ?_
   refine A5 rfl (fun hc => ?_) (fun hc => absurd hc (by exact fun h => Bool.noConfusion (show true = false from h)))
   refine A7 <| A3 <| B0 <| A3 <| A0 <| H2 rfl rfl rfl (fun _ => rfl) (by show (0 : Int) ≤ 0 ∧ (0 : Int) < ((1 : Nat) : Int); omega) <| y_I rfl <| y_A rfl (fun _ => rfl) ?_
   intro g6
   refine xB rfl rfl rfl rfl rfl rfl rfl rfl rfl <| xN [2,3,4,6,20,21,22] [2,3,6] rfl <| A3 <| A0 <| y_B rfl ?_
   refine xC1 rfl rfl ((by have hi := ih p hgd.2.2 hwf.2 (by omega) (by omega); rw [← L7] at hi; exact hi)) ⟨rfl, rfl, rfl⟩ rfl rfl fun g27 => ?_
   refine y_A rfl (fun _ => rfl) ?_
   intro g7
   refine xB rfl rfl rfl rfl rfl rfl rfl rfl rfl <| xN [2,3,4,7,20,21,22] [2,3,7] rfl <| A3 <| A0 <| y_M rfl <| y_M rfl <| H3 rfl rfl rfl <| y_F rfl <| H3 rfl rfl rfl <| y_L rfl <| H3 rfl rfl rfl <| L6 rfl rfl <| F0 rfl rfl rfl rfl <| y_S rfl <| xN [2,3,4,7,20,21,22] [2,3,7] rfl <| A0 <| y_F rfl <| y_L rfl <| y_B rfl <| B4 (es := List.map trV [_]) rfl rfl (dT rfl) rfl rfl (fun _ => B1 (A6 fun _ => rfl)) (fun _ => rfl) ?_
   intro g37
   refine Q7 rfl rfl rfl (by simp) (by decide) rfl rfl rfl (dT rfl) (fun _ => ⟨rfl, rfl⟩) (by simp only [G9]; (simp only [List.length_nil, List.length_cons, List.length_append, Nat.zero_add, List.length_map]; omega)) (fun _ => rfl) ?_
   intro g38
   refine y_F rfl <| M4 rfl rfl rfl rfl rfl (Nat.le_refl _) rfl <| xN [2,3,4,20,21,22] [2,3,1000038] rfl <| A0 <| E4 rfl rfl (C3 (by omega)) <| y_M rfl <| xN [2,3,4,20,21,22] [2,3,1000038] rfl <| G0 <| A3 <| A0 <| F8 rfl rfl <| xN [2,3,4,20,21,22,23] [2,3,1000038] rfl <| A3 ?_
   refine A5 rfl (fun hc => absurd hc (by exact fun h => Bool.noConfusion (show false = true from h))) (fun hc => ?_)
   refine E3 <| A3 <| A3 <| A0 <| y_M rfl <| xN [2,3,41] [2,3,1000038] rfl ?_
   refine A5 rfl ?_ ?_ <;> intro hc <;> try simp only [SL] at hc
   ·obtain ⟨ms, hp, hvp⟩ := W0 (P2 _ hgd.2.2) (show (foldP p).op = lW by assumption)
    rw [hp]
    refine A3 <| A0 <| y_B rfl ?_
    apply xC rfl
    ·apply A9
     ·exact d7m (dT rfl) (d6c (d1f (d7e rfl rfl (by simp) (fun _ => rfl) d6b)))
     apply A9
     ·exact d1y (dT rfl)
     exact C5
    ·exact (by have hi := d4w (oG := oG) (.un w (.lst ms)) ⟨hgd.1, hgd.2.1, hvp⟩ ⟨hwf.1, trivial⟩ [] rfl (by simp) (by simp); exact hi)
    refine ⟨⟨rfl, rfl, rfl, dT rfl, rfl⟩, .inr ⟨K5 _ _, rfl⟩, B3, H5 (N0 fun _ => I4 rfl N1), fun _ => rfl, fun g44 => ?_⟩
    simp only [List.length_map]
    rw [show a2u [] (.un w (.lst ms)) = mkR (bA w) ms [] from rfl]
    refine y_M rfl <| y_E rfl <| y_E rfl ?_
    (refine xO rfl rfl (by simp) rfl (fun _ => rfl) (fun _ => rfl) ?_; intro g8)
    refine y_S rfl <| xN [2,3,8,9] [2,3,1000038,8] rfl <| A3 <| A0 <| y_M rfl <| y_M rfl ?_
    refine C6 rfl rfl ?_ ?_ <;> intro hg0 <;> have hg := hg0 <;> try simp only [SG] at hg
    ·refine y_M rfl <| gT rfl rfl ?_
     obtain ⟨r, hr⟩ := Option.isSome_iff_exists.1 (show (mkR (bA w) ms []).isSome = true by assumption)
     have hrl := (S4.1 (b1j hr)).1
     rw [hr, Option.getD_some]
     apply xC rfl
     ·apply A9
      ·exact I9 rfl rfl rfl (by (simp; done)) (fun _ => rfl)
      exact C5
     ·exact a0z r (by omega)
     refine ⟨⟨rfl, rfl, rfl, dT rfl, rfl⟩, .inr ⟨rfl, rfl⟩, B3, C9 rfl, fun _ => rfl, fun g50 => ?_⟩
     refine F0 rfl rfl rfl rfl <| xN [2,3,8,51] [2,3,1000038,8] rfl ?_
     refine A5 rfl ?_ ?_ <;> intro hc <;> try simp only [SL] at hc
     ·refine A3 <| A0 <| y_M rfl <| H1 (fs := [_, _, _]) rfl rfl rfl rfl rfl <| E7 rfl rfl rfl rfl (F6 rfl (M3 (by decide) (F6 rfl I6))) (fun _ => rfl) ⟨by decide, rfl, dT rfl, Nat.le_refl _⟩ (fun _ => rfl) (fun _ => rfl) (fun _ => (by rfl)) ?_
      intro z
      simp only [I2, List.cons_append, List.nil_append]
      refine xN [2] [2,8] rfl <| A8 <| C0 (D5 rfl rfl rfl rfl (C4 rfl (J8 rfl rfl (by simp) (fun _ => rfl) (G8 rfl F9))) (C7 B5)) ?_
      rw [b9n hp hr (by simpa using hc)]
      rfl
     refine A7 <| A3 <| A0 <| y_B rfl <| E7 rfl rfl rfl rfl (F6 rfl (F6 rfl (X6 (by decide) (by decide) rfl (by simp) fun _ => I6))) (fun _ => rfl) ⟨by decide, rfl, dT rfl, Nat.le_refl _⟩ (fun _ => rfl) (fun _ => rfl) (fun _ => C1 (by rfl) (C1 (B1 (A6 fun _ => rfl)) (by rfl))) ?_
     intro z
     simp only [I2, List.cons_append, List.nil_append]
     refine xN [2] [2,300002] rfl <| A8 <| C0 (D5 rfl rfl rfl rfl (C4 rfl (C4 rfl (J8 rfl rfl (by simp) (fun _ => rfl) F9))) (C7 B5)) ?_
     (have hx : mkR (bA w) ms [] = none ∨ ∃ r, mkR (bA w) ms [] = some r ∧ vd r = false := (by exact .inr ⟨r, hr, by simpa using hc⟩); rw [a7d hp hx]; rfl)
    refine gF rfl rfl <| F3 rfl (by assumption) rfl rfl <| xN [2,3,8,51] [2,3,1000038,8] rfl ?_
    refine A5 rfl (fun hc => absurd hc (by decide)) (fun hc => ?_)
    refine A7 <| A3 <| A0 <| y_B rfl <| E7 rfl rfl rfl rfl (F6 rfl (F6 rfl (X6 (by decide) (by decide) rfl (by simp) fun _ => I6))) (fun _ => rfl) ⟨by decide, rfl, dT rfl, Nat.le_refl _⟩ (fun _ => rfl) (fun _ => rfl) (fun _ => C1 (by rfl) (C1 (B1 (A6 fun _ => rfl)) (by rfl))) ?_
    intro z
    simp only [I2, List.cons_append, List.nil_append]
    refine xN [2] [2,300002] rfl <| A8 <| C0 (D5 rfl rfl rfl rfl (C4 rfl (C4 rfl (J8 rfl rfl (by simp) (fun _ => rfl) F9))) (C7 B5)) ?_
    (have hx : mkR (bA w) ms [] = none ∨ ∃ r, mkR (bA w) ms [] = some r ∧ vd r = false := (by exact .inl (by simpa using hg)); rw [a7d hp hx]; rfl)
   have hnl : ∀ ns, foldP p ≠ .lst ns := fun ns e => hc (by rw [e]; rfl)
   refine A7 <| A3 <| A0 <| y_B rfl <| E7 rfl rfl rfl rfl (F6 rfl (F6 rfl (X6 (by decide) (by decide) rfl (by simp) fun _ => I6))) (fun _ => rfl) ⟨by decide, rfl, dT rfl, Nat.le_refl _⟩ (fun _ => rfl) (fun _ => rfl) (fun _ => C1 (by rfl) (C1 (B1 (A6 fun _ => rfl)) (by rfl))) ?_
   intro z
   simp only [I2, List.cons_append, List.nil_append]
   refine xN [2] [2,300002] rfl <| A8 <| C0 (D5 rfl rfl rfl rfl (C4 rfl (C4 rfl (J8 rfl rfl (by simp) (fun _ => rfl) F9))) (C7 B5)) ?_
   (rw [b9c hnl]; show _ = AV.agg [tV w, .list [], .list [trV (foldP p)]]; rfl)
  rw [c1l]
  have hsz1 : (Pl.bin w p q).sz = p.sz + q.sz + 1 := rfl
  have hn : nd (bA w) = 2 := (S9 (by have h := hwf.1; omega)).trans hwf.1
  refine y_A rfl (fun _ => rfl) ?_
  intro g2
  refine xN [1,2] [1,2] rfl <| A3 <| A0 <| y_F rfl <| y_L rfl <| y_F rfl <| y_L rfl <| H1 (fs := [_, _, _]) rfl rfl rfl rfl rfl <| y_A rfl (fun _ => rfl) ?_
  intro g3
  refine xB rfl rfl rfl rfl rfl rfl rfl rfl rfl <| xN [1,2,3] [1,2,3] rfl <| A3 <| A0 <| y_F rfl <| y_L rfl <| B9 rfl rfl <| O6 rfl rfl <| y_S rfl <| xN [1,2,3,4] [1,2,3] rfl <| A3 <| A3 <| A0 <| y_F rfl <| y_L rfl <| B9 rfl rfl <| y_M rfl <| xN [2,3,4,20,21,22] [2,3] rfl <| B0 <| G0 <| A3 <| A0 <| F8 rfl rfl <| xN [2,3,4,20,21,22,23] [2,3] rfl <| A3 ?_
  refine A5 rfl (fun hc => ?_) (fun hc => absurd hc (by exact fun h => Bool.noConfusion (show true = false from h)))
  refine A7 <| A3 <| B0 <| A3 <| A0 <| H2 rfl rfl rfl (fun _ => rfl) (by show (0 : Int) ≤ 0 ∧ (0 : Int) < ((2 : Nat) : Int); omega) <| y_I rfl <| y_A rfl (fun _ => rfl) ?_
  intro g6
  refine xB rfl rfl rfl rfl rfl rfl rfl rfl rfl <| xN [2,3,4,6,20,21,22] [2,3,6] rfl <| A3 <| A0 <| y_B rfl ?_
  refine xC1 rfl rfl ((by have hi := ih p hgd.2.2.1 hwf.2.1 (by omega) (by omega); rw [← L7] at hi; exact hi)) ⟨rfl, rfl, rfl⟩ rfl rfl fun g27 => ?_
  refine y_A rfl (fun _ => rfl) ?_
  intro g7
  refine xB rfl rfl rfl rfl rfl rfl rfl rfl rfl <| xN [2,3,4,7,20,21,22] [2,3,7] rfl <| A3 <| A0 <| y_M rfl <| y_M rfl <| H3 rfl rfl rfl <| y_F rfl <| H3 rfl rfl rfl <| y_L rfl <| H3 rfl rfl rfl <| L6 rfl rfl <| F0 rfl rfl rfl rfl <| y_S rfl <| xN [2,3,4,7,20,21,22] [2,3,7] rfl <| A0 <| y_F rfl <| y_L rfl <| y_B rfl <| B4 (es := List.map trV [_]) rfl rfl (dT rfl) rfl rfl (fun _ => B1 (A6 fun _ => rfl)) (fun _ => rfl) ?_
  intro g37
  refine Q7 rfl rfl rfl (by simp) (by decide) rfl rfl rfl (dT rfl) (fun _ => ⟨rfl, rfl⟩) (by simp only [G9]; (simp only [List.length_nil, List.length_cons, List.length_append, Nat.zero_add, List.length_map]; omega)) (fun _ => rfl) ?_
  intro g38
  refine y_F rfl <| M4 rfl rfl rfl rfl rfl (Nat.le_refl _) rfl <| xN [2,3,4,20,21,22] [2,3,1000038] rfl <| A0 <| E4 rfl rfl (C3 (by omega)) <| y_M rfl <| xN [2,3,4,20,21,22] [2,3,1000038] rfl <| G0 <| A3 <| A0 <| F8 rfl rfl <| xN [2,3,4,20,21,22,23] [2,3,1000038] rfl <| A3 ?_
  refine A5 rfl (fun hc => ?_) (fun hc => absurd hc (by exact fun h => Bool.noConfusion (show true = false from h)))
  refine A7 <| A3 <| B0 <| A3 <| A0 <| H2 rfl rfl rfl (fun _ => rfl) (by show (0 : Int) ≤ 1 ∧ (1 : Int) < ((2 : Nat) : Int); omega) <| y_I rfl <| y_A rfl (fun _ => rfl) ?_
  intro g6
  refine xB rfl rfl rfl rfl rfl rfl rfl rfl rfl <| xN [2,3,4,6,20,21,22] [2,3,1000038,6] rfl <| A3 <| A0 <| y_B rfl ?_
  refine xC1 rfl rfl ((by have hi := ih q hgd.2.2.2 hwf.2.2 (by omega) (by omega); rw [← L7] at hi; exact hi)) ⟨rfl, rfl, rfl⟩ rfl rfl fun g27 => ?_
  refine y_A rfl (fun _ => rfl) ?_
  intro g7
  refine xB rfl rfl rfl rfl rfl rfl rfl rfl rfl <| xN [2,3,4,7,20,21,22] [2,3,1000038,7] rfl <| A3 <| A0 <| y_M rfl <| y_M rfl ?_
  refine C6 rfl rfl ?_ ?_ <;> intro hg0 <;> have hg := hg0 <;> try simp only [SG] at hg
  ·refine y_F rfl <| gT rfl rfl <| y_L rfl <| gT rfl rfl <| L6 rfl rfl <| F0 rfl (by assumption) rfl rfl <| y_S rfl <| xN [2,3,4,7,20,21,22] [2,3,1000038,7] rfl <| A0 <| y_F rfl <| y_L rfl <| y_B rfl <| B4 (es := List.map trV [_]) rfl rfl (dT rfl) rfl rfl (fun _ => B1 (A6 fun _ => rfl)) (fun _ => rfl) ?_
   intro g37
   refine xA rfl rfl rfl rfl (by simp) (by simp) rfl rfl rfl rfl rfl (fun _ => rfl) (by simp only [LN]; omega) (fun _ => rfl) ?_
   intro g38
   refine y_F rfl <| M4 rfl rfl rfl rfl rfl (Nat.le_refl _) rfl <| xN [2,3,4,20,21,22] [2,3,1000038] rfl <| A0 <| E4 rfl rfl (C3 (by omega)) <| y_M rfl <| xN [2,3,4,20,21,22] [2,3,1000038] rfl <| G0 <| A3 <| A0 <| F8 rfl rfl <| xN [2,3,4,20,21,22,23] [2,3,1000038] rfl <| A3 ?_
   refine A5 rfl (fun hc => absurd hc (by exact fun h => Bool.noConfusion (show false = true from h))) (fun hc => ?_)
   refine E3 <| A3 <| A3 <| A0 <| y_M rfl <| xN [2,3,41] [2,3,1000038] rfl ?_
   refine A5 rfl ?_ ?_ <;> intro hc <;> try simp only [SL] at hc
   ·obtain ⟨ms, hp, hvp⟩ := W0 (P2 _ hgd.2.2.1) (show (foldP p).op = lW by assumption)
    rw [hp]
    obtain ⟨ls, hq, hvq⟩ := W0 (P2 _ hgd.2.2.2) (show (foldP q).op = lW by assumption)
    rw [hq]
    refine A3 <| A0 <| y_B rfl ?_
    apply xC rfl
    ·apply A9
     ·exact d7m (dT rfl) (d6c (d1f (d7e rfl rfl (by simp) (fun _ => rfl) d6b)))
     apply A9
     ·exact d1y (dT rfl)
     exact C5
    ·exact (by have hi := d4w (oG := oG) (.bin w (.lst ms) (.lst ls)) ⟨hgd.1, hgd.2.1, hvp, hvq⟩ ⟨hwf.1, trivial, trivial⟩ [] rfl (by simp) (by simp); exact hi)
    refine ⟨⟨rfl, rfl, rfl, dT rfl, rfl⟩, .inr ⟨K5 _ _, rfl⟩, B3, H5 (N0 fun _ => I4 rfl N1), fun _ => rfl, fun g44 => ?_⟩
    simp only [List.length_map]
    rw [show a2u [] (.bin w (.lst ms) (.lst ls)) = mkR (bA w) ms ls from rfl]
    refine y_M rfl <| y_E rfl <| y_E rfl ?_
    (refine xO rfl rfl (by simp) rfl (fun _ => rfl) (fun _ => rfl) ?_; intro g8)
    refine y_S rfl <| xN [2,3,8,9] [2,3,1000038,8] rfl <| A3 <| A0 <| y_M rfl <| y_M rfl ?_
    refine C6 rfl rfl ?_ ?_ <;> intro hg0 <;> have hg := hg0 <;> try simp only [SG] at hg
    ·refine y_M rfl <| gT rfl rfl ?_
     obtain ⟨r, hr⟩ := Option.isSome_iff_exists.1 (show (mkR (bA w) ms ls).isSome = true by assumption)
     have hrl := (S4.1 (b1j hr)).1
     rw [hr, Option.getD_some]
     apply xC rfl
     ·apply A9
      ·exact I9 rfl rfl rfl (by (simp; done)) (fun _ => rfl)
      exact C5
     ·exact a0z r (by omega)
     refine ⟨⟨rfl, rfl, rfl, dT rfl, rfl⟩, .inr ⟨rfl, rfl⟩, B3, C9 rfl, fun _ => rfl, fun g50 => ?_⟩
     refine F0 rfl rfl rfl rfl <| xN [2,3,8,51] [2,3,1000038,8] rfl ?_
     refine A5 rfl ?_ ?_ <;> intro hc <;> try simp only [SL] at hc
     ·refine A3 <| A0 <| y_M rfl <| H1 (fs := [_, _, _]) rfl rfl rfl rfl rfl <| E7 rfl rfl rfl rfl (F6 rfl (M3 (by decide) (F6 rfl I6))) (fun _ => rfl) ⟨by decide, rfl, dT rfl, Nat.le_refl _⟩ (fun _ => rfl) (fun _ => rfl) (fun _ => (by rfl)) ?_
      intro z
      simp only [I2, List.cons_append, List.nil_append]
      refine xN [2] [2,8] rfl <| A8 <| C0 (D5 rfl rfl rfl rfl (C4 rfl (J8 rfl rfl (by simp) (fun _ => rfl) (G8 rfl F9))) (C7 B5)) ?_
      rw [b5p hp hq hr (by simpa using hc)]
      rfl
     refine A7 <| A3 <| A0 <| y_B rfl <| E7 rfl rfl rfl rfl (F6 rfl (F6 rfl (X6 (by decide) (by decide) rfl (by simp) fun _ => I6))) (fun _ => rfl) ⟨by decide, rfl, dT rfl, Nat.le_refl _⟩ (fun _ => rfl) (fun _ => rfl) (fun _ => C1 (by rfl) (C1 (B1 (A6 fun _ => rfl)) (by rfl))) ?_
     intro z
     simp only [I2, List.cons_append, List.nil_append]
     refine xN [2] [2,300002] rfl <| A8 <| C0 (D5 rfl rfl rfl rfl (C4 rfl (C4 rfl (J8 rfl rfl (by simp) (fun _ => rfl) F9))) (C7 B5)) ?_
     (have hx : mkR (bA w) ms ls = none ∨ ∃ r, mkR (bA w) ms ls = some r ∧ vd r = false := (by exact .inr ⟨r, hr, by simpa using hc⟩); rw [a4a hp hq hx]; rfl)
    refine gF rfl rfl <| F3 rfl (by assumption) rfl rfl <| xN [2,3,8,51] [2,3,1000038,8] rfl ?_
    refine A5 rfl (fun hc => absurd hc (by decide)) (fun hc => ?_)
    refine A7 <| A3 <| A0 <| y_B rfl <| E7 rfl rfl rfl rfl (F6 rfl (F6 rfl (X6 (by decide) (by decide) rfl (by simp) fun _ => I6))) (fun _ => rfl) ⟨by decide, rfl, dT rfl, Nat.le_refl _⟩ (fun _ => rfl) (fun _ => rfl) (fun _ => C1 (by rfl) (C1 (B1 (A6 fun _ => rfl)) (by rfl))) ?_
    intro z
    simp only [I2, List.cons_append, List.nil_append]
    refine xN [2] [2,300002] rfl <| A8 <| C0 (D5 rfl rfl rfl rfl (C4 rfl (C4 rfl (J8 rfl rfl (by simp) (fun _ => rfl) F9))) (C7 B5)) ?_
    (have hx : mkR (bA w) ms ls = none ∨ ∃ r, mkR (bA w) ms ls = some r ∧ vd r = false := (by exact .inl (by simpa using hg)); rw [a4a hp hq hx]; rfl)
   have hnl : (∀ ns, foldP p ≠ .lst ns) ∨ ∀ ns, foldP q ≠ .lst ns := .inr fun ns e => hc (by rw [e]; rfl)
   refine A7 <| A3 <| A0 <| y_B rfl <| E7 rfl rfl rfl rfl (F6 rfl (F6 rfl (X6 (by decide) (by decide) rfl (by simp) fun _ => I6))) (fun _ => rfl) ⟨by decide, rfl, dT rfl, Nat.le_refl _⟩ (fun _ => rfl) (fun _ => rfl) (fun _ => C1 (by rfl) (C1 (B1 (A6 fun _ => rfl)) (by rfl))) ?_
   intro z
   simp only [I2, List.cons_append, List.nil_append]
   refine xN [2] [2,300002] rfl <| A8 <| C0 (D5 rfl rfl rfl rfl (C4 rfl (C4 rfl (J8 rfl rfl (by simp) (fun _ => rfl) F9))) (C7 B5)) ?_
   ((rw [a3k hnl]); show _ = AV.agg [tV w, .list [], .list [trV (foldP p), trV (foldP q)]]; rfl)
  refine gF rfl rfl <| gF rfl rfl <| F3 rfl (by assumption) rfl rfl <| y_S rfl <| xN [2,3,4,7,20,21,22] [2,3,1000038,7] rfl <| A0 <| y_F rfl <| y_L rfl <| y_B rfl <| B4 (es := List.map trV [_]) rfl rfl (dT rfl) rfl rfl (fun _ => B1 (A6 fun _ => rfl)) (fun _ => rfl) ?_
  intro g37
  refine xA rfl rfl rfl rfl (by simp) (by simp) rfl rfl rfl rfl rfl (fun _ => rfl) (by simp only [LN]; omega) (fun _ => rfl) ?_
  intro g38
  refine y_F rfl <| M4 rfl rfl rfl rfl rfl (Nat.le_refl _) rfl <| xN [2,3,4,20,21,22] [2,3,1000038] rfl <| A0 <| E4 rfl rfl (C3 (by omega)) <| y_M rfl <| xN [2,3,4,20,21,22] [2,3,1000038] rfl <| G0 <| A3 <| A0 <| F8 rfl rfl <| xN [2,3,4,20,21,22,23] [2,3,1000038] rfl <| A3 ?_
  refine A5 rfl (fun hc => absurd hc (by exact fun h => Bool.noConfusion (show false = true from h))) (fun hc => ?_)
  refine E3 <| A3 <| A3 <| A0 <| y_M rfl <| xN [2,3,41] [2,3,1000038] rfl ?_
  refine A5 rfl (fun hc => absurd hc (by decide)) (fun hc => ?_)
  refine A7 <| A3 <| A0 <| y_B rfl <| E7 rfl rfl rfl rfl (F6 rfl (F6 rfl (X6 (by decide) (by decide) rfl (by simp) fun _ => I6))) (fun _ => rfl) ⟨by decide, rfl, dT rfl, Nat.le_refl _⟩ (fun _ => rfl) (fun _ => rfl) (fun _ => C1 (by rfl) (C1 (B1 (A6 fun _ => rfl)) (by rfl))) ?_
  intro z
  simp only [I2, List.cons_append, List.nil_append]
  refine xN [2] [2,300002] rfl <| A8 <| C0 (D5 rfl rfl rfl rfl (C4 rfl (C4 rfl (J8 rfl rfl (by simp) (fun _ => rfl) F9))) (C7 B5)) ?_
  ((rw [a3k (.inl fun ns e => hg (by rw [e]; rfl))]); show _ = AV.agg [tV w, .list [], .list [trV (foldP p), trV (foldP q)]]; rfl)

theorem b3j : F4 Tryz.f13 = [0, 2, 4, 11, 3, 7] := by kernel_rfl
theorem b4q (t : Pl) (hgd : t.good) (hwf : t.wf) (hsz : t.sz ≤ 16) : CW (cxT oG) 13 [tV (showP t)] = some (tV (showP (foldP t)), []) := by
 have hfg := P2 t hgd
 have hfw := a9w t hwf
 have hfs := b9t t
 have hln := U8 hwf hgd
 have hlf := U8 hfw hfg
 obtain ⟨hi1, hi2⟩ := e0a hwf hgd hsz
 refine E5 rfl Tryz.func13 rfl ⟨by kernel_rfl, rfl, dT rfl, dT rfl, by decide⟩ b3j <| A3 <| A0 <| y_S rfl <| xN [0] [] rfl <| A3 <| A0 <| y_M rfl ?_
 apply xC rfl
 ·apply A9
  ·exact B7 rfl
  exact C5
 ·exact (by have hi := b1r (oG := oG) (showP t) (by omega); rw [hi1, hi2] at hi; exact hi)
 refine ⟨⟨rfl, rfl, rfl, dT rfl, rfl⟩, .inl rfl, B3, K4 rfl, fun _ => rfl, fun g7 => ?_⟩
 refine y_M rfl <| y_E rfl <| y_E rfl <| y_A rfl (fun _ => rfl) ?_
 intro g3
 refine xB rfl rfl rfl rfl rfl rfl rfl rfl rfl <| y_S rfl <| xN [0,3,4] [3] rfl <| A3 <| A3 <| A0 <| y_M rfl <| J0 rfl <| xN [0,3,11] [3] rfl ?_
 refine A5 rfl (fun hc => absurd hc (by decide)) (fun hc => ?_)
 refine A7 <| A3 <| A0 <| y_B rfl ?_
 refine xC1 rfl rfl ((by have hi := d8o (oG := oG) t hgd hwf (by omega); rw [← L7] at hi; exact hi)) ⟨rfl, rfl, rfl⟩ rfl rfl fun g14 => ?_
 refine xC1 rfl rfl ((by have hi := e1l (oG := oG) (foldP t) (by omega) hfg; rw [← L7] at hi; exact hi)) ⟨rfl, rfl, rfl⟩ rfl rfl fun g15 => ?_
 refine y_S rfl <| xN [2] [] rfl <| A8 <| C2 rfl rfl trivial ?_
 rfl

theorem b1p : F4 Tryz.f9 = [0, 2, 5] := by kernel_rfl
theorem c5n (s : List UInt8) (hs : s.length ≤ 1048576) : CW (cxT oG) 9 [tV s] = some (tV (c0d s), []) := by
 refine E5 rfl Tryz.func9 rfl ⟨by kernel_rfl, rfl, dT rfl, dT rfl, by decide⟩ b1p <| A3 <| A0 <| y_S rfl <| xN [0] [] rfl <| A3 <| A3 <| A0 <| y_M rfl ?_
 refine xC1 rfl rfl (a3w s hs) ⟨rfl, rfl, rfl⟩ rfl rfl fun g4 => ?_
 refine J0 rfl <| xN [0,5] [] rfl ?_
 refine A5 rfl ?_ ?_ <;> intro hc <;> try simp only [SL] at hc
 ·refine A3 <| A0 <| y_S rfl <| xN [2] [] rfl <| A8 <| C2 rfl rfl trivial ?_
  rw [c9z hc]
  rfl
 refine A7 <| A3 <| A0 <| y_M rfl ?_
 obtain ⟨t, ht1, ht2, ht3⟩ := a1p hc
 obtain ⟨hst, hwf, hgd, hsl, hsz⟩ := a1n ht1
 rw [b5f ht1]
 subst hst
 refine xC1 rfl rfl (b4q t hgd hwf hsz) ⟨rfl, rfl, rfl⟩ rfl rfl fun g7 => ?_
 refine y_S rfl <| xN [2] [] rfl <| A8 <| C2 rfl rfl trivial ?_
 rfl

theorem b4i : F4 Tryz.f17 = [0, 2, 1, 3, 11, 6] := by kernel_rfl
theorem d3m (t : Pl) (hgd : t.good) (hwf : t.wf) (hsz : t.sz ≤ 16) : CW (cxT oG) 17 [trK t] = some (trV (a3x t), []) := by
 refine E5 rfl Tryz.func17 rfl ⟨by kernel_rfl, rfl, dT rfl, dT rfl, by decide⟩ b4i <| A3 <| A0 <| a0k rfl rfl rfl (fun _ => K3 rfl) (fun _ => rfl) ?_
 intro g1
 refine y_A rfl (fun _ => rfl) ?_
 intro g2
 refine xN [1,2] [1,2] rfl <| B0 ?_
 rw [← L7]
 refine E8 (β := Pl) [(.t 1, _), (.t 2, _), (.h 2, _)] (fun (u : Pl) => [(.h 1, .obj g1 3 3 [trV u])]) (fun (u : Pl) => u.sz ≤ t.sz ∧ u.good ∧ u.wf ∧ a3x u = a3x t) (fun (u : Pl) => u.sz) t ⟨rfl, rfl, rfl, rfl, trivial⟩ ⟨Nat.le_refl _, hgd, hwf, rfl⟩ ?_
 intro u hb
 obtain ⟨hus, hug, huw, hun⟩ := hb
 refine B0 <| A3 <| A0 <| y_B rfl ?_
 have hnw := c2e huw
 have hng := b1d huw hug
 have hns : (normP u).sz ≤ u.sz := by rcases b7g huw with h | h; (· omega); (· rw [h]; exact Nat.le_refl _)
 have hfw := a5g huw
 have hfg := a7s huw hug
 have hfs := b9t (normP u)
 have hl1 := U8 huw hug
 have hl2 := U8 hfw hfg
 have hsb : stepB u = foldP (normP u) := rfl
 refine xC1 rfl rfl ((by have hi := d4i (oG := oG) u (by omega) hug huw; rw [← L7] at hi; exact hi)) ⟨rfl, rfl, rfl⟩ rfl rfl fun g5 => ?_
 refine xC1 rfl rfl ((by have hi := e0i (oG := oG) (normP u) hng hnw (by omega); rw [← L7] at hi; exact hi)) ⟨rfl, rfl, rfl⟩ rfl rfl fun g6 => ?_
 refine y_A rfl (fun _ => rfl) ?_
 intro g3
 refine xB rfl rfl rfl rfl rfl rfl rfl rfl rfl <| xN [1,2,3] [1,2,3] rfl <| A3 <| A3 <| A0 <| y_B rfl ?_
 refine xC1 rfl rfl ((by have hi := a7z (oG := oG) (foldP (normP u)) (by rw [← hsb]; rw [← hsb] at hfs; omega) hfg; rw [← L7] at hi; exact hi)) ⟨rfl, rfl, rfl⟩ rfl rfl fun g8 => ?_
 refine y_B rfl ?_
 refine xC1 rfl rfl ((by have hi := a7z (oG := oG) u (by omega) hug; rw [← L7] at hi; exact hi)) ⟨rfl, rfl, rfl⟩ rfl rfl fun g10 => ?_
 refine L6 rfl rfl ?_
 refine J6 ⟨fun _ => ⟨by (simp only [Z0, List.nil_append, List.append_nil, List.map_cons, List.map_nil, List.cons_append]; decide +kernel), by decide +kernel⟩, [(.t 1, _), (.t 2, _), (.t 3, _), (.t 11, _), (.h 1, _), (.h 2, _), (.h 3, _)], ⟨rfl, rfl, rfl, rfl, rfl, rfl, rfl, rfl, rfl, rfl, rfl, rfl, rfl, rfl, trivial⟩, ?_⟩
 refine A5 rfl ?_ ?_ <;> intro hc <;> try simp only [SL] at hc
 ·refine A3 <| A0 <| y_B rfl <| xB rfl rfl rfl rfl rfl rfl rfl rfl rfl <| xN [2] [2] rfl <| A8 <| C0 (D5 rfl rfl rfl rfl (C4 rfl (C4 rfl (C4 rfl F9))) (C7 B5)) ?_
  rw [← hun, c1z (c6o hfw hfg huw hug hc)]
  rfl
 have hne : stepB u ≠ u := fun e => hc (by rw [← hsb, e])
 have hlt : (stepB u).sz < u.sz := (a2z huw).resolve_right fun e => hne (a5j e)
 refine A7 <| A0 <| y_B rfl <| xB rfl rfl rfl rfl rfl rfl rfl rfl rfl <| xN [1,2] [1,2] rfl ?_
 refine ⟨(stepB u), ⟨by omega, hfg, hfw, by rw [← hun]; exact (c6b huw hne).symm⟩, (by omega), ⟨rfl, rfl, rfl, rfl, trivial⟩⟩

theorem a7t : F4 Tryz.f6 = [0, 2, 4, 11, 3, 7] := by kernel_rfl
theorem a2n (s : List UInt8) (hs : s.length ≤ 1048576) : CW (cxT oG) 6 [tV s] = some (tV (a1y s), []) := by
 refine E5 rfl Tryz.func6 rfl ⟨by kernel_rfl, rfl, dT rfl, dT rfl, by decide⟩ a7t <| A3 <| A0 <| y_S rfl <| xN [0] [] rfl <| A3 <| A0 <| y_M rfl ?_
 apply xC rfl
 ·apply A9
  ·exact B7 rfl
  exact C5
 ·exact c9k s hs
 refine ⟨⟨rfl, rfl, rfl, dT rfl, rfl⟩, .inl rfl, B3, K4 rfl, fun _ => rfl, fun g7 => ?_⟩
 refine y_M rfl <| y_E rfl <| y_E rfl <| y_A rfl (fun _ => rfl) ?_
 intro g3
 refine xB rfl rfl rfl rfl rfl rfl rfl rfl rfl <| y_S rfl <| xN [3,4] [3] rfl <| A3 <| A3 <| A0 <| y_M rfl <| J0 rfl <| xN [3,11] [3] rfl ?_
 refine A5 rfl ?_ ?_ <;> intro hc <;> try simp only [SL] at hc
 ·refine A3 <| A0 <| y_S rfl <| xN [2] [] rfl <| A8 <| C2 rfl rfl trivial ?_
  rw [b0o hc]
  rfl
 refine A7 <| A3 <| A0 <| y_B rfl ?_
 obtain ⟨t, ht1, ht2, ht3⟩ := a1p hc
 obtain ⟨hst, hwf, hgd, hsl, hsz⟩ := a1n ht1
 have hbg := c5y hwf hgd
 have hbw := c9u hwf
 have hbs := d5t hwf
 have hln := U8 hwf hgd
 have hlf := U8 hbw hbg
 rw [ht2, a6t ht1]
 refine xC1 rfl rfl ((by have hi := d3m (oG := oG) t hgd hwf (by omega); rw [← L7] at hi; exact hi)) ⟨rfl, rfl, rfl⟩ rfl rfl fun g13 => ?_
 refine xC1 rfl rfl ((by have hi := a7z (oG := oG) (a3x t) (by omega) hbg; rw [← L7] at hi; exact hi)) ⟨rfl, rfl, rfl⟩ rfl rfl fun g14 => ?_
 refine y_S rfl <| xN [2] [] rfl <| A8 <| C2 rfl rfl trivial ?_
 rfl

theorem a8h : F4 Tryz.f5 = [0, 2, 6, 3, 12] := by kernel_rfl
theorem a7o (s : List UInt8) (hs : s.length ≤ 1048576) : CW (cxT (some rG)) 5 [tV s] = some (tV (a1y s), []) := by
 refine E5 rfl Tryz.func5 rfl ⟨by kernel_rfl, rfl, dT rfl, dT rfl, by decide⟩ a8h <| A3 <| A0 <| y_S rfl <| xN [0] [] rfl <| A3 <| A3 <| A0 <| y_M rfl ?_
 refine xC1 rfl rfl (a3w s hs) ⟨rfl, rfl, rfl⟩ rfl rfl fun g5 => ?_
 refine J0 rfl <| xN [0,6] [] rfl ?_
 refine A5 rfl ?_ ?_ <;> intro hc <;> try simp only [SL] at hc
 ·refine A3 <| A0 <| y_S rfl <| xN [2] [] rfl <| A8 <| C2 rfl rfl trivial ?_
  rw [b0o hc]
  rfl
 obtain ⟨t, ht1, ht2, ht3⟩ := a1p hc
 obtain ⟨hst, hwf, hgd, hsl, hsz⟩ := a1n ht1
 rw [a6t ht1]
 refine A7 <| B0 ?_
 subst hst
 refine c2b (β := Pl) (fun (u : Pl) => [(.t 0, tV (showP u))]) (fun (u : Pl) => u.sz ≤ t.sz ∧ u.good ∧ u.wf ∧ a3x u = a3x t) (fun (u : Pl) => u.sz) t ⟨rfl, trivial⟩ ⟨Nat.le_refl _, hgd, hwf, rfl⟩ ?_
 intro u hb
 obtain ⟨hus, hug, huw, hun⟩ := hb
 refine B0 <| A3 <| A0 <| y_M rfl ?_
 have hnw := c2e huw
 have hng := b1d huw hug
 have hns : (normP u).sz ≤ u.sz := by rcases b7g huw with h | h; (· omega); (· rw [h]; exact Nat.le_refl _)
 have hfw := a5g huw
 have hfg := a7s huw hug
 have hl1 := U8 huw hug
 have hsb : stepB u = foldP (normP u) := rfl
 refine xC1 rfl rfl (b9j u huw (by omega) (by omega)) ⟨rfl, rfl, rfl⟩ rfl rfl fun g8 => ?_
 refine xC1 rfl rfl (b4q (normP u) hng hnw (by omega)) ⟨rfl, rfl, rfl⟩ rfl rfl fun g9 => ?_
 refine y_S rfl <| xN [0,3] [] rfl <| A3 <| A3 <| A0 <| y_M rfl <| y_M rfl <| L6 rfl rfl <| xN [0,3,12] [] rfl ?_
 refine A5 rfl ?_ ?_ <;> intro hc <;> try simp only [SL] at hc
 ·refine A3 <| A0 <| y_M rfl <| y_S rfl <| xN [2] [] rfl <| A8 <| C2 rfl rfl trivial ?_
  rw [← hun, c1z (c6o hfw hfg huw hug hc)]
 have hne : stepB u ≠ u := fun e => hc (by rw [← hsb, e])
 have hlt : (stepB u).sz < u.sz := (a2z huw).resolve_right fun e => hne (a5j e)
 refine A7 <| A0 <| y_M rfl <| y_S rfl <| xN [0] [] rfl ?_
 refine ⟨(stepB u), ⟨by omega, hfg, hfw, by rw [← hun]; exact (c6b huw hne).symm⟩, (by omega), ⟨rfl, trivial⟩⟩

theorem a7f : F4 Tryz.f3 = [0, 2, 7, 3, 4, 19, 26] := by kernel_rfl
theorem b6w (bs : List Int) (hbs : a4i bs) : CW (cxT (some rG)) 3 [.list (bs.map uV)] = some (bV true, []) := by
 refine E5 rfl Tryz.func3 rfl ⟨by kernel_rfl, rfl, dT rfl, dT rfl, by decide⟩ a7f <| A3 <| A0 <| y_S rfl <| xN [0] [] rfl <| A3 <| A3 <| A0 <| y_M rfl <| B9 rfl rfl <| O6 rfl rfl <| xN [0,7] [] rfl ?_
 refine A5 rfl ?_ ?_ <;> intro hc <;> try simp only [SL] at hc
 ·refine A3 <| A0 <| y_S rfl <| xN [2] [] rfl <| A8 <| C2 rfl rfl trivial ?_
  rfl
 refine A7 <| A3 <| A0 <| y_M rfl ?_
 have hl2 : bs.length ≤ 1048576 := by omega
 obtain ⟨_, _, ⟨s, rfl, rfl, hs⟩, hC1⟩ := b0c (oG := some rG) bs hbs hl2
 refine xC1 rfl rfl (hC1) ⟨rfl, rfl, rfl⟩ rfl rfl fun g9 => ?_
 refine y_S rfl <| xN [3] [] rfl <| A3 <| A0 <| y_M rfl ?_
 refine xC1 rfl rfl (a7o s (by omega)) ⟨rfl, rfl, rfl⟩ rfl rfl fun g11 => ?_
 refine y_S rfl <| xN [3,4] [] rfl <| A3 <| A3 <| A0 <| y_M rfl <| y_M rfl ?_
 refine xC1 rfl rfl (a2n s (by omega)) ⟨rfl, rfl, rfl⟩ rfl rfl fun g14 => ?_
 refine b5g rfl rfl <| y_M rfl ?_
 refine C6 rfl rfl ?_ ?_ <;> intro hg0 <;> have hg := hg0 <;> try simp only [SG] at hg
 ·refine y_M rfl <| gT rfl rfl <| L6 rfl rfl <| F3 rfl (by assumption) rfl rfl <| xN [3,4,19] [] rfl ?_
  refine A5 rfl ?_ ?_ <;> intro hc <;> try simp only [SL] at hc
  ·refine A3 <| A0 <| y_M rfl <| y_M rfl ?_
   refine xC1 rfl rfl (a2n s (by omega)) ⟨rfl, rfl, rfl⟩ rfl rfl fun g22 => ?_
   refine L6 rfl rfl <| y_S rfl <| xN [2] [] rfl <| A8 <| C2 rfl rfl trivial ?_
   exact congrArg bV (by simp_all)
  have hne : a1y s ≠ [] := by assumption
  refine A7 <| A3 <| A3 <| A0 <| y_M rfl <| a1o rfl rfl <| O6 rfl rfl <| xN [3,4,26] [] rfl ?_
  refine A5 rfl ?_ ?_ <;> intro hc <;> try simp only [SL] at hc
  ·refine A3 <| A0 <| y_S rfl <| xN [2] [] rfl <| A8 <| C2 rfl rfl trivial ?_
   rfl
  obtain ⟨hw1, hw2, hw3, hw4⟩ := d0k hne (by omega)
  refine A7 <| A3 <| A0 <| y_M rfl ?_
  refine xC1 rfl rfl (b9o (a1y s) (by omega)) ⟨rfl, rfl, rfl⟩ rfl rfl fun g28 => ?_
  refine y_M rfl ?_
  refine xC1 rfl rfl (b9o s (by omega)) ⟨rfl, rfl, rfl⟩ rfl rfl fun g30 => ?_
  refine a7i rfl rfl <| y_M rfl ?_
  refine C6 rfl rfl ?_ ?_ <;> intro hg0 <;> have hg := hg0 <;> try simp only [SG] at hg
  ·refine y_M rfl <| gT rfl rfl ?_
   refine xC1 rfl rfl (a7o (a1y s) (by omega)) ⟨rfl, rfl, rfl⟩ rfl rfl fun g34 => ?_
   refine gT rfl rfl <| y_M rfl <| gT rfl rfl <| L6 rfl rfl <| F0 rfl (by assumption) rfl rfl <| y_M rfl ?_
   refine C6 rfl rfl ?_ ?_ <;> intro hg0 <;> have hg := hg0 <;> try simp only [SG] at hg
   ·refine y_M rfl <| gT rfl rfl ?_
    refine xC1 rfl rfl (c4s (a1y s) (by omega)) ⟨rfl, rfl, rfl⟩ rfl rfl fun g40 => ?_
    refine gT rfl rfl <| y_M rfl <| gT rfl rfl <| L6 rfl rfl <| F0 rfl (by assumption) rfl rfl <| y_M rfl ?_
    refine C6 rfl rfl ?_ ?_ <;> intro hg0 <;> have hg := hg0 <;> try simp only [SG] at hg
    ·refine y_M rfl <| gT rfl rfl ?_
     refine xC1 rfl rfl (c5n (a1y s) (by omega)) ⟨rfl, rfl, rfl⟩ rfl rfl fun g46 => ?_
     refine gT rfl rfl <| y_M rfl <| gT rfl rfl <| L6 rfl rfl <| F0 rfl (by assumption) rfl rfl <| y_S rfl <| xN [2] [] rfl <| A8 <| C2 rfl rfl trivial ?_
     exact congrArg bV (by simp_all)
    refine gF rfl rfl <| gF rfl rfl <| gF rfl rfl <| F3 rfl (by assumption) rfl rfl <| y_S rfl <| xN [2] [] rfl <| A8 <| C2 rfl rfl trivial ?_
    exact congrArg bV (by simp_all)
   refine gF rfl rfl <| gF rfl rfl <| gF rfl rfl <| F3 rfl (by assumption) rfl rfl <| y_M rfl ?_
   iterate 4 refine I7 rfl rfl rfl ?_
   refine F3 rfl rfl rfl rfl <| y_S rfl <| xN [2] [] rfl <| A8 <| C2 rfl rfl trivial ?_
   exact congrArg bV (by simp_all)
  refine gF rfl rfl <| gF rfl rfl <| gF rfl rfl <| F3 rfl (by assumption) rfl rfl <| y_M rfl ?_
  iterate 4 refine I7 rfl rfl rfl ?_
  refine F3 rfl rfl rfl rfl <| y_M rfl ?_
  iterate 4 refine I7 rfl rfl rfl ?_
  refine F3 rfl rfl rfl rfl <| y_S rfl <| xN [2] [] rfl <| A8 <| C2 rfl rfl trivial ?_
  exact congrArg bV (by simp_all)
 refine gF rfl rfl <| F0 rfl (by assumption) rfl rfl <| xN [3,4,19] [] rfl ?_
 refine A5 rfl (fun hc => ?_) (fun hc => absurd hc (by decide))
 refine A3 <| A0 <| y_M rfl <| y_M rfl ?_
 refine xC1 rfl rfl (a2n s (by omega)) ⟨rfl, rfl, rfl⟩ rfl rfl fun g22 => ?_
 refine L6 rfl rfl <| y_S rfl <| xN [2] [] rfl <| A8 <| C2 rfl rfl trivial ?_
 exact congrArg bV (by simp_all)
end Go.Proofs.YtlainomgfkknbaaGreatDoor
