/- What each function of the program gives on the abstract machine, part 2 of 2. Conditions: those in front of each theorem. -/
import Derived.Test.YtagllmiiglicfaaGreatDoorSa
import Derived.KernelRfl

set_option linter.unusedVariables false
set_option linter.unusedSimpArgs false
namespace Go.Proofs.YtagllmiiglicfaaGreatDoor
open Go Go.Mv Go.Proofs
set_option maxRecDepth 100000
set_option maxHeartbeats 20000000

theorem a6a : F6 Tryz.f6 = [0, 1, 4, 10, 5, 14, 26] := by kernel_rfl
theorem a5o (ss : List Stp) (hs : ss.length ≤ 16 ∧ ∀ x ∈ ss, stG x) : CW cxT 6 [.list (ss.map stA), .list (ss.map stA)] = some (bV true, []) := by
 refine E7 rfl Tryz.func6 rfl ⟨by kernel_rfl, rfl, dT rfl, dT rfl, by decide⟩ a6a <| A3 <| A0 <| y_S rfl <| xN [0,1] [] rfl <| A3 <| A3 <| A0 <| y_M rfl <| D8 rfl rfl <| y_M rfl <| D8 rfl rfl <| Z3 rfl rfl <| xN [0,1,10] [] rfl ?_
 refine A5 rfl (fun hc => ?_) (fun hc => ?_)
 ·try simp only [SD] at hc
  exact absurd trivial hc
 try simp only [SL] at hc
 refine A8 <| A3 <| A3 <| A0 <| y_S rfl <| xN [0,1,5] [] rfl <| B7 <| I4 (β := Nat) [(.t 0, _), (.t 1, _)] (fun (i : Nat) => [(.t 5, iV i)]) (fun (i : Nat) => i ≤ ss.length) (fun (i : Nat) => ss.length - i) 0 ⟨rfl, rfl, rfl, trivial⟩ (Nat.zero_le _) ?_
 intro i hb
 have hi1 := hb
 refine A3 <| A3 <| A0 <| y_M rfl <| y_M rfl <| D8 rfl rfl <| G6 rfl rfl <| xN [0,1,5,14] [] rfl ?_
 refine A5 rfl ?_ ?_ <;> intro hc <;> try simp only [SL] at hc
 ·refine A8 <| A3 <| B7 <| A3 <| A0 <| y_M rfl <| y_M rfl <| E9 rfl rfl rfl (fun _ => rfl) (by omega) <| y_I rfl <| y_M rfl <| y_M rfl <| E9 rfl rfl rfl (fun _ => rfl) (by omega) <| y_I rfl ?_
  have hsg := hs.2 _ (M6 (xs := ss) (i := i) (by omega))
  have hvl := N4 hsg.2
  refine xC2 rfl rfl rfl (b8t (ss.getD i default) (by omega)) ⟨rfl, rfl, rfl⟩ rfl rfl fun g25 => ?_
  refine N7 rfl ?_
  refine G2 ⟨fun _ => ⟨by decide +kernel, by decide +kernel⟩, [(.t 0, _), (.t 1, _), (.t 5, _), (.t 26, _)], ⟨rfl, rfl, rfl, rfl, rfl, rfl, rfl, rfl, trivial⟩, ?_⟩
  refine A5 rfl (fun hc => ?_) (fun hc => ?_)
  ·try simp only [SD] at hc
   exact absurd hc (by simp)
  try simp only [SL] at hc
  refine A8 <| A0 <| y_M rfl <| G5 rfl rfl (F5 (by omega)) <| y_S rfl <| xN [0,1,5] [] rfl ?_
  refine ⟨i + 1, (by omega), (by omega), ⟨rfl, rfl, rfl, trivial⟩⟩
 refine F7 <| A3 <| A0 <| y_S rfl <| xN [4] [] rfl <| B2 <| C0 rfl rfl trivial ?_
 rfl

theorem b2f : F6 Tryz.f7 = [0, 1, 4, 5, 9, 15] := by kernel_rfl
theorem c5z (ss : List Stp) (hs : ss.length ≤ 16 ∧ ∀ x ∈ ss, stG x) (k : Int) (hk : 0 ≤ k ∧ k ≤ 1000) : ∃ res outs, (fun res outs => res = iV (kAt ss k ss.length) ∧ outs = [(c0v ss k).map stO]) res outs ∧ CW cxT 7 [.own 4 (ss.map stO), iV k] = some (res, outs) := by
 have hkb := b7r hs.2 hs.1 k
 refine a8y rfl Tryz.func7 rfl ⟨by kernel_rfl, rfl, dT rfl, dT rfl, by decide⟩ b2f <| A3 <| A0 <| y_S rfl <| xN [0,1] [0] rfl <| A3 <| A3 <| A0 <| y_S rfl <| xN [0,1,5] [0] rfl <| B7 <| I4 (β := Nat × List Stp × Int) [(.t 0, _)] (fun (z : Nat × List Stp × Int) => match z with | (i, ys, q) => [(.t 5, iV i), (.t 1, iV q), (.h 0, .obj 1 1 4 (ys.map stO))]) (fun (z : Nat × List Stp × Int) => match z with | (i, ys, q) => i ≤ ss.length ∧ ys.length = ss.length ∧ q = kAt ss k i ∧ (∀ j, j < i → ys.getD j default = mkS1 (kAt ss k j) (ss.getD j default).ns.length) ∧ ∀ j, i ≤ j → ys.getD j default = ss.getD j default) (fun (z : Nat × List Stp × Int) => match z with | (i, ys, q) => ss.length - i) (0, ss, k) ⟨rfl, rfl, rfl, rfl, trivial⟩ ⟨Nat.zero_le _, rfl, (b2g ss k).symm, fun j h => by omega, fun j h => rfl⟩ ?_
 intro z hb
 obtain ⟨i, ys, q⟩ := z
 try dsimp only at hb
 obtain ⟨hi1, hi2, hq, hi3, hi4⟩ := hb
 have hqb := hkb i hi1
 rw [← hq] at hqb
 refine A3 <| A3 <| A0 <| y_M rfl <| y_M rfl <| H7 rfl rfl <| G6 rfl rfl <| xN [0,1,5,9] [0] rfl ?_
 refine A5 rfl ?_ ?_ <;> intro hc <;> try simp only [SL] at hc
 ·refine A8 <| A3 <| B7 <| A3 <| A0 <| y_M rfl <| y_M rfl <| y_M rfl ?_
  refine xC1 rfl rfl (a9z q (by omega)) ⟨rfl, rfl, rfl⟩ rfl rfl fun g15 => ?_
  refine D4 rfl rfl rfl rfl (by (simp; omega)) (by (simp; omega)) rfl <| y_F rfl <| a2x (y := ((ys.getD i default).sOp (bA (mT q)))) rfl rfl rfl (by omega) rfl ⟨rfl, dT rfl, dT rfl, rfl⟩ (by decide) rfl (by exact a1v (A6 fun _ => rfl)) <| xN [0,1,5] [0] rfl <| A3 <| A0 <| y_M rfl <| G5 rfl rfl (F5 (by omega)) <| y_S rfl <| xN [0,1,5] [0] rfl <| A3 <| A0 <| y_M rfl <| y_M rfl <| y_M rfl <| D4 rfl rfl rfl rfl (by (simp; omega)) (by (simp; omega)) rfl <| y_F rfl <| a2x (y := (((ys.set i ((ys.getD i default).sOp (bA (mT q)))).getD i default).sA (q + 1))) rfl rfl rfl (by (simp; omega)) rfl ⟨rfl, dT rfl, dT rfl, rfl⟩ (by decide) rfl (by exact a1v (A6 fun _ => rfl)) <| xN [0,1,5] [0] rfl <| A3 <| A0 <| y_M rfl <| G5 rfl rfl (F5 (by omega)) <| y_S rfl <| xN [0,1,5] [0] rfl <| A3 <| A0 <| y_M rfl <| y_M rfl <| y_M rfl <| D4 rfl rfl rfl rfl (by (simp; omega)) (by (simp; omega)) rfl <| y_F rfl <| a2x (y := ((((ys.set i ((ys.getD i default).sOp (bA (mT q)))).set i (((ys.set i ((ys.getD i default).sOp (bA (mT q)))).getD i default).sA (q + 1))).getD i default).sB (q + 1 + 1))) rfl rfl rfl (by (simp; omega)) rfl ⟨rfl, dT rfl, dT rfl, rfl⟩ (by decide) rfl (by exact a1v (A6 fun _ => rfl)) <| xN [0,1,5] [0] rfl <| A3 <| A0 <| y_M rfl <| G5 rfl rfl (F5 (by omega)) <| y_S rfl <| xN [0,1,5] [0] rfl <| A0 <| y_M rfl <| y_M rfl <| D4 rfl rfl rfl rfl (by (simp; omega)) (by (simp; omega)) rfl <| y_F rfl <| b9k rfl rfl (by (simp; omega)) rfl rfl <| y_M rfl ?_
  have hg3 : ((((ys.set i ((ys.getD i default).sOp (bA (mT q)))).set i (((ys.set i ((ys.getD i default).sOp (bA (mT q)))).getD i default).sA (q + 1))).set i ((((ys.set i ((ys.getD i default).sOp (bA (mT q)))).set i (((ys.set i ((ys.getD i default).sOp (bA (mT q)))).getD i default).sA (q + 1))).getD i default).sB (q + 1 + 1))).getD i default).ns.length = (ys.getD i default).ns.length := d2p (by omega)
  have hyi := hi4 i (Nat.le_refl _)
  have hsg := hs.2 _ (M6 (xs := ss) (i := i) (by omega))
  have hvl := N4 hsg.2
  rw [← hyi] at hvl
  have hms := c5l (k := k) (q := q) (n := (ys.getD i default).ns.length) (show i < ss.length by omega) hi2 hq (by rw [hyi]) hi3 hi4
  obtain ⟨_, _, ⟨rfl, rfl⟩, hM⟩ := c2m ((((ys.set i ((ys.getD i default).sOp (bA (mT q)))).set i (((ys.set i ((ys.getD i default).sOp (bA (mT q)))).getD i default).sA (q + 1))).set i ((((ys.set i ((ys.getD i default).sOp (bA (mT q)))).set i (((ys.set i ((ys.getD i default).sOp (bA (mT q)))).getD i default).sA (q + 1))).getD i default).sB (q + 1 + 1))).getD i default).ns (by omega) (q + 1 + 1 + 1) (by omega)
  apply a2d rfl
  ·apply B0
   ·exact c5r rfl rfl (b1x (by simp; omega) rfl) (by decide) (by (simp; done)) (R9 fun _ => rfl)
   apply B0
   ·exact B6 rfl
   exact C6
  ·exact hM
  ·exact ⟨rfl, rfl, rfl, dT rfl, rfl⟩
  ·exact .inl rfl
  ·exact c9u rfl (by simp; omega) (by simp)
  ·exact E6 rfl
  ·(intro _; exact A7 (a1v (A6 fun _ => rfl)) rfl)
  intro g40
  refine y_S rfl <| xN [0,1,5] [0] rfl <| A0 <| y_M rfl <| G5 rfl rfl (F5 (by omega)) <| y_S rfl <| xN [0,1,5] [0] rfl ?_
  refine ⟨(i + 1, (((ys.set i ((ys.getD i default).sOp (bA (mT q)))).set i (((ys.set i ((ys.getD i default).sOp (bA (mT q)))).getD i default).sA (q + 1))).set i ((((ys.set i ((ys.getD i default).sOp (bA (mT q)))).set i (((ys.set i ((ys.getD i default).sOp (bA (mT q)))).getD i default).sA (q + 1))).getD i default).sB (q + 1 + 1))).set i (((((ys.set i ((ys.getD i default).sOp (bA (mT q)))).set i (((ys.set i ((ys.getD i default).sOp (bA (mT q)))).getD i default).sA (q + 1))).set i ((((ys.set i ((ys.getD i default).sOp (bA (mT q)))).set i (((ys.set i ((ys.getD i default).sOp (bA (mT q)))).getD i default).sA (q + 1))).getD i default).sB (q + 1 + 1))).getD i default).sN (mkI (q + 1 + 1 + 1) ((((ys.set i ((ys.getD i default).sOp (bA (mT q)))).set i (((ys.set i ((ys.getD i default).sOp (bA (mT q)))).getD i default).sA (q + 1))).set i ((((ys.set i ((ys.getD i default).sOp (bA (mT q)))).set i (((ys.set i ((ys.getD i default).sOp (bA (mT q)))).getD i default).sA (q + 1))).getD i default).sB (q + 1 + 1))).getD i default).ns.length)), q + 1 + 1 + 1 + ((((ys.set i ((ys.getD i default).sOp (bA (mT q)))).set i (((ys.set i ((ys.getD i default).sOp (bA (mT q)))).getD i default).sA (q + 1))).set i ((((ys.set i ((ys.getD i default).sOp (bA (mT q)))).set i (((ys.set i ((ys.getD i default).sOp (bA (mT q)))).getD i default).sA (q + 1))).getD i default).sB (q + 1 + 1))).getD i default).ns.length), ⟨by omega, by rw [hg3, b7e (by omega)]; exact hms.1, by rw [hg3]; exact hms.2.1, by rw [hg3, b7e (by omega)]; exact hms.2.2.1, by rw [hg3, b7e (by omega)]; exact hms.2.2.2⟩, (by simp only; omega), ⟨rfl, rfl, rfl, rfl, trivial⟩⟩
 refine F7 <| A3 <| A0 <| y_M rfl <| y_S rfl <| xN [4] [0] rfl <| B2 ?_
 refine ⟨_, _, ?_, a7g rfl rfl (c9z rfl (A6 fun _ => rfl))⟩
 obtain rfl : i = ss.length := by omega
 exact ⟨by rw [hq], by rw [c8c hi2 fun j hj => hi3 j hj]⟩

theorem b4q : F6 Tryz.f8 = [0, 1, 4, 5, 9, 19, 28, 37, 48] := by kernel_rfl
theorem c1u (ss : List Stp) (hs : ss.length ≤ 16 ∧ ∀ x ∈ ss, stG x) (k : Int) (hk : 0 ≤ k ∧ k ≤ 1000) : CW cxT 8 [.list ((c0v ss k).map stA), iV k] = some (iV (kAt ss k ss.length), []) := by
 have hkb := b7r hs.2 hs.1 k
 have hml := c2d ss k
 refine E7 rfl Tryz.func8 rfl ⟨by kernel_rfl, rfl, dT rfl, dT rfl, by decide⟩ b4q <| A3 <| A0 <| y_S rfl <| xN [0,1] [] rfl <| A3 <| A3 <| A0 <| y_S rfl <| xN [0,1,5] [] rfl <| B7 <| I4 (β := Nat × Int) [(.t 0, _)] (fun (z : Nat × Int) => match z with | (i, q) => [(.t 5, iV i), (.t 1, iV q)]) (fun (z : Nat × Int) => match z with | (i, q) => i ≤ ss.length ∧ q = kAt ss k i) (fun (z : Nat × Int) => match z with | (i, q) => ss.length - i) (0, k) ⟨rfl, rfl, rfl, trivial⟩ ⟨Nat.zero_le _, (b2g ss k).symm⟩ ?_
 intro z hb
 obtain ⟨i, q⟩ := z
 try dsimp only at hb
 obtain ⟨hi1, hq⟩ := hb
 have hqb := hkb i hi1
 rw [← hq] at hqb
 have hgi : i < ss.length → (c0v ss k).getD i default = mkS1 q (ss.getD i default).ns.length := fun h => by rw [hq]; exact b5t h
 refine A3 <| A3 <| A0 <| y_M rfl <| y_M rfl <| D8 rfl rfl <| G6 rfl rfl <| xN [0,1,5,9] [] rfl ?_
 refine A5 rfl ?_ ?_ <;> intro hc <;> try simp only [SL] at hc
 ·refine A8 <| A3 <| B7 <| A3 <| A3 <| A0 <| y_M rfl <| y_M rfl <| E9 rfl rfl rfl (fun _ => rfl) (by omega) <| y_F rfl <| O9 rfl rfl rfl <| y_M rfl ?_
  refine xC1 rfl rfl (a9z q (by omega)) ⟨rfl, rfl, rfl⟩ rfl rfl fun g18 => ?_
  try rw [hgi (by omega)]
  refine c8k rfl rfl ?_
  refine G2 ⟨fun _ => ⟨by (simp only [M5, List.nil_append, List.append_nil, List.map_cons, List.map_nil, List.cons_append]; decide +kernel), by decide +kernel⟩, [(.t 0, _), (.t 1, _), (.t 5, _), (.t 19, _)], ⟨rfl, rfl, rfl, rfl, rfl, rfl, rfl, rfl, trivial⟩, ?_⟩
  refine A5 rfl (fun hc => ?_) (fun hc => ?_)
  ·try simp only [SD] at hc
   exact absurd rfl hc
  try simp only [SL] at hc
  refine A8 <| A3 <| A0 <| y_M rfl <| G5 rfl rfl (F5 (by omega)) <| y_S rfl <| xN [0,1,5] [] rfl <| A3 <| A3 <| A0 <| y_M rfl <| y_M rfl <| E9 rfl rfl rfl (fun _ => rfl) (by omega) <| y_F rfl <| O9 rfl rfl rfl <| y_M rfl ?_
  try rw [hgi (by omega)]
  refine Z3 rfl rfl <| xN [0,1,5,28] [] rfl ?_
  refine A5 rfl (fun hc => ?_) (fun hc => ?_)
  ·try simp only [SD] at hc
   exact absurd rfl hc
  try simp only [SL] at hc
  refine A8 <| A3 <| A0 <| y_M rfl <| G5 rfl rfl (F5 (by omega)) <| y_S rfl <| xN [0,1,5] [] rfl <| A3 <| A3 <| A0 <| y_M rfl <| y_M rfl <| E9 rfl rfl rfl (fun _ => rfl) (by omega) <| y_F rfl <| O9 rfl rfl rfl <| y_M rfl ?_
  try rw [hgi (by omega)]
  refine Z3 rfl rfl <| xN [0,1,5,37] [] rfl ?_
  refine A5 rfl (fun hc => ?_) (fun hc => ?_)
  ·try simp only [SD] at hc
   exact absurd rfl hc
  try simp only [SL] at hc
  refine A8 <| A3 <| A0 <| y_M rfl <| G5 rfl rfl (F5 (by omega)) <| y_S rfl <| xN [0,1,5] [] rfl <| A3 <| A0 <| y_M rfl <| y_M rfl <| E9 rfl rfl rfl (fun _ => rfl) (by omega) <| y_F rfl <| O9 rfl rfl rfl <| y_M rfl ?_
  try rw [hgi (by omega)]
  have hsg := hs.2 _ (M6 (xs := ss) (i := i) (by omega))
  have hvl := N4 hsg.2
  try rw [hgi (by omega)]
  refine xC2 rfl rfl rfl (c4d (ss.getD i default).ns.length (by omega) (q + 1 + 1 + 1) (by omega)) ⟨rfl, rfl, rfl⟩ rfl rfl fun g46 => ?_
  refine y_S rfl <| xN [0,1,5] [] rfl <| A3 <| A0 <| y_M rfl <| G6 rfl rfl <| xN [0,1,5,48] [] rfl ?_
  refine A5 rfl (fun hc => ?_) (fun hc => ?_)
  ·try simp only [SD] at hc
   exact absurd hc (by omega)
  try simp only [SL] at hc
  refine A8 <| A0 <| y_M rfl <| G5 rfl rfl (F5 (by omega)) <| y_S rfl <| xN [0,1,5] [] rfl ?_
  refine ⟨(i + 1, _), ⟨by omega, by rw [b2l (by omega), ← hq]⟩, (by simp only; omega), ⟨rfl, rfl, rfl, trivial⟩⟩
 refine F7 <| A3 <| A0 <| y_M rfl <| y_S rfl <| xN [4] [] rfl <| B2 <| C0 rfl rfl trivial ?_
 rw [hq, show i = ss.length by omega]

theorem a1s : F6 Tryz.f3 = [0, 2, 10, 3, 4, 18, 5, 6, 26, 29, 7, 35, 40, 43] := by kernel_rfl
theorem a5r (s : List UInt8) : CW cxT 3 [tV s] = some (bV true, []) := by
 have hs16 := (Q6 s).2
 have hkb := (b7r (ss := (sharesT s)) a0d (Q6 s).2 1 (sharesT s).length (Nat.le_refl _)).1
 refine E7 rfl Tryz.func3 rfl ⟨by kernel_rfl, rfl, dT rfl, dT rfl, by decide⟩ a1s <| A3 <| A0 <| y_S rfl <| xN [0] [] rfl <| A3 <| A3 <| A0 <| y_M rfl <| a3s rfl rfl <| Z2 rfl rfl <| xN [0,10] [] rfl ?_
 refine A5 rfl ?_ ?_ <;> intro hc <;> try simp only [SL] at hc
 ·refine A3 <| A0 <| y_S rfl <| xN [2] [] rfl <| B2 <| C0 rfl rfl trivial ?_
  rfl
 refine A8 <| A3 <| A0 <| y_M rfl ?_
 apply xC rfl
 ·apply B0
  ·exact B6 rfl
  exact C6
 ·exact b6x s (by omega)
 refine ⟨⟨rfl, rfl, rfl, dT rfl, rfl⟩, .inl rfl, B4, K0, fun _ => rfl, fun g12 => ?_⟩
 simp only [List.length_map]
 (refine xO rfl rfl (by simp) rfl (fun _ => rfl) (fun _ => rfl) ?_; intro g3)
 refine xN [0,3] [3] rfl <| A3 <| A0 <| y_M rfl ?_
 apply xC rfl
 ·apply B0
  ·exact B6 rfl
  exact C6
 ·exact a6y s (by omega)
 refine ⟨⟨rfl, rfl, rfl, dT rfl, rfl⟩, .inl rfl, B4, K0, fun _ => rfl, fun g14 => ?_⟩
 simp only [List.length_map]
 (refine xO rfl rfl (by simp) rfl (fun _ => rfl) (fun _ => rfl) ?_; intro g4)
 refine xN [0,3,4] [3,4] rfl <| A3 <| A3 <| A0 <| y_M rfl <| y_M rfl ?_
 apply xC rfl
 ·apply B0
  ·exact L0 rfl rfl rfl (by (simp; done))
  apply B0
  ·exact Q9 rfl rfl rfl (by (simp; done)) (fun _ => rfl)
  exact C6
 ·exact a5o (sharesT s) ⟨(Q6 s).2, a0d⟩
 refine ⟨⟨rfl, rfl, rfl, dT rfl, rfl⟩, .inr ⟨rfl, rfl⟩, B4, E6 rfl, fun _ => rfl, fun g17 => ?_⟩
 refine N7 rfl <| xN [0,3,4,18] [3,4] rfl ?_
 refine A5 rfl (fun hc => absurd hc (by decide)) (fun hc => ?_)
 refine A8 <| A3 <| A0 <| y_S rfl <| xN [0,3,4,5] [3,4] rfl <| A3 <| A0 <| y_M rfl <| y_M rfl ?_
 obtain ⟨_, _, ⟨rfl, rfl⟩, hM⟩ := c5z (sharesT s) ⟨(Q6 s).2, a0d⟩ 1 (by decide)
 apply a2d rfl
 ·apply B0
  ·exact d0x rfl rfl (by decide) (by simp) (A6 fun _ => rfl)
  apply B0
  ·exact B6 rfl
  exact C6
 ·exact hM
 ·exact ⟨rfl, rfl, rfl, dT rfl, rfl⟩
 ·exact .inl rfl
 ·exact c6a rfl (by simp) (b2r _ _ (by simp)) B4
 ·exact E6 rfl
 ·(intro _; exact A7 (B3 (A6 fun _ => rfl)) rfl)
 intro g21
 refine y_S rfl <| xN [0,3,4,5] [3,4] rfl <| A3 <| A0 <| y_S rfl <| xN [0,3,4,5,6] [3,4] rfl <| A3 <| A0 <| y_M rfl <| y_M rfl ?_
 apply xC rfl
 ·apply B0
  ·exact L0 rfl rfl rfl (by simp)
  apply B0
  ·exact B6 rfl
  exact C6
 ·exact c1u (sharesT s) ⟨(Q6 s).2, a0d⟩ 1 (by decide)
 refine ⟨⟨rfl, rfl, rfl, dT rfl, rfl⟩, .inr ⟨rfl, rfl⟩, B4, E6 rfl, fun _ => rfl, fun g24 => ?_⟩
 refine y_S rfl <| xN [0,3,4,5,6] [3,4] rfl <| A3 <| A3 <| A0 <| y_M rfl <| G6 rfl rfl <| xN [0,3,4,5,6,26] [3,4] rfl ?_
 refine A5 rfl (fun hc => ?_) (fun hc => ?_)
 ·try simp only [SD] at hc
  exact absurd hc (by omega)
 try simp only [SL] at hc
 refine A8 <| A3 <| A3 <| A0 <| y_M rfl <| y_M rfl <| Z3 rfl rfl <| xN [0,3,4,5,29] [3,4] rfl ?_
 refine A5 rfl (fun hc => ?_) (fun hc => ?_)
 ·try simp only [SD] at hc
  exact absurd hc (by simp)
 try simp only [SL] at hc
 refine A8 <| A3 <| A0 <| y_M rfl ?_
 apply xC rfl
 ·apply B0
  ·exact B6 rfl
  exact C6
 ·exact a6y s (by omega)
 refine ⟨⟨rfl, rfl, rfl, dT rfl, rfl⟩, .inl rfl, B4, K0, fun _ => rfl, fun g31 => ?_⟩
 simp only [List.length_map]
 (refine xO rfl rfl (by simp) rfl (fun _ => rfl) (fun _ => rfl) ?_; intro g7)
 refine xN [3,4,5,7] [3,4,7] rfl <| A3 <| A3 <| A0 <| y_M rfl <| y_M rfl ?_
 apply xC rfl
 ·apply B0
  ·exact L0 rfl rfl rfl (by (simp; done))
  apply B0
  ·exact Q9 rfl rfl rfl (by (simp; done)) (fun _ => rfl)
  exact C6
 ·exact a5o (sharesT s) ⟨(Q6 s).2, a0d⟩
 refine ⟨⟨rfl, rfl, rfl, dT rfl, rfl⟩, .inr ⟨rfl, rfl⟩, B4, E6 rfl, fun _ => rfl, fun g34 => ?_⟩
 refine N7 rfl <| xN [4,5,35] [4] rfl ?_
 refine A5 rfl (fun hc => absurd hc (by decide)) (fun hc => ?_)
 refine A8 <| A3 <| A0 <| y_S rfl <| xN [4,5,6] [4] rfl <| A3 <| A0 <| y_M rfl <| y_M rfl ?_
 apply xC rfl
 ·apply B0
  ·exact L0 rfl rfl rfl (by simp)
  apply B0
  ·exact B6 rfl
  exact C6
 ·exact c1u (sharesT s) ⟨(Q6 s).2, a0d⟩ 1 (by decide)
 refine ⟨⟨rfl, rfl, rfl, dT rfl, rfl⟩, .inr ⟨rfl, rfl⟩, B4, E6 rfl, fun _ => rfl, fun g38 => ?_⟩
 refine y_S rfl <| xN [5,6] [] rfl <| A3 <| A3 <| A0 <| y_M rfl <| G6 rfl rfl <| xN [5,6,40] [] rfl ?_
 refine A5 rfl (fun hc => ?_) (fun hc => ?_)
 ·try simp only [SD] at hc
  exact absurd hc (by omega)
 try simp only [SL] at hc
 refine A8 <| A3 <| A3 <| A0 <| y_M rfl <| y_M rfl <| Z3 rfl rfl <| xN [43] [] rfl ?_
 refine A5 rfl (fun hc => ?_) (fun hc => ?_)
 ·try simp only [SD] at hc
  exact absurd hc (by simp)
 try simp only [SL] at hc
 refine A8 <| A3 <| A0 <| y_S rfl <| xN [2] [] rfl <| B2 <| C0 rfl rfl trivial ?_
 rfl
end Go.Proofs.YtagllmiiglicfaaGreatDoor
