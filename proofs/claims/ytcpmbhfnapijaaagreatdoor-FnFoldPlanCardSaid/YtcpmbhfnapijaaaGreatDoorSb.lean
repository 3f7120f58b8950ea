/- What each function of the program gives on the abstract machine, part 2 of 2. Conditions: those in front of each theorem. -/
import Derived.Test.YtcpmbhfnapijaaaGreatDoorSa
import Derived.KernelRfl

set_option linter.unusedVariables false
set_option linter.unusedSimpArgs false
namespace Go.Proofs.YtcpmbhfnapijaaaGreatDoor
open Go Go.Mv Go.Proofs
set_option maxRecDepth 100000
set_option maxHeartbeats 20000000
variable {oG : Option Nat} {rG : Nat}

theorem b2s : E7 Tryz.f65 = [0, 1, 2, 6, 9, 7, 19] := by kernel_rfl
theorem c9t (nums : List Int) (hn : nums.length ≤ 1048576) (cols : List (List Int)) : CW (cxT oG) 65 [sV wList, L nums, M cols] = some (.own 1 (nums.map iV), []) := by
 refine E4 rfl Tryz.func65 rfl ⟨by kernel_rfl, rfl, dT rfl, dT rfl, by decide⟩ b2s <| A3 <| A0 ?_
 (refine B1 rfl rfl (fun _ => rfl) ?_; intro g6)
 refine xN [0,1,2] [] rfl <| A3 <| A3 <| A0 <| y_M rfl <| d2u (t := true) rfl rfl (by decide +kernel) <| xN [0,1,2,9] [] rfl ?_
 refine A5 rfl (fun hc => ?_) (fun hc => ?_)
 ·try simp only [SL] at hc
  refine A3 <| A0 <| y_M rfl ?_
  apply xC rfl
  ·apply A8
   ·exact B7 rfl
   exact C3
  ·exact c7m nums hn
  refine ⟨⟨rfl, rfl, rfl, dT rfl, rfl⟩, .inl rfl, B3, M9, fun _ => rfl, fun g11 => ?_⟩
  simp only [List.length_map]
  (refine xO rfl rfl (by simp) rfl (fun _ => rfl) (fun _ => rfl) ?_; intro g6)
  refine xN [6] [6] rfl <| A9 <| R8 rfl rfl (by simp) (by exact A7 fun _ => rfl) trivial ?_
  rfl
 try simp only [SD] at hc
 exact absurd hc (by decide)

theorem b5x : E7 Tryz.f66 = [0, 1, 4, 5, 15, 20, 21, 6, 25, 29, 33, 32, 34, 7, 45, 49, 48, 50, 8, 66, 9, 72, 86, 10, 91, 105, 109, 114, 124, 129, 128, 130, 127, 12, 11, 142, 156, 63] := by kernel_rfl
theorem c3b (op : ByteArray) (h1 : 1 ≤ nd op) (x y : List Int) (hx : vl x = true) (hy : vl y = true) (ls : List (List Int)) (hl1 : 1 ≤ ls.length) (hl2 : nd op = 2 → 2 ≤ ls.length) (hlx : ls.getD 0 default = x) (hly : 2 ≤ ls.length → ls.getD 1 default = y) : CW (cxT oG) 66 [sV op, M ls] = some (.tup [.own 1 (((mkR op x y).getD []).map iV), bV (mkR op x y).isSome], []) := by
 have hx40 := (Q6.1 hx).1
 have hy40 := (Q6.1 hy).1
 have hgx := a0p hx
 have hgy := a0p hy
 have hsx := a3c x
 refine E4 rfl Tryz.func66 rfl ⟨by kernel_rfl, rfl, dT rfl, dT rfl, by decide⟩ b5x <| A3 <| A0 ?_
 (refine B1 rfl rfl (fun _ => rfl) ?_; intro g4)
 refine y_S rfl <| xN [0,1] [] rfl <| A3 <| A0 ?_
 (refine B1 rfl rfl (fun _ => rfl) ?_; intro g6)
 refine xN [0,1,6] [6] rfl <| A3 <| A3 <| A0 <| y_M rfl <| B9 rfl rfl <| N9 rfl rfl <| xN [0,1,6,15] [6] rfl ?_
 refine A5 rfl (fun hc => ?_) (fun hc => ?_)
 ·try simp only [SL] at hc
  refine A0 <| y_M rfl <| B8 rfl rfl rfl (fun _ => rfl) (by (change 0 < _; omega)) <| y_I rfl ?_
  rw [hlx]
  apply xC rfl
  ·apply A8
   ·exact B7 rfl
   exact C3
  ·exact c6y x (by simp only [H2]; omega)
  refine ⟨⟨rfl, rfl, rfl, dT rfl, rfl⟩, .inl rfl, B3, M9, fun _ => rfl, fun g19 => ?_⟩
  simp only [List.length_map]
  (refine xO rfl rfl (by simp) rfl (fun _ => rfl) (fun _ => rfl) ?_; intro g6)
  refine xN [0,1,6] [6] rfl <| c0u <| A3 <| A0 <| y_M rfl <| xN [1,6,20] [6] rfl ?_
  refine d2e (β := List Int × Nat × Nat) [] trivial (fun (z : List Int × Nat × Nat) => match z with | (r, n, g) => [(.h 6, .obj g 0 1 (r.map iV)), (.t 6, .sl 6 g none 0 n)]) (fun (z : List Int × Nat × Nat) => match z with | (r, n, g) => U4 op x y = some r ∧ n = r.length ∧ r.length ≤ 80) ?_ ?_
  ·skip
   refine B0 <| A3 <| A0 <| I4 rfl rfl <| y_S rfl <| xN [1,6,20,21] [6] rfl ?_
   refine A5 rfl ?_ ?_ <;> intro hc <;> try simp only [SL] at hc
   ·try simp at hc
    refine A0 <| y_M rfl ?_
    apply a6s rfl
    ·apply A8
     ·exact c0s rfl rfl (by decide) (by (simp; done)) (a3d fun _ => rfl)
     exact C3
    ·exact d7b x (by simp only [H2]; omega)
    ·exact ⟨rfl, rfl, rfl, dT rfl, rfl⟩
    ·exact .inl rfl
    ·exact G2 rfl (by simp) (b2z _ _) B3
    ·exact K1 rfl
    ·(intro _; exact C1 (B2 (A7 fun _ => rfl)) rfl)
    intro g24
    refine xN [6] [6] rfl ?_
    refine ⟨(_, _, _), ?_, ⟨rfl, rfl, trivial⟩⟩
    exact ⟨(by (simp [U4, *]; done)), (by (simp; done)), (by omega)⟩
   try simp at hc
   refine A3 <| A0 <| I4 rfl rfl <| y_S rfl <| xN [1,6,20,25] [6] rfl ?_
   refine A5 rfl ?_ ?_ <;> intro hc <;> try simp only [SL] at hc
   ·try simp at hc
    refine A0 <| y_M rfl ?_
    obtain ⟨_, _, ⟨rfl, rfl⟩, hRv⟩ := d0i (oG := oG) x (by omega)
    apply a6s rfl
    ·apply A8
     ·exact c0s rfl rfl (by decide) (by (simp; done)) (a3d fun _ => rfl)
     exact C3
    ·exact hRv
    ·exact ⟨rfl, rfl, rfl, dT rfl, rfl⟩
    ·exact .inl rfl
    ·exact G2 rfl (by simp) (b2z _ _) B3
    ·exact K1 rfl
    ·(intro _; exact C1 (B2 (A7 fun _ => rfl)) rfl)
    intro g28
    refine xN [6] [6] rfl ?_
    refine ⟨(_, _, _), ?_, ⟨rfl, rfl, trivial⟩⟩
    exact ⟨(by (simp [U4, *]; done)), (by (simp; done)), (by (simp; omega))⟩
   try simp at hc
   refine A3 <| A0 <| I4 rfl rfl <| y_S rfl <| xN [1,6,20,29] [6] rfl ?_
   refine A5 rfl ?_ ?_ <;> intro hc <;> try simp only [SL] at hc
   ·try simp at hc
    refine A3 <| A0 <| y_M rfl <| M3 rfl rfl <| y_M rfl <| xN [6,32,33] [6] rfl <| B0 <| F5 (β := Nat × List Int) [(.t 6, _), (.t 32, _)] (fun (z : Nat × List Int) => match z with | (i, l) => [(.t 33, iV i), (.h 6, .obj g6 0 1 (l.map iV))]) (fun (z : Nat × List Int) => match z with | (i, l) => i ≤ x.length ∧ T6 x.length (fun i => -(H4 x i)) (H4 x) i l) (fun (z : Nat × List Int) => match z with | (i, l) => x.length - i) (0, x) ⟨rfl, rfl, rfl, rfl, trivial⟩ ⟨Nat.zero_le _, T6.start x _⟩ ?_
    intro z hb
    obtain ⟨i, l⟩ := z
    try dsimp only at hb
    obtain ⟨hi1, hf⟩ := hb
    have hfl := hf.1
    have hfa := fun h : i < x.length => hf.at h
    have hgi := hgx i
    have hgyi : -100000 ≤ y.getD i default ∧ y.getD i default ≤ 100000 := hgy i
    refine A3 <| A0 <| F8 rfl rfl <| xN [6,32,33,34] [6] rfl <| A3 ?_
    refine A5 rfl ?_ ?_ <;> intro hc <;> try simp only [SL] at hc
    ·refine A6 <| A3 <| B0 <| A3 <| A0 <| y_M rfl <| y_S rfl <| xN [6,7,32,33] [6] rfl <| A0 <| y_M rfl <| y_M rfl <| y_M rfl <| y_M rfl <| F0 rfl rfl rfl rfl (by omega) (by (simp; omega)) rfl <| H7 rfl rfl (by omega) (fun _ => rfl) (fun _ => rfl) rfl <| b7o rfl (C4 (by omega)) <| F0 rfl rfl rfl rfl (by omega) (by (simp; omega)) rfl <| M0 rfl rfl rfl (by omega) (fun _ _ => ⟨rfl, rfl, dT rfl, dT rfl, rfl, rfl⟩) (by decide) (by exact B2 (A7 fun _ => rfl)) <| xN [6,32,33] [6] rfl <| A0 <| E6 rfl rfl (C4 (by omega)) <| y_M rfl <| xN [6,32,33] [6] rfl ?_
     refine ⟨(i + 1, l.set i (-(l.getD i default))), ?_, (by simp only; omega), ⟨rfl, rfl, rfl, rfl, trivial⟩⟩
     exact ⟨by omega, hf.step (by omega) (by rw [hfa (by omega)]; done)⟩
    refine D8 ?_
    refine ⟨(_, _, _), ?_, ⟨rfl, rfl, trivial⟩⟩
    exact ⟨by rw [(hf.fin (by omega)).trans (a7i x fun v => -v)]; simp [U4, *], by omega, by omega⟩
   try simp at hc
   refine A3 <| A0 <| I4 rfl rfl <| y_S rfl <| xN [1,6,20,45] [6] rfl ?_
   refine A5 rfl ?_ ?_ <;> intro hc <;> try simp only [SL] at hc
   ·try simp at hc
    refine A3 <| A0 <| y_M rfl <| M3 rfl rfl <| y_M rfl <| xN [6,48,49] [6] rfl <| B0 <| F5 (β := Nat × List Int) [(.t 6, _), (.t 48, _)] (fun (z : Nat × List Int) => match z with | (i, l) => [(.t 49, iV i), (.h 6, .obj g6 0 1 (l.map iV))]) (fun (z : Nat × List Int) => match z with | (i, l) => i ≤ x.length ∧ T6 x.length (fun i => max (H4 x i) (-(H4 x i))) (H4 x) i l) (fun (z : Nat × List Int) => match z with | (i, l) => x.length - i) (0, x) ⟨rfl, rfl, rfl, rfl, trivial⟩ ⟨Nat.zero_le _, T6.start x _⟩ ?_
    intro z hb
    obtain ⟨i, l⟩ := z
    try dsimp only at hb
    obtain ⟨hi1, hf⟩ := hb
    have hfl := hf.1
    have hfa := fun h : i < x.length => hf.at h
    have hgi := hgx i
    have hgyi : -100000 ≤ y.getD i default ∧ y.getD i default ≤ 100000 := hgy i
    refine A3 <| A0 <| F8 rfl rfl <| xN [6,48,49,50] [6] rfl <| A3 ?_
    refine A5 rfl ?_ ?_ <;> intro hc <;> try simp only [SL] at hc
    ·refine A6 <| A3 <| B0 <| A3 <| A0 <| y_M rfl <| y_S rfl <| xN [6,8,48,49] [6] rfl <| A0 <| y_M rfl <| y_M rfl <| y_M rfl <| y_M rfl <| F0 rfl rfl rfl rfl (by omega) (by (simp; omega)) rfl <| H7 rfl rfl (by omega) (fun _ => rfl) (fun _ => rfl) rfl <| y_M rfl <| y_M rfl <| F0 rfl rfl rfl rfl (by omega) (by (simp; omega)) rfl <| H7 rfl rfl (by omega) (fun _ => rfl) (fun _ => rfl) rfl <| b7o rfl (C4 (by omega)) <| d5z rfl rfl <| F0 rfl rfl rfl rfl (by omega) (by (simp; omega)) rfl <| M0 rfl rfl rfl (by omega) (fun _ _ => ⟨rfl, rfl, dT rfl, dT rfl, rfl, rfl⟩) (by decide) (by exact B2 (A7 fun _ => rfl)) ?_
     refine J7 ⟨fun _ => ⟨by decide +kernel, by decide +kernel⟩, [(.t 6, _), (.t 48, _), (.t 49, _), (.h 6, _)], ⟨rfl, rfl, rfl, rfl, rfl, rfl, rfl, rfl, trivial⟩, ?_⟩
     refine A0 <| E6 rfl rfl (C4 (by omega)) <| y_M rfl <| xN [6,48,49] [6] rfl ?_
     refine ⟨(i + 1, l.set i (max (l.getD i default) (-(l.getD i default)))), ?_, (by simp only; omega), ⟨rfl, rfl, rfl, rfl, trivial⟩⟩
     exact ⟨by omega, hf.step (by omega) (by rw [hfa (by omega)]; done)⟩
    refine D8 ?_
    refine ⟨(_, _, _), ?_, ⟨rfl, rfl, trivial⟩⟩
    exact ⟨by rw [(hf.fin (by omega)).trans (a7i x fun v => max v (-v))]; simp [U4, *], by omega, by omega⟩
   try simp at hc
   refine A3 <| A0 <| I4 rfl rfl <| y_S rfl <| xN [1,6,20,66] [6] rfl ?_
   refine A5 rfl ?_ ?_ <;> intro hc <;> try simp only [SL] at hc
   ·try simp at hc
    refine A3 <| A0 <| y_M rfl <| M3 rfl rfl <| P5 rfl rfl (C4 (by omega)) <| y_S rfl <| xN [6,9] [6] rfl <| B0 <| F5 (β := Nat × List Int) [(.t 6, _)] (fun (z : Nat × List Int) => match z with | (k, l) => [(.t 9, iV ((k : Int) - 1)), (.h 6, .obj g6 0 1 (l.map iV))]) (fun (z : Nat × List Int) => match z with | (k, l) => k ≤ x.length ∧ a3s x (k - 1) l) (fun (z : Nat × List Int) => match z with | (k, l) => k) (x.length, x) ⟨rfl, rfl, rfl, trivial⟩ ⟨Nat.le_refl _, a3s.start x⟩ ?_
    intro z hb
    obtain ⟨k, l⟩ := z
    try dsimp only at hb
    obtain ⟨hk1, hd⟩ := hb
    have hdl := hd.1
    refine A3 <| A3 <| A0 <| y_M rfl <| N9 rfl rfl <| xN [6,9,72] [6] rfl ?_
    refine A5 rfl ?_ ?_ <;> intro hc <;> try simp only [SL] at hc
    ·refine A6 <| A3 <| B0 <| A0 <| y_M rfl <| y_M rfl ?_
     rw [show ((k : Int) - 1) = ((k - 1 : Nat) : Int) by omega]
     refine F0 rfl rfl rfl rfl (by omega) (by (simp; omega)) rfl <| H7 rfl rfl (by omega) (fun _ => rfl) (fun _ => rfl) rfl <| y_M rfl <| y_M rfl <| P5 rfl rfl (C4 (by omega)) ?_
     rw [show ((k - 1 : Nat) : Int) - 1 = ((k - 1 - 1 : Nat) : Int) by omega]
     refine F0 rfl rfl rfl rfl (by omega) (by (simp; omega)) rfl <| H7 rfl rfl (by omega) (fun _ => rfl) (fun _ => rfl) rfl ?_
     have hd1 := hd.val (k - 1)
     have hd2 := hd.val (k - 1 - 1)
     have hg1 := hgx (k - 1)
     have hg2 := hgx (k - 1 - 1)
     have hg3 := hgx (k - 1 - 1 - 1)
     refine P5 rfl rfl (C4 (by omega)) <| F0 rfl rfl rfl rfl (by omega) (by (simp; omega)) rfl <| M0 rfl rfl rfl (by omega) (fun _ _ => ⟨rfl, rfl, dT rfl, dT rfl, rfl, rfl⟩) (by decide) (by exact B2 (A7 fun _ => rfl)) ?_
     refine J7 ⟨fun _ => ⟨by decide +kernel, by decide +kernel⟩, [(.t 6, _), (.t 9, _), (.h 6, _)], ⟨rfl, rfl, rfl, rfl, rfl, rfl, trivial⟩, ?_⟩
     refine A0 <| y_M rfl <| P5 rfl rfl (C4 (by omega)) <| y_S rfl <| xN [6,9] [6] rfl ?_
     refine ⟨(k - 1, _), ?_, (by simp only; omega), ⟨rfl, rfl, rfl, trivial⟩⟩
     exact ⟨by omega, hd.step (by omega) (by omega)⟩
    refine D8 ?_
    refine ⟨(_, _, _), ?_, ⟨rfl, rfl, trivial⟩⟩
    exact ⟨by rw [show l = dfI x from a3s.fin ((show k - 1 = 0 by omega) ▸ hd)]; simp [U4, *], by omega, by omega⟩
   try simp at hc
   refine A3 <| A0 <| I4 rfl rfl <| y_S rfl <| xN [1,6,20,86] [6] rfl ?_
   refine A5 rfl ?_ ?_ <;> intro hc <;> try simp only [SL] at hc
   ·try simp at hc
    refine A3 <| A0 <| y_S rfl <| xN [6,10] [6] rfl <| B0 <| F5 (β := Nat × List Int) [(.t 6, _)] (fun (z : Nat × List Int) => match z with | (i, l) => [(.t 10, iV i), (.h 6, .obj g6 0 1 (l.map iV))]) (fun (z : Nat × List Int) => match z with | (i, l) => 1 ≤ i ∧ T6 x.length (fun i => prS (H4 x) (i + 1)) (H4 x) i l) (fun (z : Nat × List Int) => match z with | (i, l) => x.length - i) (1, x) ⟨rfl, rfl, rfl, trivial⟩ ⟨Nat.le_refl _, T6.start1 x⟩ ?_
    intro z hb
    obtain ⟨i, l⟩ := z
    try dsimp only at hb
    obtain ⟨hi1, hf⟩ := hb
    have hfl := hf.1
    have hfa := fun h : i < x.length => hf.at h
    have hgi := hgx i
    refine A3 <| A3 <| A0 <| y_M rfl <| y_M rfl <| M3 rfl rfl <| F8 rfl rfl <| xN [6,10,91] [6] rfl ?_
    refine A5 rfl ?_ ?_ <;> intro hc <;> try simp only [SL] at hc
    ·refine A6 <| A3 <| B0 <| A0 <| y_M rfl <| y_M rfl <| F0 rfl rfl rfl rfl (by omega) (by (simp; omega)) rfl <| H7 rfl rfl (by omega) (fun _ => rfl) (fun _ => rfl) rfl <| y_M rfl <| y_M rfl <| P5 rfl rfl (C4 (by omega)) ?_
     rw [show ((i : Int) - 1) = ((i - 1 : Nat) : Int) by omega]
     refine F0 rfl rfl rfl rfl (by omega) (by (simp; omega)) rfl <| H7 rfl rfl (by omega) (fun _ => rfl) (fun _ => rfl) rfl ?_
     have hfb := hf.before (j := i - 1) (by omega) (by omega)
     have hsb := c2c hx (i - 1 + 1)
     refine E6 rfl rfl (C4 (by omega)) <| F0 rfl rfl rfl rfl (by omega) (by (simp; omega)) rfl <| M0 rfl rfl rfl (by omega) (fun _ _ => ⟨rfl, rfl, dT rfl, dT rfl, rfl, rfl⟩) (by decide) (by exact B2 (A7 fun _ => rfl)) ?_
     refine J7 ⟨fun _ => ⟨by decide +kernel, by decide +kernel⟩, [(.t 6, _), (.t 10, _), (.h 6, _)], ⟨rfl, rfl, rfl, rfl, rfl, rfl, trivial⟩, ?_⟩
     refine A0 <| y_M rfl <| E6 rfl rfl (C4 (by omega)) <| y_S rfl <| xN [6,10] [6] rfl ?_
     refine ⟨(i + 1, l.set i (l.getD i default + l.getD (i - 1) default)), ?_, (by simp only; omega), ⟨rfl, rfl, rfl, trivial⟩⟩
     have hfb2 := hf.before (j := i - 1) (by omega) (by omega)
     rw [show i - 1 + 1 = i by omega] at hfb2
     exact ⟨by omega, hf.step (by omega) (by rw [hfa (by omega), hfb2, Int.add_comm]; rfl)⟩
    refine D8 ?_
    refine ⟨(_, _, _), ?_, ⟨rfl, rfl, trivial⟩⟩
    exact ⟨by rw [show l = smI x from hf.fin (by omega)]; simp [U4, *], by omega, by omega⟩
   try simp at hc
   refine A3 <| A0 <| I4 rfl rfl <| y_S rfl <| xN [1,6,20,105] [6] rfl ?_
   refine A5 rfl ?_ ?_ <;> intro hc <;> try simp only [SL] at hc
   ·try simp at hc
    refine A0 <| y_M rfl ?_
    apply xC rfl
    ·apply A8
     ·exact H3 rfl rfl rfl (by (simp; done)) (fun _ => rfl)
     exact C3
    ·exact d1v x hx
    refine ⟨⟨rfl, rfl, rfl, dT rfl, rfl⟩, .inr ⟨b6s fun _ => rfl, rfl⟩, B3, M9, fun _ => rfl, fun g108 => ?_⟩
    simp only [List.length_map]
    (refine xO rfl rfl (by simp) rfl (fun _ => rfl) (fun _ => rfl) ?_; intro g6)
    refine xN [6] [6] rfl ?_
    refine ⟨(_, _, _), ?_, ⟨rfl, rfl, trivial⟩⟩
    exact ⟨(by (simp [U4, rkI, *]; done)), (by (simp [dfI, smI, rkI, adI]; done)), (by (simp; omega))⟩
   try simp at hc
   refine A3 <| A0 <| I4 rfl rfl <| y_S rfl <| xN [1,6,20,109] [6] rfl ?_
   refine A5 rfl ?_ ?_ <;> intro hc <;> try simp only [SL] at hc
   ·try simp at hc
    refine A0 <| y_M rfl ?_
    apply xC rfl
    ·apply A8
     ·exact H3 rfl rfl rfl (by (simp; done)) (fun _ => rfl)
     exact C3
    ·exact d7i x hx
    refine ⟨⟨rfl, rfl, rfl, dT rfl, rfl⟩, .inr ⟨rfl, rfl⟩, B3, C6 rfl, fun _ => rfl, fun g112 => ?_⟩
    refine B6 (es := List.map iV [_]) rfl rfl (dT rfl) rfl rfl (fun _ => B2 (A7 fun _ => rfl)) (fun _ => rfl) ?_
    intro g113
    (refine xO rfl rfl (by simp) rfl (fun _ => rfl) (fun _ => rfl) ?_; intro g6)
    refine xN [6] [6] rfl ?_
    refine ⟨(_, _, _), ?_, ⟨rfl, rfl, trivial⟩⟩
    exact ⟨(by (simp [U4, *]; done)), (by (simp; done)), (by (simp; done))⟩
   try simp at hc
   refine A3 <| A0 <| I4 rfl rfl <| y_S rfl <| xN [1,6,20,114] [6] rfl ?_
   refine A5 rfl ?_ ?_ <;> intro hc <;> try simp only [SL] at hc
   ·try simp at hc
    have h2l := hl2 (d1y (.inl hc))
    refine A3 <| A3 <| A0 <| y_M rfl <| B8 rfl rfl rfl (fun _ => rfl) (by (change 0 < _; omega)) <| y_I rfl ?_
    rw [hlx]
    refine B9 rfl rfl <| y_M rfl <| B8 rfl rfl rfl (fun _ => rfl) (by (simp; omega)) <| y_I rfl ?_
    rw [hly h2l]
    refine B9 rfl rfl <| b7n rfl rfl ?_
    refine J7 ⟨fun _ => ⟨by decide +kernel, by decide +kernel⟩, [(.t 1, _), (.t 6, _), (.t 124, _), (.h 6, _)], ⟨rfl, rfl, rfl, rfl, rfl, rfl, rfl, rfl, trivial⟩, ?_⟩
    refine A5 rfl ?_ ?_ <;> intro hc <;> try simp only [SL] at hc
    ·refine A3 <| A0 ?_
     (refine B1 rfl rfl (fun _ => rfl) ?_; intro g4)
     refine y_S rfl <| xN [4,5] [4] rfl <| A9 <| C2 (G0 rfl rfl (by simp) (by rfl) (D5 rfl rfl (C7 B5))) ?_
     have hne : ¬ x.length = y.length := by omega
     rw [show mkR op x y = none from by simp [mkR, U4, *]]
     rfl
    refine A6 <| A3 <| A0 <| y_M rfl <| B8 rfl rfl rfl (fun _ => rfl) (by (simp; omega)) <| y_I rfl ?_
    rw [hly h2l]
    refine B9 rfl rfl <| y_M rfl <| xN [6,127,128,129] [6] rfl <| B0 <| F5 (β := Nat × List Int) [(.t 6, _), (.t 127, _), (.t 128, _)] (fun (z : Nat × List Int) => match z with | (i, l) => [(.t 129, iV i), (.h 6, .obj g6 0 1 (l.map iV))]) (fun (z : Nat × List Int) => match z with | (i, l) => i ≤ x.length ∧ T6 x.length (fun i => H4 x i + H4 y i) (H4 x) i l) (fun (z : Nat × List Int) => match z with | (i, l) => x.length - i) (0, x) ⟨rfl, rfl, rfl, rfl, rfl, trivial⟩ ⟨Nat.zero_le _, T6.start x _⟩ ?_
    intro z hb
    obtain ⟨i, l⟩ := z
    try dsimp only at hb
    obtain ⟨hi1, hf⟩ := hb
    have hfl := hf.1
    have hfa := fun h : i < x.length => hf.at h
    have hgi := hgx i
    have hgyi : -100000 ≤ y.getD i default ∧ y.getD i default ≤ 100000 := hgy i
    refine A3 <| A0 <| F8 rfl rfl <| xN [6,127,128,129,130] [6] rfl <| A3 ?_
    refine A5 rfl ?_ ?_ <;> intro hc <;> try simp only [SL] at hc
    ·refine A6 <| A3 <| B0 <| A3 <| A0 <| y_M rfl <| B8 rfl rfl rfl (fun _ => rfl) (by omega) <| y_I rfl <| y_S rfl <| y_S rfl <| xN [6,11,12,127,128,129] [6] rfl <| A0 <| y_M rfl <| y_M rfl <| F0 rfl rfl rfl rfl (by omega) (by (simp; omega)) rfl <| H7 rfl rfl (by omega) (fun _ => rfl) (fun _ => rfl) rfl <| y_M rfl <| E6 rfl rfl (C4 (by omega)) <| F0 rfl rfl rfl rfl (by omega) (by (simp; omega)) rfl <| M0 rfl rfl rfl (by omega) (fun _ _ => ⟨rfl, rfl, dT rfl, dT rfl, rfl, rfl⟩) (by decide) (by exact B2 (A7 fun _ => rfl)) <| xN [6,127,128,129] [6] rfl <| A0 <| E6 rfl rfl (C4 (by omega)) <| y_M rfl <| xN [6,127,128,129] [6] rfl ?_
     refine ⟨(i + 1, l.set i (l.getD i default + y.getD i default)), ?_, (by simp only; omega), ⟨rfl, rfl, rfl, rfl, rfl, trivial⟩⟩
     exact ⟨by omega, hf.step (by omega) (by rw [hfa (by omega)]; rfl)⟩
    refine D8 ?_
    refine ⟨(_, _, _), ?_, ⟨rfl, rfl, trivial⟩⟩
    exact ⟨adF (by assumption) (by omega) (hf.fin (by omega)) rfl, by omega, by omega⟩
   try simp at hc
   refine A3 <| A0 <| I4 rfl rfl <| y_S rfl <| xN [1,6,142] [6] rfl ?_
   refine A5 rfl ?_ ?_ <;> intro hc <;> try simp only [SL] at hc
   ·try simp at hc
    have h2l := hl2 (d1y (.inr hc))
    refine A0 <| y_M rfl <| y_M rfl <| B8 rfl rfl rfl (fun _ => rfl) (by (simp; omega)) <| y_I rfl ?_
    rw [hly h2l]
    refine a1g rfl rfl rfl (by (simp; done)) rfl rfl rfl (dT rfl) (fun _ => ⟨rfl, rfl, rfl⟩) (by simp only [H2]; omega) (fun _ => rfl) ?_
    intro g148
    (refine xO rfl rfl (by simp) rfl (fun _ => rfl) (fun _ => rfl) ?_; intro g6)
    refine xN [6] [6] rfl ?_
    refine ⟨(_, _, _), ?_, ⟨rfl, rfl, trivial⟩⟩
    exact ⟨(by (simp [U4, *]; done)), (by (simp; done)), (by (simp; omega))⟩
   try simp at hc
   refine A6 ?_
   refine ⟨(_, _, _), ?_, ⟨rfl, rfl, trivial⟩⟩
   exact ⟨(by (simp [U4, *]; done)), (by (simp; done)), (by omega)⟩
  intro z hb
  obtain ⟨r, n, g⟩ := z
  try dsimp only at hb
  obtain ⟨hraw, hn, hr80⟩ := hb
  subst hn
  refine A3 <| A3 <| A0 <| y_M rfl <| M3 rfl rfl <| N9 rfl rfl <| y_M rfl ?_
  refine C5 rfl rfl ?_ ?_ <;> intro hg0 <;> have hg := hg0 <;> try simp only [SG] at hg
  ·refine y_M rfl <| gT rfl rfl ?_
   apply xC rfl
   ·apply A8
    ·exact H3 rfl rfl rfl (by (simp; done)) (fun _ => rfl)
    apply A8
    ·exact B7 rfl
    apply A8
    ·exact B7 rfl
    exact C3
   ·exact c7f r (by omega) (-100000) 100000
   refine ⟨⟨rfl, rfl, rfl, dT rfl, rfl⟩, .inr ⟨rfl, rfl⟩, B3, C6 rfl, fun _ => rfl, fun g154 => ?_⟩
   refine gT rfl rfl <| J9 rfl <| F7 rfl (by assumption) rfl rfl <| xN [6,156] [6] rfl ?_
   refine A5 rfl ?_ ?_ <;> intro hc <;> try simp only [SL] at hc
   ·refine A3 <| A0 ?_
    (refine B1 rfl rfl (fun _ => rfl) ?_; intro g4)
    refine y_S rfl <| xN [4,5] [4] rfl <| A9 <| C2 (G0 rfl rfl (by simp) (by rfl) (D5 rfl rfl (C7 B5))) ?_
    rw [mkR, hraw, Option.bind_some, if_neg (by rw [Q6]; simp_all; try omega)]
    rfl
   refine A6 <| A3 <| A0 <| y_M rfl ?_
   apply xC rfl
   ·apply A8
    ·exact c7n rfl rfl (by (simp; done)) (A7 fun _ => rfl)
    exact C3
   ·exact c7x r (by simp only [H2]; omega)
   refine ⟨⟨rfl, rfl, rfl, dT rfl, rfl⟩, .inl rfl, B3, M9, fun _ => rfl, fun g158 => ?_⟩
   simp only [List.length_map]
   (refine xO rfl rfl (by simp) rfl (fun _ => rfl) (fun _ => rfl) ?_; intro g4)
   refine y_S rfl <| xN [4,5] [4] rfl <| A9 <| C2 (G0 rfl rfl (by simp) (by exact A7 fun _ => rfl) (D5 rfl rfl (C7 B5))) ?_
   rw [mkR, hraw, Option.bind_some, if_pos (Q6.2 ⟨by omega, by simp_all⟩)]
   rfl
  refine gF rfl rfl <| gF rfl rfl <| E8 rfl (by assumption) rfl rfl <| xN [6,156] [6] rfl ?_
  refine A5 rfl (fun hc => ?_) (fun hc => absurd hc (by decide))
  refine A3 <| A0 ?_
  (refine B1 rfl rfl (fun _ => rfl) ?_; intro g4)
  refine y_S rfl <| xN [4,5] [4] rfl <| A9 <| C2 (G0 rfl rfl (by simp) (by rfl) (D5 rfl rfl (C7 B5))) ?_
  rw [mkR, hraw, Option.bind_some, if_neg (by rw [Q6]; simp_all; try omega)]
  rfl
 try simp only [SD] at hc
 omega

theorem b9l : E7 Tryz.f88 = [0, 1, 2, 6, 7, 16, 17, 21, 25, 9, 30, 8, 41, 10, 46, 62, 11, 67, 71, 91, 13, 96, 12, 109, 113, 120, 126, 14, 130, 145] := by kernel_rfl
theorem c7o (op : ByteArray) (h1 : 1 ≤ nd op) (x y : List Int) (hx : vl x = true) (hy : vl y = true) : CW (cxT oG) 88 [sV op, L x, L y] = some (.tup [.own 1 ((raR op x y).map iV), bV (mkR op x y).isSome], []) := by
 have hx40 := (Q6.1 hx).1
 have hy40 := (Q6.1 hy).1
 have hgx := a0p hx
 have hgy := a0p hy
 have hsx := a3c x
 refine E4 rfl Tryz.func88 rfl ⟨by kernel_rfl, rfl, dT rfl, dT rfl, by decide⟩ b9l <| A3 <| A0 ?_
 (refine B1 rfl rfl (fun _ => rfl) ?_; intro g6)
 refine y_S rfl <| xN [0,1,2] [] rfl <| A3 <| A0 <| B6 (es := List.map iV []) rfl rfl (dT rfl) rfl rfl (fun _ => B2 (A7 fun _ => rfl)) (fun _ => rfl) ?_
 intro g15
 (refine xO rfl rfl (by simp) rfl (fun _ => rfl) (fun _ => rfl) ?_; intro g8)
 refine xN [0,1,2,8] [8] rfl <| c0u <| A3 <| A0 <| y_M rfl <| xN [1,2,8,16] [8] rfl ?_
 refine d2e (β := List Int × Nat × Nat) [] trivial (fun (z : List Int × Nat × Nat) => match z with | (r, n, g) => [(.h 8, .obj g 0 1 (r.map iV)), (.t 8, .sl 8 g none 0 n)]) (fun (z : List Int × Nat × Nat) => match z with | (r, n, g) => U4 op x y = some r ∧ n = r.length ∧ r.length ≤ 80) ?_ ?_
 ·skip
  refine B0 <| A3 <| A0 <| I4 rfl rfl <| y_S rfl <| xN [1,2,8,16,17] [8] rfl ?_
  refine A5 rfl ?_ ?_ <;> intro hc <;> try simp only [SL] at hc
  ·try simp at hc
   refine A0 <| y_M rfl ?_
   apply xC rfl
   ·apply A8
    ·exact B7 rfl
    exact C3
   ·exact d0j x (by omega)
   refine ⟨⟨rfl, rfl, rfl, dT rfl, rfl⟩, .inl rfl, B3, M9, fun _ => rfl, fun g20 => ?_⟩
   simp only [List.length_map]
   (refine xO rfl rfl (by simp) rfl (fun _ => rfl) (fun _ => rfl) ?_; intro g8)
   refine xN [8] [8] rfl ?_
   refine ⟨(_, _, _), ?_, ⟨rfl, rfl, trivial⟩⟩
   exact ⟨(by (simp [U4, *]; done)), (by (simp; done)), (by (simp; omega))⟩
  try simp at hc
  refine A3 <| A0 <| I4 rfl rfl <| y_S rfl <| xN [1,2,8,16,21] [8] rfl ?_
  refine A5 rfl ?_ ?_ <;> intro hc <;> try simp only [SL] at hc
  ·try simp at hc
   refine A0 <| y_M rfl ?_
   apply xC rfl
   ·apply A8
    ·exact B7 rfl
    exact C3
   ·exact c9x x (by omega)
   refine ⟨⟨rfl, rfl, rfl, dT rfl, rfl⟩, .inl rfl, B3, M9, fun _ => rfl, fun g24 => ?_⟩
   simp only [List.length_map]
   (refine xO rfl rfl (by simp) rfl (fun _ => rfl) (fun _ => rfl) ?_; intro g8)
   refine xN [8] [8] rfl ?_
   refine ⟨(_, _, _), ?_, ⟨rfl, rfl, trivial⟩⟩
   exact ⟨(by (simp [U4, *]; done)), (by (simp; done)), (by (simp; omega))⟩
  try simp at hc
  refine A3 <| A0 <| I4 rfl rfl <| y_S rfl <| xN [1,2,8,16,25] [8] rfl ?_
  refine A5 rfl ?_ ?_ <;> intro hc <;> try simp only [SL] at hc
  ·try simp at hc
   refine A3 <| A0 <| y_S rfl <| xN [1,8,9] [8] rfl <| B0 <| F5 (β := Nat × List Int × Nat) [(.t 1, _)] (fun (z : Nat × List Int × Nat) => match z with | (i, l, g) => [(.t 9, iV i), (.h 8, .obj g 0 1 (l.map iV)), (.t 8, .sl 8 g none 0 l.length)]) (fun (z : Nat × List Int × Nat) => match z with | (i, l, g) => i ≤ x.length ∧ l = (List.range i).map (fun i => -(H4 x i))) (fun (z : Nat × List Int × Nat) => match z with | (i, l, g) => x.length - i) (0, [], _) ⟨rfl, rfl, rfl, rfl, trivial⟩ ⟨Nat.zero_le _, rfl⟩ ?_
   intro z hb
   obtain ⟨i, l, g⟩ := z
   try dsimp only at hb
   obtain ⟨hi1, hl⟩ := hb
   have hll : l.length = i := by rw [hl]; simp
   have hgi : -100000 ≤ x.getD i default ∧ x.getD i default ≤ 100000 := hgx i
   have hgyi : -100000 ≤ y.getD i default ∧ y.getD i default ≤ 100000 := hgy i
   refine A3 <| A3 <| A0 <| y_M rfl <| y_M rfl <| B9 rfl rfl <| F8 rfl rfl <| xN [1,8,9,30] [8] rfl ?_
   refine A5 rfl ?_ ?_ <;> intro hc <;> try simp only [SL] at hc
   ·refine A6 <| A3 <| B0 <| A0 <| y_M rfl <| y_M rfl <| y_M rfl <| B8 rfl rfl rfl (fun _ => rfl) (by omega) <| y_I rfl <| b7o rfl (C4 (by omega)) <| B6 (es := List.map iV [_]) rfl rfl (dT rfl) rfl rfl (fun _ => B2 (A7 fun _ => rfl)) (fun _ => rfl) ?_
    intro g39
    refine xA rfl rfl rfl rfl (by simp) (by simp) rfl rfl rfl rfl rfl (fun _ => rfl) (by simp only [LN]; omega) (fun _ => rfl) ?_
    intro g40
    (refine xO rfl rfl (by simp) rfl (fun _ => rfl) (fun _ => rfl) ?_; intro g8)
    refine xN [1,8,9] [8] rfl <| A0 <| y_M rfl <| E6 rfl rfl (C4 (by omega)) <| y_S rfl <| xN [1,8,9] [8] rfl ?_
    refine ⟨(i + 1, l ++ [-(x.getD i default)], _), ?_, (by simp only; omega), ⟨rfl, rfl, rfl, rfl, trivial⟩⟩
    exact ⟨by omega, by rw [hl, V1]; rfl⟩
   refine D8 ?_
   refine ⟨(_, _, _), ?_, ⟨rfl, rfl, trivial⟩⟩
   exact ⟨apF (show l = x.map (fun v => -v) by rw [hl, show i = x.length by omega]; exact a7i x fun v => -v) (by simp [U4, *]), by omega, by omega⟩
  try simp at hc
  refine A3 <| A0 <| I4 rfl rfl <| y_S rfl <| xN [1,2,8,16,41] [8] rfl ?_
  refine A5 rfl ?_ ?_ <;> intro hc <;> try simp only [SL] at hc
  ·try simp at hc
   refine A3 <| A0 <| y_S rfl <| xN [1,8,10] [8] rfl <| B0 <| F5 (β := Nat × List Int × Nat) [(.t 1, _)] (fun (z : Nat × List Int × Nat) => match z with | (i, l, g) => [(.t 10, iV i), (.h 8, .obj g 0 1 (l.map iV)), (.t 8, .sl 8 g none 0 l.length)]) (fun (z : Nat × List Int × Nat) => match z with | (i, l, g) => i ≤ x.length ∧ l = (List.range i).map (fun i => max (H4 x i) (-(H4 x i)))) (fun (z : Nat × List Int × Nat) => match z with | (i, l, g) => x.length - i) (0, [], _) ⟨rfl, rfl, rfl, rfl, trivial⟩ ⟨Nat.zero_le _, rfl⟩ ?_
   intro z hb
   obtain ⟨i, l, g⟩ := z
   try dsimp only at hb
   obtain ⟨hi1, hl⟩ := hb
   have hll : l.length = i := by rw [hl]; simp
   have hgi : -100000 ≤ x.getD i default ∧ x.getD i default ≤ 100000 := hgx i
   have hgyi : -100000 ≤ y.getD i default ∧ y.getD i default ≤ 100000 := hgy i
   refine A3 <| A3 <| A0 <| y_M rfl <| y_M rfl <| B9 rfl rfl <| F8 rfl rfl <| xN [1,8,10,46] [8] rfl ?_
   refine A5 rfl ?_ ?_ <;> intro hc <;> try simp only [SL] at hc
   ·refine A6 <| A3 <| B0 <| A0 <| y_M rfl <| y_M rfl <| y_M rfl <| B8 rfl rfl rfl (fun _ => rfl) (by omega) <| y_I rfl <| y_M rfl <| y_M rfl <| B8 rfl rfl rfl (fun _ => rfl) (by omega) <| y_I rfl <| b7o rfl (C4 (by omega)) <| d5z rfl rfl <| B6 (es := List.map iV [_]) rfl rfl (dT rfl) rfl rfl (fun _ => B2 (A7 fun _ => rfl)) (fun _ => rfl) ?_
    intro g60
    refine xA rfl rfl rfl rfl (by simp) (by simp) rfl rfl rfl rfl rfl (fun _ => rfl) (by simp only [LN]; omega) (fun _ => rfl) ?_
    intro g61
    (refine xO rfl rfl (by simp) rfl (fun _ => rfl) (fun _ => rfl) ?_; intro g8)
    refine J7 ⟨fun _ => ⟨by decide +kernel, by decide +kernel⟩, [(.t 1, _), (.t 8, _), (.t 10, _), (.h 8, _)], ⟨rfl, rfl, rfl, rfl, rfl, rfl, rfl, rfl, trivial⟩, ?_⟩
    refine A0 <| y_M rfl <| E6 rfl rfl (C4 (by omega)) <| y_S rfl <| xN [1,8,10] [8] rfl ?_
    refine ⟨(i + 1, l ++ [max (x.getD i default) (-(x.getD i default))], _), ?_, (by simp only; omega), ⟨rfl, rfl, rfl, rfl, trivial⟩⟩
    exact ⟨by omega, by rw [hl, V1]; rfl⟩
   refine D8 ?_
   refine ⟨(_, _, _), ?_, ⟨rfl, rfl, trivial⟩⟩
   exact ⟨apF (show l = x.map (fun v => max v (-v)) by rw [hl, show i = x.length by omega]; exact a7i x fun v => max v (-v)) (by simp [U4, *]), by omega, by omega⟩
  try simp at hc
  refine A3 <| A0 <| I4 rfl rfl <| y_S rfl <| xN [1,2,8,16,62] [8] rfl ?_
  refine A5 rfl ?_ ?_ <;> intro hc <;> try simp only [SL] at hc
  ·try simp at hc
   refine A3 <| A0 <| y_S rfl <| xN [1,8,11] [8] rfl <| B0 <| F5 (β := Nat × List Int × Nat) [(.t 1, _)] (fun (z : Nat × List Int × Nat) => match z with | (i, l, g) => [(.t 11, iV i), (.h 8, .obj g 0 1 (l.map iV)), (.t 8, .sl 8 g none 0 l.length)]) (fun (z : Nat × List Int × Nat) => match z with | (i, l, g) => i ≤ x.length ∧ l = (List.range i).map (fun i => if i = 0 then H4 x 0 else H4 x i - H4 x (i - 1))) (fun (z : Nat × List Int × Nat) => match z with | (i, l, g) => x.length - i) (0, [], _) ⟨rfl, rfl, rfl, rfl, trivial⟩ ⟨Nat.zero_le _, rfl⟩ ?_
   intro z hb
   obtain ⟨i, l, g⟩ := z
   try dsimp only at hb
   obtain ⟨hi1, hl⟩ := hb
   have hll : l.length = i := by rw [hl]; simp
   have hgi : -100000 ≤ x.getD i default ∧ x.getD i default ≤ 100000 := hgx i
   have hgyi : -100000 ≤ y.getD i default ∧ y.getD i default ≤ 100000 := hgy i
   refine A3 <| A3 <| A0 <| y_M rfl <| y_M rfl <| B9 rfl rfl <| F8 rfl rfl <| xN [1,8,11,67] [8] rfl ?_
   refine A5 rfl ?_ ?_ <;> intro hc <;> try simp only [SL] at hc
   ·refine A6 <| A3 <| B0 <| A3 <| A0 <| y_M rfl <| O2 rfl rfl <| xN [1,8,11,71] [8] rfl ?_
    refine A5 rfl ?_ ?_ <;> intro hc <;> try simp only [SL] at hc
    ·refine A0 <| y_M rfl <| y_M rfl <| B8 rfl rfl rfl (fun _ => rfl) (by (change 0 < _; omega)) <| y_I rfl <| B6 (es := List.map iV [_]) rfl rfl (dT rfl) rfl rfl (fun _ => B2 (A7 fun _ => rfl)) (fun _ => rfl) ?_
     intro g76
     refine xA rfl rfl rfl rfl (by simp) (by simp) rfl rfl rfl rfl rfl (fun _ => rfl) (by simp only [LN]; omega) (fun _ => rfl) ?_
     intro g77
     (refine xO rfl rfl (by simp) rfl (fun _ => rfl) (fun _ => rfl) ?_; intro g8)
     refine xN [1,8,11] [8] rfl <| A0 <| y_M rfl <| E6 rfl rfl (C4 (by omega)) <| y_S rfl <| xN [1,8,11] [8] rfl ?_
     refine ⟨(i + 1, l ++ [x.getD 0 default], _), ?_, (by simp only; omega), ⟨rfl, rfl, rfl, rfl, trivial⟩⟩
     exact ⟨by omega, by rw [hl, V1, if_pos (by omega)]; rfl⟩
    refine A0 <| y_M rfl <| y_M rfl <| y_M rfl <| B8 rfl rfl rfl (fun _ => rfl) (by omega) <| y_I rfl <| y_M rfl <| y_M rfl <| P5 rfl rfl (C4 (by omega)) ?_
    rw [show ((i : Int) - 1) = ((i - 1 : Nat) : Int) by omega]
    have hgi2 : -100000 ≤ x.getD (i - 1) default ∧ x.getD (i - 1) default ≤ 100000 := hgx (i - 1)
    refine B8 rfl rfl rfl (fun _ => rfl) (by omega) <| y_I rfl <| P5 rfl rfl (C4 (by omega)) <| B6 (es := List.map iV [_]) rfl rfl (dT rfl) rfl rfl (fun _ => B2 (A7 fun _ => rfl)) (fun _ => rfl) ?_
    intro g89
    refine xA rfl rfl rfl rfl (by simp) (by simp) rfl rfl rfl rfl rfl (fun _ => rfl) (by simp only [LN]; omega) (fun _ => rfl) ?_
    intro g90
    (refine xO rfl rfl (by simp) rfl (fun _ => rfl) (fun _ => rfl) ?_; intro g8)
    refine J7 ⟨fun _ => ⟨by decide +kernel, by decide +kernel⟩, [(.t 1, _), (.t 8, _), (.t 11, _), (.h 8, _)], ⟨rfl, rfl, rfl, rfl, rfl, rfl, rfl, rfl, trivial⟩, ?_⟩
    refine A0 <| y_M rfl <| E6 rfl rfl (C4 (by omega)) <| y_S rfl <| xN [1,8,11] [8] rfl ?_
    refine ⟨(i + 1, l ++ [x.getD i default - x.getD (i - 1) default], _), ?_, (by simp only; omega), ⟨rfl, rfl, rfl, rfl, trivial⟩⟩
    exact ⟨by omega, by rw [hl, V1, if_neg (by omega)]; rfl⟩
   refine D8 ?_
   refine ⟨(_, _, _), ?_, ⟨rfl, rfl, trivial⟩⟩
   exact ⟨apF (show l = dfI x by rw [hl, show i = x.length by omega]; rfl) (by simp [U4, *]), by omega, by omega⟩
  try simp at hc
  refine A3 <| A0 <| I4 rfl rfl <| y_S rfl <| xN [1,2,8,16,91] [8] rfl ?_
  refine A5 rfl ?_ ?_ <;> intro hc <;> try simp only [SL] at hc
  ·try simp at hc
   refine A3 <| A0 <| y_S rfl <| xN [1,8,12] [8] rfl <| A3 <| A0 <| y_S rfl <| xN [1,8,12,13] [8] rfl <| B0 <| F5 (β := Nat × Int × List Int × Nat) [(.t 1, _)] (fun (z : Nat × Int × List Int × Nat) => match z with | (i, s, l, g) => [(.t 13, iV i), (.t 12, iV s), (.h 8, .obj g 0 1 (l.map iV)), (.t 8, .sl 8 g none 0 l.length)]) (fun (z : Nat × Int × List Int × Nat) => match z with | (i, s, l, g) => i ≤ x.length ∧ s = prS (H4 x) i ∧ l = (List.range i).map fun i => prS (H4 x) (i + 1)) (fun (z : Nat × Int × List Int × Nat) => match z with | (i, s, l, g) => x.length - i) (0, 0, [], _) ⟨rfl, rfl, rfl, rfl, rfl, trivial⟩ ⟨Nat.zero_le _, rfl, rfl⟩ ?_
   intro z hb
   obtain ⟨i, s, l, g⟩ := z
   try dsimp only at hb
   obtain ⟨hi1, hs, hl⟩ := hb
   have hll : l.length = i := by rw [hl]; simp
   have hgi : -100000 ≤ x.getD i default ∧ x.getD i default ≤ 100000 := hgx i
   have hsb := c2c hx i
   rw [← hs] at hsb
   refine A3 <| A3 <| A0 <| y_M rfl <| y_M rfl <| B9 rfl rfl <| F8 rfl rfl <| xN [1,8,12,13,96] [8] rfl ?_
   refine A5 rfl ?_ ?_ <;> intro hc <;> try simp only [SL] at hc
   ·refine A6 <| A3 <| B0 <| A3 <| A0 <| y_M rfl <| y_M rfl <| y_M rfl <| B8 rfl rfl rfl (fun _ => rfl) (by omega) <| y_I rfl <| E6 rfl rfl (C4 (by omega)) <| y_S rfl <| xN [1,8,12,13] [8] rfl <| A0 <| y_M rfl <| y_M rfl <| B6 (es := List.map iV [_]) rfl rfl (dT rfl) rfl rfl (fun _ => B2 (A7 fun _ => rfl)) (fun _ => rfl) ?_
    intro g107
    refine xA rfl rfl rfl rfl (by simp) (by simp) rfl rfl rfl rfl rfl (fun _ => rfl) (by simp only [LN]; omega) (fun _ => rfl) ?_
    intro g108
    (refine xO rfl rfl (by simp) rfl (fun _ => rfl) (fun _ => rfl) ?_; intro g8)
    refine xN [1,8,12,13] [8] rfl <| A0 <| y_M rfl <| E6 rfl rfl (C4 (by omega)) <| y_S rfl <| xN [1,8,12,13] [8] rfl ?_
    refine ⟨(i + 1, s + x.getD i default, l ++ [s + x.getD i default], _), ?_, (by simp only; omega), ⟨rfl, rfl, rfl, rfl, rfl, trivial⟩⟩
    exact ⟨by omega, by rw [prS, hs]; rfl, by rw [hl, V1, prS, hs]; rfl⟩
   refine D8 ?_
   refine ⟨(_, _, _), ?_, ⟨rfl, rfl, trivial⟩⟩
   exact ⟨apF (show l = smI x by rw [hl, show i = x.length by omega]; rfl) (by simp [U4, *]), by omega, by omega⟩
  try simp at hc
  refine A3 <| A0 <| I4 rfl rfl <| y_S rfl <| xN [1,2,8,16,109] [8] rfl ?_
  refine A5 rfl ?_ ?_ <;> intro hc <;> try simp only [SL] at hc
  ·try simp at hc
   refine A0 <| y_M rfl ?_
   apply xC rfl
   ·apply A8
    ·exact B7 rfl
    exact C3
   ·exact d3f x hx
   refine ⟨⟨rfl, rfl, rfl, dT rfl, rfl⟩, .inl rfl, B3, M9, fun _ => rfl, fun g112 => ?_⟩
   simp only [List.length_map]
   (refine xO rfl rfl (by simp) rfl (fun _ => rfl) (fun _ => rfl) ?_; intro g8)
   refine xN [8] [8] rfl ?_
   refine ⟨(_, _, _), ?_, ⟨rfl, rfl, trivial⟩⟩
   exact ⟨(by (simp [U4, rkI, *]; done)), (by (simp [dfI, smI, rkI, adI]; done)), (by (simp; omega))⟩
  try simp at hc
  refine A3 <| A0 <| I4 rfl rfl <| y_S rfl <| xN [1,2,8,16,113] [8] rfl ?_
  refine A5 rfl ?_ ?_ <;> intro hc <;> try simp only [SL] at hc
  ·try simp at hc
   refine A0 <| y_M rfl <| y_M rfl ?_
   refine xC1 rfl rfl (d6d x hx) ⟨rfl, rfl, rfl⟩ rfl rfl fun g117 => ?_
   refine B6 (es := List.map iV [_]) rfl rfl (dT rfl) rfl rfl (fun _ => B2 (A7 fun _ => rfl)) (fun _ => rfl) ?_
   intro g118
   refine xA rfl rfl rfl rfl (by simp) (by simp) rfl rfl rfl rfl rfl (fun _ => rfl) (by simp only [LN]; omega) (fun _ => rfl) ?_
   intro g119
   (refine xO rfl rfl (by simp) rfl (fun _ => rfl) (fun _ => rfl) ?_; intro g8)
   refine xN [8] [8] rfl ?_
   refine ⟨(_, _, _), ?_, ⟨rfl, rfl, trivial⟩⟩
   exact ⟨(by (simp [U4, *]; done)), (by (simp; done)), (by (simp; done))⟩
  try simp at hc
  refine A3 <| A0 <| I4 rfl rfl <| y_S rfl <| xN [1,2,8,16,120] [8] rfl ?_
  refine A5 rfl ?_ ?_ <;> intro hc <;> try simp only [SL] at hc
  ·try simp at hc
   refine A3 <| A3 <| A0 <| y_M rfl <| B9 rfl rfl <| y_M rfl <| B9 rfl rfl <| b7n rfl rfl <| xN [1,2,8,126] [8] rfl ?_
   refine A5 rfl ?_ ?_ <;> intro hc <;> try simp only [SL] at hc
   ·refine A3 <| A0 ?_
    (refine B1 rfl rfl (fun _ => rfl) ?_; intro g6)
    refine y_S rfl <| xN [6,7] [6] rfl <| A9 <| C2 (G0 rfl rfl (by simp) (by rfl) (D5 rfl rfl (C7 B5))) ?_
    have hne : ¬ x.length = y.length := by omega
    rw [show mkR op x y = none from by simp [mkR, U4, *], show raR op x y = [] from by simp [raR, U4, *]]
    rfl
   refine A6 <| A3 <| A0 <| y_S rfl <| xN [1,2,8,14] [8] rfl <| B0 <| F5 (β := Nat × List Int × Nat) [(.t 1, _), (.t 2, _)] (fun (z : Nat × List Int × Nat) => match z with | (i, l, g) => [(.t 14, iV i), (.h 8, .obj g 0 1 (l.map iV)), (.t 8, .sl 8 g none 0 l.length)]) (fun (z : Nat × List Int × Nat) => match z with | (i, l, g) => i ≤ x.length ∧ l = (List.range i).map (fun i => H4 x i + H4 y i)) (fun (z : Nat × List Int × Nat) => match z with | (i, l, g) => x.length - i) (0, [], _) ⟨rfl, rfl, rfl, rfl, rfl, trivial⟩ ⟨Nat.zero_le _, rfl⟩ ?_
   intro z hb
   obtain ⟨i, l, g⟩ := z
   try dsimp only at hb
   obtain ⟨hi1, hl⟩ := hb
   have hll : l.length = i := by rw [hl]; simp
   have hgi : -100000 ≤ x.getD i default ∧ x.getD i default ≤ 100000 := hgx i
   have hgyi : -100000 ≤ y.getD i default ∧ y.getD i default ≤ 100000 := hgy i
   refine A3 <| A3 <| A0 <| y_M rfl <| y_M rfl <| B9 rfl rfl <| F8 rfl rfl <| xN [1,2,8,14,130] [8] rfl ?_
   refine A5 rfl ?_ ?_ <;> intro hc <;> try simp only [SL] at hc
   ·refine A6 <| A3 <| B0 <| A0 <| y_M rfl <| y_M rfl <| y_M rfl <| B8 rfl rfl rfl (fun _ => rfl) (by omega) <| y_I rfl <| y_M rfl <| y_M rfl <| B8 rfl rfl rfl (fun _ => rfl) (by omega) <| y_I rfl <| E6 rfl rfl (C4 (by omega)) <| B6 (es := List.map iV [_]) rfl rfl (dT rfl) rfl rfl (fun _ => B2 (A7 fun _ => rfl)) (fun _ => rfl) ?_
    intro g143
    refine xA rfl rfl rfl rfl (by simp) (by simp) rfl rfl rfl rfl rfl (fun _ => rfl) (by simp only [LN]; omega) (fun _ => rfl) ?_
    intro g144
    (refine xO rfl rfl (by simp) rfl (fun _ => rfl) (fun _ => rfl) ?_; intro g8)
    refine J7 ⟨fun _ => ⟨by decide +kernel, by decide +kernel⟩, [(.t 1, _), (.t 2, _), (.t 8, _), (.t 14, _), (.h 8, _)], ⟨rfl, rfl, rfl, rfl, rfl, rfl, rfl, rfl, rfl, rfl, trivial⟩, ?_⟩
    refine A0 <| y_M rfl <| E6 rfl rfl (C4 (by omega)) <| y_S rfl <| xN [1,2,8,14] [8] rfl ?_
    refine ⟨(i + 1, l ++ [x.getD i default + y.getD i default], _), ?_, (by simp only; omega), ⟨rfl, rfl, rfl, rfl, rfl, trivial⟩⟩
    exact ⟨by omega, by rw [hl, V1]; rfl⟩
   refine D8 ?_
   refine ⟨(_, _, _), ?_, ⟨rfl, rfl, trivial⟩⟩
   exact ⟨adF (by assumption) (by omega) (by rw [hl, show i = x.length by omega]; rfl) rfl, by omega, by omega⟩
  try simp at hc
  refine A3 <| A0 <| I4 rfl rfl <| y_S rfl <| xN [1,2,8,145] [8] rfl ?_
  refine A5 rfl ?_ ?_ <;> intro hc <;> try simp only [SL] at hc
  ·try simp at hc
   refine A0 <| y_M rfl <| y_M rfl <| a1g rfl rfl rfl (by (simp; done)) rfl rfl rfl (dT rfl) (fun _ => ⟨rfl, rfl, rfl⟩) (by simp only [H2]; (simp only [List.length_nil, List.length_cons, List.length_append, Nat.zero_add, List.length_map]; omega)) (fun _ => rfl) ?_
   intro g149
   refine y_M rfl <| a1g rfl rfl rfl (by (simp; done)) rfl rfl rfl (dT rfl) (fun _ => ⟨rfl, rfl, rfl⟩) (by simp only [H2]; (simp only [List.length_nil, List.length_cons, List.length_append, Nat.zero_add, List.length_map]; omega)) (fun _ => rfl) ?_
   intro g151
   (refine xO rfl rfl (by simp) rfl (fun _ => rfl) (fun _ => rfl) ?_; intro g8)
   refine xN [8] [8] rfl ?_
   refine ⟨(_, _, _), ?_, ⟨rfl, rfl, trivial⟩⟩
   exact ⟨(by (simp [U4, *]; done)), (by (simp; done)), (by (simp; omega))⟩
  try simp at hc
  refine A6 ?_
  refine ⟨(_, _, _), ?_, ⟨rfl, rfl, trivial⟩⟩
  exact absurd (d3k h1) (by simp [*])
 intro z hb
 obtain ⟨r, n, g⟩ := z
 try dsimp only at hb
 obtain ⟨hraw, hn, hr80⟩ := hb
 subst hn
 refine A3 <| A0 <| y_M rfl <| y_M rfl ?_
 apply xC rfl
 ·apply A8
  ·exact H3 rfl rfl rfl (by (simp; done)) (fun _ => rfl)
  exact C3
 ·exact c2x r (by omega)
 refine ⟨⟨rfl, rfl, rfl, dT rfl, rfl⟩, .inr ⟨rfl, rfl⟩, B3, C6 rfl, fun _ => rfl, fun g154 => ?_⟩
 (refine xO rfl rfl (by simp) rfl (fun _ => rfl) (fun _ => rfl) ?_; intro g6)
 refine y_S rfl <| xN [6,7] [6] rfl <| A9 <| C2 (G0 rfl rfl (by simp) (by exact A7 fun _ => rfl) (D5 rfl rfl (C7 B5))) ?_
 rw [raR, mkR, hraw, Option.bind_some, Option.getD_some]
 cases hvr : vl r <;> rfl

theorem c0t : E7 Tryz.f59 = [0, 1, 4, 5, 2, 14, 24, 23, 25, 22, 8, 10, 35, 9, 6] := by kernel_rfl
theorem c4j (t : Pl) (hgd : t.good) (hwf : t.wf) (cols : List (List Int)) (hvc : vcs cols = true) (hc4 : cols.length ≤ 1048576) (hcb : ∀ c ∈ cols, c.length ≤ 1048576) : CW (cxT oG) 59 [trK t, M cols] = some (.tup [.own 1 (((Y0 cols t).getD []).map iV), bV (Y0 cols t).isSome], []) := by
 obtain ⟨kk, hkk⟩ : ∃ kk : Nat, t.sz < kk := ⟨_, Nat.lt_succ_self _⟩
 revert t
 induction kk with
 | zero => intro t hgd hwf hkk; exact absurd hkk (Nat.not_lt_zero _)
 | succ kk ih =>
  intro t hgd hwf hkk
  refine E4 rfl Tryz.func59 rfl ⟨by kernel_rfl, rfl, dT rfl, dT rfl, by decide⟩ c0t <| A3 <| A0 ?_
  rcases t with ns | w | ⟨w, p⟩ | ⟨w, p, q⟩
  ·rw [b9v]
   have hvl := a9p (show vd ns = true from hgd)
   refine a2g rfl rfl rfl (fun _ => M2 rfl) (fun _ => rfl) ?_
   intro g2
   (refine B1 rfl rfl (fun _ => rfl) ?_; intro g4)
   refine y_S rfl <| xN [1,2] [2] rfl <| A3 <| A3 <| A0 <| y_F rfl <| y_L rfl <| B9 rfl rfl <| O2 rfl rfl <| xN [1,2,14] [2] rfl ?_
   refine A5 rfl (fun hc => ?_) (fun hc => absurd hc (by decide))
   refine A3 <| A0 <| y_F rfl <| y_L rfl <| y_F rfl <| y_L rfl <| y_M rfl ?_
   apply xC rfl
   ·apply A8
    ·exact B7 rfl
    apply A8
    ·exact B7 rfl
    apply A8
    ·exact B7 rfl
    exact C3
   ·exact c9t ns (by omega) cols
   refine ⟨⟨rfl, rfl, rfl, dT rfl, rfl⟩, .inl rfl, B3, M9, fun _ => rfl, fun g20 => ?_⟩
   simp only [List.length_map]
   (refine xO rfl rfl (by simp) rfl (fun _ => rfl) (fun _ => rfl) ?_; intro g4)
   refine y_S rfl <| xN [4,5] [4] rfl <| A9 <| C2 (G0 rfl rfl (by simp) (by exact A7 fun _ => rfl) (D5 rfl rfl (C7 B5))) ?_
   rfl
  ·rw [b9m]
   have hwl : rch (bA w) = 0 := hwf
   obtain ⟨⟨k, hk, ek⟩, -⟩ := d5a hwl
   have hci := d4w hk
   refine a2g rfl rfl rfl (fun _ => M2 rfl) (fun _ => rfl) ?_
   intro g2
   (refine B1 rfl rfl (fun _ => rfl) ?_; intro g4)
   refine y_S rfl <| xN [1,2] [2] rfl <| A3 <| A3 <| A0 <| y_F rfl <| y_L rfl <| B9 rfl rfl <| O2 rfl rfl <| xN [1,2,14] [2] rfl ?_
   refine A5 rfl (fun hc => ?_) (fun hc => absurd hc (by decide))
   refine A3 <| A0 <| y_F rfl <| y_L rfl <| y_F rfl <| y_L rfl <| y_M rfl ?_
   apply xC rfl
   ·apply A8
    ·exact B7 rfl
    apply A8
    ·exact B7 rfl
    apply A8
    ·exact B7 rfl
    exact C3
   ·exact (by have hi := d1f (oG := oG) k hk [] cols hc4 hcb; rw [← ek] at hi; exact hi)
   refine ⟨⟨rfl, rfl, rfl, dT rfl, rfl⟩, .inl rfl, B3, M9, fun _ => rfl, fun g20 => ?_⟩
   simp only [List.length_map]
   (refine xO rfl rfl (by simp) rfl (fun _ => rfl) (fun _ => rfl) ?_; intro g4)
   refine y_S rfl <| xN [4,5] [4] rfl <| A9 <| C2 (G0 rfl rfl (by simp) (by exact A7 fun _ => rfl) (D5 rfl rfl (C7 B5))) ?_
   rw [Y0, ek, hci]
   rfl
  ·rw [c4m]
   have hsz1 : (Pl.un w p).sz = p.sz + 1 := rfl
   have hn : nd (bA w) = 1 := (T3 (by have h := hwf.1; omega)).trans hwf.1
   refine a2g rfl rfl rfl (fun _ => M2 rfl) (fun _ => rfl) ?_
   intro g2
   (refine B1 rfl rfl (fun _ => rfl) ?_; intro g4)
   refine y_S rfl <| xN [1,2] [2] rfl <| A3 <| A3 <| A0 <| y_F rfl <| y_L rfl <| B9 rfl rfl <| O2 rfl rfl <| xN [1,2,14] [2] rfl ?_
   refine A5 rfl (fun hc => absurd hc (by exact fun h => Bool.noConfusion (show false = true from h))) (fun hc => ?_)
   refine A6 <| A3 <| A0 ?_
   (refine B1 rfl rfl (fun _ => rfl) ?_; intro g6)
   refine xN [1,2,6] [2,6] rfl <| A3 <| A3 <| A0 <| y_F rfl <| y_L rfl <| B9 rfl rfl <| y_M rfl <| xN [1,2,6,22,23,24] [2,6] rfl <| B0 <| F9 <| A3 <| A0 <| F8 rfl rfl <| xN [1,2,6,22,23,24,25] [2,6] rfl <| A3 ?_
   refine A5 rfl (fun hc => ?_) (fun hc => absurd hc (by exact fun h => Bool.noConfusion (show true = false from h)))
   refine A6 <| A3 <| B0 <| A3 <| A0 <| I3 rfl rfl rfl (fun _ => rfl) (by show (0 : Int) ≤ 0 ∧ (0 : Int) < ((1 : Nat) : Int); omega) <| y_I rfl <| y_A rfl (fun _ => rfl) ?_
   intro g8
   refine xB rfl rfl rfl rfl rfl rfl rfl rfl rfl <| xN [1,2,6,8,22,23,24] [2,6,8] rfl <| A3 <| A0 <| y_B rfl <| y_M rfl ?_
   apply xC rfl
   ·apply A8
    ·exact B7 rfl
    apply A8
    ·exact B7 rfl
    exact C3
   ·exact (by have hi := ih p hgd.2.2 hwf.2 (by omega); rw [← P8] at hi; exact hi)
   refine ⟨⟨rfl, rfl, rfl, dT rfl, rfl⟩, .inr ⟨I1 _ _, rfl⟩, B3, G5 (L1 fun _ => I0 rfl L0), fun _ => rfl, fun g31 => ?_⟩
   simp only [List.length_map]
   refine y_M rfl <| y_E rfl <| y_E rfl ?_
   (refine xO rfl rfl (by simp) rfl (fun _ => rfl) (fun _ => rfl) ?_; intro g9)
   refine y_S rfl <| xN [1,2,6,9,10,22,23,24] [2,6,9] rfl <| A3 <| A3 <| A0 <| y_M rfl <| J9 rfl <| xN [1,2,6,9,22,23,24,35] [2,6,9] rfl ?_
   refine A5 rfl ?_ ?_ <;> intro hc <;> try simp only [SL] at hc
   ·refine A3 <| A0 ?_
    (refine B1 rfl rfl (fun _ => rfl) ?_; intro g4)
    refine y_S rfl <| xN [4,5] [4] rfl <| A9 <| C2 (G0 rfl rfl (by simp) (by rfl) (D5 rfl rfl (C7 B5))) ?_
    have hno : Y0 cols p = none := by simpa using hc
    show AV.tup [.own 1 [], bV false] = _
    rw [Y0, hno]
    rfl
   obtain ⟨x, hx⟩ := Option.isSome_iff_exists.1 (show (Y0 cols p).isSome = true by assumption)
   rw [hx]
   have hvx := c0b hvc (hgd.2.2) hx
   simp only [Option.getD_some]
   refine A6 <| A0 <| y_M rfl <| y_M rfl <| a4n rfl rfl (by simp) rfl rfl rfl (fun _ => rfl) ?_
   intro g38
   refine S9 (f := oI) (xs := []) (ys := [x]) rfl rfl rfl rfl (by simp) (by simp) (by decide) rfl rfl rfl rfl (dT rfl) (fun a => ⟨rfl, a7u a⟩) (by simp only [H2]; simp) (fun _ => rfl) ?_
   intro g39
   (refine xO rfl rfl (by simp) rfl (fun _ => rfl) (fun _ => rfl) ?_; intro g6)
   refine xN [1,2,6,22,23,24] [2,6] rfl <| A0 <| E6 rfl rfl (C4 (by omega)) <| y_M rfl <| xN [1,2,6,22,23,24] [2,6] rfl <| F9 <| A3 <| A0 <| F8 rfl rfl <| xN [1,2,6,22,23,24,25] [2,6] rfl <| A3 ?_
   refine A5 rfl (fun hc => absurd hc (by exact fun h => Bool.noConfusion (show false = true from h))) (fun hc => ?_)
   refine D8 <| A3 <| A0 <| y_F rfl <| y_L rfl <| y_M rfl ?_
   apply xC rfl
   ·apply A8
    ·exact B7 rfl
    apply A8
    ·exact a8a rfl rfl rfl (by (simp; done))
    exact C3
   ·exact c3b (bA w) (by omega) x [] hvx d2p [x] (by simp) (by (intro h; omega)) rfl (by (intro _; rfl))
   refine ⟨⟨rfl, rfl, rfl, dT rfl, rfl⟩, .inr ⟨I1 _ _, rfl⟩, B3, G5 (L1 fun _ => I0 rfl L0), fun _ => rfl, fun g44 => ?_⟩
   simp only [List.length_map]
   refine y_E rfl <| y_E rfl ?_
   (refine xO rfl rfl (by simp) rfl (fun _ => rfl) (fun _ => rfl) ?_; intro g4)
   refine y_S rfl <| xN [4,5] [4] rfl <| A9 <| C2 (G0 rfl rfl (by simp) (by exact A7 fun _ => rfl) (D5 rfl rfl (C7 B5))) ?_
   rw [Y0, hx, Option.bind_some]
   rfl
  rw [b7z]
  have hsz1 : (Pl.bin w p q).sz = p.sz + q.sz + 1 := rfl
  have hn : nd (bA w) = 2 := (T3 (by have h := hwf.1; omega)).trans hwf.1
  refine a2g rfl rfl rfl (fun _ => M2 rfl) (fun _ => rfl) ?_
  intro g2
  (refine B1 rfl rfl (fun _ => rfl) ?_; intro g4)
  refine y_S rfl <| xN [1,2] [2] rfl <| A3 <| A3 <| A0 <| y_F rfl <| y_L rfl <| B9 rfl rfl <| O2 rfl rfl <| xN [1,2,14] [2] rfl ?_
  refine A5 rfl (fun hc => absurd hc (by exact fun h => Bool.noConfusion (show false = true from h))) (fun hc => ?_)
  refine A6 <| A3 <| A0 ?_
  (refine B1 rfl rfl (fun _ => rfl) ?_; intro g6)
  refine xN [1,2,6] [2,6] rfl <| A3 <| A3 <| A0 <| y_F rfl <| y_L rfl <| B9 rfl rfl <| y_M rfl <| xN [1,2,6,22,23,24] [2,6] rfl <| B0 <| F9 <| A3 <| A0 <| F8 rfl rfl <| xN [1,2,6,22,23,24,25] [2,6] rfl <| A3 ?_
  refine A5 rfl (fun hc => ?_) (fun hc => absurd hc (by exact fun h => Bool.noConfusion (show true = false from h)))
  refine A6 <| A3 <| B0 <| A3 <| A0 <| I3 rfl rfl rfl (fun _ => rfl) (by show (0 : Int) ≤ 0 ∧ (0 : Int) < ((2 : Nat) : Int); omega) <| y_I rfl <| y_A rfl (fun _ => rfl) ?_
  intro g8
  refine xB rfl rfl rfl rfl rfl rfl rfl rfl rfl <| xN [1,2,6,8,22,23,24] [2,6,8] rfl <| A3 <| A0 <| y_B rfl <| y_M rfl ?_
  apply xC rfl
  ·apply A8
   ·exact B7 rfl
   apply A8
   ·exact B7 rfl
   exact C3
  ·exact (by have hi := ih p hgd.2.2.1 hwf.2.1 (by omega); rw [← P8] at hi; exact hi)
  refine ⟨⟨rfl, rfl, rfl, dT rfl, rfl⟩, .inr ⟨I1 _ _, rfl⟩, B3, G5 (L1 fun _ => I0 rfl L0), fun _ => rfl, fun g31 => ?_⟩
  simp only [List.length_map]
  refine y_M rfl <| y_E rfl <| y_E rfl ?_
  (refine xO rfl rfl (by simp) rfl (fun _ => rfl) (fun _ => rfl) ?_; intro g9)
  refine y_S rfl <| xN [1,2,6,9,10,22,23,24] [2,6,9] rfl <| A3 <| A3 <| A0 <| y_M rfl <| J9 rfl <| xN [1,2,6,9,22,23,24,35] [2,6,9] rfl ?_
  refine A5 rfl ?_ ?_ <;> intro hc <;> try simp only [SL] at hc
  ·refine A3 <| A0 ?_
   (refine B1 rfl rfl (fun _ => rfl) ?_; intro g4)
   refine y_S rfl <| xN [4,5] [4] rfl <| A9 <| C2 (G0 rfl rfl (by simp) (by rfl) (D5 rfl rfl (C7 B5))) ?_
   have hno : Y0 cols p = none := by simpa using hc
   show AV.tup [.own 1 [], bV false] = _
   rw [Y0, hno]
   rfl
  obtain ⟨x, hx⟩ := Option.isSome_iff_exists.1 (show (Y0 cols p).isSome = true by assumption)
  rw [hx]
  have hvx := c0b hvc (hgd.2.2.1) hx
  simp only [Option.getD_some]
  refine A6 <| A0 <| y_M rfl <| y_M rfl <| a4n rfl rfl (by simp) rfl rfl rfl (fun _ => rfl) ?_
  intro g38
  refine S9 (f := oI) (xs := []) (ys := [x]) rfl rfl rfl rfl (by simp) (by simp) (by decide) rfl rfl rfl rfl (dT rfl) (fun a => ⟨rfl, a7u a⟩) (by simp only [H2]; simp) (fun _ => rfl) ?_
  intro g39
  (refine xO rfl rfl (by simp) rfl (fun _ => rfl) (fun _ => rfl) ?_; intro g6)
  refine xN [1,2,6,22,23,24] [2,6] rfl <| A0 <| E6 rfl rfl (C4 (by omega)) <| y_M rfl <| xN [1,2,6,22,23,24] [2,6] rfl <| F9 <| A3 <| A0 <| F8 rfl rfl <| xN [1,2,6,22,23,24,25] [2,6] rfl <| A3 ?_
  refine A5 rfl (fun hc => ?_) (fun hc => absurd hc (by exact fun h => Bool.noConfusion (show true = false from h)))
  refine A6 <| A3 <| B0 <| A3 <| A0 <| I3 rfl rfl rfl (fun _ => rfl) (by show (0 : Int) ≤ 1 ∧ (1 : Int) < ((2 : Nat) : Int); omega) <| y_I rfl <| y_A rfl (fun _ => rfl) ?_
  intro g8
  refine xB rfl rfl rfl rfl rfl rfl rfl rfl rfl <| xN [1,2,6,8,22,23,24] [2,6,8] rfl <| A3 <| A0 <| y_B rfl <| y_M rfl ?_
  apply xC rfl
  ·apply A8
   ·exact B7 rfl
   apply A8
   ·exact B7 rfl
   exact C3
  ·exact (by have hi := ih q hgd.2.2.2 hwf.2.2 (by omega); rw [← P8] at hi; exact hi)
  refine ⟨⟨rfl, rfl, rfl, dT rfl, rfl⟩, .inr ⟨I1 _ _, rfl⟩, B3, G5 (L1 fun _ => I0 rfl L0), fun _ => rfl, fun g31 => ?_⟩
  simp only [List.length_map]
  refine y_M rfl <| y_E rfl <| y_E rfl ?_
  (refine xO rfl rfl (by simp) rfl (fun _ => rfl) (fun _ => rfl) ?_; intro g9)
  refine y_S rfl <| xN [1,2,6,9,10,22,23,24] [2,6,9] rfl <| A3 <| A3 <| A0 <| y_M rfl <| J9 rfl <| xN [1,2,6,9,22,23,24,35] [2,6,9] rfl ?_
  refine A5 rfl ?_ ?_ <;> intro hc <;> try simp only [SL] at hc
  ·refine A3 <| A0 ?_
   (refine B1 rfl rfl (fun _ => rfl) ?_; intro g4)
   refine y_S rfl <| xN [4,5] [4] rfl <| A9 <| C2 (G0 rfl rfl (by simp) (by rfl) (D5 rfl rfl (C7 B5))) ?_
   have hno : Y0 cols q = none := by simpa using hc
   show AV.tup [.own 1 [], bV false] = _
   rw [Y0, hx, Option.bind_some, hno]
   rfl
  obtain ⟨y, hy⟩ := Option.isSome_iff_exists.1 (show (Y0 cols q).isSome = true by assumption)
  rw [hy]
  have hvy := c0b hvc (hgd.2.2.2) hy
  simp only [Option.getD_some]
  refine A6 <| A0 <| y_M rfl <| y_M rfl <| a4n rfl rfl (by simp) rfl rfl rfl (fun _ => rfl) ?_
  intro g38
  refine S9 (f := oI) (xs := [x]) (ys := [y]) rfl rfl rfl rfl (by simp) (by simp) (by decide) rfl rfl rfl rfl (dT rfl) (fun a => ⟨rfl, a7u a⟩) (by simp only [H2]; simp) (fun _ => rfl) ?_
  intro g39
  (refine xO rfl rfl (by simp) rfl (fun _ => rfl) (fun _ => rfl) ?_; intro g6)
  refine xN [1,2,6,22,23,24] [2,6] rfl <| A0 <| E6 rfl rfl (C4 (by omega)) <| y_M rfl <| xN [1,2,6,22,23,24] [2,6] rfl <| F9 <| A3 <| A0 <| F8 rfl rfl <| xN [1,2,6,22,23,24,25] [2,6] rfl <| A3 ?_
  refine A5 rfl (fun hc => absurd hc (by exact fun h => Bool.noConfusion (show false = true from h))) (fun hc => ?_)
  refine D8 <| A3 <| A0 <| y_F rfl <| y_L rfl <| y_M rfl ?_
  apply xC rfl
  ·apply A8
   ·exact B7 rfl
   apply A8
   ·exact a8a rfl rfl rfl (by (simp; done))
   exact C3
  ·exact c3b (bA w) (by omega) x y hvx hvy [x, y] (by simp) (by (intro h; simp; done)) rfl (by (intro _; rfl))
  refine ⟨⟨rfl, rfl, rfl, dT rfl, rfl⟩, .inr ⟨I1 _ _, rfl⟩, B3, G5 (L1 fun _ => I0 rfl L0), fun _ => rfl, fun g44 => ?_⟩
  simp only [List.length_map]
  refine y_E rfl <| y_E rfl ?_
  (refine xO rfl rfl (by simp) rfl (fun _ => rfl) (fun _ => rfl) ?_; intro g4)
  refine y_S rfl <| xN [4,5] [4] rfl <| A9 <| C2 (G0 rfl rfl (by simp) (by exact A7 fun _ => rfl) (D5 rfl rfl (C7 B5))) ?_
  rw [Y0, hx, Option.bind_some, hy, Option.bind_some]
  rfl

theorem b8k : E7 Tryz.f82 = [0, 2, 1, 5, 20, 6, 4, 3, 46, 7, 51, 8, 9, 10, 73, 28] := by kernel_rfl
theorem d5v (t : Pl) (hgd : t.good) (hwf : t.wf) (hsz : t.sz ≤ 1000) : CW (cxT oG) 82 [trK t] = some (trV (foldP t), []) := by
 obtain ⟨kk, hkk⟩ : ∃ kk : Nat, t.sz < kk := ⟨_, Nat.lt_succ_self _⟩
 revert t
 induction kk with
 | zero => intro t hgd hwf hsz hkk; exact absurd hkk (Nat.not_lt_zero _)
 | succ kk ih =>
  intro t hgd hwf hsz hkk
  refine E4 rfl Tryz.func82 rfl ⟨by kernel_rfl, rfl, dT rfl, dT rfl, by decide⟩ b8k <| A3 <| A0 <| a2g rfl rfl rfl (fun _ => M2 rfl) (fun _ => rfl) ?_
  intro g1
  rcases t with ns | w | ⟨w, p⟩ | ⟨w, p, q⟩
  ·rw [b9v]
    
   refine y_A rfl (fun _ => rfl) ?_
   intro g2
   refine xN [1,2] [1,2] rfl <| A3 <| A0 <| B6 (es := List.map trV []) rfl rfl (dT rfl) rfl rfl (fun _ => B2 (A7 fun _ => rfl)) (fun _ => rfl) ?_
   intro g11
   (refine xO rfl rfl (by simp) rfl (fun _ => rfl) (fun _ => rfl) ?_; intro g3)
   refine xN [1,2,3] [1,2,3] rfl <| A3 <| A0 <| y_F rfl <| y_L rfl <| B9 rfl rfl <| N9 rfl rfl <| y_S rfl <| xN [1,2,3,4] [1,2,3] rfl <| A3 <| A3 <| A0 <| y_S rfl <| xN [1,2,3,4,5] [1,2,3] rfl <| B0 <| F9 <| A3 <| A3 <| A0 <| y_M rfl <| y_F rfl <| y_L rfl <| B9 rfl rfl <| F8 rfl rfl <| xN [1,2,3,4,5,20] [1,2,3] rfl ?_
   refine A5 rfl (fun hc => absurd hc (by decide)) (fun hc => ?_)
   refine D8 <| A3 <| A0 <| y_F rfl <| y_L rfl <| y_F rfl <| y_L rfl <| y_M rfl <| H8 (fs := [_, _, _]) rfl rfl rfl rfl rfl <| y_A rfl (fun _ => rfl) ?_
   intro g7
   refine D9 rfl rfl rfl rfl (F4 rfl (F4 rfl (L8 (by decide) I7))) (fun _ => rfl) ⟨by decide, rfl, dT rfl, Nat.le_refl _⟩ (fun _ => rfl) (fun _ => rfl) (fun _ => (by rfl)) ?_
   intro z
   simp only [I6, List.cons_append, List.nil_append]
   refine xN [1,2,3,4,7] [1,2,3,7] rfl <| A3 <| A3 <| A0 <| y_M rfl <| J9 rfl <| xN [1,2,3,7,46] [1,2,3,7] rfl ?_
   refine A5 rfl (fun hc => ?_) (fun hc => absurd hc (by decide))
   refine A3 <| A0 <| y_B rfl <| D9 rfl rfl rfl rfl (F4 rfl (F4 rfl (L8 (by decide) I7))) (fun _ => rfl) ⟨by decide, rfl, dT rfl, Nat.le_refl _⟩ (fun _ => rfl) (fun _ => rfl) (fun _ => (by rfl)) ?_
   intro z
   simp only [I6, List.cons_append, List.nil_append]
   refine xN [2] [2,3] rfl <| A9 <| C2 (E9 rfl rfl rfl rfl (E3 rfl (E3 rfl (J5 rfl rfl (by simp) (fun _ => rfl) G6))) (C7 B5)) ?_
   rfl
  ·rw [b9m]
    
   refine y_A rfl (fun _ => rfl) ?_
   intro g2
   refine xN [1,2] [1,2] rfl <| A3 <| A0 <| B6 (es := List.map trV []) rfl rfl (dT rfl) rfl rfl (fun _ => B2 (A7 fun _ => rfl)) (fun _ => rfl) ?_
   intro g11
   (refine xO rfl rfl (by simp) rfl (fun _ => rfl) (fun _ => rfl) ?_; intro g3)
   refine xN [1,2,3] [1,2,3] rfl <| A3 <| A0 <| y_F rfl <| y_L rfl <| B9 rfl rfl <| N9 rfl rfl <| y_S rfl <| xN [1,2,3,4] [1,2,3] rfl <| A3 <| A3 <| A0 <| y_S rfl <| xN [1,2,3,4,5] [1,2,3] rfl <| B0 <| F9 <| A3 <| A3 <| A0 <| y_M rfl <| y_F rfl <| y_L rfl <| B9 rfl rfl <| F8 rfl rfl <| xN [1,2,3,4,5,20] [1,2,3] rfl ?_
   refine A5 rfl (fun hc => absurd hc (by decide)) (fun hc => ?_)
   refine D8 <| A3 <| A0 <| y_F rfl <| y_L rfl <| y_F rfl <| y_L rfl <| y_M rfl <| H8 (fs := [_, _, _]) rfl rfl rfl rfl rfl <| y_A rfl (fun _ => rfl) ?_
   intro g7
   refine D9 rfl rfl rfl rfl (F4 rfl (F4 rfl (L8 (by decide) I7))) (fun _ => rfl) ⟨by decide, rfl, dT rfl, Nat.le_refl _⟩ (fun _ => rfl) (fun _ => rfl) (fun _ => (by rfl)) ?_
   intro z
   simp only [I6, List.cons_append, List.nil_append]
   refine xN [1,2,3,4,7] [1,2,3,7] rfl <| A3 <| A3 <| A0 <| y_M rfl <| J9 rfl <| xN [1,2,3,7,46] [1,2,3,7] rfl ?_
   refine A5 rfl (fun hc => ?_) (fun hc => absurd hc (by decide))
   refine A3 <| A0 <| y_B rfl <| D9 rfl rfl rfl rfl (F4 rfl (F4 rfl (L8 (by decide) I7))) (fun _ => rfl) ⟨by decide, rfl, dT rfl, Nat.le_refl _⟩ (fun _ => rfl) (fun _ => rfl) (fun _ => (by rfl)) ?_
   intro z
   simp only [I6, List.cons_append, List.nil_append]
   refine xN [2] [2,3] rfl <| A9 <| C2 (E9 rfl rfl rfl rfl (E3 rfl (E3 rfl (J5 rfl rfl (by simp) (fun _ => rfl) G6))) (C7 B5)) ?_
   rfl
  ·rw [c4m]
   have hsz1 : (Pl.un w p).sz = p.sz + 1 := rfl
   have hn : nd (bA w) = 1 := (T3 (by have h := hwf.1; omega)).trans hwf.1
   refine y_A rfl (fun _ => rfl) ?_
   intro g2
   refine xN [1,2] [1,2] rfl <| A3 <| A0 <| B6 (es := List.map trV []) rfl rfl (dT rfl) rfl rfl (fun _ => B2 (A7 fun _ => rfl)) (fun _ => rfl) ?_
   intro g11
   (refine xO rfl rfl (by simp) rfl (fun _ => rfl) (fun _ => rfl) ?_; intro g3)
   refine xN [1,2,3] [1,2,3] rfl <| A3 <| A0 <| y_F rfl <| y_L rfl <| B9 rfl rfl <| N9 rfl rfl <| y_S rfl <| xN [1,2,3,4] [1,2,3] rfl <| A3 <| A3 <| A0 <| y_S rfl <| xN [1,2,3,4,5] [1,2,3] rfl <| B0 <| F9 <| A3 <| A3 <| A0 <| y_M rfl <| y_F rfl <| y_L rfl <| B9 rfl rfl <| F8 rfl rfl <| xN [1,2,3,4,5,20] [1,2,3] rfl ?_
   refine A5 rfl (fun hc => ?_) (fun hc => absurd hc (by exact fun h => Bool.noConfusion (show true = false from h)))
   refine A6 <| A3 <| B0 <| A3 <| A0 <| y_F rfl <| y_L rfl <| y_M rfl <| I3 rfl rfl rfl (fun _ => rfl) (by show (0 : Int) ≤ 0 ∧ (0 : Int) < ((1 : Nat) : Int); omega) <| y_I rfl ?_
   refine xC1 rfl rfl ((by have hi := ih p hgd.2.2 hwf.2 (by omega) (by omega); rw [← P8] at hi; exact hi)) ⟨rfl, rfl, rfl⟩ rfl rfl fun g28 => ?_
   refine y_A rfl (fun _ => rfl) ?_
   intro g6
   refine xB rfl rfl rfl rfl rfl rfl rfl rfl rfl <| xN [1,2,3,4,5,6] [1,2,3,6] rfl <| A3 <| A0 <| y_M rfl <| y_M rfl <| I9 rfl rfl rfl <| y_F rfl <| I9 rfl rfl rfl <| y_L rfl <| I9 rfl rfl rfl <| Q7 rfl rfl <| E8 rfl rfl rfl rfl <| y_S rfl <| xN [1,2,3,4,5,6] [1,2,3,6] rfl <| A0 <| y_M rfl <| y_B rfl <| B6 (es := List.map trV [_]) rfl rfl (dT rfl) rfl rfl (fun _ => B2 (A7 fun _ => rfl)) (fun _ => rfl) ?_
   intro g37
   refine xA rfl rfl rfl rfl (by simp) (by simp) rfl rfl rfl rfl rfl (fun _ => rfl) (by simp only [LN]; omega) (fun _ => rfl) ?_
   intro g38
   (refine xO rfl rfl (by simp) rfl (fun _ => rfl) (fun _ => rfl) ?_; intro g3)
   refine xN [1,2,3,4,5] [1,2,3] rfl <| A0 <| y_M rfl <| E6 rfl rfl (C4 (by omega)) <| y_S rfl <| xN [1,2,3,4,5] [1,2,3] rfl <| F9 <| A3 <| A3 <| A0 <| y_M rfl <| y_F rfl <| y_L rfl <| B9 rfl rfl <| F8 rfl rfl <| xN [1,2,3,4,5,20] [1,2,3] rfl ?_
   refine A5 rfl (fun hc => absurd hc (by exact fun h => Bool.noConfusion (show false = true from h))) (fun hc => ?_)
   refine D8 <| A3 <| A0 <| y_F rfl <| y_L rfl <| y_F rfl <| y_L rfl <| y_M rfl <| H8 (fs := [_, _, _]) rfl rfl rfl rfl rfl <| y_A rfl (fun _ => rfl) ?_
   intro g7
   refine D9 rfl rfl rfl rfl (F4 rfl (F4 rfl (L8 (by decide) I7))) (fun _ => rfl) ⟨by decide, rfl, dT rfl, Nat.le_refl _⟩ (fun _ => rfl) (fun _ => rfl) (fun _ => (by rfl)) ?_
   intro z
   simp only [I6, List.cons_append, List.nil_append]
   refine xN [1,2,3,4,7] [1,2,3,7] rfl <| A3 <| A3 <| A0 <| y_M rfl <| J9 rfl <| xN [1,2,3,7,46] [1,2,3,7] rfl ?_
   refine A5 rfl ?_ ?_ <;> intro hc <;> try simp only [SL] at hc
   ·have hnl : ∀ ns, foldP p ≠ .lst ns := fun ns e => hc (by rw [e]; rfl)
    refine A3 <| A0 <| y_B rfl <| D9 rfl rfl rfl rfl (F4 rfl (F4 rfl (L8 (by decide) I7))) (fun _ => rfl) ⟨by decide, rfl, dT rfl, Nat.le_refl _⟩ (fun _ => rfl) (fun _ => rfl) (fun _ => (by rfl)) ?_
    intro z
    simp only [I6, List.cons_append, List.nil_append]
    refine xN [2] [2,3] rfl <| A9 <| C2 (E9 rfl rfl rfl rfl (E3 rfl (E3 rfl (J5 rfl rfl (by simp) (fun _ => rfl) G6))) (C7 B5)) ?_
    rw [b7q hnl]
    show _ = AV.agg [tV w, .list [], .list [trV (foldP p)]]
    rfl
   obtain ⟨ms, hp, hvp⟩ := W0 (N7 _ hgd.2.2) (show (foldP p).op = lW by assumption)
   rw [hp]
   refine A6 <| A3 <| A0 <| B6 (es := List.map iV []) rfl rfl (dT rfl) rfl rfl (fun _ => B2 (A7 fun _ => rfl)) (fun _ => rfl) ?_
   intro g48
   (refine xO rfl rfl (by simp) rfl (fun _ => rfl) (fun _ => rfl) ?_; intro g8)
   refine xN [1,2,3,7,8] [1,2,3,7,8] rfl <| A3 <| A3 <| A0 <| y_M rfl <| M3 rfl rfl <| O2 rfl rfl <| xN [1,2,3,7,8,51] [1,2,3,7,8] rfl ?_
   refine A5 rfl (fun hc => absurd hc (by exact fun h => Bool.noConfusion (show false = true from h))) (fun hc => ?_)
   refine A6 <| A3 <| A0 <| y_F rfl <| y_L rfl <| y_M rfl <| F0 rfl rfl rfl rfl (by (simp; done)) (by (simp; done)) rfl <| y_F rfl <| a1r rfl rfl (by (simp; done)) (fun _ => rfl) rfl rfl <| y_M rfl ?_
   apply xC rfl
   ·apply A8
    ·exact B7 rfl
    apply A8
    ·exact B7 rfl
    apply A8
    ·exact H3 rfl rfl rfl (by (simp; done)) (fun _ => rfl)
    exact C3
   ·exact c7o (bA w) (by omega) ms [] (c2j hvp) d2p
   refine ⟨⟨rfl, rfl, rfl, dT rfl, rfl⟩, .inr ⟨I1 _ _, rfl⟩, B3, G5 (L1 fun _ => I0 rfl L0), fun _ => rfl, fun g64 => ?_⟩
   simp only [List.length_map]
   refine y_M rfl <| y_E rfl <| y_E rfl ?_
   (refine xO rfl rfl (by simp) rfl (fun _ => rfl) (fun _ => rfl) ?_; intro g9)
   refine y_S rfl ?_
   refine J7 ⟨fun _ => ⟨by (simp only [a0h, List.nil_append, List.append_nil, List.map_cons, List.map_nil, List.cons_append]; decide +kernel), by decide +kernel⟩, [(.t 2, _), (.t 7, _), (.t 9, _), (.t 10, _), (.h 2, _), (.h 7, _), (.h 3, _), (.h 9, _)], ⟨rfl, rfl, rfl, rfl, rfl, rfl, rfl, rfl, rfl, rfl, rfl, rfl, rfl, rfl, rfl, rfl, trivial⟩, ?_⟩
   refine A3 <| A3 <| A0 <| y_M rfl <| J9 rfl <| y_M rfl ?_
   refine C5 rfl rfl ?_ ?_ <;> intro hg0 <;> have hg := hg0 <;> try simp only [SG] at hg
   ·refine y_M rfl <| gT rfl rfl ?_
    obtain ⟨r, hr⟩ := Option.isSome_iff_exists.1 (show (mkR (bA w) ms []).isSome = true by assumption)
    have hraw := c7a hr
    have hrl := (Q6.1 (a9e hr)).1
    rw [hraw]
    apply xC rfl
    ·apply A8
     ·exact H3 rfl rfl rfl (by (simp; done)) (fun _ => rfl)
     exact C3
    ·exact a3w r (by omega)
    refine ⟨⟨rfl, rfl, rfl, dT rfl, rfl⟩, .inr ⟨rfl, rfl⟩, B3, C6 rfl, fun _ => rfl, fun g71 => ?_⟩
    refine gT rfl rfl <| J9 rfl <| F7 rfl (by assumption) rfl rfl <| xN [2,7,9,73] [2,7,3,9] rfl ?_
    refine A5 rfl ?_ ?_ <;> intro hc <;> try simp only [SL] at hc
    ·refine A3 <| A0 <| y_B rfl <| D9 rfl rfl rfl rfl (F4 rfl (F4 rfl (L8 (by decide) I7))) (fun _ => rfl) ⟨by decide, rfl, dT rfl, Nat.le_refl _⟩ (fun _ => rfl) (fun _ => rfl) (fun _ => (by rfl)) ?_
     intro z
     simp only [I6, List.cons_append, List.nil_append]
     refine xN [2] [2,3] rfl <| A9 <| C2 (E9 rfl rfl rfl rfl (E3 rfl (E3 rfl (J5 rfl rfl (by simp) (fun _ => rfl) G6))) (C7 B5)) ?_
     have hx : mkR (bA w) ms [] = none ∨ ∃ r, mkR (bA w) ms [] = some r ∧ vd r = false := by exact .inr ⟨r, hr, by simpa using hc⟩
     rw [a5x hp hx]
     rfl
    refine A6 <| A3 <| A0 <| y_M rfl <| H8 (fs := [_, _, _]) rfl rfl rfl rfl rfl <| D9 rfl rfl rfl rfl (F4 rfl (L8 (by decide) (F4 rfl I7))) (fun _ => rfl) ⟨by decide, rfl, dT rfl, Nat.le_refl _⟩ (fun _ => rfl) (fun _ => rfl) (fun _ => (by rfl)) ?_
    intro z
    simp only [I6, List.cons_append, List.nil_append]
    refine xN [2] [2,9] rfl <| A9 <| C2 (E9 rfl rfl rfl rfl (E3 rfl (J5 rfl rfl (by simp) (fun _ => rfl) (H1 rfl G6))) (C7 B5)) ?_
    rw [b6u hp hr (by simpa using hc)]
    rfl
   refine gF rfl rfl <| gF rfl rfl <| E8 rfl (by assumption) rfl rfl <| xN [2,7,9,73] [2,7,3,9] rfl ?_
   refine A5 rfl (fun hc => ?_) (fun hc => absurd hc (by decide))
   refine A3 <| A0 <| y_B rfl <| D9 rfl rfl rfl rfl (F4 rfl (F4 rfl (L8 (by decide) I7))) (fun _ => rfl) ⟨by decide, rfl, dT rfl, Nat.le_refl _⟩ (fun _ => rfl) (fun _ => rfl) (fun _ => (by rfl)) ?_
   intro z
   simp only [I6, List.cons_append, List.nil_append]
   refine xN [2] [2,3] rfl <| A9 <| C2 (E9 rfl rfl rfl rfl (E3 rfl (E3 rfl (J5 rfl rfl (by simp) (fun _ => rfl) G6))) (C7 B5)) ?_
   have hx : mkR (bA w) ms [] = none ∨ ∃ r, mkR (bA w) ms [] = some r ∧ vd r = false := by exact .inl (by simpa using hg)
   rw [a5x hp hx]
   rfl
  rw [b7z]
  have hsz1 : (Pl.bin w p q).sz = p.sz + q.sz + 1 := rfl
  have hn : nd (bA w) = 2 := (T3 (by have h := hwf.1; omega)).trans hwf.1
  refine y_A rfl (fun _ => rfl) ?_
  intro g2
  refine xN [1,2] [1,2] rfl <| A3 <| A0 <| B6 (es := List.map trV []) rfl rfl (dT rfl) rfl rfl (fun _ => B2 (A7 fun _ => rfl)) (fun _ => rfl) ?_
  intro g11
  (refine xO rfl rfl (by simp) rfl (fun _ => rfl) (fun _ => rfl) ?_; intro g3)
  refine xN [1,2,3] [1,2,3] rfl <| A3 <| A0 <| y_F rfl <| y_L rfl <| B9 rfl rfl <| N9 rfl rfl <| y_S rfl <| xN [1,2,3,4] [1,2,3] rfl <| A3 <| A3 <| A0 <| y_S rfl <| xN [1,2,3,4,5] [1,2,3] rfl <| B0 <| F9 <| A3 <| A3 <| A0 <| y_M rfl <| y_F rfl <| y_L rfl <| B9 rfl rfl <| F8 rfl rfl <| xN [1,2,3,4,5,20] [1,2,3] rfl ?_
  refine A5 rfl (fun hc => ?_) (fun hc => absurd hc (by exact fun h => Bool.noConfusion (show true = false from h)))
  refine A6 <| A3 <| B0 <| A3 <| A0 <| y_F rfl <| y_L rfl <| y_M rfl <| I3 rfl rfl rfl (fun _ => rfl) (by show (0 : Int) ≤ 0 ∧ (0 : Int) < ((2 : Nat) : Int); omega) <| y_I rfl ?_
  refine xC1 rfl rfl ((by have hi := ih p hgd.2.2.1 hwf.2.1 (by omega) (by omega); rw [← P8] at hi; exact hi)) ⟨rfl, rfl, rfl⟩ rfl rfl fun g28 => ?_
  refine y_A rfl (fun _ => rfl) ?_
  intro g6
  refine xB rfl rfl rfl rfl rfl rfl rfl rfl rfl <| xN [1,2,3,4,5,6] [1,2,3,6] rfl <| A3 <| A0 <| y_M rfl <| y_M rfl <| I9 rfl rfl rfl <| y_F rfl <| I9 rfl rfl rfl <| y_L rfl <| I9 rfl rfl rfl <| Q7 rfl rfl <| E8 rfl rfl rfl rfl <| y_S rfl <| xN [1,2,3,4,5,6] [1,2,3,6] rfl <| A0 <| y_M rfl <| y_B rfl <| B6 (es := List.map trV [_]) rfl rfl (dT rfl) rfl rfl (fun _ => B2 (A7 fun _ => rfl)) (fun _ => rfl) ?_
  intro g37
  refine xA rfl rfl rfl rfl (by simp) (by simp) rfl rfl rfl rfl rfl (fun _ => rfl) (by simp only [LN]; omega) (fun _ => rfl) ?_
  intro g38
  (refine xO rfl rfl (by simp) rfl (fun _ => rfl) (fun _ => rfl) ?_; intro g3)
  refine xN [1,2,3,4,5] [1,2,3] rfl <| A0 <| y_M rfl <| E6 rfl rfl (C4 (by omega)) <| y_S rfl <| xN [1,2,3,4,5] [1,2,3] rfl <| F9 <| A3 <| A3 <| A0 <| y_M rfl <| y_F rfl <| y_L rfl <| B9 rfl rfl <| F8 rfl rfl <| xN [1,2,3,4,5,20] [1,2,3] rfl ?_
  refine A5 rfl (fun hc => ?_) (fun hc => absurd hc (by exact fun h => Bool.noConfusion (show true = false from h)))
  refine A6 <| A3 <| B0 <| A3 <| A0 <| y_F rfl <| y_L rfl <| y_M rfl <| I3 rfl rfl rfl (fun _ => rfl) (by show (0 : Int) ≤ 1 ∧ (1 : Int) < ((2 : Nat) : Int); omega) <| y_I rfl ?_
  refine xC1 rfl rfl ((by have hi := ih q hgd.2.2.2 hwf.2.2 (by omega) (by omega); rw [← P8] at hi; exact hi)) ⟨rfl, rfl, rfl⟩ rfl rfl fun g28 => ?_
  refine y_A rfl (fun _ => rfl) ?_
  intro g6
  refine xB rfl rfl rfl rfl rfl rfl rfl rfl rfl <| xN [1,2,3,4,5,6] [1,2,3,6] rfl <| A3 <| A0 <| y_M rfl <| y_M rfl ?_
  refine C5 rfl rfl ?_ ?_ <;> intro hg0 <;> have hg := hg0 <;> try simp only [SG] at hg
  ·refine y_F rfl <| gT rfl rfl <| y_L rfl <| gT rfl rfl <| Q7 rfl rfl <| E8 rfl (by assumption) rfl rfl <| y_S rfl <| xN [1,2,3,4,5,6] [1,2,3,6] rfl <| A0 <| y_M rfl <| y_B rfl <| B6 (es := List.map trV [_]) rfl rfl (dT rfl) rfl rfl (fun _ => B2 (A7 fun _ => rfl)) (fun _ => rfl) ?_
   intro g37
   refine xA rfl rfl rfl rfl (by simp) (by simp) rfl rfl rfl rfl rfl (fun _ => rfl) (by simp only [LN]; omega) (fun _ => rfl) ?_
   intro g38
   (refine xO rfl rfl (by simp) rfl (fun _ => rfl) (fun _ => rfl) ?_; intro g3)
   refine xN [1,2,3,4,5] [1,2,3] rfl <| A0 <| y_M rfl <| E6 rfl rfl (C4 (by omega)) <| y_S rfl <| xN [1,2,3,4,5] [1,2,3] rfl <| F9 <| A3 <| A3 <| A0 <| y_M rfl <| y_F rfl <| y_L rfl <| B9 rfl rfl <| F8 rfl rfl <| xN [1,2,3,4,5,20] [1,2,3] rfl ?_
   refine A5 rfl (fun hc => absurd hc (by exact fun h => Bool.noConfusion (show false = true from h))) (fun hc => ?_)
   refine D8 <| A3 <| A0 <| y_F rfl <| y_L rfl <| y_F rfl <| y_L rfl <| y_M rfl <| H8 (fs := [_, _, _]) rfl rfl rfl rfl rfl <| y_A rfl (fun _ => rfl) ?_
   intro g7
   refine D9 rfl rfl rfl rfl (F4 rfl (F4 rfl (L8 (by decide) I7))) (fun _ => rfl) ⟨by decide, rfl, dT rfl, Nat.le_refl _⟩ (fun _ => rfl) (fun _ => rfl) (fun _ => (by rfl)) ?_
   intro z
   simp only [I6, List.cons_append, List.nil_append]
   refine xN [1,2,3,4,7] [1,2,3,7] rfl <| A3 <| A3 <| A0 <| y_M rfl <| J9 rfl <| xN [1,2,3,7,46] [1,2,3,7] rfl ?_
   refine A5 rfl ?_ ?_ <;> intro hc <;> try simp only [SL] at hc
   ·have hnl : (∀ ns, foldP p ≠ .lst ns) ∨ ∀ ns, foldP q ≠ .lst ns := .inr fun ns e => hc (by rw [e]; rfl)
    refine A3 <| A0 <| y_B rfl <| D9 rfl rfl rfl rfl (F4 rfl (F4 rfl (L8 (by decide) I7))) (fun _ => rfl) ⟨by decide, rfl, dT rfl, Nat.le_refl _⟩ (fun _ => rfl) (fun _ => rfl) (fun _ => (by rfl)) ?_
    intro z
    simp only [I6, List.cons_append, List.nil_append]
    refine xN [2] [2,3] rfl <| A9 <| C2 (E9 rfl rfl rfl rfl (E3 rfl (E3 rfl (J5 rfl rfl (by simp) (fun _ => rfl) G6))) (C7 B5)) ?_
    rw [a3e hnl]
    show _ = AV.agg [tV w, .list [], .list [trV (foldP p), trV (foldP q)]]
    rfl
   obtain ⟨ms, hp, hvp⟩ := W0 (N7 _ hgd.2.2.1) (show (foldP p).op = lW by assumption)
   rw [hp]
   obtain ⟨ls, hq, hvq⟩ := W0 (N7 _ hgd.2.2.2) (show (foldP q).op = lW by assumption)
   rw [hq]
   refine A6 <| A3 <| A0 <| B6 (es := List.map iV []) rfl rfl (dT rfl) rfl rfl (fun _ => B2 (A7 fun _ => rfl)) (fun _ => rfl) ?_
   intro g48
   (refine xO rfl rfl (by simp) rfl (fun _ => rfl) (fun _ => rfl) ?_; intro g8)
   refine xN [1,2,3,7,8] [1,2,3,7,8] rfl <| A3 <| A3 <| A0 <| y_M rfl <| M3 rfl rfl <| O2 rfl rfl <| xN [1,2,3,7,8,51] [1,2,3,7,8] rfl ?_
   refine A5 rfl (fun hc => ?_) (fun hc => absurd hc (by exact fun h => Bool.noConfusion (show true = false from h)))
   refine A0 <| y_M rfl <| F0 rfl rfl rfl rfl (by (simp; done)) (by (simp; done)) rfl <| y_F rfl <| a1r rfl rfl (by (simp; done)) (fun _ => rfl) rfl rfl <| y_S rfl <| xN [1,2,3,7,8] [1,2,3,7,8] rfl <| A3 <| A0 <| y_F rfl <| y_L rfl <| y_M rfl <| F0 rfl rfl rfl rfl (by (simp; done)) (by (simp; done)) rfl <| y_F rfl <| a1r rfl rfl (by (simp; done)) (fun _ => rfl) rfl rfl <| y_M rfl ?_
   apply xC rfl
   ·apply A8
    ·exact B7 rfl
    apply A8
    ·exact B7 rfl
    apply A8
    ·exact B7 rfl
    exact C3
   ·exact c7o (bA w) (by omega) ms ls (c2j hvp) (c2j hvq)
   refine ⟨⟨rfl, rfl, rfl, dT rfl, rfl⟩, .inr ⟨I1 _ _, rfl⟩, B3, G5 (L1 fun _ => I0 rfl L0), fun _ => rfl, fun g64 => ?_⟩
   simp only [List.length_map]
   refine y_M rfl <| y_E rfl <| y_E rfl ?_
   (refine xO rfl rfl (by simp) rfl (fun _ => rfl) (fun _ => rfl) ?_; intro g9)
   refine y_S rfl ?_
   refine J7 ⟨fun _ => ⟨by (simp only [a0h, List.nil_append, List.append_nil, List.map_cons, List.map_nil, List.cons_append]; decide +kernel), by decide +kernel⟩, [(.t 2, _), (.t 7, _), (.t 9, _), (.t 10, _), (.h 2, _), (.h 7, _), (.h 3, _), (.h 9, _)], ⟨rfl, rfl, rfl, rfl, rfl, rfl, rfl, rfl, rfl, rfl, rfl, rfl, rfl, rfl, rfl, rfl, trivial⟩, ?_⟩
   refine A3 <| A3 <| A0 <| y_M rfl <| J9 rfl <| y_M rfl ?_
   refine C5 rfl rfl ?_ ?_ <;> intro hg0 <;> have hg := hg0 <;> try simp only [SG] at hg
   ·refine y_M rfl <| gT rfl rfl ?_
    obtain ⟨r, hr⟩ := Option.isSome_iff_exists.1 (show (mkR (bA w) ms ls).isSome = true by assumption)
    have hraw := c7a hr
    have hrl := (Q6.1 (a9e hr)).1
    rw [hraw]
    apply xC rfl
    ·apply A8
     ·exact H3 rfl rfl rfl (by (simp; done)) (fun _ => rfl)
     exact C3
    ·exact a3w r (by omega)
    refine ⟨⟨rfl, rfl, rfl, dT rfl, rfl⟩, .inr ⟨rfl, rfl⟩, B3, C6 rfl, fun _ => rfl, fun g71 => ?_⟩
    refine gT rfl rfl <| J9 rfl <| F7 rfl (by assumption) rfl rfl <| xN [2,7,9,73] [2,7,3,9] rfl ?_
    refine A5 rfl ?_ ?_ <;> intro hc <;> try simp only [SL] at hc
    ·refine A3 <| A0 <| y_B rfl <| D9 rfl rfl rfl rfl (F4 rfl (F4 rfl (L8 (by decide) I7))) (fun _ => rfl) ⟨by decide, rfl, dT rfl, Nat.le_refl _⟩ (fun _ => rfl) (fun _ => rfl) (fun _ => (by rfl)) ?_
     intro z
     simp only [I6, List.cons_append, List.nil_append]
     refine xN [2] [2,3] rfl <| A9 <| C2 (E9 rfl rfl rfl rfl (E3 rfl (E3 rfl (J5 rfl rfl (by simp) (fun _ => rfl) G6))) (C7 B5)) ?_
     have hx : mkR (bA w) ms ls = none ∨ ∃ r, mkR (bA w) ms ls = some r ∧ vd r = false := by exact .inr ⟨r, hr, by simpa using hc⟩
     rw [a3l hp hq hx]
     rfl
    refine A6 <| A3 <| A0 <| y_M rfl <| H8 (fs := [_, _, _]) rfl rfl rfl rfl rfl <| D9 rfl rfl rfl rfl (F4 rfl (L8 (by decide) (F4 rfl I7))) (fun _ => rfl) ⟨by decide, rfl, dT rfl, Nat.le_refl _⟩ (fun _ => rfl) (fun _ => rfl) (fun _ => (by rfl)) ?_
    intro z
    simp only [I6, List.cons_append, List.nil_append]
    refine xN [2] [2,9] rfl <| A9 <| C2 (E9 rfl rfl rfl rfl (E3 rfl (J5 rfl rfl (by simp) (fun _ => rfl) (H1 rfl G6))) (C7 B5)) ?_
    rw [b2r hp hq hr (by simpa using hc)]
    rfl
   refine gF rfl rfl <| gF rfl rfl <| E8 rfl (by assumption) rfl rfl <| xN [2,7,9,73] [2,7,3,9] rfl ?_
   refine A5 rfl (fun hc => ?_) (fun hc => absurd hc (by decide))
   refine A3 <| A0 <| y_B rfl <| D9 rfl rfl rfl rfl (F4 rfl (F4 rfl (L8 (by decide) I7))) (fun _ => rfl) ⟨by decide, rfl, dT rfl, Nat.le_refl _⟩ (fun _ => rfl) (fun _ => rfl) (fun _ => (by rfl)) ?_
   intro z
   simp only [I6, List.cons_append, List.nil_append]
   refine xN [2] [2,3] rfl <| A9 <| C2 (E9 rfl rfl rfl rfl (E3 rfl (E3 rfl (J5 rfl rfl (by simp) (fun _ => rfl) G6))) (C7 B5)) ?_
   have hx : mkR (bA w) ms ls = none ∨ ∃ r, mkR (bA w) ms ls = some r ∧ vd r = false := by exact .inl (by simpa using hg)
   rw [a3l hp hq hx]
   rfl
  refine gF rfl rfl <| gF rfl rfl <| F7 rfl (by assumption) rfl rfl <| y_S rfl <| xN [1,2,3,4,5,6] [1,2,3,6] rfl <| A0 <| y_M rfl <| y_B rfl <| B6 (es := List.map trV [_]) rfl rfl (dT rfl) rfl rfl (fun _ => B2 (A7 fun _ => rfl)) (fun _ => rfl) ?_
  intro g37
  refine xA rfl rfl rfl rfl (by simp) (by simp) rfl rfl rfl rfl rfl (fun _ => rfl) (by simp only [LN]; omega) (fun _ => rfl) ?_
  intro g38
  (refine xO rfl rfl (by simp) rfl (fun _ => rfl) (fun _ => rfl) ?_; intro g3)
  refine xN [1,2,3,4,5] [1,2,3] rfl <| A0 <| y_M rfl <| E6 rfl rfl (C4 (by omega)) <| y_S rfl <| xN [1,2,3,4,5] [1,2,3] rfl <| F9 <| A3 <| A3 <| A0 <| y_M rfl <| y_F rfl <| y_L rfl <| B9 rfl rfl <| F8 rfl rfl <| xN [1,2,3,4,5,20] [1,2,3] rfl ?_
  refine A5 rfl (fun hc => absurd hc (by exact fun h => Bool.noConfusion (show false = true from h))) (fun hc => ?_)
  refine D8 <| A3 <| A0 <| y_F rfl <| y_L rfl <| y_F rfl <| y_L rfl <| y_M rfl <| H8 (fs := [_, _, _]) rfl rfl rfl rfl rfl <| y_A rfl (fun _ => rfl) ?_
  intro g7
  refine D9 rfl rfl rfl rfl (F4 rfl (F4 rfl (L8 (by decide) I7))) (fun _ => rfl) ⟨by decide, rfl, dT rfl, Nat.le_refl _⟩ (fun _ => rfl) (fun _ => rfl) (fun _ => (by rfl)) ?_
  intro z
  simp only [I6, List.cons_append, List.nil_append]
  refine xN [1,2,3,4,7] [1,2,3,7] rfl <| A3 <| A3 <| A0 <| y_M rfl <| J9 rfl <| xN [1,2,3,7,46] [1,2,3,7] rfl ?_
  refine A5 rfl (fun hc => ?_) (fun hc => absurd hc (by decide))
  refine A3 <| A0 <| y_B rfl <| D9 rfl rfl rfl rfl (F4 rfl (F4 rfl (L8 (by decide) I7))) (fun _ => rfl) ⟨by decide, rfl, dT rfl, Nat.le_refl _⟩ (fun _ => rfl) (fun _ => rfl) (fun _ => (by rfl)) ?_
  intro z
  simp only [I6, List.cons_append, List.nil_append]
  refine xN [2] [2,3] rfl <| A9 <| C2 (E9 rfl rfl rfl rfl (E3 rfl (E3 rfl (J5 rfl rfl (by simp) (fun _ => rfl) G6))) (C7 B5)) ?_
  rw [a3e (.inl fun ns e => hg (by rw [e]; rfl))]
  show _ = AV.agg [tV w, .list [], .list [trV (foldP p), trV (foldP q)]]
  rfl

theorem b9o : E7 Tryz.f118 = [0, 2, 1, 22, 21, 23, 20, 6, 7, 4, 3, 41, 8, 9, 51, 27, 38, 50] := by kernel_rfl
theorem d4m (t : Pl) (hgd : t.good) (hwf : t.wf) (hsz : t.sz ≤ 1000) : CW (cxT oG) 118 [trK t] = some (trV (foldP t), []) := by
 obtain ⟨kk, hkk⟩ : ∃ kk : Nat, t.sz < kk := ⟨_, Nat.lt_succ_self _⟩
 revert t
 induction kk with
 | zero => intro t hgd hwf hsz hkk; exact absurd hkk (Nat.not_lt_zero _)
 | succ kk ih =>
  intro t hgd hwf hsz hkk
  refine E4 rfl Tryz.func118 rfl ⟨by kernel_rfl, rfl, dT rfl, dT rfl, by decide⟩ b9o <| A3 <| A0 <| a2g rfl rfl rfl (fun _ => M2 rfl) (fun _ => rfl) ?_
  intro g1
  rcases t with ns | w | ⟨w, p⟩ | ⟨w, p, q⟩
  ·rw [b9v]
    
   refine y_A rfl (fun _ => rfl) ?_
   intro g2
   refine xN [1,2] [1,2] rfl <| A3 <| A0 <| y_F rfl <| y_L rfl <| y_F rfl <| y_L rfl <| H8 (fs := [_, _, _]) rfl rfl rfl rfl rfl <| y_A rfl (fun _ => rfl) ?_
   intro g3
   refine xB rfl rfl rfl rfl rfl rfl rfl rfl rfl <| xN [1,2,3] [1,2,3] rfl <| A3 <| A0 <| y_F rfl <| y_L rfl <| B9 rfl rfl <| N9 rfl rfl <| y_S rfl <| xN [1,2,3,4] [1,2,3] rfl <| A3 <| A3 <| A0 <| y_F rfl <| y_L rfl <| B9 rfl rfl <| y_M rfl <| xN [2,3,4,20,21,22] [2,3] rfl <| B0 <| F9 <| A3 <| A0 <| F8 rfl rfl <| xN [2,3,4,20,21,22,23] [2,3] rfl <| A3 ?_
   refine A5 rfl (fun hc => absurd hc (by decide)) (fun hc => ?_)
   refine D8 <| A3 <| A3 <| A0 <| y_M rfl <| xN [2,3,41] [2,3] rfl ?_
   refine A5 rfl (fun hc => absurd hc (by decide)) (fun hc => ?_)
   refine A6 <| A3 <| A0 <| y_B rfl <| xB rfl rfl rfl rfl rfl rfl rfl rfl rfl <| xN [2] [2] rfl <| A9 <| C2 (E9 rfl rfl rfl rfl (E3 rfl (E3 rfl (H1 rfl G6))) (C7 B5)) ?_
   rfl
  ·rw [b9m]
    
   refine y_A rfl (fun _ => rfl) ?_
   intro g2
   refine xN [1,2] [1,2] rfl <| A3 <| A0 <| y_F rfl <| y_L rfl <| y_F rfl <| y_L rfl <| H8 (fs := [_, _, _]) rfl rfl rfl rfl rfl <| y_A rfl (fun _ => rfl) ?_
   intro g3
   refine xB rfl rfl rfl rfl rfl rfl rfl rfl rfl <| xN [1,2,3] [1,2,3] rfl <| A3 <| A0 <| y_F rfl <| y_L rfl <| B9 rfl rfl <| N9 rfl rfl <| y_S rfl <| xN [1,2,3,4] [1,2,3] rfl <| A3 <| A3 <| A0 <| y_F rfl <| y_L rfl <| B9 rfl rfl <| y_M rfl <| xN [2,3,4,20,21,22] [2,3] rfl <| B0 <| F9 <| A3 <| A0 <| F8 rfl rfl <| xN [2,3,4,20,21,22,23] [2,3] rfl <| A3 ?_
   refine A5 rfl (fun hc => absurd hc (by decide)) (fun hc => ?_)
   refine D8 <| A3 <| A3 <| A0 <| y_M rfl <| xN [2,3,41] [2,3] rfl ?_
   refine A5 rfl (fun hc => absurd hc (by decide)) (fun hc => ?_)
   refine A6 <| A3 <| A0 <| y_B rfl <| xB rfl rfl rfl rfl rfl rfl rfl rfl rfl <| xN [2] [2] rfl <| A9 <| C2 (E9 rfl rfl rfl rfl (E3 rfl (E3 rfl (H1 rfl G6))) (C7 B5)) ?_
   rfl
  ·rw [c4m]
   have hsz1 : (Pl.un w p).sz = p.sz + 1 := rfl
   have hn : nd (bA w) = 1 := (T3 (by have h := hwf.1; omega)).trans hwf.1
   refine y_A rfl (fun _ => rfl) ?_
   intro g2
   refine xN [1,2] [1,2] rfl <| A3 <| A0 <| y_F rfl <| y_L rfl <| y_F rfl <| y_L rfl <| H8 (fs := [_, _, _]) rfl rfl rfl rfl rfl <| y_A rfl (fun _ => rfl) ?_
   intro g3
   refine xB rfl rfl rfl rfl rfl rfl rfl rfl rfl <| xN [1,2,3] [1,2,3] rfl <| A3 <| A0 <| y_F rfl <| y_L rfl <| B9 rfl rfl <| N9 rfl rfl <| y_S rfl <| xN [1,2,3,4] [1,2,3] rfl <| A3 <| A3 <| A0 <| y_F rfl <| y_L rfl <| B9 rfl rfl <| y_M rfl <| xN [2,3,4,20,21,22] [2,3] rfl <| B0 <| F9 <| A3 <| A0 <| F8 rfl rfl <| xN [2,3,4,20,21,22,23] [2,3] rfl <| A3 ?_
   refine A5 rfl (fun hc => ?_) (fun hc => absurd hc (by exact fun h => Bool.noConfusion (show true = false from h)))
   refine A6 <| A3 <| B0 <| A3 <| A0 <| I3 rfl rfl rfl (fun _ => rfl) (by show (0 : Int) ≤ 0 ∧ (0 : Int) < ((1 : Nat) : Int); omega) <| y_I rfl <| y_A rfl (fun _ => rfl) ?_
   intro g6
   refine xB rfl rfl rfl rfl rfl rfl rfl rfl rfl <| xN [2,3,4,6,20,21,22] [2,3,6] rfl <| A3 <| A0 <| y_B rfl ?_
   refine xC1 rfl rfl ((by have hi := ih p hgd.2.2 hwf.2 (by omega) (by omega); rw [← P8] at hi; exact hi)) ⟨rfl, rfl, rfl⟩ rfl rfl fun g27 => ?_
   refine y_A rfl (fun _ => rfl) ?_
   intro g7
   refine xB rfl rfl rfl rfl rfl rfl rfl rfl rfl <| xN [2,3,4,7,20,21,22] [2,3,7] rfl <| A3 <| A0 <| y_M rfl <| y_M rfl <| I9 rfl rfl rfl <| y_F rfl <| I9 rfl rfl rfl <| y_L rfl <| I9 rfl rfl rfl <| Q7 rfl rfl <| E8 rfl rfl rfl rfl <| y_S rfl <| xN [2,3,4,7,20,21,22] [2,3,7] rfl <| A0 <| y_F rfl <| y_L rfl <| y_B rfl <| B6 (es := List.map trV [_]) rfl rfl (dT rfl) rfl rfl (fun _ => B2 (A7 fun _ => rfl)) (fun _ => rfl) ?_
   intro g37
   refine Q4 rfl rfl rfl (by simp) (by decide) rfl rfl rfl (dT rfl) (fun _ => ⟨rfl, rfl⟩) (by simp only [H2]; (simp only [List.length_nil, List.length_cons, List.length_append, Nat.zero_add, List.length_map]; omega)) (fun _ => rfl) ?_
   intro g38
   refine y_F rfl <| L9 rfl rfl rfl rfl rfl (Nat.le_refl _) rfl <| xN [2,3,4,20,21,22] [2,3,1000038] rfl <| A0 <| E6 rfl rfl (C4 (by omega)) <| y_M rfl <| xN [2,3,4,20,21,22] [2,3,1000038] rfl <| F9 <| A3 <| A0 <| F8 rfl rfl <| xN [2,3,4,20,21,22,23] [2,3,1000038] rfl <| A3 ?_
   refine A5 rfl (fun hc => absurd hc (by exact fun h => Bool.noConfusion (show false = true from h))) (fun hc => ?_)
   refine D8 <| A3 <| A3 <| A0 <| y_M rfl <| xN [2,3,41] [2,3,1000038] rfl ?_
   refine A5 rfl ?_ ?_ <;> intro hc <;> try simp only [SL] at hc
   ·obtain ⟨ms, hp, hvp⟩ := W0 (N7 _ hgd.2.2) (show (foldP p).op = lW by assumption)
    rw [hp]
    refine A3 <| A0 <| y_B rfl ?_
    apply xC rfl
    ·apply A8
     ·exact d1d (dT rfl) (d1j (c8d (d0q rfl rfl (by simp) (fun _ => rfl) d2o)))
     apply A8
     ·exact c8g (dT rfl)
     exact C3
    ·exact (by have hi := c4j (oG := oG) (.un w (.lst ms)) ⟨hgd.1, hgd.2.1, hvp⟩ ⟨hwf.1, trivial⟩ [] rfl (by simp) (by simp); exact hi)
    refine ⟨⟨rfl, rfl, rfl, dT rfl, rfl⟩, .inr ⟨I1 _ _, rfl⟩, B3, G5 (L1 fun _ => I0 rfl L0), fun _ => rfl, fun g44 => ?_⟩
    simp only [List.length_map]
    rw [show Y0 [] (.un w (.lst ms)) = mkR (bA w) ms [] from rfl]
    refine y_M rfl <| y_E rfl <| y_E rfl ?_
    (refine xO rfl rfl (by simp) rfl (fun _ => rfl) (fun _ => rfl) ?_; intro g8)
    refine y_S rfl <| xN [2,3,8,9] [2,3,1000038,8] rfl <| A3 <| A0 <| y_M rfl <| y_M rfl ?_
    refine C5 rfl rfl ?_ ?_ <;> intro hg0 <;> have hg := hg0 <;> try simp only [SG] at hg
    ·refine y_M rfl <| gT rfl rfl ?_
     obtain ⟨r, hr⟩ := Option.isSome_iff_exists.1 (show (mkR (bA w) ms []).isSome = true by assumption)
     have hrl := (Q6.1 (a9e hr)).1
     rw [hr, Option.getD_some]
     apply xC rfl
     ·apply A8
      ·exact H3 rfl rfl rfl (by (simp; done)) (fun _ => rfl)
      exact C3
     ·exact W9 r (by omega)
     refine ⟨⟨rfl, rfl, rfl, dT rfl, rfl⟩, .inr ⟨rfl, rfl⟩, B3, C6 rfl, fun _ => rfl, fun g50 => ?_⟩
     refine E8 rfl rfl rfl rfl <| xN [2,3,8,51] [2,3,1000038,8] rfl ?_
     refine A5 rfl ?_ ?_ <;> intro hc <;> try simp only [SL] at hc
     ·refine A3 <| A0 <| y_M rfl <| H8 (fs := [_, _, _]) rfl rfl rfl rfl rfl <| D9 rfl rfl rfl rfl (F4 rfl (L8 (by decide) (F4 rfl I7))) (fun _ => rfl) ⟨by decide, rfl, dT rfl, Nat.le_refl _⟩ (fun _ => rfl) (fun _ => rfl) (fun _ => (by rfl)) ?_
      intro z
      simp only [I6, List.cons_append, List.nil_append]
      refine xN [2] [2,8] rfl <| A9 <| C2 (E9 rfl rfl rfl rfl (E3 rfl (J5 rfl rfl (by simp) (fun _ => rfl) (H1 rfl G6))) (C7 B5)) ?_
      rw [b6u hp hr (by simpa using hc)]
      rfl
     refine A6 <| A3 <| A0 <| y_B rfl <| D9 rfl rfl rfl rfl (F4 rfl (F4 rfl (X1 (by decide) (by decide) rfl (by simp) fun _ => I7))) (fun _ => rfl) ⟨by decide, rfl, dT rfl, Nat.le_refl _⟩ (fun _ => rfl) (fun _ => rfl) (fun _ => C1 (by rfl) (C1 (B2 (A7 fun _ => rfl)) (by rfl))) ?_
     intro z
     simp only [I6, List.cons_append, List.nil_append]
     refine xN [2] [2,300002] rfl <| A9 <| C2 (E9 rfl rfl rfl rfl (E3 rfl (E3 rfl (J5 rfl rfl (by simp) (fun _ => rfl) G6))) (C7 B5)) ?_
     (have hx : mkR (bA w) ms [] = none ∨ ∃ r, mkR (bA w) ms [] = some r ∧ vd r = false := (by exact .inr ⟨r, hr, by simpa using hc⟩); rw [a5x hp hx]; rfl)
    refine gF rfl rfl <| F7 rfl (by assumption) rfl rfl <| xN [2,3,8,51] [2,3,1000038,8] rfl ?_
    refine A5 rfl (fun hc => absurd hc (by decide)) (fun hc => ?_)
    refine A6 <| A3 <| A0 <| y_B rfl <| D9 rfl rfl rfl rfl (F4 rfl (F4 rfl (X1 (by decide) (by decide) rfl (by simp) fun _ => I7))) (fun _ => rfl) ⟨by decide, rfl, dT rfl, Nat.le_refl _⟩ (fun _ => rfl) (fun _ => rfl) (fun _ => C1 (by rfl) (C1 (B2 (A7 fun _ => rfl)) (by rfl))) ?_
    intro z
    simp only [I6, List.cons_append, List.nil_append]
    refine xN [2] [2,300002] rfl <| A9 <| C2 (E9 rfl rfl rfl rfl (E3 rfl (E3 rfl (J5 rfl rfl (by simp) (fun _ => rfl) G6))) (C7 B5)) ?_
    (have hx : mkR (bA w) ms [] = none ∨ ∃ r, mkR (bA w) ms [] = some r ∧ vd r = false := (by exact .inl (by simpa using hg)); rw [a5x hp hx]; rfl)
   have hnl : ∀ ns, foldP p ≠ .lst ns := fun ns e => hc (by rw [e]; rfl)
   refine A6 <| A3 <| A0 <| y_B rfl <| D9 rfl rfl rfl rfl (F4 rfl (F4 rfl (X1 (by decide) (by decide) rfl (by simp) fun _ => I7))) (fun _ => rfl) ⟨by decide, rfl, dT rfl, Nat.le_refl _⟩ (fun _ => rfl) (fun _ => rfl) (fun _ => C1 (by rfl) (C1 (B2 (A7 fun _ => rfl)) (by rfl))) ?_
   intro z
   simp only [I6, List.cons_append, List.nil_append]
   refine xN [2] [2,300002] rfl <| A9 <| C2 (E9 rfl rfl rfl rfl (E3 rfl (E3 rfl (J5 rfl rfl (by simp) (fun _ => rfl) G6))) (C7 B5)) ?_
   (rw [b7q hnl]; show _ = AV.agg [tV w, .list [], .list [trV (foldP p)]]; rfl)
  rw [b7z]
  have hsz1 : (Pl.bin w p q).sz = p.sz + q.sz + 1 := rfl
  have hn : nd (bA w) = 2 := (T3 (by have h := hwf.1; omega)).trans hwf.1
  refine y_A rfl (fun _ => rfl) ?_
  intro g2
  refine xN [1,2] [1,2] rfl <| A3 <| A0 <| y_F rfl <| y_L rfl <| y_F rfl <| y_L rfl <| H8 (fs := [_, _, _]) rfl rfl rfl rfl rfl <| y_A rfl (fun _ => rfl) ?_
  intro g3
  refine xB rfl rfl rfl rfl rfl rfl rfl rfl rfl <| xN [1,2,3] [1,2,3] rfl <| A3 <| A0 <| y_F rfl <| y_L rfl <| B9 rfl rfl <| N9 rfl rfl <| y_S rfl <| xN [1,2,3,4] [1,2,3] rfl <| A3 <| A3 <| A0 <| y_F rfl <| y_L rfl <| B9 rfl rfl <| y_M rfl <| xN [2,3,4,20,21,22] [2,3] rfl <| B0 <| F9 <| A3 <| A0 <| F8 rfl rfl <| xN [2,3,4,20,21,22,23] [2,3] rfl <| A3 ?_
  refine A5 rfl (fun hc => ?_) (fun hc => absurd hc (by exact fun h => Bool.noConfusion (show true = false from h)))
  refine A6 <| A3 <| B0 <| A3 <| A0 <| I3 rfl rfl rfl (fun _ => rfl) (by show (0 : Int) ≤ 0 ∧ (0 : Int) < ((2 : Nat) : Int); omega) <| y_I rfl <| y_A rfl (fun _ => rfl) ?_
  intro g6
  refine xB rfl rfl rfl rfl rfl rfl rfl rfl rfl <| xN [2,3,4,6,20,21,22] [2,3,6] rfl <| A3 <| A0 <| y_B rfl ?_
  refine xC1 rfl rfl ((by have hi := ih p hgd.2.2.1 hwf.2.1 (by omega) (by omega); rw [← P8] at hi; exact hi)) ⟨rfl, rfl, rfl⟩ rfl rfl fun g27 => ?_
  refine y_A rfl (fun _ => rfl) ?_
  intro g7
  refine xB rfl rfl rfl rfl rfl rfl rfl rfl rfl <| xN [2,3,4,7,20,21,22] [2,3,7] rfl <| A3 <| A0 <| y_M rfl <| y_M rfl <| I9 rfl rfl rfl <| y_F rfl <| I9 rfl rfl rfl <| y_L rfl <| I9 rfl rfl rfl <| Q7 rfl rfl <| E8 rfl rfl rfl rfl <| y_S rfl <| xN [2,3,4,7,20,21,22] [2,3,7] rfl <| A0 <| y_F rfl <| y_L rfl <| y_B rfl <| B6 (es := List.map trV [_]) rfl rfl (dT rfl) rfl rfl (fun _ => B2 (A7 fun _ => rfl)) (fun _ => rfl) ?_
  intro g37
  refine Q4 rfl rfl rfl (by simp) (by decide) rfl rfl rfl (dT rfl) (fun _ => ⟨rfl, rfl⟩) (by simp only [H2]; (simp only [List.length_nil, List.length_cons, List.length_append, Nat.zero_add, List.length_map]; omega)) (fun _ => rfl) ?_
  intro g38
  refine y_F rfl <| L9 rfl rfl rfl rfl rfl (Nat.le_refl _) rfl <| xN [2,3,4,20,21,22] [2,3,1000038] rfl <| A0 <| E6 rfl rfl (C4 (by omega)) <| y_M rfl <| xN [2,3,4,20,21,22] [2,3,1000038] rfl <| F9 <| A3 <| A0 <| F8 rfl rfl <| xN [2,3,4,20,21,22,23] [2,3,1000038] rfl <| A3 ?_
  refine A5 rfl (fun hc => ?_) (fun hc => absurd hc (by exact fun h => Bool.noConfusion (show true = false from h)))
  refine A6 <| A3 <| B0 <| A3 <| A0 <| I3 rfl rfl rfl (fun _ => rfl) (by show (0 : Int) ≤ 1 ∧ (1 : Int) < ((2 : Nat) : Int); omega) <| y_I rfl <| y_A rfl (fun _ => rfl) ?_
  intro g6
  refine xB rfl rfl rfl rfl rfl rfl rfl rfl rfl <| xN [2,3,4,6,20,21,22] [2,3,1000038,6] rfl <| A3 <| A0 <| y_B rfl ?_
  refine xC1 rfl rfl ((by have hi := ih q hgd.2.2.2 hwf.2.2 (by omega) (by omega); rw [← P8] at hi; exact hi)) ⟨rfl, rfl, rfl⟩ rfl rfl fun g27 => ?_
  refine y_A rfl (fun _ => rfl) ?_
  intro g7
  refine xB rfl rfl rfl rfl rfl rfl rfl rfl rfl <| xN [2,3,4,7,20,21,22] [2,3,1000038,7] rfl <| A3 <| A0 <| y_M rfl <| y_M rfl ?_
  refine C5 rfl rfl ?_ ?_ <;> intro hg0 <;> have hg := hg0 <;> try simp only [SG] at hg
  ·refine y_F rfl <| gT rfl rfl <| y_L rfl <| gT rfl rfl <| Q7 rfl rfl <| E8 rfl (by assumption) rfl rfl <| y_S rfl <| xN [2,3,4,7,20,21,22] [2,3,1000038,7] rfl <| A0 <| y_F rfl <| y_L rfl <| y_B rfl <| B6 (es := List.map trV [_]) rfl rfl (dT rfl) rfl rfl (fun _ => B2 (A7 fun _ => rfl)) (fun _ => rfl) ?_
   intro g37
   refine xA rfl rfl rfl rfl (by simp) (by simp) rfl rfl rfl rfl rfl (fun _ => rfl) (by simp only [LN]; omega) (fun _ => rfl) ?_
   intro g38
   refine y_F rfl <| L9 rfl rfl rfl rfl rfl (Nat.le_refl _) rfl <| xN [2,3,4,20,21,22] [2,3,1000038] rfl <| A0 <| E6 rfl rfl (C4 (by omega)) <| y_M rfl <| xN [2,3,4,20,21,22] [2,3,1000038] rfl <| F9 <| A3 <| A0 <| F8 rfl rfl <| xN [2,3,4,20,21,22,23] [2,3,1000038] rfl <| A3 ?_
   refine A5 rfl (fun hc => absurd hc (by exact fun h => Bool.noConfusion (show false = true from h))) (fun hc => ?_)
   refine D8 <| A3 <| A3 <| A0 <| y_M rfl <| xN [2,3,41] [2,3,1000038] rfl ?_
   refine A5 rfl ?_ ?_ <;> intro hc <;> try simp only [SL] at hc
   ·obtain ⟨ms, hp, hvp⟩ := W0 (N7 _ hgd.2.2.1) (show (foldP p).op = lW by assumption)
    rw [hp]
    obtain ⟨ls, hq, hvq⟩ := W0 (N7 _ hgd.2.2.2) (show (foldP q).op = lW by assumption)
    rw [hq]
    refine A3 <| A0 <| y_B rfl ?_
    apply xC rfl
    ·apply A8
     ·exact d1d (dT rfl) (d1j (c8d (d0q rfl rfl (by simp) (fun _ => rfl) d2o)))
     apply A8
     ·exact c8g (dT rfl)
     exact C3
    ·exact (by have hi := c4j (oG := oG) (.bin w (.lst ms) (.lst ls)) ⟨hgd.1, hgd.2.1, hvp, hvq⟩ ⟨hwf.1, trivial, trivial⟩ [] rfl (by simp) (by simp); exact hi)
    refine ⟨⟨rfl, rfl, rfl, dT rfl, rfl⟩, .inr ⟨I1 _ _, rfl⟩, B3, G5 (L1 fun _ => I0 rfl L0), fun _ => rfl, fun g44 => ?_⟩
    simp only [List.length_map]
    rw [show Y0 [] (.bin w (.lst ms) (.lst ls)) = mkR (bA w) ms ls from rfl]
    refine y_M rfl <| y_E rfl <| y_E rfl ?_
    (refine xO rfl rfl (by simp) rfl (fun _ => rfl) (fun _ => rfl) ?_; intro g8)
    refine y_S rfl <| xN [2,3,8,9] [2,3,1000038,8] rfl <| A3 <| A0 <| y_M rfl <| y_M rfl ?_
    refine C5 rfl rfl ?_ ?_ <;> intro hg0 <;> have hg := hg0 <;> try simp only [SG] at hg
    ·refine y_M rfl <| gT rfl rfl ?_
     obtain ⟨r, hr⟩ := Option.isSome_iff_exists.1 (show (mkR (bA w) ms ls).isSome = true by assumption)
     have hrl := (Q6.1 (a9e hr)).1
     rw [hr, Option.getD_some]
     apply xC rfl
     ·apply A8
      ·exact H3 rfl rfl rfl (by (simp; done)) (fun _ => rfl)
      exact C3
     ·exact W9 r (by omega)
     refine ⟨⟨rfl, rfl, rfl, dT rfl, rfl⟩, .inr ⟨rfl, rfl⟩, B3, C6 rfl, fun _ => rfl, fun g50 => ?_⟩
     refine E8 rfl rfl rfl rfl <| xN [2,3,8,51] [2,3,1000038,8] rfl ?_
     refine A5 rfl ?_ ?_ <;> intro hc <;> try simp only [SL] at hc
     ·refine A3 <| A0 <| y_M rfl <| H8 (fs := [_, _, _]) rfl rfl rfl rfl rfl <| D9 rfl rfl rfl rfl (F4 rfl (L8 (by decide) (F4 rfl I7))) (fun _ => rfl) ⟨by decide, rfl, dT rfl, Nat.le_refl _⟩ (fun _ => rfl) (fun _ => rfl) (fun _ => (by rfl)) ?_
      intro z
      simp only [I6, List.cons_append, List.nil_append]
      refine xN [2] [2,8] rfl <| A9 <| C2 (E9 rfl rfl rfl rfl (E3 rfl (J5 rfl rfl (by simp) (fun _ => rfl) (H1 rfl G6))) (C7 B5)) ?_
      rw [b2r hp hq hr (by simpa using hc)]
      rfl
     refine A6 <| A3 <| A0 <| y_B rfl <| D9 rfl rfl rfl rfl (F4 rfl (F4 rfl (X1 (by decide) (by decide) rfl (by simp) fun _ => I7))) (fun _ => rfl) ⟨by decide, rfl, dT rfl, Nat.le_refl _⟩ (fun _ => rfl) (fun _ => rfl) (fun _ => C1 (by rfl) (C1 (B2 (A7 fun _ => rfl)) (by rfl))) ?_
     intro z
     simp only [I6, List.cons_append, List.nil_append]
     refine xN [2] [2,300002] rfl <| A9 <| C2 (E9 rfl rfl rfl rfl (E3 rfl (E3 rfl (J5 rfl rfl (by simp) (fun _ => rfl) G6))) (C7 B5)) ?_
     (have hx : mkR (bA w) ms ls = none ∨ ∃ r, mkR (bA w) ms ls = some r ∧ vd r = false := (by exact .inr ⟨r, hr, by simpa using hc⟩); rw [a3l hp hq hx]; rfl)
    refine gF rfl rfl <| F7 rfl (by assumption) rfl rfl <| xN [2,3,8,51] [2,3,1000038,8] rfl ?_
    refine A5 rfl (fun hc => absurd hc (by decide)) (fun hc => ?_)
    refine A6 <| A3 <| A0 <| y_B rfl <| D9 rfl rfl rfl rfl (F4 rfl (F4 rfl (X1 (by decide) (by decide) rfl (by simp) fun _ => I7))) (fun _ => rfl) ⟨by decide, rfl, dT rfl, Nat.le_refl _⟩ (fun _ => rfl) (fun _ => rfl) (fun _ => C1 (by rfl) (C1 (B2 (A7 fun _ => rfl)) (by rfl))) ?_
    intro z
    simp only [I6, List.cons_append, List.nil_append]
    refine xN [2] [2,300002] rfl <| A9 <| C2 (E9 rfl rfl rfl rfl (E3 rfl (E3 rfl (J5 rfl rfl (by simp) (fun _ => rfl) G6))) (C7 B5)) ?_
    (have hx : mkR (bA w) ms ls = none ∨ ∃ r, mkR (bA w) ms ls = some r ∧ vd r = false := (by exact .inl (by simpa using hg)); rw [a3l hp hq hx]; rfl)
   have hnl : (∀ ns, foldP p ≠ .lst ns) ∨ ∀ ns, foldP q ≠ .lst ns := .inr fun ns e => hc (by rw [e]; rfl)
   refine A6 <| A3 <| A0 <| y_B rfl <| D9 rfl rfl rfl rfl (F4 rfl (F4 rfl (X1 (by decide) (by decide) rfl (by simp) fun _ => I7))) (fun _ => rfl) ⟨by decide, rfl, dT rfl, Nat.le_refl _⟩ (fun _ => rfl) (fun _ => rfl) (fun _ => C1 (by rfl) (C1 (B2 (A7 fun _ => rfl)) (by rfl))) ?_
   intro z
   simp only [I6, List.cons_append, List.nil_append]
   refine xN [2] [2,300002] rfl <| A9 <| C2 (E9 rfl rfl rfl rfl (E3 rfl (E3 rfl (J5 rfl rfl (by simp) (fun _ => rfl) G6))) (C7 B5)) ?_
   ((rw [a3e hnl]); show _ = AV.agg [tV w, .list [], .list [trV (foldP p), trV (foldP q)]]; rfl)
  refine gF rfl rfl <| gF rfl rfl <| F7 rfl (by assumption) rfl rfl <| y_S rfl <| xN [2,3,4,7,20,21,22] [2,3,1000038,7] rfl <| A0 <| y_F rfl <| y_L rfl <| y_B rfl <| B6 (es := List.map trV [_]) rfl rfl (dT rfl) rfl rfl (fun _ => B2 (A7 fun _ => rfl)) (fun _ => rfl) ?_
  intro g37
  refine xA rfl rfl rfl rfl (by simp) (by simp) rfl rfl rfl rfl rfl (fun _ => rfl) (by simp only [LN]; omega) (fun _ => rfl) ?_
  intro g38
  refine y_F rfl <| L9 rfl rfl rfl rfl rfl (Nat.le_refl _) rfl <| xN [2,3,4,20,21,22] [2,3,1000038] rfl <| A0 <| E6 rfl rfl (C4 (by omega)) <| y_M rfl <| xN [2,3,4,20,21,22] [2,3,1000038] rfl <| F9 <| A3 <| A0 <| F8 rfl rfl <| xN [2,3,4,20,21,22,23] [2,3,1000038] rfl <| A3 ?_
  refine A5 rfl (fun hc => absurd hc (by exact fun h => Bool.noConfusion (show false = true from h))) (fun hc => ?_)
  refine D8 <| A3 <| A3 <| A0 <| y_M rfl <| xN [2,3,41] [2,3,1000038] rfl ?_
  refine A5 rfl (fun hc => absurd hc (by decide)) (fun hc => ?_)
  refine A6 <| A3 <| A0 <| y_B rfl <| D9 rfl rfl rfl rfl (F4 rfl (F4 rfl (X1 (by decide) (by decide) rfl (by simp) fun _ => I7))) (fun _ => rfl) ⟨by decide, rfl, dT rfl, Nat.le_refl _⟩ (fun _ => rfl) (fun _ => rfl) (fun _ => C1 (by rfl) (C1 (B2 (A7 fun _ => rfl)) (by rfl))) ?_
  intro z
  simp only [I6, List.cons_append, List.nil_append]
  refine xN [2] [2,300002] rfl <| A9 <| C2 (E9 rfl rfl rfl rfl (E3 rfl (E3 rfl (J5 rfl rfl (by simp) (fun _ => rfl) G6))) (C7 B5)) ?_
  ((rw [a3e (.inl fun ns e => hg (by rw [e]; rfl))]); show _ = AV.agg [tV w, .list [], .list [trV (foldP p), trV (foldP q)]]; rfl)

theorem b1h : E7 Tryz.f73 = [0, 2, 4, 11, 3, 7] := by kernel_rfl
theorem c4w (t : Pl) (hgd : t.good) (hwf : t.wf) (hsz : t.sz ≤ 16) : CW (cxT oG) 73 [tV (L5 t)] = some (tV (L5 (foldP t)), []) := by
 have hfg := N7 t hgd
 have hfw := a5q t hwf
 have hfs := a8y t
 have hln := a1l hwf hgd
 have hlf := a1l hfw hfg
 obtain ⟨hi1, hi2⟩ := d4t hwf hgd hsz
 refine E4 rfl Tryz.func73 rfl ⟨by kernel_rfl, rfl, dT rfl, dT rfl, by decide⟩ b1h <| A3 <| A0 <| y_S rfl <| xN [0] [] rfl <| A3 <| A0 <| y_M rfl ?_
 apply xC rfl
 ·apply A8
  ·exact B7 rfl
  exact C3
 ·exact (by have hi := b0r (oG := oG) (L5 t) (by omega); rw [hi1, hi2] at hi; exact hi)
 refine ⟨⟨rfl, rfl, rfl, dT rfl, rfl⟩, .inl rfl, B3, K1 rfl, fun _ => rfl, fun g7 => ?_⟩
 refine y_M rfl <| y_E rfl <| y_E rfl <| y_A rfl (fun _ => rfl) ?_
 intro g3
 refine xB rfl rfl rfl rfl rfl rfl rfl rfl rfl <| y_S rfl <| xN [0,3,4] [3] rfl <| A3 <| A3 <| A0 <| y_M rfl <| J9 rfl <| xN [0,3,11] [3] rfl ?_
 refine A5 rfl (fun hc => absurd hc (by decide)) (fun hc => ?_)
 refine A6 <| A3 <| A0 <| y_B rfl ?_
 refine xC1 rfl rfl ((by have hi := d4m (oG := oG) t hgd hwf (by omega); rw [← P8] at hi; exact hi)) ⟨rfl, rfl, rfl⟩ rfl rfl fun g14 => ?_
 refine xC1 rfl rfl ((by have hi := d7k (oG := oG) (foldP t) (by omega) hfg; rw [← P8] at hi; exact hi)) ⟨rfl, rfl, rfl⟩ rfl rfl fun g15 => ?_
 refine y_S rfl <| xN [2] [] rfl <| A9 <| C0 rfl rfl trivial ?_
 rfl

theorem a8t : E7 Tryz.f36 = [0, 2, 5] := by kernel_rfl
theorem b0t (s : List UInt8) (hs : s.length ≤ 1048576) : CW (cxT oG) 36 [tV s] = some (tV (foldT s), []) := by
 refine E4 rfl Tryz.func36 rfl ⟨by kernel_rfl, rfl, dT rfl, dT rfl, by decide⟩ a8t <| A3 <| A0 <| y_S rfl <| xN [0] [] rfl <| A3 <| A3 <| A0 <| y_M rfl ?_
 refine xC1 rfl rfl (c0d s hs) ⟨rfl, rfl, rfl⟩ rfl rfl fun g4 => ?_
 refine J9 rfl <| xN [0,5] [] rfl ?_
 refine A5 rfl ?_ ?_ <;> intro hc <;> try simp only [SL] at hc
 ·refine A3 <| A0 <| y_S rfl <| xN [2] [] rfl <| A9 <| C0 rfl rfl trivial ?_
  rw [a6v hc]
  rfl
 refine A6 <| A3 <| A0 <| y_M rfl ?_
 obtain ⟨t, ht1, ht2, ht3⟩ := a3k hc
 obtain ⟨hst, hwf, hgd, hsl, hsz⟩ := a1m ht1
 rw [a2z ht1]
 subst hst
 refine xC1 rfl rfl (c4w t hgd hwf hsz) ⟨rfl, rfl, rfl⟩ rfl rfl fun g7 => ?_
 refine y_S rfl <| xN [2] [] rfl <| A9 <| C0 rfl rfl trivial ?_
 rfl

theorem a8s : E7 Tryz.f35 = [0, 2, 4, 11, 3, 7] := by kernel_rfl
theorem a3v (s : List UInt8) (hs : s.length ≤ 1048576) : CW (cxT oG) 35 [tV s] = some (tV (foldT s), []) := by
 refine E4 rfl Tryz.func35 rfl ⟨by kernel_rfl, rfl, dT rfl, dT rfl, by decide⟩ a8s <| A3 <| A0 <| y_S rfl <| xN [0] [] rfl <| A3 <| A0 <| y_M rfl ?_
 apply xC rfl
 ·apply A8
  ·exact B7 rfl
  exact C3
 ·exact c5i s hs
 refine ⟨⟨rfl, rfl, rfl, dT rfl, rfl⟩, .inl rfl, B3, K1 rfl, fun _ => rfl, fun g7 => ?_⟩
 refine y_M rfl <| y_E rfl <| y_E rfl <| y_A rfl (fun _ => rfl) ?_
 intro g3
 refine xB rfl rfl rfl rfl rfl rfl rfl rfl rfl <| y_S rfl <| xN [3,4] [3] rfl <| A3 <| A3 <| A0 <| y_M rfl <| J9 rfl <| xN [3,11] [3] rfl ?_
 refine A5 rfl ?_ ?_ <;> intro hc <;> try simp only [SL] at hc
 ·refine A3 <| A0 <| y_S rfl <| xN [2] [] rfl <| A9 <| C0 rfl rfl trivial ?_
  rw [a6v hc]
  rfl
 refine A6 <| A3 <| A0 <| y_B rfl ?_
 obtain ⟨t, ht1, ht2, ht3⟩ := a3k hc
 obtain ⟨hst, hwf, hgd, hsl, hsz⟩ := a1m ht1
 have hfg := N7 t hgd
 have hfw := a5q t hwf
 have hfs := a8y t
 have hln := a1l hwf hgd
 have hlf := a1l hfw hfg
 rw [ht2, a2z ht1]
 refine xC1 rfl rfl ((by have hi := d5v (oG := oG) t hgd hwf (by omega); rw [← P8] at hi; exact hi)) ⟨rfl, rfl, rfl⟩ rfl rfl fun g13 => ?_
 refine xC1 rfl rfl ((by have hi := c5w (oG := oG) (foldP t) (by omega) hfg; rw [← P8] at hi; exact hi)) ⟨rfl, rfl, rfl⟩ rfl rfl fun g14 => ?_
 refine y_S rfl <| xN [2] [] rfl <| A9 <| C0 rfl rfl trivial ?_
 rfl

theorem b1o : E7 Tryz.f15 = [0, 1, 4, 5, 7, 19, 6, 10] := by kernel_rfl
theorem b4v (s : List UInt8) (hs : s.length ≤ 1048576) (cols : List (List Int)) (hc4 : cols.length ≤ 1048576) (hcb : ∀ c ∈ cols, c.length ≤ 1048576) : CW (cxT oG) 15 [tV s, M cols] = some (.tup [.own 1 (((Mv.runT cols s).getD []).map iV), bV (Mv.runT cols s).isSome], []) := by
 refine E4 rfl Tryz.func15 rfl ⟨by kernel_rfl, rfl, dT rfl, dT rfl, by decide⟩ b1o <| A3 <| A0 ?_
 (refine B1 rfl rfl (fun _ => rfl) ?_; intro g4)
 refine y_S rfl <| xN [0,1] [] rfl <| A3 <| A0 <| y_M rfl ?_
 apply xC rfl
 ·apply A8
  ·exact B7 rfl
  exact C3
 ·exact a4f s hs
 refine ⟨⟨rfl, rfl, rfl, dT rfl, rfl⟩, .inl rfl, B3, K1 rfl, fun _ => rfl, fun g10 => ?_⟩
 refine y_M rfl <| y_E rfl <| y_E rfl <| y_A rfl (fun _ => rfl) ?_
 intro g6
 refine xB rfl rfl rfl rfl rfl rfl rfl rfl rfl <| y_S rfl <| xN [1,6,7] [6] rfl <| A3 <| A3 <| A0 <| y_M rfl <| J9 rfl <| y_M rfl ?_
 refine C5 rfl rfl ?_ ?_ <;> intro hg0 <;> have hg := hg0 <;> try simp only [SG] at hg
 ·refine y_M rfl <| gT rfl rfl ?_
  refine xC1 rfl rfl (b4h cols hc4 hcb) ⟨rfl, rfl, rfl⟩ rfl rfl fun g17 => ?_
  refine gT rfl rfl <| J9 rfl <| F7 rfl (by assumption) rfl rfl <| xN [1,6,19] [6] rfl ?_
  refine A5 rfl ?_ ?_ <;> intro hc <;> try simp only [SL] at hc
  ·refine A3 <| A0 ?_
   (refine B1 rfl rfl (fun _ => rfl) ?_; intro g4)
   refine y_S rfl <| xN [4,5] [4] rfl <| A9 <| C2 (G0 rfl rfl (by simp) (by rfl) (D5 rfl rfl (C7 B5))) ?_
   rw [a5o (by exact .inr (by simpa using hc))]
   rfl
  refine A6 <| A3 <| A0 <| y_B rfl <| y_M rfl ?_
  obtain ⟨t, ht1, ht2, ht3⟩ := a3k (show (rdPlan s).isSome = true by assumption)
  obtain ⟨hst, hwf, hgd, hsl, hsz⟩ := a1m ht1
  have hvc : vcs cols = true := by assumption
  rw [d2x ht1, a5l hvc ht1]
  apply xC rfl
  ·apply A8
   ·exact B7 rfl
   apply A8
   ·exact B7 rfl
   exact C3
  ·exact (by have hi := c4j (oG := oG) t hgd hwf cols hvc hc4 hcb; rw [← P8] at hi; exact hi)
  refine ⟨⟨rfl, rfl, rfl, dT rfl, rfl⟩, .inr ⟨I1 _ _, rfl⟩, B3, G5 (L1 fun _ => I0 rfl L0), fun _ => rfl, fun g22 => ?_⟩
  simp only [List.length_map]
  refine y_E rfl <| y_E rfl ?_
  (refine xO rfl rfl (by simp) rfl (fun _ => rfl) (fun _ => rfl) ?_; intro g4)
  refine y_S rfl <| xN [4,5] [4] rfl <| A9 <| C2 (G0 rfl rfl (by simp) (by exact A7 fun _ => rfl) (D5 rfl rfl (C7 B5))) ?_
  rfl
 refine gF rfl rfl <| gF rfl rfl <| E8 rfl (by assumption) rfl rfl <| xN [1,6,19] [6] rfl ?_
 refine A5 rfl (fun hc => ?_) (fun hc => absurd hc (by decide))
 refine A3 <| A0 ?_
 (refine B1 rfl rfl (fun _ => rfl) ?_; intro g4)
 refine y_S rfl <| xN [4,5] [4] rfl <| A9 <| C2 (G0 rfl rfl (by simp) (by rfl) (D5 rfl rfl (C7 B5))) ?_
 rw [a5o (by exact .inl (by assumption))]
 rfl

theorem a8g : E7 Tryz.f12 = [0, 2, 11, 3, 4, 23, 30, 7, 5, 8, 6] := by kernel_rfl
theorem b9j (bs : List Int) (hbs : a3r bs) : CW (cxT oG) 12 [.list (bs.map uV)] = some (bV true, []) := by
 refine E4 rfl Tryz.func12 rfl ⟨by kernel_rfl, rfl, dT rfl, dT rfl, by decide⟩ a8g <| A3 <| A0 <| y_S rfl <| xN [0] [] rfl <| A3 <| A3 <| A0 <| y_M rfl <| B9 rfl rfl <| N9 rfl rfl <| xN [0,11] [] rfl ?_
 refine A5 rfl ?_ ?_ <;> intro hc <;> try simp only [SL] at hc
 ·refine A3 <| A0 <| y_S rfl <| xN [2] [] rfl <| A9 <| C0 rfl rfl trivial ?_
  rfl
 refine A6 <| A3 <| A0 <| y_M rfl ?_
 have hl2 : bs.length ≤ 1048576 := by omega
 obtain ⟨_, _, ⟨s, rfl, rfl, hs⟩, hC1⟩ := b3g (oG := oG) bs hbs hl2
 refine xC1 rfl rfl (hC1) ⟨rfl, rfl, rfl⟩ rfl rfl fun g13 => ?_
 refine y_S rfl <| xN [3] [] rfl <| A3 <| A0 <| y_M rfl ?_
 refine xC1 rfl rfl (b0t s (by omega)) ⟨rfl, rfl, rfl⟩ rfl rfl fun g15 => ?_
 refine y_S rfl <| xN [3,4] [] rfl <| A3 <| A3 <| A0 <| y_M rfl <| y_M rfl ?_
 refine xC1 rfl rfl (a3v s (by omega)) ⟨rfl, rfl, rfl⟩ rfl rfl fun g18 => ?_
 refine b4a rfl rfl <| y_M rfl ?_
 refine C5 rfl rfl ?_ ?_ <;> intro hg0 <;> have hg := hg0 <;> try simp only [SG] at hg
 ·refine y_M rfl <| gT rfl rfl <| Q7 rfl rfl <| F7 rfl (by assumption) rfl rfl <| xN [3,4,23] [] rfl ?_
  refine A5 rfl ?_ ?_ <;> intro hc <;> try simp only [SL] at hc
  ·refine A3 <| A0 <| y_M rfl <| y_M rfl ?_
   refine xC1 rfl rfl (a3v s (by omega)) ⟨rfl, rfl, rfl⟩ rfl rfl fun g26 => ?_
   refine Q7 rfl rfl <| y_S rfl <| xN [2] [] rfl <| A9 <| C0 rfl rfl trivial ?_
   exact congrArg bV (by simp_all)
  have hne : foldT s ≠ [] := by assumption
  refine A6 <| A3 <| A3 <| A0 <| y_M rfl <| a1n rfl rfl <| N9 rfl rfl <| xN [3,4,30] [] rfl ?_
  refine A5 rfl ?_ ?_ <;> intro hc <;> try simp only [SL] at hc
  ·refine A3 <| A0 <| y_S rfl <| xN [2] [] rfl <| A9 <| C0 rfl rfl trivial ?_
   rfl
  obtain ⟨hw1, hw2, hw3⟩ := d1c hne (by omega)
  have hw4 := hw3 []
  refine A6 <| A3 <| A0 <| y_M rfl <| B6 (es := List.map lF []) rfl rfl (dT rfl) rfl rfl (fun _ => B2 (A7 fun _ => rfl)) (fun _ => rfl) ?_
  intro g33
  apply xC rfl
  ·apply A8
   ·exact B7 rfl
   apply A8
   ·exact H3 (f := lF) (xs := []) rfl rfl rfl (by (simp; done)) (fun _ => rfl)
   exact C3
  ·exact b4v s (by omega) [] (by simp) (by simp)
  refine ⟨⟨rfl, rfl, rfl, dT rfl, rfl⟩, .inr ⟨I1 _ _, rfl⟩, B3, G5 (L1 fun _ => I0 rfl L0), fun _ => rfl, fun g34 => ?_⟩
  simp only [List.length_map]
  refine y_M rfl <| y_E rfl <| y_E rfl ?_
  (refine xO rfl rfl (by simp) rfl (fun _ => rfl) (fun _ => rfl) ?_; intro g5)
  refine y_S rfl <| xN [3,4,5,6] [5] rfl <| A3 <| A0 <| y_M rfl <| B6 (es := List.map lF []) rfl rfl (dT rfl) rfl rfl (fun _ => B2 (A7 fun _ => rfl)) (fun _ => rfl) ?_
  intro g39
  apply xC rfl
  ·apply A8
   ·exact B7 rfl
   apply A8
   ·exact H3 (f := lF) (xs := []) rfl rfl rfl (by (simp; done)) (fun _ => rfl)
   exact C3
  ·exact b4v (foldT s) (by omega) [] (by simp) (by simp)
  refine ⟨⟨rfl, rfl, rfl, dT rfl, rfl⟩, .inr ⟨I1 _ _, rfl⟩, B3, G5 (L1 fun _ => I0 rfl L0), fun _ => rfl, fun g40 => ?_⟩
  simp only [List.length_map]
  refine y_M rfl <| y_E rfl <| y_E rfl ?_
  (refine xO rfl rfl (by simp) rfl (fun _ => rfl) (fun _ => rfl) ?_; intro g7)
  refine y_S rfl <| xN [3,4,5,6,7,8] [5,7] rfl <| A3 <| A0 <| y_M rfl ?_
  refine xC1 rfl rfl (b0t (foldT s) (by omega)) ⟨rfl, rfl, rfl⟩ rfl rfl fun g44 => ?_
  refine y_M rfl <| Q7 rfl rfl <| y_M rfl ?_
  refine C5 rfl rfl ?_ ?_ <;> intro hg0 <;> have hg := hg0 <;> try simp only [SG] at hg
  ·refine y_M rfl <| gT rfl rfl ?_
   refine xC1 rfl rfl (b7j (foldT s) (by omega)) ⟨rfl, rfl, rfl⟩ rfl rfl fun g49 => ?_
   refine gT rfl rfl <| y_M rfl <| gT rfl rfl ?_
   refine xC1 rfl rfl (b7j s (by omega)) ⟨rfl, rfl, rfl⟩ rfl rfl fun g51 => ?_
   refine gT rfl rfl <| a5h rfl rfl <| E8 rfl (by assumption) rfl rfl <| y_M rfl ?_
   refine C5 rfl rfl ?_ ?_ <;> intro hg0 <;> have hg := hg0 <;> try simp only [SG] at hg
   ·refine y_M rfl <| gT rfl rfl <| y_M rfl <| gT rfl rfl <| d7z rfl rfl rfl <| E8 rfl (by assumption) rfl rfl <| y_M rfl ?_
    refine C5 rfl rfl ?_ ?_ <;> intro hg0 <;> have hg := hg0 <;> try simp only [SG] at hg
    ·refine y_M rfl <| gT rfl rfl <| y_M rfl <| gT rfl rfl ?_
     apply xC rfl
     ·apply A8
      ·exact H3 rfl rfl rfl (by (simp; done)) (fun _ => rfl)
      apply A8
      ·exact H3 rfl rfl rfl (by (simp; done)) (fun _ => rfl)
      exact C3
     ·exact c2e ((Mv.runT [] s).getD []) ((Mv.runT [] (foldT s)).getD []) (by have := c1g [] s; omega) (by have := c1g [] (foldT s); omega)
     refine ⟨⟨rfl, rfl, rfl, dT rfl, rfl⟩, .inr ⟨rfl, rfl⟩, B3, C6 rfl, fun _ => rfl, fun g62 => ?_⟩
     refine E8 rfl (by assumption) rfl rfl <| y_S rfl <| xN [2] [] rfl <| A9 <| C0 rfl rfl trivial ?_
     exact congrArg bV (by simp_all)
    refine gF rfl rfl <| gF rfl rfl <| F7 rfl (by assumption) rfl rfl <| y_S rfl <| xN [2] [] rfl <| A9 <| C0 rfl rfl trivial ?_
    exact congrArg bV (by simp_all)
   refine gF rfl rfl <| gF rfl rfl <| F7 rfl (by assumption) rfl rfl <| y_M rfl <| H0 rfl rfl rfl <| H0 rfl rfl rfl <| H0 rfl rfl rfl <| F7 rfl rfl rfl rfl <| y_S rfl <| xN [2] [] rfl <| A9 <| C0 rfl rfl trivial ?_
   exact congrArg bV (by simp_all)
  iterate 4 refine gF rfl rfl ?_
  refine F7 rfl (by assumption) rfl rfl <| y_M rfl <| H0 rfl rfl rfl <| H0 rfl rfl rfl <| H0 rfl rfl rfl <| F7 rfl rfl rfl rfl <| y_M rfl <| H0 rfl rfl rfl <| H0 rfl rfl rfl <| H0 rfl rfl rfl <| F7 rfl rfl rfl rfl <| y_S rfl <| xN [2] [] rfl <| A9 <| C0 rfl rfl trivial ?_
  exact congrArg bV (by simp_all)
 refine gF rfl rfl <| E8 rfl (by assumption) rfl rfl <| xN [3,4,23] [] rfl ?_
 refine A5 rfl (fun hc => ?_) (fun hc => absurd hc (by decide))
 refine A3 <| A0 <| y_M rfl <| y_M rfl ?_
 refine xC1 rfl rfl (a3v s (by omega)) ⟨rfl, rfl, rfl⟩ rfl rfl fun g26 => ?_
 refine Q7 rfl rfl <| y_S rfl <| xN [2] [] rfl <| A9 <| C0 rfl rfl trivial ?_
 exact congrArg bV (by simp_all)
end Go.Proofs.YtcpmbhfnapijaaaGreatDoor
