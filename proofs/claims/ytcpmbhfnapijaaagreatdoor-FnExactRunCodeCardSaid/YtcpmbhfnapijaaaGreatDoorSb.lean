/- What each function of the program gives on the abstract machine, part 2 of 2. Conditions: those in front of each theorem. -/
import Derived.Test.YtcpmbhfnapijaaaGreatDoorSa
import Derived.KernelRfl

set_option linter.unusedVariables false
set_option linter.unusedSimpArgs false
namespace Go.Proofs.YtcpmbhfnapijaaaGreatDoor
open Go Go.Mv Go.Proofs
set_option maxRecDepth 100000
set_option maxHeartbeats 20000000
variable {oG : Option Nat} {rG : Nat}

theorem a2k : E7 Tryz.f9 = [0, 1, 4, 5, 21, 26, 9, 8, 7, 11, 6, 10, 53, 58, 63, 12, 82, 13, 14, 90, 93, 16, 15, 110, 115, 118] := by kernel_rfl
theorem a7q (ws : List W8) (hl : ws.length ≤ 9223372036854775807) (hs : ∀ w ∈ ws, w.length ≤ 9223372036854775807) (cols : List (List Int)) (hcl : cols.length ≤ 9223372036854775807) (hcs : ∀ c ∈ cols, c.length ≤ 9223372036854775807) : CW (cxT oG) 9 [.list (ws.map tV), M cols] = some (bV true, []) := by
 have hrl := d2l cols ws
 refine E5 rfl Tryz.func9 rfl ⟨by kernel_rfl, rfl, dT rfl, dT rfl, by decide⟩ a2k <| A3 <| A0 <| y_S rfl <| xN [0,1] [] rfl <| A3 <| A0 <| y_S rfl <| xN [0,1,5] [] rfl <| A3 <| A0 <| y_M rfl <| y_M rfl ?_
 obtain ⟨_, _, ⟨r1, rfl, rfl, hr1, hr1n⟩, hC1⟩ := b8m (oG := oG) ws hl hs 1048576 (by omega)
 refine xC2 rfl rfl rfl (hC1) ⟨rfl, rfl, rfl⟩ rfl rfl fun g19 => ?_
 refine y_S rfl <| xN [0,1,5] [] rfl <| A3 <| A3 <| A0 <| y_M rfl <| F8 rfl rfl <| xN [0,1,5,21] [] rfl ?_
 refine A5 rfl ?_ ?_ <;> intro hc <;> try simp only [SL] at hc
 ·refine A3 <| A0 <| y_S rfl <| xN [4] [] rfl <| B0 <| B5 rfl rfl trivial ?_
  rfl
 refine A6 <| A3 <| A0 <| y_M rfl <| y_M rfl ?_
 have hz : ws.length ≤ 1048576 ∧ szW ws ≤ 1048576 := by omega
 obtain ⟨_, _, ⟨r2, rfl, rfl, hr2, hr2n⟩, hC2⟩ := c6h (oG := oG) cols hcl hcs r1 (by omega)
 refine xC2 rfl rfl rfl (hC2) ⟨rfl, rfl, rfl⟩ rfl rfl fun g24 => ?_
 refine y_S rfl <| xN [0,1,5] [] rfl <| A3 <| A3 <| A0 <| y_M rfl <| F8 rfl rfl <| xN [0,1,26] [] rfl ?_
 refine A5 rfl ?_ ?_ <;> intro hc <;> try simp only [SL] at hc
 ·refine A3 <| A0 <| y_S rfl <| xN [4] [] rfl <| B0 <| B5 rfl rfl trivial ?_
  rfl
 have hzr : cols.length ≤ 1048576 ∧ szR cols ≤ 1048576 := by omega
 refine A6 <| A3 <| A0 <| y_M rfl ?_
 apply xC rfl
 ·apply A9
  ·exact B4 rfl
  exact C0
 ·exact O7 ws hz.1
 refine ⟨⟨rfl, rfl, rfl, dT rfl, rfl⟩, .inl rfl, B3, G4, fun _ => rfl, fun g29 => ?_⟩
 simp only [List.length_map]
 refine y_M rfl ?_
 apply xC rfl
 ·apply A9
  ·exact B4 rfl
  exact C0
 ·exact V4 cols hzr
 refine ⟨⟨rfl, rfl, rfl, dT rfl, rfl⟩, .inl rfl, B3, G4, fun _ => rfl, fun g31 => ?_⟩
 simp only [List.length_map]
 rcases hrc : rcF cols ws with _ | r
 ·skip
  apply xC rfl
  ·apply A9
   ·exact a8h rfl rfl (by (simp; done)) (fun _ => rfl)
   apply A9
   ·exact a5o rfl rfl (by (simp; done))
   exact C0
  ·exact (show CW (cxT oG) 45 [.list (ws.map tV), M cols] = some (.tup [.own 1 (([] : List Int).map iV), bV false], []) from by have hi := b2y (oG := oG) ws (by omega) (fun w h => by have := a4l (Nat.le_refl _) w h; omega) cols hzr.1 (a3y hzr.2); rw [hrc] at hi; exact hi)
  refine ⟨⟨rfl, rfl, rfl, dT rfl, rfl⟩, .inl rfl, B3, H1 (L8 fun _ => J7 rfl L6), fun _ => rfl, fun g32 => ?_⟩
  simp only [List.length_map]
  refine y_M rfl <| y_E rfl <| y_E rfl ?_
  (refine xO rfl rfl (by simp) rfl (fun _ => rfl) (fun _ => rfl) ?_; intro g6)
  refine y_S rfl <| xN [0,1,6,7] [6] rfl <| A3 <| A0 <| y_M rfl ?_
  apply xC rfl
  ·apply A9
   ·exact B4 rfl
   exact C0
  ·exact O7 ws hz.1
  refine ⟨⟨rfl, rfl, rfl, dT rfl, rfl⟩, .inl rfl, B3, G4, fun _ => rfl, fun g36 => ?_⟩
  simp only [List.length_map]
  (refine xO rfl rfl (by simp) rfl (fun _ => rfl) (fun _ => rfl) ?_; intro g8)
  refine xN [0,1,6,7,8] [6,8] rfl <| A3 <| A0 <| y_M rfl ?_
  apply xC rfl
  ·apply A9
   ·exact B4 rfl
   exact C0
  ·exact V4 cols hzr
  refine ⟨⟨rfl, rfl, rfl, dT rfl, rfl⟩, .inl rfl, B3, G4, fun _ => rfl, fun g38 => ?_⟩
  simp only [List.length_map]
  (refine xO rfl rfl (by simp) rfl (fun _ => rfl) (fun _ => rfl) ?_; intro g9)
  refine xN [0,1,6,7,8,9] [6,8,9] rfl <| A3 <| A0 <| y_M rfl <| y_M rfl ?_
  apply xC rfl
  ·apply A9
   ·exact D7 rfl rfl rfl (by (simp; done)) (fun _ => rfl)
   apply A9
   ·exact L2 rfl rfl rfl (by (simp; done))
   exact C0
  ·exact (show CW (cxT oG) 18 [.list (ws.map tV), M cols] = some (.tup [.own 1 (([] : List Int).map iV), bV false], []) from by have hi := a2e (oG := oG) ws (by omega) (fun w h => by have := a4l (Nat.le_refl _) w h; omega) cols hzr.1 (a3y hzr.2); rw [hrc] at hi; exact hi)
  refine ⟨⟨rfl, rfl, rfl, dT rfl, rfl⟩, .inr ⟨G9 _ _, rfl⟩, B3, H1 (L8 fun _ => J7 rfl L6), fun _ => rfl, fun g42 => ?_⟩
  simp only [List.length_map]
  refine y_M rfl <| y_E rfl <| y_E rfl ?_
  (refine xO rfl rfl (by simp) rfl (fun _ => rfl) (fun _ => rfl) ?_; intro g10)
  refine y_S rfl <| xN [0,1,6,7,8,9,10,11] [6,8,9,10] rfl <| A3 <| A3 <| A0 <| y_M rfl <| y_M rfl ?_
  apply xC rfl
  ·apply A9
   ·exact D7 rfl rfl rfl (by (simp; done)) (fun _ => rfl)
   apply A9
   ·exact D7 rfl rfl rfl (by (simp; done)) (fun _ => rfl)
   exact C0
  ·exact Z7 [] (by decide)
  refine ⟨⟨rfl, rfl, rfl, dT rfl, rfl⟩, .inr ⟨rfl, rfl⟩, B3, D5 rfl, fun _ => rfl, fun g47 => ?_⟩
  refine K7 rfl <| y_M rfl <| E9 rfl rfl rfl <| y_M rfl <| E9 rfl rfl rfl <| y_M rfl <| E9 rfl rfl rfl <| b5f rfl rfl rfl <| F0 rfl rfl rfl rfl <| xN [0,1,6,7,8,9,10,11,53] [6,8,9,10] rfl ?_
  refine A5 rfl ?_ ?_ <;> intro hc <;> try simp only [SL] at hc
  ·refine A3 <| A0 <| y_S rfl <| xN [4] [] rfl <| B0 <| B5 rfl rfl trivial ?_
   (simp_all; done)
  refine A6 <| A3 <| A3 <| A0 <| y_M rfl <| y_M rfl ?_
  apply xC rfl
  ·apply A9
   ·exact B4 rfl
   exact C0
  ·exact O7 ws hz.1
  refine ⟨⟨rfl, rfl, rfl, dT rfl, rfl⟩, .inl rfl, B3, G4, fun _ => rfl, fun g56 => ?_⟩
  simp only [List.length_map]
  apply xC rfl
  ·apply A9
   ·exact D7 rfl rfl rfl (by (simp; done)) (fun _ => rfl)
   apply A9
   ·exact D7 rfl rfl rfl (by (simp; done)) (fun _ => rfl)
   exact C0
  ·exact a9a ws hz.1
  refine ⟨⟨rfl, rfl, rfl, dT rfl, rfl⟩, .inr ⟨rfl, rfl⟩, B3, D5 rfl, fun _ => rfl, fun g57 => ?_⟩
  refine K7 rfl <| xN [0,1,6,7,8,9,10,11,58] [6,8,9,10] rfl ?_
  refine A5 rfl (fun hc => absurd hc (by decide)) (fun hc => ?_)
  refine A6 <| A3 <| A3 <| A0 <| y_M rfl <| y_M rfl ?_
  apply xC rfl
  ·apply A9
   ·exact B4 rfl
   exact C0
  ·exact V4 cols hzr
  refine ⟨⟨rfl, rfl, rfl, dT rfl, rfl⟩, .inl rfl, B3, G4, fun _ => rfl, fun g61 => ?_⟩
  simp only [List.length_map]
  apply xC rfl
  ·apply A9
   ·exact L2 rfl rfl rfl (by (simp; done))
   apply A9
   ·exact L2 rfl rfl rfl (by (simp; done))
   exact C0
  ·exact b4q cols hzr
  refine ⟨⟨rfl, rfl, rfl, dT rfl, rfl⟩, .inr ⟨rfl, rfl⟩, B3, D5 rfl, fun _ => rfl, fun g62 => ?_⟩
  refine K7 rfl <| xN [0,1,6,7,8,9,10,11,63] [6,8,9,10] rfl ?_
  refine A5 rfl (fun hc => absurd hc (by decide)) (fun hc => ?_)
  refine A6 <| A3 <| A0 <| y_S rfl <| xN [0,1,6,7,8,9,10,11,12] [6,8,9,10] rfl <| A3 <| A0 <| y_M rfl <| y_M rfl ?_
  obtain ⟨_, _, ⟨rfl, rfl⟩, hM1⟩ := a4o (oG := oG) ws hz.1 1 (by omega)
  apply X1 rfl
  ·apply A9
   ·exact a1f rfl rfl (by decide) (by (simp; done)) (M9 fun _ => rfl)
   apply A9
   ·exact B4 rfl
   exact C0
  ·exact hM1
  ·exact ⟨rfl, rfl, rfl, dT rfl, rfl⟩
  ·exact .inl rfl
  ·exact Y7 rfl (by simp [a5j]) (b2b (fun _ => rfl) _ _) B3
  ·exact D5 rfl
  ·(intro _; exact D6 (B7 (A7 fun _ => rfl)) rfl)
  intro g66
  refine y_S rfl <| xN [0,1,6,7,9,10,11,12] [6,9,10] rfl <| A3 <| A0 <| y_M rfl <| y_M rfl ?_
  obtain ⟨_, _, ⟨r4, rfl, rfl, hr4, hr4n⟩, hM2⟩ := a8v (oG := oG) cols hzr (1 + ws.length) (by omega)
  apply xC rfl
  ·apply A9
   ·exact b0i rfl rfl (by (simp; done)) (A7 fun _ => rfl)
   apply A9
   ·exact B4 rfl
   exact C0
  ·exact hM2
  refine ⟨⟨rfl, rfl, rfl, dT rfl, rfl⟩, .inl rfl, B3, D5 rfl, fun _ => rfl, fun g69 => ?_⟩
  refine y_S rfl <| xN [0,1,6,7,10,11,12] [6,10] rfl <| A3 <| A3 <| A0 <| y_M rfl <| F8 rfl rfl <| y_M rfl ?_
  refine C8 rfl rfl ?_ ?_ <;> intro hg0 <;> have hg := hg0 <;> try simp only [SG] at hg
  ·refine y_M rfl <| gT rfl rfl <| y_M rfl <| gT rfl rfl ?_
   apply xC rfl
   ·apply A9
    ·exact D7 rfl rfl rfl (by (simp; done)) (fun _ => rfl)
    apply A9
    ·exact D7 rfl rfl rfl (by (simp; done)) (fun _ => rfl)
    exact C0
   ·exact Z7 [] (by decide)
   refine ⟨⟨rfl, rfl, rfl, dT rfl, rfl⟩, .inr ⟨rfl, rfl⟩, B3, D5 rfl, fun _ => rfl, fun g75 => ?_⟩
   refine gT rfl rfl <| K7 rfl <| F0 rfl (by assumption) rfl rfl <| y_M rfl <| E9 rfl rfl rfl <| y_M rfl <| E9 rfl rfl rfl <| y_M rfl <| E9 rfl rfl rfl <| b5f rfl rfl rfl <| F0 rfl rfl rfl rfl <| xN [0,1,6,7,10,82] [6,10] rfl ?_
   refine A5 rfl ?_ ?_ <;> intro hc <;> try simp only [SL] at hc
   ·refine A3 <| A0 <| y_S rfl <| xN [4] [] rfl <| B0 <| B5 rfl rfl trivial ?_
    (simp_all; done)
   refine A6 <| A3 <| A0 <| y_S rfl <| xN [0,1,6,7,10,13] [6,10] rfl <| A3 <| A0 <| y_M rfl <| y_M rfl ?_
   obtain ⟨_, _, ⟨rfl, rfl⟩, hM3⟩ := a5c (oG := oG) [] (by decide) 1 (by omega)
   apply xC rfl
   ·apply A9
    ·exact a1f rfl rfl (by decide) (by (simp; done)) (M9 fun _ => rfl)
    apply A9
    ·exact B4 rfl
    exact C0
   ·exact hM3
   refine ⟨⟨rfl, rfl, rfl, dT rfl, rfl⟩, .inl rfl, Y7 rfl rfl rfl B3, D5 rfl, fun _ => rfl, fun g85 => ?_⟩
   refine y_S rfl <| xN [0,1,6,7,10,13] [6,10] rfl <| A3 <| A0 <| y_S rfl <| xN [0,1,6,7,10,13,14] [6,10] rfl <| A3 <| A0 <| y_M rfl <| y_M rfl ?_
   apply xC rfl
   ·apply A9
    ·exact D7 rfl rfl rfl (by (simp; done)) (fun _ => rfl)
    apply A9
    ·exact B4 rfl
    exact C0
   ·exact a2d [].length (by decide) 1 (by omega)
   refine ⟨⟨rfl, rfl, rfl, dT rfl, rfl⟩, .inr ⟨rfl, rfl⟩, B3, D5 rfl, fun _ => rfl, fun g88 => ?_⟩
   refine y_S rfl <| xN [0,1,6,7,10,13,14] [6,10] rfl <| A3 <| A3 <| A0 <| y_M rfl <| F8 rfl rfl <| xN [0,1,6,7,10,13,14,90] [6,10] rfl ?_
   refine A5 rfl ?_ ?_ <;> intro hc <;> try simp only [SL] at hc
   ·refine A3 <| A0 <| y_S rfl <| xN [4] [] rfl <| B0 <| B5 rfl rfl trivial ?_
    (exfalso; omega)
   refine A6 <| A3 <| A3 <| A0 <| y_M rfl <| y_M rfl <| Z6 rfl rfl <| xN [0,1,6,7,10,13,93] [6,10] rfl ?_
   refine A5 rfl ?_ ?_ <;> intro hc <;> try simp only [SL] at hc
   ·refine A3 <| A0 <| y_S rfl <| xN [4] [] rfl <| B0 <| B5 rfl rfl trivial ?_
    (simp_all; done)
   refine A6 <| A3 <| A0 <| y_M rfl ?_
   apply xC rfl
   ·apply A9
    ·exact B4 rfl
    exact C0
   ·exact O7 ws hz.1
   refine ⟨⟨rfl, rfl, rfl, dT rfl, rfl⟩, .inl rfl, B3, G4, fun _ => rfl, fun g96 => ?_⟩
   simp only [List.length_map]
   refine y_M rfl ?_
   apply xC rfl
   ·apply A9
    ·exact B4 rfl
    exact C0
   ·exact V4 cols hzr
   refine ⟨⟨rfl, rfl, rfl, dT rfl, rfl⟩, .inl rfl, B3, G4, fun _ => rfl, fun g98 => ?_⟩
   simp only [List.length_map]
   apply xC rfl
   ·apply A9
    ·exact D7 rfl rfl rfl (by (simp; done)) (fun _ => rfl)
    apply A9
    ·exact L2 rfl rfl rfl (by (simp; done))
    exact C0
   ·exact (show CW (cxT oG) 18 [.list (ws.map tV), M cols] = some (.tup [.own 1 (([] : List Int).map iV), bV false], []) from by have hi := a2e (oG := oG) ws (by omega) (fun w h => by have := a4l (Nat.le_refl _) w h; omega) cols hzr.1 (a3y hzr.2); rw [hrc] at hi; exact hi)
   refine ⟨⟨rfl, rfl, rfl, dT rfl, rfl⟩, .inr ⟨G9 _ _, rfl⟩, B3, H1 (L8 fun _ => J7 rfl L6), fun _ => rfl, fun g99 => ?_⟩
   simp only [List.length_map]
   refine y_M rfl <| y_E rfl <| y_E rfl ?_
   (refine xO rfl rfl (by simp) rfl (fun _ => rfl) (fun _ => rfl) ?_; intro g15)
   refine y_S rfl <| xN [6,7,10,13,15,16] [6,10,15] rfl <| A3 <| A3 <| A0 <| y_M rfl <| y_M rfl ?_
   apply xC rfl
   ·apply A9
    ·exact D7 rfl rfl rfl (by (simp; done)) (fun _ => rfl)
    apply A9
    ·exact D7 rfl rfl rfl (by (simp; done)) (fun _ => rfl)
    exact C0
   ·exact Z7 [] (by decide)
   refine ⟨⟨rfl, rfl, rfl, dT rfl, rfl⟩, .inr ⟨rfl, rfl⟩, B3, D5 rfl, fun _ => rfl, fun g104 => ?_⟩
   refine K7 rfl <| y_M rfl <| E9 rfl rfl rfl <| y_M rfl <| E9 rfl rfl rfl <| y_M rfl <| E9 rfl rfl rfl <| b5f rfl rfl rfl <| F0 rfl rfl rfl rfl <| xN [10,13,110] [10] rfl ?_
   refine A5 rfl ?_ ?_ <;> intro hc <;> try simp only [SL] at hc
   ·refine A3 <| A0 <| y_S rfl <| xN [4] [] rfl <| B0 <| B5 rfl rfl trivial ?_
    (simp_all; done)
   refine A6 <| A3 <| A0 <| y_S rfl <| xN [10,13,14] [10] rfl <| A3 <| A0 <| y_M rfl <| y_M rfl ?_
   apply xC rfl
   ·apply A9
    ·exact D7 rfl rfl rfl (by (simp; done)) (fun _ => rfl)
    apply A9
    ·exact B4 rfl
    exact C0
   ·exact a2d [].length (by decide) 1 (by omega)
   refine ⟨⟨rfl, rfl, rfl, dT rfl, rfl⟩, .inr ⟨rfl, rfl⟩, B3, D5 rfl, fun _ => rfl, fun g113 => ?_⟩
   refine y_S rfl <| xN [13,14] [] rfl <| A3 <| A3 <| A0 <| y_M rfl <| F8 rfl rfl <| xN [13,14,115] [] rfl ?_
   refine A5 rfl ?_ ?_ <;> intro hc <;> try simp only [SL] at hc
   ·refine A3 <| A0 <| y_S rfl <| xN [4] [] rfl <| B0 <| B5 rfl rfl trivial ?_
    (exfalso; omega)
   refine A6 <| A3 <| A3 <| A0 <| y_M rfl <| y_M rfl <| Z6 rfl rfl <| xN [118] [] rfl ?_
   refine A5 rfl ?_ ?_ <;> intro hc <;> try simp only [SL] at hc
   ·refine A3 <| A0 <| y_S rfl <| xN [4] [] rfl <| B0 <| B5 rfl rfl trivial ?_
    (simp_all; done)
   refine A6 <| A3 <| A0 <| y_S rfl <| xN [4] [] rfl <| B0 <| B5 rfl rfl trivial ?_
   rfl
  refine gF rfl rfl <| gF rfl rfl <| gF rfl rfl <| F7 rfl (by assumption) rfl rfl <| y_M rfl <| I9 rfl rfl rfl <| I9 rfl rfl rfl <| I9 rfl rfl rfl <| F7 rfl rfl rfl rfl <| xN [0,1,6,7,10,82] [6,10] rfl ?_
  refine A5 rfl (fun hc => ?_) (fun hc => absurd hc (by decide))
  refine A3 <| A0 <| y_S rfl <| xN [4] [] rfl <| B0 <| B5 rfl rfl trivial ?_
  (exfalso; omega)
 rw [hrc, Option.getD_some] at hrl
 apply xC rfl
 ·apply A9
  ·exact a8h rfl rfl (by (simp; done)) (fun _ => rfl)
  apply A9
  ·exact a5o rfl rfl (by (simp; done))
  exact C0
 ·exact (show CW (cxT oG) 45 [.list (ws.map tV), M cols] = some (.tup [.list (r.map iV), bV true], []) from by have hi := b2y (oG := oG) ws (by omega) (fun w h => by have := a4l (Nat.le_refl _) w h; omega) cols hzr.1 (a3y hzr.2); rw [hrc] at hi; exact hi)
 refine ⟨⟨rfl, rfl, rfl, dT rfl, rfl⟩, .inl rfl, B3, W4 rfl, fun _ => rfl, fun g32 => ?_⟩
 refine y_M rfl <| y_E rfl <| y_E rfl <| y_S rfl <| y_S rfl <| xN [0,1,6,7] [] rfl <| A3 <| A0 <| y_M rfl ?_
 apply xC rfl
 ·apply A9
  ·exact B4 rfl
  exact C0
 ·exact O7 ws hz.1
 refine ⟨⟨rfl, rfl, rfl, dT rfl, rfl⟩, .inl rfl, B3, G4, fun _ => rfl, fun g36 => ?_⟩
 simp only [List.length_map]
 (refine xO rfl rfl (by simp) rfl (fun _ => rfl) (fun _ => rfl) ?_; intro g8)
 refine xN [0,1,6,7,8] [8] rfl <| A3 <| A0 <| y_M rfl ?_
 apply xC rfl
 ·apply A9
  ·exact B4 rfl
  exact C0
 ·exact V4 cols hzr
 refine ⟨⟨rfl, rfl, rfl, dT rfl, rfl⟩, .inl rfl, B3, G4, fun _ => rfl, fun g38 => ?_⟩
 simp only [List.length_map]
 (refine xO rfl rfl (by simp) rfl (fun _ => rfl) (fun _ => rfl) ?_; intro g9)
 refine xN [0,1,6,7,8,9] [8,9] rfl <| A3 <| A0 <| y_M rfl <| y_M rfl ?_
 apply xC rfl
 ·apply A9
  ·exact D7 rfl rfl rfl (by (simp; done)) (fun _ => rfl)
  apply A9
  ·exact L2 rfl rfl rfl (by (simp; done))
  exact C0
 ·exact (show CW (cxT oG) 18 [.list (ws.map tV), M cols] = some (.tup [.own 1 (r.map iV), bV true], []) from by have hi := a2e (oG := oG) ws (by omega) (fun w h => by have := a4l (Nat.le_refl _) w h; omega) cols hzr.1 (a3y hzr.2); rw [hrc] at hi; exact hi)
 refine ⟨⟨rfl, rfl, rfl, dT rfl, rfl⟩, .inr ⟨G9 _ _, rfl⟩, B3, H1 (L8 fun _ => J7 rfl L6), fun _ => rfl, fun g42 => ?_⟩
 simp only [List.length_map]
 refine y_M rfl <| y_E rfl <| y_E rfl ?_
 (refine xO rfl rfl (by simp) rfl (fun _ => rfl) (fun _ => rfl) ?_; intro g10)
 refine y_S rfl <| xN [0,1,6,7,8,9,10,11] [8,9,10] rfl <| A3 <| A3 <| A0 <| y_M rfl <| y_M rfl ?_
 apply xC rfl
 ·apply A9
  ·exact D7 rfl rfl rfl (by (simp; done)) (fun _ => rfl)
  apply A9
  ·exact B4 rfl
  exact C0
 ·exact Z7 r (by omega)
 refine ⟨⟨rfl, rfl, rfl, dT rfl, rfl⟩, .inr ⟨rfl, rfl⟩, B3, D5 rfl, fun _ => rfl, fun g47 => ?_⟩
 refine K7 rfl <| y_M rfl <| E9 rfl rfl rfl <| y_M rfl <| E9 rfl rfl rfl <| y_M rfl <| E9 rfl rfl rfl <| b5f rfl rfl rfl <| F0 rfl rfl rfl rfl <| xN [0,1,6,7,8,9,10,11,53] [8,9,10] rfl ?_
 refine A5 rfl ?_ ?_ <;> intro hc <;> try simp only [SL] at hc
 ·refine A3 <| A0 <| y_S rfl <| xN [4] [] rfl <| B0 <| B5 rfl rfl trivial ?_
  (simp_all; done)
 refine A6 <| A3 <| A3 <| A0 <| y_M rfl <| y_M rfl ?_
 apply xC rfl
 ·apply A9
  ·exact B4 rfl
  exact C0
 ·exact O7 ws hz.1
 refine ⟨⟨rfl, rfl, rfl, dT rfl, rfl⟩, .inl rfl, B3, G4, fun _ => rfl, fun g56 => ?_⟩
 simp only [List.length_map]
 apply xC rfl
 ·apply A9
  ·exact D7 rfl rfl rfl (by (simp; done)) (fun _ => rfl)
  apply A9
  ·exact D7 rfl rfl rfl (by (simp; done)) (fun _ => rfl)
  exact C0
 ·exact a9a ws hz.1
 refine ⟨⟨rfl, rfl, rfl, dT rfl, rfl⟩, .inr ⟨rfl, rfl⟩, B3, D5 rfl, fun _ => rfl, fun g57 => ?_⟩
 refine K7 rfl <| xN [0,1,6,7,8,9,10,11,58] [8,9,10] rfl ?_
 refine A5 rfl (fun hc => absurd hc (by decide)) (fun hc => ?_)
 refine A6 <| A3 <| A3 <| A0 <| y_M rfl <| y_M rfl ?_
 apply xC rfl
 ·apply A9
  ·exact B4 rfl
  exact C0
 ·exact V4 cols hzr
 refine ⟨⟨rfl, rfl, rfl, dT rfl, rfl⟩, .inl rfl, B3, G4, fun _ => rfl, fun g61 => ?_⟩
 simp only [List.length_map]
 apply xC rfl
 ·apply A9
  ·exact L2 rfl rfl rfl (by (simp; done))
  apply A9
  ·exact L2 rfl rfl rfl (by (simp; done))
  exact C0
 ·exact b4q cols hzr
 refine ⟨⟨rfl, rfl, rfl, dT rfl, rfl⟩, .inr ⟨rfl, rfl⟩, B3, D5 rfl, fun _ => rfl, fun g62 => ?_⟩
 refine K7 rfl <| xN [0,1,6,7,8,9,10,11,63] [8,9,10] rfl ?_
 refine A5 rfl (fun hc => absurd hc (by decide)) (fun hc => ?_)
 refine A6 <| A3 <| A0 <| y_S rfl <| xN [0,1,6,7,8,9,10,11,12] [8,9,10] rfl <| A3 <| A0 <| y_M rfl <| y_M rfl ?_
 obtain ⟨_, _, ⟨rfl, rfl⟩, hM1⟩ := a4o (oG := oG) ws hz.1 1 (by omega)
 apply X1 rfl
 ·apply A9
  ·exact a1f rfl rfl (by decide) (by (simp; done)) (M9 fun _ => rfl)
  apply A9
  ·exact B4 rfl
  exact C0
 ·exact hM1
 ·exact ⟨rfl, rfl, rfl, dT rfl, rfl⟩
 ·exact .inl rfl
 ·exact Y7 rfl (by simp [a5j]) (b2b (fun _ => rfl) _ _) B3
 ·exact D5 rfl
 ·(intro _; exact D6 (B7 (A7 fun _ => rfl)) rfl)
 intro g66
 refine y_S rfl <| xN [0,1,6,7,9,10,11,12] [9,10] rfl <| A3 <| A0 <| y_M rfl <| y_M rfl ?_
 obtain ⟨_, _, ⟨r4, rfl, rfl, hr4, hr4n⟩, hM2⟩ := a8v (oG := oG) cols hzr (1 + ws.length) (by omega)
 apply xC rfl
 ·apply A9
  ·exact b0i rfl rfl (by (simp; done)) (A7 fun _ => rfl)
  apply A9
  ·exact B4 rfl
  exact C0
 ·exact hM2
 refine ⟨⟨rfl, rfl, rfl, dT rfl, rfl⟩, .inl rfl, B3, D5 rfl, fun _ => rfl, fun g69 => ?_⟩
 refine y_S rfl <| xN [0,1,6,7,10,11,12] [10] rfl <| A3 <| A3 <| A0 <| y_M rfl <| F8 rfl rfl <| y_M rfl ?_
 refine C8 rfl rfl ?_ ?_ <;> intro hg0 <;> have hg := hg0 <;> try simp only [SG] at hg
 ·refine y_M rfl <| gT rfl rfl <| y_M rfl <| gT rfl rfl ?_
  apply xC rfl
  ·apply A9
   ·exact D7 rfl rfl rfl (by (simp; done)) (fun _ => rfl)
   apply A9
   ·exact B4 rfl
   exact C0
  ·exact Z7 r (by omega)
  refine ⟨⟨rfl, rfl, rfl, dT rfl, rfl⟩, .inr ⟨rfl, rfl⟩, B3, D5 rfl, fun _ => rfl, fun g75 => ?_⟩
  refine gT rfl rfl <| K7 rfl <| F0 rfl (by assumption) rfl rfl <| y_M rfl <| E9 rfl rfl rfl <| y_M rfl <| E9 rfl rfl rfl <| y_M rfl <| E9 rfl rfl rfl <| b5f rfl rfl rfl <| F0 rfl rfl rfl rfl <| xN [0,1,6,7,10,82] [10] rfl ?_
  refine A5 rfl ?_ ?_ <;> intro hc <;> try simp only [SL] at hc
  ·refine A3 <| A0 <| y_S rfl <| xN [4] [] rfl <| B0 <| B5 rfl rfl trivial ?_
   (simp_all; done)
  refine A6 <| A3 <| A0 <| y_S rfl <| xN [0,1,6,7,10,13] [10] rfl <| A3 <| A0 <| y_M rfl <| y_M rfl ?_
  obtain ⟨_, _, ⟨rfl, rfl⟩, hM3⟩ := a5c (oG := oG) r (by omega) 1 (by omega)
  apply X1 rfl
  ·apply A9
   ·exact a1f rfl rfl (by decide) (by (simp; done)) (M9 fun _ => rfl)
   apply A9
   ·exact B4 rfl
   exact C0
  ·exact hM3
  ·exact ⟨rfl, rfl, rfl, dT rfl, rfl⟩
  ·exact .inl rfl
  ·exact Y7 rfl (by simp) (a2c _ _) B3
  ·exact D5 rfl
  ·(intro _; exact D6 (B7 (A7 fun _ => rfl)) rfl)
  intro g85
  refine y_S rfl <| xN [0,1,6,7,10,13] [10] rfl <| A3 <| A0 <| y_S rfl <| xN [0,1,6,7,10,13,14] [10] rfl <| A3 <| A0 <| y_M rfl <| y_M rfl ?_
  apply xC rfl
  ·apply A9
   ·exact D7 rfl rfl rfl (by (simp; done)) (fun _ => rfl)
   apply A9
   ·exact B4 rfl
   exact C0
  ·exact a2d r.length (by omega) 1 (by omega)
  refine ⟨⟨rfl, rfl, rfl, dT rfl, rfl⟩, .inr ⟨rfl, rfl⟩, B3, D5 rfl, fun _ => rfl, fun g88 => ?_⟩
  refine y_S rfl <| xN [0,1,6,7,10,13,14] [10] rfl <| A3 <| A3 <| A0 <| y_M rfl <| F8 rfl rfl <| xN [0,1,6,7,10,13,14,90] [10] rfl ?_
  refine A5 rfl ?_ ?_ <;> intro hc <;> try simp only [SL] at hc
  ·refine A3 <| A0 <| y_S rfl <| xN [4] [] rfl <| B0 <| B5 rfl rfl trivial ?_
   (exfalso; omega)
  refine A6 <| A3 <| A3 <| A0 <| y_M rfl <| y_M rfl <| Z6 rfl rfl <| xN [0,1,6,7,10,13,93] [10] rfl ?_
  refine A5 rfl ?_ ?_ <;> intro hc <;> try simp only [SL] at hc
  ·refine A3 <| A0 <| y_S rfl <| xN [4] [] rfl <| B0 <| B5 rfl rfl trivial ?_
   (simp_all; done)
  refine A6 <| A3 <| A0 <| y_M rfl ?_
  apply xC rfl
  ·apply A9
   ·exact B4 rfl
   exact C0
  ·exact O7 ws hz.1
  refine ⟨⟨rfl, rfl, rfl, dT rfl, rfl⟩, .inl rfl, B3, G4, fun _ => rfl, fun g96 => ?_⟩
  simp only [List.length_map]
  refine y_M rfl ?_
  apply xC rfl
  ·apply A9
   ·exact B4 rfl
   exact C0
  ·exact V4 cols hzr
  refine ⟨⟨rfl, rfl, rfl, dT rfl, rfl⟩, .inl rfl, B3, G4, fun _ => rfl, fun g98 => ?_⟩
  simp only [List.length_map]
  apply xC rfl
  ·apply A9
   ·exact D7 rfl rfl rfl (by (simp; done)) (fun _ => rfl)
   apply A9
   ·exact L2 rfl rfl rfl (by (simp; done))
   exact C0
  ·exact (show CW (cxT oG) 18 [.list (ws.map tV), M cols] = some (.tup [.own 1 (r.map iV), bV true], []) from by have hi := a2e (oG := oG) ws (by omega) (fun w h => by have := a4l (Nat.le_refl _) w h; omega) cols hzr.1 (a3y hzr.2); rw [hrc] at hi; exact hi)
  refine ⟨⟨rfl, rfl, rfl, dT rfl, rfl⟩, .inr ⟨G9 _ _, rfl⟩, B3, H1 (L8 fun _ => J7 rfl L6), fun _ => rfl, fun g99 => ?_⟩
  simp only [List.length_map]
  refine y_M rfl <| y_E rfl <| y_E rfl ?_
  (refine xO rfl rfl (by simp) rfl (fun _ => rfl) (fun _ => rfl) ?_; intro g15)
  refine y_S rfl <| xN [6,7,10,13,15,16] [10,15] rfl <| A3 <| A3 <| A0 <| y_M rfl <| y_M rfl ?_
  apply xC rfl
  ·apply A9
   ·exact D7 rfl rfl rfl (by (simp; done)) (fun _ => rfl)
   apply A9
   ·exact B4 rfl
   exact C0
  ·exact Z7 r (by omega)
  refine ⟨⟨rfl, rfl, rfl, dT rfl, rfl⟩, .inr ⟨rfl, rfl⟩, B3, D5 rfl, fun _ => rfl, fun g104 => ?_⟩
  refine K7 rfl <| y_M rfl <| E9 rfl rfl rfl <| y_M rfl <| E9 rfl rfl rfl <| y_M rfl <| E9 rfl rfl rfl <| b5f rfl rfl rfl <| F0 rfl rfl rfl rfl <| xN [10,13,110] [10] rfl ?_
  refine A5 rfl ?_ ?_ <;> intro hc <;> try simp only [SL] at hc
  ·refine A3 <| A0 <| y_S rfl <| xN [4] [] rfl <| B0 <| B5 rfl rfl trivial ?_
   (simp_all; done)
  refine A6 <| A3 <| A0 <| y_S rfl <| xN [10,13,14] [10] rfl <| A3 <| A0 <| y_M rfl <| y_M rfl ?_
  apply xC rfl
  ·apply A9
   ·exact D7 rfl rfl rfl (by (simp; done)) (fun _ => rfl)
   apply A9
   ·exact B4 rfl
   exact C0
  ·exact a2d r.length (by omega) 1 (by omega)
  refine ⟨⟨rfl, rfl, rfl, dT rfl, rfl⟩, .inr ⟨rfl, rfl⟩, B3, D5 rfl, fun _ => rfl, fun g113 => ?_⟩
  refine y_S rfl <| xN [13,14] [] rfl <| A3 <| A3 <| A0 <| y_M rfl <| F8 rfl rfl <| xN [13,14,115] [] rfl ?_
  refine A5 rfl ?_ ?_ <;> intro hc <;> try simp only [SL] at hc
  ·refine A3 <| A0 <| y_S rfl <| xN [4] [] rfl <| B0 <| B5 rfl rfl trivial ?_
   (exfalso; omega)
  refine A6 <| A3 <| A3 <| A0 <| y_M rfl <| y_M rfl <| Z6 rfl rfl <| xN [118] [] rfl ?_
  refine A5 rfl ?_ ?_ <;> intro hc <;> try simp only [SL] at hc
  ·refine A3 <| A0 <| y_S rfl <| xN [4] [] rfl <| B0 <| B5 rfl rfl trivial ?_
   (simp_all; done)
  refine A6 <| A3 <| A0 <| y_S rfl <| xN [4] [] rfl <| B0 <| B5 rfl rfl trivial ?_
  rfl
 refine gF rfl rfl <| gF rfl rfl <| gF rfl rfl <| F7 rfl (by assumption) rfl rfl <| y_M rfl <| I9 rfl rfl rfl <| I9 rfl rfl rfl <| I9 rfl rfl rfl <| F7 rfl rfl rfl rfl <| xN [0,1,6,7,10,82] [10] rfl ?_
 refine A5 rfl (fun hc => ?_) (fun hc => absurd hc (by decide))
 refine A3 <| A0 <| y_S rfl <| xN [4] [] rfl <| B0 <| B5 rfl rfl trivial ?_
 (exfalso; omega)
end Go.Proofs.YtcpmbhfnapijaaaGreatDoor
