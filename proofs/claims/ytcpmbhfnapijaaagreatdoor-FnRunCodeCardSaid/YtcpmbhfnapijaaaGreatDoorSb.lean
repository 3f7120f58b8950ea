/- What each function of the program gives on the abstract machine, part 2 of 2. Conditions: those in front of each theorem. -/
import Derived.Test.YtcpmbhfnapijaaaGreatDoorSa
import Derived.KernelRfl

set_option linter.unusedVariables false
set_option linter.unusedSimpArgs false
namespace Go.Proofs.YtcpmbhfnapijaaaGreatDoor
open Go Go.Mv Go.Proofs
set_option maxRecDepth 100000
set_option maxHeartbeats 20000000
variable {oG : Option Nat} {rG : Nat}

theorem b0d : F3 Tryz.f18 = [0, 1, 4, 5, 23, 26, 25, 27, 24, 8, 9, 6, 12, 11, 45, 47, 10, 13, 15, 68, 14, 78] := by kernel_rfl
theorem a2h (ws : List W8) (hw : ws.length ≤ 1048576) (hwl : ∀ w ∈ ws, w.length ≤ 1048576) (cols : List (List Int)) (hc4 : cols.length ≤ 1048576) (hcb : ∀ c ∈ cols, c.length ≤ 1048576) : CW (cxT oG) 18 [.list (ws.map tV), M cols] = some (.tup [.own 1 (((rcF cols ws).getD []).map iV), bV (rcF cols ws).isSome], []) := by
 refine F0 rfl Tryz.func18 rfl ⟨by kernel_rfl, rfl, dT rfl, dT rfl, by decide⟩ b0d <| A3 <| A0 ?_
 (refine A8 rfl rfl (fun _ => rfl) ?_; intro g4)
 refine y_S rfl <| xN [0,1] [] rfl <| A3 <| A3 <| A0 <| y_M rfl <| C9 rfl rfl <| M4 rfl rfl <| y_M rfl ?_
 refine C6 rfl rfl ?_ ?_ <;> intro hg0 <;> have hg := hg0 <;> try simp only [SG] at hg
 ·refine y_M rfl <| gT rfl rfl ?_
  refine xC1 rfl rfl (b2z cols hc4 hcb) ⟨rfl, rfl, rfl⟩ rfl rfl fun g21 => ?_
  refine gT rfl rfl <| L4 rfl <| F4 rfl (by assumption) rfl rfl <| xN [0,1,23] [] rfl ?_
  refine A5 rfl ?_ ?_ <;> intro hc <;> try simp only [SL] at hc
  ·refine A3 <| A0 ?_
   (refine A8 rfl rfl (fun _ => rfl) ?_; intro g4)
   refine y_S rfl <| xN [4,5] [4] rfl <| B1 <| C7 (E7 rfl rfl (by simp) (by rfl) (D7 rfl rfl (E3 C0))) ?_
   rw [c6a (by exact .inr (by simpa using hc))]
   rfl
  have hvc : vcs cols = true := by assumption
  have hw16 : ws.length ≤ 16 := by omega
  refine A9 <| A3 <| A0 ?_
  (refine A8 rfl rfl (fun _ => rfl) ?_; intro g6)
  refine xN [0,1,6] [6] rfl <| A3 <| A3 <| A0 <| y_M rfl <| C9 rfl rfl <| y_M rfl <| xN [1,6,24,25,26] [6] rfl <| B7 <| F5 (β := Nat × List (List Int) × Nat) [(.t 1, _), (.t 24, _), (.t 25, _)] (fun (z : Nat × List (List Int) × Nat) => match z with | (i, st, g) => [(.t 26, iV i), (.h 6, .obj g 0 1 (st.map oI)), (.t 6, .sl 6 g none 0 st.length)]) (fun (z : Nat × List (List Int) × Nat) => match z with | (i, st, g) => i ≤ ws.length ∧ F9 cols (ws.take i) [] = some st) (fun (z : Nat × List (List Int) × Nat) => match z with | (i, st, g) => ws.length - i) (0, [], _) ⟨rfl, rfl, rfl, rfl, rfl, rfl, trivial⟩ ⟨Nat.zero_le _, rfl⟩ ?_
  intro z hb
  obtain ⟨i, st, g⟩ := z
  try dsimp only at hb
  obtain ⟨hi1, hst⟩ := hb
  have hsl := b4a _ hst
  rw [List.length_take, List.length_nil] at hsl
  have hvl := d1w hvc hst
  refine A3 <| A0 <| H4 rfl rfl <| xN [1,6,24,25,26,27] [6] rfl <| A3 ?_
  refine A5 rfl ?_ ?_ <;> intro hc <;> try simp only [SL] at hc
  ·refine A9 <| A3 <| B7 <| A3 <| A0 <| B5 rfl rfl rfl (fun _ => rfl) (by omega) <| y_I rfl <| y_S rfl <| xN [1,6,8,24,25,26] [6] rfl <| A3 <| A0 <| y_M rfl ?_
   obtain ⟨w, hwd⟩ : ∃ w, w = ws.getD i default := ⟨_, rfl⟩
   rw [← hwd]
   have hwi : w.length ≤ 1048576 := by rw [hwd]; exact hwl _ (L1 (by omega))
   rcases b9b w with ⟨ns, hns⟩ | ⟨hnn, hn⟩ | ⟨hnn, hn⟩ | ⟨hnn, hn⟩ | ⟨hnn, hn⟩
   ·skip
    apply xC rfl
    ·apply A6
     ·exact B6 rfl
     exact B8
    ·exact (show CW (cxT oG) 63 [tV w] = some (.tup [tV lW, .own 1 (ns.map iV), bV true], []) from by have hi := a0u (oG := oG) w (by omega); rw [hns] at hi; exact hi)
    refine ⟨⟨rfl, rfl, rfl, dT rfl, rfl⟩, .inr ⟨by simp [hasList, E9], rfl⟩, B0, G7 (I4 rfl (J8 fun _ => I4 rfl K2)), fun _ => C3 (B2 (A7 fun _ => rfl)) (by rfl), fun g32 => ?_⟩
    try simp only [List.length_map]
    refine y_M rfl <| y_E rfl <| y_E rfl <| y_E rfl <| y_S rfl ?_
    (refine xO rfl rfl (by simp) rfl (fun _ => rfl) (fun _ => rfl) ?_; intro g10)
    refine y_S rfl <| xN [1,6,9,10,11,24,25,26] [6,10] rfl <| A3 <| A0 <| y_M rfl ?_
    refine xC1 rfl rfl (a5j (bA lW)) ⟨rfl, rfl, rfl⟩ rfl rfl fun g37 => ?_
    rw [show nd (bA lW) = 0 from d3o rfl]
    refine y_S rfl <| xN [1,6,9,10,11,12,24,25,26] [6,10] rfl <| A3 <| A3 <| A0 <| y_M rfl <| L4 rfl <| y_M rfl <| E4 rfl rfl rfl <| y_M rfl <| E4 rfl rfl rfl <| y_M rfl <| E4 rfl rfl rfl <| G8 rfl rfl <| E4 rfl rfl rfl <| M4 rfl rfl <| F4 rfl rfl rfl rfl <| xN [1,6,9,10,12,24,25,26,45] [6,10] rfl ?_
    refine A5 rfl (fun hc => ?_) (fun hc => ?_)
    ·try simp only [SD] at hc
     omega
    try simp only [SL] at hc
    refine A9 <| A3 <| A3 <| A0 <| y_M rfl <| L0 rfl rfl <| xN [1,6,9,10,12,24,25,26,47] [6,10] rfl ?_
    refine A5 rfl (fun hc => ?_) (fun hc => absurd hc (by decide))
    refine A3 <| A0 <| y_M rfl <| y_M rfl <| y_M rfl <| y_M rfl ?_
    apply xC rfl
    ·apply A6
     ·exact B6 rfl
     apply A6
     ·exact E5 rfl rfl rfl (by (simp; done)) (fun _ => rfl)
     apply A6
     ·exact B6 rfl
     exact B8
    ·exact c7t ns (by have := a5b hns; have := b3a this; omega) cols
    refine ⟨⟨rfl, rfl, rfl, dT rfl, rfl⟩, .inr ⟨Y6 fun _ => rfl, rfl⟩, B0, H9, fun _ => rfl, fun g52 => ?_⟩
    simp only [List.length_map]
    refine a1f rfl rfl (by simp) rfl rfl rfl (fun _ => rfl) ?_
    intro g53
    refine L7 (f := oI) (xs := st) (ys := [ns]) rfl rfl rfl rfl (by simp) (by simp) (by decide) rfl rfl rfl rfl (dT rfl) (fun a => ⟨rfl, b1l a⟩) (by simp only [G9]; simp; omega) (fun _ => rfl) ?_
    intro g54
    (refine xO rfl rfl (by simp) rfl (fun _ => rfl) (fun _ => rfl) ?_; intro g6)
    refine xN [1,6,24,25,26] [6] rfl <| F6 <| A0 <| F8 rfl rfl (C1 (by omega)) <| y_M rfl <| xN [1,6,24,25,26] [6] rfl ?_
    refine ⟨(i + 1, _, _), ?_, (by simp only; omega), ⟨rfl, rfl, rfl, rfl, rfl, rfl, trivial⟩⟩
    exact ⟨by omega, a1l (by omega) hst (by rw [← hwd]; exact d2u cols st hns)⟩
   ·obtain ⟨⟨k, hk, ek⟩, -⟩ := c5s hn
    have hci := c5h hk
    apply xC rfl
    ·apply A6
     ·exact B6 rfl
     exact B8
    ·exact (show CW (cxT oG) 63 [tV w] = some (.tup [tV w, .own 1 [], bV true], []) from by have hi := a0u (oG := oG) w (by omega); rw [hnn] at hi; rw [show decide (0 ≤ rch (bA w)) = true from decide_eq_true (by omega)] at hi; exact hi)
    refine ⟨⟨rfl, rfl, rfl, dT rfl, rfl⟩, .inr ⟨rfl, rfl⟩, B0, G7 (I4 rfl (J8 fun _ => I4 rfl K2)), fun _ => C3 (B2 rfl) (by rfl), fun g32 => ?_⟩
    try simp only [List.length_map]
    refine y_M rfl <| y_E rfl <| y_E rfl <| y_E rfl <| y_S rfl ?_
    (refine J0 rfl rfl (by (simp; done)) rfl (fun _ => (B2 (by rfl))) (fun _ => rfl) ?_; intro g10)
    refine y_S rfl <| xN [1,6,9,10,11,24,25,26] [6,10] rfl <| A3 <| A0 <| y_M rfl ?_
    refine xC1 rfl rfl (a5j (bA w)) ⟨rfl, rfl, rfl⟩ rfl rfl fun g37 => ?_
    rw [show nd (bA w) = 0 from (X2 (by omega)).trans hn]
    refine y_S rfl <| xN [1,6,9,10,11,12,24,25,26] [6,10] rfl <| A3 <| A3 <| A0 <| y_M rfl <| L4 rfl <| y_M rfl <| E4 rfl rfl rfl <| y_M rfl <| E4 rfl rfl rfl <| y_M rfl <| E4 rfl rfl rfl <| G8 rfl rfl <| E4 rfl rfl rfl <| M4 rfl rfl <| F4 rfl rfl rfl rfl <| xN [1,6,9,10,12,24,25,26,45] [6,10] rfl ?_
    refine A5 rfl (fun hc => ?_) (fun hc => ?_)
    ·try simp only [SD] at hc
     omega
    try simp only [SL] at hc
    refine A9 <| A3 <| A3 <| A0 <| y_M rfl <| L0 rfl rfl <| xN [1,6,9,10,12,24,25,26,47] [6,10] rfl ?_
    refine A5 rfl (fun hc => ?_) (fun hc => absurd hc (by decide))
    refine A3 <| A0 <| y_M rfl <| y_M rfl <| y_M rfl <| y_M rfl ?_
    apply xC rfl
    ·apply A6
     ·exact B6 rfl
     apply A6
     ·exact b1b rfl rfl rfl rfl rfl
     apply A6
     ·exact B6 rfl
     exact B8
    ·exact (by have hi := c9s (oG := oG) k hk [] cols hc4 hcb; rw [← ek] at hi; exact hi)
    refine ⟨⟨rfl, rfl, rfl, dT rfl, rfl⟩, .inr ⟨Y6 fun _ => rfl, rfl⟩, B0, H9, fun _ => rfl, fun g52 => ?_⟩
    simp only [List.length_map]
    refine a1f rfl rfl (by simp) rfl rfl rfl (fun _ => rfl) ?_
    intro g53
    refine L7 (f := oI) (xs := st) (ys := [cols.getD k default]) rfl rfl rfl rfl (by simp) (by simp) (by decide) rfl rfl rfl rfl (dT rfl) (fun a => ⟨rfl, b1l a⟩) (by simp only [G9]; simp; omega) (fun _ => rfl) ?_
    intro g54
    (refine xO rfl rfl (by simp) rfl (fun _ => rfl) (fun _ => rfl) ?_; intro g6)
    refine xN [1,6,24,25,26] [6] rfl <| F6 <| A0 <| F8 rfl rfl (C1 (by omega)) <| y_M rfl <| xN [1,6,24,25,26] [6] rfl ?_
    refine ⟨(i + 1, _, _), ?_, (by simp only; omega), ⟨rfl, rfl, rfl, rfl, rfl, rfl, trivial⟩⟩
    exact ⟨by omega, a1l (by omega) hst (by rw [← hwd]; exact (d2m cols st hnn hn).trans (by rw [ek, hci]))⟩
   ·have hnd : nd (bA w) = 1 := (X2 (by omega)).trans hn
    apply xC rfl
    ·apply A6
     ·exact B6 rfl
     exact B8
    ·exact (show CW (cxT oG) 63 [tV w] = some (.tup [tV w, .own 1 [], bV true], []) from by have hi := a0u (oG := oG) w (by omega); rw [hnn] at hi; rw [show decide (0 ≤ rch (bA w)) = true from decide_eq_true (by omega)] at hi; exact hi)
    refine ⟨⟨rfl, rfl, rfl, dT rfl, rfl⟩, .inr ⟨rfl, rfl⟩, B0, G7 (I4 rfl (J8 fun _ => I4 rfl K2)), fun _ => C3 (B2 rfl) (by rfl), fun g32 => ?_⟩
    try simp only [List.length_map]
    refine y_M rfl <| y_E rfl <| y_E rfl <| y_E rfl <| y_S rfl ?_
    (refine J0 rfl rfl (by (simp; done)) rfl (fun _ => (B2 (by rfl))) (fun _ => rfl) ?_; intro g10)
    refine y_S rfl <| xN [1,6,9,10,11,24,25,26] [6,10] rfl <| A3 <| A0 <| y_M rfl ?_
    refine xC1 rfl rfl (a5j (bA w)) ⟨rfl, rfl, rfl⟩ rfl rfl fun g37 => ?_
    rw [show nd (bA w) = 1 from (X2 (by omega)).trans hn]
    refine y_S rfl <| xN [1,6,9,10,11,12,24,25,26] [6,10] rfl <| A3 <| A3 <| A0 <| y_M rfl <| L4 rfl <| y_M rfl <| E4 rfl rfl rfl <| y_M rfl <| E4 rfl rfl rfl <| y_M rfl <| E4 rfl rfl rfl <| G8 rfl rfl <| E4 rfl rfl rfl <| M4 rfl rfl <| F4 rfl rfl rfl rfl <| xN [1,6,9,10,12,24,25,26,45] [6,10] rfl ?_
    refine A5 rfl ?_ ?_ <;> intro hc <;> try simp only [SL] at hc
    ·refine A3 <| A0 ?_
     (refine A8 rfl rfl (fun _ => rfl) ?_; intro g4)
     refine y_S rfl <| xN [4,5] [4] rfl <| B1 <| C7 (E7 rfl rfl (by simp) (by rfl) (D7 rfl rfl (E3 C0))) ?_
     rw [P3 (P5 (by omega) hst (by rw [← hwd]; exact a1n cols st hnn (by omega)))]
     rfl
    refine A9 <| A3 <| A3 <| A0 <| y_M rfl <| L0 rfl rfl <| xN [1,6,9,10,12,24,25,26,47] [6,10] rfl ?_
    refine A5 rfl (fun hc => absurd hc (by decide)) (fun hc => ?_)
    refine A9 <| A3 <| A0 <| y_M rfl <| G8 rfl rfl <| y_M rfl <| K6 rfl rfl (C1 (by omega)) <| y_S rfl <| xN [1,6,9,13,24,25,26] [6] rfl <| A3 <| A0 <| y_M rfl <| y_M rfl <| y_M rfl ?_
    rw [show ((st.length : Int) - 1) = ((st.length - 1 : Nat) : Int) by omega]
    refine a1d rfl rfl rfl I2 (G0 rfl) (by omega) rfl ?_
    apply xC rfl
    ·apply A6
     ·exact B6 rfl
     apply A6
     ·exact a7i rfl rfl rfl (by omega)
     exact B8
    ·exact c2g (bA w) (by omega) (st.getD (st.length - 1) default) [] (a5k hvl _) d1v ((st.drop (0 + (st.length - 1))).take (st.length - (st.length - 1))) (by rw [a3p _ (by omega)]; omega) (by rw [a3p _ (by omega)]; omega) (b2s _ (by omega) (by omega)) (fun h => by rw [a3p _ (by omega)] at h; omega)
    refine ⟨⟨rfl, rfl, rfl, dT rfl, rfl⟩, .inr ⟨H5 _ _, rfl⟩, B0, G7 (J8 fun _ => I4 rfl K2), fun _ => rfl, fun g64 => ?_⟩
    simp only [List.length_map]
    refine y_M rfl <| y_E rfl <| y_E rfl ?_
    (refine xO rfl rfl (by simp) rfl (fun _ => rfl) (fun _ => rfl) ?_; intro g14)
    refine y_S rfl <| xN [1,6,13,14,15,24,25,26] [6,14] rfl <| A3 <| A3 <| A0 <| y_M rfl <| L4 rfl <| xN [1,6,13,14,24,25,26,68] [6,14] rfl ?_
    refine A5 rfl ?_ ?_ <;> intro hc <;> try simp only [SL] at hc
    ·refine A3 <| A0 ?_
     (refine A8 rfl rfl (fun _ => rfl) ?_; intro g4)
     refine y_S rfl <| xN [4,5] [4] rfl <| B1 <| C7 (E7 rfl rfl (by simp) (by rfl) (D7 rfl rfl (E3 C0))) ?_
     have hno : mkR (bA w) (st.getD (st.length - 1) default) [] = none := by simpa using hc
     rw [P3 (P5 (by omega) hst (by rw [← hwd]; exact (a9f cols (n := 1) st hnn hn (by omega) (by omega)).trans (by rw [if_neg (by decide), hno]; rfl)))]
     rfl
    obtain ⟨r, hr⟩ : ∃ r, mkR (bA w) (st.getD (st.length - 1) default) [] = some r := Option.isSome_iff_exists.1 (by assumption)
    rw [hr]
    simp only [Option.getD_some]
    refine A9 <| A0 <| y_M rfl <| y_M rfl ?_
    skip
    refine X0 rfl rfl rfl (G0 rfl) (by omega) rfl <| y_M rfl <| a1f rfl rfl (by simp) rfl rfl rfl (fun _ => rfl) ?_
    intro g73
    refine a6u rfl rfl rfl rfl (by omega) (by simp) (by decide) rfl rfl rfl rfl (dT rfl) (fun _ => ⟨rfl, rfl⟩) (by simp only [G9]; (simp only [List.length_nil, List.length_cons, List.length_append, Nat.zero_add, List.length_map]; omega)) (fun _ => rfl) ?_
    intro g74
    (refine xO rfl rfl (by simp) rfl (fun _ => rfl) (fun _ => rfl) ?_; intro g6)
    refine xN [1,6,24,25,26] [6] rfl <| A0 <| F8 rfl rfl (C1 (by omega)) <| y_M rfl <| xN [1,6,24,25,26] [6] rfl ?_
    refine ⟨(i + 1, _, _), ?_, (by simp only; omega), ⟨rfl, rfl, rfl, rfl, rfl, rfl, trivial⟩⟩
    exact ⟨by omega, a1l (by omega) hst (by rw [← hwd]; exact (a9f cols (n := 1) st hnn hn (by omega) (by omega)).trans (by rw [if_neg (by decide), hr]; rfl))⟩
   ·have hnd : nd (bA w) = 2 := (X2 (by omega)).trans hn
    apply xC rfl
    ·apply A6
     ·exact B6 rfl
     exact B8
    ·exact (show CW (cxT oG) 63 [tV w] = some (.tup [tV w, .own 1 [], bV true], []) from by have hi := a0u (oG := oG) w (by omega); rw [hnn] at hi; rw [show decide (0 ≤ rch (bA w)) = true from decide_eq_true (by omega)] at hi; exact hi)
    refine ⟨⟨rfl, rfl, rfl, dT rfl, rfl⟩, .inr ⟨rfl, rfl⟩, B0, G7 (I4 rfl (J8 fun _ => I4 rfl K2)), fun _ => C3 (B2 rfl) (by rfl), fun g32 => ?_⟩
    try simp only [List.length_map]
    refine y_M rfl <| y_E rfl <| y_E rfl <| y_E rfl <| y_S rfl ?_
    (refine J0 rfl rfl (by (simp; done)) rfl (fun _ => (B2 (by rfl))) (fun _ => rfl) ?_; intro g10)
    refine y_S rfl <| xN [1,6,9,10,11,24,25,26] [6,10] rfl <| A3 <| A0 <| y_M rfl ?_
    refine xC1 rfl rfl (a5j (bA w)) ⟨rfl, rfl, rfl⟩ rfl rfl fun g37 => ?_
    rw [show nd (bA w) = 2 from (X2 (by omega)).trans hn]
    refine y_S rfl <| xN [1,6,9,10,11,12,24,25,26] [6,10] rfl <| A3 <| A3 <| A0 <| y_M rfl <| L4 rfl <| y_M rfl <| E4 rfl rfl rfl <| y_M rfl <| E4 rfl rfl rfl <| y_M rfl <| E4 rfl rfl rfl <| G8 rfl rfl <| E4 rfl rfl rfl <| M4 rfl rfl <| F4 rfl rfl rfl rfl <| xN [1,6,9,10,12,24,25,26,45] [6,10] rfl ?_
    refine A5 rfl ?_ ?_ <;> intro hc <;> try simp only [SL] at hc
    ·refine A3 <| A0 ?_
     (refine A8 rfl rfl (fun _ => rfl) ?_; intro g4)
     refine y_S rfl <| xN [4,5] [4] rfl <| B1 <| C7 (E7 rfl rfl (by simp) (by rfl) (D7 rfl rfl (E3 C0))) ?_
     rw [P3 (P5 (by omega) hst (by rw [← hwd]; exact a1n cols st hnn (by omega)))]
     rfl
    refine A9 <| A3 <| A3 <| A0 <| y_M rfl <| L0 rfl rfl <| xN [1,6,9,10,12,24,25,26,47] [6,10] rfl ?_
    refine A5 rfl (fun hc => absurd hc (by decide)) (fun hc => ?_)
    refine A9 <| A3 <| A0 <| y_M rfl <| G8 rfl rfl <| y_M rfl <| K6 rfl rfl (C1 (by omega)) <| y_S rfl <| xN [1,6,9,13,24,25,26] [6] rfl <| A3 <| A0 <| y_M rfl <| y_M rfl <| y_M rfl ?_
    rw [show ((st.length : Int) - 2) = ((st.length - 2 : Nat) : Int) by omega]
    refine a1d rfl rfl rfl I2 (G0 rfl) (by omega) rfl ?_
    apply xC rfl
    ·apply A6
     ·exact B6 rfl
     apply A6
     ·exact a7i rfl rfl rfl (by omega)
     exact B8
    ·exact c2g (bA w) (by omega) (st.getD (st.length - 2) default) (st.getD (st.length - 1) default) (a5k hvl _) (a5k hvl _) ((st.drop (0 + (st.length - 2))).take (st.length - (st.length - 2))) (by rw [a3p _ (by omega)]; omega) (by rw [a3p _ (by omega)]; omega) (b2s _ (by omega) (by omega)) (fun _ => (b2s _ (by omega) (by omega)).trans (by rw [show st.length - 2 + 1 = st.length - 1 by omega]))
    refine ⟨⟨rfl, rfl, rfl, dT rfl, rfl⟩, .inr ⟨H5 _ _, rfl⟩, B0, G7 (J8 fun _ => I4 rfl K2), fun _ => rfl, fun g64 => ?_⟩
    simp only [List.length_map]
    refine y_M rfl <| y_E rfl <| y_E rfl ?_
    (refine xO rfl rfl (by simp) rfl (fun _ => rfl) (fun _ => rfl) ?_; intro g14)
    refine y_S rfl <| xN [1,6,13,14,15,24,25,26] [6,14] rfl <| A3 <| A3 <| A0 <| y_M rfl <| L4 rfl <| xN [1,6,13,14,24,25,26,68] [6,14] rfl ?_
    refine A5 rfl ?_ ?_ <;> intro hc <;> try simp only [SL] at hc
    ·refine A3 <| A0 ?_
     (refine A8 rfl rfl (fun _ => rfl) ?_; intro g4)
     refine y_S rfl <| xN [4,5] [4] rfl <| B1 <| C7 (E7 rfl rfl (by simp) (by rfl) (D7 rfl rfl (E3 C0))) ?_
     have hno : mkR (bA w) (st.getD (st.length - 2) default) (st.getD (st.length - 1) default) = none := by simpa using hc
     rw [P3 (P5 (by omega) hst (by rw [← hwd]; exact (a9f cols (n := 2) st hnn hn (by omega) (by omega)).trans (by rw [if_pos rfl, hno]; rfl)))]
     rfl
    obtain ⟨r, hr⟩ : ∃ r, mkR (bA w) (st.getD (st.length - 2) default) (st.getD (st.length - 1) default) = some r := Option.isSome_iff_exists.1 (by assumption)
    rw [hr]
    simp only [Option.getD_some]
    refine A9 <| A0 <| y_M rfl <| y_M rfl ?_
    skip
    refine X0 rfl rfl rfl (G0 rfl) (by omega) rfl <| y_M rfl <| a1f rfl rfl (by simp) rfl rfl rfl (fun _ => rfl) ?_
    intro g73
    refine a6u rfl rfl rfl rfl (by omega) (by simp) (by decide) rfl rfl rfl rfl (dT rfl) (fun _ => ⟨rfl, rfl⟩) (by simp only [G9]; (simp only [List.length_nil, List.length_cons, List.length_append, Nat.zero_add, List.length_map]; omega)) (fun _ => rfl) ?_
    intro g74
    (refine xO rfl rfl (by simp) rfl (fun _ => rfl) (fun _ => rfl) ?_; intro g6)
    refine xN [1,6,24,25,26] [6] rfl <| A0 <| F8 rfl rfl (C1 (by omega)) <| y_M rfl <| xN [1,6,24,25,26] [6] rfl ?_
    refine ⟨(i + 1, _, _), ?_, (by simp only; omega), ⟨rfl, rfl, rfl, rfl, rfl, rfl, trivial⟩⟩
    exact ⟨by omega, a1l (by omega) hst (by rw [← hwd]; exact (a9f cols (n := 2) st hnn hn (by omega) (by omega)).trans (by rw [if_pos rfl, hr]; rfl))⟩
   skip
   apply xC rfl
   ·apply A6
    ·exact B6 rfl
    exact B8
   ·exact (show CW (cxT oG) 63 [tV w] = some (.tup [tV w, .own 1 [], bV false], []) from by have hi := a0u (oG := oG) w (by omega); rw [hnn] at hi; rw [show decide (0 ≤ rch (bA w)) = false from decide_eq_false (by omega)] at hi; exact hi)
   refine ⟨⟨rfl, rfl, rfl, dT rfl, rfl⟩, .inr ⟨rfl, rfl⟩, B0, G7 (I4 rfl (J8 fun _ => I4 rfl K2)), fun _ => C3 (B2 rfl) (by rfl), fun g32 => ?_⟩
   try simp only [List.length_map]
   refine y_M rfl <| y_E rfl <| y_E rfl <| y_E rfl <| y_S rfl ?_
   (refine J0 rfl rfl (by (simp; done)) rfl (fun _ => (B2 (by rfl))) (fun _ => rfl) ?_; intro g10)
   refine y_S rfl <| xN [1,6,9,10,11,24,25,26] [6,10] rfl <| A3 <| A0 <| y_M rfl ?_
   refine xC1 rfl rfl (a5j (bA w)) ⟨rfl, rfl, rfl⟩ rfl rfl fun g37 => ?_
   refine y_S rfl <| xN [1,6,9,10,11,12,24,25,26] [6,10] rfl <| A3 <| A3 <| A0 <| y_M rfl <| L4 rfl <| y_M rfl ?_
   iterate 4 refine M1 rfl rfl rfl ?_
   refine E8 rfl rfl rfl rfl <| xN [1,6,9,10,12,24,25,26,45] [6,10] rfl ?_
   refine A5 rfl (fun hc => ?_) (fun hc => absurd hc (by decide))
   refine A3 <| A0 ?_
   (refine A8 rfl rfl (fun _ => rfl) ?_; intro g4)
   refine y_S rfl <| xN [4,5] [4] rfl <| B1 <| C7 (E7 rfl rfl (by simp) (by rfl) (D7 rfl rfl (E3 C0))) ?_
   rw [P3 (P5 (by omega) hst (by rw [← hwd]; exact a1n cols st hnn (by omega)))]
   rfl
  refine F6 <| A3 <| A3 <| A0 <| y_M rfl <| G8 rfl rfl <| a9o rfl rfl <| xN [6,78] [6] rfl ?_
  refine A5 rfl ?_ ?_ <;> intro hc <;> try simp only [SL] at hc
  ·refine A3 <| A0 ?_
   (refine A8 rfl rfl (fun _ => rfl) ?_; intro g4)
   refine y_S rfl <| xN [4,5] [4] rfl <| B1 <| C7 (E7 rfl rfl (by simp) (by rfl) (D7 rfl rfl (E3 C0))) ?_
   rw [c6c (by rw [List.take_of_length_le (by omega)] at hst; exact hst) (by omega)]
   rfl
  refine A9 <| A3 <| A0 <| y_M rfl <| D9 rfl rfl rfl rfl (by (change 0 < _; omega)) (by (simp; done)) rfl <| c5c rfl rfl (by (change 0 < _; omega)) rfl rfl <| y_S rfl <| y_S rfl <| xN [4,5] [6] rfl <| B1 ?_
  refine C7 (d4i rfl rfl (c4i (by show 0 < st.length; omega) rfl) (getElem?_map_getD (by show 0 < st.length; omega)) (by simp) (A7 fun _ => rfl) (D7 rfl rfl (E3 C0))) ?_
  rw [c9p hw16 hvc (by rw [List.take_of_length_le (by omega)] at hst; exact hst) (by omega)]
  rfl
 refine gF rfl rfl <| gF rfl rfl <| E8 rfl (by assumption) rfl rfl <| xN [0,1,23] [] rfl ?_
 refine A5 rfl (fun hc => ?_) (fun hc => absurd hc (by decide))
 refine A3 <| A0 ?_
 (refine A8 rfl rfl (fun _ => rfl) ?_; intro g4)
 refine y_S rfl <| xN [4,5] [4] rfl <| B1 <| C7 (E7 rfl rfl (by simp) (by rfl) (D7 rfl rfl (E3 C0))) ?_
 rw [c6a (by exact .inl (by omega))]
 rfl

theorem b0b : F3 Tryz.f45 = [0, 1, 4, 5, 23, 7, 28, 9, 44, 8, 6, 11, 10, 57, 59, 77, 13, 12, 15, 94, 14, 107] := by kernel_rfl
theorem b1v (ws : List W8) (hw : ws.length ≤ 1048576) (hwl : ∀ w ∈ ws, w.length ≤ 1048576) (cols : List (List Int)) (hc4 : cols.length ≤ 1048576) (hcb : ∀ c ∈ cols, c.length ≤ 1048576) : CW (cxT oG) 45 [.list (ws.map tV), M cols] = some ((match rcF cols ws with | some r => .tup [.list (r.map iV), bV true] | none => .tup [.own 1 [], bV false]), []) := by
 refine F0 rfl Tryz.func45 rfl ⟨by kernel_rfl, rfl, dT rfl, dT rfl, by decide⟩ b0b <| A3 <| A0 ?_
 (refine A8 rfl rfl (fun _ => rfl) ?_; intro g4)
 refine y_S rfl <| xN [0,1] [] rfl <| A3 <| A3 <| A0 <| y_M rfl <| C9 rfl rfl <| M4 rfl rfl <| y_M rfl ?_
 refine C6 rfl rfl ?_ ?_ <;> intro hg0 <;> have hg := hg0 <;> try simp only [SG] at hg
 ·refine y_M rfl <| gT rfl rfl ?_
  refine xC1 rfl rfl (b0m cols hc4 hcb) ⟨rfl, rfl, rfl⟩ rfl rfl fun g21 => ?_
  refine gT rfl rfl <| L4 rfl <| F4 rfl (by assumption) rfl rfl <| xN [0,1,23] [] rfl ?_
  refine A5 rfl ?_ ?_ <;> intro hc <;> try simp only [SL] at hc
  ·refine A3 <| A0 ?_
   (refine A8 rfl rfl (fun _ => rfl) ?_; intro g4)
   refine y_S rfl <| xN [4,5] [4] rfl <| B1 <| C7 (E7 rfl rfl (by simp) (by rfl) (D7 rfl rfl (E3 C0))) ?_
   rw [c6a (by exact .inr (by simpa using hc))]
   rfl
  have hvc : vcs cols = true := by assumption
  have hw16 : ws.length ≤ 16 := by omega
  refine A9 <| A3 <| A0 <| B3 (es := List.map lF []) rfl rfl (dT rfl) rfl rfl (fun _ => B2 (A7 fun _ => rfl)) (fun _ => rfl) ?_
  intro g24
  (refine xO rfl rfl (by simp) rfl (fun _ => rfl) (fun _ => rfl) ?_; intro g6)
  refine xN [0,1,6] [6] rfl <| A3 <| A3 <| A0 <| y_S rfl <| xN [0,1,6,7] [6] rfl <| B7 <| F5 (β := Nat × List (List Int) × Nat) [(.t 0, _), (.t 1, _)] (fun (z : Nat × List (List Int) × Nat) => match z with | (i, st, g) => [(.t 7, iV i), (.h 6, .obj g 0 1 (st.map lF)), (.t 6, .sl 6 g none 0 st.length)]) (fun (z : Nat × List (List Int) × Nat) => match z with | (i, st, g) => i ≤ ws.length ∧ F9 cols (ws.take i) [] = some st) (fun (z : Nat × List (List Int) × Nat) => match z with | (i, st, g) => ws.length - i) (0, [], _) ⟨rfl, rfl, rfl, rfl, rfl, trivial⟩ ⟨Nat.zero_le _, rfl⟩ ?_
  intro z hb
  obtain ⟨i, st, g⟩ := z
  try dsimp only at hb
  obtain ⟨hi1, hst⟩ := hb
  have hsl := b4a _ hst
  rw [List.length_take, List.length_nil] at hsl
  have hvl := d1w hvc hst
  refine A3 <| A3 <| A0 <| y_M rfl <| y_M rfl <| C9 rfl rfl <| H4 rfl rfl <| xN [0,1,6,7,28] [6] rfl ?_
  refine A5 rfl ?_ ?_ <;> intro hc <;> try simp only [SL] at hc
  ·refine A9 <| A3 <| B7 <| A3 <| A0 <| y_M rfl <| y_M rfl <| B5 rfl rfl rfl (fun _ => rfl) (by omega) <| y_I rfl ?_
   obtain ⟨w, hwd⟩ : ∃ w, w = ws.getD i default := ⟨_, rfl⟩
   rw [← hwd]
   have hwi : w.length ≤ 1048576 := by rw [hwd]; exact hwl _ (L1 (by omega))
   rcases b9b w with ⟨ns, hns⟩ | ⟨hnn, hn⟩ | ⟨hnn, hn⟩ | ⟨hnn, hn⟩ | ⟨hnn, hn⟩
   ·skip
    apply xC rfl
    ·apply A6
     ·exact B6 rfl
     exact B8
    ·exact W7 w (by omega)
    refine ⟨⟨rfl, rfl, rfl, dT rfl, rfl⟩, .inr ⟨H5 _ _, rfl⟩, B0, G7 (J8 fun _ => I4 rfl K2), fun _ => rfl, fun g36 => ?_⟩
    simp only [List.length_map]
    rw [hns, c5w hns]
    refine y_M rfl <| y_E rfl <| y_E rfl ?_
    (refine xO rfl rfl (by simp) rfl (fun _ => rfl) (fun _ => rfl) ?_; intro g8)
    refine y_S rfl <| xN [0,1,6,7,8,9] [6,8] rfl <| A3 <| A0 <| y_M rfl <| y_M rfl <| B5 rfl rfl rfl (fun _ => rfl) (by omega) <| y_I rfl ?_
    rw [← hwd]
    refine xC1 rfl rfl (a0m (bA w)) ⟨rfl, rfl, rfl⟩ rfl rfl fun g43 => ?_
    skip
    refine y_S rfl <| xN [0,1,6,7,8,9,10] [6,8] rfl <| A3 <| A3 <| A0 <| y_M rfl <| xN [0,1,6,7,8,10,44] [6,8] rfl ?_
    refine A5 rfl (fun hc => ?_) (fun hc => absurd hc (by exact fun h => Bool.noConfusion (show true = false from h)))
    refine A3 <| A0 <| y_M rfl <| y_M rfl <| S0 (φ := iV) rfl rfl (by simp) (fun _ => rfl) rfl rfl rfl rfl (fun _ => rfl) ?_
    intro g47
    rw [show ([.list (List.map iV ns)] : List AV) = List.map lF [ns] from rfl]
    refine xA rfl rfl rfl rfl (by simp) (by simp) rfl rfl rfl rfl rfl (fun _ => rfl) (by simp only [LN]; omega) (fun _ => rfl) ?_
    intro g48
    (refine xO rfl rfl (by simp) rfl (fun _ => rfl) (fun _ => rfl) ?_; intro g6)
    refine xN [0,1,6,7] [6] rfl <| F6 <| A0 <| y_M rfl <| F8 rfl rfl (C1 (by omega)) <| y_S rfl <| xN [0,1,6,7] [6] rfl ?_
    refine ⟨(i + 1, _, _), ?_, (by simp only; omega), ⟨rfl, rfl, rfl, rfl, rfl, trivial⟩⟩
    exact ⟨by omega, a1l (by omega) hst (by rw [← hwd]; exact d2u cols st hns)⟩
   ·obtain ⟨⟨k, hk, ek⟩, -⟩ := c5s hn
    have hci := c5h hk
    apply xC rfl
    ·apply A6
     ·exact B6 rfl
     exact B8
    ·exact W7 w (by omega)
    refine ⟨⟨rfl, rfl, rfl, dT rfl, rfl⟩, .inr ⟨H5 _ _, rfl⟩, B0, G7 (J8 fun _ => I4 rfl K2), fun _ => rfl, fun g36 => ?_⟩
    simp only [List.length_map]
    rw [hnn]
    refine y_M rfl <| y_E rfl <| y_E rfl ?_
    (refine xO rfl rfl (by simp) rfl (fun _ => rfl) (fun _ => rfl) ?_; intro g8)
    refine y_S rfl <| xN [0,1,6,7,8,9] [6,8] rfl <| A3 <| A0 <| y_M rfl <| y_M rfl <| B5 rfl rfl rfl (fun _ => rfl) (by omega) <| y_I rfl ?_
    rw [← hwd]
    refine xC1 rfl rfl (a0m (bA w)) ⟨rfl, rfl, rfl⟩ rfl rfl fun g43 => ?_
    rw [hn]
    refine y_S rfl <| xN [0,1,6,7,8,9,10] [6,8] rfl <| A3 <| A3 <| A0 <| y_M rfl <| xN [0,1,6,7,8,10,44] [6,8] rfl ?_
    refine A5 rfl (fun hc => absurd hc (by decide)) (fun hc => ?_)
    refine A9 <| A3 <| A0 <| y_M rfl <| G8 rfl rfl <| y_S rfl <| xN [0,1,6,7,10,11] [6] rfl <| A3 <| A3 <| A0 <| y_M rfl <| H4 rfl rfl <| y_M rfl ?_
    refine C6 rfl rfl ?_ ?_ <;> intro hg0 <;> have hg := hg0 <;> try simp only [SG] at hg
    ·refine y_M rfl <| gT rfl rfl <| y_M rfl <| gT rfl rfl <| M4 rfl rfl <| F4 rfl rfl rfl rfl <| xN [0,1,6,7,10,11,57] [6] rfl ?_
     refine A5 rfl (fun hc => ?_) (fun hc => ?_)
     ·try simp only [SD] at hc
      omega
     try simp only [SL] at hc
     refine A9 <| A3 <| A3 <| A0 <| y_M rfl <| L0 rfl rfl <| xN [0,1,6,7,10,11,59] [6] rfl ?_
     refine A5 rfl (fun hc => ?_) (fun hc => absurd hc (by decide))
     refine A3 <| A0 <| y_M rfl <| y_M rfl <| y_M rfl <| B5 rfl rfl rfl (fun _ => rfl) (by omega) <| y_I rfl <| y_M rfl ?_
     rw [← hwd]
     apply xC rfl
     ·apply A6
      ·exact B6 rfl
      apply A6
      ·exact B6 rfl
      exact B8
     ·exact (by have hi := c4f (oG := oG) k hk cols hc4 hcb; rw [← ek] at hi; exact hi)
     refine ⟨⟨rfl, rfl, rfl, dT rfl, rfl⟩, .inl rfl, B0, H9, fun _ => rfl, fun g66 => ?_⟩
     simp only [List.length_map]
     refine S0 (φ := iV) rfl rfl (by simp) (fun _ => rfl) rfl rfl rfl rfl (fun _ => rfl) ?_
     intro g67
     rw [show ([.list (List.map iV (cols.getD k default))] : List AV) = List.map lF [(cols.getD k default)] from rfl]
     refine xA rfl rfl rfl rfl (by simp) (by simp) rfl rfl rfl rfl rfl (fun _ => rfl) (by simp only [LN]; omega) (fun _ => rfl) ?_
     intro g68
     (refine xO rfl rfl (by simp) rfl (fun _ => rfl) (fun _ => rfl) ?_; intro g6)
     refine xN [0,1,6,7] [6] rfl <| F6 <| A0 <| y_M rfl <| F8 rfl rfl (C1 (by omega)) <| y_S rfl <| xN [0,1,6,7] [6] rfl ?_
     refine ⟨(i + 1, _, _), ?_, (by simp only; omega), ⟨rfl, rfl, rfl, rfl, rfl, trivial⟩⟩
     exact ⟨by omega, a1l (by omega) hst (by rw [← hwd]; exact (d2m cols st hnn hn).trans (by rw [ek, hci]))⟩
    refine gF rfl rfl <| gF rfl rfl <| E8 rfl (by assumption) rfl rfl <| xN [0,1,6,7,10,11,57] [6] rfl ?_
    refine A5 rfl (fun hc => ?_) (fun hc => absurd hc (by decide))
    refine A3 <| A0 ?_
    (refine A8 rfl rfl (fun _ => rfl) ?_; intro g4)
    refine y_S rfl <| xN [4,5] [4] rfl <| B1 <| C7 (E7 rfl rfl (by simp) (by rfl) (D7 rfl rfl (E3 C0))) ?_
    rw [P3 (P5 (by omega) hst (by rw [← hwd]; exact a1n cols st hnn (by omega)))]
    rfl
   ·have hnd : nd (bA w) = 1 := (X2 (by omega)).trans hn
    apply xC rfl
    ·apply A6
     ·exact B6 rfl
     exact B8
    ·exact W7 w (by omega)
    refine ⟨⟨rfl, rfl, rfl, dT rfl, rfl⟩, .inr ⟨H5 _ _, rfl⟩, B0, G7 (J8 fun _ => I4 rfl K2), fun _ => rfl, fun g36 => ?_⟩
    simp only [List.length_map]
    rw [hnn]
    refine y_M rfl <| y_E rfl <| y_E rfl ?_
    (refine xO rfl rfl (by simp) rfl (fun _ => rfl) (fun _ => rfl) ?_; intro g8)
    refine y_S rfl <| xN [0,1,6,7,8,9] [6,8] rfl <| A3 <| A0 <| y_M rfl <| y_M rfl <| B5 rfl rfl rfl (fun _ => rfl) (by omega) <| y_I rfl ?_
    rw [← hwd]
    refine xC1 rfl rfl (a0m (bA w)) ⟨rfl, rfl, rfl⟩ rfl rfl fun g43 => ?_
    rw [hn]
    refine y_S rfl <| xN [0,1,6,7,8,9,10] [6,8] rfl <| A3 <| A3 <| A0 <| y_M rfl <| xN [0,1,6,7,8,10,44] [6,8] rfl ?_
    refine A5 rfl (fun hc => absurd hc (by decide)) (fun hc => ?_)
    refine A9 <| A3 <| A0 <| y_M rfl <| G8 rfl rfl <| y_S rfl <| xN [0,1,6,7,10,11] [6] rfl <| A3 <| A3 <| A0 <| y_M rfl <| H4 rfl rfl <| y_M rfl ?_
    refine C6 rfl rfl ?_ ?_ <;> intro hg0 <;> have hg := hg0 <;> try simp only [SG] at hg
    ·refine y_M rfl <| gT rfl rfl <| y_M rfl <| gT rfl rfl <| M4 rfl rfl <| F4 rfl rfl rfl rfl <| xN [0,1,6,7,10,11,57] [6] rfl ?_
     refine A5 rfl ?_ ?_ <;> intro hc <;> try simp only [SL] at hc
     ·refine A3 <| A0 ?_
      (refine A8 rfl rfl (fun _ => rfl) ?_; intro g4)
      refine y_S rfl <| xN [4,5] [4] rfl <| B1 <| C7 (E7 rfl rfl (by simp) (by rfl) (D7 rfl rfl (E3 C0))) ?_
      rw [P3 (P5 (by omega) hst (by rw [← hwd]; exact a1n cols st hnn (by omega)))]
      rfl
     refine A9 <| A3 <| A3 <| A0 <| y_M rfl <| L0 rfl rfl <| xN [0,1,6,7,10,11,59] [6] rfl ?_
     refine A5 rfl (fun hc => absurd hc (by decide)) (fun hc => ?_)
     refine A9 <| A3 <| A0 <| y_M rfl <| y_M rfl <| y_M rfl <| K6 rfl rfl (C1 (by omega)) ?_
     rw [show ((st.length : Int) - 1) = ((st.length - 1 : Nat) : Int) by omega]
     refine D9 rfl rfl rfl rfl (by omega) (by (simp; done)) rfl <| G3 rfl rfl (by omega) (fun _ => rfl) (fun _ => rfl) rfl <| y_S rfl <| xN [0,1,6,7,10,11,12] [6] rfl <| A3 <| A0 <| B3 (es := List.map iV []) rfl rfl (dT rfl) rfl rfl (fun _ => B2 (A7 fun _ => rfl)) (fun _ => rfl) ?_
     intro g75
     (refine xO rfl rfl (by simp) rfl (fun _ => rfl) (fun _ => rfl) ?_; intro g13)
     refine xN [0,1,6,7,10,11,12,13] [6,13] rfl <| A3 <| A3 <| A0 <| y_M rfl <| L0 rfl rfl <| xN [0,1,6,7,10,11,12,13,77] [6,13] rfl ?_
     refine A5 rfl (fun hc => absurd hc (by decide)) (fun hc => ?_)
     refine A9 <| A3 <| A0 <| y_M rfl <| y_M rfl <| B5 rfl rfl rfl (fun _ => rfl) (by omega) <| y_I rfl <| y_M rfl <| y_M rfl ?_
     try rw [← hwd]
     apply xC rfl
     ·apply A6
      ·exact B6 rfl
      apply A6
      ·exact B6 rfl
      apply A6
      ·exact E5 rfl rfl rfl (by (simp; done)) (fun _ => rfl)
      exact B8
     ·exact c5z (bA w) (by omega) (st.getD (st.length - 1) default) [] (a5k hvl _) d1v
     refine ⟨⟨rfl, rfl, rfl, dT rfl, rfl⟩, .inr ⟨H5 _ _, rfl⟩, B0, G7 (J8 fun _ => I4 rfl K2), fun _ => rfl, fun g90 => ?_⟩
     simp only [List.length_map]
     refine y_M rfl <| y_E rfl <| y_E rfl ?_
     (refine xO rfl rfl (by simp) rfl (fun _ => rfl) (fun _ => rfl) ?_; intro g14)
     refine y_S rfl <| xN [0,1,6,7,10,11,14,15] [6,14] rfl <| A3 <| A3 <| A0 <| y_M rfl <| L4 rfl <| xN [0,1,6,7,10,11,14,94] [6,14] rfl ?_
     refine A5 rfl ?_ ?_ <;> intro hc <;> try simp only [SL] at hc
     ·refine A3 <| A0 ?_
      (refine A8 rfl rfl (fun _ => rfl) ?_; intro g4)
      refine y_S rfl <| xN [4,5] [4] rfl <| B1 <| C7 (E7 rfl rfl (by simp) (by rfl) (D7 rfl rfl (E3 C0))) ?_
      have hno : mkR (bA w) (st.getD (st.length - 1) default) [] = none := by simpa using hc
      rw [P3 (P5 (by omega) hst (by rw [← hwd]; exact (a9f cols (n := 1) st hnn hn (by omega) (by omega)).trans (by rw [if_neg (by decide), hno]; rfl)))]
      rfl
     obtain ⟨r, hr⟩ : ∃ r, mkR (bA w) (st.getD (st.length - 1) default) [] = some r := Option.isSome_iff_exists.1 (by assumption)
     rw [c6o hr]
     refine A9 <| A0 <| B3 (es := List.map lF []) rfl rfl (dT rfl) rfl rfl (fun _ => B2 (A7 fun _ => rfl)) (fun _ => rfl) ?_
     intro g95
     refine y_M rfl <| y_M rfl <| y_M rfl <| K6 rfl rfl (C1 (by omega)) ?_
     try rw [show ((st.length : Int) - 1) = ((st.length - 1 : Nat) : Int) by omega]
     refine X0 rfl rfl rfl (G0 rfl) (by omega) rfl <| N0 rfl rfl rfl rfl (by decide) rfl (by (simp; done)) (by omega) rfl rfl rfl (dT rfl) (fun _ => ⟨rfl, rfl, rfl⟩) (by simp only [G9]; (simp only [List.length_nil, List.length_cons, List.length_append, Nat.zero_add, List.length_map]; omega)) (fun _ => rfl) ?_
     intro g101
     refine y_M rfl <| S0 (φ := iV) rfl rfl (by simp) (fun _ => rfl) rfl rfl rfl rfl (fun _ => rfl) ?_
     intro g103
     rw [show ([.list (List.map iV r)] : List AV) = List.map lF [r] from rfl]
     refine L7 rfl rfl rfl rfl (by (simp; done)) (by simp) (by decide) rfl rfl rfl rfl (dT rfl) (fun _ => ⟨rfl, rfl⟩) (by simp only [G9]; (simp; omega)) (fun _ => rfl) ?_
     intro g104
     (refine xO rfl rfl (by simp) rfl (fun _ => rfl) (fun _ => rfl) ?_; intro g6)
     refine xN [0,1,6,7] [6] rfl <| A0 <| y_M rfl <| F8 rfl rfl (C1 (by omega)) <| y_S rfl <| xN [0,1,6,7] [6] rfl ?_
     refine ⟨(i + 1, _, _), ?_, (by simp only; omega), ⟨rfl, rfl, rfl, rfl, rfl, trivial⟩⟩
     exact ⟨by omega, a1l (by omega) hst (by rw [← hwd]; exact (a9f cols (n := 1) st hnn hn (by omega) (by omega)).trans (by rw [if_neg (by decide), hr]; rfl))⟩
    refine gF rfl rfl <| gF rfl rfl <| E8 rfl (by assumption) rfl rfl <| xN [0,1,6,7,10,11,57] [6] rfl ?_
    refine A5 rfl (fun hc => ?_) (fun hc => absurd hc (by decide))
    refine A3 <| A0 ?_
    (refine A8 rfl rfl (fun _ => rfl) ?_; intro g4)
    refine y_S rfl <| xN [4,5] [4] rfl <| B1 <| C7 (E7 rfl rfl (by simp) (by rfl) (D7 rfl rfl (E3 C0))) ?_
    rw [P3 (P5 (by omega) hst (by rw [← hwd]; exact a1n cols st hnn (by omega)))]
    rfl
   ·have hnd : nd (bA w) = 2 := (X2 (by omega)).trans hn
    apply xC rfl
    ·apply A6
     ·exact B6 rfl
     exact B8
    ·exact W7 w (by omega)
    refine ⟨⟨rfl, rfl, rfl, dT rfl, rfl⟩, .inr ⟨H5 _ _, rfl⟩, B0, G7 (J8 fun _ => I4 rfl K2), fun _ => rfl, fun g36 => ?_⟩
    simp only [List.length_map]
    rw [hnn]
    refine y_M rfl <| y_E rfl <| y_E rfl ?_
    (refine xO rfl rfl (by simp) rfl (fun _ => rfl) (fun _ => rfl) ?_; intro g8)
    refine y_S rfl <| xN [0,1,6,7,8,9] [6,8] rfl <| A3 <| A0 <| y_M rfl <| y_M rfl <| B5 rfl rfl rfl (fun _ => rfl) (by omega) <| y_I rfl ?_
    rw [← hwd]
    refine xC1 rfl rfl (a0m (bA w)) ⟨rfl, rfl, rfl⟩ rfl rfl fun g43 => ?_
    rw [hn]
    refine y_S rfl <| xN [0,1,6,7,8,9,10] [6,8] rfl <| A3 <| A3 <| A0 <| y_M rfl <| xN [0,1,6,7,8,10,44] [6,8] rfl ?_
    refine A5 rfl (fun hc => absurd hc (by decide)) (fun hc => ?_)
    refine A9 <| A3 <| A0 <| y_M rfl <| G8 rfl rfl <| y_S rfl <| xN [0,1,6,7,10,11] [6] rfl <| A3 <| A3 <| A0 <| y_M rfl <| H4 rfl rfl <| y_M rfl ?_
    refine C6 rfl rfl ?_ ?_ <;> intro hg0 <;> have hg := hg0 <;> try simp only [SG] at hg
    ·refine y_M rfl <| gT rfl rfl <| y_M rfl <| gT rfl rfl <| M4 rfl rfl <| F4 rfl rfl rfl rfl <| xN [0,1,6,7,10,11,57] [6] rfl ?_
     refine A5 rfl ?_ ?_ <;> intro hc <;> try simp only [SL] at hc
     ·refine A3 <| A0 ?_
      (refine A8 rfl rfl (fun _ => rfl) ?_; intro g4)
      refine y_S rfl <| xN [4,5] [4] rfl <| B1 <| C7 (E7 rfl rfl (by simp) (by rfl) (D7 rfl rfl (E3 C0))) ?_
      rw [P3 (P5 (by omega) hst (by rw [← hwd]; exact a1n cols st hnn (by omega)))]
      rfl
     refine A9 <| A3 <| A3 <| A0 <| y_M rfl <| L0 rfl rfl <| xN [0,1,6,7,10,11,59] [6] rfl ?_
     refine A5 rfl (fun hc => absurd hc (by decide)) (fun hc => ?_)
     refine A9 <| A3 <| A0 <| y_M rfl <| y_M rfl <| y_M rfl <| K6 rfl rfl (C1 (by omega)) ?_
     rw [show ((st.length : Int) - 2) = ((st.length - 2 : Nat) : Int) by omega]
     refine D9 rfl rfl rfl rfl (by omega) (by (simp; done)) rfl <| G3 rfl rfl (by omega) (fun _ => rfl) (fun _ => rfl) rfl <| y_S rfl <| xN [0,1,6,7,10,11,12] [6] rfl <| A3 <| A0 <| B3 (es := List.map iV []) rfl rfl (dT rfl) rfl rfl (fun _ => B2 (A7 fun _ => rfl)) (fun _ => rfl) ?_
     intro g75
     (refine xO rfl rfl (by simp) rfl (fun _ => rfl) (fun _ => rfl) ?_; intro g13)
     refine xN [0,1,6,7,10,11,12,13] [6,13] rfl <| A3 <| A3 <| A0 <| y_M rfl <| L0 rfl rfl <| xN [0,1,6,7,10,11,12,13,77] [6,13] rfl ?_
     refine A5 rfl (fun hc => ?_) (fun hc => absurd hc (by decide))
     refine A0 <| y_M rfl <| y_M rfl <| K6 rfl rfl (C1 (by omega)) ?_
     rw [show ((st.length : Int) - 1) = ((st.length - 1 : Nat) : Int) by omega]
     refine D9 rfl rfl rfl rfl (by omega) (by (simp; done)) rfl <| G3 rfl rfl (by omega) (fun _ => rfl) (fun _ => rfl) rfl <| y_S rfl <| xN [0,1,6,7,10,11,12,13] [6,13] rfl <| A3 <| A0 <| y_M rfl <| y_M rfl <| B5 rfl rfl rfl (fun _ => rfl) (by omega) <| y_I rfl <| y_M rfl <| y_M rfl ?_
     try rw [← hwd]
     apply xC rfl
     ·apply A6
      ·exact B6 rfl
      apply A6
      ·exact B6 rfl
      apply A6
      ·exact B6 rfl
      exact B8
     ·exact c5z (bA w) (by omega) (st.getD (st.length - 2) default) (st.getD (st.length - 1) default) (a5k hvl _) (a5k hvl _)
     refine ⟨⟨rfl, rfl, rfl, dT rfl, rfl⟩, .inr ⟨H5 _ _, rfl⟩, B0, G7 (J8 fun _ => I4 rfl K2), fun _ => rfl, fun g90 => ?_⟩
     simp only [List.length_map]
     refine y_M rfl <| y_E rfl <| y_E rfl ?_
     (refine xO rfl rfl (by simp) rfl (fun _ => rfl) (fun _ => rfl) ?_; intro g14)
     refine y_S rfl <| xN [0,1,6,7,10,11,14,15] [6,14] rfl <| A3 <| A3 <| A0 <| y_M rfl <| L4 rfl <| xN [0,1,6,7,10,11,14,94] [6,14] rfl ?_
     refine A5 rfl ?_ ?_ <;> intro hc <;> try simp only [SL] at hc
     ·refine A3 <| A0 ?_
      (refine A8 rfl rfl (fun _ => rfl) ?_; intro g4)
      refine y_S rfl <| xN [4,5] [4] rfl <| B1 <| C7 (E7 rfl rfl (by simp) (by rfl) (D7 rfl rfl (E3 C0))) ?_
      have hno : mkR (bA w) (st.getD (st.length - 2) default) (st.getD (st.length - 1) default) = none := by simpa using hc
      rw [P3 (P5 (by omega) hst (by rw [← hwd]; exact (a9f cols (n := 2) st hnn hn (by omega) (by omega)).trans (by rw [if_pos rfl, hno]; rfl)))]
      rfl
     obtain ⟨r, hr⟩ : ∃ r, mkR (bA w) (st.getD (st.length - 2) default) (st.getD (st.length - 1) default) = some r := Option.isSome_iff_exists.1 (by assumption)
     rw [c6o hr]
     refine A9 <| A0 <| B3 (es := List.map lF []) rfl rfl (dT rfl) rfl rfl (fun _ => B2 (A7 fun _ => rfl)) (fun _ => rfl) ?_
     intro g95
     refine y_M rfl <| y_M rfl <| y_M rfl <| K6 rfl rfl (C1 (by omega)) ?_
     try rw [show ((st.length : Int) - 2) = ((st.length - 2 : Nat) : Int) by omega]
     refine X0 rfl rfl rfl (G0 rfl) (by omega) rfl <| N0 rfl rfl rfl rfl (by decide) rfl (by (simp; done)) (by omega) rfl rfl rfl (dT rfl) (fun _ => ⟨rfl, rfl, rfl⟩) (by simp only [G9]; (simp only [List.length_nil, List.length_cons, List.length_append, Nat.zero_add, List.length_map]; omega)) (fun _ => rfl) ?_
     intro g101
     refine y_M rfl <| S0 (φ := iV) rfl rfl (by simp) (fun _ => rfl) rfl rfl rfl rfl (fun _ => rfl) ?_
     intro g103
     rw [show ([.list (List.map iV r)] : List AV) = List.map lF [r] from rfl]
     refine L7 rfl rfl rfl rfl (by (simp; done)) (by simp) (by decide) rfl rfl rfl rfl (dT rfl) (fun _ => ⟨rfl, rfl⟩) (by simp only [G9]; (simp; omega)) (fun _ => rfl) ?_
     intro g104
     (refine xO rfl rfl (by simp) rfl (fun _ => rfl) (fun _ => rfl) ?_; intro g6)
     refine xN [0,1,6,7] [6] rfl <| A0 <| y_M rfl <| F8 rfl rfl (C1 (by omega)) <| y_S rfl <| xN [0,1,6,7] [6] rfl ?_
     refine ⟨(i + 1, _, _), ?_, (by simp only; omega), ⟨rfl, rfl, rfl, rfl, rfl, trivial⟩⟩
     exact ⟨by omega, a1l (by omega) hst (by rw [← hwd]; exact (a9f cols (n := 2) st hnn hn (by omega) (by omega)).trans (by rw [if_pos rfl, hr]; rfl))⟩
    refine gF rfl rfl <| gF rfl rfl <| E8 rfl (by assumption) rfl rfl <| xN [0,1,6,7,10,11,57] [6] rfl ?_
    refine A5 rfl (fun hc => ?_) (fun hc => absurd hc (by decide))
    refine A3 <| A0 ?_
    (refine A8 rfl rfl (fun _ => rfl) ?_; intro g4)
    refine y_S rfl <| xN [4,5] [4] rfl <| B1 <| C7 (E7 rfl rfl (by simp) (by rfl) (D7 rfl rfl (E3 C0))) ?_
    rw [P3 (P5 (by omega) hst (by rw [← hwd]; exact a1n cols st hnn (by omega)))]
    rfl
   skip
   apply xC rfl
   ·apply A6
    ·exact B6 rfl
    exact B8
   ·exact W7 w (by omega)
   refine ⟨⟨rfl, rfl, rfl, dT rfl, rfl⟩, .inr ⟨H5 _ _, rfl⟩, B0, G7 (J8 fun _ => I4 rfl K2), fun _ => rfl, fun g36 => ?_⟩
   simp only [List.length_map]
   rw [hnn]
   refine y_M rfl <| y_E rfl <| y_E rfl ?_
   (refine xO rfl rfl (by simp) rfl (fun _ => rfl) (fun _ => rfl) ?_; intro g8)
   refine y_S rfl <| xN [0,1,6,7,8,9] [6,8] rfl <| A3 <| A0 <| y_M rfl <| y_M rfl <| B5 rfl rfl rfl (fun _ => rfl) (by omega) <| y_I rfl ?_
   rw [← hwd]
   refine xC1 rfl rfl (a0m (bA w)) ⟨rfl, rfl, rfl⟩ rfl rfl fun g43 => ?_
   skip
   refine y_S rfl <| xN [0,1,6,7,8,9,10] [6,8] rfl <| A3 <| A3 <| A0 <| y_M rfl <| xN [0,1,6,7,8,10,44] [6,8] rfl ?_
   refine A5 rfl (fun hc => absurd hc (by decide)) (fun hc => ?_)
   refine A9 <| A3 <| A0 <| y_M rfl <| G8 rfl rfl <| y_S rfl <| xN [0,1,6,7,10,11] [6] rfl <| A3 <| A3 <| A0 <| y_M rfl <| H4 rfl rfl <| y_M rfl ?_
   refine C6 rfl rfl ?_ ?_ <;> intro hg0 <;> have hg := hg0 <;> try simp only [SG] at hg
   ·refine y_M rfl <| gT rfl rfl <| y_M rfl <| gT rfl rfl <| M4 rfl rfl <| F4 rfl (by assumption) rfl rfl <| xN [0,1,6,7,10,11,57] [6] rfl ?_
    refine A5 rfl (fun hc => ?_) (fun hc => ?_)
    ·try simp only [SL] at hc
     refine A3 <| A0 ?_
     (refine A8 rfl rfl (fun _ => rfl) ?_; intro g4)
     refine y_S rfl <| xN [4,5] [4] rfl <| B1 <| C7 (E7 rfl rfl (by simp) (by rfl) (D7 rfl rfl (E3 C0))) ?_
     rw [P3 (P5 (by omega) hst (by rw [← hwd]; exact a1n cols st hnn (by omega)))]
     rfl
    try simp only [SD] at hc
    omega
   refine gF rfl rfl <| gF rfl rfl <| E8 rfl (by assumption) rfl rfl <| xN [0,1,6,7,10,11,57] [6] rfl ?_
   refine A5 rfl (fun hc => ?_) (fun hc => absurd hc (by decide))
   refine A3 <| A0 ?_
   (refine A8 rfl rfl (fun _ => rfl) ?_; intro g4)
   refine y_S rfl <| xN [4,5] [4] rfl <| B1 <| C7 (E7 rfl rfl (by simp) (by rfl) (D7 rfl rfl (E3 C0))) ?_
   rw [P3 (P5 (by omega) hst (by rw [← hwd]; exact a1n cols st hnn (by omega)))]
   rfl
  refine F6 <| A3 <| A3 <| A0 <| y_M rfl <| G8 rfl rfl <| a9o rfl rfl <| xN [6,107] [6] rfl ?_
  refine A5 rfl ?_ ?_ <;> intro hc <;> try simp only [SL] at hc
  ·refine A3 <| A0 ?_
   (refine A8 rfl rfl (fun _ => rfl) ?_; intro g4)
   refine y_S rfl <| xN [4,5] [4] rfl <| B1 <| C7 (E7 rfl rfl (by simp) (by rfl) (D7 rfl rfl (E3 C0))) ?_
   rw [c6c (by rw [List.take_of_length_le (by omega)] at hst; exact hst) (by omega)]
   rfl
  refine A9 <| A3 <| A0 <| y_M rfl <| D9 rfl rfl rfl rfl (by (change 0 < _; omega)) (by (simp; done)) rfl <| G3 rfl rfl (by (change 0 < _; omega)) (fun _ => rfl) (fun _ => rfl) rfl <| y_S rfl <| y_S rfl <| xN [4,5] [] rfl <| B1 <| C7 (D7 rfl rfl (D7 rfl rfl (E3 C0))) ?_
  rw [c9p hw16 hvc (by rw [List.take_of_length_le (by omega)] at hst; exact hst) (by omega)]
  rfl
 refine gF rfl rfl <| gF rfl rfl <| E8 rfl (by assumption) rfl rfl <| xN [0,1,23] [] rfl ?_
 refine A5 rfl (fun hc => ?_) (fun hc => absurd hc (by decide))
 refine A3 <| A0 ?_
 (refine A8 rfl rfl (fun _ => rfl) ?_; intro g4)
 refine y_S rfl <| xN [4,5] [4] rfl <| B1 <| C7 (E7 rfl rfl (by simp) (by rfl) (D7 rfl rfl (E3 C0))) ?_
 rw [c6a (by exact .inl (by omega))]
 rfl

theorem a7g : F3 Tryz.f17 = [0, 1, 4, 10, 5, 14, 25] := by kernel_rfl
theorem R8 (a : List Int) (ha : a.length ≤ 1048576) : CW (cxT oG) 17 [L a, L a] = some (bV true, []) := by
 refine F0 rfl Tryz.func17 rfl ⟨by kernel_rfl, rfl, dT rfl, dT rfl, by decide⟩ a7g <| A3 <| A0 <| y_S rfl <| xN [0,1] [] rfl <| A3 <| A3 <| A0 <| y_M rfl <| C9 rfl rfl <| y_M rfl <| C9 rfl rfl <| a9o rfl rfl <| xN [0,1,10] [] rfl ?_
 refine A5 rfl (fun hc => ?_) (fun hc => ?_)
 ·try simp only [SD] at hc
  exact absurd trivial hc
 try simp only [SL] at hc
 refine A9 <| A3 <| A3 <| A0 <| y_S rfl <| xN [0,1,5] [] rfl <| B7 <| F5 (β := Nat) [(.t 0, _), (.t 1, _)] (fun (i : Nat) => [(.t 5, iV i)]) (fun (i : Nat) => i ≤ a.length) (fun (i : Nat) => a.length - i) 0 ⟨rfl, rfl, rfl, trivial⟩ (Nat.zero_le _) ?_
 intro i hb
 have hi1 := hb
 refine A3 <| A3 <| A0 <| y_M rfl <| y_M rfl <| C9 rfl rfl <| H4 rfl rfl <| xN [0,1,5,14] [] rfl ?_
 refine A5 rfl ?_ ?_ <;> intro hc <;> try simp only [SL] at hc
 ·refine A9 <| A3 <| B7 <| A3 <| A0 <| y_M rfl <| y_M rfl <| B5 rfl rfl rfl (fun _ => rfl) (by omega) <| y_I rfl <| y_M rfl <| y_M rfl <| B5 rfl rfl rfl (fun _ => rfl) (by omega) <| y_I rfl <| a9o rfl rfl ?_
  refine K4 ⟨fun _ => ⟨by decide +kernel, by decide +kernel⟩, [(.t 0, _), (.t 1, _), (.t 5, _), (.t 25, _)], ⟨rfl, rfl, rfl, rfl, rfl, rfl, rfl, rfl, trivial⟩, ?_⟩
  refine A5 rfl (fun hc => ?_) (fun hc => ?_)
  ·try simp only [SD] at hc
   exact absurd trivial hc
  try simp only [SL] at hc
  refine A9 <| A0 <| y_M rfl <| F8 rfl rfl (C1 (by omega)) <| y_S rfl <| xN [0,1,5] [] rfl ?_
  refine ⟨i + 1, (by omega), (by omega), ⟨rfl, rfl, rfl, trivial⟩⟩
 refine F6 <| A3 <| A0 <| y_S rfl <| xN [4] [] rfl <| B1 <| C2 rfl rfl trivial ?_
 rfl

theorem b5f : F3 Tryz.f96 = [0, 1, 4, 5, 14, 6, 27, 28, 36] := by kernel_rfl
theorem c1h (bs : List Int) (p : Int) (hbs : a1k bs) (hl : bs.length ≤ 1048576) (hp : 0 ≤ p ∧ p ≤ 1000000) (n : Int) (hn : 0 ≤ n ∧ n ≤ 10) : ∃ res outs, (fun res outs => ∃ (xs : List Int) (p' : Int), res = .own 1 (xs.map iV) ∧ outs = [[rdr bs p']] ∧ xs.length ≤ 21 ∧ p ≤ p' ∧ p' ≤ p + 13) res outs ∧ CW (cxT oG) 96 [.ownp [rdr bs p] 0 0, iV n] = some (res, outs) := by
 refine M3 rfl Tryz.func96 rfl ⟨by kernel_rfl, rfl, dT rfl, dT rfl, by decide⟩ b5f <| A3 <| A0 ?_
 (refine A8 rfl rfl (fun _ => rfl) ?_; intro g4)
 refine xN [0,1] [0] rfl <| A3 <| A0 <| B3 (es := List.map iV []) rfl rfl (dT rfl) rfl rfl (fun _ => B2 (A7 fun _ => rfl)) (fun _ => rfl) ?_
 intro g7
 (refine xO rfl rfl (by simp) rfl (fun _ => rfl) (fun _ => rfl) ?_; intro g5)
 refine xN [0,1,5] [0,5] rfl <| A3 <| A0 <| y_M rfl <| B3 (es := List.map iV [_, _, _, _]) rfl rfl (dT rfl) rfl rfl (fun _ => B2 (A7 fun _ => rfl)) (fun _ => rfl) ?_
 intro g9
 obtain ⟨_, _, ⟨k0, rfl, rfl, k0m⟩, hC0⟩ := b2y (oG := oG) bs (p) hbs hl (by omega) [3, 10, 40, 200] (by decide)
 have k0b : 3 ≤ k0 ∧ k0 ≤ 200 := by simp at k0m; omega
 apply xC rfl
 ·apply A6
  ·exact H1 rfl (by decide) rfl
  apply A6
  ·exact G4 rfl rfl (by (simp; done)) (fun _ => rfl)
  exact B8
 ·exact hC0
 refine ⟨⟨rfl, rfl, rfl, dT rfl, rfl⟩, .inl rfl, D5 rfl rfl rfl B0, B9 rfl, fun _ => rfl, fun g10 => ?_⟩
 refine y_S rfl <| xN [0,1,5,6] [0,5] rfl <| A3 <| B7 <| F5 (β := List Int × Nat × Int) [(.t 0, _), (.t 1, _), (.t 6, _)] (fun (z : List Int × Nat × Int) => match z with | (xs, g, q) => [(.h 0, .obj 1 4 0 [rdr bs q]), (.t 5, .sl 5 g none 0 xs.length), (.h 5, .obj g 0 1 (xs.map iV))]) (fun (z : List Int × Nat × Int) => match z with | (xs, g, q) => (xs.length : Int) ≤ n ∧ q = p + 1 + xs.length) (fun (z : List Int × Nat × Int) => match z with | (xs, g, q) => 10 - xs.length) ([], _, p + 1) ⟨rfl, rfl, rfl, rfl, rfl, rfl, trivial⟩ ⟨by simp; omega, by simp⟩ ?_
 intro z hb
 obtain ⟨xs, g, q⟩ := z
 try dsimp only at hb
 obtain ⟨hx1, hq1⟩ := hb
 refine A3 <| A3 <| A0 <| y_M rfl <| G8 rfl rfl <| y_M rfl <| H4 rfl rfl <| xN [0,1,5,6,14] [0,5] rfl ?_
 refine A5 rfl ?_ ?_ <;> intro hc <;> try simp only [SL] at hc
 ·refine A9 <| B7 <| A0 <| y_M rfl <| y_M rfl <| y_M rfl <| a5s rfl rfl (C1 (by omega)) <| F8 rfl rfl (C1 (by omega)) ?_
  obtain ⟨_, _, ⟨k1, rfl, rfl, k1b, -⟩, hC1⟩ := P2 (oG := oG) bs (q) hbs hl (by omega) (2 * k0 + 1) (by omega)
  have k1b := k1b (by omega)
  apply xC rfl
  ·apply A6
   ·exact H1 rfl (by decide) rfl
   apply A6
   ·exact B6 rfl
   exact B8
  ·exact hC1
  refine ⟨⟨rfl, rfl, rfl, dT rfl, rfl⟩, .inl rfl, D5 rfl rfl rfl B0, B9 rfl, fun _ => rfl, fun g20 => ?_⟩
  refine b6g rfl rfl (by omega) <| y_M rfl ?_
  have hm1 := a6z (a := k1) (b := 401) (by omega) (by decide)
  refine K6 rfl rfl (C1 (by omega)) <| B3 (es := List.map iV [k1.tmod 401 - k0]) rfl rfl (dT rfl) rfl rfl (fun _ => B2 (A7 fun _ => rfl)) (fun _ => rfl) ?_
  intro g24
  refine xA rfl rfl rfl rfl (by simp) (by simp) rfl rfl rfl rfl rfl (fun _ => rfl) (by simp only [LN]; omega) (fun _ => rfl) ?_
  intro g25
  (refine xO rfl rfl (by simp) rfl (fun _ => rfl) (fun _ => rfl) ?_; intro g5)
  refine xN [0,1,5,6] [0,5] rfl ?_
  refine ⟨(xs ++ [k1.tmod 401 - k0], _, q + 1), ?_, (by simp only [List.length_append, List.length_singleton]; omega), ⟨rfl, rfl, rfl, rfl, rfl, rfl, trivial⟩⟩
  refine ⟨?_, ?_⟩ <;> (try simp only [List.length_append, List.length_singleton]) <;> omega
 refine F6 <| A3 <| A3 <| A0 <| y_M rfl ?_
 obtain ⟨_, _, ⟨k2, rfl, rfl, k2b, -⟩, hC2⟩ := P2 (oG := oG) bs (q) hbs hl (by omega) (40) (by omega)
 have k2b := k2b (by omega)
 obtain ⟨_, _, ⟨k3, rfl, rfl, k3m⟩, hC3⟩ := b2y (oG := oG) bs (q + 1) hbs hl (by omega) [201, -201] (by decide)
 have k3b : -201 ≤ k3 ∧ k3 ≤ 201 := by simp at k3m; omega
 apply xC rfl
 ·apply A6
  ·exact H1 rfl (by decide) rfl
  apply A6
  ·exact B6 rfl
  exact B8
 ·exact hC2
 refine ⟨⟨rfl, rfl, rfl, dT rfl, rfl⟩, .inl rfl, D5 rfl rfl rfl B0, B9 rfl, fun _ => rfl, fun g27 => ?_⟩
 refine xN [0,5,27] [0,5] rfl <| B7 <| A3 <| A0 <| L0 rfl rfl <| y_S rfl <| xN [0,5,27,28] [0,5] rfl ?_
 refine A5 rfl ?_ ?_ <;> intro hc <;> try simp only [SL] at hc
 ·refine A3 <| A0 <| y_M rfl <| y_M rfl <| B3 (es := List.map iV [_, _]) rfl rfl (dT rfl) rfl rfl (fun _ => B2 (A7 fun _ => rfl)) (fun _ => rfl) ?_
  intro g32
  apply xC rfl
  ·apply A6
   ·exact H1 rfl (by decide) rfl
   apply A6
   ·exact G4 rfl rfl (by (simp; done)) (fun _ => rfl)
   exact B8
  ·exact hC3
  refine ⟨⟨rfl, rfl, rfl, dT rfl, rfl⟩, .inl rfl, D5 rfl rfl rfl B0, B9 rfl, fun _ => rfl, fun g33 => ?_⟩
  refine B3 (es := List.map iV [_]) rfl rfl (dT rfl) rfl rfl (fun _ => B2 (A7 fun _ => rfl)) (fun _ => rfl) ?_
  intro g34
  refine xA rfl rfl rfl rfl (by simp) (by simp) rfl rfl rfl rfl rfl (fun _ => rfl) (by simp only [LN]; omega) (fun _ => rfl) ?_
  intro g35
  (refine xO rfl rfl (by simp) rfl (fun _ => rfl) (fun _ => rfl) ?_; intro g4)
  refine xN [4] [0,4] rfl <| B1 ?_
  refine ⟨_, _, ?_, a7l rfl rfl (by (simp; done)) (by exact A7 fun _ => rfl) (H6 rfl rfl)⟩
  exact ⟨_, _, rfl, rfl, by (simp; omega), by omega, by omega⟩
 refine A3 <| A0 <| L0 rfl rfl <| y_S rfl <| xN [5,36] [0,5] rfl ?_
 refine A5 rfl ?_ ?_ <;> intro hc <;> try simp only [SL] at hc
 ·refine A3 <| A0 <| y_M rfl <| B3 (es := List.map iV [_, _, _, _, _, _, _, _, _, _, _]) rfl rfl (dT rfl) rfl rfl (fun _ => B2 (A7 fun _ => rfl)) (fun _ => rfl) ?_
  intro g39
  refine xA rfl rfl rfl rfl (by simp) (by simp) rfl rfl rfl rfl rfl (fun _ => rfl) (by simp only [LN]; omega) (fun _ => rfl) ?_
  intro g40
  (refine xO rfl rfl (by simp) rfl (fun _ => rfl) (fun _ => rfl) ?_; intro g4)
  refine xN [4] [0,4] rfl <| B1 ?_
  refine ⟨_, _, ?_, a7l rfl rfl (by (simp; done)) (by exact A7 fun _ => rfl) (H6 rfl rfl)⟩
  exact ⟨_, _, rfl, rfl, by (simp; omega), by omega, by omega⟩
 refine A9 <| A3 <| A0 <| y_M rfl ?_
 (refine xO rfl rfl (by simp) rfl (fun _ => rfl) (fun _ => rfl) ?_; intro g4)
 refine xN [4] [0,4] rfl <| B1 ?_
 refine ⟨_, _, ?_, a7l rfl rfl (by (simp; done)) (by exact A7 fun _ => rfl) (H6 rfl rfl)⟩
 exact ⟨_, _, rfl, rfl, by omega, by omega, by omega⟩

theorem a6e : F3 Tryz.f56 = [0, 2, 5, 3, 16, 19, 4] := by kernel_rfl
theorem a1r (bs : List Int) (p : Int) (hbs : a1k bs) (hl : bs.length ≤ 1048576) (hp : 0 ≤ p ∧ p ≤ 100000) : ∃ res outs, (fun res outs => ∃ (cs : List (List Int)) (q : Int), res = .own 1 (cs.map lF) ∧ outs = [[rdr bs q]] ∧ cs.length ≤ 5 ∧ ∀ c ∈ cs, c.length ≤ 21) res outs ∧ CW (cxT oG) 56 [.ownp [rdr bs p] 0 0] = some (res, outs) := by
 refine M3 rfl Tryz.func56 rfl ⟨by kernel_rfl, rfl, dT rfl, dT rfl, by decide⟩ a6e <| A3 <| A0 ?_
 (refine A8 rfl rfl (fun _ => rfl) ?_; intro g2)
 refine xN [0] [0] rfl <| A3 <| A0 <| B3 (es := List.map lF []) rfl rfl (dT rfl) rfl rfl (fun _ => B2 (A7 fun _ => rfl)) (fun _ => rfl) ?_
 intro g6
 (refine xO rfl rfl (by simp) rfl (fun _ => rfl) (fun _ => rfl) ?_; intro g3)
 refine xN [0,3] [0,3] rfl <| A3 <| A0 <| y_M rfl <| B3 (es := List.map iV [3, 2, 4, 1, 0]) rfl rfl (dT rfl) rfl rfl (fun _ => B2 (A7 fun _ => rfl)) (fun _ => rfl) ?_
 intro g8
 obtain ⟨_, _, ⟨n0, rfl, rfl, hn0⟩, hC0⟩ := b2y (oG := oG) bs (p) hbs hl (by omega) [3, 2, 4, 1, 0] (by decide)
 have hn0b : 0 ≤ n0 ∧ n0 ≤ 4 := by simp at hn0; omega
 apply xC rfl
 ·apply A6
  ·exact H1 rfl (by decide) rfl
  apply A6
  ·exact G4 rfl rfl (by (simp; done)) (fun _ => rfl)
  exact B8
 ·exact hC0
 refine ⟨⟨rfl, rfl, rfl, dT rfl, rfl⟩, .inl rfl, D5 rfl rfl rfl B0, B9 rfl, fun _ => rfl, fun g9 => ?_⟩
 refine y_S rfl <| xN [0,3,4] [0,3] rfl <| A3 <| A3 <| A0 <| y_M rfl <| B3 (es := List.map iV [2, 3, 1, 4, 0, 5]) rfl rfl (dT rfl) rfl rfl (fun _ => B2 (A7 fun _ => rfl)) (fun _ => rfl) ?_
 intro g11
 obtain ⟨_, _, ⟨k0, rfl, rfl, hk0⟩, hC1⟩ := b2y (oG := oG) bs (p + 1) hbs hl (by omega) [2, 3, 1, 4, 0, 5] (by decide)
 have hk0b : 0 ≤ k0 ∧ k0 ≤ 5 := by simp at hk0; omega
 apply xC rfl
 ·apply A6
  ·exact H1 rfl (by decide) rfl
  apply A6
  ·exact G4 rfl rfl (by (simp; done)) (fun _ => rfl)
  exact B8
 ·exact hC1
 refine ⟨⟨rfl, rfl, rfl, dT rfl, rfl⟩, .inl rfl, D5 rfl rfl rfl B0, B9 rfl, fun _ => rfl, fun g12 => ?_⟩
 refine y_S rfl <| xN [0,3,4,5] [0,3] rfl <| B7 <| F5 (β := Int × List (List Int) × Nat × Int) [(.t 0, _), (.t 5, _)] (fun (z : Int × List (List Int) × Nat × Int) => match z with | (n, rows, g, q) => [(.h 0, .obj 1 4 0 [rdr bs q]), (.t 4, iV n), (.t 3, .sl 3 g none 0 rows.length), (.h 3, .obj g 0 1 (rows.map lF))]) (fun (z : Int × List (List Int) × Nat × Int) => match z with | (n, rows, g, q) => 0 ≤ n ∧ n ≤ 4 ∧ (rows.length : Int) ≤ k0 ∧ p ≤ q ∧ q ≤ p + 2 + 20 * (rows.length : Int) ∧ ∀ c ∈ rows, c.length ≤ 21) (fun (z : Int × List (List Int) × Nat × Int) => match z with | (n, rows, g, q) => 6 - rows.length) (n0, [], _, _) ⟨rfl, rfl, rfl, rfl, rfl, rfl, trivial⟩ ⟨by omega, by omega, by simp; omega, by omega, by simp; try omega, by simp⟩ ?_
 intro z hb
 obtain ⟨n, rows, g, q⟩ := z
 try dsimp only at hb
 obtain ⟨hn1, hn2, hr1, hq1, hq2, hrb⟩ := hb
 refine A3 <| A3 <| A0 <| y_M rfl <| G8 rfl rfl <| y_M rfl <| H4 rfl rfl <| xN [0,3,4,5,16] [0,3] rfl ?_
 refine A5 rfl ?_ ?_ <;> intro hc <;> try simp only [SL] at hc
 ·refine A9 <| B7 <| A3 <| A3 <| A0 <| y_M rfl ?_
  obtain ⟨_, _, ⟨k1, rfl, rfl, hk1, -⟩, hC2⟩ := P2 (oG := oG) bs (q) hbs hl (by omega) (3) (by omega)
  have hk1 := hk1 (by omega)
  apply xC rfl
  ·apply A6
   ·exact H1 rfl (by decide) rfl
   apply A6
   ·exact B6 rfl
   exact B8
  ·exact hC2
  refine ⟨⟨rfl, rfl, rfl, dT rfl, rfl⟩, .inl rfl, D5 rfl rfl rfl B0, B9 rfl, fun _ => rfl, fun g18 => ?_⟩
  refine L0 rfl rfl <| xN [0,3,4,5,19] [0,3] rfl ?_
  refine A5 rfl ?_ ?_ <;> intro hc <;> try simp only [SL] at hc
  ·refine A0 <| y_M rfl ?_
   obtain ⟨_, _, ⟨k2, rfl, rfl, hk2, -⟩, hC3⟩ := P2 (oG := oG) bs (q + 1) hbs hl (by omega) (5) (by omega)
   have hk2 := hk2 (by omega)
   apply xC rfl
   ·apply A6
    ·exact H1 rfl (by decide) rfl
    apply A6
    ·exact B6 rfl
    exact B8
   ·exact hC3
   refine ⟨⟨rfl, rfl, rfl, dT rfl, rfl⟩, .inl rfl, D5 rfl rfl rfl B0, B9 rfl, fun _ => rfl, fun g21 => ?_⟩
   refine y_S rfl <| xN [0,3,4,5] [0,3] rfl <| A0 <| y_M rfl <| y_M rfl <| y_M rfl ?_
   obtain ⟨_, _, ⟨xs, q2, rfl, rfl, hx21, hq3, hq4⟩, hC4⟩ := c1h (oG := oG) bs (q + 1 + 1) hbs hl (by omega) k2 (by omega)
   apply xC rfl
   ·apply A6
    ·exact H1 rfl (by decide) rfl
    apply A6
    ·exact B6 rfl
    exact B8
   ·exact hC4
   refine ⟨⟨rfl, rfl, rfl, dT rfl, rfl⟩, .inl rfl, D5 rfl rfl rfl B0, H9, fun _ => rfl, fun g25 => ?_⟩
   simp only [List.length_map]
   refine S0 (φ := iV) rfl rfl (by simp) (fun _ => rfl) rfl rfl rfl rfl (fun _ => rfl) ?_
   intro g26
   rw [show ([.list (List.map iV xs)] : List AV) = List.map lF [xs] from rfl]
   refine xA rfl rfl rfl rfl (by simp) (by simp) rfl rfl rfl rfl rfl (fun _ => rfl) (by simp only [LN]; omega) (fun _ => rfl) ?_
   intro g27
   (refine xO rfl rfl (by simp) rfl (fun _ => rfl) (fun _ => rfl) ?_; intro g3)
   refine xN [0,3,4,5] [0,3] rfl ?_
   refine ⟨(k2, rows ++ [xs], _, q2), ?_, (by simp only [List.length_append, List.length_singleton]; omega), ⟨rfl, rfl, rfl, rfl, rfl, rfl, trivial⟩⟩
   refine ⟨by omega, by omega, ?_, by dsimp only; omega, ?_, fun c hc => ?_⟩
   ·simp only [List.length_append, List.length_singleton]; omega
   ·simp only [List.length_append, List.length_singleton]; omega
   rcases List.mem_append.1 hc with hc | hc
   ·exact hrb c hc
   rw [List.mem_singleton.1 hc]; exact hx21
  refine A9 <| A0 <| y_M rfl <| y_M rfl <| y_M rfl ?_
  obtain ⟨_, _, ⟨xs, q2, rfl, rfl, hx21, hq3, hq4⟩, hC4⟩ := c1h (oG := oG) bs (q + 1) hbs hl (by omega) n (by omega)
  apply xC rfl
  ·apply A6
   ·exact H1 rfl (by decide) rfl
   apply A6
   ·exact B6 rfl
   exact B8
  ·exact hC4
  refine ⟨⟨rfl, rfl, rfl, dT rfl, rfl⟩, .inl rfl, D5 rfl rfl rfl B0, H9, fun _ => rfl, fun g25 => ?_⟩
  simp only [List.length_map]
  refine S0 (φ := iV) rfl rfl (by simp) (fun _ => rfl) rfl rfl rfl rfl (fun _ => rfl) ?_
  intro g26
  rw [show ([.list (List.map iV xs)] : List AV) = List.map lF [xs] from rfl]
  refine xA rfl rfl rfl rfl (by simp) (by simp) rfl rfl rfl rfl rfl (fun _ => rfl) (by simp only [LN]; omega) (fun _ => rfl) ?_
  intro g27
  (refine xO rfl rfl (by simp) rfl (fun _ => rfl) (fun _ => rfl) ?_; intro g3)
  refine xN [0,3,4,5] [0,3] rfl ?_
  refine ⟨(n, rows ++ [xs], _, q2), ?_, (by simp only [List.length_append, List.length_singleton]; omega), ⟨rfl, rfl, rfl, rfl, rfl, rfl, trivial⟩⟩
  refine ⟨by omega, by omega, ?_, by dsimp only; omega, ?_, fun c hc => ?_⟩
  ·simp only [List.length_append, List.length_singleton]; omega
  ·simp only [List.length_append, List.length_singleton]; omega
  rcases List.mem_append.1 hc with hc | hc
  ·exact hrb c hc
  rw [List.mem_singleton.1 hc]; exact hx21
 refine F6 <| A3 <| A0 <| y_M rfl ?_
 (refine xO rfl rfl (by simp) rfl (fun _ => rfl) (fun _ => rfl) ?_; intro g2)
 refine xN [2] [0,2] rfl <| B1 ?_
 refine ⟨_, _, ?_, a7l rfl rfl (by simp) (by exact A7 fun _ => rfl) (H6 rfl rfl)⟩
 exact ⟨_, _, rfl, rfl, by omega, hrb⟩

theorem b4j : F3 Tryz.f51 = [0, 2, 4, 9, 3] := by kernel_rfl
theorem c7r (a : List Int) (ha : vl a = true) : CW (cxT oG) 51 [L a] = some (.own 1 ((a.map fun v => -v).map iV), []) := by
 have hal := (Q8.1 ha).1
 refine F0 rfl Tryz.func51 rfl ⟨by kernel_rfl, rfl, dT rfl, dT rfl, by decide⟩ b4j <| A3 <| A0 ?_
 (refine A8 rfl rfl (fun _ => rfl) ?_; intro g2)
 refine xN [0] [] rfl <| A3 <| A0 <| B3 (es := List.map iV []) rfl rfl (dT rfl) rfl rfl (fun _ => B2 (A7 fun _ => rfl)) (fun _ => rfl) ?_
 intro g5
 (refine xO rfl rfl (by simp) rfl (fun _ => rfl) (fun _ => rfl) ?_; intro g3)
 refine xN [0,3] [3] rfl <| A3 <| A3 <| A0 <| y_S rfl <| xN [0,3,4] [3] rfl <| B7 <| F5 (β := Nat × List Int × Nat) [(.t 0, _)] (fun (z : Nat × List Int × Nat) => match z with | (i, ys, g) => [(.t 4, iV i), (.t 3, .sl 3 g none 0 ys.length), (.h 3, .obj g 0 1 (ys.map iV))]) (fun (z : Nat × List Int × Nat) => match z with | (i, ys, g) => i ≤ a.length ∧ ys = (a.take i).map fun v => -v) (fun (z : Nat × List Int × Nat) => match z with | (i, ys, g) => a.length - i) (0, [], _) ⟨rfl, rfl, rfl, rfl, trivial⟩ ⟨Nat.zero_le _, rfl⟩ ?_
 intro z hb
 obtain ⟨i, ys, g⟩ := z
 try dsimp only at hb
 obtain ⟨hi1, hys⟩ := hb
 have hyl : ys.length = i := by rw [hys]; simp; omega
 refine A3 <| A3 <| A0 <| y_M rfl <| y_M rfl <| C9 rfl rfl <| H4 rfl rfl <| xN [0,3,4,9] [3] rfl ?_
 refine A5 rfl ?_ ?_ <;> intro hc <;> try simp only [SL] at hc
 ·have hbd := d6m ha (i := i) (by omega)
  refine A9 <| A3 <| B7 <| A0 <| y_M rfl <| y_M rfl <| y_M rfl <| B5 rfl rfl rfl (fun _ => rfl) (by omega) <| y_I rfl <| b3d rfl (C1 (by omega)) <| B3 (es := List.map iV [_]) rfl rfl (dT rfl) rfl rfl (fun _ => B2 (A7 fun _ => rfl)) (fun _ => rfl) ?_
  intro g18
  refine xA rfl rfl rfl rfl (by simp) (by simp) rfl rfl rfl rfl rfl (fun _ => rfl) (by simp only [LN]; omega) (fun _ => rfl) ?_
  intro g19
  (refine xO rfl rfl (by simp) rfl (fun _ => rfl) (fun _ => rfl) ?_; intro g3)
  refine xN [0,3,4] [3] rfl <| A0 <| y_M rfl <| F8 rfl rfl (C1 (by omega)) <| y_S rfl <| xN [0,3,4] [3] rfl ?_
  refine ⟨(i + 1, _, _), ⟨by omega, by rw [hys, a8f (by omega), List.map_append]; rfl⟩, (by simp only; omega), ⟨rfl, rfl, rfl, rfl, trivial⟩⟩
 refine F6 <| A3 <| A0 <| y_M rfl ?_
 (refine xO rfl rfl (by simp) rfl (fun _ => rfl) (fun _ => rfl) ?_; intro g2)
 refine xN [2] [2] rfl <| B1 <| J9 rfl rfl (by simp) (by exact A7 fun _ => rfl) trivial ?_
 rw [hys, List.take_of_length_le (by omega)]

theorem a5z : F3 Tryz.f50 = [0, 2, 3, 4, 5, 19, 6, 28] := by kernel_rfl
theorem b4m (bs : List Int) (hbs : a1k bs) (hl : bs.length ≤ 1048576) : ∃ res outs, (fun res outs => ∃ (ws : List W8) (cols : List (List Int)), res = .tup [.own 1 (ws.map tV), .own 1 (cols.map lF)] ∧ outs = [] ∧ ws.length ≤ 16 ∧ (∀ w ∈ ws, w.length ≤ 100) ∧ cols.length ≤ 5 ∧ ∀ c ∈ cols, c.length ≤ 21) res outs ∧ CW (cxT oG) 50 [.list (bs.map uV)] = some (res, outs) := by
 refine M3 rfl Tryz.func50 rfl ⟨by kernel_rfl, rfl, dT rfl, dT rfl, by decide⟩ a5z <| A3 <| A0 ?_
 (refine A8 rfl rfl (fun _ => rfl) ?_; intro g2)
 (refine A8 rfl rfl (fun _ => rfl) ?_; intro g3)
 refine xN [0] [] rfl <| A3 <| A0 <| y_M rfl ?_
 obtain ⟨_, _, ⟨rfl, rfl⟩, hC0⟩ := c0h (oG := oG) bs hl
 have hbs2 : a1k (bs.take 2000) := fun b hb => hbs b (List.mem_of_mem_take hb)
 have hl2 : (bs.take 2000).length ≤ 1048576 := by simp; omega
 apply xC rfl
 ·apply A6
  ·exact B6 rfl
  exact B8
 ·exact hC0
 refine ⟨⟨rfl, rfl, rfl, dT rfl, rfl⟩, .inl rfl, B0, d1c, fun _ => rfl, fun g8 => ?_⟩
 (refine a2x rfl rfl rfl rfl (fun _ => Q4 rfl) (fun _ => rfl) ?_; intro g4)
 refine xN [4] [4] rfl <| A3 <| A0 <| y_M rfl ?_
 obtain ⟨_, _, ⟨s, q, rfl, rfl, hq1, hq2, hs3⟩, hC1⟩ := c3o (oG := oG) (bs.take 2000) 0 hbs2 hl2 (by omega)
 have hw16 := c8r s
 have hwp := c3y s
 apply xC rfl
 ·apply A6
  ·exact H1 rfl (by decide) rfl
  exact B8
 ·exact hC1
 refine ⟨⟨rfl, rfl, rfl, dT rfl, rfl⟩, .inl rfl, D5 rfl rfl rfl B0, B9 rfl, fun _ => rfl, fun g10 => ?_⟩
 apply xC rfl
 ·apply A6
  ·exact B6 rfl
  exact B8
 ·exact c8x s (by omega)
 refine ⟨⟨rfl, rfl, rfl, dT rfl, rfl⟩, .inl rfl, B0, H9, fun _ => rfl, fun g11 => ?_⟩
 simp only [List.length_map]
 (refine xO rfl rfl (by simp) rfl (fun _ => rfl) (fun _ => rfl) ?_; intro g5)
 refine xN [4,5] [4,5] rfl <| A3 <| A3 <| A0 <| y_M rfl <| G8 rfl rfl <| M4 rfl rfl <| y_M rfl ?_
 refine C6 rfl rfl ?_ ?_ <;> intro hg0 <;> have hg := hg0 <;> try simp only [SG] at hg
 ·refine y_M rfl <| gT rfl rfl ?_
  obtain ⟨_, _, ⟨k1, rfl, rfl, hk1, -⟩, hC2⟩ := P2 (oG := oG) (bs.take 2000) (q) hbs2 hl2 (by omega) (4) (by omega)
  have hk1 := hk1 (by omega)
  apply xC rfl
  ·apply A6
   ·exact H1 rfl (by decide) rfl
   apply A6
   ·exact B6 rfl
   exact B8
  ·exact hC2
  refine ⟨⟨rfl, rfl, rfl, dT rfl, rfl⟩, .inl rfl, D5 rfl rfl rfl B0, B9 rfl, fun _ => rfl, fun g17 => ?_⟩
  refine gT rfl rfl <| L0 rfl rfl <| E8 rfl (by assumption) rfl rfl <| xN [4,5,19] [4,5] rfl ?_
  refine A5 rfl ?_ ?_ <;> intro hc <;> try simp only [SL] at hc
  ·refine A3 <| A0 <| y_M rfl <| y_M rfl <| G8 rfl rfl ?_
   obtain ⟨_, _, ⟨k0, rfl, rfl, hk0, -⟩, hC3⟩ := P2 (oG := oG) (bs.take 2000) (q + 1) hbs2 hl2 (by omega) ((codeT s).length) (by omega)
   have hk0 := hk0 (by omega)
   obtain ⟨k, rfl⟩ : ∃ k : Nat, k0 = k := ⟨k0.toNat, by omega⟩
   have hkl : k < (codeT s).length := by omega
   apply xC rfl
   ·apply A6
    ·exact H1 rfl (by decide) rfl
    apply A6
    ·exact B6 rfl
    exact B8
   ·exact hC3
   refine ⟨⟨rfl, rfl, rfl, dT rfl, rfl⟩, .inl rfl, D5 rfl rfl rfl B0, B9 rfl, fun _ => rfl, fun g23 => ?_⟩
   refine y_S rfl <| xN [4,5,6] [4,5] rfl <| A0 <| y_M rfl <| y_M rfl <| y_M rfl <| B3 (es := List.map tV [[115, 111, 114, 116], [97, 100, 100], [120], [97], [91, 49, 93], [91], []]) rfl rfl (dT rfl) rfl rfl (fun _ => B2 (A7 fun _ => rfl)) (fun _ => rfl) ?_
   intro g27
   obtain ⟨_, _, ⟨w, rfl, rfl, hw⟩, hC5⟩ := a6l (oG := oG) (bs.take 2000) (q + 1 + 1) hbs2 hl2 (by omega) [[115, 111, 114, 116], [97, 100, 100], [120], [97], [91, 49, 93], [91], []] (by decide)
   have hwb : w.length ≤ 4 := by have hall : ∀ x ∈ ([[115, 111, 114, 116], [97, 100, 100], [120], [97], [91, 49, 93], [91], []] : List W8), x.length ≤ 4 := (by decide); exact hall _ hw
   apply xC rfl
   ·apply A6
    ·exact H1 rfl (by decide) rfl
    apply A6
    ·exact G4 rfl rfl (by (simp; done)) (fun _ => rfl)
    exact B8
   ·exact hC5
   refine ⟨⟨rfl, rfl, rfl, dT rfl, rfl⟩, .inl rfl, D5 rfl rfl rfl B0, B9 rfl, fun _ => rfl, fun g28 => ?_⟩
   refine D9 rfl rfl rfl rfl (by omega) (by (simp; done)) rfl <| b7n (y := w) rfl rfl rfl (by omega) rfl ⟨rfl, dT rfl, dT rfl, rfl⟩ (by decide) rfl (by exact B2 (A7 fun _ => rfl)) <| xN [4,5] [4,5] rfl <| A3 <| A0 <| y_M rfl <| y_M rfl ?_
   obtain ⟨_, _, ⟨cs, q9, rfl, rfl, hc5, hc21⟩, hC9⟩ := a1r (oG := oG) (bs.take 2000) (q + 1 + 1 + 1) hbs2 hl2 (by omega)
   apply xC rfl
   ·apply A6
    ·exact H1 rfl (by decide) rfl
    exact B8
   ·exact hC9
   refine ⟨⟨rfl, rfl, rfl, dT rfl, rfl⟩, .inl rfl, D5 rfl rfl rfl B0, H9, fun _ => rfl, fun g32 => ?_⟩
   simp only [List.length_map]
   (refine xO rfl rfl (by simp) rfl (fun _ => rfl) (fun _ => rfl) ?_; intro g2)
   (refine xO rfl rfl (by simp) rfl (fun _ => rfl) (fun _ => rfl) ?_; intro g3)
   refine xN [2,3] [2,3] rfl <| B1 ?_
   refine ⟨_, _, ?_, C7 (E7 rfl rfl (by simp) (by exact A7 fun _ => rfl) (E7 rfl rfl (by simp) (by exact A7 fun _ => rfl) (E3 C0))) rfl⟩
   exact ⟨_, _, rfl, rfl, by (simp only [List.length_set]; omega), by exact d2d hwp (by omega), hc5, hc21⟩
  refine A9 <| A3 <| A0 <| y_M rfl <| y_M rfl ?_
  obtain ⟨_, _, ⟨cs, q9, rfl, rfl, hc5, hc21⟩, hC9⟩ := a1r (oG := oG) (bs.take 2000) (q + 1) hbs2 hl2 (by omega)
  apply xC rfl
  ·apply A6
   ·exact H1 rfl (by decide) rfl
   exact B8
  ·exact hC9
  refine ⟨⟨rfl, rfl, rfl, dT rfl, rfl⟩, .inl rfl, D5 rfl rfl rfl B0, H9, fun _ => rfl, fun g32 => ?_⟩
  simp only [List.length_map]
  (refine xO rfl rfl (by simp) rfl (fun _ => rfl) (fun _ => rfl) ?_; intro g2)
  (refine xO rfl rfl (by simp) rfl (fun _ => rfl) (fun _ => rfl) ?_; intro g3)
  refine xN [2,3] [2,3] rfl <| B1 ?_
  refine ⟨_, _, ?_, C7 (E7 rfl rfl (by simp) (by exact A7 fun _ => rfl) (E7 rfl rfl (by simp) (by exact A7 fun _ => rfl) (E3 C0))) rfl⟩
  exact ⟨_, _, rfl, rfl, by omega, by exact hwp, hc5, hc21⟩
 refine gF rfl rfl <| gF rfl rfl <| F4 rfl (by assumption) rfl rfl <| xN [4,5,19] [4,5] rfl ?_
 refine A5 rfl (fun hc => absurd hc (by decide)) (fun hc => ?_)
 refine A9 <| A3 <| A0 <| y_M rfl <| y_M rfl ?_
 obtain ⟨_, _, ⟨cs, q9, rfl, rfl, hc5, hc21⟩, hC9⟩ := a1r (oG := oG) (bs.take 2000) (q) hbs2 hl2 (by omega)
 apply xC rfl
 ·apply A6
  ·exact H1 rfl (by decide) rfl
  exact B8
 ·exact hC9
 refine ⟨⟨rfl, rfl, rfl, dT rfl, rfl⟩, .inl rfl, D5 rfl rfl rfl B0, H9, fun _ => rfl, fun g32 => ?_⟩
 simp only [List.length_map]
 (refine xO rfl rfl (by simp) rfl (fun _ => rfl) (fun _ => rfl) ?_; intro g2)
 (refine xO rfl rfl (by simp) rfl (fun _ => rfl) (fun _ => rfl) ?_; intro g3)
 refine xN [2,3] [2,3] rfl <| B1 ?_
 refine ⟨_, _, ?_, C7 (E7 rfl rfl (by simp) (by exact A7 fun _ => rfl) (E7 rfl rfl (by simp) (by exact A7 fun _ => rfl) (E3 C0))) rfl⟩
 exact ⟨_, _, rfl, rfl, by omega, by exact hwp, hc5, hc21⟩

theorem a7s : F3 Tryz.f11 = [0, 2, 15, 4, 3, 6, 8, 7, 5, 45, 56, 12, 9, 10] := by kernel_rfl
theorem c1a (bs : List Int) (hbs : a1k bs) : CW (cxT oG) 11 [.list (bs.map uV)] = some (bV true, []) := by
 refine F0 rfl Tryz.func11 rfl ⟨by kernel_rfl, rfl, dT rfl, dT rfl, by decide⟩ a7s <| A3 <| A0 <| y_S rfl <| xN [0] [] rfl <| A3 <| A3 <| A0 <| y_M rfl <| C9 rfl rfl <| M4 rfl rfl <| xN [0,15] [] rfl ?_
 refine A5 rfl ?_ ?_ <;> intro hc <;> try simp only [SL] at hc
 ·refine A3 <| A0 <| y_S rfl <| xN [2] [] rfl <| B1 <| C2 rfl rfl trivial ?_
  rfl
 refine A9 <| A3 <| A0 <| y_M rfl ?_
 have hl2 : bs.length ≤ 1048576 := by omega
 obtain ⟨_, _, ⟨ws, cols, rfl, rfl, hw16, hwl, hc5, hc21⟩, hC1⟩ := b4m (oG := oG) bs hbs hl2
 apply xC rfl
 ·apply A6
  ·exact B6 rfl
  exact B8
 ·exact hC1
 refine ⟨⟨rfl, rfl, rfl, dT rfl, rfl⟩, .inl rfl, B0, G7 (J8 fun _ => J8 fun _ => K2), fun _ => C3 (B2 (A7 fun _ => rfl)) (C3 (B2 (A7 fun _ => rfl)) (by rfl)), fun g18 => ?_⟩
 simp only [List.length_map]
 refine y_M rfl <| y_E rfl <| y_E rfl ?_
 (refine xO rfl rfl (by simp) rfl (fun _ => rfl) (fun _ => rfl) ?_; intro g3)
 (refine xO rfl rfl (by simp) rfl (fun _ => rfl) (fun _ => rfl) ?_; intro g4)
 refine xN [3,4] [3,4] rfl <| A3 <| A0 <| y_M rfl <| y_M rfl ?_
 rcases hrc : rcF cols ws with _ | r
 ·skip
  apply xC rfl
  ·apply A6
   ·exact E5 rfl rfl rfl (by (simp; done)) (fun _ => rfl)
   apply A6
   ·exact E5 rfl rfl rfl (by (simp; done)) (fun _ => rfl)
   exact B8
  ·exact (show CW (cxT oG) 18 [.list ((ws).map tV), M cols] = some (.tup [.own 1 (([] : List Int).map iV), bV false], []) from by have hi := a2h (oG := oG) (ws) (by omega) (fun w h => by have := hwl w h; omega) cols (by omega) (fun c hc => by have := hc21 c hc; omega); rw [hrc] at hi; exact hi)
  refine ⟨⟨rfl, rfl, rfl, dT rfl, rfl⟩, .inr ⟨H5 _ _, rfl⟩, B0, G7 (J8 fun _ => I4 rfl K2), fun _ => rfl, fun g24 => ?_⟩
  simp only [List.length_map]
  refine y_M rfl <| y_E rfl <| y_E rfl ?_
  (refine xO rfl rfl (by simp) rfl (fun _ => rfl) (fun _ => rfl) ?_; intro g5)
  refine y_S rfl <| xN [3,4,5,6] [3,4,5] rfl <| A3 <| A0 <| y_M rfl <| y_M rfl ?_
  apply xC rfl
  ·apply A6
   ·exact G4 rfl rfl (by (simp; done)) (fun _ => rfl)
   apply A6
   ·exact G4 rfl rfl (by (simp; done)) (fun _ => rfl)
   exact B8
  ·exact (show CW (cxT oG) 45 [.list ((ws).map tV), M cols] = some (.tup [.own 1 (([] : List Int).map iV), bV false], []) from by have hi := b1v (oG := oG) (ws) (by omega) (fun w h => by have := hwl w h; omega) cols (by omega) (fun c hc => by have := hc21 c hc; omega); rw [hrc] at hi; exact hi)
  refine ⟨⟨rfl, rfl, rfl, dT rfl, rfl⟩, .inl rfl, B0, G7 (J8 fun _ => I4 rfl K2), fun _ => C3 (X8 (A7 fun _ => rfl) (by decide)) (C3 (X8 (A7 fun _ => rfl) (by decide)) (by rfl)), fun g30 => ?_⟩
  simp only [List.length_map]
  refine y_M rfl <| y_E rfl <| y_E rfl ?_
  (refine xO rfl rfl (by simp) rfl (fun _ => rfl) (fun _ => rfl) ?_; intro g7)
  refine y_S rfl <| xN [3,4,5,6,7,8] [3,4,5,7] rfl <| A3 <| A3 <| A0 <| y_M rfl <| y_M rfl ?_
  apply xC rfl
  ·apply A6
   ·exact E5 rfl rfl rfl (by (simp; done)) (fun _ => rfl)
   apply A6
   ·exact E5 rfl rfl rfl (by (simp; done)) (fun _ => rfl)
   exact B8
  ·exact R8 [] (by decide)
  refine ⟨⟨rfl, rfl, rfl, dT rfl, rfl⟩, .inr ⟨rfl, rfl⟩, B0, B9 rfl, fun _ => rfl, fun g35 => ?_⟩
  refine L4 rfl <| y_M rfl <| E4 rfl rfl rfl <| y_M rfl <| E4 rfl rfl rfl <| y_M rfl <| E4 rfl rfl rfl <| d4u rfl rfl rfl <| F4 rfl rfl rfl rfl <| y_M rfl ?_
  refine C6 rfl rfl ?_ ?_ <;> intro hg0 <;> have hg := hg0 <;> try simp only [SG] at hg
  ·refine y_M rfl <| gT rfl rfl <| L4 rfl <| F4 rfl rfl rfl rfl <| xN [3,4,5,6,7,8,45] [3,4,5,7] rfl ?_
   refine A5 rfl (fun hc => ?_) (fun hc => absurd hc (by decide))
   refine A3 <| A0 <| y_M rfl <| y_M rfl ?_
   apply xC rfl
   ·apply A6
    ·exact E5 rfl rfl rfl (by (simp; done)) (fun _ => rfl)
    apply A6
    ·exact E5 rfl rfl rfl (by (simp; done)) (fun _ => rfl)
    exact B8
   ·exact R8 [] (by decide)
   refine ⟨⟨rfl, rfl, rfl, dT rfl, rfl⟩, .inr ⟨rfl, rfl⟩, B0, B9 rfl, fun _ => rfl, fun g48 => ?_⟩
   refine y_M rfl <| E4 rfl rfl rfl <| y_M rfl <| E4 rfl rfl rfl <| y_M rfl <| E4 rfl rfl rfl <| d0j rfl rfl rfl <| E8 rfl rfl rfl rfl <| y_S rfl <| xN [2] [] rfl <| B1 <| C2 rfl rfl trivial ?_
   rfl
  refine gF rfl rfl <| E8 rfl (by assumption) rfl rfl <| xN [3,4,5,6,7,8,45] [3,4,5,7] rfl ?_
  refine A5 rfl (fun hc => ?_) (fun hc => absurd hc (by decide))
  refine A3 <| A0 <| y_M rfl <| y_M rfl ?_
  apply xC rfl
  ·apply A6
   ·exact E5 rfl rfl rfl (by (simp; done)) (fun _ => rfl)
   apply A6
   ·exact E5 rfl rfl rfl (by (simp; done)) (fun _ => rfl)
   exact B8
  ·exact R8 [] (by decide)
  refine ⟨⟨rfl, rfl, rfl, dT rfl, rfl⟩, .inr ⟨rfl, rfl⟩, B0, B9 rfl, fun _ => rfl, fun g48 => ?_⟩
  refine y_M rfl <| E4 rfl rfl rfl <| y_M rfl <| E4 rfl rfl rfl <| y_M rfl <| E4 rfl rfl rfl <| d0j rfl rfl rfl <| E8 rfl rfl rfl rfl <| y_S rfl <| xN [2] [] rfl <| B1 <| C2 rfl rfl trivial ?_
  rfl
 have hrv := d6g hrc
 have hrl := (Q8.1 hrv).1
 apply xC rfl
 ·apply A6
  ·exact E5 rfl rfl rfl (by (simp; done)) (fun _ => rfl)
  apply A6
  ·exact E5 rfl rfl rfl (by (simp; done)) (fun _ => rfl)
  exact B8
 ·exact (show CW (cxT oG) 18 [.list ((ws).map tV), M cols] = some (.tup [.own 1 (r.map iV), bV true], []) from by have hi := a2h (oG := oG) (ws) (by omega) (fun w h => by have := hwl w h; omega) cols (by omega) (fun c hc => by have := hc21 c hc; omega); rw [hrc] at hi; exact hi)
 refine ⟨⟨rfl, rfl, rfl, dT rfl, rfl⟩, .inr ⟨H5 _ _, rfl⟩, B0, G7 (J8 fun _ => I4 rfl K2), fun _ => rfl, fun g24 => ?_⟩
 simp only [List.length_map]
 refine y_M rfl <| y_E rfl <| y_E rfl ?_
 (refine xO rfl rfl (by simp) rfl (fun _ => rfl) (fun _ => rfl) ?_; intro g5)
 refine y_S rfl <| xN [3,4,5,6] [3,4,5] rfl <| A3 <| A0 <| y_M rfl <| y_M rfl ?_
 apply xC rfl
 ·apply A6
  ·exact G4 rfl rfl (by (simp; done)) (fun _ => rfl)
  apply A6
  ·exact G4 rfl rfl (by (simp; done)) (fun _ => rfl)
  exact B8
 ·exact (show CW (cxT oG) 45 [.list ((ws).map tV), M cols] = some (.tup [.list (r.map iV), bV true], []) from by have hi := b1v (oG := oG) (ws) (by omega) (fun w h => by have := hwl w h; omega) cols (by omega) (fun c hc => by have := hc21 c hc; omega); rw [hrc] at hi; exact hi)
 refine ⟨⟨rfl, rfl, rfl, dT rfl, rfl⟩, .inl rfl, B0, O1 rfl, fun _ => C3 (X8 (A7 fun _ => rfl) (by decide)) (C3 (X8 (A7 fun _ => rfl) (by decide)) (by rfl)), fun g30 => ?_⟩
 skip
 refine y_M rfl <| y_E rfl <| y_E rfl <| y_S rfl <| y_S rfl <| xN [3,4,5,6,7,8] [3,4,5] rfl <| A3 <| A3 <| A0 <| y_M rfl <| y_M rfl ?_
 apply xC rfl
 ·apply A6
  ·exact E5 rfl rfl rfl (by (simp; done)) (fun _ => rfl)
  apply A6
  ·exact B6 rfl
  exact B8
 ·exact R8 r (by omega)
 refine ⟨⟨rfl, rfl, rfl, dT rfl, rfl⟩, .inr ⟨rfl, rfl⟩, B0, B9 rfl, fun _ => rfl, fun g35 => ?_⟩
 refine L4 rfl <| y_M rfl <| E4 rfl rfl rfl <| y_M rfl <| E4 rfl rfl rfl <| y_M rfl <| E4 rfl rfl rfl <| d4u rfl rfl rfl <| F4 rfl rfl rfl rfl <| y_M rfl ?_
 refine C6 rfl rfl ?_ ?_ <;> intro hg0 <;> have hg := hg0 <;> try simp only [SG] at hg
 ·refine y_M rfl <| gT rfl rfl <| L4 rfl <| F4 rfl rfl rfl rfl <| xN [3,4,5,6,7,8,45] [3,4,5] rfl ?_
  refine A5 rfl (fun hc => absurd hc (by decide)) (fun hc => ?_)
  refine A9 <| A3 <| A3 <| A0 <| y_M rfl <| G8 rfl rfl <| L0 rfl rfl <| xN [3,4,5,56] [3,4,5] rfl ?_
  refine A5 rfl ?_ ?_ <;> intro hc <;> try simp only [SL] at hc
  ·refine A3 <| A0 <| y_S rfl <| xN [2] [] rfl <| B1 <| C2 rfl rfl trivial ?_
   rfl
  obtain ⟨hw1, hw2⟩ := c8j hrc (by omega)
  refine A9 <| A3 <| A0 <| B3 (es := List.map tV []) rfl rfl (dT rfl) rfl rfl (fun _ => B2 (A7 fun _ => rfl)) (fun _ => rfl) ?_
  intro g58
  refine y_M rfl <| N0 rfl rfl rfl rfl (by decide) rfl (by (simp; done)) (by omega) rfl rfl rfl (dT rfl) (fun _ => ⟨rfl, rfl, rfl⟩) (by simp only [G9]; (simp only [List.length_nil, List.length_cons, List.length_append, Nat.zero_add, List.length_map]; omega)) (fun _ => rfl) ?_
  intro g60
  refine B3 (es := List.map tV [b1r]) rfl rfl (dT rfl) rfl rfl (fun _ => B2 (A7 fun _ => rfl)) (fun _ => rfl) ?_
  intro g61
  refine L7 rfl rfl rfl rfl (by (simp; done)) (by simp) (by decide) rfl rfl rfl rfl (dT rfl) (fun _ => ⟨rfl, rfl⟩) (by simp only [G9]; (simp; omega)) (fun _ => rfl) ?_
  intro g62
  refine y_M rfl ?_
  try simp only [List.drop_zero, List.take_length, List.nil_append]
  apply xC rfl
  ·apply A6
   ·exact E5 rfl rfl rfl (by (simp; done)) (fun _ => rfl)
   apply A6
   ·exact E5 rfl rfl rfl (by (simp; done)) (fun _ => rfl)
   exact B8
  ·exact (show CW (cxT oG) 18 [.list ((ws ++ [b1r]).map tV), M cols] = some (.tup [.own 1 ((r.map fun v => -v).map iV), bV true], []) from by have hi := a2h (oG := oG) (ws ++ [b1r]) (by simp; omega) (fun w h => by rcases List.mem_append.1 h with h | h; (· have := hwl w h; omega); (· rw [List.mem_singleton.1 h]; decide)) cols (by omega) (fun c hc => by have := hc21 c hc; omega); rw [hw1] at hi; exact hi)
  refine ⟨⟨rfl, rfl, rfl, dT rfl, rfl⟩, .inr ⟨H5 _ _, rfl⟩, B0, G7 (J8 fun _ => I4 rfl K2), fun _ => rfl, fun g64 => ?_⟩
  simp only [List.length_map]
  refine y_M rfl <| y_E rfl <| y_E rfl ?_
  (refine xO rfl rfl (by simp) rfl (fun _ => rfl) (fun _ => rfl) ?_; intro g9)
  refine y_S rfl <| xN [3,4,5,9,10] [3,4,5,9] rfl <| A3 <| A0 <| B3 (es := List.map tV [[91, 93]]) rfl rfl (dT rfl) rfl rfl (fun _ => B2 (A7 fun _ => rfl)) (fun _ => rfl) ?_
  intro g68
  refine y_M rfl <| N0 rfl rfl rfl rfl (by decide) rfl (by (simp; done)) (by omega) rfl rfl rfl (dT rfl) (fun _ => ⟨rfl, rfl, rfl⟩) (by simp only [G9]; (simp only [List.length_nil, List.length_cons, List.length_append, Nat.zero_add, List.length_map]; omega)) (fun _ => rfl) ?_
  intro g70
  refine y_M rfl ?_
  try simp only [List.drop_zero, List.take_length, List.nil_append]
  apply xC rfl
  ·apply A6
   ·exact E5 rfl rfl rfl (by (simp; done)) (fun _ => rfl)
   apply A6
   ·exact E5 rfl rfl rfl (by (simp; done)) (fun _ => rfl)
   exact B8
  ·exact (show CW (cxT oG) 18 [.list (([91, 93] :: ws).map tV), M cols] = some (.tup [.own 1 (([] : List Int).map iV), bV false], []) from by have hi := a2h (oG := oG) ([91, 93] :: ws) (by simp; omega) (fun w h => by rcases List.mem_cons.1 h with h | h; (· rw [h]; decide); (· have := hwl w h; omega)) cols (by omega) (fun c hc => by have := hc21 c hc; omega); rw [hw2] at hi; exact hi)
  refine ⟨⟨rfl, rfl, rfl, dT rfl, rfl⟩, .inr ⟨H5 _ _, rfl⟩, B0, G7 (J8 fun _ => I4 rfl K2), fun _ => rfl, fun g72 => ?_⟩
  simp only [List.length_map]
  refine y_M rfl <| y_E rfl <| y_E rfl ?_
  (refine xO rfl rfl (by simp) rfl (fun _ => rfl) (fun _ => rfl) ?_; intro g11)
  refine y_S rfl <| xN [5,9,10,12] [5,9] rfl <| A3 <| A0 <| y_M rfl <| y_M rfl <| E4 rfl rfl rfl <| y_M rfl <| E4 rfl rfl rfl <| y_M rfl <| E4 rfl rfl rfl ?_
  apply xC rfl
  ·apply A6
   ·exact E5 rfl rfl rfl (by (simp; done)) (fun _ => rfl)
   exact B8
  ·exact c7r r hrv
  refine ⟨⟨rfl, rfl, rfl, dT rfl, rfl⟩, .inr ⟨Y6 fun _ => rfl, rfl⟩, B0, H9, fun _ => rfl, fun g79 => ?_⟩
  simp only [List.length_map]
  refine E4 rfl rfl rfl ?_
  apply xC rfl
  ·apply A6
   ·exact E5 rfl rfl rfl (by (simp; done)) (fun _ => rfl)
   apply A6
   ·exact E5 rfl rfl rfl (by (simp; done)) (fun _ => rfl)
   exact B8
  ·exact R8 (r.map fun v => -v) (by rw [List.length_map]; omega)
  refine ⟨⟨rfl, rfl, rfl, dT rfl, rfl⟩, .inr ⟨rfl, rfl⟩, B0, B9 rfl, fun _ => rfl, fun g80 => ?_⟩
  refine E8 rfl rfl rfl rfl <| y_M rfl <| E4 rfl rfl rfl <| y_M rfl <| E4 rfl rfl rfl <| L4 rfl <| E8 rfl rfl rfl rfl <| y_S rfl <| xN [2] [] rfl <| B1 <| C2 rfl rfl trivial ?_
  rfl
 refine gF rfl rfl <| E8 rfl (by assumption) rfl rfl <| xN [3,4,5,6,7,8,45] [3,4,5] rfl ?_
 refine A5 rfl (fun hc => ?_) (fun hc => absurd hc (by decide))
 refine A3 <| A0 <| y_M rfl <| y_M rfl ?_
 apply xC rfl
 ·apply A6
  ·exact E5 rfl rfl rfl (by (simp; done)) (fun _ => rfl)
  apply A6
  ·exact B6 rfl
  exact B8
 ·exact R8 r (by omega)
 refine ⟨⟨rfl, rfl, rfl, dT rfl, rfl⟩, .inr ⟨rfl, rfl⟩, B0, B9 rfl, fun _ => rfl, fun g48 => ?_⟩
 refine y_M rfl <| E4 rfl rfl rfl <| y_M rfl <| E4 rfl rfl rfl <| y_M rfl <| E4 rfl rfl rfl <| d0j rfl rfl rfl <| E8 rfl rfl rfl rfl <| y_S rfl <| xN [2] [] rfl <| B1 <| C2 rfl rfl trivial ?_
 rfl
end Go.Proofs.YtcpmbhfnapijaaaGreatDoor
