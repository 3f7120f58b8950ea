/- What each function of the program gives on the abstract machine, part 2 of 2. Conditions: those in front of each theorem. -/
import Derived.Test.YtpjgdgnaeohmeaaGreatDoorSa
import Derived.KernelRfl

set_option linter.unusedVariables false
set_option linter.unusedSimpArgs false
namespace Go.Proofs.YtpjgdgnaeohmeaaGreatDoor
open Go Go.Mv Go.Proofs
set_option maxRecDepth 100000
variable {oG : Option Nat} {rG : Nat}

theorem keep_s_mutate : G3 Tryz.f47 = [0, 1, 4, 12, 13, 5, 19, 32, 37] := by kernel_rfl
set_option maxHeartbeats 20000000 in
theorem d1n (bs : List Int) (p : Int) (hbs : a4d bs) (hl : bs.length ≤ 1048576) (hp : 0 ≤ p ∧ p ≤ 100000000) (s : W8) (hs : s.length ≤ 100000) : ∃ res outs, (fun res outs => ∃ (x : W8) (q : Int), res = tV x ∧ outs = [[rdr bs q]] ∧ p ≤ q ∧ q ≤ p + 10 ∧ x.length ≤ s.length + 10) res outs ∧ CW (cxT oG) 47 [.ownp [rdr bs p] 0 0, tV s] = some (res, outs) := by
 refine T6 rfl Tryz.func47 rfl ⟨by kernel_rfl, rfl, of_decide_eq_true rfl, of_decide_eq_true rfl, by decide⟩ keep_s_mutate <| A3 <| A0 <| A5 rfl rfl rfl ?_
 refine A4 ⟨nofun, _, kS [0,1] [0] rfl, ?_⟩
 refine A3 <| A0 <| A6 rfl rfl <| A6 rfl rfl <| a2j rfl rfl <| H9 rfl rfl (F9 (by omega)) ?_
 obtain ⟨_, _, ⟨k0, rfl, rfl, hk0, -⟩, hC0⟩ := a0o (oG := oG) bs (p) hbs hl (by omega) (s.length + 1) (by omega)
 have hk0 := hk0 (by omega)
 apply C6 rfl
 ·apply B0
  ·exact K9 rfl (by decide) rfl
  apply B0
  ·exact B6 rfl
  exact C5
 ·exact hC0
 ·exact ⟨rfl, rfl, rfl, of_decide_eq_true rfl, rfl⟩
 ·exact .inl rfl
 ·exact H0 rfl rfl rfl B1
 ·exact C0 rfl
 ·exact fun _ => rfl
 intro g10
 refine A5 rfl rfl rfl ?_
 refine A4 ⟨nofun, _, kS [0,1,5] [0] rfl, ?_⟩
 refine A3 <| A3 <| A0 <| A6 rfl rfl ?_
 obtain ⟨_, _, ⟨k1, rfl, rfl, hk1, -⟩, hC1⟩ := a0o (oG := oG) bs (p + 1) hbs hl (by omega) (5) (by omega)
 have hk1 := hk1 (by omega)
 apply C6 rfl
 ·apply B0
  ·exact K9 rfl (by decide) rfl
  apply B0
  ·exact B6 rfl
  exact C5
 ·exact hC1
 ·exact ⟨rfl, rfl, rfl, of_decide_eq_true rfl, rfl⟩
 ·exact .inl rfl
 ·exact H0 rfl rfl rfl B1
 ·exact C0 rfl
 ·exact fun _ => rfl
 intro g12
 refine A4 ⟨nofun, _, kS [0,1,5,12] [0] rfl, ?_⟩
 refine D4 <| A3 <| A3 <| A0 <| S4 rfl rfl <| A5 rfl rfl rfl ?_
 refine A4 ⟨nofun, _, kS [0,1,5,12,13] [0] rfl, ?_⟩
 refine A9 rfl (fun hc => ?_) (fun hc => ?_)
 ·try simp only [SG, List.length_map] at hc
  refine B9 ?_
  refine A9 rfl (fun hc => ?_) (fun hc => absurd hc (by simp_all))
  refine A3 <| A0 <| A6 rfl rfl <| A6 rfl rfl <| a2j rfl rfl <| I0 rfl rfl ?_
  refine A4 ⟨nofun, _, kS [0,1,5,19] [0] rfl, ?_⟩
  refine A9 rfl (fun hc => ?_) (fun hc => ?_)
  ·try simp only [SG, List.length_map] at hc
   refine A3 <| A0 <| A6 rfl rfl <| A6 rfl rfl <| V0 rfl rfl (Q1 rfl (by omega)) I7 (by omega) <| A6 rfl rfl <| E7 (es := List.map tV [[48], [49], [97], [44], [45], [93], [32]]) rfl rfl (of_decide_eq_true rfl) rfl rfl (fun _ => B2 (A8 fun _ => rfl)) (fun _ => rfl) ?_
   intro g24
   obtain ⟨_, _, ⟨w1, rfl, rfl, hw1⟩, hC2⟩ := b0y (oG := oG) bs (p + 1 + 1) hbs hl (by omega) [[48], [49], [97], [44], [45], [93], [32]] (by decide)
   have hw1b : w1.length ≤ 1 := by have hall : ∀ x ∈ ([[48], [49], [97], [44], [45], [93], [32]] : List W8), x.length ≤ 1 := (by decide); exact hall _ hw1
   apply C6 rfl
   ·apply B0
    ·exact K9 rfl (by decide) rfl
    apply B0
    ·exact J3 rfl rfl (by (simp; done)) (fun _ => rfl)
    exact C5
   ·exact hC2
   ·exact ⟨rfl, rfl, rfl, of_decide_eq_true rfl, rfl⟩
   ·exact .inl rfl
   ·exact H0 rfl rfl rfl B1
   ·exact C0 rfl
   ·exact fun _ => rfl
   intro g25
   refine M1 rfl rfl (by simp only [H4, List.length_append, List.length_take, List.length_drop]; omega) <| A6 rfl rfl <| A6 rfl rfl <| H9 rfl rfl (F9 (by omega)) <| V0 rfl rfl I7 (Q1 rfl (by omega)) (by omega) <| M1 rfl rfl (by simp only [H4, List.length_append, List.length_take, List.length_drop]; omega) <| A5 rfl rfl rfl ?_
   refine A4 ⟨fun _ => ⟨by (simp only [T7, List.nil_append, List.append_nil, List.map_cons, List.map_nil, List.cons_append]; decide +kernel), by decide +kernel⟩, [(.t 4, _), (.h 0, _)], ⟨rfl, rfl, rfl, rfl, trivial⟩, ?_⟩
   refine B3 ?_
   refine ⟨_, _, ?_, J8 rfl rfl (J7 rfl rfl)⟩
   exact ⟨_, _, rfl, rfl, by omega, by omega, by (simp only [List.length_append, List.length_cons, List.length_nil, List.length_take, List.length_drop]; omega)⟩
  try simp only [SG, List.length_map] at hc
  refine B9 <| A3 <| A0 <| A6 rfl rfl <| A5 rfl rfl rfl ?_
  refine A4 ⟨nofun, _, kS [4] [0] rfl, ?_⟩
  refine B3 ?_
  refine ⟨_, _, ?_, J8 rfl rfl (J7 rfl rfl)⟩
  exact ⟨_, _, rfl, rfl, by omega, by omega, by omega⟩
 try simp only [SG, List.length_map] at hc
 refine A0 <| S4 rfl rfl <| A5 rfl rfl rfl ?_
 refine A4 ⟨nofun, _, kS [0,1,5,12,13] [0] rfl, ?_⟩
 refine A9 rfl (fun hc => ?_) (fun hc => ?_)
 ·try simp only [SG, List.length_map] at hc
  refine A3 <| A0 <| A6 rfl rfl <| A6 rfl rfl <| a2j rfl rfl <| I0 rfl rfl ?_
  refine A4 ⟨nofun, _, kS [0,1,5,19] [0] rfl, ?_⟩
  refine A9 rfl (fun hc => ?_) (fun hc => ?_)
  ·try simp only [SG, List.length_map] at hc
   refine A3 <| A0 <| A6 rfl rfl <| A6 rfl rfl <| V0 rfl rfl (Q1 rfl (by omega)) I7 (by omega) <| A6 rfl rfl <| E7 (es := List.map tV [[48], [49], [97], [44], [45], [93], [32]]) rfl rfl (of_decide_eq_true rfl) rfl rfl (fun _ => B2 (A8 fun _ => rfl)) (fun _ => rfl) ?_
   intro g24
   obtain ⟨_, _, ⟨w1, rfl, rfl, hw1⟩, hC2⟩ := b0y (oG := oG) bs (p + 1 + 1) hbs hl (by omega) [[48], [49], [97], [44], [45], [93], [32]] (by decide)
   have hw1b : w1.length ≤ 1 := by have hall : ∀ x ∈ ([[48], [49], [97], [44], [45], [93], [32]] : List W8), x.length ≤ 1 := (by decide); exact hall _ hw1
   apply C6 rfl
   ·apply B0
    ·exact K9 rfl (by decide) rfl
    apply B0
    ·exact J3 rfl rfl (by (simp; done)) (fun _ => rfl)
    exact C5
   ·exact hC2
   ·exact ⟨rfl, rfl, rfl, of_decide_eq_true rfl, rfl⟩
   ·exact .inl rfl
   ·exact H0 rfl rfl rfl B1
   ·exact C0 rfl
   ·exact fun _ => rfl
   intro g25
   refine M1 rfl rfl (by simp only [H4, List.length_append, List.length_take, List.length_drop]; omega) <| A6 rfl rfl <| A6 rfl rfl <| H9 rfl rfl (F9 (by omega)) <| V0 rfl rfl I7 (Q1 rfl (by omega)) (by omega) <| M1 rfl rfl (by simp only [H4, List.length_append, List.length_take, List.length_drop]; omega) <| A5 rfl rfl rfl ?_
   refine A4 ⟨fun _ => ⟨by (simp only [T7, List.nil_append, List.append_nil, List.map_cons, List.map_nil, List.cons_append]; decide +kernel), by decide +kernel⟩, [(.t 4, _), (.h 0, _)], ⟨rfl, rfl, rfl, rfl, trivial⟩, ?_⟩
   refine B3 ?_
   refine ⟨_, _, ?_, J8 rfl rfl (J7 rfl rfl)⟩
   exact ⟨_, _, rfl, rfl, by omega, by omega, by (simp only [List.length_append, List.length_cons, List.length_nil, List.length_take, List.length_drop]; omega)⟩
  try simp only [SG, List.length_map] at hc
  refine B9 <| A3 <| A0 <| A6 rfl rfl <| A5 rfl rfl rfl ?_
  refine A4 ⟨nofun, _, kS [4] [0] rfl, ?_⟩
  refine B3 ?_
  refine ⟨_, _, ?_, J8 rfl rfl (J7 rfl rfl)⟩
  exact ⟨_, _, rfl, rfl, by omega, by omega, by omega⟩
 try simp only [SG, List.length_map] at hc
 refine A3 <| A0 <| S4 rfl rfl <| A5 rfl rfl rfl ?_
 refine A4 ⟨nofun, _, kS [0,1,5,12,32] [0] rfl, ?_⟩
 refine A9 rfl (fun hc => ?_) (fun hc => ?_)
 ·try simp only [SG, List.length_map] at hc
  refine A3 <| A0 <| A6 rfl rfl <| A6 rfl rfl <| V0 rfl rfl (Q1 rfl (by omega)) I7 (by omega) <| A5 rfl rfl rfl ?_
  refine A4 ⟨nofun, _, kS [4] [0] rfl, ?_⟩
  refine B3 ?_
  refine ⟨_, _, ?_, J8 rfl rfl (J7 rfl rfl)⟩
  exact ⟨_, _, rfl, rfl, by omega, by omega, by (simp only [List.length_append, List.length_cons, List.length_nil, List.length_take, List.length_drop]; omega)⟩
 try simp only [SG, List.length_map] at hc
 refine A3 <| A0 <| S4 rfl rfl <| A5 rfl rfl rfl ?_
 refine A4 ⟨nofun, _, kS [0,1,37] [0] rfl, ?_⟩
 refine A9 rfl (fun hc => ?_) (fun hc => ?_)
 ·try simp only [SG, List.length_map] at hc
  refine A3 <| A0 <| A6 rfl rfl <| A6 rfl rfl <| E7 (es := List.map tV [[48], [44], [32], [32, 97]]) rfl rfl (of_decide_eq_true rfl) rfl rfl (fun _ => B2 (A8 fun _ => rfl)) (fun _ => rfl) ?_
  intro g41
  obtain ⟨_, _, ⟨w2, rfl, rfl, hw2⟩, hC3⟩ := b0y (oG := oG) bs (p + 1 + 1) hbs hl (by omega) [[48], [44], [32], [32, 97]] (by decide)
  have hw2b : w2.length ≤ 2 := by have hall : ∀ x ∈ ([[48], [44], [32], [32, 97]] : List W8), x.length ≤ 2 := (by decide); exact hall _ hw2
  apply C6 rfl
  ·apply B0
   ·exact K9 rfl (by decide) rfl
   apply B0
   ·exact J3 rfl rfl (by (simp; done)) (fun _ => rfl)
   exact C5
  ·exact hC3
  ·exact ⟨rfl, rfl, rfl, of_decide_eq_true rfl, rfl⟩
  ·exact .inl rfl
  ·exact H0 rfl rfl rfl B1
  ·exact C0 rfl
  ·exact fun _ => rfl
  intro g42
  refine M1 rfl rfl (by simp only [H4, List.length_append, List.length_cons, List.length_nil]; omega) <| A5 rfl rfl rfl ?_
  refine A4 ⟨nofun, _, kS [4] [0] rfl, ?_⟩
  refine B3 ?_
  refine ⟨_, _, ?_, J8 rfl rfl (J7 rfl rfl)⟩
  exact ⟨_, _, rfl, rfl, by omega, by omega, by (simp only [List.length_append, List.length_cons, List.length_nil, List.length_take, List.length_drop]; omega)⟩
 try simp only [SG, List.length_map] at hc
 refine B9 <| A3 <| A0 <| A6 rfl rfl <| A5 rfl rfl rfl ?_
 refine A4 ⟨nofun, _, kS [4] [0] rfl, ?_⟩
 refine B3 ?_
 refine ⟨_, _, ?_, J8 rfl rfl (J7 rfl rfl)⟩
 exact ⟨_, _, rfl, rfl, by omega, by omega, by omega⟩

theorem keep_s_somePlan : G3 Tryz.f23 = [0, 2, 11, 3] := by kernel_rfl
set_option maxHeartbeats 20000000 in
theorem c3h (bs : List Int) (p : Int) (hbs : a4d bs) (hl : bs.length ≤ 1048576) (hp : 0 ≤ p ∧ p ≤ 1000000) : ∃ res outs, (fun res outs => ∃ (x : W8) (q : Int), res = tV x ∧ outs = [[rdr bs q]] ∧ p ≤ q ∧ q ≤ p + 3000 ∧ x.length ≤ 5000) res outs ∧ CW (cxT oG) 23 [.ownp [rdr bs p] 0 0] = some (res, outs) := by
 refine T6 rfl Tryz.func23 rfl ⟨by kernel_rfl, rfl, of_decide_eq_true rfl, of_decide_eq_true rfl, by decide⟩ keep_s_somePlan <| A3 <| A0 <| A5 rfl rfl rfl ?_
 refine A4 ⟨nofun, _, kS [0] [0] rfl, ?_⟩
 refine A3 <| A0 <| A6 rfl rfl <| A6 rfl rfl <| E7 (es := List.map iV [3, 4, 2, 5, 1, 0]) rfl rfl (of_decide_eq_true rfl) rfl rfl (fun _ => B2 (A8 fun _ => rfl)) (fun _ => rfl) ?_
 intro g6
 obtain ⟨_, _, ⟨k0, rfl, rfl, hk0⟩, hC0⟩ := d0l (oG := oG) bs (p) hbs hl (by omega) [3, 4, 2, 5, 1, 0] (by decide)
 have hk0b : 0 ≤ k0 ∧ k0 ≤ 5 := by simp at hk0; omega
 obtain ⟨d, rfl⟩ : ∃ d : Nat, k0 = d := ⟨k0.toNat, by omega⟩
 have hgm := d2v (d := d) (by omega)
 have hlm := c5d (d := d) (by omega)
 have hgp := b8g d
 apply C6 rfl
 ·apply B0
  ·exact K9 rfl (by decide) rfl
  apply B0
  ·exact J3 rfl rfl (by (simp; done)) (fun _ => rfl)
  exact C5
 ·exact hC0
 ·exact ⟨rfl, rfl, rfl, of_decide_eq_true rfl, rfl⟩
 ·exact .inl rfl
 ·exact H0 rfl rfl rfl B1
 ·exact C0 rfl
 ·exact fun _ => rfl
 intro g7
 obtain ⟨_, _, ⟨x, q, rfl, rfl, hx1, hx2, hx3⟩, hC1⟩ := c3n (oG := oG) bs (p + 1) d hbs hl (by omega) (by omega)
 apply C6 rfl
 ·apply B0
  ·exact K9 rfl (by decide) rfl
  apply B0
  ·exact B6 rfl
  exact C5
 ·exact hC1
 ·exact ⟨rfl, rfl, rfl, of_decide_eq_true rfl, rfl⟩
 ·exact .inl rfl
 ·exact H0 rfl rfl rfl B1
 ·exact C0 rfl
 ·exact fun _ => rfl
 intro g8
 refine A5 rfl rfl rfl ?_
 refine A4 ⟨nofun, _, kS [0,3] [0] rfl, ?_⟩
 refine A3 <| A3 <| A0 <| A6 rfl rfl ?_
 obtain ⟨_, _, ⟨k1, rfl, rfl, hk1, -⟩, hC2⟩ := a0o (oG := oG) bs (q) hbs hl (by omega) (16) (by omega)
 have hk1 := hk1 (by omega)
 apply C6 rfl
 ·apply B0
  ·exact K9 rfl (by decide) rfl
  apply B0
  ·exact B6 rfl
  exact C5
 ·exact hC2
 ·exact ⟨rfl, rfl, rfl, of_decide_eq_true rfl, rfl⟩
 ·exact .inl rfl
 ·exact H0 rfl rfl rfl B1
 ·exact C0 rfl
 ·exact fun _ => rfl
 intro g10
 refine S4 rfl rfl ?_
 refine A4 ⟨nofun, _, kS [0,3,11] [0] rfl, ?_⟩
 refine A9 rfl (fun hc => ?_) (fun hc => ?_)
 ·try simp only [SG, List.length_map] at hc
  refine A0 <| A6 rfl rfl <| A6 rfl rfl ?_
  obtain ⟨_, _, ⟨y, q2, rfl, rfl, hy1, hy2, hy3⟩, hC3⟩ := d1n (oG := oG) bs (q + 1) hbs hl (by omega) x (by omega)
  apply C6 rfl
  ·apply B0
   ·exact K9 rfl (by decide) rfl
   apply B0
   ·exact B6 rfl
   exact C5
  ·exact hC3
  ·exact ⟨rfl, rfl, rfl, of_decide_eq_true rfl, rfl⟩
  ·exact .inl rfl
  ·exact H0 rfl rfl rfl B1
  ·exact C0 rfl
  ·exact fun _ => rfl
  intro g14
  refine A5 rfl rfl rfl ?_
  refine A4 ⟨nofun, _, kS [3] [0] rfl, ?_⟩
  refine A3 <| A0 <| A6 rfl rfl <| A5 rfl rfl rfl ?_
  refine A4 ⟨nofun, _, kS [2] [0] rfl, ?_⟩
  refine B3 ?_
  refine ⟨_, _, ?_, J8 rfl rfl (J7 rfl rfl)⟩
  exact ⟨_, _, rfl, rfl, by omega, by omega, by omega⟩
 try simp only [SG, List.length_map] at hc
 refine B9 <| A3 <| A0 <| A6 rfl rfl <| A5 rfl rfl rfl ?_
 refine A4 ⟨nofun, _, kS [2] [0] rfl, ?_⟩
 refine B3 ?_
 refine ⟨_, _, ?_, J8 rfl rfl (J7 rfl rfl)⟩
 exact ⟨_, _, rfl, rfl, by omega, by omega, by omega⟩

theorem keep_s_drawCostOf : G3 Tryz.f20 = [0, 2] := by kernel_rfl
set_option maxHeartbeats 20000000 in
theorem b7t (bs : List Int) (hbs : a4d bs) (hl : bs.length ≤ 1048576) : ∃ res outs, (fun res outs => ∃ x : W8, res = tV x ∧ outs = [] ∧ x.length ≤ 5000) res outs ∧ CW (cxT oG) 20 [.list (bs.map uV)] = some (res, outs) := by
 refine T6 rfl Tryz.func20 rfl ⟨by kernel_rfl, rfl, of_decide_eq_true rfl, of_decide_eq_true rfl, by decide⟩ keep_s_drawCostOf <| A3 <| A0 <| A5 rfl rfl rfl ?_
 refine A4 ⟨nofun, _, kS [0] [] rfl, ?_⟩
 refine A3 <| A0 <| A6 rfl rfl ?_
 obtain ⟨_, _, ⟨rfl, rfl⟩, hC0⟩ := b9q (oG := oG) bs hl
 have hbs2 : a4d (bs.take 2000) := fun b hb => hbs b (List.mem_of_mem_take hb)
 have hl2 : (bs.take 2000).length ≤ 1048576 := by simp; omega
 apply C6 rfl
 ·apply B0
  ·exact B6 rfl
  exact C5
 ·exact hC0
 ·exact ⟨rfl, rfl, rfl, of_decide_eq_true rfl, rfl⟩
 ·exact .inl rfl
 ·exact B1
 ·exact c8v
 ·exact fun _ => rfl
 intro g4
 obtain ⟨_, _, ⟨x, q, rfl, rfl, -, -, hx3⟩, hC1⟩ := c3h (oG := oG) (bs.take 2000) 0 hbs2 hl2 (by omega)
 apply C6 rfl
 ·apply B0
  ·exact K9 rfl (by decide) rfl
  exact C5
 ·exact hC1
 ·exact ⟨rfl, rfl, rfl, of_decide_eq_true rfl, rfl⟩
 ·exact .inl rfl
 ·exact H0 rfl rfl rfl B1
 ·exact C0 rfl
 ·exact fun _ => rfl
 intro g5
 refine A5 rfl rfl rfl ?_
 refine A4 ⟨nofun, _, kS [2] [] rfl, ?_⟩
 refine B3 ?_
 refine ⟨_, _, ?_, J8 rfl rfl D3⟩
 exact ⟨x, rfl, rfl, hx3⟩

theorem keep_s_ClipI : G3 Tryz.f68 = [0, 2] := by kernel_rfl
set_option maxHeartbeats 20000000 in
theorem d2r (xs : List Int) (hx : xs.length ≤ H4) : CW (cxT oG) 68 [.own 1 (xs.map iV)] = some (.own 1 (xs.map iV), []) := by
 refine G2 rfl Tryz.func68 rfl ⟨by kernel_rfl, rfl, of_decide_eq_true rfl, of_decide_eq_true rfl, by decide⟩ keep_s_ClipI <| A3 <| A0 ?_
 (refine C3 rfl rfl (fun _ => rfl) ?_; intro g2)
 refine A4 ⟨nofun, _, kS [0] [0] rfl, ?_⟩
 refine A3 <| A0 <| A6 rfl rfl <| A6 rfl rfl <| K5 rfl rfl <| A6 rfl rfl <| K5 rfl rfl ?_
 refine c3t rfl rfl rfl rfl rfl rfl (fun hz => ?_) (fun hz => ?_)
 ·skip
  (refine C3 rfl rfl (fun _ => rfl) ?_; intro g2)
  refine A4 ⟨nofun, _, kS [2] [0,2] rfl, ?_⟩
  refine B3 <| O3 rfl rfl (by (simp; done)) (by rfl) trivial ?_
  (have h0 : xs = [] := (by simpa using hz); subst h0; rfl)
 skip
 (refine B4 rfl rfl (by (simp; done)) rfl (fun _ => (B2 (by exact A8 fun _ => rfl))) (fun _ => rfl) ?_; intro g2)
 refine A4 ⟨nofun, _, kS [2] [0,2] rfl, ?_⟩
 refine B3 <| O3 rfl rfl (by (simp; done)) (by exact A8 fun _ => rfl) trivial ?_
 rfl

theorem keep_s_clone : G3 Tryz.f53 = [0, 2] := by kernel_rfl
set_option maxHeartbeats 20000000 in
theorem a1y (x : List Int) (hl : x.length ≤ 1048576) : CW (cxT oG) 53 [L x] = some (.own 1 (x.map iV), []) := by
 refine G2 rfl Tryz.func53 rfl ⟨by kernel_rfl, rfl, of_decide_eq_true rfl, of_decide_eq_true rfl, by decide⟩ keep_s_clone <| A3 <| A0 ?_
 (refine C3 rfl rfl (fun _ => rfl) ?_; intro g2)
 refine A4 ⟨nofun, _, kS [0] [] rfl, ?_⟩
 refine A3 <| A0 <| A6 rfl rfl ?_
 apply C6 rfl
 ·apply B0
  ·exact B6 rfl
  exact C5
 ·exact d1x x (by simp only [H4]; omega)
 ·exact ⟨rfl, rfl, rfl, of_decide_eq_true rfl, rfl⟩
 ·exact .inl rfl
 ·exact B1
 ·exact K4
 ·exact fun _ => rfl
 intro g4
 simp only [List.length_map]
 apply C6 rfl
 ·apply B0
  ·exact a3o rfl rfl (by (simp; done)) (A8 fun _ => rfl)
  exact C5
 ·exact d2r x (by simp only [H4]; omega)
 ·exact ⟨rfl, rfl, rfl, of_decide_eq_true rfl, rfl⟩
 ·exact .inl rfl
 ·exact B1
 ·exact K4
 ·exact fun _ => rfl
 intro g5
 simp only [List.length_map]
 (refine B4 rfl rfl (by (simp; done)) rfl (fun _ => (B2 (by exact A8 fun _ => rfl))) (fun _ => rfl) ?_; intro g2)
 refine A4 ⟨nofun, _, kS [2] [2] rfl, ?_⟩
 refine B3 <| O3 rfl rfl (by simp) (by exact A8 fun _ => rfl) trivial ?_
 rfl

theorem keep_s_EqualI : G3 Tryz.f56 = [0, 1, 4, 10, 13, 12, 14, 5, 24] := by kernel_rfl
set_option maxHeartbeats 20000000 in
theorem d0b (a b : List Int) (ha : a.length ≤ 1048576) (hlb : b.length ≤ 1048576) : CW (cxT oG) 56 [L a, L b] = some (bV (decide (a = b)), []) := by
 refine G2 rfl Tryz.func56 rfl ⟨by kernel_rfl, rfl, of_decide_eq_true rfl, of_decide_eq_true rfl, by decide⟩ keep_s_EqualI <| A3 <| A0 <| A5 rfl rfl rfl ?_
 refine A4 ⟨nofun, _, kS [0,1] [] rfl, ?_⟩
 refine A3 <| A3 <| A0 <| A6 rfl rfl <| F4 rfl rfl <| A6 rfl rfl <| F4 rfl rfl <| b9n rfl rfl ?_
 refine A4 ⟨nofun, _, kS [0,1,10] [] rfl, ?_⟩
 refine A9 rfl (fun hc => ?_) (fun hc => ?_)
 ·try simp only [SG, List.length_map] at hc
  refine A3 <| A0 <| A5 rfl rfl rfl ?_
  refine A4 ⟨nofun, _, kS [4] [] rfl, ?_⟩
  refine B3 <| C9 rfl rfl trivial ?_
  rw [b1e (by omega)]
  rfl
 try simp only [SG, List.length_map] at hc
 refine B9 <| A3 <| A3 <| A0 <| A6 rfl rfl <| F4 rfl rfl <| A6 rfl rfl ?_
 refine A4 ⟨nofun, _, kS [0,1,12,13] [] rfl, ?_⟩
 refine D4 <| I8 (β := Nat) [(.t 0, _), (.t 1, _), (.t 12, _)] (fun (i : Nat) => [(.t 13, iV i)]) (fun (i : Nat) => i ≤ a.length ∧ ∀ j, j < i → a.getD j default = b.getD j default) (fun (i : Nat) => a.length - i) 0 ⟨rfl, rfl, rfl, rfl, trivial⟩ ⟨Nat.zero_le _, fun j h => by omega⟩ ?_
 intro i hb
 obtain ⟨hi1, hi2⟩ := hb
 refine A3 <| A0 <| I0 rfl rfl ?_
 refine A4 ⟨nofun, _, kS [0,1,12,13,14] [] rfl, ?_⟩
 refine A3 ?_
 refine A9 rfl (fun hc => ?_) (fun hc => ?_)
 ·try simp only [SG, List.length_map] at hc
  refine B9 <| A3 <| D4 <| A3 <| A0 <| A6 rfl rfl <| A5 rfl rfl rfl ?_
  refine A4 ⟨nofun, _, kS [0,1,5,12,13] [] rfl, ?_⟩
  refine A3 <| A0 <| A6 rfl rfl <| A6 rfl rfl <| G1 rfl rfl rfl (fun _ => rfl) (by omega) <| E6 rfl rfl rfl <| A6 rfl rfl <| A6 rfl rfl <| G1 rfl rfl rfl (fun _ => rfl) (by omega) <| E6 rfl rfl rfl <| b9n rfl rfl ?_
  refine A4 ⟨fun _ => ⟨by decide +kernel, by decide +kernel⟩, [(.t 0, _), (.t 1, _), (.t 12, _), (.t 13, _), (.t 24, _)], ⟨rfl, rfl, rfl, rfl, rfl, rfl, rfl, rfl, rfl, rfl, trivial⟩, ?_⟩
  refine A9 rfl (fun hc => ?_) (fun hc => ?_)
  ·try simp only [SG, List.length_map] at hc
   refine A3 <| A0 <| A5 rfl rfl rfl ?_
   refine A4 ⟨nofun, _, kS [4] [] rfl, ?_⟩
   refine B3 <| C9 rfl rfl trivial ?_
   rw [b3b (i := i) (by omega) (by assumption)]
   rfl
  try simp only [SG, List.length_map] at hc
  refine B9 <| A0 <| H9 rfl rfl (F9 (by omega)) <| A6 rfl rfl ?_
  refine A4 ⟨nofun, _, kS [0,1,12,13] [] rfl, ?_⟩
  refine ⟨i + 1, ⟨by omega, fun j hj => by rcases Nat.lt_succ_iff_lt_or_eq.1 hj with h | h; (· exact hi2 j h); (· subst h; assumption)⟩, (by omega), ⟨rfl, rfl, rfl, rfl, trivial⟩⟩
 try simp only [SG, List.length_map] at hc
 refine H3 <| A3 <| A0 <| A5 rfl rfl rfl ?_
 refine A4 ⟨nofun, _, kS [4] [] rfl, ?_⟩
 refine B3 <| C9 rfl rfl trivial ?_
 rw [b2g (by omega) fun j hj => hi2 j (by omega)]
 rfl

theorem keep_s_share1 : G3 Tryz.f55 = [0, 1, 3, 2] := by kernel_rfl
set_option maxHeartbeats 20000000 in
theorem c8g (x y : Stp) (hx : x.ns.length ≤ 1048576) (hy : y.ns.length ≤ 1048576) : CW (cxT oG) 55 [stA x, .ipt (stA y) 0] = some (bV (decide (x = y)), []) := by
 have hd := d3h x y
 refine G2 rfl Tryz.func55 rfl ⟨by kernel_rfl, rfl, of_decide_eq_true rfl, of_decide_eq_true rfl, by decide⟩ keep_s_share1 <| A3 <| A0 <| a0q rfl rfl rfl (fun _ => B7 rfl) (fun _ => rfl) ?_
 intro g2
 refine A5 rfl rfl rfl ?_
 refine A4 ⟨nofun, _, kS [1,2] [2] rfl, ?_⟩
 refine A3 <| A0 <| B5 rfl rfl (of_decide_eq_true rfl) rfl rfl <| C8 rfl rfl rfl rfl rfl rfl <| B5 rfl rfl (of_decide_eq_true rfl) rfl rfl <| a1n rfl rfl rfl <| a1v rfl rfl <| A6 rfl rfl ?_
 refine E3 rfl rfl (fun hg0 => ?_) (fun hg0 => ?_)
 ·have hg := hg0; try simp only [SG] at hg
  refine B5 rfl rfl (of_decide_eq_true rfl) rfl rfl <| gT rfl rfl <| C8 rfl rfl rfl rfl rfl rfl <| gT rfl rfl <| B5 rfl rfl (of_decide_eq_true rfl) rfl rfl <| gT rfl rfl <| a1n rfl rfl rfl <| gT rfl rfl <| S4 rfl rfl <| G7 rfl (by assumption) rfl rfl <| A6 rfl rfl ?_
  refine E3 rfl rfl (fun hg0 => ?_) (fun hg0 => ?_)
  ·have hg := hg0; try simp only [SG] at hg
   refine B5 rfl rfl (of_decide_eq_true rfl) rfl rfl <| gT rfl rfl <| C8 rfl rfl rfl rfl rfl rfl <| gT rfl rfl <| B5 rfl rfl (of_decide_eq_true rfl) rfl rfl <| gT rfl rfl <| a1n rfl rfl rfl <| gT rfl rfl <| S4 rfl rfl <| G7 rfl (by assumption) rfl rfl <| A6 rfl rfl ?_
   refine E3 rfl rfl (fun hg0 => ?_) (fun hg0 => ?_)
   ·have hg := hg0; try simp only [SG] at hg
    refine B5 rfl rfl (of_decide_eq_true rfl) rfl rfl <| gT rfl rfl <| C8 rfl rfl rfl rfl rfl rfl <| gT rfl rfl <| B5 rfl rfl (of_decide_eq_true rfl) rfl rfl <| gT rfl rfl <| a1n rfl rfl rfl <| gT rfl rfl ?_
    apply C6 rfl
    ·apply B0
     ·exact B6 rfl
     apply B0
     ·exact B6 rfl
     exact C5
    ·exact d0b x.ns y.ns hx hy
    ·exact ⟨rfl, rfl, rfl, of_decide_eq_true rfl, rfl⟩
    ·exact .inl rfl
    ·exact B1
    ·exact C0 rfl
    ·exact fun _ => rfl
    intro g28
    refine G7 rfl (by assumption) rfl rfl <| A5 rfl rfl rfl ?_
    refine A4 ⟨nofun, _, kS [3] [] rfl, ?_⟩
    refine B3 <| C9 rfl rfl trivial ?_
    rw [hd]
    simp_all
    try rfl
   have hg := hg0; try simp only [SG] at hg
   refine gF rfl rfl <| gF rfl rfl <| gF rfl rfl <| gF rfl rfl <| G6 rfl (by assumption) rfl rfl <| A5 rfl rfl rfl ?_
   refine A4 ⟨nofun, _, kS [3] [] rfl, ?_⟩
   refine B3 <| C9 rfl rfl trivial ?_
   rw [hd]
   simp_all
   try rfl
  have hg := hg0; try simp only [SG] at hg
  refine gF rfl rfl <| gF rfl rfl <| gF rfl rfl <| gF rfl rfl <| G6 rfl (by assumption) rfl rfl <| A6 rfl rfl <| F0 rfl rfl rfl <| F0 rfl rfl rfl <| F0 rfl rfl rfl <| F0 rfl rfl rfl <| F0 rfl rfl rfl <| G6 rfl rfl rfl rfl <| A5 rfl rfl rfl ?_
  refine A4 ⟨nofun, _, kS [3] [] rfl, ?_⟩
  refine B3 <| C9 rfl rfl trivial ?_
  rw [hd]
  simp_all
  try rfl
 have hg := hg0; try simp only [SG] at hg
 refine gF rfl rfl <| gF rfl rfl <| gF rfl rfl <| gF rfl rfl <| G6 rfl (by assumption) rfl rfl <| A6 rfl rfl <| F0 rfl rfl rfl <| F0 rfl rfl rfl <| F0 rfl rfl rfl <| F0 rfl rfl rfl <| F0 rfl rfl rfl <| G6 rfl rfl rfl rfl <| A6 rfl rfl <| F0 rfl rfl rfl <| F0 rfl rfl rfl <| F0 rfl rfl rfl <| F0 rfl rfl rfl <| F0 rfl rfl rfl <| G6 rfl rfl rfl rfl <| A5 rfl rfl rfl ?_
 refine A4 ⟨nofun, _, kS [3] [] rfl, ?_⟩
 refine B3 <| C9 rfl rfl trivial ?_
 rw [hd]
 simp_all
 try rfl

theorem keep_s_IndexSt : G3 Tryz.f54 = [0, 1, 4, 8, 7, 9, 5, 16] := by kernel_rfl
set_option maxHeartbeats 20000000 in
theorem W3 (ss : List Stp) (hss : ss.length ≤ 1000 ∧ ∀ s ∈ ss, stG s) (y : Stp) (hy : y.ns.length ≤ 1048576) : CW (cxT oG) 54 [.list (ss.map stA), .clo 55 [.ipt (stA y) 0]] = some (iV (stJ y ss), []) := by
 refine G2 rfl Tryz.func54 rfl ⟨by kernel_rfl, rfl, of_decide_eq_true rfl, of_decide_eq_true rfl, by decide⟩ keep_s_IndexSt <| A3 <| A0 <| A5 rfl rfl rfl ?_
 refine A4 ⟨nofun, _, kS [0,1] [] rfl, ?_⟩
 refine A3 <| A3 <| A0 <| A6 rfl rfl <| F4 rfl rfl <| A6 rfl rfl ?_
 refine A4 ⟨nofun, _, kS [0,1,7,8] [] rfl, ?_⟩
 refine D4 <| I8 (β := Nat) [(.t 0, _), (.t 1, _), (.t 7, _)] (fun (i : Nat) => [(.t 8, iV i)]) (fun (i : Nat) => i ≤ ss.length ∧ ∀ j, j < i → ss.getD j default ≠ y) (fun (i : Nat) => ss.length - i) 0 ⟨rfl, rfl, rfl, rfl, trivial⟩ ⟨Nat.zero_le _, fun j h => by omega⟩ ?_
 intro i hb
 obtain ⟨hi1, hne⟩ := hb
 refine A3 <| A0 <| I0 rfl rfl ?_
 refine A4 ⟨nofun, _, kS [0,1,7,8,9] [] rfl, ?_⟩
 refine A3 ?_
 refine A9 rfl (fun hc => ?_) (fun hc => ?_)
 ·try simp only [SG, List.length_map] at hc
  refine B9 <| A3 <| D4 <| A3 <| A0 <| A6 rfl rfl <| A5 rfl rfl rfl ?_
  refine A4 ⟨nofun, _, kS [0,1,5,7,8] [] rfl, ?_⟩
  refine A3 <| A0 <| A6 rfl rfl <| A6 rfl rfl <| A6 rfl rfl <| G1 rfl rfl rfl (fun _ => rfl) (by omega) <| E6 rfl rfl rfl ?_
  have hsg := hss.2 _ (Y2 (xs := ss) (i := i) (by omega))
  have hvl := Y9 hsg.2
  apply c5y rfl rfl
  ·apply B0
   ·exact B6 rfl
   apply B0
   ·exact B6 rfl
   exact C5
  ·exact c8g (ss.getD i default) y (by omega) hy
  ·exact ⟨rfl, rfl, rfl, of_decide_eq_true rfl, rfl⟩
  ·exact .inl rfl
  ·exact B1
  ·exact C0 rfl
  ·exact fun _ => rfl
  intro g16
  refine A4 ⟨nofun, _, kS [0,1,5,7,8,16] [] rfl, ?_⟩
  refine A9 rfl (fun hc => ?_) (fun hc => ?_)
  ·try simp only [SG, List.length_map] at hc
   refine A3 <| A0 <| A6 rfl rfl <| A5 rfl rfl rfl ?_
   refine A4 ⟨nofun, _, kS [4] [] rfl, ?_⟩
   refine B3 <| C9 rfl rfl trivial ?_
   rw [d5c (by omega) (by assumption) hne]
  try simp only [SG, List.length_map] at hc
  refine B9 <| A0 <| H9 rfl rfl (F9 (by omega)) <| A6 rfl rfl ?_
  refine A4 ⟨nofun, _, kS [0,1,7,8] [] rfl, ?_⟩
  refine ⟨i + 1, ⟨by omega, fun j hj => by rcases Nat.lt_succ_iff_lt_or_eq.1 hj with h | h; (· exact hne j h); (· subst h; assumption)⟩, (by omega), ⟨rfl, rfl, rfl, rfl, trivial⟩⟩
 try simp only [SG, List.length_map] at hc
 refine H3 <| A3 <| A0 <| A5 rfl rfl rfl ?_
 refine A4 ⟨nofun, _, kS [4] [] rfl, ?_⟩
 refine B3 <| C9 rfl rfl trivial ?_
 rw [d4x fun j hj => hne j (by omega)]
 rfl

theorem keep_s_ClipSt : G3 Tryz.f32 = [0, 2] := by kernel_rfl
set_option maxHeartbeats 20000000 in
theorem d1g (xs : List Stp) (hx : xs.length ≤ H4) : CW (cxT oG) 32 [.own 4 (xs.map stO)] = some (.own 4 (xs.map stO), []) := by
 refine G2 rfl Tryz.func32 rfl ⟨by kernel_rfl, rfl, of_decide_eq_true rfl, of_decide_eq_true rfl, by decide⟩ keep_s_ClipSt <| A3 <| A0 ?_
 (refine C3 rfl rfl (fun _ => rfl) ?_; intro g2)
 refine A4 ⟨nofun, _, kS [0] [0] rfl, ?_⟩
 refine A3 <| A0 <| A6 rfl rfl <| A6 rfl rfl <| K5 rfl rfl <| A6 rfl rfl <| K5 rfl rfl ?_
 refine c3t rfl rfl rfl rfl rfl rfl (fun hz => ?_) (fun hz => ?_)
 ·skip
  (refine C3 rfl rfl (fun _ => rfl) ?_; intro g2)
  refine A4 ⟨nofun, _, kS [2] [0,2] rfl, ?_⟩
  refine B3 <| O3 rfl rfl (by (simp; done)) (by rfl) trivial ?_
  (have h0 : xs = [] := (by simpa using hz); subst h0; rfl)
 skip
 (refine B4 rfl rfl (by (simp; done)) rfl (fun _ => (B2 (by exact A8 fun _ => rfl))) (fun _ => rfl) ?_; intro g2)
 refine A4 ⟨nofun, _, kS [2] [0,2] rfl, ?_⟩
 refine B3 <| O3 rfl rfl (by (simp; done)) (by exact A8 fun _ => rfl) trivial ?_
 rfl

theorem keep_s_shareI : G3 Tryz.f31 = [0, 1, 4, 5, 2, 6, 23, 22, 24, 21, 9, 8, 7, 10, 44, 15, 35] := by kernel_rfl
set_option maxHeartbeats 20000000 in
theorem c8t (t : Pl) (ss : List Stp) (hss : ss.length + t.sz ≤ 1000 ∧ ∀ s ∈ ss, stG s) (hgd : t.good) : CW (cxT oG) 31 [trK t, stL ss] = some (.tup [.own 4 ((shareP t ss).1.map stO), iV ((shareP t ss).2 : Nat)], []) := by
 obtain ⟨kk, hkk⟩ : ∃ kk : Nat, t.sz < kk := ⟨_, Nat.lt_succ_self _⟩
 revert t ss
 induction kk with
 | zero => intro t ss hss hgd hkk; exact absurd hkk (Nat.not_lt_zero _)
 | succ kk ih =>
  intro t ss hss hgd hkk
  refine G2 rfl Tryz.func31 rfl ⟨by kernel_rfl, rfl, of_decide_eq_true rfl, of_decide_eq_true rfl, by decide⟩ keep_s_shareI <| A3 <| A0 ?_
  rcases t with ns | w | ⟨w, p⟩ | ⟨w, p, q⟩ <;> rcases ss with _ | ⟨s0, sr⟩
  ·rw [c4y]
   skip
   refine a0q rfl rfl rfl (fun _ => B7 rfl) (fun _ => rfl) ?_
   intro g2
   (refine C3 rfl rfl (fun _ => rfl) ?_; intro g4)
   refine A5 rfl rfl rfl ?_
   refine A4 ⟨nofun, _, kS [1,2] [2] rfl, ?_⟩
   refine A3 <| A0 <| B5 rfl rfl (of_decide_eq_true rfl) rfl rfl <| C8 rfl rfl rfl rfl rfl rfl <| B5 rfl rfl (of_decide_eq_true rfl) rfl rfl <| C8 rfl rfl rfl rfl rfl rfl ?_
   apply C6 rfl
   ·apply B0
    ·exact B6 rfl
    exact C5
   ·exact a1y ns (by have := Y9 (show vd ns = true from hgd); omega)
   ·exact ⟨rfl, rfl, rfl, of_decide_eq_true rfl, rfl⟩
   ·exact .inl rfl
   ·exact B1
   ·exact K4
   ·(intro _; exact C1 (B2 (A8 fun _ => rfl)) rfl)
   intro g15
   simp only [List.length_map]
   refine J0 (fs := [_, iV (-1), iV (-1), _]) rfl rfl rfl rfl rfl <| F8 rfl (fun _ => B7 rfl) (fun _ => rfl) ?_
   intro g6
   refine H7 rfl rfl rfl rfl (F7 rfl (F7 rfl (F7 rfl (V2 (by decide) (by decide) rfl (by simp) fun _ => L7)))) (fun _ => rfl) ⟨by decide, rfl, of_decide_eq_true rfl, Nat.le_refl _⟩ (fun _ => rfl) (fun _ => rfl) (fun _ => C1 (by rfl) (C1 (B2 (A8 fun _ => rfl)) (by rfl))) ?_
   intro z
   simp only [L0, List.cons_append, List.nil_append]
   refine A4 ⟨fun _ => ⟨by (simp only [T7, List.nil_append, List.append_nil, List.map_cons, List.map_nil, List.cons_append]; decide +kernel), by decide +kernel⟩, [(.t 1, _), (.t 2, _), (.t 6, _), (.h 2, _), (.h 6, _), (.h 400006, _)], ⟨rfl, rfl, rfl, rfl, rfl, rfl, rfl, rfl, rfl, rfl, rfl, rfl, trivial⟩, ?_⟩
   refine A3 <| A0 <| B5 rfl rfl (of_decide_eq_true rfl) rfl rfl <| B5 rfl rfl (of_decide_eq_true rfl) rfl rfl <| O4 rfl rfl rfl rfl (fun _ => rfl) (fun _ => rfl) ?_
   intro g19
   refine B4 rfl rfl (by simp) rfl (fun _ => rfl) (fun _ => rfl) ?_
   intro g7
   refine A4 ⟨nofun, _, kS [1,2,6,7] [2,6,400006,7] rfl, ?_⟩
   refine A3 <| A3 <| A0 <| B5 rfl rfl (of_decide_eq_true rfl) rfl rfl <| C8 rfl rfl rfl rfl rfl rfl <| F4 rfl rfl <| A6 rfl rfl ?_
   refine A4 ⟨nofun, _, kS [1,6,7,21,22,23] [6,400006,7] rfl, ?_⟩
   refine D4 <| H5 <| A3 <| A0 <| I0 rfl rfl ?_
   refine A4 ⟨nofun, _, kS [1,6,7,21,22,23,24] [6,400006,7] rfl, ?_⟩
   refine A3 ?_
   refine A9 rfl (fun hc => absurd hc (by decide)) (fun hc => ?_)
   refine H3 <| A3 <| A0 <| A6 rfl rfl <| Q2 rfl rfl ?_
   apply C6 rfl
   ·apply B0
    ·exact c4q (of_decide_eq_true rfl)
    apply B0
    ·exact a2h rfl (a2d rfl (N1 (N1 (N1 (a5i rfl rfl (by simp) (fun _ => rfl) a5k)))) a2g)
    exact C5
   ·exact W3 [] ⟨by simp only [List.length_cons, List.length_nil] at *; omega, hss.2⟩ (M4 (.lst ns) (-1) (-1)) (by exact Nat.le_trans (Y9 (a0u hgd)) (by decide))
   ·exact ⟨rfl, rfl, rfl, of_decide_eq_true rfl, rfl⟩
   ·exact .inr ⟨rfl, rfl⟩
   ·exact B1
   ·exact C0 rfl
   ·exact fun _ => rfl
   intro g42
   refine A5 rfl rfl rfl ?_
   refine A4 ⟨nofun, _, kS [1,6,10] [6,400006] rfl, ?_⟩
   refine A3 <| A3 <| A0 <| A6 rfl rfl <| a4a rfl rfl ?_
   refine A4 ⟨nofun, _, kS [1,6,10,44] [6,400006] rfl, ?_⟩
   refine A9 rfl (fun hc => ?_) (fun hc => ?_)
   ·try simp only [SG, List.length_map] at hc
    refine A3 <| A0 <| A6 rfl rfl <| A6 rfl rfl ?_
    (refine C3 rfl rfl (fun _ => rfl) ?_; intro g4)
    refine A5 rfl rfl rfl ?_
    refine A4 ⟨nofun, _, kS [4,5] [4] rfl, ?_⟩
    refine B3 <| D6 (G4 rfl rfl (by simp) (by rfl) (E4 rfl rfl (E8 D3))) ?_
    obtain ⟨h1, h2, h3⟩ := a1r hc
    show _ = AV.tup [.own 4 ((stAdd (M4 (.lst ns) (-1) (-1)) []).map stO), iV (stIx (M4 (.lst ns) (-1) (-1)) [] : Nat)]
    rw [h2, ← h1]
    rfl
   try simp only [SG, List.length_map] at hc
   refine B9 <| A3 <| A0 <| A6 rfl rfl <| D5 rfl rfl rfl rfl rfl <| P9 (mk := 0) (fs := [_, _, _, _]) rfl rfl rfl (of_decide_eq_true rfl) rfl rfl (F7 rfl (F7 rfl (F7 rfl (a1t rfl (by simp) (X0 fun _ => rfl) rfl L7)))) (fun _ _ => C1 (by rfl) (C1 (B2 (by rfl)) (H8 rfl))) ?_
   intro z49 g49
   simp only [L0, List.cons_append, List.nil_append]
   rw [b0z]
   refine Q8 rfl rfl rfl (by simp) (by decide) rfl rfl rfl (of_decide_eq_true rfl) (fun _ => ⟨rfl, rfl⟩) (by simp only [H4]; (simp only [List.length_nil, List.length_cons, List.length_append, Nat.zero_add, List.length_map]; omega)) (fun _ => rfl) ?_
   intro g50
   refine A6 rfl rfl <| b5p rfl rfl ?_
   (refine B4 rfl rfl (by (simp; done)) rfl (fun _ => (B2 (by exact A8 fun _ => rfl))) (fun _ => rfl) ?_; intro g4)
   refine A5 rfl rfl rfl ?_
   refine A4 ⟨nofun, _, kS [4,5] [4] rfl, ?_⟩
   refine B3 <| D6 (G4 rfl rfl (by simp) (by rfl) (E4 rfl rfl (E8 D3))) ?_
   obtain ⟨h1, h2⟩ := a0e hc
   show _ = AV.tup [.own 4 ((stAdd (M4 (.lst ns) (-1) (-1)) []).map stO), iV (stIx (M4 (.lst ns) (-1) (-1)) [] : Nat)]
   rw [h1, h2]
   rfl
  ·rw [c4y]
   skip
   have hlc : (s0 :: sr).length = sr.length + 1 := rfl
   refine a0q rfl rfl rfl (fun _ => B7 rfl) (fun _ => rfl) ?_
   intro g2
   (refine C3 rfl rfl (fun _ => rfl) ?_; intro g4)
   refine A5 rfl rfl rfl ?_
   refine A4 ⟨nofun, _, kS [1,2] [1,2] rfl, ?_⟩
   refine A3 <| A0 <| B5 rfl rfl (of_decide_eq_true rfl) rfl rfl <| C8 rfl rfl rfl rfl rfl rfl <| B5 rfl rfl (of_decide_eq_true rfl) rfl rfl <| C8 rfl rfl rfl rfl rfl rfl ?_
   apply C6 rfl
   ·apply B0
    ·exact B6 rfl
    exact C5
   ·exact a1y ns (by have := Y9 (show vd ns = true from hgd); omega)
   ·exact ⟨rfl, rfl, rfl, of_decide_eq_true rfl, rfl⟩
   ·exact .inl rfl
   ·exact B1
   ·exact K4
   ·(intro _; exact C1 (B2 (A8 fun _ => rfl)) rfl)
   intro g15
   simp only [List.length_map]
   refine J0 (fs := [_, iV (-1), iV (-1), _]) rfl rfl rfl rfl rfl <| F8 rfl (fun _ => B7 rfl) (fun _ => rfl) ?_
   intro g6
   refine H7 rfl rfl rfl rfl (F7 rfl (F7 rfl (F7 rfl (V2 (by decide) (by decide) rfl (by simp) fun _ => L7)))) (fun _ => rfl) ⟨by decide, rfl, of_decide_eq_true rfl, Nat.le_refl _⟩ (fun _ => rfl) (fun _ => rfl) (fun _ => C1 (by rfl) (C1 (B2 (A8 fun _ => rfl)) (by rfl))) ?_
   intro z
   simp only [L0, List.cons_append, List.nil_append]
   refine A4 ⟨fun _ => ⟨by (simp only [T7, List.nil_append, List.append_nil, List.map_cons, List.map_nil, List.cons_append]; decide +kernel), by decide +kernel⟩, [(.t 1, _), (.t 2, _), (.t 6, _), (.h 1, _), (.h 2, _), (.h 6, _), (.h 400006, _)], ⟨rfl, rfl, rfl, rfl, rfl, rfl, rfl, rfl, rfl, rfl, rfl, rfl, rfl, rfl, trivial⟩, ?_⟩
   refine A3 <| A0 <| B5 rfl rfl (of_decide_eq_true rfl) rfl rfl <| B5 rfl rfl (of_decide_eq_true rfl) rfl rfl <| O4 rfl rfl rfl rfl (fun _ => rfl) (fun _ => rfl) ?_
   intro g19
   refine B4 rfl rfl (by simp) rfl (fun _ => rfl) (fun _ => rfl) ?_
   intro g7
   refine A4 ⟨nofun, _, kS [1,2,6,7] [1,2,6,400006,7] rfl, ?_⟩
   refine A3 <| A3 <| A0 <| B5 rfl rfl (of_decide_eq_true rfl) rfl rfl <| C8 rfl rfl rfl rfl rfl rfl <| F4 rfl rfl <| A6 rfl rfl ?_
   refine A4 ⟨nofun, _, kS [1,6,7,21,22,23] [1,6,400006,7] rfl, ?_⟩
   refine D4 <| H5 <| A3 <| A0 <| I0 rfl rfl ?_
   refine A4 ⟨nofun, _, kS [1,6,7,21,22,23,24] [1,6,400006,7] rfl, ?_⟩
   refine A3 ?_
   refine A9 rfl (fun hc => absurd hc (by decide)) (fun hc => ?_)
   refine H3 <| A3 <| A0 <| A6 rfl rfl <| Q2 rfl rfl ?_
   apply C6 rfl
   ·apply B0
    ·exact T1 rfl rfl rfl (by (simp; done))
    apply B0
    ·exact a2h rfl (a2d rfl (N1 (N1 (N1 (a5i rfl rfl (by simp) (fun _ => rfl) a5k)))) a2g)
    exact C5
   ·exact W3 (s0 :: sr) ⟨by simp only [List.length_cons, List.length_nil] at *; omega, hss.2⟩ (M4 (.lst ns) (-1) (-1)) (by exact Nat.le_trans (Y9 (a0u hgd)) (by decide))
   ·exact ⟨rfl, rfl, rfl, of_decide_eq_true rfl, rfl⟩
   ·exact .inr ⟨rfl, rfl⟩
   ·exact B1
   ·exact C0 rfl
   ·exact fun _ => rfl
   intro g42
   refine A5 rfl rfl rfl ?_
   refine A4 ⟨nofun, _, kS [1,6,10] [1,6,400006] rfl, ?_⟩
   refine A3 <| A3 <| A0 <| A6 rfl rfl <| a4a rfl rfl ?_
   refine A4 ⟨nofun, _, kS [1,6,10,44] [1,6,400006] rfl, ?_⟩
   refine A9 rfl (fun hc => ?_) (fun hc => ?_)
   ·try simp only [SG, List.length_map] at hc
    refine A3 <| A0 <| A6 rfl rfl <| A6 rfl rfl ?_
    (refine B4 rfl rfl (by (simp; done)) rfl (fun _ => (B2 (by exact A8 fun _ => rfl))) (fun _ => rfl) ?_; intro g4)
    refine A5 rfl rfl rfl ?_
    refine A4 ⟨nofun, _, kS [4,5] [4] rfl, ?_⟩
    refine B3 <| D6 (G4 rfl rfl (by simp) (by exact A8 fun _ => rfl) (E4 rfl rfl (E8 D3))) ?_
    obtain ⟨h1, h2, h3⟩ := a1r hc
    show _ = AV.tup [.own 4 ((stAdd (M4 (.lst ns) (-1) (-1)) (s0 :: sr)).map stO), iV (stIx (M4 (.lst ns) (-1) (-1)) (s0 :: sr) : Nat)]
    rw [h2, ← h1]
    rfl
   try simp only [SG, List.length_map] at hc
   refine B9 <| A3 <| A0 <| A6 rfl rfl <| D5 rfl rfl rfl rfl rfl <| P9 (mk := 0) (fs := [_, _, _, _]) rfl rfl rfl (of_decide_eq_true rfl) rfl rfl (F7 rfl (F7 rfl (F7 rfl (a1t rfl (by simp) (X0 fun _ => rfl) rfl L7)))) (fun _ _ => C1 (by rfl) (C1 (B2 (by rfl)) (H8 rfl))) ?_
   intro z49 g49
   simp only [L0, List.cons_append, List.nil_append]
   rw [b0z]
   refine H1 rfl rfl rfl rfl (by (simp; done)) (by simp) (by decide) rfl rfl rfl rfl (of_decide_eq_true rfl) (fun _ => ⟨rfl, rfl⟩) (by simp only [H4]; (simp only [List.length_nil, List.length_cons, List.length_append, Nat.zero_add, List.length_map]; omega)) (fun _ => rfl) ?_
   intro g50
   refine A6 rfl rfl <| K5 rfl rfl ?_
   (refine B4 rfl rfl (by (simp; done)) rfl (fun _ => (B2 (by exact A8 fun _ => rfl))) (fun _ => rfl) ?_; intro g4)
   refine A5 rfl rfl rfl ?_
   refine A4 ⟨nofun, _, kS [4,5] [4] rfl, ?_⟩
   refine B3 <| D6 (G4 rfl rfl (by simp) (by exact A8 fun _ => rfl) (E4 rfl rfl (E8 D3))) ?_
   obtain ⟨h1, h2⟩ := a0e hc
   show _ = AV.tup [.own 4 ((stAdd (M4 (.lst ns) (-1) (-1)) (s0 :: sr)).map stO), iV (stIx (M4 (.lst ns) (-1) (-1)) (s0 :: sr) : Nat)]
   rw [h1, h2]
   rfl
  ·rw [c4t]
   have hwl : w ≠ lW := hgd.1
   refine a0q rfl rfl rfl (fun _ => B7 rfl) (fun _ => rfl) ?_
   intro g2
   (refine C3 rfl rfl (fun _ => rfl) ?_; intro g4)
   refine A5 rfl rfl rfl ?_
   refine A4 ⟨nofun, _, kS [1,2] [2] rfl, ?_⟩
   refine A3 <| A0 <| B5 rfl rfl (of_decide_eq_true rfl) rfl rfl <| C8 rfl rfl rfl rfl rfl rfl <| B5 rfl rfl (of_decide_eq_true rfl) rfl rfl <| C8 rfl rfl rfl rfl rfl rfl ?_
   apply C6 rfl
   ·apply B0
    ·exact B6 rfl
    exact C5
   ·exact a1y [] (by decide)
   ·exact ⟨rfl, rfl, rfl, of_decide_eq_true rfl, rfl⟩
   ·exact .inl rfl
   ·exact B1
   ·exact K4
   ·exact fun _ => rfl
   intro g15
   simp only [List.length_map]
   refine J0 (fs := [_, iV (-1), iV (-1), _]) rfl rfl rfl rfl rfl <| F8 rfl (fun _ => B7 rfl) (fun _ => rfl) ?_
   intro g6
   refine H7 rfl rfl rfl rfl (F7 rfl (F7 rfl (F7 rfl (V2 (by decide) (by decide) rfl (by simp) fun _ => L7)))) (fun _ => rfl) ⟨by decide, rfl, of_decide_eq_true rfl, Nat.le_refl _⟩ (fun _ => rfl) (fun _ => rfl) (fun _ => C1 (by rfl) (C1 (B2 (A8 fun _ => rfl)) (by rfl))) ?_
   intro z
   simp only [L0, List.cons_append, List.nil_append]
   refine A4 ⟨fun _ => ⟨by (simp only [T7, List.nil_append, List.append_nil, List.map_cons, List.map_nil, List.cons_append]; decide +kernel), by decide +kernel⟩, [(.t 1, _), (.t 2, _), (.t 6, _), (.h 2, _), (.h 6, _), (.h 400006, _)], ⟨rfl, rfl, rfl, rfl, rfl, rfl, rfl, rfl, rfl, rfl, rfl, rfl, trivial⟩, ?_⟩
   refine A3 <| A0 <| B5 rfl rfl (of_decide_eq_true rfl) rfl rfl <| B5 rfl rfl (of_decide_eq_true rfl) rfl rfl <| O4 rfl rfl rfl rfl (fun _ => rfl) (fun _ => rfl) ?_
   intro g19
   refine B4 rfl rfl (by simp) rfl (fun _ => rfl) (fun _ => rfl) ?_
   intro g7
   refine A4 ⟨nofun, _, kS [1,2,6,7] [2,6,400006,7] rfl, ?_⟩
   refine A3 <| A3 <| A0 <| B5 rfl rfl (of_decide_eq_true rfl) rfl rfl <| C8 rfl rfl rfl rfl rfl rfl <| F4 rfl rfl <| A6 rfl rfl ?_
   refine A4 ⟨nofun, _, kS [1,6,7,21,22,23] [6,400006,7] rfl, ?_⟩
   refine D4 <| H5 <| A3 <| A0 <| I0 rfl rfl ?_
   refine A4 ⟨nofun, _, kS [1,6,7,21,22,23,24] [6,400006,7] rfl, ?_⟩
   refine A3 ?_
   refine A9 rfl (fun hc => absurd hc (by decide)) (fun hc => ?_)
   refine H3 <| A3 <| A0 <| A6 rfl rfl <| Q2 rfl rfl ?_
   apply C6 rfl
   ·apply B0
    ·exact c4q (of_decide_eq_true rfl)
    apply B0
    ·exact a2h rfl (a2d rfl (N1 (N1 (N1 (a5i rfl rfl (by simp) (fun _ => rfl) a5k)))) a2g)
    exact C5
   ·exact W3 [] ⟨by simp only [List.length_cons, List.length_nil] at *; omega, hss.2⟩ (M4 (.col w) (-1) (-1)) (by exact Nat.le_trans (Y9 (a0u hgd)) (by decide))
   ·exact ⟨rfl, rfl, rfl, of_decide_eq_true rfl, rfl⟩
   ·exact .inr ⟨rfl, rfl⟩
   ·exact B1
   ·exact C0 rfl
   ·exact fun _ => rfl
   intro g42
   refine A5 rfl rfl rfl ?_
   refine A4 ⟨nofun, _, kS [1,6,10] [6,400006] rfl, ?_⟩
   refine A3 <| A3 <| A0 <| A6 rfl rfl <| a4a rfl rfl ?_
   refine A4 ⟨nofun, _, kS [1,6,10,44] [6,400006] rfl, ?_⟩
   refine A9 rfl (fun hc => ?_) (fun hc => ?_)
   ·try simp only [SG, List.length_map] at hc
    refine A3 <| A0 <| A6 rfl rfl <| A6 rfl rfl ?_
    (refine C3 rfl rfl (fun _ => rfl) ?_; intro g4)
    refine A5 rfl rfl rfl ?_
    refine A4 ⟨nofun, _, kS [4,5] [4] rfl, ?_⟩
    refine B3 <| D6 (G4 rfl rfl (by simp) (by rfl) (E4 rfl rfl (E8 D3))) ?_
    obtain ⟨h1, h2, h3⟩ := a1r hc
    show _ = AV.tup [.own 4 ((stAdd (M4 (.col w) (-1) (-1)) []).map stO), iV (stIx (M4 (.col w) (-1) (-1)) [] : Nat)]
    rw [h2, ← h1]
    rfl
   try simp only [SG, List.length_map] at hc
   refine B9 <| A3 <| A0 <| A6 rfl rfl <| D5 rfl rfl rfl rfl rfl <| P9 (mk := 0) (fs := [_, _, _, _]) rfl rfl rfl (of_decide_eq_true rfl) rfl rfl (F7 rfl (F7 rfl (F7 rfl (a1t rfl (by simp) (X0 fun _ => rfl) rfl L7)))) (fun _ _ => C1 (by rfl) (C1 (B2 (by rfl)) (H8 rfl))) ?_
   intro z49 g49
   simp only [L0, List.cons_append, List.nil_append]
   rw [b0z]
   refine Q8 rfl rfl rfl (by simp) (by decide) rfl rfl rfl (of_decide_eq_true rfl) (fun _ => ⟨rfl, rfl⟩) (by simp only [H4]; (simp only [List.length_nil, List.length_cons, List.length_append, Nat.zero_add, List.length_map]; omega)) (fun _ => rfl) ?_
   intro g50
   refine A6 rfl rfl <| b5p rfl rfl ?_
   (refine B4 rfl rfl (by (simp; done)) rfl (fun _ => (B2 (by exact A8 fun _ => rfl))) (fun _ => rfl) ?_; intro g4)
   refine A5 rfl rfl rfl ?_
   refine A4 ⟨nofun, _, kS [4,5] [4] rfl, ?_⟩
   refine B3 <| D6 (G4 rfl rfl (by simp) (by rfl) (E4 rfl rfl (E8 D3))) ?_
   obtain ⟨h1, h2⟩ := a0e hc
   show _ = AV.tup [.own 4 ((stAdd (M4 (.col w) (-1) (-1)) []).map stO), iV (stIx (M4 (.col w) (-1) (-1)) [] : Nat)]
   rw [h1, h2]
   rfl
  ·rw [c4t]
   have hwl : w ≠ lW := hgd.1
   have hlc : (s0 :: sr).length = sr.length + 1 := rfl
   refine a0q rfl rfl rfl (fun _ => B7 rfl) (fun _ => rfl) ?_
   intro g2
   (refine C3 rfl rfl (fun _ => rfl) ?_; intro g4)
   refine A5 rfl rfl rfl ?_
   refine A4 ⟨nofun, _, kS [1,2] [1,2] rfl, ?_⟩
   refine A3 <| A0 <| B5 rfl rfl (of_decide_eq_true rfl) rfl rfl <| C8 rfl rfl rfl rfl rfl rfl <| B5 rfl rfl (of_decide_eq_true rfl) rfl rfl <| C8 rfl rfl rfl rfl rfl rfl ?_
   apply C6 rfl
   ·apply B0
    ·exact B6 rfl
    exact C5
   ·exact a1y [] (by decide)
   ·exact ⟨rfl, rfl, rfl, of_decide_eq_true rfl, rfl⟩
   ·exact .inl rfl
   ·exact B1
   ·exact K4
   ·exact fun _ => rfl
   intro g15
   simp only [List.length_map]
   refine J0 (fs := [_, iV (-1), iV (-1), _]) rfl rfl rfl rfl rfl <| F8 rfl (fun _ => B7 rfl) (fun _ => rfl) ?_
   intro g6
   refine H7 rfl rfl rfl rfl (F7 rfl (F7 rfl (F7 rfl (V2 (by decide) (by decide) rfl (by simp) fun _ => L7)))) (fun _ => rfl) ⟨by decide, rfl, of_decide_eq_true rfl, Nat.le_refl _⟩ (fun _ => rfl) (fun _ => rfl) (fun _ => C1 (by rfl) (C1 (B2 (A8 fun _ => rfl)) (by rfl))) ?_
   intro z
   simp only [L0, List.cons_append, List.nil_append]
   refine A4 ⟨fun _ => ⟨by (simp only [T7, List.nil_append, List.append_nil, List.map_cons, List.map_nil, List.cons_append]; decide +kernel), by decide +kernel⟩, [(.t 1, _), (.t 2, _), (.t 6, _), (.h 1, _), (.h 2, _), (.h 6, _), (.h 400006, _)], ⟨rfl, rfl, rfl, rfl, rfl, rfl, rfl, rfl, rfl, rfl, rfl, rfl, rfl, rfl, trivial⟩, ?_⟩
   refine A3 <| A0 <| B5 rfl rfl (of_decide_eq_true rfl) rfl rfl <| B5 rfl rfl (of_decide_eq_true rfl) rfl rfl <| O4 rfl rfl rfl rfl (fun _ => rfl) (fun _ => rfl) ?_
   intro g19
   refine B4 rfl rfl (by simp) rfl (fun _ => rfl) (fun _ => rfl) ?_
   intro g7
   refine A4 ⟨nofun, _, kS [1,2,6,7] [1,2,6,400006,7] rfl, ?_⟩
   refine A3 <| A3 <| A0 <| B5 rfl rfl (of_decide_eq_true rfl) rfl rfl <| C8 rfl rfl rfl rfl rfl rfl <| F4 rfl rfl <| A6 rfl rfl ?_
   refine A4 ⟨nofun, _, kS [1,6,7,21,22,23] [1,6,400006,7] rfl, ?_⟩
   refine D4 <| H5 <| A3 <| A0 <| I0 rfl rfl ?_
   refine A4 ⟨nofun, _, kS [1,6,7,21,22,23,24] [1,6,400006,7] rfl, ?_⟩
   refine A3 ?_
   refine A9 rfl (fun hc => absurd hc (by decide)) (fun hc => ?_)
   refine H3 <| A3 <| A0 <| A6 rfl rfl <| Q2 rfl rfl ?_
   apply C6 rfl
   ·apply B0
    ·exact T1 rfl rfl rfl (by (simp; done))
    apply B0
    ·exact a2h rfl (a2d rfl (N1 (N1 (N1 (a5i rfl rfl (by simp) (fun _ => rfl) a5k)))) a2g)
    exact C5
   ·exact W3 (s0 :: sr) ⟨by simp only [List.length_cons, List.length_nil] at *; omega, hss.2⟩ (M4 (.col w) (-1) (-1)) (by exact Nat.le_trans (Y9 (a0u hgd)) (by decide))
   ·exact ⟨rfl, rfl, rfl, of_decide_eq_true rfl, rfl⟩
   ·exact .inr ⟨rfl, rfl⟩
   ·exact B1
   ·exact C0 rfl
   ·exact fun _ => rfl
   intro g42
   refine A5 rfl rfl rfl ?_
   refine A4 ⟨nofun, _, kS [1,6,10] [1,6,400006] rfl, ?_⟩
   refine A3 <| A3 <| A0 <| A6 rfl rfl <| a4a rfl rfl ?_
   refine A4 ⟨nofun, _, kS [1,6,10,44] [1,6,400006] rfl, ?_⟩
   refine A9 rfl (fun hc => ?_) (fun hc => ?_)
   ·try simp only [SG, List.length_map] at hc
    refine A3 <| A0 <| A6 rfl rfl <| A6 rfl rfl ?_
    (refine B4 rfl rfl (by (simp; done)) rfl (fun _ => (B2 (by exact A8 fun _ => rfl))) (fun _ => rfl) ?_; intro g4)
    refine A5 rfl rfl rfl ?_
    refine A4 ⟨nofun, _, kS [4,5] [4] rfl, ?_⟩
    refine B3 <| D6 (G4 rfl rfl (by simp) (by exact A8 fun _ => rfl) (E4 rfl rfl (E8 D3))) ?_
    obtain ⟨h1, h2, h3⟩ := a1r hc
    show _ = AV.tup [.own 4 ((stAdd (M4 (.col w) (-1) (-1)) (s0 :: sr)).map stO), iV (stIx (M4 (.col w) (-1) (-1)) (s0 :: sr) : Nat)]
    rw [h2, ← h1]
    rfl
   try simp only [SG, List.length_map] at hc
   refine B9 <| A3 <| A0 <| A6 rfl rfl <| D5 rfl rfl rfl rfl rfl <| P9 (mk := 0) (fs := [_, _, _, _]) rfl rfl rfl (of_decide_eq_true rfl) rfl rfl (F7 rfl (F7 rfl (F7 rfl (a1t rfl (by simp) (X0 fun _ => rfl) rfl L7)))) (fun _ _ => C1 (by rfl) (C1 (B2 (by rfl)) (H8 rfl))) ?_
   intro z49 g49
   simp only [L0, List.cons_append, List.nil_append]
   rw [b0z]
   refine H1 rfl rfl rfl rfl (by (simp; done)) (by simp) (by decide) rfl rfl rfl rfl (of_decide_eq_true rfl) (fun _ => ⟨rfl, rfl⟩) (by simp only [H4]; (simp only [List.length_nil, List.length_cons, List.length_append, Nat.zero_add, List.length_map]; omega)) (fun _ => rfl) ?_
   intro g50
   refine A6 rfl rfl <| K5 rfl rfl ?_
   (refine B4 rfl rfl (by (simp; done)) rfl (fun _ => (B2 (by exact A8 fun _ => rfl))) (fun _ => rfl) ?_; intro g4)
   refine A5 rfl rfl rfl ?_
   refine A4 ⟨nofun, _, kS [4,5] [4] rfl, ?_⟩
   refine B3 <| D6 (G4 rfl rfl (by simp) (by exact A8 fun _ => rfl) (E4 rfl rfl (E8 D3))) ?_
   obtain ⟨h1, h2⟩ := a0e hc
   show _ = AV.tup [.own 4 ((stAdd (M4 (.col w) (-1) (-1)) (s0 :: sr)).map stO), iV (stIx (M4 (.col w) (-1) (-1)) (s0 :: sr) : Nat)]
   rw [h1, h2]
   rfl
  ·rw [d1f]
   have hwl : w ≠ lW := hgd.1
   have hs1 := P7 p []
   have hsz1 : (Pl.un w p).sz = p.sz + 1 := rfl
   refine a0q rfl rfl rfl (fun _ => B7 rfl) (fun _ => rfl) ?_
   intro g2
   (refine C3 rfl rfl (fun _ => rfl) ?_; intro g4)
   refine A5 rfl rfl rfl ?_
   refine A4 ⟨nofun, _, kS [1,2] [2] rfl, ?_⟩
   refine A3 <| A0 <| B5 rfl rfl (of_decide_eq_true rfl) rfl rfl <| C8 rfl rfl rfl rfl rfl rfl <| B5 rfl rfl (of_decide_eq_true rfl) rfl rfl <| C8 rfl rfl rfl rfl rfl rfl ?_
   apply C6 rfl
   ·apply B0
    ·exact B6 rfl
    exact C5
   ·exact a1y [] (by decide)
   ·exact ⟨rfl, rfl, rfl, of_decide_eq_true rfl, rfl⟩
   ·exact .inl rfl
   ·exact B1
   ·exact K4
   ·exact fun _ => rfl
   intro g15
   simp only [List.length_map]
   refine J0 (fs := [_, iV (-1), iV (-1), _]) rfl rfl rfl rfl rfl <| F8 rfl (fun _ => B7 rfl) (fun _ => rfl) ?_
   intro g6
   refine H7 rfl rfl rfl rfl (F7 rfl (F7 rfl (F7 rfl (V2 (by decide) (by decide) rfl (by simp) fun _ => L7)))) (fun _ => rfl) ⟨by decide, rfl, of_decide_eq_true rfl, Nat.le_refl _⟩ (fun _ => rfl) (fun _ => rfl) (fun _ => C1 (by rfl) (C1 (B2 (A8 fun _ => rfl)) (by rfl))) ?_
   intro z
   simp only [L0, List.cons_append, List.nil_append]
   refine A4 ⟨fun _ => ⟨by (simp only [T7, List.nil_append, List.append_nil, List.map_cons, List.map_nil, List.cons_append]; decide +kernel), by decide +kernel⟩, [(.t 1, _), (.t 2, _), (.t 6, _), (.h 2, _), (.h 6, _), (.h 400006, _)], ⟨rfl, rfl, rfl, rfl, rfl, rfl, rfl, rfl, rfl, rfl, rfl, rfl, trivial⟩, ?_⟩
   refine A3 <| A0 <| B5 rfl rfl (of_decide_eq_true rfl) rfl rfl <| B5 rfl rfl (of_decide_eq_true rfl) rfl rfl <| O4 rfl rfl rfl rfl (fun _ => rfl) (fun _ => rfl) ?_
   intro g19
   refine B4 rfl rfl (by simp) rfl (fun _ => rfl) (fun _ => rfl) ?_
   intro g7
   refine A4 ⟨nofun, _, kS [1,2,6,7] [2,6,400006,7] rfl, ?_⟩
   refine A3 <| A3 <| A0 <| B5 rfl rfl (of_decide_eq_true rfl) rfl rfl <| C8 rfl rfl rfl rfl rfl rfl <| F4 rfl rfl <| A6 rfl rfl ?_
   refine A4 ⟨nofun, _, kS [1,6,7,21,22,23] [6,400006,7] rfl, ?_⟩
   refine D4 <| H5 <| A3 <| A0 <| I0 rfl rfl ?_
   refine A4 ⟨nofun, _, kS [1,6,7,21,22,23,24] [6,400006,7] rfl, ?_⟩
   refine A3 ?_
   refine A9 rfl (fun hc => ?_) (fun hc => absurd hc (by exact fun h => Bool.noConfusion (show true = false from h)))
   refine B9 <| A3 <| D4 <| A3 <| A0 <| A6 rfl rfl <| J9 rfl rfl rfl (fun _ => rfl) (by show (0 : Int) ≤ 0 ∧ (0 : Int) < ((1 : Nat) : Int); omega) <| E6 rfl rfl rfl <| F8 rfl (fun _ => B7 rfl) (fun _ => rfl) ?_
   intro g9
   refine A5 rfl rfl rfl <| C7 rfl rfl rfl rfl ⟨by decide, rfl, of_decide_eq_true rfl, of_decide_eq_true rfl, rfl⟩ rfl (by exact B7 rfl) ?_
   refine A4 ⟨nofun, _, kS [1,6,7,8,9,21,22,23] [6,400006,7,9] rfl, ?_⟩
   refine A0 <| A6 rfl rfl <| A6 rfl rfl <| M3 rfl rfl rfl rfl (by (change 0 < _; omega)) (by (simp; done)) rfl <| V5 rfl rfl rfl rfl rfl <| D5 rfl rfl rfl rfl rfl <| A6 rfl rfl ?_
   apply C6 rfl
   ·apply B0
    ·exact B6 rfl
    apply B0
    ·exact b8d ⟨of_decide_eq_true rfl, of_decide_eq_true rfl⟩
    exact C5
   ·exact (by have hi := ih p [] ⟨by simp only [List.length_cons, List.length_nil] at *; omega, hss.2⟩ hgd.2.2 (by omega); rw [← W0] at hi; exact hi)
   ·exact ⟨rfl, rfl, rfl, of_decide_eq_true rfl, rfl⟩
   ·exact .inl rfl
   ·exact B1
   ·exact I1 (N7 fun _ => I9 rfl N6)
   ·exact fun _ => C1 (B2 (A8 fun _ => rfl)) (by rfl)
   intro g35
   simp only [List.length_map]
   refine A6 rfl rfl <| B8 rfl rfl rfl <| B8 rfl rfl rfl ?_
   (refine B4 rfl rfl (by (simp; done)) rfl (fun _ => (B2 (by exact A8 fun _ => rfl))) (fun _ => rfl) ?_; intro g1)
   refine J4 rfl rfl rfl <| a1s rfl rfl rfl rfl rfl ⟨by decide, rfl, of_decide_eq_true rfl, of_decide_eq_true rfl, rfl⟩ rfl ?_
   refine A4 ⟨fun _ => ⟨by (simp only [T7, List.nil_append, List.append_nil, List.map_cons, List.map_nil, List.cons_append]; decide +kernel), by decide +kernel⟩, [(.t 1, _), (.t 6, _), (.t 7, _), (.t 21, _), (.t 22, _), (.t 23, _), (.h 1, _), (.h 6, _), (.h 400006, _), (.h 7, _)], ⟨rfl, rfl, rfl, rfl, rfl, rfl, rfl, rfl, rfl, rfl, rfl, rfl, rfl, rfl, rfl, rfl, rfl, rfl, rfl, rfl, trivial⟩, ?_⟩
   refine A0 <| H9 rfl rfl (F9 (by omega)) <| A6 rfl rfl ?_
   refine A4 ⟨nofun, _, kS [1,6,7,21,22,23] [1,6,400006,7] rfl, ?_⟩
   refine H5 <| A3 <| A0 <| I0 rfl rfl ?_
   refine A4 ⟨nofun, _, kS [1,6,7,21,22,23,24] [1,6,400006,7] rfl, ?_⟩
   refine A3 ?_
   refine A9 rfl (fun hc => absurd hc (by exact fun h => Bool.noConfusion (show false = true from h))) (fun hc => ?_)
   refine H3 <| A3 <| A0 <| A6 rfl rfl <| Q2 rfl rfl ?_
   apply C6 rfl
   ·apply B0
    ·exact T1 rfl rfl rfl (by (simp; done))
    apply B0
    ·exact a2h rfl (a2d rfl (N1 (N1 (N1 (a5i rfl rfl (by simp) (fun _ => rfl) a5k)))) a2g)
    exact C5
   ·exact W3 (shareP p []).1 ⟨by simp only [List.length_cons, List.length_nil] at *; omega, (Y0 p _ hgd.2.2 hss.2)⟩ (M4 (.un w p) ((shareP p []).2 : Int) (-1)) (by exact Nat.le_trans (Y9 (a0u hgd)) (by decide))
   ·exact ⟨rfl, rfl, rfl, of_decide_eq_true rfl, rfl⟩
   ·exact .inr ⟨rfl, rfl⟩
   ·exact B1
   ·exact C0 rfl
   ·exact fun _ => rfl
   intro g42
   refine A5 rfl rfl rfl ?_
   refine A4 ⟨nofun, _, kS [1,6,10] [1,6,400006] rfl, ?_⟩
   refine A3 <| A3 <| A0 <| A6 rfl rfl <| a4a rfl rfl ?_
   refine A4 ⟨nofun, _, kS [1,6,10,44] [1,6,400006] rfl, ?_⟩
   refine A9 rfl (fun hc => ?_) (fun hc => ?_)
   ·try simp only [SG, List.length_map] at hc
    refine A3 <| A0 <| A6 rfl rfl <| A6 rfl rfl ?_
    (refine B4 rfl rfl (by (simp; done)) rfl (fun _ => (B2 (by exact A8 fun _ => rfl))) (fun _ => rfl) ?_; intro g4)
    refine A5 rfl rfl rfl ?_
    refine A4 ⟨nofun, _, kS [4,5] [4] rfl, ?_⟩
    refine B3 <| D6 (G4 rfl rfl (by simp) (by exact A8 fun _ => rfl) (E4 rfl rfl (E8 D3))) ?_
    obtain ⟨h1, h2, h3⟩ := a1r hc
    show _ = AV.tup [.own 4 ((stAdd (M4 (.un w p) ((shareP p []).2 : Int) (-1)) (shareP p []).1).map stO), iV (stIx (M4 (.un w p) ((shareP p []).2 : Int) (-1)) (shareP p []).1 : Nat)]
    rw [h2, ← h1]
    rfl
   try simp only [SG, List.length_map] at hc
   refine B9 <| A3 <| A0 <| A6 rfl rfl <| D5 rfl rfl rfl rfl rfl <| P9 (mk := 0) (fs := [_, _, _, _]) rfl rfl rfl (of_decide_eq_true rfl) rfl rfl (F7 rfl (F7 rfl (F7 rfl (a1t rfl (by simp) (X0 fun _ => rfl) rfl L7)))) (fun _ _ => C1 (by rfl) (C1 (B2 (by rfl)) (H8 rfl))) ?_
   intro z49 g49
   simp only [L0, List.cons_append, List.nil_append]
   rw [b0z]
   refine H1 rfl rfl rfl rfl (by (simp; done)) (by simp) (by decide) rfl rfl rfl rfl (of_decide_eq_true rfl) (fun _ => ⟨rfl, rfl⟩) (by simp only [H4]; (simp only [List.length_nil, List.length_cons, List.length_append, Nat.zero_add, List.length_map]; omega)) (fun _ => rfl) ?_
   intro g50
   refine A6 rfl rfl <| K5 rfl rfl ?_
   (refine B4 rfl rfl (by (simp; done)) rfl (fun _ => (B2 (by exact A8 fun _ => rfl))) (fun _ => rfl) ?_; intro g4)
   refine A5 rfl rfl rfl ?_
   refine A4 ⟨nofun, _, kS [4,5] [4] rfl, ?_⟩
   refine B3 <| D6 (G4 rfl rfl (by simp) (by exact A8 fun _ => rfl) (E4 rfl rfl (E8 D3))) ?_
   obtain ⟨h1, h2⟩ := a0e hc
   show _ = AV.tup [.own 4 ((stAdd (M4 (.un w p) ((shareP p []).2 : Int) (-1)) (shareP p []).1).map stO), iV (stIx (M4 (.un w p) ((shareP p []).2 : Int) (-1)) (shareP p []).1 : Nat)]
   rw [h1, h2]
   rfl
  ·rw [d1f]
   have hwl : w ≠ lW := hgd.1
   have hs1 := P7 p (s0 :: sr)
   have hsz1 : (Pl.un w p).sz = p.sz + 1 := rfl
   have hlc : (s0 :: sr).length = sr.length + 1 := rfl
   refine a0q rfl rfl rfl (fun _ => B7 rfl) (fun _ => rfl) ?_
   intro g2
   (refine C3 rfl rfl (fun _ => rfl) ?_; intro g4)
   refine A5 rfl rfl rfl ?_
   refine A4 ⟨nofun, _, kS [1,2] [1,2] rfl, ?_⟩
   refine A3 <| A0 <| B5 rfl rfl (of_decide_eq_true rfl) rfl rfl <| C8 rfl rfl rfl rfl rfl rfl <| B5 rfl rfl (of_decide_eq_true rfl) rfl rfl <| C8 rfl rfl rfl rfl rfl rfl ?_
   apply C6 rfl
   ·apply B0
    ·exact B6 rfl
    exact C5
   ·exact a1y [] (by decide)
   ·exact ⟨rfl, rfl, rfl, of_decide_eq_true rfl, rfl⟩
   ·exact .inl rfl
   ·exact B1
   ·exact K4
   ·exact fun _ => rfl
   intro g15
   simp only [List.length_map]
   refine J0 (fs := [_, iV (-1), iV (-1), _]) rfl rfl rfl rfl rfl <| F8 rfl (fun _ => B7 rfl) (fun _ => rfl) ?_
   intro g6
   refine H7 rfl rfl rfl rfl (F7 rfl (F7 rfl (F7 rfl (V2 (by decide) (by decide) rfl (by simp) fun _ => L7)))) (fun _ => rfl) ⟨by decide, rfl, of_decide_eq_true rfl, Nat.le_refl _⟩ (fun _ => rfl) (fun _ => rfl) (fun _ => C1 (by rfl) (C1 (B2 (A8 fun _ => rfl)) (by rfl))) ?_
   intro z
   simp only [L0, List.cons_append, List.nil_append]
   refine A4 ⟨fun _ => ⟨by (simp only [T7, List.nil_append, List.append_nil, List.map_cons, List.map_nil, List.cons_append]; decide +kernel), by decide +kernel⟩, [(.t 1, _), (.t 2, _), (.t 6, _), (.h 1, _), (.h 2, _), (.h 6, _), (.h 400006, _)], ⟨rfl, rfl, rfl, rfl, rfl, rfl, rfl, rfl, rfl, rfl, rfl, rfl, rfl, rfl, trivial⟩, ?_⟩
   refine A3 <| A0 <| B5 rfl rfl (of_decide_eq_true rfl) rfl rfl <| B5 rfl rfl (of_decide_eq_true rfl) rfl rfl <| O4 rfl rfl rfl rfl (fun _ => rfl) (fun _ => rfl) ?_
   intro g19
   refine B4 rfl rfl (by simp) rfl (fun _ => rfl) (fun _ => rfl) ?_
   intro g7
   refine A4 ⟨nofun, _, kS [1,2,6,7] [1,2,6,400006,7] rfl, ?_⟩
   refine A3 <| A3 <| A0 <| B5 rfl rfl (of_decide_eq_true rfl) rfl rfl <| C8 rfl rfl rfl rfl rfl rfl <| F4 rfl rfl <| A6 rfl rfl ?_
   refine A4 ⟨nofun, _, kS [1,6,7,21,22,23] [1,6,400006,7] rfl, ?_⟩
   refine D4 <| H5 <| A3 <| A0 <| I0 rfl rfl ?_
   refine A4 ⟨nofun, _, kS [1,6,7,21,22,23,24] [1,6,400006,7] rfl, ?_⟩
   refine A3 ?_
   refine A9 rfl (fun hc => ?_) (fun hc => absurd hc (by exact fun h => Bool.noConfusion (show true = false from h)))
   refine B9 <| A3 <| D4 <| A3 <| A0 <| A6 rfl rfl <| J9 rfl rfl rfl (fun _ => rfl) (by show (0 : Int) ≤ 0 ∧ (0 : Int) < ((1 : Nat) : Int); omega) <| E6 rfl rfl rfl <| F8 rfl (fun _ => B7 rfl) (fun _ => rfl) ?_
   intro g9
   refine A5 rfl rfl rfl <| C7 rfl rfl rfl rfl ⟨by decide, rfl, of_decide_eq_true rfl, of_decide_eq_true rfl, rfl⟩ rfl (by exact B7 rfl) ?_
   refine A4 ⟨nofun, _, kS [1,6,7,8,9,21,22,23] [1,6,400006,7,9] rfl, ?_⟩
   refine A0 <| A6 rfl rfl <| A6 rfl rfl <| M3 rfl rfl rfl rfl (by (change 0 < _; omega)) (by (simp; done)) rfl <| V5 rfl rfl rfl rfl rfl <| D5 rfl rfl rfl rfl rfl <| A6 rfl rfl ?_
   apply C6 rfl
   ·apply B0
    ·exact B6 rfl
    apply B0
    ·exact a3o rfl rfl (by (simp; done)) (A8 fun _ => rfl)
    exact C5
   ·exact (by have hi := ih p (s0 :: sr) ⟨by simp only [List.length_cons, List.length_nil] at *; omega, hss.2⟩ hgd.2.2 (by omega); rw [← W0] at hi; exact hi)
   ·exact ⟨rfl, rfl, rfl, of_decide_eq_true rfl, rfl⟩
   ·exact .inl rfl
   ·exact B1
   ·exact I1 (N7 fun _ => I9 rfl N6)
   ·exact fun _ => C1 (by rfl) (C1 (B2 (A8 fun _ => rfl)) (by rfl))
   intro g35
   simp only [List.length_map]
   refine A6 rfl rfl <| B8 rfl rfl rfl <| B8 rfl rfl rfl ?_
   (refine B4 rfl rfl (by (simp; done)) rfl (fun _ => (B2 (by exact A8 fun _ => rfl))) (fun _ => rfl) ?_; intro g1)
   refine J4 rfl rfl rfl <| a1s rfl rfl rfl rfl rfl ⟨by decide, rfl, of_decide_eq_true rfl, of_decide_eq_true rfl, rfl⟩ rfl ?_
   refine A4 ⟨fun _ => ⟨by (simp only [T7, List.nil_append, List.append_nil, List.map_cons, List.map_nil, List.cons_append]; decide +kernel), by decide +kernel⟩, [(.t 1, _), (.t 6, _), (.t 7, _), (.t 21, _), (.t 22, _), (.t 23, _), (.h 1, _), (.h 6, _), (.h 400006, _), (.h 7, _)], ⟨rfl, rfl, rfl, rfl, rfl, rfl, rfl, rfl, rfl, rfl, rfl, rfl, rfl, rfl, rfl, rfl, rfl, rfl, rfl, rfl, trivial⟩, ?_⟩
   refine A0 <| H9 rfl rfl (F9 (by omega)) <| A6 rfl rfl ?_
   refine A4 ⟨nofun, _, kS [1,6,7,21,22,23] [1,6,400006,7] rfl, ?_⟩
   refine H5 <| A3 <| A0 <| I0 rfl rfl ?_
   refine A4 ⟨nofun, _, kS [1,6,7,21,22,23,24] [1,6,400006,7] rfl, ?_⟩
   refine A3 ?_
   refine A9 rfl (fun hc => absurd hc (by exact fun h => Bool.noConfusion (show false = true from h))) (fun hc => ?_)
   refine H3 <| A3 <| A0 <| A6 rfl rfl <| Q2 rfl rfl ?_
   apply C6 rfl
   ·apply B0
    ·exact T1 rfl rfl rfl (by (simp; done))
    apply B0
    ·exact a2h rfl (a2d rfl (N1 (N1 (N1 (a5i rfl rfl (by simp) (fun _ => rfl) a5k)))) a2g)
    exact C5
   ·exact W3 (shareP p (s0 :: sr)).1 ⟨by simp only [List.length_cons, List.length_nil] at *; omega, (Y0 p _ hgd.2.2 hss.2)⟩ (M4 (.un w p) ((shareP p (s0 :: sr)).2 : Int) (-1)) (by exact Nat.le_trans (Y9 (a0u hgd)) (by decide))
   ·exact ⟨rfl, rfl, rfl, of_decide_eq_true rfl, rfl⟩
   ·exact .inr ⟨rfl, rfl⟩
   ·exact B1
   ·exact C0 rfl
   ·exact fun _ => rfl
   intro g42
   refine A5 rfl rfl rfl ?_
   refine A4 ⟨nofun, _, kS [1,6,10] [1,6,400006] rfl, ?_⟩
   refine A3 <| A3 <| A0 <| A6 rfl rfl <| a4a rfl rfl ?_
   refine A4 ⟨nofun, _, kS [1,6,10,44] [1,6,400006] rfl, ?_⟩
   refine A9 rfl (fun hc => ?_) (fun hc => ?_)
   ·try simp only [SG, List.length_map] at hc
    refine A3 <| A0 <| A6 rfl rfl <| A6 rfl rfl ?_
    (refine B4 rfl rfl (by (simp; done)) rfl (fun _ => (B2 (by exact A8 fun _ => rfl))) (fun _ => rfl) ?_; intro g4)
    refine A5 rfl rfl rfl ?_
    refine A4 ⟨nofun, _, kS [4,5] [4] rfl, ?_⟩
    refine B3 <| D6 (G4 rfl rfl (by simp) (by exact A8 fun _ => rfl) (E4 rfl rfl (E8 D3))) ?_
    obtain ⟨h1, h2, h3⟩ := a1r hc
    show _ = AV.tup [.own 4 ((stAdd (M4 (.un w p) ((shareP p (s0 :: sr)).2 : Int) (-1)) (shareP p (s0 :: sr)).1).map stO), iV (stIx (M4 (.un w p) ((shareP p (s0 :: sr)).2 : Int) (-1)) (shareP p (s0 :: sr)).1 : Nat)]
    rw [h2, ← h1]
    rfl
   try simp only [SG, List.length_map] at hc
   refine B9 <| A3 <| A0 <| A6 rfl rfl <| D5 rfl rfl rfl rfl rfl <| P9 (mk := 0) (fs := [_, _, _, _]) rfl rfl rfl (of_decide_eq_true rfl) rfl rfl (F7 rfl (F7 rfl (F7 rfl (a1t rfl (by simp) (X0 fun _ => rfl) rfl L7)))) (fun _ _ => C1 (by rfl) (C1 (B2 (by rfl)) (H8 rfl))) ?_
   intro z49 g49
   simp only [L0, List.cons_append, List.nil_append]
   rw [b0z]
   refine H1 rfl rfl rfl rfl (by (simp; done)) (by simp) (by decide) rfl rfl rfl rfl (of_decide_eq_true rfl) (fun _ => ⟨rfl, rfl⟩) (by simp only [H4]; (simp only [List.length_nil, List.length_cons, List.length_append, Nat.zero_add, List.length_map]; omega)) (fun _ => rfl) ?_
   intro g50
   refine A6 rfl rfl <| K5 rfl rfl ?_
   (refine B4 rfl rfl (by (simp; done)) rfl (fun _ => (B2 (by exact A8 fun _ => rfl))) (fun _ => rfl) ?_; intro g4)
   refine A5 rfl rfl rfl ?_
   refine A4 ⟨nofun, _, kS [4,5] [4] rfl, ?_⟩
   refine B3 <| D6 (G4 rfl rfl (by simp) (by exact A8 fun _ => rfl) (E4 rfl rfl (E8 D3))) ?_
   obtain ⟨h1, h2⟩ := a0e hc
   show _ = AV.tup [.own 4 ((stAdd (M4 (.un w p) ((shareP p (s0 :: sr)).2 : Int) (-1)) (shareP p (s0 :: sr)).1).map stO), iV (stIx (M4 (.un w p) ((shareP p (s0 :: sr)).2 : Int) (-1)) (shareP p (s0 :: sr)).1 : Nat)]
   rw [h1, h2]
   rfl
  ·rw [c5c]
   have hwl : w ≠ lW := hgd.1
   have hs1 := P7 p []
   have hs2 := P7 q (shareP p []).1
   have hsz1 : (Pl.bin w p q).sz = p.sz + q.sz + 1 := rfl
   refine a0q rfl rfl rfl (fun _ => B7 rfl) (fun _ => rfl) ?_
   intro g2
   (refine C3 rfl rfl (fun _ => rfl) ?_; intro g4)
   refine A5 rfl rfl rfl ?_
   refine A4 ⟨nofun, _, kS [1,2] [2] rfl, ?_⟩
   refine A3 <| A0 <| B5 rfl rfl (of_decide_eq_true rfl) rfl rfl <| C8 rfl rfl rfl rfl rfl rfl <| B5 rfl rfl (of_decide_eq_true rfl) rfl rfl <| C8 rfl rfl rfl rfl rfl rfl ?_
   apply C6 rfl
   ·apply B0
    ·exact B6 rfl
    exact C5
   ·exact a1y [] (by decide)
   ·exact ⟨rfl, rfl, rfl, of_decide_eq_true rfl, rfl⟩
   ·exact .inl rfl
   ·exact B1
   ·exact K4
   ·exact fun _ => rfl
   intro g15
   simp only [List.length_map]
   refine J0 (fs := [_, iV (-1), iV (-1), _]) rfl rfl rfl rfl rfl <| F8 rfl (fun _ => B7 rfl) (fun _ => rfl) ?_
   intro g6
   refine H7 rfl rfl rfl rfl (F7 rfl (F7 rfl (F7 rfl (V2 (by decide) (by decide) rfl (by simp) fun _ => L7)))) (fun _ => rfl) ⟨by decide, rfl, of_decide_eq_true rfl, Nat.le_refl _⟩ (fun _ => rfl) (fun _ => rfl) (fun _ => C1 (by rfl) (C1 (B2 (A8 fun _ => rfl)) (by rfl))) ?_
   intro z
   simp only [L0, List.cons_append, List.nil_append]
   refine A4 ⟨fun _ => ⟨by (simp only [T7, List.nil_append, List.append_nil, List.map_cons, List.map_nil, List.cons_append]; decide +kernel), by decide +kernel⟩, [(.t 1, _), (.t 2, _), (.t 6, _), (.h 2, _), (.h 6, _), (.h 400006, _)], ⟨rfl, rfl, rfl, rfl, rfl, rfl, rfl, rfl, rfl, rfl, rfl, rfl, trivial⟩, ?_⟩
   refine A3 <| A0 <| B5 rfl rfl (of_decide_eq_true rfl) rfl rfl <| B5 rfl rfl (of_decide_eq_true rfl) rfl rfl <| O4 rfl rfl rfl rfl (fun _ => rfl) (fun _ => rfl) ?_
   intro g19
   refine B4 rfl rfl (by simp) rfl (fun _ => rfl) (fun _ => rfl) ?_
   intro g7
   refine A4 ⟨nofun, _, kS [1,2,6,7] [2,6,400006,7] rfl, ?_⟩
   refine A3 <| A3 <| A0 <| B5 rfl rfl (of_decide_eq_true rfl) rfl rfl <| C8 rfl rfl rfl rfl rfl rfl <| F4 rfl rfl <| A6 rfl rfl ?_
   refine A4 ⟨nofun, _, kS [1,6,7,21,22,23] [6,400006,7] rfl, ?_⟩
   refine D4 <| H5 <| A3 <| A0 <| I0 rfl rfl ?_
   refine A4 ⟨nofun, _, kS [1,6,7,21,22,23,24] [6,400006,7] rfl, ?_⟩
   refine A3 ?_
   refine A9 rfl (fun hc => ?_) (fun hc => absurd hc (by exact fun h => Bool.noConfusion (show true = false from h)))
   refine B9 <| A3 <| D4 <| A3 <| A0 <| A6 rfl rfl <| J9 rfl rfl rfl (fun _ => rfl) (by show (0 : Int) ≤ 0 ∧ (0 : Int) < ((2 : Nat) : Int); omega) <| E6 rfl rfl rfl <| F8 rfl (fun _ => B7 rfl) (fun _ => rfl) ?_
   intro g9
   refine A5 rfl rfl rfl <| C7 rfl rfl rfl rfl ⟨by decide, rfl, of_decide_eq_true rfl, of_decide_eq_true rfl, rfl⟩ rfl (by exact B7 rfl) ?_
   refine A4 ⟨nofun, _, kS [1,6,7,8,9,21,22,23] [6,400006,7,9] rfl, ?_⟩
   refine A0 <| A6 rfl rfl <| A6 rfl rfl <| M3 rfl rfl rfl rfl (by (change 0 < _; omega)) (by (simp; done)) rfl <| V5 rfl rfl rfl rfl rfl <| D5 rfl rfl rfl rfl rfl <| A6 rfl rfl ?_
   apply C6 rfl
   ·apply B0
    ·exact B6 rfl
    apply B0
    ·exact b8d ⟨of_decide_eq_true rfl, of_decide_eq_true rfl⟩
    exact C5
   ·exact (by have hi := ih p [] ⟨by simp only [List.length_cons, List.length_nil] at *; omega, hss.2⟩ hgd.2.2.1 (by omega); rw [← W0] at hi; exact hi)
   ·exact ⟨rfl, rfl, rfl, of_decide_eq_true rfl, rfl⟩
   ·exact .inl rfl
   ·exact B1
   ·exact I1 (N7 fun _ => I9 rfl N6)
   ·exact fun _ => C1 (B2 (A8 fun _ => rfl)) (by rfl)
   intro g35
   simp only [List.length_map]
   refine A6 rfl rfl <| B8 rfl rfl rfl <| B8 rfl rfl rfl ?_
   (refine B4 rfl rfl (by (simp; done)) rfl (fun _ => (B2 (by exact A8 fun _ => rfl))) (fun _ => rfl) ?_; intro g1)
   refine J4 rfl rfl rfl <| a1s rfl rfl rfl rfl rfl ⟨by decide, rfl, of_decide_eq_true rfl, of_decide_eq_true rfl, rfl⟩ rfl ?_
   refine A4 ⟨fun _ => ⟨by (simp only [T7, List.nil_append, List.append_nil, List.map_cons, List.map_nil, List.cons_append]; decide +kernel), by decide +kernel⟩, [(.t 1, _), (.t 6, _), (.t 7, _), (.t 21, _), (.t 22, _), (.t 23, _), (.h 1, _), (.h 6, _), (.h 400006, _), (.h 7, _)], ⟨rfl, rfl, rfl, rfl, rfl, rfl, rfl, rfl, rfl, rfl, rfl, rfl, rfl, rfl, rfl, rfl, rfl, rfl, rfl, rfl, trivial⟩, ?_⟩
   refine A0 <| H9 rfl rfl (F9 (by omega)) <| A6 rfl rfl ?_
   refine A4 ⟨nofun, _, kS [1,6,7,21,22,23] [1,6,400006,7] rfl, ?_⟩
   refine H5 <| A3 <| A0 <| I0 rfl rfl ?_
   refine A4 ⟨nofun, _, kS [1,6,7,21,22,23,24] [1,6,400006,7] rfl, ?_⟩
   refine A3 ?_
   refine A9 rfl (fun hc => ?_) (fun hc => absurd hc (by exact fun h => Bool.noConfusion (show true = false from h)))
   refine B9 <| A3 <| D4 <| A3 <| A0 <| A6 rfl rfl <| J9 rfl rfl rfl (fun _ => rfl) (by show (0 : Int) ≤ 1 ∧ (1 : Int) < ((2 : Nat) : Int); omega) <| E6 rfl rfl rfl <| F8 rfl (fun _ => B7 rfl) (fun _ => rfl) ?_
   intro g9
   refine A5 rfl rfl rfl <| C7 rfl rfl rfl rfl ⟨by decide, rfl, of_decide_eq_true rfl, of_decide_eq_true rfl, rfl⟩ rfl (by exact B7 rfl) ?_
   refine A4 ⟨nofun, _, kS [1,6,7,8,9,21,22,23] [1,6,400006,7,9] rfl, ?_⟩
   refine A0 <| A6 rfl rfl <| A6 rfl rfl <| M3 rfl rfl rfl rfl (by (simp; done)) (by (simp; done)) rfl <| V5 rfl rfl rfl rfl rfl <| D5 rfl rfl rfl rfl rfl <| A6 rfl rfl ?_
   apply C6 rfl
   ·apply B0
    ·exact B6 rfl
    apply B0
    ·exact a3o rfl rfl (by (simp; done)) (A8 fun _ => rfl)
    exact C5
   ·exact (by have hi := ih q (shareP p []).1 ⟨by simp only [List.length_cons, List.length_nil] at *; omega, (Y0 p _ hgd.2.2.1 hss.2)⟩ hgd.2.2.2 (by omega); rw [← W0] at hi; rw [c8s (by omega)] at hi; exact hi)
   ·exact ⟨rfl, rfl, rfl, of_decide_eq_true rfl, rfl⟩
   ·exact .inl rfl
   ·exact B1
   ·exact I1 (N7 fun _ => I9 rfl N6)
   ·exact fun _ => C1 (by rfl) (C1 (B2 (A8 fun _ => rfl)) (by rfl))
   intro g35
   simp only [List.length_map]
   refine A6 rfl rfl <| B8 rfl rfl rfl <| B8 rfl rfl rfl ?_
   (refine B4 rfl rfl (by (simp; done)) rfl (fun _ => (B2 (by exact A8 fun _ => rfl))) (fun _ => rfl) ?_; intro g1)
   refine J4 rfl rfl rfl <| a1s rfl rfl rfl rfl rfl ⟨by decide, rfl, of_decide_eq_true rfl, of_decide_eq_true rfl, rfl⟩ rfl ?_
   refine A4 ⟨fun _ => ⟨by (simp only [T7, List.nil_append, List.append_nil, List.map_cons, List.map_nil, List.cons_append]; decide +kernel), by decide +kernel⟩, [(.t 1, _), (.t 6, _), (.t 7, _), (.t 21, _), (.t 22, _), (.t 23, _), (.h 1, _), (.h 6, _), (.h 400006, _), (.h 7, _)], ⟨rfl, rfl, rfl, rfl, rfl, rfl, rfl, rfl, rfl, rfl, rfl, rfl, rfl, rfl, rfl, rfl, rfl, rfl, rfl, rfl, trivial⟩, ?_⟩
   refine A0 <| H9 rfl rfl (F9 (by omega)) <| A6 rfl rfl ?_
   refine A4 ⟨nofun, _, kS [1,6,7,21,22,23] [1,6,400006,7] rfl, ?_⟩
   refine H5 <| A3 <| A0 <| I0 rfl rfl ?_
   refine A4 ⟨nofun, _, kS [1,6,7,21,22,23,24] [1,6,400006,7] rfl, ?_⟩
   refine A3 ?_
   refine A9 rfl (fun hc => absurd hc (by exact fun h => Bool.noConfusion (show false = true from h))) (fun hc => ?_)
   refine H3 <| A3 <| A0 <| A6 rfl rfl <| Q2 rfl rfl ?_
   apply C6 rfl
   ·apply B0
    ·exact T1 rfl rfl rfl (by (simp; done))
    apply B0
    ·exact a2h rfl (a2d rfl (N1 (N1 (N1 (a5i rfl rfl (by simp) (fun _ => rfl) a5k)))) a2g)
    exact C5
   ·exact W3 (shareP q (shareP p []).1).1 ⟨by simp only [List.length_cons, List.length_nil] at *; omega, (Y0 q _ hgd.2.2.2 (Y0 p _ hgd.2.2.1 hss.2))⟩ (M4 (.bin w p q) ((shareP p []).2 : Int) ((shareP q (shareP p []).1).2 : Int)) (by exact Nat.le_trans (Y9 (a0u hgd)) (by decide))
   ·exact ⟨rfl, rfl, rfl, of_decide_eq_true rfl, rfl⟩
   ·exact .inr ⟨rfl, rfl⟩
   ·exact B1
   ·exact C0 rfl
   ·exact fun _ => rfl
   intro g42
   refine A5 rfl rfl rfl ?_
   refine A4 ⟨nofun, _, kS [1,6,10] [1,6,400006] rfl, ?_⟩
   refine A3 <| A3 <| A0 <| A6 rfl rfl <| a4a rfl rfl ?_
   refine A4 ⟨nofun, _, kS [1,6,10,44] [1,6,400006] rfl, ?_⟩
   refine A9 rfl (fun hc => ?_) (fun hc => ?_)
   ·try simp only [SG, List.length_map] at hc
    refine A3 <| A0 <| A6 rfl rfl <| A6 rfl rfl ?_
    (refine B4 rfl rfl (by (simp; done)) rfl (fun _ => (B2 (by exact A8 fun _ => rfl))) (fun _ => rfl) ?_; intro g4)
    refine A5 rfl rfl rfl ?_
    refine A4 ⟨nofun, _, kS [4,5] [4] rfl, ?_⟩
    refine B3 <| D6 (G4 rfl rfl (by simp) (by exact A8 fun _ => rfl) (E4 rfl rfl (E8 D3))) ?_
    obtain ⟨h1, h2, h3⟩ := a1r hc
    show _ = AV.tup [.own 4 ((stAdd (M4 (.bin w p q) ((shareP p []).2 : Int) ((shareP q (shareP p []).1).2 : Int)) (shareP q (shareP p []).1).1).map stO), iV (stIx (M4 (.bin w p q) ((shareP p []).2 : Int) ((shareP q (shareP p []).1).2 : Int)) (shareP q (shareP p []).1).1 : Nat)]
    rw [h2, ← h1]
    rfl
   try simp only [SG, List.length_map] at hc
   refine B9 <| A3 <| A0 <| A6 rfl rfl <| D5 rfl rfl rfl rfl rfl <| P9 (mk := 0) (fs := [_, _, _, _]) rfl rfl rfl (of_decide_eq_true rfl) rfl rfl (F7 rfl (F7 rfl (F7 rfl (a1t rfl (by simp) (X0 fun _ => rfl) rfl L7)))) (fun _ _ => C1 (by rfl) (C1 (B2 (by rfl)) (H8 rfl))) ?_
   intro z49 g49
   simp only [L0, List.cons_append, List.nil_append]
   rw [b0z]
   refine H1 rfl rfl rfl rfl (by (simp; done)) (by simp) (by decide) rfl rfl rfl rfl (of_decide_eq_true rfl) (fun _ => ⟨rfl, rfl⟩) (by simp only [H4]; (simp only [List.length_nil, List.length_cons, List.length_append, Nat.zero_add, List.length_map]; omega)) (fun _ => rfl) ?_
   intro g50
   refine A6 rfl rfl <| K5 rfl rfl ?_
   (refine B4 rfl rfl (by (simp; done)) rfl (fun _ => (B2 (by exact A8 fun _ => rfl))) (fun _ => rfl) ?_; intro g4)
   refine A5 rfl rfl rfl ?_
   refine A4 ⟨nofun, _, kS [4,5] [4] rfl, ?_⟩
   refine B3 <| D6 (G4 rfl rfl (by simp) (by exact A8 fun _ => rfl) (E4 rfl rfl (E8 D3))) ?_
   obtain ⟨h1, h2⟩ := a0e hc
   show _ = AV.tup [.own 4 ((stAdd (M4 (.bin w p q) ((shareP p []).2 : Int) ((shareP q (shareP p []).1).2 : Int)) (shareP q (shareP p []).1).1).map stO), iV (stIx (M4 (.bin w p q) ((shareP p []).2 : Int) ((shareP q (shareP p []).1).2 : Int)) (shareP q (shareP p []).1).1 : Nat)]
   rw [h1, h2]
   rfl
  rw [c5c]
  have hwl : w ≠ lW := hgd.1
  have hs1 := P7 p (s0 :: sr)
  have hs2 := P7 q (shareP p (s0 :: sr)).1
  have hsz1 : (Pl.bin w p q).sz = p.sz + q.sz + 1 := rfl
  have hlc : (s0 :: sr).length = sr.length + 1 := rfl
  refine a0q rfl rfl rfl (fun _ => B7 rfl) (fun _ => rfl) ?_
  intro g2
  (refine C3 rfl rfl (fun _ => rfl) ?_; intro g4)
  refine A5 rfl rfl rfl ?_
  refine A4 ⟨nofun, _, kS [1,2] [1,2] rfl, ?_⟩
  refine A3 <| A0 <| B5 rfl rfl (of_decide_eq_true rfl) rfl rfl <| C8 rfl rfl rfl rfl rfl rfl <| B5 rfl rfl (of_decide_eq_true rfl) rfl rfl <| C8 rfl rfl rfl rfl rfl rfl ?_
  apply C6 rfl
  ·apply B0
   ·exact B6 rfl
   exact C5
  ·exact a1y [] (by decide)
  ·exact ⟨rfl, rfl, rfl, of_decide_eq_true rfl, rfl⟩
  ·exact .inl rfl
  ·exact B1
  ·exact K4
  ·exact fun _ => rfl
  intro g15
  simp only [List.length_map]
  refine J0 (fs := [_, iV (-1), iV (-1), _]) rfl rfl rfl rfl rfl <| F8 rfl (fun _ => B7 rfl) (fun _ => rfl) ?_
  intro g6
  refine H7 rfl rfl rfl rfl (F7 rfl (F7 rfl (F7 rfl (V2 (by decide) (by decide) rfl (by simp) fun _ => L7)))) (fun _ => rfl) ⟨by decide, rfl, of_decide_eq_true rfl, Nat.le_refl _⟩ (fun _ => rfl) (fun _ => rfl) (fun _ => C1 (by rfl) (C1 (B2 (A8 fun _ => rfl)) (by rfl))) ?_
  intro z
  simp only [L0, List.cons_append, List.nil_append]
  refine A4 ⟨fun _ => ⟨by (simp only [T7, List.nil_append, List.append_nil, List.map_cons, List.map_nil, List.cons_append]; decide +kernel), by decide +kernel⟩, [(.t 1, _), (.t 2, _), (.t 6, _), (.h 1, _), (.h 2, _), (.h 6, _), (.h 400006, _)], ⟨rfl, rfl, rfl, rfl, rfl, rfl, rfl, rfl, rfl, rfl, rfl, rfl, rfl, rfl, trivial⟩, ?_⟩
  refine A3 <| A0 <| B5 rfl rfl (of_decide_eq_true rfl) rfl rfl <| B5 rfl rfl (of_decide_eq_true rfl) rfl rfl <| O4 rfl rfl rfl rfl (fun _ => rfl) (fun _ => rfl) ?_
  intro g19
  refine B4 rfl rfl (by simp) rfl (fun _ => rfl) (fun _ => rfl) ?_
  intro g7
  refine A4 ⟨nofun, _, kS [1,2,6,7] [1,2,6,400006,7] rfl, ?_⟩
  refine A3 <| A3 <| A0 <| B5 rfl rfl (of_decide_eq_true rfl) rfl rfl <| C8 rfl rfl rfl rfl rfl rfl <| F4 rfl rfl <| A6 rfl rfl ?_
  refine A4 ⟨nofun, _, kS [1,6,7,21,22,23] [1,6,400006,7] rfl, ?_⟩
  refine D4 <| H5 <| A3 <| A0 <| I0 rfl rfl ?_
  refine A4 ⟨nofun, _, kS [1,6,7,21,22,23,24] [1,6,400006,7] rfl, ?_⟩
  refine A3 ?_
  refine A9 rfl (fun hc => ?_) (fun hc => absurd hc (by exact fun h => Bool.noConfusion (show true = false from h)))
  refine B9 <| A3 <| D4 <| A3 <| A0 <| A6 rfl rfl <| J9 rfl rfl rfl (fun _ => rfl) (by show (0 : Int) ≤ 0 ∧ (0 : Int) < ((2 : Nat) : Int); omega) <| E6 rfl rfl rfl <| F8 rfl (fun _ => B7 rfl) (fun _ => rfl) ?_
  intro g9
  refine A5 rfl rfl rfl <| C7 rfl rfl rfl rfl ⟨by decide, rfl, of_decide_eq_true rfl, of_decide_eq_true rfl, rfl⟩ rfl (by exact B7 rfl) ?_
  refine A4 ⟨nofun, _, kS [1,6,7,8,9,21,22,23] [1,6,400006,7,9] rfl, ?_⟩
  refine A0 <| A6 rfl rfl <| A6 rfl rfl <| M3 rfl rfl rfl rfl (by (change 0 < _; omega)) (by (simp; done)) rfl <| V5 rfl rfl rfl rfl rfl <| D5 rfl rfl rfl rfl rfl <| A6 rfl rfl ?_
  apply C6 rfl
  ·apply B0
   ·exact B6 rfl
   apply B0
   ·exact a3o rfl rfl (by (simp; done)) (A8 fun _ => rfl)
   exact C5
  ·exact (by have hi := ih p (s0 :: sr) ⟨by simp only [List.length_cons, List.length_nil] at *; omega, hss.2⟩ hgd.2.2.1 (by omega); rw [← W0] at hi; exact hi)
  ·exact ⟨rfl, rfl, rfl, of_decide_eq_true rfl, rfl⟩
  ·exact .inl rfl
  ·exact B1
  ·exact I1 (N7 fun _ => I9 rfl N6)
  ·exact fun _ => C1 (by rfl) (C1 (B2 (A8 fun _ => rfl)) (by rfl))
  intro g35
  simp only [List.length_map]
  refine A6 rfl rfl <| B8 rfl rfl rfl <| B8 rfl rfl rfl ?_
  (refine B4 rfl rfl (by (simp; done)) rfl (fun _ => (B2 (by exact A8 fun _ => rfl))) (fun _ => rfl) ?_; intro g1)
  refine J4 rfl rfl rfl <| a1s rfl rfl rfl rfl rfl ⟨by decide, rfl, of_decide_eq_true rfl, of_decide_eq_true rfl, rfl⟩ rfl ?_
  refine A4 ⟨fun _ => ⟨by (simp only [T7, List.nil_append, List.append_nil, List.map_cons, List.map_nil, List.cons_append]; decide +kernel), by decide +kernel⟩, [(.t 1, _), (.t 6, _), (.t 7, _), (.t 21, _), (.t 22, _), (.t 23, _), (.h 1, _), (.h 6, _), (.h 400006, _), (.h 7, _)], ⟨rfl, rfl, rfl, rfl, rfl, rfl, rfl, rfl, rfl, rfl, rfl, rfl, rfl, rfl, rfl, rfl, rfl, rfl, rfl, rfl, trivial⟩, ?_⟩
  refine A0 <| H9 rfl rfl (F9 (by omega)) <| A6 rfl rfl ?_
  refine A4 ⟨nofun, _, kS [1,6,7,21,22,23] [1,6,400006,7] rfl, ?_⟩
  refine H5 <| A3 <| A0 <| I0 rfl rfl ?_
  refine A4 ⟨nofun, _, kS [1,6,7,21,22,23,24] [1,6,400006,7] rfl, ?_⟩
  refine A3 ?_
  refine A9 rfl (fun hc => ?_) (fun hc => absurd hc (by exact fun h => Bool.noConfusion (show true = false from h)))
  refine B9 <| A3 <| D4 <| A3 <| A0 <| A6 rfl rfl <| J9 rfl rfl rfl (fun _ => rfl) (by show (0 : Int) ≤ 1 ∧ (1 : Int) < ((2 : Nat) : Int); omega) <| E6 rfl rfl rfl <| F8 rfl (fun _ => B7 rfl) (fun _ => rfl) ?_
  intro g9
  refine A5 rfl rfl rfl <| C7 rfl rfl rfl rfl ⟨by decide, rfl, of_decide_eq_true rfl, of_decide_eq_true rfl, rfl⟩ rfl (by exact B7 rfl) ?_
  refine A4 ⟨nofun, _, kS [1,6,7,8,9,21,22,23] [1,6,400006,7,9] rfl, ?_⟩
  refine A0 <| A6 rfl rfl <| A6 rfl rfl <| M3 rfl rfl rfl rfl (by (simp; done)) (by (simp; done)) rfl <| V5 rfl rfl rfl rfl rfl <| D5 rfl rfl rfl rfl rfl <| A6 rfl rfl ?_
  apply C6 rfl
  ·apply B0
   ·exact B6 rfl
   apply B0
   ·exact a3o rfl rfl (by (simp; done)) (A8 fun _ => rfl)
   exact C5
  ·exact (by have hi := ih q (shareP p (s0 :: sr)).1 ⟨by simp only [List.length_cons, List.length_nil] at *; omega, (Y0 p _ hgd.2.2.1 hss.2)⟩ hgd.2.2.2 (by omega); rw [← W0] at hi; rw [c8s (by omega)] at hi; exact hi)
  ·exact ⟨rfl, rfl, rfl, of_decide_eq_true rfl, rfl⟩
  ·exact .inl rfl
  ·exact B1
  ·exact I1 (N7 fun _ => I9 rfl N6)
  ·exact fun _ => C1 (by rfl) (C1 (B2 (A8 fun _ => rfl)) (by rfl))
  intro g35
  simp only [List.length_map]
  refine A6 rfl rfl <| B8 rfl rfl rfl <| B8 rfl rfl rfl ?_
  (refine B4 rfl rfl (by (simp; done)) rfl (fun _ => (B2 (by exact A8 fun _ => rfl))) (fun _ => rfl) ?_; intro g1)
  refine J4 rfl rfl rfl <| a1s rfl rfl rfl rfl rfl ⟨by decide, rfl, of_decide_eq_true rfl, of_decide_eq_true rfl, rfl⟩ rfl ?_
  refine A4 ⟨fun _ => ⟨by (simp only [T7, List.nil_append, List.append_nil, List.map_cons, List.map_nil, List.cons_append]; decide +kernel), by decide +kernel⟩, [(.t 1, _), (.t 6, _), (.t 7, _), (.t 21, _), (.t 22, _), (.t 23, _), (.h 1, _), (.h 6, _), (.h 400006, _), (.h 7, _)], ⟨rfl, rfl, rfl, rfl, rfl, rfl, rfl, rfl, rfl, rfl, rfl, rfl, rfl, rfl, rfl, rfl, rfl, rfl, rfl, rfl, trivial⟩, ?_⟩
  refine A0 <| H9 rfl rfl (F9 (by omega)) <| A6 rfl rfl ?_
  refine A4 ⟨nofun, _, kS [1,6,7,21,22,23] [1,6,400006,7] rfl, ?_⟩
  refine H5 <| A3 <| A0 <| I0 rfl rfl ?_
  refine A4 ⟨nofun, _, kS [1,6,7,21,22,23,24] [1,6,400006,7] rfl, ?_⟩
  refine A3 ?_
  refine A9 rfl (fun hc => absurd hc (by exact fun h => Bool.noConfusion (show false = true from h))) (fun hc => ?_)
  refine H3 <| A3 <| A0 <| A6 rfl rfl <| Q2 rfl rfl ?_
  apply C6 rfl
  ·apply B0
   ·exact T1 rfl rfl rfl (by (simp; done))
   apply B0
   ·exact a2h rfl (a2d rfl (N1 (N1 (N1 (a5i rfl rfl (by simp) (fun _ => rfl) a5k)))) a2g)
   exact C5
  ·exact W3 (shareP q (shareP p (s0 :: sr)).1).1 ⟨by simp only [List.length_cons, List.length_nil] at *; omega, (Y0 q _ hgd.2.2.2 (Y0 p _ hgd.2.2.1 hss.2))⟩ (M4 (.bin w p q) ((shareP p (s0 :: sr)).2 : Int) ((shareP q (shareP p (s0 :: sr)).1).2 : Int)) (by exact Nat.le_trans (Y9 (a0u hgd)) (by decide))
  ·exact ⟨rfl, rfl, rfl, of_decide_eq_true rfl, rfl⟩
  ·exact .inr ⟨rfl, rfl⟩
  ·exact B1
  ·exact C0 rfl
  ·exact fun _ => rfl
  intro g42
  refine A5 rfl rfl rfl ?_
  refine A4 ⟨nofun, _, kS [1,6,10] [1,6,400006] rfl, ?_⟩
  refine A3 <| A3 <| A0 <| A6 rfl rfl <| a4a rfl rfl ?_
  refine A4 ⟨nofun, _, kS [1,6,10,44] [1,6,400006] rfl, ?_⟩
  refine A9 rfl (fun hc => ?_) (fun hc => ?_)
  ·try simp only [SG, List.length_map] at hc
   refine A3 <| A0 <| A6 rfl rfl <| A6 rfl rfl ?_
   (refine B4 rfl rfl (by (simp; done)) rfl (fun _ => (B2 (by exact A8 fun _ => rfl))) (fun _ => rfl) ?_; intro g4)
   refine A5 rfl rfl rfl ?_
   refine A4 ⟨nofun, _, kS [4,5] [4] rfl, ?_⟩
   refine B3 <| D6 (G4 rfl rfl (by simp) (by exact A8 fun _ => rfl) (E4 rfl rfl (E8 D3))) ?_
   obtain ⟨h1, h2, h3⟩ := a1r hc
   show _ = AV.tup [.own 4 ((stAdd (M4 (.bin w p q) ((shareP p (s0 :: sr)).2 : Int) ((shareP q (shareP p (s0 :: sr)).1).2 : Int)) (shareP q (shareP p (s0 :: sr)).1).1).map stO), iV (stIx (M4 (.bin w p q) ((shareP p (s0 :: sr)).2 : Int) ((shareP q (shareP p (s0 :: sr)).1).2 : Int)) (shareP q (shareP p (s0 :: sr)).1).1 : Nat)]
   rw [h2, ← h1]
   rfl
  try simp only [SG, List.length_map] at hc
  refine B9 <| A3 <| A0 <| A6 rfl rfl <| D5 rfl rfl rfl rfl rfl <| P9 (mk := 0) (fs := [_, _, _, _]) rfl rfl rfl (of_decide_eq_true rfl) rfl rfl (F7 rfl (F7 rfl (F7 rfl (a1t rfl (by simp) (X0 fun _ => rfl) rfl L7)))) (fun _ _ => C1 (by rfl) (C1 (B2 (by rfl)) (H8 rfl))) ?_
  intro z49 g49
  simp only [L0, List.cons_append, List.nil_append]
  rw [b0z]
  refine H1 rfl rfl rfl rfl (by (simp; done)) (by simp) (by decide) rfl rfl rfl rfl (of_decide_eq_true rfl) (fun _ => ⟨rfl, rfl⟩) (by simp only [H4]; (simp only [List.length_nil, List.length_cons, List.length_append, Nat.zero_add, List.length_map]; omega)) (fun _ => rfl) ?_
  intro g50
  refine A6 rfl rfl <| K5 rfl rfl ?_
  (refine B4 rfl rfl (by (simp; done)) rfl (fun _ => (B2 (by exact A8 fun _ => rfl))) (fun _ => rfl) ?_; intro g4)
  refine A5 rfl rfl rfl ?_
  refine A4 ⟨nofun, _, kS [4,5] [4] rfl, ?_⟩
  refine B3 <| D6 (G4 rfl rfl (by simp) (by exact A8 fun _ => rfl) (E4 rfl rfl (E8 D3))) ?_
  obtain ⟨h1, h2⟩ := a0e hc
  show _ = AV.tup [.own 4 ((stAdd (M4 (.bin w p q) ((shareP p (s0 :: sr)).2 : Int) ((shareP q (shareP p (s0 :: sr)).1).2 : Int)) (shareP q (shareP p (s0 :: sr)).1).1).map stO), iV (stIx (M4 (.bin w p q) ((shareP p (s0 :: sr)).2 : Int) ((shareP q (shareP p (s0 :: sr)).1).2 : Int)) (shareP q (shareP p (s0 :: sr)).1).1 : Nat)]
  rw [h1, h2]
  rfl

theorem keep_s_SharePlanI : G3 Tryz.f12 = [0, 2, 4, 13, 3, 5, 9] := by kernel_rfl
set_option maxHeartbeats 20000000 in
theorem b8h (s : List UInt8) (hs : s.length ≤ 1048576) : CW (cxT oG) 12 [tV s] = some (.own 4 ((a0r s).map stO), []) := by
 refine G2 rfl Tryz.func12 rfl ⟨by kernel_rfl, rfl, of_decide_eq_true rfl, of_decide_eq_true rfl, by decide⟩ keep_s_SharePlanI <| A3 <| A0 ?_
 (refine C3 rfl rfl (fun _ => rfl) ?_; intro g2)
 refine A4 ⟨nofun, _, kS [0] [] rfl, ?_⟩
 refine A3 <| A0 <| A6 rfl rfl ?_
 apply C6 rfl
 ·apply B0
  ·exact B6 rfl
  exact C5
 ·exact a5f s hs
 ·exact ⟨rfl, rfl, rfl, of_decide_eq_true rfl, rfl⟩
 ·exact .inl rfl
 ·exact B1
 ·exact L4 rfl
 ·exact fun _ => rfl
 intro g9
 refine A6 rfl rfl <| B8 rfl rfl rfl <| B8 rfl rfl rfl <| F8 rfl (fun _ => B7 rfl) (fun _ => rfl) ?_
 intro g3
 refine C7 rfl rfl rfl rfl ⟨by decide, rfl, of_decide_eq_true rfl, of_decide_eq_true rfl, rfl⟩ rfl (by exact B7 rfl) <| A5 rfl rfl rfl ?_
 refine A4 ⟨nofun, _, kS [3,4] [3] rfl, ?_⟩
 refine A3 <| A3 <| A0 <| A6 rfl rfl <| Q0 rfl ?_
 refine A4 ⟨nofun, _, kS [3,13] [3] rfl, ?_⟩
 refine A9 rfl (fun hc => ?_) (fun hc => ?_)
 ·try simp only [SG, List.length_map] at hc
  refine A3 <| A0 ?_
  (refine C3 rfl rfl (fun _ => rfl) ?_; intro g2)
  refine A4 ⟨nofun, _, kS [2] [2] rfl, ?_⟩
  refine B3 <| O3 rfl rfl (by simp) (by rfl) trivial ?_
  rw [b7s hc]
  rfl
 try simp only [SG, List.length_map] at hc
 refine B9 <| A3 <| A0 <| D5 rfl rfl rfl rfl rfl ?_
 obtain ⟨t, ht1, ht2, ht3⟩ := a3h hc
 obtain ⟨hst, hwf, hgd, hsl, hsz⟩ := c4h ht1
 have hsl2 := P7 t []
 rw [c2f ht1, W0]
 apply C6 rfl
 ·apply B0
  ·exact B6 rfl
  apply B0
  ·exact b8d ⟨of_decide_eq_true rfl, of_decide_eq_true rfl⟩
  exact C5
 ·exact c8t t [] ⟨by simp only [List.length_nil]; omega, fun _ h => by cases h⟩ hgd
 ·exact ⟨rfl, rfl, rfl, of_decide_eq_true rfl, rfl⟩
 ·exact .inl rfl
 ·exact B1
 ·exact I1 (N7 fun _ => I9 rfl N6)
 ·exact fun _ => C1 (B2 (A8 fun _ => rfl)) (by rfl)
 intro g16
 simp only [List.length_map]
 refine A6 rfl rfl <| B8 rfl rfl rfl <| B8 rfl rfl rfl ?_
 (refine B4 rfl rfl (by (simp; done)) rfl (fun _ => (B2 (by exact A8 fun _ => rfl))) (fun _ => rfl) ?_; intro g5)
 refine A5 rfl rfl rfl ?_
 refine A4 ⟨nofun, _, kS [5] [5] rfl, ?_⟩
 refine A3 <| A0 <| A6 rfl rfl ?_
 apply C6 rfl
 ·apply B0
  ·exact a3o rfl rfl (by (simp; done)) (A8 fun _ => rfl)
  exact C5
 ·exact d1g (shareP t []).1 (by simp only [H4]; simp only [List.length_nil] at hsl2; omega)
 ·exact ⟨rfl, rfl, rfl, of_decide_eq_true rfl, rfl⟩
 ·exact .inl rfl
 ·exact B1
 ·exact K4
 ·exact fun _ => rfl
 intro g20
 simp only [List.length_map]
 (refine B4 rfl rfl (by (simp; done)) rfl (fun _ => (B2 (by exact A8 fun _ => rfl))) (fun _ => rfl) ?_; intro g2)
 refine A4 ⟨nofun, _, kS [2] [2] rfl, ?_⟩
 refine B3 <| O3 rfl rfl (by simp) (by exact A8 fun _ => rfl) trivial ?_
 rw [b6v ht1]

theorem keep_s_FnCostOf : G3 Tryz.f6 = [0, 2, 8, 3, 4, 20, 5] := by kernel_rfl
set_option maxHeartbeats 20000000 in
theorem c2w (bs : List Int) (hbs : a4d bs) : CW (cxT oG) 6 [.list (bs.map uV)] = some (bV true, []) := by
 refine G2 rfl Tryz.func6 rfl ⟨by kernel_rfl, rfl, of_decide_eq_true rfl, of_decide_eq_true rfl, by decide⟩ keep_s_FnCostOf <| A3 <| A0 <| A5 rfl rfl rfl ?_
 refine A4 ⟨nofun, _, kS [0] [] rfl, ?_⟩
 refine A3 <| A3 <| A0 <| A6 rfl rfl <| F4 rfl rfl <| a0b rfl rfl ?_
 refine A4 ⟨nofun, _, kS [0,8] [] rfl, ?_⟩
 refine A9 rfl (fun hc => ?_) (fun hc => ?_)
 ·try simp only [SG, List.length_map] at hc
  refine A3 <| A0 <| A5 rfl rfl rfl ?_
  refine A4 ⟨nofun, _, kS [2] [] rfl, ?_⟩
  refine B3 <| C9 rfl rfl trivial ?_
  rfl
 try simp only [SG, List.length_map] at hc
 refine B9 <| A3 <| A0 <| A6 rfl rfl ?_
 have hl2 : bs.length ≤ 1048576 := by omega
 obtain ⟨_, _, ⟨s, rfl, rfl, hs⟩, hC1⟩ := b7t (oG := oG) bs hbs hl2
 apply C6 rfl
 ·apply B0
  ·exact B6 rfl
  exact C5
 ·exact hC1
 ·exact ⟨rfl, rfl, rfl, of_decide_eq_true rfl, rfl⟩
 ·exact .inl rfl
 ·exact B1
 ·exact C0 rfl
 ·exact fun _ => rfl
 intro g10
 refine A5 rfl rfl rfl ?_
 refine A4 ⟨nofun, _, kS [3] [] rfl, ?_⟩
 refine A3 <| A0 <| A6 rfl rfl ?_
 apply C6 rfl
 ·apply B0
  ·exact B6 rfl
  exact C5
 ·exact c7m s (by omega)
 ·exact ⟨rfl, rfl, rfl, of_decide_eq_true rfl, rfl⟩
 ·exact .inl rfl
 ·exact B1
 ·exact C0 rfl
 ·exact fun _ => rfl
 intro g12
 refine A5 rfl rfl rfl ?_
 refine A4 ⟨nofun, _, kS [3,4] [] rfl, ?_⟩
 refine A3 <| A3 <| A0 <| A6 rfl rfl <| A6 rfl rfl ?_
 apply C6 rfl
 ·apply B0
  ·exact B6 rfl
  exact C5
 ·exact a9z s (by omega)
 ·exact ⟨rfl, rfl, rfl, of_decide_eq_true rfl, rfl⟩
 ·exact .inl rfl
 ·exact B1
 ·exact C0 rfl
 ·exact fun _ => rfl
 intro g15
 refine b9n rfl rfl <| A6 rfl rfl ?_
 refine E3 rfl rfl (fun hg0 => ?_) (fun hg0 => ?_)
 ·have hg := hg0; try simp only [SG] at hg
  refine A6 rfl rfl <| gT rfl rfl <| I0 rfl rfl <| G6 rfl (by assumption) rfl rfl ?_
  refine A4 ⟨nofun, _, kS [3,4,20] [] rfl, ?_⟩
  refine A9 rfl (fun hc => ?_) (fun hc => ?_)
  ·try simp only [SG, List.length_map] at hc
   refine A3 <| A0 <| A6 rfl rfl <| A6 rfl rfl ?_
   apply C6 rfl
   ·apply B0
    ·exact B6 rfl
    exact C5
   ·exact a9z s (by omega)
   ·exact ⟨rfl, rfl, rfl, of_decide_eq_true rfl, rfl⟩
   ·exact .inl rfl
   ·exact B1
   ·exact C0 rfl
   ·exact fun _ => rfl
   intro g23
   refine S4 rfl rfl <| A5 rfl rfl rfl ?_
   refine A4 ⟨nofun, _, kS [2] [] rfl, ?_⟩
   refine B3 <| C9 rfl rfl trivial ?_
   exact congrArg bV (decide_eq_true (by omega))
  try simp only [SG, List.length_map] at hc
  have hc16 := c7a s
  obtain ⟨hw1, hw2, hw3⟩ := c6m (s := s) (by omega)
  refine B9 <| A3 <| A0 <| A6 rfl rfl ?_
  apply C6 rfl
  ·apply B0
   ·exact B6 rfl
   exact C5
  ·exact c7j s (by omega)
  ·exact ⟨rfl, rfl, rfl, of_decide_eq_true rfl, rfl⟩
  ·exact .inl rfl
  ·exact B1
  ·exact K4
  ·exact fun _ => rfl
  intro g26
  simp only [List.length_map]
  refine K5 rfl rfl <| A5 rfl rfl rfl ?_
  refine A4 ⟨nofun, _, kS [3,4,5] [] rfl, ?_⟩
  refine A3 <| A0 <| A6 rfl rfl <| A6 rfl rfl <| a4a rfl rfl <| A6 rfl rfl ?_
  refine E3 rfl rfl (fun hg0 => ?_) (fun hg0 => ?_)
  ·have hg := hg0; try simp only [SG] at hg
   refine A6 rfl rfl <| gT rfl rfl <| A6 rfl rfl <| gT rfl rfl <| a8k rfl rfl (F9 (by omega)) <| gT rfl rfl <| a8p rfl rfl <| G7 rfl (by assumption) rfl rfl <| A6 rfl rfl ?_
   refine E3 rfl rfl (fun hg0 => ?_) (fun hg0 => ?_)
   ·have hg := hg0; try simp only [SG] at hg
    refine A6 rfl rfl <| gT rfl rfl ?_
    apply C6 rfl
    ·apply B0
     ·exact B6 rfl
     exact C5
    ·exact b8h s (by omega)
    ·exact ⟨rfl, rfl, rfl, of_decide_eq_true rfl, rfl⟩
    ·exact .inl rfl
    ·exact B1
    ·exact K4
    ·exact fun _ => rfl
    intro g39
    simp only [List.length_map]
    refine gT rfl rfl <| K5 rfl rfl <| gT rfl rfl <| A6 rfl rfl <| gT rfl rfl <| a8p rfl rfl <| G7 rfl (by assumption) rfl rfl <| A5 rfl rfl rfl ?_
    refine A4 ⟨nofun, _, kS [2] [] rfl, ?_⟩
    refine B3 <| C9 rfl rfl trivial ?_
    exact congrArg bV (decide_eq_true (by omega))
   have hg := hg0; try simp only [SG] at hg
   refine gF rfl rfl <| gF rfl rfl <| gF rfl rfl <| gF rfl rfl <| G6 rfl (by assumption) rfl rfl <| A5 rfl rfl rfl ?_
   refine A4 ⟨nofun, _, kS [2] [] rfl, ?_⟩
   refine B3 <| C9 rfl rfl trivial ?_
   (exfalso; omega)
  have hg := hg0; try simp only [SG] at hg
  refine gF rfl rfl <| gF rfl rfl <| gF rfl rfl <| G6 rfl (by assumption) rfl rfl <| A6 rfl rfl <| F0 rfl rfl rfl <| F0 rfl rfl rfl <| F0 rfl rfl rfl <| F0 rfl rfl rfl <| F0 rfl rfl rfl <| G6 rfl rfl rfl rfl <| A5 rfl rfl rfl ?_
  refine A4 ⟨nofun, _, kS [2] [] rfl, ?_⟩
  refine B3 <| C9 rfl rfl trivial ?_
  (exfalso; omega)
 have hg := hg0; try simp only [SG] at hg
 refine gF rfl rfl <| G7 rfl (by assumption) rfl rfl ?_
 refine A4 ⟨nofun, _, kS [3,4,20] [] rfl, ?_⟩
 refine A9 rfl (fun hc => ?_) (fun hc => absurd hc (by decide))
 refine A3 <| A0 <| A6 rfl rfl <| A6 rfl rfl ?_
 apply C6 rfl
 ·apply B0
  ·exact B6 rfl
  exact C5
 ·exact a9z s (by omega)
 ·exact ⟨rfl, rfl, rfl, of_decide_eq_true rfl, rfl⟩
 ·exact .inl rfl
 ·exact B1
 ·exact C0 rfl
 ·exact fun _ => rfl
 intro g23
 refine S4 rfl rfl <| A5 rfl rfl rfl ?_
 refine A4 ⟨nofun, _, kS [2] [] rfl, ?_⟩
 refine B3 <| C9 rfl rfl trivial ?_
 exact congrArg bV (decide_eq_true (by omega))
end Go.Proofs.YtpjgdgnaeohmeaaGreatDoor
