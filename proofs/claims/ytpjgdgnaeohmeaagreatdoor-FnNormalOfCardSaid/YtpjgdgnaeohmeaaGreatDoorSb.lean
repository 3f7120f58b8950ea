/- What each function of the program gives on the abstract machine, part 2 of 2. Conditions: those in front of each theorem. -/
import Derived.Test.YtpjgdgnaeohmeaaGreatDoorSa
import Derived.KernelRfl

set_option linter.unusedVariables false
set_option linter.unusedSimpArgs false
namespace Go.Proofs.YtpjgdgnaeohmeaaGreatDoor
open Go Go.Mv Go.Proofs
set_option maxRecDepth 100000
variable {oG : Option Nat} {rG : Nat}

theorem keep_s_planText : G3 Tryz.f44 = [0, 1, 4, 15, 18, 6, 5, 29, 42, 7, 50, 8] := by kernel_rfl
set_option maxHeartbeats 20000000 in
theorem c5z (bs : List Int) (p : Int) (d : Nat) (hbs : a3m bs) (hl : bs.length ≤ 1048576) (hp : 0 ≤ p ∧ p + gN d ≤ 50000000)  (hd : d ≤ 5) : ∃ res outs, (fun res outs => ∃ (x : W8) (q : Int), res = tV x ∧ outs = [[rdr bs q]] ∧ p ≤ q ∧ q ≤ p + gN d ∧ x.length ≤ lN d) res outs ∧ CW (cxT oG) 44 [.ownp [rdr bs p] 0 0, iV d] = some (res, outs) := by
 obtain ⟨kk, hkk⟩ : ∃ kk : Nat, d < kk := ⟨_, Nat.lt_succ_self _⟩
 revert bs p d
 induction kk with
 | zero => intro bs p d hbs hl hp hd hkk; exact absurd hkk (Nat.not_lt_zero _)
 | succ kk ih =>
  intro bs p d hbs hl hp hd hkk
  have hgd := b8s d
  have hld := c5v d
  refine S5 rfl Tryz.func44 rfl ⟨by kernel_rfl, rfl, of_decide_eq_true rfl, of_decide_eq_true rfl, by decide⟩ keep_s_planText <| A3 <| A0 <| A4 rfl rfl rfl ?_
  refine A5 ⟨nofun, _, kS [0,1] [0] rfl, ?_⟩
  refine A3 <| A3 <| A0 <| A6 rfl rfl <| P7 rfl rfl <| A6 rfl rfl ?_
  refine D7 rfl rfl (fun hg0 => ?_) (fun hg0 => ?_)
  ·have hg := hg0; try simp only [SG] at hg
   refine A6 rfl rfl <| gT rfl rfl ?_
   obtain ⟨_, _, ⟨k0, rfl, rfl, hk0, -⟩, hC0⟩ := a0e (oG := oG) bs (p) hbs hl (by omega) (5) (by omega)
   have hk0 := hk0 (by omega)
   apply C7 rfl
   ·apply B0
    ·exact K4 rfl (by decide) rfl
    apply B0
    ·exact B4 rfl
    exact C6
   ·exact hC0
   ·exact ⟨rfl, rfl, rfl, of_decide_eq_true rfl, rfl⟩
   ·exact .inl rfl
   ·exact G8 rfl rfl rfl B2
   ·exact C1 rfl
   ·exact fun _ => rfl
   intro g13
   refine gT rfl rfl <| P7 rfl rfl <| F7 rfl (by assumption) rfl rfl ?_
   refine A5 ⟨nofun, _, kS [0,1,15] [0] rfl, ?_⟩
   refine A8 rfl (fun hc => ?_) (fun hc => ?_)
   ·try simp only [SG, List.length_map] at hc
    refine A3 <| A3 <| A0 <| A6 rfl rfl ?_
    obtain ⟨_, _, ⟨k1, rfl, rfl, hk1, -⟩, hC1⟩ := a0e (oG := oG) bs (p + 1) hbs hl (by omega) (2) (by omega)
    have hk1 := hk1 (by omega)
    apply C7 rfl
    ·apply B0
     ·exact K4 rfl (by decide) rfl
     apply B0
     ·exact B4 rfl
     exact C6
    ·exact hC1
    ·exact ⟨rfl, rfl, rfl, of_decide_eq_true rfl, rfl⟩
    ·exact .inl rfl
    ·exact G8 rfl rfl rfl B2
    ·exact C1 rfl
    ·exact fun _ => rfl
    intro g17
    refine P7 rfl rfl ?_
    refine A5 ⟨nofun, _, kS [0,18] [0] rfl, ?_⟩
    refine A8 rfl (fun hc => ?_) (fun hc => ?_)
    ·try simp only [SG, List.length_map] at hc
     refine A3 <| A0 <| A6 rfl rfl <| D3 (es := List.map tV [[97], [98], [97], [99], [100]]) rfl rfl (of_decide_eq_true rfl) rfl rfl (fun _ => B1 (A9 fun _ => rfl)) (fun _ => rfl) ?_
     intro g20
     obtain ⟨_, _, ⟨w1, rfl, rfl, hw1⟩, hC2⟩ := b0o (oG := oG) bs (p + 1 + 1) hbs hl (by omega) [[97], [98], [97], [99], [100]] (by decide)
     have hw1b : w1.length ≤ 1 := by have hall : ∀ x ∈ ([[97], [98], [97], [99], [100]] : List W8), x.length ≤ 1 := (by decide); exact hall _ hw1
     apply C7 rfl
     ·apply B0
      ·exact K4 rfl (by decide) rfl
      apply B0
      ·exact I4 rfl rfl (by (simp; done)) (fun _ => rfl)
      exact C6
     ·exact hC2
     ·exact ⟨rfl, rfl, rfl, of_decide_eq_true rfl, rfl⟩
     ·exact .inl rfl
     ·exact G8 rfl rfl rfl B2
     ·exact C1 rfl
     ·exact fun _ => rfl
     intro g21
     refine A4 rfl rfl rfl ?_
     refine A5 ⟨nofun, _, kS [4] [0] rfl, ?_⟩
     refine B3 ?_
     refine ⟨_, _, ?_, J2 rfl rfl (I8 rfl rfl)⟩
     exact ⟨_, _, rfl, rfl, by omega, by omega, by omega⟩
    try simp only [SG, List.length_map] at hc
    refine B9 <| A3 <| A0 <| D3 (es := List.map iV []) rfl rfl (of_decide_eq_true rfl) rfl rfl (fun _ => B1 (A9 fun _ => rfl)) (fun _ => rfl) ?_
    intro g22
    (refine B6 rfl rfl (by (simp; done)) rfl (fun _ => (B1 (by exact A9 fun _ => rfl))) (fun _ => rfl) ?_; intro g5)
    refine A5 ⟨nofun, _, kS [0,5] [0,5] rfl, ?_⟩
    refine A3 <| A3 <| A0 <| A6 rfl rfl <| D3 (es := List.map iV [2, 3, 1, 0, 4]) rfl rfl (of_decide_eq_true rfl) rfl rfl (fun _ => B1 (A9 fun _ => rfl)) (fun _ => rfl) ?_
    intro g24
    obtain ⟨_, _, ⟨n1, rfl, rfl, hn1⟩, hC3⟩ := d3i (oG := oG) bs (p + 1 + 1) hbs hl (by omega) [2, 3, 1, 0, 4] (by decide)
    have hn1b : 0 ≤ n1 ∧ n1 ≤ 4 := by simp at hn1; omega
    apply C7 rfl
    ·apply B0
     ·exact K4 rfl (by decide) rfl
     apply B0
     ·exact I4 rfl rfl (by (simp; done)) (fun _ => rfl)
     exact C6
    ·exact hC3
    ·exact ⟨rfl, rfl, rfl, of_decide_eq_true rfl, rfl⟩
    ·exact .inl rfl
    ·exact G8 rfl rfl rfl B2
    ·exact C1 rfl
    ·exact fun _ => rfl
    intro g25
    refine A4 rfl rfl rfl ?_
    refine A5 ⟨nofun, _, kS [0,5,6] [0,5] rfl, ?_⟩
    refine E3 <| J8 (β := List Int × Nat × Int) [(.t 0, _), (.t 6, _)] (fun (z : List Int × Nat × Int) => match z with | (xs, g, q) => [(.h 0, .obj 1 4 0 [rdr bs q]), (.t 5, .sl 5 g none 0 xs.length), (.h 5, .obj g 0 1 (xs.map iV))]) (fun (z : List Int × Nat × Int) => match z with | (xs, g, q) => (xs.length : Int) ≤ n1 ∧ p ≤ q ∧ q ≤ p + 4 + xs.length ∧ ∀ x ∈ xs, -20 ≤ x ∧ x ≤ 20) (fun (z : List Int × Nat × Int) => match z with | (xs, g, q) => 5 - xs.length) ([], _, _) ⟨rfl, rfl, rfl, rfl, rfl, trivial⟩ ⟨by simp; omega, by omega, by omega, by simp⟩ ?_
    intro z hb
    obtain ⟨xs, g, q⟩ := z
    try dsimp only at hb
    obtain ⟨hx1, hq1, hq2, hxb⟩ := hb
    refine A3 <| A3 <| A0 <| A6 rfl rfl <| M3 rfl rfl <| A6 rfl rfl <| K8 rfl rfl ?_
    refine A5 ⟨nofun, _, kS [0,5,6,29] [0,5] rfl, ?_⟩
    refine A8 rfl (fun hc => ?_) (fun hc => ?_)
    ·try simp only [SG, List.length_map] at hc
     refine B9 <| E3 <| A0 <| A6 rfl rfl <| A6 rfl rfl ?_
     obtain ⟨_, _, ⟨k2, rfl, rfl, hk2, -⟩, hC4⟩ := a0e (oG := oG) bs (q) hbs hl (by omega) (41) (by omega)
     have hk2 := hk2 (by omega)
     apply C7 rfl
     ·apply B0
      ·exact K4 rfl (by decide) rfl
      apply B0
      ·exact B4 rfl
      exact C6
     ·exact hC4
     ·exact ⟨rfl, rfl, rfl, of_decide_eq_true rfl, rfl⟩
     ·exact .inl rfl
     ·exact G8 rfl rfl rfl B2
     ·exact C1 rfl
     ·exact fun _ => rfl
     intro g32
     refine a1f rfl rfl (F8 (by omega)) <| D3 (es := List.map iV [k2 - 20]) rfl rfl (of_decide_eq_true rfl) rfl rfl (fun _ => B1 (A9 fun _ => rfl)) (fun _ => rfl) ?_
     intro g34
     refine H0 rfl rfl rfl rfl (by (simp; done)) (by simp) (by decide) rfl rfl rfl rfl (of_decide_eq_true rfl) (fun _ => ⟨rfl, rfl⟩) (by simp only [G7]; (simp only [List.length_nil, List.length_cons, List.length_append, Nat.zero_add, List.length_map]; omega)) (fun _ => rfl) ?_
     intro g35
     (refine B6 rfl rfl (by (simp; done)) rfl (fun _ => (B1 (by exact A9 fun _ => rfl))) (fun _ => rfl) ?_; intro g5)
     refine A5 ⟨nofun, _, kS [0,5,6] [0,5] rfl, ?_⟩
     refine ⟨(xs ++ [k2 - 20], _, q + 1), ?_, (by simp only [List.length_append, List.length_singleton]; omega), ⟨rfl, rfl, rfl, rfl, rfl, trivial⟩⟩
     refine ⟨?_, ?_, ?_, fun x hx => ?_⟩
     ·simp only [List.length_append, List.length_singleton]; omega
     ·omega
     ·simp only [List.length_append, List.length_singleton]; omega
     rcases List.mem_append.1 hx with hx | hx
     ·exact hxb x hx
     rw [List.mem_singleton.1 hx]; omega
    try simp only [SG, List.length_map] at hc
    refine I5 <| A3 <| A0 <| A6 rfl rfl ?_
    have hll := a0q (ns := xs) (fun n hn => by have := hxb n hn; omega)
    apply C7 rfl
    ·apply B0
     ·exact Q6 rfl rfl rfl (by (simp; done)) (fun _ => rfl)
     exact C6
    ·exact a7b xs (by omega) (fun n hn => by have := hxb n hn; omega)
    ·exact ⟨rfl, rfl, rfl, of_decide_eq_true rfl, rfl⟩
    ·exact .inr ⟨rfl, rfl⟩
    ·exact B2
    ·exact C1 rfl
    ·exact fun _ => rfl
    intro g37
    refine I7 rfl rfl (by simp only [G7, List.length_append, List.length_cons, List.length_nil]; omega) <| I7 rfl rfl (by simp only [G7, List.length_append, List.length_cons, List.length_nil]; omega) <| A4 rfl rfl rfl ?_
    refine A5 ⟨nofun, _, kS [4] [0] rfl, ?_⟩
    refine B3 ?_
    refine ⟨_, _, ?_, J2 rfl rfl (I8 rfl rfl)⟩
    exact ⟨_, _, rfl, rfl, by omega, by omega, by (simp only [List.length_append, List.length_cons, List.length_nil]; omega)⟩
   try simp only [SG, List.length_map] at hc
   obtain ⟨d1, rfl⟩ : ∃ d1, d = d1 + 1 := ⟨d - 1, by omega⟩
   have hge : gN (d1 + 1) = 2 * gN d1 + 20 := rfl
   have hle : lN (d1 + 1) = 2 * lN d1 + 60 := rfl
   have hgp := b8s d1
   have hlp := c5v d1
   have hlm := c7m (d := d1 + 1) hd
   refine B9 <| A3 <| A3 <| A0 <| A6 rfl rfl ?_
   obtain ⟨_, _, ⟨k3, rfl, rfl, hk3, -⟩, hC5⟩ := a0e (oG := oG) bs (p + 1) hbs hl (by omega) (4) (by omega)
   have hk3 := hk3 (by omega)
   apply C7 rfl
   ·apply B0
    ·exact K4 rfl (by decide) rfl
    apply B0
    ·exact B4 rfl
    exact C6
   ·exact hC5
   ·exact ⟨rfl, rfl, rfl, of_decide_eq_true rfl, rfl⟩
   ·exact .inl rfl
   ·exact G8 rfl rfl rfl B2
   ·exact C1 rfl
   ·exact fun _ => rfl
   intro g41
   refine P7 rfl rfl ?_
   refine A5 ⟨nofun, _, kS [0,1,42] [0] rfl, ?_⟩
   refine A8 rfl (fun hc => ?_) (fun hc => ?_)
   ·try simp only [SG, List.length_map] at hc
    refine A3 <| A0 <| A6 rfl rfl <| A6 rfl rfl <| a1f rfl rfl (F8 (by omega)) ?_
    obtain ⟨_, _, ⟨x1, q1, rfl, rfl, hx11, hx12, hx13⟩, hC6⟩ := ih bs (p + 1 + 1) d1 hbs hl (by omega) (by omega) (by omega)
    rw [show ((d1 + 1 : Nat) : Int) - 1 = (d1 : Int) by omega]
    apply C7 rfl
    ·apply B0
     ·exact K4 rfl (by decide) rfl
     apply B0
     ·exact B4 rfl
     exact C6
    ·exact hC6
    ·exact ⟨rfl, rfl, rfl, of_decide_eq_true rfl, rfl⟩
    ·exact .inl rfl
    ·exact G8 rfl rfl rfl B2
    ·exact C1 rfl
    ·exact fun _ => rfl
    intro g46
    refine A4 rfl rfl rfl ?_
    refine A5 ⟨nofun, _, kS [0,1,7] [0] rfl, ?_⟩
    refine A3 <| A0 <| A6 rfl rfl <| A4 rfl rfl rfl ?_
    refine A5 ⟨nofun, _, kS [0,1,7,8] [0] rfl, ?_⟩
    refine A3 <| A3 <| A0 <| A6 rfl rfl ?_
    obtain ⟨_, _, ⟨k4, rfl, rfl, hk4, -⟩, hC7⟩ := a0e (oG := oG) bs (q1) hbs hl (by omega) (2) (by omega)
    have hk4 := hk4 (by omega)
    apply C7 rfl
    ·apply B0
     ·exact K4 rfl (by decide) rfl
     apply B0
     ·exact B4 rfl
     exact C6
    ·exact hC7
    ·exact ⟨rfl, rfl, rfl, of_decide_eq_true rfl, rfl⟩
    ·exact .inl rfl
    ·exact G8 rfl rfl rfl B2
    ·exact C1 rfl
    ·exact fun _ => rfl
    intro g49
    refine P7 rfl rfl ?_
    refine A5 ⟨nofun, _, kS [0,1,7,8,50] [0] rfl, ?_⟩
    refine A8 rfl (fun hc => ?_) (fun hc => ?_)
    ·try simp only [SG, List.length_map] at hc
     refine A0 <| A6 rfl rfl <| A6 rfl rfl <| a1f rfl rfl (F8 (by omega)) ?_
     obtain ⟨_, _, ⟨x2, q2, rfl, rfl, hx21, hx22, hx23⟩, hC8⟩ := ih bs (q1 + 1) d1 hbs hl (by omega) (by omega) (by omega)
     rw [show ((d1 + 1 : Nat) : Int) - 1 = (d1 : Int) by omega]
     apply C7 rfl
     ·apply B0
      ·exact K4 rfl (by decide) rfl
      apply B0
      ·exact B4 rfl
      exact C6
     ·exact hC8
     ·exact ⟨rfl, rfl, rfl, of_decide_eq_true rfl, rfl⟩
     ·exact .inl rfl
     ·exact G8 rfl rfl rfl B2
     ·exact C1 rfl
     ·exact fun _ => rfl
     intro g54
     refine A4 rfl rfl rfl ?_
     refine A5 ⟨nofun, _, kS [0,7,8] [0] rfl, ?_⟩
     refine A3 <| A0 <| A6 rfl rfl <| D3 (es := List.map tV [[97, 100, 100], [106, 111, 105, 110], [106, 111, 105, 110]]) rfl rfl (of_decide_eq_true rfl) rfl rfl (fun _ => B1 (A9 fun _ => rfl)) (fun _ => rfl) ?_
     intro g56
     obtain ⟨_, _, ⟨w2, rfl, rfl, hw2⟩, hC9⟩ := b0o (oG := oG) bs (q2) hbs hl (by omega) [[97, 100, 100], [106, 111, 105, 110], [106, 111, 105, 110]] (by decide)
     have hw2b : w2.length ≤ 4 := by have hall : ∀ x ∈ ([[97, 100, 100], [106, 111, 105, 110], [106, 111, 105, 110]] : List W8), x.length ≤ 4 := (by decide); exact hall _ hw2
     apply C7 rfl
     ·apply B0
      ·exact K4 rfl (by decide) rfl
      apply B0
      ·exact I4 rfl rfl (by (simp; done)) (fun _ => rfl)
      exact C6
     ·exact hC9
     ·exact ⟨rfl, rfl, rfl, of_decide_eq_true rfl, rfl⟩
     ·exact .inl rfl
     ·exact G8 rfl rfl rfl B2
     ·exact C1 rfl
     ·exact fun _ => rfl
     intro g57
     refine I7 rfl rfl (by simp only [G7, List.length_append, List.length_cons, List.length_nil]; omega) <| A6 rfl rfl <| I7 rfl rfl (by simp only [G7, List.length_append, List.length_cons, List.length_nil]; omega) <| I7 rfl rfl (by simp only [G7, List.length_append, List.length_cons, List.length_nil]; omega) <| A6 rfl rfl <| I7 rfl rfl (by simp only [G7, List.length_append, List.length_cons, List.length_nil]; omega) <| A4 rfl rfl rfl ?_
     refine A5 ⟨nofun, _, kS [4] [0] rfl, ?_⟩
     refine B3 ?_
     refine ⟨_, _, ?_, J2 rfl rfl (I8 rfl rfl)⟩
     exact ⟨_, _, rfl, rfl, by omega, by omega, by (simp only [List.length_append, List.length_cons, List.length_nil]; omega)⟩
    try simp only [SG, List.length_map] at hc
    refine B9 <| A3 <| A0 <| A6 rfl rfl <| D3 (es := List.map tV [[97, 100, 100], [106, 111, 105, 110], [106, 111, 105, 110]]) rfl rfl (of_decide_eq_true rfl) rfl rfl (fun _ => B1 (A9 fun _ => rfl)) (fun _ => rfl) ?_
    intro g56
    obtain ⟨_, _, ⟨w2, rfl, rfl, hw2⟩, hC9⟩ := b0o (oG := oG) bs (q1 + 1) hbs hl (by omega) [[97, 100, 100], [106, 111, 105, 110], [106, 111, 105, 110]] (by decide)
    have hw2b : w2.length ≤ 4 := by have hall : ∀ x ∈ ([[97, 100, 100], [106, 111, 105, 110], [106, 111, 105, 110]] : List W8), x.length ≤ 4 := (by decide); exact hall _ hw2
    apply C7 rfl
    ·apply B0
     ·exact K4 rfl (by decide) rfl
     apply B0
     ·exact I4 rfl rfl (by (simp; done)) (fun _ => rfl)
     exact C6
    ·exact hC9
    ·exact ⟨rfl, rfl, rfl, of_decide_eq_true rfl, rfl⟩
    ·exact .inl rfl
    ·exact G8 rfl rfl rfl B2
    ·exact C1 rfl
    ·exact fun _ => rfl
    intro g57
    refine I7 rfl rfl (by simp only [G7, List.length_append, List.length_cons, List.length_nil]; omega) <| A6 rfl rfl <| I7 rfl rfl (by simp only [G7, List.length_append, List.length_cons, List.length_nil]; omega) <| I7 rfl rfl (by simp only [G7, List.length_append, List.length_cons, List.length_nil]; omega) <| A6 rfl rfl <| I7 rfl rfl (by simp only [G7, List.length_append, List.length_cons, List.length_nil]; omega) <| A4 rfl rfl rfl ?_
    refine A5 ⟨nofun, _, kS [4] [0] rfl, ?_⟩
    refine B3 ?_
    refine ⟨_, _, ?_, J2 rfl rfl (I8 rfl rfl)⟩
    exact ⟨_, _, rfl, rfl, by omega, by omega, by (simp only [List.length_append, List.length_cons, List.length_nil]; omega)⟩
   try simp only [SG, List.length_map] at hc
   refine B9 <| A3 <| A0 <| A6 rfl rfl <| D3 (es := List.map tV [[115, 111, 114, 116], [114, 101, 118], [110, 101, 103], [97, 98, 115], [100, 105, 102, 102], [115, 117, 109, 115], [114, 97, 110, 107, 115], [116, 111, 116, 97, 108], [115, 111, 114, 116], [114, 101, 118], [110, 101, 103], [97, 98, 115]]) rfl rfl (of_decide_eq_true rfl) rfl rfl (fun _ => B1 (A9 fun _ => rfl)) (fun _ => rfl) ?_
   intro g65
   obtain ⟨_, _, ⟨w3, rfl, rfl, hw3⟩, hC10⟩ := b0o (oG := oG) bs (p + 1 + 1) hbs hl (by omega) [[115, 111, 114, 116], [114, 101, 118], [110, 101, 103], [97, 98, 115], [100, 105, 102, 102], [115, 117, 109, 115], [114, 97, 110, 107, 115], [116, 111, 116, 97, 108], [115, 111, 114, 116], [114, 101, 118], [110, 101, 103], [97, 98, 115]] (by decide)
   have hw3b : w3.length ≤ 5 := by have hall : ∀ x ∈ ([[115, 111, 114, 116], [114, 101, 118], [110, 101, 103], [97, 98, 115], [100, 105, 102, 102], [115, 117, 109, 115], [114, 97, 110, 107, 115], [116, 111, 116, 97, 108], [115, 111, 114, 116], [114, 101, 118], [110, 101, 103], [97, 98, 115]] : List W8), x.length ≤ 5 := (by decide); exact hall _ hw3
   apply C7 rfl
   ·apply B0
    ·exact K4 rfl (by decide) rfl
    apply B0
    ·exact I4 rfl rfl (by (simp; done)) (fun _ => rfl)
    exact C6
   ·exact hC10
   ·exact ⟨rfl, rfl, rfl, of_decide_eq_true rfl, rfl⟩
   ·exact .inl rfl
   ·exact G8 rfl rfl rfl B2
   ·exact C1 rfl
   ·exact fun _ => rfl
   intro g66
   refine I7 rfl rfl (by simp only [G7, List.length_append, List.length_cons, List.length_nil]; omega) <| A6 rfl rfl <| A6 rfl rfl <| a1f rfl rfl (F8 (by omega)) ?_
   obtain ⟨_, _, ⟨x3, q3, rfl, rfl, hx31, hx32, hx33⟩, hC11⟩ := ih bs (p + 1 + 1 + 1) d1 hbs hl (by omega) (by omega) (by omega)
   rw [show ((d1 + 1 : Nat) : Int) - 1 = (d1 : Int) by omega]
   apply C7 rfl
   ·apply B0
    ·exact K4 rfl (by decide) rfl
    apply B0
    ·exact B4 rfl
    exact C6
   ·exact hC11
   ·exact ⟨rfl, rfl, rfl, of_decide_eq_true rfl, rfl⟩
   ·exact .inl rfl
   ·exact G8 rfl rfl rfl B2
   ·exact C1 rfl
   ·exact fun _ => rfl
   intro g71
   refine I7 rfl rfl (by simp only [G7, List.length_append, List.length_cons, List.length_nil]; omega) <| A4 rfl rfl rfl ?_
   refine A5 ⟨nofun, _, kS [4] [0] rfl, ?_⟩
   refine B3 ?_
   refine ⟨_, _, ?_, J2 rfl rfl (I8 rfl rfl)⟩
   exact ⟨_, _, rfl, rfl, by omega, by omega, by (simp only [List.length_append, List.length_cons, List.length_nil]; omega)⟩
  have hg := hg0; try simp only [SG] at hg
  refine gF rfl rfl <| gF rfl rfl <| F9 rfl (by assumption) rfl rfl ?_
  refine A5 ⟨nofun, _, kS [0,1,15] [0] rfl, ?_⟩
  refine A8 rfl (fun hc => ?_) (fun hc => absurd hc (by decide))
  refine A3 <| A3 <| A0 <| A6 rfl rfl ?_
  obtain ⟨_, _, ⟨k1, rfl, rfl, hk1, -⟩, hC1⟩ := a0e (oG := oG) bs (p) hbs hl (by omega) (2) (by omega)
  have hk1 := hk1 (by omega)
  apply C7 rfl
  ·apply B0
   ·exact K4 rfl (by decide) rfl
   apply B0
   ·exact B4 rfl
   exact C6
  ·exact hC1
  ·exact ⟨rfl, rfl, rfl, of_decide_eq_true rfl, rfl⟩
  ·exact .inl rfl
  ·exact G8 rfl rfl rfl B2
  ·exact C1 rfl
  ·exact fun _ => rfl
  intro g17
  refine P7 rfl rfl ?_
  refine A5 ⟨nofun, _, kS [0,18] [0] rfl, ?_⟩
  refine A8 rfl (fun hc => ?_) (fun hc => ?_)
  ·try simp only [SG, List.length_map] at hc
   refine A3 <| A0 <| A6 rfl rfl <| D3 (es := List.map tV [[97], [98], [97], [99], [100]]) rfl rfl (of_decide_eq_true rfl) rfl rfl (fun _ => B1 (A9 fun _ => rfl)) (fun _ => rfl) ?_
   intro g20
   obtain ⟨_, _, ⟨w1, rfl, rfl, hw1⟩, hC2⟩ := b0o (oG := oG) bs (p + 1) hbs hl (by omega) [[97], [98], [97], [99], [100]] (by decide)
   have hw1b : w1.length ≤ 1 := by have hall : ∀ x ∈ ([[97], [98], [97], [99], [100]] : List W8), x.length ≤ 1 := (by decide); exact hall _ hw1
   apply C7 rfl
   ·apply B0
    ·exact K4 rfl (by decide) rfl
    apply B0
    ·exact I4 rfl rfl (by (simp; done)) (fun _ => rfl)
    exact C6
   ·exact hC2
   ·exact ⟨rfl, rfl, rfl, of_decide_eq_true rfl, rfl⟩
   ·exact .inl rfl
   ·exact G8 rfl rfl rfl B2
   ·exact C1 rfl
   ·exact fun _ => rfl
   intro g21
   refine A4 rfl rfl rfl ?_
   refine A5 ⟨nofun, _, kS [4] [0] rfl, ?_⟩
   refine B3 ?_
   refine ⟨_, _, ?_, J2 rfl rfl (I8 rfl rfl)⟩
   exact ⟨_, _, rfl, rfl, by omega, by omega, by omega⟩
  try simp only [SG, List.length_map] at hc
  refine B9 <| A3 <| A0 <| D3 (es := List.map iV []) rfl rfl (of_decide_eq_true rfl) rfl rfl (fun _ => B1 (A9 fun _ => rfl)) (fun _ => rfl) ?_
  intro g22
  (refine B6 rfl rfl (by (simp; done)) rfl (fun _ => (B1 (by exact A9 fun _ => rfl))) (fun _ => rfl) ?_; intro g5)
  refine A5 ⟨nofun, _, kS [0,5] [0,5] rfl, ?_⟩
  refine A3 <| A3 <| A0 <| A6 rfl rfl <| D3 (es := List.map iV [2, 3, 1, 0, 4]) rfl rfl (of_decide_eq_true rfl) rfl rfl (fun _ => B1 (A9 fun _ => rfl)) (fun _ => rfl) ?_
  intro g24
  obtain ⟨_, _, ⟨n1, rfl, rfl, hn1⟩, hC3⟩ := d3i (oG := oG) bs (p + 1) hbs hl (by omega) [2, 3, 1, 0, 4] (by decide)
  have hn1b : 0 ≤ n1 ∧ n1 ≤ 4 := by simp at hn1; omega
  apply C7 rfl
  ·apply B0
   ·exact K4 rfl (by decide) rfl
   apply B0
   ·exact I4 rfl rfl (by (simp; done)) (fun _ => rfl)
   exact C6
  ·exact hC3
  ·exact ⟨rfl, rfl, rfl, of_decide_eq_true rfl, rfl⟩
  ·exact .inl rfl
  ·exact G8 rfl rfl rfl B2
  ·exact C1 rfl
  ·exact fun _ => rfl
  intro g25
  refine A4 rfl rfl rfl ?_
  refine A5 ⟨nofun, _, kS [0,5,6] [0,5] rfl, ?_⟩
  refine E3 <| J8 (β := List Int × Nat × Int) [(.t 0, _), (.t 6, _)] (fun (z : List Int × Nat × Int) => match z with | (xs, g, q) => [(.h 0, .obj 1 4 0 [rdr bs q]), (.t 5, .sl 5 g none 0 xs.length), (.h 5, .obj g 0 1 (xs.map iV))]) (fun (z : List Int × Nat × Int) => match z with | (xs, g, q) => (xs.length : Int) ≤ n1 ∧ p ≤ q ∧ q ≤ p + 4 + xs.length ∧ ∀ x ∈ xs, -20 ≤ x ∧ x ≤ 20) (fun (z : List Int × Nat × Int) => match z with | (xs, g, q) => 5 - xs.length) ([], _, _) ⟨rfl, rfl, rfl, rfl, rfl, trivial⟩ ⟨by simp; omega, by omega, by omega, by simp⟩ ?_
  intro z hb
  obtain ⟨xs, g, q⟩ := z
  try dsimp only at hb
  obtain ⟨hx1, hq1, hq2, hxb⟩ := hb
  refine A3 <| A3 <| A0 <| A6 rfl rfl <| M3 rfl rfl <| A6 rfl rfl <| K8 rfl rfl ?_
  refine A5 ⟨nofun, _, kS [0,5,6,29] [0,5] rfl, ?_⟩
  refine A8 rfl (fun hc => ?_) (fun hc => ?_)
  ·try simp only [SG, List.length_map] at hc
   refine B9 <| E3 <| A0 <| A6 rfl rfl <| A6 rfl rfl ?_
   obtain ⟨_, _, ⟨k2, rfl, rfl, hk2, -⟩, hC4⟩ := a0e (oG := oG) bs (q) hbs hl (by omega) (41) (by omega)
   have hk2 := hk2 (by omega)
   apply C7 rfl
   ·apply B0
    ·exact K4 rfl (by decide) rfl
    apply B0
    ·exact B4 rfl
    exact C6
   ·exact hC4
   ·exact ⟨rfl, rfl, rfl, of_decide_eq_true rfl, rfl⟩
   ·exact .inl rfl
   ·exact G8 rfl rfl rfl B2
   ·exact C1 rfl
   ·exact fun _ => rfl
   intro g32
   refine a1f rfl rfl (F8 (by omega)) <| D3 (es := List.map iV [k2 - 20]) rfl rfl (of_decide_eq_true rfl) rfl rfl (fun _ => B1 (A9 fun _ => rfl)) (fun _ => rfl) ?_
   intro g34
   refine H0 rfl rfl rfl rfl (by (simp; done)) (by simp) (by decide) rfl rfl rfl rfl (of_decide_eq_true rfl) (fun _ => ⟨rfl, rfl⟩) (by simp only [G7]; (simp only [List.length_nil, List.length_cons, List.length_append, Nat.zero_add, List.length_map]; omega)) (fun _ => rfl) ?_
   intro g35
   (refine B6 rfl rfl (by (simp; done)) rfl (fun _ => (B1 (by exact A9 fun _ => rfl))) (fun _ => rfl) ?_; intro g5)
   refine A5 ⟨nofun, _, kS [0,5,6] [0,5] rfl, ?_⟩
   refine ⟨(xs ++ [k2 - 20], _, q + 1), ?_, (by simp only [List.length_append, List.length_singleton]; omega), ⟨rfl, rfl, rfl, rfl, rfl, trivial⟩⟩
   refine ⟨?_, ?_, ?_, fun x hx => ?_⟩
   ·simp only [List.length_append, List.length_singleton]; omega
   ·omega
   ·simp only [List.length_append, List.length_singleton]; omega
   rcases List.mem_append.1 hx with hx | hx
   ·exact hxb x hx
   rw [List.mem_singleton.1 hx]; omega
  try simp only [SG, List.length_map] at hc
  refine I5 <| A3 <| A0 <| A6 rfl rfl ?_
  have hll := a0q (ns := xs) (fun n hn => by have := hxb n hn; omega)
  apply C7 rfl
  ·apply B0
   ·exact Q6 rfl rfl rfl (by (simp; done)) (fun _ => rfl)
   exact C6
  ·exact a7b xs (by omega) (fun n hn => by have := hxb n hn; omega)
  ·exact ⟨rfl, rfl, rfl, of_decide_eq_true rfl, rfl⟩
  ·exact .inr ⟨rfl, rfl⟩
  ·exact B2
  ·exact C1 rfl
  ·exact fun _ => rfl
  intro g37
  refine I7 rfl rfl (by simp only [G7, List.length_append, List.length_cons, List.length_nil]; omega) <| I7 rfl rfl (by simp only [G7, List.length_append, List.length_cons, List.length_nil]; omega) <| A4 rfl rfl rfl ?_
  refine A5 ⟨nofun, _, kS [4] [0] rfl, ?_⟩
  refine B3 ?_
  refine ⟨_, _, ?_, J2 rfl rfl (I8 rfl rfl)⟩
  exact ⟨_, _, rfl, rfl, by omega, by omega, by (simp only [List.length_append, List.length_cons, List.length_nil]; omega)⟩

theorem keep_s_mutate : G3 Tryz.f47 = [0, 1, 4, 12, 13, 5, 19, 32, 37] := by kernel_rfl
set_option maxHeartbeats 20000000 in
theorem d4b (bs : List Int) (p : Int) (hbs : a3m bs) (hl : bs.length ≤ 1048576) (hp : 0 ≤ p ∧ p ≤ 100000000) (s : W8) (hs : s.length ≤ 100000) : ∃ res outs, (fun res outs => ∃ (x : W8) (q : Int), res = tV x ∧ outs = [[rdr bs q]] ∧ p ≤ q ∧ q ≤ p + 10 ∧ x.length ≤ s.length + 10) res outs ∧ CW (cxT oG) 47 [.ownp [rdr bs p] 0 0, tV s] = some (res, outs) := by
 refine S5 rfl Tryz.func47 rfl ⟨by kernel_rfl, rfl, of_decide_eq_true rfl, of_decide_eq_true rfl, by decide⟩ keep_s_mutate <| A3 <| A0 <| A4 rfl rfl rfl ?_
 refine A5 ⟨nofun, _, kS [0,1] [0] rfl, ?_⟩
 refine A3 <| A0 <| A6 rfl rfl <| A6 rfl rfl <| a1o rfl rfl <| I3 rfl rfl (F8 (by omega)) ?_
 obtain ⟨_, _, ⟨k0, rfl, rfl, hk0, -⟩, hC0⟩ := a0e (oG := oG) bs (p) hbs hl (by omega) (s.length + 1) (by omega)
 have hk0 := hk0 (by omega)
 apply C7 rfl
 ·apply B0
  ·exact K4 rfl (by decide) rfl
  apply B0
  ·exact B4 rfl
  exact C6
 ·exact hC0
 ·exact ⟨rfl, rfl, rfl, of_decide_eq_true rfl, rfl⟩
 ·exact .inl rfl
 ·exact G8 rfl rfl rfl B2
 ·exact C1 rfl
 ·exact fun _ => rfl
 intro g10
 refine A4 rfl rfl rfl ?_
 refine A5 ⟨nofun, _, kS [0,1,5] [0] rfl, ?_⟩
 refine A3 <| A3 <| A0 <| A6 rfl rfl ?_
 obtain ⟨_, _, ⟨k1, rfl, rfl, hk1, -⟩, hC1⟩ := a0e (oG := oG) bs (p + 1) hbs hl (by omega) (5) (by omega)
 have hk1 := hk1 (by omega)
 apply C7 rfl
 ·apply B0
  ·exact K4 rfl (by decide) rfl
  apply B0
  ·exact B4 rfl
  exact C6
 ·exact hC1
 ·exact ⟨rfl, rfl, rfl, of_decide_eq_true rfl, rfl⟩
 ·exact .inl rfl
 ·exact G8 rfl rfl rfl B2
 ·exact C1 rfl
 ·exact fun _ => rfl
 intro g12
 refine A5 ⟨nofun, _, kS [0,1,5,12] [0] rfl, ?_⟩
 refine E3 <| A3 <| A3 <| A0 <| P7 rfl rfl <| A4 rfl rfl rfl ?_
 refine A5 ⟨nofun, _, kS [0,1,5,12,13] [0] rfl, ?_⟩
 refine A8 rfl (fun hc => ?_) (fun hc => ?_)
 ·try simp only [SG, List.length_map] at hc
  refine B9 ?_
  refine A8 rfl (fun hc => ?_) (fun hc => absurd hc (by simp_all))
  refine A3 <| A0 <| A6 rfl rfl <| A6 rfl rfl <| a1o rfl rfl <| K8 rfl rfl ?_
  refine A5 ⟨nofun, _, kS [0,1,5,19] [0] rfl, ?_⟩
  refine A8 rfl (fun hc => ?_) (fun hc => ?_)
  ·try simp only [SG, List.length_map] at hc
   refine A3 <| A0 <| A6 rfl rfl <| A6 rfl rfl <| T6 rfl rfl (O9 rfl (by omega)) I0 (by omega) <| A6 rfl rfl <| D3 (es := List.map tV [[48], [49], [97], [44], [45], [93], [32]]) rfl rfl (of_decide_eq_true rfl) rfl rfl (fun _ => B1 (A9 fun _ => rfl)) (fun _ => rfl) ?_
   intro g24
   obtain ⟨_, _, ⟨w1, rfl, rfl, hw1⟩, hC2⟩ := b0o (oG := oG) bs (p + 1 + 1) hbs hl (by omega) [[48], [49], [97], [44], [45], [93], [32]] (by decide)
   have hw1b : w1.length ≤ 1 := by have hall : ∀ x ∈ ([[48], [49], [97], [44], [45], [93], [32]] : List W8), x.length ≤ 1 := (by decide); exact hall _ hw1
   apply C7 rfl
   ·apply B0
    ·exact K4 rfl (by decide) rfl
    apply B0
    ·exact I4 rfl rfl (by (simp; done)) (fun _ => rfl)
    exact C6
   ·exact hC2
   ·exact ⟨rfl, rfl, rfl, of_decide_eq_true rfl, rfl⟩
   ·exact .inl rfl
   ·exact G8 rfl rfl rfl B2
   ·exact C1 rfl
   ·exact fun _ => rfl
   intro g25
   refine I7 rfl rfl (by simp only [G7, List.length_append, List.length_take, List.length_drop]; omega) <| A6 rfl rfl <| A6 rfl rfl <| I3 rfl rfl (F8 (by omega)) <| T6 rfl rfl I0 (O9 rfl (by omega)) (by omega) <| I7 rfl rfl (by simp only [G7, List.length_append, List.length_take, List.length_drop]; omega) <| A4 rfl rfl rfl ?_
   refine A5 ⟨fun _ => ⟨by (simp only [a1w, List.nil_append, List.append_nil, List.map_cons, List.map_nil, List.cons_append]; decide +kernel), by decide +kernel⟩, [(.t 4, _), (.h 0, _)], ⟨rfl, rfl, rfl, rfl, trivial⟩, ?_⟩
   refine B3 ?_
   refine ⟨_, _, ?_, J2 rfl rfl (I8 rfl rfl)⟩
   exact ⟨_, _, rfl, rfl, by omega, by omega, by (simp only [List.length_append, List.length_cons, List.length_nil, List.length_take, List.length_drop]; omega)⟩
  try simp only [SG, List.length_map] at hc
  refine B9 <| A3 <| A0 <| A6 rfl rfl <| A4 rfl rfl rfl ?_
  refine A5 ⟨nofun, _, kS [4] [0] rfl, ?_⟩
  refine B3 ?_
  refine ⟨_, _, ?_, J2 rfl rfl (I8 rfl rfl)⟩
  exact ⟨_, _, rfl, rfl, by omega, by omega, by omega⟩
 try simp only [SG, List.length_map] at hc
 refine A0 <| P7 rfl rfl <| A4 rfl rfl rfl ?_
 refine A5 ⟨nofun, _, kS [0,1,5,12,13] [0] rfl, ?_⟩
 refine A8 rfl (fun hc => ?_) (fun hc => ?_)
 ·try simp only [SG, List.length_map] at hc
  refine A3 <| A0 <| A6 rfl rfl <| A6 rfl rfl <| a1o rfl rfl <| K8 rfl rfl ?_
  refine A5 ⟨nofun, _, kS [0,1,5,19] [0] rfl, ?_⟩
  refine A8 rfl (fun hc => ?_) (fun hc => ?_)
  ·try simp only [SG, List.length_map] at hc
   refine A3 <| A0 <| A6 rfl rfl <| A6 rfl rfl <| T6 rfl rfl (O9 rfl (by omega)) I0 (by omega) <| A6 rfl rfl <| D3 (es := List.map tV [[48], [49], [97], [44], [45], [93], [32]]) rfl rfl (of_decide_eq_true rfl) rfl rfl (fun _ => B1 (A9 fun _ => rfl)) (fun _ => rfl) ?_
   intro g24
   obtain ⟨_, _, ⟨w1, rfl, rfl, hw1⟩, hC2⟩ := b0o (oG := oG) bs (p + 1 + 1) hbs hl (by omega) [[48], [49], [97], [44], [45], [93], [32]] (by decide)
   have hw1b : w1.length ≤ 1 := by have hall : ∀ x ∈ ([[48], [49], [97], [44], [45], [93], [32]] : List W8), x.length ≤ 1 := (by decide); exact hall _ hw1
   apply C7 rfl
   ·apply B0
    ·exact K4 rfl (by decide) rfl
    apply B0
    ·exact I4 rfl rfl (by (simp; done)) (fun _ => rfl)
    exact C6
   ·exact hC2
   ·exact ⟨rfl, rfl, rfl, of_decide_eq_true rfl, rfl⟩
   ·exact .inl rfl
   ·exact G8 rfl rfl rfl B2
   ·exact C1 rfl
   ·exact fun _ => rfl
   intro g25
   refine I7 rfl rfl (by simp only [G7, List.length_append, List.length_take, List.length_drop]; omega) <| A6 rfl rfl <| A6 rfl rfl <| I3 rfl rfl (F8 (by omega)) <| T6 rfl rfl I0 (O9 rfl (by omega)) (by omega) <| I7 rfl rfl (by simp only [G7, List.length_append, List.length_take, List.length_drop]; omega) <| A4 rfl rfl rfl ?_
   refine A5 ⟨fun _ => ⟨by (simp only [a1w, List.nil_append, List.append_nil, List.map_cons, List.map_nil, List.cons_append]; decide +kernel), by decide +kernel⟩, [(.t 4, _), (.h 0, _)], ⟨rfl, rfl, rfl, rfl, trivial⟩, ?_⟩
   refine B3 ?_
   refine ⟨_, _, ?_, J2 rfl rfl (I8 rfl rfl)⟩
   exact ⟨_, _, rfl, rfl, by omega, by omega, by (simp only [List.length_append, List.length_cons, List.length_nil, List.length_take, List.length_drop]; omega)⟩
  try simp only [SG, List.length_map] at hc
  refine B9 <| A3 <| A0 <| A6 rfl rfl <| A4 rfl rfl rfl ?_
  refine A5 ⟨nofun, _, kS [4] [0] rfl, ?_⟩
  refine B3 ?_
  refine ⟨_, _, ?_, J2 rfl rfl (I8 rfl rfl)⟩
  exact ⟨_, _, rfl, rfl, by omega, by omega, by omega⟩
 try simp only [SG, List.length_map] at hc
 refine A3 <| A0 <| P7 rfl rfl <| A4 rfl rfl rfl ?_
 refine A5 ⟨nofun, _, kS [0,1,5,12,32] [0] rfl, ?_⟩
 refine A8 rfl (fun hc => ?_) (fun hc => ?_)
 ·try simp only [SG, List.length_map] at hc
  refine A3 <| A0 <| A6 rfl rfl <| A6 rfl rfl <| T6 rfl rfl (O9 rfl (by omega)) I0 (by omega) <| A4 rfl rfl rfl ?_
  refine A5 ⟨nofun, _, kS [4] [0] rfl, ?_⟩
  refine B3 ?_
  refine ⟨_, _, ?_, J2 rfl rfl (I8 rfl rfl)⟩
  exact ⟨_, _, rfl, rfl, by omega, by omega, by (simp only [List.length_append, List.length_cons, List.length_nil, List.length_take, List.length_drop]; omega)⟩
 try simp only [SG, List.length_map] at hc
 refine A3 <| A0 <| P7 rfl rfl <| A4 rfl rfl rfl ?_
 refine A5 ⟨nofun, _, kS [0,1,37] [0] rfl, ?_⟩
 refine A8 rfl (fun hc => ?_) (fun hc => ?_)
 ·try simp only [SG, List.length_map] at hc
  refine A3 <| A0 <| A6 rfl rfl <| A6 rfl rfl <| D3 (es := List.map tV [[48], [44], [32], [32, 97]]) rfl rfl (of_decide_eq_true rfl) rfl rfl (fun _ => B1 (A9 fun _ => rfl)) (fun _ => rfl) ?_
  intro g41
  obtain ⟨_, _, ⟨w2, rfl, rfl, hw2⟩, hC3⟩ := b0o (oG := oG) bs (p + 1 + 1) hbs hl (by omega) [[48], [44], [32], [32, 97]] (by decide)
  have hw2b : w2.length ≤ 2 := by have hall : ∀ x ∈ ([[48], [44], [32], [32, 97]] : List W8), x.length ≤ 2 := (by decide); exact hall _ hw2
  apply C7 rfl
  ·apply B0
   ·exact K4 rfl (by decide) rfl
   apply B0
   ·exact I4 rfl rfl (by (simp; done)) (fun _ => rfl)
   exact C6
  ·exact hC3
  ·exact ⟨rfl, rfl, rfl, of_decide_eq_true rfl, rfl⟩
  ·exact .inl rfl
  ·exact G8 rfl rfl rfl B2
  ·exact C1 rfl
  ·exact fun _ => rfl
  intro g42
  refine I7 rfl rfl (by simp only [G7, List.length_append, List.length_cons, List.length_nil]; omega) <| A4 rfl rfl rfl ?_
  refine A5 ⟨nofun, _, kS [4] [0] rfl, ?_⟩
  refine B3 ?_
  refine ⟨_, _, ?_, J2 rfl rfl (I8 rfl rfl)⟩
  exact ⟨_, _, rfl, rfl, by omega, by omega, by (simp only [List.length_append, List.length_cons, List.length_nil, List.length_take, List.length_drop]; omega)⟩
 try simp only [SG, List.length_map] at hc
 refine B9 <| A3 <| A0 <| A6 rfl rfl <| A4 rfl rfl rfl ?_
 refine A5 ⟨nofun, _, kS [4] [0] rfl, ?_⟩
 refine B3 ?_
 refine ⟨_, _, ?_, J2 rfl rfl (I8 rfl rfl)⟩
 exact ⟨_, _, rfl, rfl, by omega, by omega, by omega⟩

theorem keep_s_somePlan : G3 Tryz.f23 = [0, 2, 11, 3] := by kernel_rfl
set_option maxHeartbeats 20000000 in
theorem c4q (bs : List Int) (p : Int) (hbs : a3m bs) (hl : bs.length ≤ 1048576) (hp : 0 ≤ p ∧ p ≤ 1000000) : ∃ res outs, (fun res outs => ∃ (x : W8) (q : Int), res = tV x ∧ outs = [[rdr bs q]] ∧ p ≤ q ∧ q ≤ p + 3000 ∧ x.length ≤ 5000) res outs ∧ CW (cxT oG) 23 [.ownp [rdr bs p] 0 0] = some (res, outs) := by
 refine S5 rfl Tryz.func23 rfl ⟨by kernel_rfl, rfl, of_decide_eq_true rfl, of_decide_eq_true rfl, by decide⟩ keep_s_somePlan <| A3 <| A0 <| A4 rfl rfl rfl ?_
 refine A5 ⟨nofun, _, kS [0] [0] rfl, ?_⟩
 refine A3 <| A0 <| A6 rfl rfl <| A6 rfl rfl <| D3 (es := List.map iV [3, 4, 2, 5, 1, 0]) rfl rfl (of_decide_eq_true rfl) rfl rfl (fun _ => B1 (A9 fun _ => rfl)) (fun _ => rfl) ?_
 intro g6
 obtain ⟨_, _, ⟨k0, rfl, rfl, hk0⟩, hC0⟩ := d3i (oG := oG) bs (p) hbs hl (by omega) [3, 4, 2, 5, 1, 0] (by decide)
 have hk0b : 0 ≤ k0 ∧ k0 ≤ 5 := by simp at hk0; omega
 obtain ⟨d, rfl⟩ : ∃ d : Nat, k0 = d := ⟨k0.toNat, by omega⟩
 have hgm := d4v (d := d) (by omega)
 have hlm := c7m (d := d) (by omega)
 have hgp := b8s d
 apply C7 rfl
 ·apply B0
  ·exact K4 rfl (by decide) rfl
  apply B0
  ·exact I4 rfl rfl (by (simp; done)) (fun _ => rfl)
  exact C6
 ·exact hC0
 ·exact ⟨rfl, rfl, rfl, of_decide_eq_true rfl, rfl⟩
 ·exact .inl rfl
 ·exact G8 rfl rfl rfl B2
 ·exact C1 rfl
 ·exact fun _ => rfl
 intro g7
 obtain ⟨_, _, ⟨x, q, rfl, rfl, hx1, hx2, hx3⟩, hC1⟩ := c5z (oG := oG) bs (p + 1) d hbs hl (by omega) (by omega)
 apply C7 rfl
 ·apply B0
  ·exact K4 rfl (by decide) rfl
  apply B0
  ·exact B4 rfl
  exact C6
 ·exact hC1
 ·exact ⟨rfl, rfl, rfl, of_decide_eq_true rfl, rfl⟩
 ·exact .inl rfl
 ·exact G8 rfl rfl rfl B2
 ·exact C1 rfl
 ·exact fun _ => rfl
 intro g8
 refine A4 rfl rfl rfl ?_
 refine A5 ⟨nofun, _, kS [0,3] [0] rfl, ?_⟩
 refine A3 <| A3 <| A0 <| A6 rfl rfl ?_
 obtain ⟨_, _, ⟨k1, rfl, rfl, hk1, -⟩, hC2⟩ := a0e (oG := oG) bs (q) hbs hl (by omega) (16) (by omega)
 have hk1 := hk1 (by omega)
 apply C7 rfl
 ·apply B0
  ·exact K4 rfl (by decide) rfl
  apply B0
  ·exact B4 rfl
  exact C6
 ·exact hC2
 ·exact ⟨rfl, rfl, rfl, of_decide_eq_true rfl, rfl⟩
 ·exact .inl rfl
 ·exact G8 rfl rfl rfl B2
 ·exact C1 rfl
 ·exact fun _ => rfl
 intro g10
 refine P7 rfl rfl ?_
 refine A5 ⟨nofun, _, kS [0,3,11] [0] rfl, ?_⟩
 refine A8 rfl (fun hc => ?_) (fun hc => ?_)
 ·try simp only [SG, List.length_map] at hc
  refine A0 <| A6 rfl rfl <| A6 rfl rfl ?_
  obtain ⟨_, _, ⟨y, q2, rfl, rfl, hy1, hy2, hy3⟩, hC3⟩ := d4b (oG := oG) bs (q + 1) hbs hl (by omega) x (by omega)
  apply C7 rfl
  ·apply B0
   ·exact K4 rfl (by decide) rfl
   apply B0
   ·exact B4 rfl
   exact C6
  ·exact hC3
  ·exact ⟨rfl, rfl, rfl, of_decide_eq_true rfl, rfl⟩
  ·exact .inl rfl
  ·exact G8 rfl rfl rfl B2
  ·exact C1 rfl
  ·exact fun _ => rfl
  intro g14
  refine A4 rfl rfl rfl ?_
  refine A5 ⟨nofun, _, kS [3] [0] rfl, ?_⟩
  refine A3 <| A0 <| A6 rfl rfl <| A4 rfl rfl rfl ?_
  refine A5 ⟨nofun, _, kS [2] [0] rfl, ?_⟩
  refine B3 ?_
  refine ⟨_, _, ?_, J2 rfl rfl (I8 rfl rfl)⟩
  exact ⟨_, _, rfl, rfl, by omega, by omega, by omega⟩
 try simp only [SG, List.length_map] at hc
 refine B9 <| A3 <| A0 <| A6 rfl rfl <| A4 rfl rfl rfl ?_
 refine A5 ⟨nofun, _, kS [2] [0] rfl, ?_⟩
 refine B3 ?_
 refine ⟨_, _, ?_, J2 rfl rfl (I8 rfl rfl)⟩
 exact ⟨_, _, rfl, rfl, by omega, by omega, by omega⟩

theorem keep_s_drawNormalOf : G3 Tryz.f16 = [0, 2] := by kernel_rfl
set_option maxHeartbeats 20000000 in
theorem b4q (bs : List Int) (hbs : a3m bs) (hl : bs.length ≤ 1048576) : ∃ res outs, (fun res outs => ∃ x : W8, res = tV x ∧ outs = [] ∧ x.length ≤ 5000) res outs ∧ CW (cxT oG) 16 [.list (bs.map uV)] = some (res, outs) := by
 refine S5 rfl Tryz.func16 rfl ⟨by kernel_rfl, rfl, of_decide_eq_true rfl, of_decide_eq_true rfl, by decide⟩ keep_s_drawNormalOf <| A3 <| A0 <| A4 rfl rfl rfl ?_
 refine A5 ⟨nofun, _, kS [0] [] rfl, ?_⟩
 refine A3 <| A0 <| A6 rfl rfl ?_
 obtain ⟨_, _, ⟨rfl, rfl⟩, hC0⟩ := c2h (oG := oG) bs hl
 have hbs2 : a3m (bs.take 2000) := fun b hb => hbs b (List.mem_of_mem_take hb)
 have hl2 : (bs.take 2000).length ≤ 1048576 := by simp; omega
 apply C7 rfl
 ·apply B0
  ·exact B4 rfl
  exact C6
 ·exact hC0
 ·exact ⟨rfl, rfl, rfl, of_decide_eq_true rfl, rfl⟩
 ·exact .inl rfl
 ·exact B2
 ·exact d1k
 ·exact fun _ => rfl
 intro g4
 obtain ⟨_, _, ⟨x, q, rfl, rfl, -, -, hx3⟩, hC1⟩ := c4q (oG := oG) (bs.take 2000) 0 hbs2 hl2 (by omega)
 apply C7 rfl
 ·apply B0
  ·exact K4 rfl (by decide) rfl
  exact C6
 ·exact hC1
 ·exact ⟨rfl, rfl, rfl, of_decide_eq_true rfl, rfl⟩
 ·exact .inl rfl
 ·exact G8 rfl rfl rfl B2
 ·exact C1 rfl
 ·exact fun _ => rfl
 intro g5
 refine A4 rfl rfl rfl ?_
 refine A5 ⟨nofun, _, kS [2] [] rfl, ?_⟩
 refine B3 ?_
 refine ⟨_, _, ?_, J2 rfl rfl C8⟩
 exact ⟨x, rfl, rfl, hx3⟩

theorem keep_s_FnNormalOf : G3 Tryz.f5 = [0, 2, 7, 3, 4, 19] := by kernel_rfl
set_option maxHeartbeats 20000000 in
theorem b9j (bs : List Int) (hbs : a3m bs) : CW (cxT (some rG)) 5 [.list (bs.map uV)] = some (bV true, []) := by
 refine G5 rfl Tryz.func5 rfl ⟨by kernel_rfl, rfl, of_decide_eq_true rfl, of_decide_eq_true rfl, by decide⟩ keep_s_FnNormalOf <| A3 <| A0 <| A4 rfl rfl rfl ?_
 refine A5 ⟨nofun, _, kS [0] [] rfl, ?_⟩
 refine A3 <| A3 <| A0 <| A6 rfl rfl <| H5 rfl rfl <| W6 rfl rfl ?_
 refine A5 ⟨nofun, _, kS [0,7] [] rfl, ?_⟩
 refine A8 rfl (fun hc => ?_) (fun hc => ?_)
 ·try simp only [SG, List.length_map] at hc
  refine A3 <| A0 <| A4 rfl rfl rfl ?_
  refine A5 ⟨nofun, _, kS [2] [] rfl, ?_⟩
  refine B3 <| D5 rfl rfl trivial ?_
  rfl
 try simp only [SG, List.length_map] at hc
 refine B9 <| A3 <| A0 <| A6 rfl rfl ?_
 have hl2 : bs.length ≤ 1048576 := by omega
 obtain ⟨_, _, ⟨s, rfl, rfl, hs⟩, hC1⟩ := b4q (oG := some rG) bs hbs hl2
 apply C7 rfl
 ·apply B0
  ·exact B4 rfl
  exact C6
 ·exact hC1
 ·exact ⟨rfl, rfl, rfl, of_decide_eq_true rfl, rfl⟩
 ·exact .inl rfl
 ·exact B2
 ·exact C1 rfl
 ·exact fun _ => rfl
 intro g9
 refine A4 rfl rfl rfl ?_
 refine A5 ⟨nofun, _, kS [3] [] rfl, ?_⟩
 refine A3 <| A0 <| A6 rfl rfl ?_
 apply C7 rfl
 ·apply B0
  ·exact B4 rfl
  exact C6
 ·exact b1g s (by omega)
 ·exact ⟨rfl, rfl, rfl, of_decide_eq_true rfl, rfl⟩
 ·exact .inl rfl
 ·exact B2
 ·exact C1 rfl
 ·exact fun _ => rfl
 intro g11
 refine A4 rfl rfl rfl ?_
 refine A5 ⟨nofun, _, kS [3,4] [] rfl, ?_⟩
 refine A3 <| A3 <| A0 <| A6 rfl rfl <| A6 rfl rfl ?_
 apply C7 rfl
 ·apply B0
  ·exact B4 rfl
  exact C6
 ·exact a5e s (by omega)
 ·exact ⟨rfl, rfl, rfl, of_decide_eq_true rfl, rfl⟩
 ·exact .inl rfl
 ·exact B2
 ·exact C1 rfl
 ·exact fun _ => rfl
 intro g14
 refine b0k rfl rfl <| A6 rfl rfl ?_
 refine D7 rfl rfl (fun hg0 => ?_) (fun hg0 => ?_)
 ·have hg := hg0; try simp only [SG] at hg
  refine A6 rfl rfl <| gT rfl rfl <| U6 rfl rfl <| F7 rfl (by assumption) rfl rfl ?_
  refine A5 ⟨nofun, _, kS [3,4,19] [] rfl, ?_⟩
  refine A8 rfl (fun hc => ?_) (fun hc => ?_)
  ·try simp only [SG, List.length_map] at hc
   refine A3 <| A0 <| A6 rfl rfl <| A6 rfl rfl ?_
   apply C7 rfl
   ·apply B0
    ·exact B4 rfl
    exact C6
   ·exact a5e s (by omega)
   ·exact ⟨rfl, rfl, rfl, of_decide_eq_true rfl, rfl⟩
   ·exact .inl rfl
   ·exact B2
   ·exact C1 rfl
   ·exact fun _ => rfl
   intro g22
   refine U6 rfl rfl <| A4 rfl rfl rfl ?_
   refine A5 ⟨nofun, _, kS [2] [] rfl, ?_⟩
   refine B3 <| D5 rfl rfl trivial ?_
   (simp; done)
  try simp only [SG, List.length_map] at hc
  obtain ⟨hw1, hw2, hw3⟩ := d1q (s := s) (by assumption)
  have hw4 : (c2t (Y9 s)).length = 0 := by rw [hw1]; rfl
  refine B9 <| A3 <| A0 <| A6 rfl rfl ?_
  apply C7 rfl
  ·apply B0
   ·exact B4 rfl
   exact C6
  ·exact b4l (Y9 s) (by have := a9c s; omega)
  ·exact ⟨rfl, rfl, rfl, of_decide_eq_true rfl, rfl⟩
  ·exact .inl rfl
  ·exact B2
  ·exact O7
  ·exact fun _ => rfl
  intro g25
  simp only [List.length_map]
  refine M3 rfl rfl <| P7 rfl rfl <| A6 rfl rfl ?_
  refine D7 rfl rfl (fun hg0 => ?_) (fun hg0 => ?_)
  ·have hg := hg0; try simp only [SG] at hg
   refine A6 rfl rfl <| gT rfl rfl ?_
   apply C7 rfl
   ·apply B0
    ·exact B4 rfl
    exact C6
   ·exact b1g (Y9 s) (by have := a9c s; omega)
   ·exact ⟨rfl, rfl, rfl, of_decide_eq_true rfl, rfl⟩
   ·exact .inl rfl
   ·exact B2
   ·exact C1 rfl
   ·exact fun _ => rfl
   intro g30
   refine gT rfl rfl <| A6 rfl rfl <| gT rfl rfl <| U6 rfl rfl <| F9 rfl (by assumption) rfl rfl <| A6 rfl rfl ?_
   refine D7 rfl rfl (fun hg0 => ?_) (fun hg0 => ?_)
   ·have hg := hg0; try simp only [SG] at hg
    refine A6 rfl rfl <| gT rfl rfl ?_
    apply C7 rfl
    ·apply B0
     ·exact B4 rfl
     exact C6
    ·exact b4l s (by omega)
    ·exact ⟨rfl, rfl, rfl, of_decide_eq_true rfl, rfl⟩
    ·exact .inl rfl
    ·exact B2
    ·exact O7
    ·exact fun _ => rfl
    intro g36
    simp only [List.length_map]
    refine gT rfl rfl <| M3 rfl rfl <| gT rfl rfl <| W6 rfl rfl <| gT rfl rfl <| A6 rfl rfl <| gT rfl rfl <| A6 rfl rfl <| gT rfl rfl <| b0k rfl rfl <| gT rfl rfl <| d8r rfl rfl rfl <| F9 rfl (by assumption) rfl rfl <| A4 rfl rfl rfl ?_
    refine A5 ⟨nofun, _, kS [2] [] rfl, ?_⟩
    refine B3 <| D5 rfl rfl trivial ?_
    (simp_all; done)
   have hg := hg0; try simp only [SG] at hg
   refine gF rfl rfl <| gF rfl rfl <| gF rfl rfl <| gF rfl rfl <| gF rfl rfl <| gF rfl rfl <| gF rfl rfl <| F7 rfl (by assumption) rfl rfl <| A4 rfl rfl rfl ?_
   refine A5 ⟨nofun, _, kS [2] [] rfl, ?_⟩
   refine B3 <| D5 rfl rfl trivial ?_
   (simp_all; done)
  have hg := hg0; try simp only [SG] at hg
  refine gF rfl rfl <| gF rfl rfl <| gF rfl rfl <| F7 rfl (by assumption) rfl rfl <| A6 rfl rfl <| G4 rfl rfl rfl <| G4 rfl rfl rfl <| G4 rfl rfl rfl <| G4 rfl rfl rfl <| G4 rfl rfl rfl <| G4 rfl rfl rfl <| G4 rfl rfl rfl <| G4 rfl rfl rfl <| F7 rfl rfl rfl rfl <| A4 rfl rfl rfl ?_
  refine A5 ⟨nofun, _, kS [2] [] rfl, ?_⟩
  refine B3 <| D5 rfl rfl trivial ?_
  (exfalso; omega)
 have hg := hg0; try simp only [SG] at hg
 refine gF rfl rfl <| F9 rfl (by assumption) rfl rfl ?_
 refine A5 ⟨nofun, _, kS [3,4,19] [] rfl, ?_⟩
 refine A8 rfl (fun hc => ?_) (fun hc => absurd hc (by decide))
 refine A3 <| A0 <| A6 rfl rfl <| A6 rfl rfl ?_
 apply C7 rfl
 ·apply B0
  ·exact B4 rfl
  exact C6
 ·exact a5e s (by omega)
 ·exact ⟨rfl, rfl, rfl, of_decide_eq_true rfl, rfl⟩
 ·exact .inl rfl
 ·exact B2
 ·exact C1 rfl
 ·exact fun _ => rfl
 intro g22
 refine U6 rfl rfl <| A4 rfl rfl rfl ?_
 refine A5 ⟨nofun, _, kS [2] [] rfl, ?_⟩
 refine B3 <| D5 rfl rfl trivial ?_
 (simp; done)
end Go.Proofs.YtpjgdgnaeohmeaaGreatDoor
