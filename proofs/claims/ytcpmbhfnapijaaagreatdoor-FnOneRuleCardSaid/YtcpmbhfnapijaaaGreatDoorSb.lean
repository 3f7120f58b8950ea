/- What each function of the program gives on the abstract machine, part 2 of 2. Conditions: those in front of each theorem. -/
import Derived.Test.YtcpmbhfnapijaaaGreatDoorSa
import Derived.KernelRfl

set_option linter.unusedVariables false
set_option linter.unusedSimpArgs false
namespace Go.Proofs.YtcpmbhfnapijaaaGreatDoor
open Go Go.Mv Go.Proofs
set_option maxRecDepth 100000
variable {oG : Option Nat} {rG : Nat}

theorem keep_s_planText : G0 Tryz.f93 = [0, 1, 4, 15, 18, 6, 5, 29, 42, 7, 50, 8] := by kernel_rfl
set_option maxHeartbeats 20000000 in
theorem c3s (bs : List Int) (p : Int) (d : Nat) (hbs : a3e bs) (hl : bs.length ≤ 1048576) (hp : 0 ≤ p ∧ p + gN d ≤ 50000000)  (hd : d ≤ 5) : ∃ res outs, (fun res outs => ∃ (x : W8) (q : Int), res = tV x ∧ outs = [[rdr bs q]] ∧ p ≤ q ∧ q ≤ p + gN d ∧ x.length ≤ lN d) res outs ∧ CW (cxT oG) 93 [.ownp [rdr bs p] 0 0, iV d] = some (res, outs) := by
 obtain ⟨kk, hkk⟩ : ∃ kk : Nat, d < kk := ⟨_, Nat.lt_succ_self _⟩
 revert bs p d
 induction kk with
 | zero => intro bs p d hbs hl hp hd hkk; exact absurd hkk (Nat.not_lt_zero _)
 | succ kk ih =>
  intro bs p d hbs hl hp hd hkk
  have hgd := b6p d
  have hld := c2w d
  refine R9 rfl Tryz.func93 rfl ⟨by kernel_rfl, rfl, dT rfl, dT rfl, by decide⟩ keep_s_planText <| A3 <| A0 <| A4 rfl rfl rfl <| xN [0,1] [0] rfl <| A3 <| A3 <| A0 <| A5 rfl rfl <| Q1 rfl rfl <| A5 rfl rfl ?_
  refine D8 rfl rfl ?_ ?_ <;> intro hg0 <;> have hg := hg0 <;> try simp only [SG] at hg
  ·refine A5 rfl rfl <| gT rfl rfl ?_
   obtain ⟨_, _, ⟨k0, rfl, rfl, hk0, -⟩, hC0⟩ := Z2 (oG := oG) bs (p) hbs hl (by omega) (5) (by omega)
   have hk0 := hk0 (by omega)
   apply xC rfl
   ·apply A9
    ·exact K2 rfl (by decide) rfl
    apply A9
    ·exact B2 rfl
    exact C4
   ·exact hC0
   refine ⟨⟨rfl, rfl, rfl, dT rfl, rfl⟩, .inl rfl, G7 rfl rfl rfl B0, B6 rfl, fun _ => rfl, fun g13 => ?_⟩
   refine gT rfl rfl <| Q1 rfl rfl <| F8 rfl (by assumption) rfl rfl <| xN [0,1,15] [0] rfl ?_
   refine A7 rfl ?_ ?_ <;> intro hc <;> try simp only [SL] at hc
   ·refine A3 <| A3 <| A0 <| A5 rfl rfl ?_
    obtain ⟨_, _, ⟨k1, rfl, rfl, hk1, -⟩, hC1⟩ := Z2 (oG := oG) bs (p + 1) hbs hl (by omega) (2) (by omega)
    have hk1 := hk1 (by omega)
    apply xC rfl
    ·apply A9
     ·exact K2 rfl (by decide) rfl
     apply A9
     ·exact B2 rfl
     exact C4
    ·exact hC1
    refine ⟨⟨rfl, rfl, rfl, dT rfl, rfl⟩, .inl rfl, G7 rfl rfl rfl B0, B6 rfl, fun _ => rfl, fun g17 => ?_⟩
    refine Q1 rfl rfl <| xN [0,18] [0] rfl ?_
    refine A7 rfl ?_ ?_ <;> intro hc <;> try simp only [SL] at hc
    ·refine A3 <| A0 <| A5 rfl rfl <| C8 (es := List.map tV [[97], [98], [97], [99], [100]]) rfl rfl (dT rfl) rfl rfl (fun _ => B1 (A8 fun _ => rfl)) (fun _ => rfl) ?_
     intro g20
     obtain ⟨_, _, ⟨w1, rfl, rfl, hw1⟩, hC2⟩ := a9m (oG := oG) bs (p + 1 + 1) hbs hl (by omega) [[97], [98], [97], [99], [100]] (by decide)
     have hw1b : w1.length ≤ 1 := by have hall : ∀ x ∈ ([[97], [98], [97], [99], [100]] : List W8), x.length ≤ 1 := (by decide); exact hall _ hw1
     apply xC rfl
     ·apply A9
      ·exact K2 rfl (by decide) rfl
      apply A9
      ·exact I4 rfl rfl (by (simp; done)) (fun _ => rfl)
      exact C4
     ·exact hC2
     refine ⟨⟨rfl, rfl, rfl, dT rfl, rfl⟩, .inl rfl, G7 rfl rfl rfl B0, B6 rfl, fun _ => rfl, fun g21 => ?_⟩
     refine A4 rfl rfl rfl <| xN [4] [0] rfl <| B4 ?_
     refine ⟨_, _, ?_, J1 rfl rfl (I8 rfl rfl)⟩
     exact ⟨_, _, rfl, rfl, by omega, by omega, by omega⟩
    refine B5 <| A3 <| A0 <| C8 (es := List.map iV []) rfl rfl (dT rfl) rfl rfl (fun _ => B1 (A8 fun _ => rfl)) (fun _ => rfl) ?_
    intro g22
    (refine B8 rfl rfl (by (simp; done)) rfl (fun _ => (B1 (by exact A8 fun _ => rfl))) (fun _ => rfl) ?_; intro g5)
    refine xN [0,5] [0,5] rfl <| A3 <| A3 <| A0 <| A5 rfl rfl <| C8 (es := List.map iV [2, 3, 1, 0, 4]) rfl rfl (dT rfl) rfl rfl (fun _ => B1 (A8 fun _ => rfl)) (fun _ => rfl) ?_
    intro g24
    obtain ⟨_, _, ⟨n1, rfl, rfl, hn1⟩, hC3⟩ := d0h (oG := oG) bs (p + 1 + 1) hbs hl (by omega) [2, 3, 1, 0, 4] (by decide)
    have hn1b : 0 ≤ n1 ∧ n1 ≤ 4 := by simp at hn1; omega
    apply xC rfl
    ·apply A9
     ·exact K2 rfl (by decide) rfl
     apply A9
     ·exact I4 rfl rfl (by (simp; done)) (fun _ => rfl)
     exact C4
    ·exact hC3
    refine ⟨⟨rfl, rfl, rfl, dT rfl, rfl⟩, .inl rfl, G7 rfl rfl rfl B0, B6 rfl, fun _ => rfl, fun g25 => ?_⟩
    refine A4 rfl rfl rfl <| xN [0,5,6] [0,5] rfl <| C5 <| H3 (β := List Int × Nat × Int) [(.t 0, _), (.t 6, _)] (fun (z : List Int × Nat × Int) => match z with | (xs, g, q) => [(.h 0, .obj 1 4 0 [rdr bs q]), (.t 5, .sl 5 g none 0 xs.length), (.h 5, .obj g 0 1 (xs.map iV))]) (fun (z : List Int × Nat × Int) => match z with | (xs, g, q) => (xs.length : Int) ≤ n1 ∧ p ≤ q ∧ q ≤ p + 4 + xs.length ∧ ∀ x ∈ xs, -20 ≤ x ∧ x ≤ 20) (fun (z : List Int × Nat × Int) => match z with | (xs, g, q) => 5 - xs.length) ([], _, _) ⟨rfl, rfl, rfl, rfl, rfl, trivial⟩ ⟨by simp; omega, by omega, by omega, by simp⟩ ?_
    intro z hb
    obtain ⟨xs, g, q⟩ := z
    try dsimp only at hb
    obtain ⟨hx1, hq1, hq2, hxb⟩ := hb
    refine A3 <| A3 <| A0 <| A5 rfl rfl <| M1 rfl rfl <| A5 rfl rfl <| I3 rfl rfl <| xN [0,5,6,29] [0,5] rfl ?_
    refine A7 rfl ?_ ?_ <;> intro hc <;> try simp only [SL] at hc
    ·refine B5 <| C5 <| A0 <| A5 rfl rfl <| A5 rfl rfl ?_
     obtain ⟨_, _, ⟨k2, rfl, rfl, hk2, -⟩, hC4⟩ := Z2 (oG := oG) bs (q) hbs hl (by omega) (41) (by omega)
     have hk2 := hk2 (by omega)
     apply xC rfl
     ·apply A9
      ·exact K2 rfl (by decide) rfl
      apply A9
      ·exact B2 rfl
      exact C4
     ·exact hC4
     refine ⟨⟨rfl, rfl, rfl, dT rfl, rfl⟩, .inl rfl, G7 rfl rfl rfl B0, B6 rfl, fun _ => rfl, fun g32 => ?_⟩
     refine a1f rfl rfl (E7 (by omega)) <| C8 (es := List.map iV [k2 - 20]) rfl rfl (dT rfl) rfl rfl (fun _ => B1 (A8 fun _ => rfl)) (fun _ => rfl) ?_
     intro g34
     refine G6 rfl rfl rfl rfl (by (simp; done)) (by simp) (by decide) rfl rfl rfl rfl (dT rfl) (fun _ => ⟨rfl, rfl⟩) (by simp only [H2]; (simp only [List.length_nil, List.length_cons, List.length_append, Nat.zero_add, List.length_map]; omega)) (fun _ => rfl) ?_
     intro g35
     (refine B8 rfl rfl (by (simp; done)) rfl (fun _ => (B1 (by exact A8 fun _ => rfl))) (fun _ => rfl) ?_; intro g5)
     refine xN [0,5,6] [0,5] rfl ?_
     refine ⟨(xs ++ [k2 - 20], _, q + 1), ?_, (by simp only [List.length_append, List.length_singleton]; omega), ⟨rfl, rfl, rfl, rfl, rfl, trivial⟩⟩
     refine ⟨?_, ?_, ?_, fun x hx => ?_⟩
     ·simp only [List.length_append, List.length_singleton]; omega
     ·omega
     ·simp only [List.length_append, List.length_singleton]; omega
     rcases List.mem_append.1 hx with hx | hx
     ·exact hxb x hx
     rw [List.mem_singleton.1 hx]; omega
    refine H1 <| A3 <| A0 <| A5 rfl rfl ?_
    have hll := a0g (ns := xs) (fun n hn => by have := hxb n hn; omega)
    apply xC rfl
    ·apply A9
     ·exact L4 rfl rfl rfl (by (simp; done)) (fun _ => rfl)
     exact C4
    ·exact a5z xs (by omega) (fun n hn => by have := hxb n hn; omega)
    refine ⟨⟨rfl, rfl, rfl, dT rfl, rfl⟩, .inr ⟨rfl, rfl⟩, B0, B6 rfl, fun _ => rfl, fun g37 => ?_⟩
    iterate 2 refine K5 rfl rfl (by simp only [H2, List.length_append, List.length_cons, List.length_nil]; omega) ?_
    refine A4 rfl rfl rfl <| xN [4] [0] rfl <| B4 ?_
    refine ⟨_, _, ?_, J1 rfl rfl (I8 rfl rfl)⟩
    exact ⟨_, _, rfl, rfl, by omega, by omega, by (simp only [List.length_append, List.length_cons, List.length_nil]; omega)⟩
   obtain ⟨d1, rfl⟩ : ∃ d1, d = d1 + 1 := ⟨d - 1, by omega⟩
   have hge : gN (d1 + 1) = 2 * gN d1 + 20 := rfl
   have hle : lN (d1 + 1) = 2 * lN d1 + 60 := rfl
   have hgp := b6p d1
   have hlp := c2w d1
   have hlm := c5g (d := d1 + 1) hd
   refine B5 <| A3 <| A3 <| A0 <| A5 rfl rfl ?_
   obtain ⟨_, _, ⟨k3, rfl, rfl, hk3, -⟩, hC5⟩ := Z2 (oG := oG) bs (p + 1) hbs hl (by omega) (4) (by omega)
   have hk3 := hk3 (by omega)
   apply xC rfl
   ·apply A9
    ·exact K2 rfl (by decide) rfl
    apply A9
    ·exact B2 rfl
    exact C4
   ·exact hC5
   refine ⟨⟨rfl, rfl, rfl, dT rfl, rfl⟩, .inl rfl, G7 rfl rfl rfl B0, B6 rfl, fun _ => rfl, fun g41 => ?_⟩
   refine Q1 rfl rfl <| xN [0,1,42] [0] rfl ?_
   refine A7 rfl ?_ ?_ <;> intro hc <;> try simp only [SL] at hc
   ·refine A3 <| A0 <| A5 rfl rfl <| A5 rfl rfl <| a1f rfl rfl (E7 (by omega)) ?_
    obtain ⟨_, _, ⟨x1, q1, rfl, rfl, hx11, hx12, hx13⟩, hC6⟩ := ih bs (p + 1 + 1) d1 hbs hl (by omega) (by omega) (by omega)
    rw [show ((d1 + 1 : Nat) : Int) - 1 = (d1 : Int) by omega]
    apply xC rfl
    ·apply A9
     ·exact K2 rfl (by decide) rfl
     apply A9
     ·exact B2 rfl
     exact C4
    ·exact hC6
    refine ⟨⟨rfl, rfl, rfl, dT rfl, rfl⟩, .inl rfl, G7 rfl rfl rfl B0, B6 rfl, fun _ => rfl, fun g46 => ?_⟩
    refine A4 rfl rfl rfl <| xN [0,1,7] [0] rfl <| A3 <| A0 <| A5 rfl rfl <| A4 rfl rfl rfl <| xN [0,1,7,8] [0] rfl <| A3 <| A3 <| A0 <| A5 rfl rfl ?_
    obtain ⟨_, _, ⟨k4, rfl, rfl, hk4, -⟩, hC7⟩ := Z2 (oG := oG) bs (q1) hbs hl (by omega) (2) (by omega)
    have hk4 := hk4 (by omega)
    apply xC rfl
    ·apply A9
     ·exact K2 rfl (by decide) rfl
     apply A9
     ·exact B2 rfl
     exact C4
    ·exact hC7
    refine ⟨⟨rfl, rfl, rfl, dT rfl, rfl⟩, .inl rfl, G7 rfl rfl rfl B0, B6 rfl, fun _ => rfl, fun g49 => ?_⟩
    refine Q1 rfl rfl <| xN [0,1,7,8,50] [0] rfl ?_
    refine A7 rfl ?_ ?_ <;> intro hc <;> try simp only [SL] at hc
    ·refine A0 <| A5 rfl rfl <| A5 rfl rfl <| a1f rfl rfl (E7 (by omega)) ?_
     obtain ⟨_, _, ⟨x2, q2, rfl, rfl, hx21, hx22, hx23⟩, hC8⟩ := ih bs (q1 + 1) d1 hbs hl (by omega) (by omega) (by omega)
     rw [show ((d1 + 1 : Nat) : Int) - 1 = (d1 : Int) by omega]
     apply xC rfl
     ·apply A9
      ·exact K2 rfl (by decide) rfl
      apply A9
      ·exact B2 rfl
      exact C4
     ·exact hC8
     refine ⟨⟨rfl, rfl, rfl, dT rfl, rfl⟩, .inl rfl, G7 rfl rfl rfl B0, B6 rfl, fun _ => rfl, fun g54 => ?_⟩
     refine A4 rfl rfl rfl <| xN [0,7,8] [0] rfl <| A3 <| A0 <| A5 rfl rfl <| C8 (es := List.map tV [[97, 100, 100], [106, 111, 105, 110], [106, 111, 105, 110]]) rfl rfl (dT rfl) rfl rfl (fun _ => B1 (A8 fun _ => rfl)) (fun _ => rfl) ?_
     intro g56
     obtain ⟨_, _, ⟨w2, rfl, rfl, hw2⟩, hC9⟩ := a9m (oG := oG) bs (q2) hbs hl (by omega) [[97, 100, 100], [106, 111, 105, 110], [106, 111, 105, 110]] (by decide)
     have hw2b : w2.length ≤ 4 := by have hall : ∀ x ∈ ([[97, 100, 100], [106, 111, 105, 110], [106, 111, 105, 110]] : List W8), x.length ≤ 4 := (by decide); exact hall _ hw2
     apply xC rfl
     ·apply A9
      ·exact K2 rfl (by decide) rfl
      apply A9
      ·exact I4 rfl rfl (by (simp; done)) (fun _ => rfl)
      exact C4
     ·exact hC9
     refine ⟨⟨rfl, rfl, rfl, dT rfl, rfl⟩, .inl rfl, G7 rfl rfl rfl B0, B6 rfl, fun _ => rfl, fun g57 => ?_⟩
     refine K5 rfl rfl (by simp only [H2, List.length_append, List.length_cons, List.length_nil]; omega) <| A5 rfl rfl ?_
     iterate 2 refine K5 rfl rfl (by simp only [H2, List.length_append, List.length_cons, List.length_nil]; omega) ?_
     refine A5 rfl rfl <| K5 rfl rfl (by simp only [H2, List.length_append, List.length_cons, List.length_nil]; omega) <| A4 rfl rfl rfl <| xN [4] [0] rfl <| B4 ?_
     refine ⟨_, _, ?_, J1 rfl rfl (I8 rfl rfl)⟩
     exact ⟨_, _, rfl, rfl, by omega, by omega, by (simp only [List.length_append, List.length_cons, List.length_nil]; omega)⟩
    refine B5 <| A3 <| A0 <| A5 rfl rfl <| C8 (es := List.map tV [[97, 100, 100], [106, 111, 105, 110], [106, 111, 105, 110]]) rfl rfl (dT rfl) rfl rfl (fun _ => B1 (A8 fun _ => rfl)) (fun _ => rfl) ?_
    intro g56
    obtain ⟨_, _, ⟨w2, rfl, rfl, hw2⟩, hC9⟩ := a9m (oG := oG) bs (q1 + 1) hbs hl (by omega) [[97, 100, 100], [106, 111, 105, 110], [106, 111, 105, 110]] (by decide)
    have hw2b : w2.length ≤ 4 := by have hall : ∀ x ∈ ([[97, 100, 100], [106, 111, 105, 110], [106, 111, 105, 110]] : List W8), x.length ≤ 4 := (by decide); exact hall _ hw2
    apply xC rfl
    ·apply A9
     ·exact K2 rfl (by decide) rfl
     apply A9
     ·exact I4 rfl rfl (by (simp; done)) (fun _ => rfl)
     exact C4
    ·exact hC9
    refine ⟨⟨rfl, rfl, rfl, dT rfl, rfl⟩, .inl rfl, G7 rfl rfl rfl B0, B6 rfl, fun _ => rfl, fun g57 => ?_⟩
    refine K5 rfl rfl (by simp only [H2, List.length_append, List.length_cons, List.length_nil]; omega) <| A5 rfl rfl ?_
    iterate 2 refine K5 rfl rfl (by simp only [H2, List.length_append, List.length_cons, List.length_nil]; omega) ?_
    refine A5 rfl rfl <| K5 rfl rfl (by simp only [H2, List.length_append, List.length_cons, List.length_nil]; omega) <| A4 rfl rfl rfl <| xN [4] [0] rfl <| B4 ?_
    refine ⟨_, _, ?_, J1 rfl rfl (I8 rfl rfl)⟩
    exact ⟨_, _, rfl, rfl, by omega, by omega, by (simp only [List.length_append, List.length_cons, List.length_nil]; omega)⟩
   refine B5 <| A3 <| A0 <| A5 rfl rfl <| C8 (es := List.map tV [[115, 111, 114, 116], [114, 101, 118], [110, 101, 103], [97, 98, 115], [100, 105, 102, 102], [115, 117, 109, 115], [114, 97, 110, 107, 115], [116, 111, 116, 97, 108], [115, 111, 114, 116], [114, 101, 118], [110, 101, 103], [97, 98, 115]]) rfl rfl (dT rfl) rfl rfl (fun _ => B1 (A8 fun _ => rfl)) (fun _ => rfl) ?_
   intro g65
   obtain ⟨_, _, ⟨w3, rfl, rfl, hw3⟩, hC10⟩ := a9m (oG := oG) bs (p + 1 + 1) hbs hl (by omega) [[115, 111, 114, 116], [114, 101, 118], [110, 101, 103], [97, 98, 115], [100, 105, 102, 102], [115, 117, 109, 115], [114, 97, 110, 107, 115], [116, 111, 116, 97, 108], [115, 111, 114, 116], [114, 101, 118], [110, 101, 103], [97, 98, 115]] (by decide)
   have hw3b : w3.length ≤ 5 := by have hall : ∀ x ∈ ([[115, 111, 114, 116], [114, 101, 118], [110, 101, 103], [97, 98, 115], [100, 105, 102, 102], [115, 117, 109, 115], [114, 97, 110, 107, 115], [116, 111, 116, 97, 108], [115, 111, 114, 116], [114, 101, 118], [110, 101, 103], [97, 98, 115]] : List W8), x.length ≤ 5 := (by decide); exact hall _ hw3
   apply xC rfl
   ·apply A9
    ·exact K2 rfl (by decide) rfl
    apply A9
    ·exact I4 rfl rfl (by (simp; done)) (fun _ => rfl)
    exact C4
   ·exact hC10
   refine ⟨⟨rfl, rfl, rfl, dT rfl, rfl⟩, .inl rfl, G7 rfl rfl rfl B0, B6 rfl, fun _ => rfl, fun g66 => ?_⟩
   refine K5 rfl rfl (by simp only [H2, List.length_append, List.length_cons, List.length_nil]; omega) <| A5 rfl rfl <| A5 rfl rfl <| a1f rfl rfl (E7 (by omega)) ?_
   obtain ⟨_, _, ⟨x3, q3, rfl, rfl, hx31, hx32, hx33⟩, hC11⟩ := ih bs (p + 1 + 1 + 1) d1 hbs hl (by omega) (by omega) (by omega)
   rw [show ((d1 + 1 : Nat) : Int) - 1 = (d1 : Int) by omega]
   apply xC rfl
   ·apply A9
    ·exact K2 rfl (by decide) rfl
    apply A9
    ·exact B2 rfl
    exact C4
   ·exact hC11
   refine ⟨⟨rfl, rfl, rfl, dT rfl, rfl⟩, .inl rfl, G7 rfl rfl rfl B0, B6 rfl, fun _ => rfl, fun g71 => ?_⟩
   refine K5 rfl rfl (by simp only [H2, List.length_append, List.length_cons, List.length_nil]; omega) <| A4 rfl rfl rfl <| xN [4] [0] rfl <| B4 ?_
   refine ⟨_, _, ?_, J1 rfl rfl (I8 rfl rfl)⟩
   exact ⟨_, _, rfl, rfl, by omega, by omega, by (simp only [List.length_append, List.length_cons, List.length_nil]; omega)⟩
  refine gF rfl rfl <| gF rfl rfl <| G1 rfl (by assumption) rfl rfl <| xN [0,1,15] [0] rfl ?_
  refine A7 rfl (fun hc => ?_) (fun hc => absurd hc (by decide))
  refine A3 <| A3 <| A0 <| A5 rfl rfl ?_
  obtain ⟨_, _, ⟨k1, rfl, rfl, hk1, -⟩, hC1⟩ := Z2 (oG := oG) bs (p) hbs hl (by omega) (2) (by omega)
  have hk1 := hk1 (by omega)
  apply xC rfl
  ·apply A9
   ·exact K2 rfl (by decide) rfl
   apply A9
   ·exact B2 rfl
   exact C4
  ·exact hC1
  refine ⟨⟨rfl, rfl, rfl, dT rfl, rfl⟩, .inl rfl, G7 rfl rfl rfl B0, B6 rfl, fun _ => rfl, fun g17 => ?_⟩
  refine Q1 rfl rfl <| xN [0,18] [0] rfl ?_
  refine A7 rfl ?_ ?_ <;> intro hc <;> try simp only [SL] at hc
  ·refine A3 <| A0 <| A5 rfl rfl <| C8 (es := List.map tV [[97], [98], [97], [99], [100]]) rfl rfl (dT rfl) rfl rfl (fun _ => B1 (A8 fun _ => rfl)) (fun _ => rfl) ?_
   intro g20
   obtain ⟨_, _, ⟨w1, rfl, rfl, hw1⟩, hC2⟩ := a9m (oG := oG) bs (p + 1) hbs hl (by omega) [[97], [98], [97], [99], [100]] (by decide)
   have hw1b : w1.length ≤ 1 := by have hall : ∀ x ∈ ([[97], [98], [97], [99], [100]] : List W8), x.length ≤ 1 := (by decide); exact hall _ hw1
   apply xC rfl
   ·apply A9
    ·exact K2 rfl (by decide) rfl
    apply A9
    ·exact I4 rfl rfl (by (simp; done)) (fun _ => rfl)
    exact C4
   ·exact hC2
   refine ⟨⟨rfl, rfl, rfl, dT rfl, rfl⟩, .inl rfl, G7 rfl rfl rfl B0, B6 rfl, fun _ => rfl, fun g21 => ?_⟩
   refine A4 rfl rfl rfl <| xN [4] [0] rfl <| B4 ?_
   refine ⟨_, _, ?_, J1 rfl rfl (I8 rfl rfl)⟩
   exact ⟨_, _, rfl, rfl, by omega, by omega, by omega⟩
  refine B5 <| A3 <| A0 <| C8 (es := List.map iV []) rfl rfl (dT rfl) rfl rfl (fun _ => B1 (A8 fun _ => rfl)) (fun _ => rfl) ?_
  intro g22
  (refine B8 rfl rfl (by (simp; done)) rfl (fun _ => (B1 (by exact A8 fun _ => rfl))) (fun _ => rfl) ?_; intro g5)
  refine xN [0,5] [0,5] rfl <| A3 <| A3 <| A0 <| A5 rfl rfl <| C8 (es := List.map iV [2, 3, 1, 0, 4]) rfl rfl (dT rfl) rfl rfl (fun _ => B1 (A8 fun _ => rfl)) (fun _ => rfl) ?_
  intro g24
  obtain ⟨_, _, ⟨n1, rfl, rfl, hn1⟩, hC3⟩ := d0h (oG := oG) bs (p + 1) hbs hl (by omega) [2, 3, 1, 0, 4] (by decide)
  have hn1b : 0 ≤ n1 ∧ n1 ≤ 4 := by simp at hn1; omega
  apply xC rfl
  ·apply A9
   ·exact K2 rfl (by decide) rfl
   apply A9
   ·exact I4 rfl rfl (by (simp; done)) (fun _ => rfl)
   exact C4
  ·exact hC3
  refine ⟨⟨rfl, rfl, rfl, dT rfl, rfl⟩, .inl rfl, G7 rfl rfl rfl B0, B6 rfl, fun _ => rfl, fun g25 => ?_⟩
  refine A4 rfl rfl rfl <| xN [0,5,6] [0,5] rfl <| C5 <| H3 (β := List Int × Nat × Int) [(.t 0, _), (.t 6, _)] (fun (z : List Int × Nat × Int) => match z with | (xs, g, q) => [(.h 0, .obj 1 4 0 [rdr bs q]), (.t 5, .sl 5 g none 0 xs.length), (.h 5, .obj g 0 1 (xs.map iV))]) (fun (z : List Int × Nat × Int) => match z with | (xs, g, q) => (xs.length : Int) ≤ n1 ∧ p ≤ q ∧ q ≤ p + 4 + xs.length ∧ ∀ x ∈ xs, -20 ≤ x ∧ x ≤ 20) (fun (z : List Int × Nat × Int) => match z with | (xs, g, q) => 5 - xs.length) ([], _, _) ⟨rfl, rfl, rfl, rfl, rfl, trivial⟩ ⟨by simp; omega, by omega, by omega, by simp⟩ ?_
  intro z hb
  obtain ⟨xs, g, q⟩ := z
  try dsimp only at hb
  obtain ⟨hx1, hq1, hq2, hxb⟩ := hb
  refine A3 <| A3 <| A0 <| A5 rfl rfl <| M1 rfl rfl <| A5 rfl rfl <| I3 rfl rfl <| xN [0,5,6,29] [0,5] rfl ?_
  refine A7 rfl ?_ ?_ <;> intro hc <;> try simp only [SL] at hc
  ·refine B5 <| C5 <| A0 <| A5 rfl rfl <| A5 rfl rfl ?_
   obtain ⟨_, _, ⟨k2, rfl, rfl, hk2, -⟩, hC4⟩ := Z2 (oG := oG) bs (q) hbs hl (by omega) (41) (by omega)
   have hk2 := hk2 (by omega)
   apply xC rfl
   ·apply A9
    ·exact K2 rfl (by decide) rfl
    apply A9
    ·exact B2 rfl
    exact C4
   ·exact hC4
   refine ⟨⟨rfl, rfl, rfl, dT rfl, rfl⟩, .inl rfl, G7 rfl rfl rfl B0, B6 rfl, fun _ => rfl, fun g32 => ?_⟩
   refine a1f rfl rfl (E7 (by omega)) <| C8 (es := List.map iV [k2 - 20]) rfl rfl (dT rfl) rfl rfl (fun _ => B1 (A8 fun _ => rfl)) (fun _ => rfl) ?_
   intro g34
   refine G6 rfl rfl rfl rfl (by (simp; done)) (by simp) (by decide) rfl rfl rfl rfl (dT rfl) (fun _ => ⟨rfl, rfl⟩) (by simp only [H2]; (simp only [List.length_nil, List.length_cons, List.length_append, Nat.zero_add, List.length_map]; omega)) (fun _ => rfl) ?_
   intro g35
   (refine B8 rfl rfl (by (simp; done)) rfl (fun _ => (B1 (by exact A8 fun _ => rfl))) (fun _ => rfl) ?_; intro g5)
   refine xN [0,5,6] [0,5] rfl ?_
   refine ⟨(xs ++ [k2 - 20], _, q + 1), ?_, (by simp only [List.length_append, List.length_singleton]; omega), ⟨rfl, rfl, rfl, rfl, rfl, trivial⟩⟩
   refine ⟨?_, ?_, ?_, fun x hx => ?_⟩
   ·simp only [List.length_append, List.length_singleton]; omega
   ·omega
   ·simp only [List.length_append, List.length_singleton]; omega
   rcases List.mem_append.1 hx with hx | hx
   ·exact hxb x hx
   rw [List.mem_singleton.1 hx]; omega
  refine H1 <| A3 <| A0 <| A5 rfl rfl ?_
  have hll := a0g (ns := xs) (fun n hn => by have := hxb n hn; omega)
  apply xC rfl
  ·apply A9
   ·exact L4 rfl rfl rfl (by (simp; done)) (fun _ => rfl)
   exact C4
  ·exact a5z xs (by omega) (fun n hn => by have := hxb n hn; omega)
  refine ⟨⟨rfl, rfl, rfl, dT rfl, rfl⟩, .inr ⟨rfl, rfl⟩, B0, B6 rfl, fun _ => rfl, fun g37 => ?_⟩
  iterate 2 refine K5 rfl rfl (by simp only [H2, List.length_append, List.length_cons, List.length_nil]; omega) ?_
  refine A4 rfl rfl rfl <| xN [4] [0] rfl <| B4 ?_
  refine ⟨_, _, ?_, J1 rfl rfl (I8 rfl rfl)⟩
  exact ⟨_, _, rfl, rfl, by omega, by omega, by (simp only [List.length_append, List.length_cons, List.length_nil]; omega)⟩

theorem keep_s_mutate : G0 Tryz.f95 = [0, 1, 4, 12, 13, 5, 19, 32, 37] := by kernel_rfl
set_option maxHeartbeats 20000000 in
theorem c9o (bs : List Int) (p : Int) (hbs : a3e bs) (hl : bs.length ≤ 1048576) (hp : 0 ≤ p ∧ p ≤ 100000000) (s : W8) (hs : s.length ≤ 100000) : ∃ res outs, (fun res outs => ∃ (x : W8) (q : Int), res = tV x ∧ outs = [[rdr bs q]] ∧ p ≤ q ∧ q ≤ p + 10 ∧ x.length ≤ s.length + 10) res outs ∧ CW (cxT oG) 95 [.ownp [rdr bs p] 0 0, tV s] = some (res, outs) := by
 refine R9 rfl Tryz.func95 rfl ⟨by kernel_rfl, rfl, dT rfl, dT rfl, by decide⟩ keep_s_mutate <| A3 <| A0 <| A4 rfl rfl rfl <| xN [0,1] [0] rfl <| A3 <| A0 <| A5 rfl rfl <| A5 rfl rfl <| a1j rfl rfl <| G9 rfl rfl (E7 (by omega)) ?_
 obtain ⟨_, _, ⟨k0, rfl, rfl, hk0, -⟩, hC0⟩ := Z2 (oG := oG) bs (p) hbs hl (by omega) (s.length + 1) (by omega)
 have hk0 := hk0 (by omega)
 apply xC rfl
 ·apply A9
  ·exact K2 rfl (by decide) rfl
  apply A9
  ·exact B2 rfl
  exact C4
 ·exact hC0
 refine ⟨⟨rfl, rfl, rfl, dT rfl, rfl⟩, .inl rfl, G7 rfl rfl rfl B0, B6 rfl, fun _ => rfl, fun g10 => ?_⟩
 refine A4 rfl rfl rfl <| xN [0,1,5] [0] rfl <| A3 <| A3 <| A0 <| A5 rfl rfl ?_
 obtain ⟨_, _, ⟨k1, rfl, rfl, hk1, -⟩, hC1⟩ := Z2 (oG := oG) bs (p + 1) hbs hl (by omega) (5) (by omega)
 have hk1 := hk1 (by omega)
 apply xC rfl
 ·apply A9
  ·exact K2 rfl (by decide) rfl
  apply A9
  ·exact B2 rfl
  exact C4
 ·exact hC1
 refine ⟨⟨rfl, rfl, rfl, dT rfl, rfl⟩, .inl rfl, G7 rfl rfl rfl B0, B6 rfl, fun _ => rfl, fun g12 => ?_⟩
 refine xN [0,1,5,12] [0] rfl <| C5 <| A3 <| A3 <| A0 <| Q1 rfl rfl <| A4 rfl rfl rfl <| xN [0,1,5,12,13] [0] rfl ?_
 refine A7 rfl ?_ ?_ <;> intro hc <;> try simp only [SL] at hc
 ·refine B5 ?_
  refine A7 rfl (fun hc => ?_) (fun hc => absurd hc (by simp_all))
  refine A3 <| A0 <| A5 rfl rfl <| A5 rfl rfl <| a1j rfl rfl <| I3 rfl rfl <| xN [0,1,5,19] [0] rfl ?_
  refine A7 rfl ?_ ?_ <;> intro hc <;> try simp only [SL] at hc
  ·refine A3 <| A0 <| A5 rfl rfl <| A5 rfl rfl <| T7 rfl rfl (O5 rfl (by omega)) I0 (by omega) <| A5 rfl rfl <| C8 (es := List.map tV [[48], [49], [97], [44], [45], [93], [32]]) rfl rfl (dT rfl) rfl rfl (fun _ => B1 (A8 fun _ => rfl)) (fun _ => rfl) ?_
   intro g24
   obtain ⟨_, _, ⟨w1, rfl, rfl, hw1⟩, hC2⟩ := a9m (oG := oG) bs (p + 1 + 1) hbs hl (by omega) [[48], [49], [97], [44], [45], [93], [32]] (by decide)
   have hw1b : w1.length ≤ 1 := by have hall : ∀ x ∈ ([[48], [49], [97], [44], [45], [93], [32]] : List W8), x.length ≤ 1 := (by decide); exact hall _ hw1
   apply xC rfl
   ·apply A9
    ·exact K2 rfl (by decide) rfl
    apply A9
    ·exact I4 rfl rfl (by (simp; done)) (fun _ => rfl)
    exact C4
   ·exact hC2
   refine ⟨⟨rfl, rfl, rfl, dT rfl, rfl⟩, .inl rfl, G7 rfl rfl rfl B0, B6 rfl, fun _ => rfl, fun g25 => ?_⟩
   refine K5 rfl rfl (by simp only [H2, List.length_append, List.length_take, List.length_drop]; omega) <| A5 rfl rfl <| A5 rfl rfl <| G9 rfl rfl (E7 (by omega)) <| T7 rfl rfl I0 (O5 rfl (by omega)) (by omega) <| K5 rfl rfl (by simp only [H2, List.length_append, List.length_take, List.length_drop]; omega) <| A4 rfl rfl rfl ?_
   refine P7 ⟨fun _ => ⟨by (simp only [a1p, List.nil_append, List.append_nil, List.map_cons, List.map_nil, List.cons_append]; decide +kernel), by decide +kernel⟩, [(.t 4, _), (.h 0, _)], ⟨rfl, rfl, rfl, rfl, trivial⟩, ?_⟩
   refine B4 ?_
   refine ⟨_, _, ?_, J1 rfl rfl (I8 rfl rfl)⟩
   exact ⟨_, _, rfl, rfl, by omega, by omega, by (simp only [List.length_append, List.length_cons, List.length_nil, List.length_take, List.length_drop]; omega)⟩
  refine B5 <| A3 <| A0 <| A5 rfl rfl <| A4 rfl rfl rfl <| xN [4] [0] rfl <| B4 ?_
  refine ⟨_, _, ?_, J1 rfl rfl (I8 rfl rfl)⟩
  exact ⟨_, _, rfl, rfl, by omega, by omega, by omega⟩
 refine A0 <| Q1 rfl rfl <| A4 rfl rfl rfl <| xN [0,1,5,12,13] [0] rfl ?_
 refine A7 rfl ?_ ?_ <;> intro hc <;> try simp only [SL] at hc
 ·refine A3 <| A0 <| A5 rfl rfl <| A5 rfl rfl <| a1j rfl rfl <| I3 rfl rfl <| xN [0,1,5,19] [0] rfl ?_
  refine A7 rfl ?_ ?_ <;> intro hc <;> try simp only [SL] at hc
  ·refine A3 <| A0 <| A5 rfl rfl <| A5 rfl rfl <| T7 rfl rfl (O5 rfl (by omega)) I0 (by omega) <| A5 rfl rfl <| C8 (es := List.map tV [[48], [49], [97], [44], [45], [93], [32]]) rfl rfl (dT rfl) rfl rfl (fun _ => B1 (A8 fun _ => rfl)) (fun _ => rfl) ?_
   intro g24
   obtain ⟨_, _, ⟨w1, rfl, rfl, hw1⟩, hC2⟩ := a9m (oG := oG) bs (p + 1 + 1) hbs hl (by omega) [[48], [49], [97], [44], [45], [93], [32]] (by decide)
   have hw1b : w1.length ≤ 1 := by have hall : ∀ x ∈ ([[48], [49], [97], [44], [45], [93], [32]] : List W8), x.length ≤ 1 := (by decide); exact hall _ hw1
   apply xC rfl
   ·apply A9
    ·exact K2 rfl (by decide) rfl
    apply A9
    ·exact I4 rfl rfl (by (simp; done)) (fun _ => rfl)
    exact C4
   ·exact hC2
   refine ⟨⟨rfl, rfl, rfl, dT rfl, rfl⟩, .inl rfl, G7 rfl rfl rfl B0, B6 rfl, fun _ => rfl, fun g25 => ?_⟩
   refine K5 rfl rfl (by simp only [H2, List.length_append, List.length_take, List.length_drop]; omega) <| A5 rfl rfl <| A5 rfl rfl <| G9 rfl rfl (E7 (by omega)) <| T7 rfl rfl I0 (O5 rfl (by omega)) (by omega) <| K5 rfl rfl (by simp only [H2, List.length_append, List.length_take, List.length_drop]; omega) <| A4 rfl rfl rfl ?_
   refine P7 ⟨fun _ => ⟨by (simp only [a1p, List.nil_append, List.append_nil, List.map_cons, List.map_nil, List.cons_append]; decide +kernel), by decide +kernel⟩, [(.t 4, _), (.h 0, _)], ⟨rfl, rfl, rfl, rfl, trivial⟩, ?_⟩
   refine B4 ?_
   refine ⟨_, _, ?_, J1 rfl rfl (I8 rfl rfl)⟩
   exact ⟨_, _, rfl, rfl, by omega, by omega, by (simp only [List.length_append, List.length_cons, List.length_nil, List.length_take, List.length_drop]; omega)⟩
  refine B5 <| A3 <| A0 <| A5 rfl rfl <| A4 rfl rfl rfl <| xN [4] [0] rfl <| B4 ?_
  refine ⟨_, _, ?_, J1 rfl rfl (I8 rfl rfl)⟩
  exact ⟨_, _, rfl, rfl, by omega, by omega, by omega⟩
 refine A3 <| A0 <| Q1 rfl rfl <| A4 rfl rfl rfl <| xN [0,1,5,12,32] [0] rfl ?_
 refine A7 rfl ?_ ?_ <;> intro hc <;> try simp only [SL] at hc
 ·refine A3 <| A0 <| A5 rfl rfl <| A5 rfl rfl <| T7 rfl rfl (O5 rfl (by omega)) I0 (by omega) <| A4 rfl rfl rfl <| xN [4] [0] rfl <| B4 ?_
  refine ⟨_, _, ?_, J1 rfl rfl (I8 rfl rfl)⟩
  exact ⟨_, _, rfl, rfl, by omega, by omega, by (simp only [List.length_append, List.length_cons, List.length_nil, List.length_take, List.length_drop]; omega)⟩
 refine A3 <| A0 <| Q1 rfl rfl <| A4 rfl rfl rfl <| xN [0,1,37] [0] rfl ?_
 refine A7 rfl ?_ ?_ <;> intro hc <;> try simp only [SL] at hc
 ·refine A3 <| A0 <| A5 rfl rfl <| A5 rfl rfl <| C8 (es := List.map tV [[48], [44], [32], [32, 97]]) rfl rfl (dT rfl) rfl rfl (fun _ => B1 (A8 fun _ => rfl)) (fun _ => rfl) ?_
  intro g41
  obtain ⟨_, _, ⟨w2, rfl, rfl, hw2⟩, hC3⟩ := a9m (oG := oG) bs (p + 1 + 1) hbs hl (by omega) [[48], [44], [32], [32, 97]] (by decide)
  have hw2b : w2.length ≤ 2 := by have hall : ∀ x ∈ ([[48], [44], [32], [32, 97]] : List W8), x.length ≤ 2 := (by decide); exact hall _ hw2
  apply xC rfl
  ·apply A9
   ·exact K2 rfl (by decide) rfl
   apply A9
   ·exact I4 rfl rfl (by (simp; done)) (fun _ => rfl)
   exact C4
  ·exact hC3
  refine ⟨⟨rfl, rfl, rfl, dT rfl, rfl⟩, .inl rfl, G7 rfl rfl rfl B0, B6 rfl, fun _ => rfl, fun g42 => ?_⟩
  refine K5 rfl rfl (by simp only [H2, List.length_append, List.length_cons, List.length_nil]; omega) <| A4 rfl rfl rfl <| xN [4] [0] rfl <| B4 ?_
  refine ⟨_, _, ?_, J1 rfl rfl (I8 rfl rfl)⟩
  exact ⟨_, _, rfl, rfl, by omega, by omega, by (simp only [List.length_append, List.length_cons, List.length_nil, List.length_take, List.length_drop]; omega)⟩
 refine B5 <| A3 <| A0 <| A5 rfl rfl <| A4 rfl rfl rfl <| xN [4] [0] rfl <| B4 ?_
 refine ⟨_, _, ?_, J1 rfl rfl (I8 rfl rfl)⟩
 exact ⟨_, _, rfl, rfl, by omega, by omega, by omega⟩

theorem keep_s_somePlan : G0 Tryz.f55 = [0, 2, 11, 3] := by kernel_rfl
set_option maxHeartbeats 20000000 in
theorem c2q (bs : List Int) (p : Int) (hbs : a3e bs) (hl : bs.length ≤ 1048576) (hp : 0 ≤ p ∧ p ≤ 1000000) : ∃ res outs, (fun res outs => ∃ (x : W8) (q : Int), res = tV x ∧ outs = [[rdr bs q]] ∧ p ≤ q ∧ q ≤ p + 3000 ∧ x.length ≤ 5000) res outs ∧ CW (cxT oG) 55 [.ownp [rdr bs p] 0 0] = some (res, outs) := by
 refine R9 rfl Tryz.func55 rfl ⟨by kernel_rfl, rfl, dT rfl, dT rfl, by decide⟩ keep_s_somePlan <| A3 <| A0 <| A4 rfl rfl rfl <| xN [0] [0] rfl <| A3 <| A0 <| A5 rfl rfl <| A5 rfl rfl <| C8 (es := List.map iV [3, 4, 2, 5, 1, 0]) rfl rfl (dT rfl) rfl rfl (fun _ => B1 (A8 fun _ => rfl)) (fun _ => rfl) ?_
 intro g6
 obtain ⟨_, _, ⟨k0, rfl, rfl, hk0⟩, hC0⟩ := d0h (oG := oG) bs (p) hbs hl (by omega) [3, 4, 2, 5, 1, 0] (by decide)
 have hk0b : 0 ≤ k0 ∧ k0 ≤ 5 := by simp at hk0; omega
 obtain ⟨d, rfl⟩ : ∃ d : Nat, k0 = d := ⟨k0.toNat, by omega⟩
 have hgm := d2s (d := d) (by omega)
 have hlm := c5g (d := d) (by omega)
 have hgp := b6p d
 apply xC rfl
 ·apply A9
  ·exact K2 rfl (by decide) rfl
  apply A9
  ·exact I4 rfl rfl (by (simp; done)) (fun _ => rfl)
  exact C4
 ·exact hC0
 refine ⟨⟨rfl, rfl, rfl, dT rfl, rfl⟩, .inl rfl, G7 rfl rfl rfl B0, B6 rfl, fun _ => rfl, fun g7 => ?_⟩
 obtain ⟨_, _, ⟨x, q, rfl, rfl, hx1, hx2, hx3⟩, hC1⟩ := c3s (oG := oG) bs (p + 1) d hbs hl (by omega) (by omega)
 apply xC rfl
 ·apply A9
  ·exact K2 rfl (by decide) rfl
  apply A9
  ·exact B2 rfl
  exact C4
 ·exact hC1
 refine ⟨⟨rfl, rfl, rfl, dT rfl, rfl⟩, .inl rfl, G7 rfl rfl rfl B0, B6 rfl, fun _ => rfl, fun g8 => ?_⟩
 refine A4 rfl rfl rfl <| xN [0,3] [0] rfl <| A3 <| A3 <| A0 <| A5 rfl rfl ?_
 obtain ⟨_, _, ⟨k1, rfl, rfl, hk1, -⟩, hC2⟩ := Z2 (oG := oG) bs (q) hbs hl (by omega) (16) (by omega)
 have hk1 := hk1 (by omega)
 apply xC rfl
 ·apply A9
  ·exact K2 rfl (by decide) rfl
  apply A9
  ·exact B2 rfl
  exact C4
 ·exact hC2
 refine ⟨⟨rfl, rfl, rfl, dT rfl, rfl⟩, .inl rfl, G7 rfl rfl rfl B0, B6 rfl, fun _ => rfl, fun g10 => ?_⟩
 refine Q1 rfl rfl <| xN [0,3,11] [0] rfl ?_
 refine A7 rfl ?_ ?_ <;> intro hc <;> try simp only [SL] at hc
 ·refine A0 <| A5 rfl rfl <| A5 rfl rfl ?_
  obtain ⟨_, _, ⟨y, q2, rfl, rfl, hy1, hy2, hy3⟩, hC3⟩ := c9o (oG := oG) bs (q + 1) hbs hl (by omega) x (by omega)
  apply xC rfl
  ·apply A9
   ·exact K2 rfl (by decide) rfl
   apply A9
   ·exact B2 rfl
   exact C4
  ·exact hC3
  refine ⟨⟨rfl, rfl, rfl, dT rfl, rfl⟩, .inl rfl, G7 rfl rfl rfl B0, B6 rfl, fun _ => rfl, fun g14 => ?_⟩
  refine A4 rfl rfl rfl <| xN [3] [0] rfl <| A3 <| A0 <| A5 rfl rfl <| A4 rfl rfl rfl <| xN [2] [0] rfl <| B4 ?_
  refine ⟨_, _, ?_, J1 rfl rfl (I8 rfl rfl)⟩
  exact ⟨_, _, rfl, rfl, by omega, by omega, by omega⟩
 refine B5 <| A3 <| A0 <| A5 rfl rfl <| A4 rfl rfl rfl <| xN [2] [0] rfl <| B4 ?_
 refine ⟨_, _, ?_, J1 rfl rfl (I8 rfl rfl)⟩
 exact ⟨_, _, rfl, rfl, by omega, by omega, by omega⟩

theorem keep_s_drawOneRule : G0 Tryz.f29 = [0, 2] := by kernel_rfl
set_option maxHeartbeats 20000000 in
theorem b4u (bs : List Int) (hbs : a3e bs) (hl : bs.length ≤ 1048576) : ∃ res outs, (fun res outs => ∃ x : W8, res = tV x ∧ outs = [] ∧ x.length ≤ 5000) res outs ∧ CW (cxT oG) 29 [.list (bs.map uV)] = some (res, outs) := by
 refine R9 rfl Tryz.func29 rfl ⟨by kernel_rfl, rfl, dT rfl, dT rfl, by decide⟩ keep_s_drawOneRule <| A3 <| A0 <| A4 rfl rfl rfl <| xN [0] [] rfl <| A3 <| A0 <| A5 rfl rfl ?_
 obtain ⟨_, _, ⟨rfl, rfl⟩, hC0⟩ := b9j (oG := oG) bs hl
 have hbs2 : a3e (bs.take 2000) := fun b hb => hbs b (List.mem_of_mem_take hb)
 have hl2 : (bs.take 2000).length ≤ 1048576 := by simp; omega
 apply xC rfl
 ·apply A9
  ·exact B2 rfl
  exact C4
 ·exact hC0
 refine ⟨⟨rfl, rfl, rfl, dT rfl, rfl⟩, .inl rfl, B0, c9v, fun _ => rfl, fun g4 => ?_⟩
 obtain ⟨_, _, ⟨x, q, rfl, rfl, -, -, hx3⟩, hC1⟩ := c2q (oG := oG) (bs.take 2000) 0 hbs2 hl2 (by omega)
 apply xC rfl
 ·apply A9
  ·exact K2 rfl (by decide) rfl
  exact C4
 ·exact hC1
 refine ⟨⟨rfl, rfl, rfl, dT rfl, rfl⟩, .inl rfl, G7 rfl rfl rfl B0, B6 rfl, fun _ => rfl, fun g5 => ?_⟩
 refine A4 rfl rfl rfl <| xN [2] [] rfl <| B4 ?_
 refine ⟨_, _, ?_, J1 rfl rfl C6⟩
 exact ⟨x, rfl, rfl, hx3⟩

theorem keep_s_equalTexts : G0 Tryz.f31 = [0, 1, 4, 10, 5, 14, 25] := by kernel_rfl
set_option maxHeartbeats 20000000 in
theorem a7b (cs : List W8) (hl : cs.length ≤ 100) : CW (cxT oG) 31 [.list (cs.map tV), .list (cs.map tV)] = some (bV true, []) := by
 refine F9 rfl Tryz.func31 rfl ⟨by kernel_rfl, rfl, dT rfl, dT rfl, by decide⟩ keep_s_equalTexts <| A3 <| A0 <| A4 rfl rfl rfl <| xN [0,1] [] rfl <| A3 <| A3 <| A0 <| A5 rfl rfl <| F6 rfl rfl <| A5 rfl rfl <| F6 rfl rfl <| b8z rfl rfl <| xN [0,1,10] [] rfl ?_
 refine A7 rfl (fun hc => ?_) (fun hc => ?_)
 ·try simp only [SD] at hc
  exact absurd trivial hc
 try simp only [SL] at hc
 refine B5 <| A3 <| A3 <| A0 <| A4 rfl rfl rfl <| xN [0,1,5] [] rfl <| C5 <| H3 (β := Nat) [(.t 0, _), (.t 1, _)] (fun (i : Nat) => [(.t 5, iV i)]) (fun (i : Nat) => i ≤ cs.length) (fun (i : Nat) => cs.length - i) 0 ⟨rfl, rfl, rfl, trivial⟩ (Nat.zero_le _) ?_
 intro i hb
 have hi1 := hb
 refine A3 <| A3 <| A0 <| A5 rfl rfl <| A5 rfl rfl <| F6 rfl rfl <| I3 rfl rfl <| xN [0,1,5,14] [] rfl ?_
 refine A7 rfl ?_ ?_ <;> intro hc <;> try simp only [SL] at hc
 ·refine B5 <| A3 <| C5 <| A3 <| A0 <| A5 rfl rfl <| A5 rfl rfl <| F4 rfl rfl rfl (fun _ => rfl) (by omega) <| E4 rfl rfl rfl <| A5 rfl rfl <| A5 rfl rfl <| F4 rfl rfl rfl (fun _ => rfl) (by omega) <| E4 rfl rfl rfl <| a7k rfl rfl ?_
  refine P7 ⟨fun _ => ⟨by decide +kernel, by decide +kernel⟩, [(.t 0, _), (.t 1, _), (.t 5, _), (.t 25, _)], ⟨rfl, rfl, rfl, rfl, rfl, rfl, rfl, rfl, trivial⟩, ?_⟩
  refine A7 rfl (fun hc => ?_) (fun hc => ?_)
  ·try simp only [SD] at hc
   exact absurd trivial hc
  try simp only [SL] at hc
  refine B5 <| A0 <| A5 rfl rfl <| G9 rfl rfl (E7 (by omega)) <| A4 rfl rfl rfl <| xN [0,1,5] [] rfl ?_
  refine ⟨i + 1, (by omega), (by omega), ⟨rfl, rfl, rfl, trivial⟩⟩
 refine H1 <| A3 <| A0 <| A4 rfl rfl rfl <| xN [4] [] rfl <| B4 <| C7 rfl rfl trivial ?_
 rfl

theorem keep_s_FnOneRule : G0 Tryz.f6 = [0, 2, 8, 3, 4, 22, 5, 30, 50] := by kernel_rfl
set_option maxHeartbeats 20000000 in
theorem b9d (bs : List Int) (hbs : a3e bs) : CW (cxT (some rG)) 6 [.list (bs.map uV)] = some (bV true, []) := by
 refine F9 rfl Tryz.func6 rfl ⟨by kernel_rfl, rfl, dT rfl, dT rfl, by decide⟩ keep_s_FnOneRule <| A3 <| A0 <| A4 rfl rfl rfl <| xN [0] [] rfl <| A3 <| A3 <| A0 <| A5 rfl rfl <| F6 rfl rfl <| Y5 rfl rfl <| xN [0,8] [] rfl ?_
 refine A7 rfl ?_ ?_ <;> intro hc <;> try simp only [SL] at hc
 ·refine A3 <| A0 <| A4 rfl rfl rfl <| xN [2] [] rfl <| B4 <| C7 rfl rfl trivial ?_
  rfl
 refine B5 <| A3 <| A0 <| A5 rfl rfl ?_
 have hl2 : bs.length ≤ 1048576 := by omega
 obtain ⟨_, _, ⟨s, rfl, rfl, hs⟩, hC1⟩ := b4u (oG := some rG) bs hbs hl2
 apply xC rfl
 ·apply A9
  ·exact B2 rfl
  exact C4
 ·exact hC1
 refine ⟨⟨rfl, rfl, rfl, dT rfl, rfl⟩, .inl rfl, B0, B6 rfl, fun _ => rfl, fun g10 => ?_⟩
 refine A4 rfl rfl rfl <| xN [3] [] rfl <| A3 <| A0 <| A5 rfl rfl ?_
 apply xC rfl
 ·apply A9
  ·exact B2 rfl
  exact C4
 ·exact c3c s (by omega)
 refine ⟨⟨rfl, rfl, rfl, dT rfl, rfl⟩, .inl rfl, B0, N1, fun _ => rfl, fun g12 => ?_⟩
 simp only [List.length_map]
 (refine B8 rfl rfl (by (simp; done)) rfl (fun _ => (B1 (by exact A8 fun _ => rfl))) (fun _ => rfl) ?_; intro g4)
 refine xN [3,4] [4] rfl <| A3 <| A3 <| A0 <| A5 rfl rfl <| A5 rfl rfl ?_
 apply xC rfl
 ·apply A9
  ·exact B2 rfl
  exact C4
 ·exact b2b s (by omega)
 refine ⟨⟨rfl, rfl, rfl, dT rfl, rfl⟩, .inl rfl, B0, N1, fun _ => rfl, fun g15 => ?_⟩
 simp only [List.length_map]
 apply xC rfl
 ·apply A9
  ·exact L4 rfl rfl rfl (by (simp; done)) (fun _ => rfl)
  apply A9
  ·exact L4 rfl rfl rfl (by (simp; done)) (fun _ => rfl)
  exact C4
 ·exact a7b (oneT s) (by have := b3k s; omega)
 refine ⟨⟨rfl, rfl, rfl, dT rfl, rfl⟩, .inr ⟨rfl, rfl⟩, B0, B6 rfl, fun _ => rfl, fun g16 => ?_⟩
 refine L9 rfl <| A5 rfl rfl <| J2 rfl rfl rfl <| A5 rfl rfl <| J2 rfl rfl rfl <| M1 rfl rfl <| J2 rfl rfl rfl <| Q1 rfl rfl <| F8 rfl rfl rfl rfl <| xN [3,4,22] [4] rfl ?_
 refine A7 rfl ?_ ?_ <;> intro hc <;> try simp only [SL] at hc
 ·refine A3 <| A0 <| A5 rfl rfl <| A5 rfl rfl ?_
  apply xC rfl
  ·apply A9
   ·exact B2 rfl
   exact C4
  ·exact b2b s (by omega)
  refine ⟨⟨rfl, rfl, rfl, dT rfl, rfl⟩, .inl rfl, B0, N1, fun _ => rfl, fun g25 => ?_⟩
  simp only [List.length_map]
  apply xC rfl
  ·apply A9
   ·exact L4 rfl rfl rfl (by (simp; done)) (fun _ => rfl)
   apply A9
   ·exact L4 rfl rfl rfl (by (simp; done)) (fun _ => rfl)
   exact C4
  ·exact a7b (oneT s) (by have := b3k s; omega)
  refine ⟨⟨rfl, rfl, rfl, dT rfl, rfl⟩, .inr ⟨rfl, rfl⟩, B0, B6 rfl, fun _ => rfl, fun g26 => ?_⟩
  refine A4 rfl rfl rfl <| xN [2] [] rfl <| B4 <| C7 rfl rfl trivial ?_
  rfl
 have hol := b3k s
 have hw3 : a7g s ≠ s := (c1t (s := s) (R8 (i := 0) (by omega))).2.2.1
 refine B5 <| A3 <| A3 <| A0 <| A4 rfl rfl rfl <| xN [3,4,5] [4] rfl <| C5 <| H3 (β := Nat) [(.t 3, _), (.t 4, _), (.h 4, _)] (fun (i : Nat) => [(.t 5, iV i)]) (fun (i : Nat) => i ≤ (oneT s).length) (fun (i : Nat) => (oneT s).length - i) 0 ⟨rfl, rfl, rfl, rfl, trivial⟩ (Nat.zero_le _) ?_
 intro i hb
 have hi1 := hb
 refine A3 <| A3 <| A0 <| A5 rfl rfl <| A5 rfl rfl <| M1 rfl rfl <| I3 rfl rfl <| xN [3,4,5,30] [4] rfl ?_
 refine A7 rfl ?_ ?_ <;> intro hc <;> try simp only [SL] at hc
 ·have hmem : ((oneT s).getD i default) ∈ oneT s := R8 (by omega)
  have hpl := c8h s _ hmem
  obtain ⟨hw1, hw2, -, -⟩ := c1t hmem
  refine B5 <| A3 <| C5 <| A3 <| A0 <| A5 rfl rfl <| A5 rfl rfl <| H9 rfl rfl rfl rfl (by omega) (by (simp; done)) rfl <| I9 rfl rfl (by omega) (fun _ => rfl) (fun _ => rfl) rfl ?_
  apply xC rfl
  ·apply A9
   ·exact B2 rfl
   exact C4
  ·exact a3v ((oneT s).getD i default) (by omega)
  refine ⟨⟨rfl, rfl, rfl, dT rfl, rfl⟩, .inl rfl, B0, B6 rfl, fun _ => rfl, fun g37 => ?_⟩
  refine A5 rfl rfl ?_
  apply xC rfl
  ·apply A9
   ·exact B2 rfl
   exact C4
  ·exact a3v s (by omega)
  refine ⟨⟨rfl, rfl, rfl, dT rfl, rfl⟩, .inl rfl, B0, B6 rfl, fun _ => rfl, fun g39 => ?_⟩
  refine a7k rfl rfl <| A5 rfl rfl ?_
  refine D8 rfl rfl ?_ ?_ <;> intro hg0 <;> have hg := hg0 <;> try simp only [SG] at hg
  ·refine A5 rfl rfl <| gT rfl rfl <| A5 rfl rfl <| gT rfl rfl <| H9 rfl rfl rfl rfl (by omega) (by (simp; done)) rfl <| gT rfl rfl <| I9 rfl rfl (by omega) (fun _ => rfl) (fun _ => rfl) rfl <| gT rfl rfl ?_
   apply xC rfl
   ·apply A9
    ·exact B2 rfl
    exact C4
   ·exact b6c ((oneT s).getD i default) (by omega)
   refine ⟨⟨rfl, rfl, rfl, dT rfl, rfl⟩, .inl rfl, B0, B6 rfl, fun _ => rfl, fun g46 => ?_⟩
   refine gT rfl rfl <| A5 rfl rfl <| gT rfl rfl ?_
   apply xC rfl
   ·apply A9
    ·exact B2 rfl
    exact C4
   ·exact b6c s (by omega)
   refine ⟨⟨rfl, rfl, rfl, dT rfl, rfl⟩, .inl rfl, B0, B6 rfl, fun _ => rfl, fun g48 => ?_⟩
   refine gT rfl rfl <| c5j rfl rfl <| F8 rfl (by assumption) rfl rfl <| xN [3,4,5,50] [4] rfl ?_
   refine A7 rfl (fun hc => ?_) (fun hc => ?_)
   ·try simp only [SD] at hc
    omega
   try simp only [SL] at hc
   refine B5 <| A0 <| A5 rfl rfl <| G9 rfl rfl (E7 (by omega)) <| A4 rfl rfl rfl <| xN [3,4,5] [4] rfl ?_
   refine ⟨i + 1, (by omega), (by omega), ⟨rfl, rfl, rfl, rfl, trivial⟩⟩
  iterate 7 refine gF rfl rfl ?_
  refine G1 rfl (by assumption) rfl rfl <| xN [3,4,5,50] [4] rfl ?_
  refine A7 rfl (fun hc => ?_) (fun hc => absurd hc (by decide))
  refine A3 <| A0 <| A4 rfl rfl rfl <| xN [2] [] rfl <| B4 <| C7 rfl rfl trivial ?_
  exact absurd hw1 hg
 refine H1 <| A3 <| A0 <| A5 rfl rfl ?_
 apply xC rfl
 ·apply A9
  ·exact B2 rfl
  exact C4
 ·exact a3v s (by omega)
 refine ⟨⟨rfl, rfl, rfl, dT rfl, rfl⟩, .inl rfl, B0, B6 rfl, fun _ => rfl, fun g52 => ?_⟩
 refine A5 rfl rfl <| a7k rfl rfl <| A4 rfl rfl rfl <| xN [2] [] rfl <| B4 <| C7 rfl rfl trivial ?_
 (simp_all; done)
end Go.Proofs.YtcpmbhfnapijaaaGreatDoor
