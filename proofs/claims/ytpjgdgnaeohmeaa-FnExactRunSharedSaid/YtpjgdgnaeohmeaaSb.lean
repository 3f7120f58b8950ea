/- What each function of the program gives on the abstract machine, part 2 of 2. Conditions: those in front of each theorem. -/
import Derived.Test.YtpjgdgnaeohmeaaSa
import Derived.KernelRfl

set_option linter.unusedVariables false
set_option linter.unusedSimpArgs false
namespace Go.Proofs.Ytpjgdgnaeohmeaa
open Go Go.Mv Go.Proofs
set_option maxRecDepth 100000

theorem keep_s_validShare : G4 Try.f22 = [0, 2, 3, 9, 4, 21, 5, 40, 80] := by kernel_rfl
set_option maxHeartbeats 20000000 in
theorem b0n (ss : List Stp) (hz : ss.length ≤ 1048576 ∧ szT ss ≤ 1048576) : CW cxT 22 [.list (ss.map stA)] = some (bV (r9 ss), []) := by
 refine G5 rfl Try.func22 rfl ⟨by kernel_rfl, rfl, of_decide_eq_true rfl, of_decide_eq_true rfl, by decide⟩ keep_s_validShare <| A5 <| A0 <| A6 rfl rfl rfl ?_
 refine A4 ⟨nofun, _, kS [0] [] rfl, ?_⟩
 refine A5 <| A5 <| A0 <| A6 rfl rfl rfl ?_
 refine A4 ⟨nofun, _, kS [0,3] [] rfl, ?_⟩
 refine D3 <| G1 (β := Nat) [(.t 0, _)] (fun (i : Nat) => [(.t 3, iV i)]) (fun (i : Nat) => i ≤ ss.length ∧ ∀ j, j < i → sok j (ss.getD j default) = true) (fun (i : Nat) => ss.length - i) 0 ⟨rfl, rfl, trivial⟩ ⟨Nat.zero_le _, fun j h => by omega⟩ ?_
 intro i hb
 obtain ⟨hi1, hi2⟩ := hb
 have hnb := a9k (ss.getD i default).op
 have hsz := fun h : i < ss.length => a6q ss h
 unfold szP at hsz
 have hrb := c5c (ss.getD i default).op
 refine A5 <| A5 <| A0 <| A3 rfl rfl <| A3 rfl rfl <| E3 rfl rfl <| G7 rfl rfl ?_
 refine A4 ⟨nofun, _, kS [0,3,9] [] rfl, ?_⟩
 refine A8 rfl (fun hc => ?_) (fun hc => ?_)
 ·try simp only [SG, List.length_map] at hc
  refine B9 <| A5 <| D3 <| A5 <| A0 <| A3 rfl rfl <| A3 rfl rfl <| C9 rfl rfl rfl (fun _ => rfl) (by omega) <| D7 rfl rfl rfl <| z6 rfl (fun _ => J7 rfl) (fun _ => rfl) ?_
  intro g4
  refine X7 rfl rfl rfl rfl ⟨by decide, rfl, of_decide_eq_true rfl, of_decide_eq_true rfl, rfl⟩ rfl (by exact J7 rfl) ?_
  refine A4 ⟨nofun, _, kS [0,3,4] [4] rfl, ?_⟩
  refine A5 <| A0 <| B5 rfl rfl (by decide) rfl rfl <| B7 rfl rfl rfl rfl rfl rfl ?_
  apply D6 rfl
  ·apply B1
   ·exact B0 rfl
   exact D5
  ·exact e7 (ss.getD i default).op
  ·exact ⟨rfl, rfl, rfl, of_decide_eq_true rfl, rfl⟩
  ·exact .inl rfl
  ·exact C6
  ·exact C7 rfl
  ·exact fun _ => rfl
  intro g18
  refine A6 rfl rfl rfl ?_
  refine A4 ⟨nofun, _, kS [0,3,4,5] [4] rfl, ?_⟩
  refine A5 <| A5 <| A0 <| B5 rfl rfl (by decide) rfl rfl <| B7 rfl rfl rfl rfl rfl rfl <| I1 rfl rfl ?_
  refine A4 ⟨nofun, _, kS [0,3,4,5,21] [4] rfl, ?_⟩
  refine A8 rfl (fun hc => ?_) (fun hc => ?_)
  ·try simp only [SG, List.length_map] at hc
   have hnd : nd (ss.getD i default).op = 0 := b7x hc
   refine A0 <| A6 rfl rfl rfl ?_
   refine A4 ⟨nofun, _, kS [0,3,4,5] [4] rfl, ?_⟩
   refine A5 <| A5 <| A0 <| A3 rfl rfl <| G7 rfl rfl <| A3 rfl rfl ?_
   refine B3 rfl rfl (fun hg0 => ?_) (fun hg0 => ?_)
   ·have hg := hg0; try simp only [SG] at hg
    refine B5 rfl rfl (by decide) rfl rfl <| gT rfl rfl <| B7 rfl rfl rfl rfl rfl rfl <| gT rfl rfl ?_
    apply D6 rfl
    ·apply B1
     ·exact B0 rfl
     exact D5
    ·exact p6 (ss.getD i default).ns (by have := hsz (by omega); omega)
    ·exact ⟨rfl, rfl, rfl, of_decide_eq_true rfl, rfl⟩
    ·exact .inl rfl
    ·exact C6
    ·exact C7 rfl
    ·exact fun _ => rfl
    intro g27
    refine gT rfl rfl <| G8 rfl <| B6 rfl rfl rfl rfl <| A3 rfl rfl ?_
    refine B3 rfl rfl (fun hg0 => ?_) (fun hg0 => ?_)
    ·have hg := hg0; try simp only [SG] at hg
     refine B5 rfl rfl (by decide) rfl rfl <| gT rfl rfl <| B7 rfl rfl rfl rfl rfl rfl <| gT rfl rfl <| a3m rfl rfl <| gT rfl rfl <| A3 rfl rfl ?_
     refine B3 rfl rfl (fun hg0 => ?_) (fun hg0 => ?_)
     ·have hg := hg0; try simp only [SG] at hg
      refine B5 rfl rfl (by decide) rfl rfl <| gT rfl rfl <| B7 rfl rfl rfl rfl rfl rfl <| gT rfl rfl <| E3 rfl rfl <| gT rfl rfl <| Z4 rfl rfl <| gT rfl rfl <| C0 rfl (by assumption) rfl rfl <| B6 rfl (by assumption) rfl rfl ?_
      refine A4 ⟨nofun, _, kS [0,3,4,5,40] [4] rfl, ?_⟩
      refine A8 rfl (fun hc => ?_) (fun hc => ?_)
      ·try simp only [SG, List.length_map] at hc
       refine A5 <| A0 <| A6 rfl rfl rfl ?_
       refine A4 ⟨nofun, _, kS [2] [] rfl, ?_⟩
       refine C4 <| C1 rfl rfl trivial ?_
       exact congrArg bV (D8 (i := i) (by omega) (c4 (by exact .inr (.inl ⟨by assumption, by omega⟩)))).symm
      try simp only [SG, List.length_map] at hc
      refine B9 <| A5 <| A0 <| A3 rfl rfl <| I7 rfl rfl <| A3 rfl rfl ?_
      refine B3 rfl rfl (fun hg0 => ?_) (fun hg0 => ?_)
      ·have hg := hg0; try simp only [SG] at hg
       refine B5 rfl rfl (by decide) rfl rfl <| gT rfl rfl <| B7 rfl rfl rfl rfl rfl rfl <| gT rfl rfl <| K7 rfl rfl <| C0 rfl rfl rfl rfl <| A3 rfl rfl ?_
       refine B3 rfl rfl (fun hg0 => ?_) (fun hg0 => ?_)
       ·have hg := hg0; try simp only [SG] at hg
        refine A3 rfl rfl <| gT rfl rfl <| Z4 rfl rfl <| gT rfl rfl <| A3 rfl rfl ?_
        refine B3 rfl rfl (fun hg0 => ?_) (fun hg0 => ?_)
        ·have hg := hg0; try simp only [SG] at hg
         refine B5 rfl rfl (by decide) rfl rfl <| gT rfl rfl <| B7 rfl rfl rfl rfl rfl rfl <| gT rfl rfl <| A3 rfl rfl <| gT rfl rfl <| H6 rfl rfl (C8 (by omega)) <| gT rfl rfl ?_
         apply D6 rfl
         ·apply B1
          ·exact B0 rfl
          apply B1
          ·exact B0 rfl
          apply B1
          ·exact B0 rfl
          exact D5
         ·exact F5 _ _ _
         ·exact ⟨rfl, rfl, rfl, of_decide_eq_true rfl, rfl⟩
         ·exact .inl rfl
         ·exact C6
         ·exact C7 rfl
         ·exact fun _ => rfl
         intro g56
         refine gT rfl rfl <| G8 rfl <| gT rfl rfl <| C0 rfl (by assumption) rfl rfl <| B6 rfl (by assumption) rfl rfl <| A3 rfl rfl ?_
         refine B3 rfl rfl (fun hg0 => ?_) (fun hg0 => ?_)
         ·have hg := hg0; try simp only [SG] at hg
          refine A3 rfl rfl <| gT rfl rfl <| G7 rfl rfl <| gT rfl rfl <| A3 rfl rfl ?_
          refine B3 rfl rfl (fun hg0 => ?_) (fun hg0 => ?_)
          ·have hg := hg0; try simp only [SG] at hg
           refine B5 rfl rfl (by decide) rfl rfl <| gT rfl rfl <| B7 rfl rfl rfl rfl rfl rfl <| gT rfl rfl <| K7 rfl rfl <| gT rfl rfl <| C0 rfl rfl rfl rfl <| B6 rfl (by assumption) rfl rfl <| A3 rfl rfl ?_
           refine B3 rfl rfl (fun hg0 => ?_) (fun hg0 => ?_)
           ·have hg := hg0; try simp only [SG] at hg
            refine A3 rfl rfl <| gT rfl rfl <| I7 rfl rfl <| gT rfl rfl <| A3 rfl rfl ?_
            refine B3 rfl rfl (fun hg0 => ?_) (fun hg0 => ?_)
            ·have hg := hg0; try simp only [SG] at hg
             refine B5 rfl rfl (by decide) rfl rfl <| gT rfl rfl <| B7 rfl rfl rfl rfl rfl rfl <| gT rfl rfl <| A3 rfl rfl <| gT rfl rfl <| H6 rfl rfl (C8 (by omega)) <| gT rfl rfl ?_
             apply D6 rfl
             ·apply B1
              ·exact B0 rfl
              apply B1
              ·exact B0 rfl
              apply B1
              ·exact B0 rfl
              exact D5
             ·exact F5 _ _ _
             ·exact ⟨rfl, rfl, rfl, of_decide_eq_true rfl, rfl⟩
             ·exact .inl rfl
             ·exact C6
             ·exact C7 rfl
             ·exact fun _ => rfl
             intro g77
             refine gT rfl rfl <| G8 rfl <| gT rfl rfl <| C0 rfl (by assumption) rfl rfl <| B6 rfl (by assumption) rfl rfl ?_
             refine A4 ⟨nofun, _, kS [0,3,80] [] rfl, ?_⟩
             refine A8 rfl (fun hc => ?_) (fun hc => ?_)
             ·try simp only [SG, List.length_map] at hc
              refine A5 <| A0 <| A6 rfl rfl rfl ?_
              refine A4 ⟨nofun, _, kS [2] [] rfl, ?_⟩
              refine C4 <| C1 rfl rfl trivial ?_
              exact congrArg bV (D8 (i := i) (by omega) (F6 hnd (by omega) (by omega))).symm
             try simp only [SG, List.length_map] at hc
             refine B9 <| A0 <| A3 rfl rfl <| D9 rfl rfl (C8 (by omega)) <| A6 rfl rfl rfl ?_
             refine A4 ⟨nofun, _, kS [0,3] [] rfl, ?_⟩
             refine ⟨i + 1, ⟨by omega, fun j hj => by rcases Nat.lt_succ_iff_lt_or_eq.1 hj with h | h; (· exact hi2 j h); (· subst h; exact F3 hnd (by omega) (by assumption) (by exact .inl (by assumption)) (by omega) (by omega))⟩, (by omega), ⟨rfl, rfl, trivial⟩⟩
            have hg := hg0; try simp only [SG] at hg
            refine B2 rfl rfl rfl <| B2 rfl rfl rfl <| B2 rfl rfl rfl <| B2 rfl rfl rfl <| B2 rfl rfl rfl <| gT rfl rfl <| B6 rfl rfl rfl rfl <| B6 rfl (by assumption) rfl rfl ?_
            refine A4 ⟨nofun, _, kS [0,3,80] [] rfl, ?_⟩
            refine A8 rfl (fun hc => absurd hc (by decide)) (fun hc => ?_)
            refine B9 <| A0 <| A3 rfl rfl <| D9 rfl rfl (C8 (by omega)) <| A6 rfl rfl rfl ?_
            refine A4 ⟨nofun, _, kS [0,3] [] rfl, ?_⟩
            refine ⟨i + 1, ⟨by omega, fun j hj => by rcases Nat.lt_succ_iff_lt_or_eq.1 hj with h | h; (· exact hi2 j h); (· subst h; exact F3 hnd (by omega) (by assumption) (by exact .inl (by assumption)) (by omega) (by omega))⟩, (by omega), ⟨rfl, rfl, trivial⟩⟩
           have hg := hg0; try simp only [SG] at hg
           refine gF rfl rfl <| gF rfl rfl <| A7 rfl rfl <| A7 rfl rfl <| A7 rfl rfl <| A7 rfl rfl <| A7 rfl rfl <| A7 rfl rfl <| gF rfl rfl <| C0 rfl (by assumption) rfl rfl ?_
           refine A4 ⟨nofun, _, kS [0,3,80] [] rfl, ?_⟩
           refine A8 rfl (fun hc => ?_) (fun hc => absurd hc (by decide))
           refine A5 <| A0 <| A6 rfl rfl rfl ?_
           refine A4 ⟨nofun, _, kS [2] [] rfl, ?_⟩
           refine C4 <| C1 rfl rfl trivial ?_
           exact congrArg bV (D8 (i := i) (by omega) (F6 hnd (by omega) (by omega))).symm
          have hg := hg0; try simp only [SG] at hg
          refine gF rfl rfl <| gF rfl rfl <| gT rfl rfl <| B6 rfl (by assumption) rfl rfl <| B6 rfl (by assumption) rfl rfl <| A3 rfl rfl <| B8 rfl rfl rfl <| A3 rfl rfl <| B8 rfl rfl rfl <| I7 rfl rfl <| B8 rfl rfl rfl <| A3 rfl rfl ?_
          refine B3 rfl rfl (fun hg0 => ?_) (fun hg0 => ?_)
          ·have hg := hg0; try simp only [SG] at hg
           refine B5 rfl rfl (by decide) rfl rfl <| gT rfl rfl <| B7 rfl rfl rfl rfl rfl rfl <| gT rfl rfl <| A3 rfl rfl <| gT rfl rfl <| H6 rfl rfl (C8 (by omega)) <| gT rfl rfl ?_
           apply D6 rfl
           ·apply B1
            ·exact B0 rfl
            apply B1
            ·exact B0 rfl
            apply B1
            ·exact B0 rfl
            exact D5
           ·exact F5 _ _ _
           ·exact ⟨rfl, rfl, rfl, of_decide_eq_true rfl, rfl⟩
           ·exact .inl rfl
           ·exact C6
           ·exact C7 rfl
           ·exact fun _ => rfl
           intro g77
           refine gT rfl rfl <| G8 rfl <| B8 rfl rfl rfl <| C0 rfl (by assumption) rfl rfl <| C0 rfl (by assumption) rfl rfl ?_
           refine A4 ⟨nofun, _, kS [0,3,80] [] rfl, ?_⟩
           refine A8 rfl (fun hc => ?_) (fun hc => ?_)
           ·try simp only [SG, List.length_map] at hc
            refine A5 <| A0 <| A6 rfl rfl rfl ?_
            refine A4 ⟨nofun, _, kS [2] [] rfl, ?_⟩
            refine C4 <| C1 rfl rfl trivial ?_
            exact congrArg bV (D8 (i := i) (by omega) (F6 hnd (by omega) (by omega))).symm
           try simp only [SG, List.length_map] at hc
           refine B9 <| A0 <| A3 rfl rfl <| D9 rfl rfl (C8 (by omega)) <| A6 rfl rfl rfl ?_
           refine A4 ⟨nofun, _, kS [0,3] [] rfl, ?_⟩
           refine ⟨i + 1, ⟨by omega, fun j hj => by rcases Nat.lt_succ_iff_lt_or_eq.1 hj with h | h; (· exact hi2 j h); (· subst h; exact F3 hnd (by omega) (by assumption) (by exact .inl (by assumption)) (by omega) (by omega))⟩, (by omega), ⟨rfl, rfl, trivial⟩⟩
          have hg := hg0; try simp only [SG] at hg
          refine B2 rfl rfl rfl <| B2 rfl rfl rfl <| B2 rfl rfl rfl <| B2 rfl rfl rfl <| B2 rfl rfl rfl <| B8 rfl rfl rfl <| B6 rfl rfl rfl rfl <| C0 rfl (by assumption) rfl rfl ?_
          refine A4 ⟨nofun, _, kS [0,3,80] [] rfl, ?_⟩
          refine A8 rfl (fun hc => absurd hc (by simp_all)) (fun hc => ?_)
          refine B9 <| A0 <| A3 rfl rfl <| D9 rfl rfl (C8 (by omega)) <| A6 rfl rfl rfl ?_
          refine A4 ⟨nofun, _, kS [0,3] [] rfl, ?_⟩
          refine ⟨i + 1, ⟨by omega, fun j hj => by rcases Nat.lt_succ_iff_lt_or_eq.1 hj with h | h; (· exact hi2 j h); (· subst h; exact F3 hnd (by omega) (by assumption) (by exact .inl (by assumption)) (by omega) (by omega))⟩, (by omega), ⟨rfl, rfl, trivial⟩⟩
         have hg := hg0; try simp only [SG] at hg
         refine gF rfl rfl <| gF rfl rfl <| A7 rfl rfl <| A7 rfl rfl <| A7 rfl rfl <| gF rfl rfl <| C0 rfl (by assumption) rfl rfl <| A3 rfl rfl <| B2 rfl rfl rfl <| B2 rfl rfl rfl <| B2 rfl rfl rfl <| A7 rfl rfl <| A7 rfl rfl <| A7 rfl rfl <| A7 rfl rfl <| A7 rfl rfl <| A7 rfl rfl <| B2 rfl rfl rfl <| C0 rfl rfl rfl rfl ?_
         refine A4 ⟨nofun, _, kS [0,3,80] [] rfl, ?_⟩
         refine A8 rfl (fun hc => ?_) (fun hc => absurd hc (by decide))
         refine A5 <| A0 <| A6 rfl rfl rfl ?_
         refine A4 ⟨nofun, _, kS [2] [] rfl, ?_⟩
         refine C4 <| C1 rfl rfl trivial ?_
         exact congrArg bV (D8 (i := i) (by omega) (F6 hnd (by omega) (by omega))).symm
        have hg := hg0; try simp only [SG] at hg
        refine B2 rfl rfl rfl <| B2 rfl rfl rfl <| B2 rfl rfl rfl <| B2 rfl rfl rfl <| B2 rfl rfl rfl <| gT rfl rfl <| B6 rfl rfl rfl rfl <| B6 rfl (by assumption) rfl rfl <| A3 rfl rfl <| B8 rfl rfl rfl <| A3 rfl rfl <| B8 rfl rfl rfl <| G7 rfl rfl <| B8 rfl rfl rfl <| A3 rfl rfl ?_
        refine B3 rfl rfl (fun hg0 => ?_) (fun hg0 => ?_)
        ·have hg := hg0; try simp only [SG] at hg
         refine B5 rfl rfl (by decide) rfl rfl <| gT rfl rfl <| B7 rfl rfl rfl rfl rfl rfl <| gT rfl rfl <| K7 rfl rfl <| B8 rfl rfl rfl <| C0 rfl rfl rfl rfl <| B6 rfl rfl rfl rfl <| A3 rfl rfl ?_
         refine B3 rfl rfl (fun hg0 => ?_) (fun hg0 => ?_)
         ·have hg := hg0; try simp only [SG] at hg
          refine A3 rfl rfl <| gT rfl rfl <| I7 rfl rfl <| gT rfl rfl <| A3 rfl rfl ?_
          refine B3 rfl rfl (fun hg0 => ?_) (fun hg0 => ?_)
          ·have hg := hg0; try simp only [SG] at hg
           refine B5 rfl rfl (by decide) rfl rfl <| gT rfl rfl <| B7 rfl rfl rfl rfl rfl rfl <| gT rfl rfl <| A3 rfl rfl <| gT rfl rfl <| H6 rfl rfl (C8 (by omega)) <| gT rfl rfl ?_
           apply D6 rfl
           ·apply B1
            ·exact B0 rfl
            apply B1
            ·exact B0 rfl
            apply B1
            ·exact B0 rfl
            exact D5
           ·exact F5 _ _ _
           ·exact ⟨rfl, rfl, rfl, of_decide_eq_true rfl, rfl⟩
           ·exact .inl rfl
           ·exact C6
           ·exact C7 rfl
           ·exact fun _ => rfl
           intro g77
           refine gT rfl rfl <| G8 rfl <| gT rfl rfl <| C0 rfl (by assumption) rfl rfl <| B6 rfl (by assumption) rfl rfl ?_
           refine A4 ⟨nofun, _, kS [0,3,80] [] rfl, ?_⟩
           refine A8 rfl (fun hc => ?_) (fun hc => ?_)
           ·try simp only [SG, List.length_map] at hc
            refine A5 <| A0 <| A6 rfl rfl rfl ?_
            refine A4 ⟨nofun, _, kS [2] [] rfl, ?_⟩
            refine C4 <| C1 rfl rfl trivial ?_
            exact congrArg bV (D8 (i := i) (by omega) (F6 hnd (by omega) (by omega))).symm
           try simp only [SG, List.length_map] at hc
           refine B9 <| A0 <| A3 rfl rfl <| D9 rfl rfl (C8 (by omega)) <| A6 rfl rfl rfl ?_
           refine A4 ⟨nofun, _, kS [0,3] [] rfl, ?_⟩
           refine ⟨i + 1, ⟨by omega, fun j hj => by rcases Nat.lt_succ_iff_lt_or_eq.1 hj with h | h; (· exact hi2 j h); (· subst h; exact F3 hnd (by omega) (by assumption) (by exact .inl (by assumption)) (by omega) (by omega))⟩, (by omega), ⟨rfl, rfl, trivial⟩⟩
          have hg := hg0; try simp only [SG] at hg
          refine B2 rfl rfl rfl <| B2 rfl rfl rfl <| B2 rfl rfl rfl <| B2 rfl rfl rfl <| B2 rfl rfl rfl <| gT rfl rfl <| B6 rfl rfl rfl rfl <| B6 rfl (by assumption) rfl rfl ?_
          refine A4 ⟨nofun, _, kS [0,3,80] [] rfl, ?_⟩
          refine A8 rfl (fun hc => absurd hc (by decide)) (fun hc => ?_)
          refine B9 <| A0 <| A3 rfl rfl <| D9 rfl rfl (C8 (by omega)) <| A6 rfl rfl rfl ?_
          refine A4 ⟨nofun, _, kS [0,3] [] rfl, ?_⟩
          refine ⟨i + 1, ⟨by omega, fun j hj => by rcases Nat.lt_succ_iff_lt_or_eq.1 hj with h | h; (· exact hi2 j h); (· subst h; exact F3 hnd (by omega) (by assumption) (by exact .inl (by assumption)) (by omega) (by omega))⟩, (by omega), ⟨rfl, rfl, trivial⟩⟩
         have hg := hg0; try simp only [SG] at hg
         refine gF rfl rfl <| gF rfl rfl <| A7 rfl rfl <| A7 rfl rfl <| A7 rfl rfl <| A7 rfl rfl <| A7 rfl rfl <| A7 rfl rfl <| gF rfl rfl <| C0 rfl (by assumption) rfl rfl ?_
         refine A4 ⟨nofun, _, kS [0,3,80] [] rfl, ?_⟩
         refine A8 rfl (fun hc => ?_) (fun hc => absurd hc (by decide))
         refine A5 <| A0 <| A6 rfl rfl rfl ?_
         refine A4 ⟨nofun, _, kS [2] [] rfl, ?_⟩
         refine C4 <| C1 rfl rfl trivial ?_
         exact congrArg bV (D8 (i := i) (by omega) (F6 hnd (by omega) (by omega))).symm
        have hg := hg0; try simp only [SG] at hg
        refine gF rfl rfl <| gF rfl rfl <| B8 rfl rfl rfl <| B6 rfl (by assumption) rfl rfl <| B6 rfl rfl rfl rfl <| A3 rfl rfl <| B8 rfl rfl rfl <| A3 rfl rfl <| B8 rfl rfl rfl <| I7 rfl rfl <| B8 rfl rfl rfl <| A3 rfl rfl ?_
        refine B3 rfl rfl (fun hg0 => ?_) (fun hg0 => ?_)
        ·have hg := hg0; try simp only [SG] at hg
         refine B5 rfl rfl (by decide) rfl rfl <| gT rfl rfl <| B7 rfl rfl rfl rfl rfl rfl <| gT rfl rfl <| A3 rfl rfl <| gT rfl rfl <| H6 rfl rfl (C8 (by omega)) <| gT rfl rfl ?_
         apply D6 rfl
         ·apply B1
          ·exact B0 rfl
          apply B1
          ·exact B0 rfl
          apply B1
          ·exact B0 rfl
          exact D5
         ·exact F5 _ _ _
         ·exact ⟨rfl, rfl, rfl, of_decide_eq_true rfl, rfl⟩
         ·exact .inl rfl
         ·exact C6
         ·exact C7 rfl
         ·exact fun _ => rfl
         intro g77
         refine gT rfl rfl <| G8 rfl <| B8 rfl rfl rfl <| C0 rfl (by assumption) rfl rfl <| C0 rfl (by assumption) rfl rfl ?_
         refine A4 ⟨nofun, _, kS [0,3,80] [] rfl, ?_⟩
         refine A8 rfl (fun hc => ?_) (fun hc => ?_)
         ·try simp only [SG, List.length_map] at hc
          refine A5 <| A0 <| A6 rfl rfl rfl ?_
          refine A4 ⟨nofun, _, kS [2] [] rfl, ?_⟩
          refine C4 <| C1 rfl rfl trivial ?_
          exact congrArg bV (D8 (i := i) (by omega) (F6 hnd (by omega) (by omega))).symm
         try simp only [SG, List.length_map] at hc
         refine B9 <| A0 <| A3 rfl rfl <| D9 rfl rfl (C8 (by omega)) <| A6 rfl rfl rfl ?_
         refine A4 ⟨nofun, _, kS [0,3] [] rfl, ?_⟩
         refine ⟨i + 1, ⟨by omega, fun j hj => by rcases Nat.lt_succ_iff_lt_or_eq.1 hj with h | h; (· exact hi2 j h); (· subst h; exact F3 hnd (by omega) (by assumption) (by exact .inl (by assumption)) (by omega) (by omega))⟩, (by omega), ⟨rfl, rfl, trivial⟩⟩
        have hg := hg0; try simp only [SG] at hg
        refine B2 rfl rfl rfl <| B2 rfl rfl rfl <| B2 rfl rfl rfl <| B2 rfl rfl rfl <| B2 rfl rfl rfl <| B8 rfl rfl rfl <| B6 rfl rfl rfl rfl <| B6 rfl rfl rfl rfl ?_
        refine A4 ⟨nofun, _, kS [0,3,80] [] rfl, ?_⟩
        refine A8 rfl (fun hc => absurd hc (by decide)) (fun hc => ?_)
        refine B9 <| A0 <| A3 rfl rfl <| D9 rfl rfl (C8 (by omega)) <| A6 rfl rfl rfl ?_
        refine A4 ⟨nofun, _, kS [0,3] [] rfl, ?_⟩
        refine ⟨i + 1, ⟨by omega, fun j hj => by rcases Nat.lt_succ_iff_lt_or_eq.1 hj with h | h; (· exact hi2 j h); (· subst h; exact F3 hnd (by omega) (by assumption) (by exact .inl (by assumption)) (by omega) (by omega))⟩, (by omega), ⟨rfl, rfl, trivial⟩⟩
       have hg := hg0; try simp only [SG] at hg
       refine gF rfl rfl <| gF rfl rfl <| A7 rfl rfl <| A7 rfl rfl <| A7 rfl rfl <| A7 rfl rfl <| A7 rfl rfl <| A7 rfl rfl <| gF rfl rfl <| C0 rfl (by assumption) rfl rfl <| A3 rfl rfl <| B2 rfl rfl rfl <| B2 rfl rfl rfl <| B2 rfl rfl rfl <| A7 rfl rfl <| A7 rfl rfl <| A7 rfl rfl <| B2 rfl rfl rfl <| C0 rfl rfl rfl rfl <| A3 rfl rfl <| B2 rfl rfl rfl <| B2 rfl rfl rfl <| B2 rfl rfl rfl <| A7 rfl rfl <| A7 rfl rfl <| A7 rfl rfl <| A7 rfl rfl <| A7 rfl rfl <| A7 rfl rfl <| B2 rfl rfl rfl <| C0 rfl rfl rfl rfl ?_
       refine A4 ⟨nofun, _, kS [0,3,80] [] rfl, ?_⟩
       refine A8 rfl (fun hc => ?_) (fun hc => absurd hc (by decide))
       refine A5 <| A0 <| A6 rfl rfl rfl ?_
       refine A4 ⟨nofun, _, kS [2] [] rfl, ?_⟩
       refine C4 <| C1 rfl rfl trivial ?_
       exact congrArg bV (D8 (i := i) (by omega) (F6 hnd (by omega) (by omega))).symm
      have hg := hg0; try simp only [SG] at hg
      refine gF rfl rfl <| gF rfl rfl <| B6 rfl (by assumption) rfl rfl <| A3 rfl rfl <| B8 rfl rfl rfl <| A3 rfl rfl <| B8 rfl rfl rfl <| Z4 rfl rfl <| B8 rfl rfl rfl <| A3 rfl rfl ?_
      refine B3 rfl rfl (fun hg0 => ?_) (fun hg0 => ?_)
      ·have hg := hg0; try simp only [SG] at hg
       refine B5 rfl rfl (by decide) rfl rfl <| gT rfl rfl <| B7 rfl rfl rfl rfl rfl rfl <| gT rfl rfl <| A3 rfl rfl <| gT rfl rfl <| H6 rfl rfl (C8 (by omega)) <| gT rfl rfl ?_
       apply D6 rfl
       ·apply B1
        ·exact B0 rfl
        apply B1
        ·exact B0 rfl
        apply B1
        ·exact B0 rfl
        exact D5
       ·exact F5 _ _ _
       ·exact ⟨rfl, rfl, rfl, of_decide_eq_true rfl, rfl⟩
       ·exact .inl rfl
       ·exact C6
       ·exact C7 rfl
       ·exact fun _ => rfl
       intro g56
       refine gT rfl rfl <| G8 rfl <| B8 rfl rfl rfl <| C0 rfl (by assumption) rfl rfl <| C0 rfl (by assumption) rfl rfl <| A3 rfl rfl ?_
       refine B3 rfl rfl (fun hg0 => ?_) (fun hg0 => ?_)
       ·have hg := hg0; try simp only [SG] at hg
        refine A3 rfl rfl <| gT rfl rfl <| G7 rfl rfl <| gT rfl rfl <| A3 rfl rfl ?_
        refine B3 rfl rfl (fun hg0 => ?_) (fun hg0 => ?_)
        ·have hg := hg0; try simp only [SG] at hg
         refine B5 rfl rfl (by decide) rfl rfl <| gT rfl rfl <| B7 rfl rfl rfl rfl rfl rfl <| gT rfl rfl <| K7 rfl rfl <| gT rfl rfl <| C0 rfl rfl rfl rfl <| C0 rfl rfl rfl rfl <| A3 rfl rfl ?_
         refine B3 rfl rfl (fun hg0 => ?_) (fun hg0 => ?_)
         ·have hg := hg0; try simp only [SG] at hg
          refine A3 rfl rfl <| gT rfl rfl <| I7 rfl rfl <| gT rfl rfl <| A3 rfl rfl ?_
          refine B3 rfl rfl (fun hg0 => ?_) (fun hg0 => ?_)
          ·have hg := hg0; try simp only [SG] at hg
           refine B5 rfl rfl (by decide) rfl rfl <| gT rfl rfl <| B7 rfl rfl rfl rfl rfl rfl <| gT rfl rfl <| A3 rfl rfl <| gT rfl rfl <| H6 rfl rfl (C8 (by omega)) <| gT rfl rfl ?_
           apply D6 rfl
           ·apply B1
            ·exact B0 rfl
            apply B1
            ·exact B0 rfl
            apply B1
            ·exact B0 rfl
            exact D5
           ·exact F5 _ _ _
           ·exact ⟨rfl, rfl, rfl, of_decide_eq_true rfl, rfl⟩
           ·exact .inl rfl
           ·exact C6
           ·exact C7 rfl
           ·exact fun _ => rfl
           intro g77
           refine gT rfl rfl <| G8 rfl <| gT rfl rfl <| C0 rfl (by assumption) rfl rfl <| C0 rfl rfl rfl rfl ?_
           refine A4 ⟨nofun, _, kS [0,3,80] [] rfl, ?_⟩
           refine A8 rfl (fun hc => ?_) (fun hc => ?_)
           ·try simp only [SG, List.length_map] at hc
            refine A5 <| A0 <| A6 rfl rfl rfl ?_
            refine A4 ⟨nofun, _, kS [2] [] rfl, ?_⟩
            refine C4 <| C1 rfl rfl trivial ?_
            exact congrArg bV (D8 (i := i) (by omega) (F6 hnd (by omega) (by omega))).symm
           try simp only [SG, List.length_map] at hc
           refine B9 <| A0 <| A3 rfl rfl <| D9 rfl rfl (C8 (by omega)) <| A6 rfl rfl rfl ?_
           refine A4 ⟨nofun, _, kS [0,3] [] rfl, ?_⟩
           refine ⟨i + 1, ⟨by omega, fun j hj => by rcases Nat.lt_succ_iff_lt_or_eq.1 hj with h | h; (· exact hi2 j h); (· subst h; exact F3 hnd (by omega) (by assumption) (by exact .inl (by assumption)) (by omega) (by omega))⟩, (by omega), ⟨rfl, rfl, trivial⟩⟩
          have hg := hg0; try simp only [SG] at hg
          refine B2 rfl rfl rfl <| B2 rfl rfl rfl <| B2 rfl rfl rfl <| B2 rfl rfl rfl <| B2 rfl rfl rfl <| gT rfl rfl <| B6 rfl rfl rfl rfl <| C0 rfl rfl rfl rfl ?_
          refine A4 ⟨nofun, _, kS [0,3,80] [] rfl, ?_⟩
          refine A8 rfl (fun hc => absurd hc (by simp_all)) (fun hc => ?_)
          refine B9 <| A0 <| A3 rfl rfl <| D9 rfl rfl (C8 (by omega)) <| A6 rfl rfl rfl ?_
          refine A4 ⟨nofun, _, kS [0,3] [] rfl, ?_⟩
          refine ⟨i + 1, ⟨by omega, fun j hj => by rcases Nat.lt_succ_iff_lt_or_eq.1 hj with h | h; (· exact hi2 j h); (· subst h; exact F3 hnd (by omega) (by assumption) (by exact .inl (by assumption)) (by omega) (by omega))⟩, (by omega), ⟨rfl, rfl, trivial⟩⟩
         have hg := hg0; try simp only [SG] at hg
         refine B2 rfl rfl rfl <| B2 rfl rfl rfl <| A7 rfl rfl <| A7 rfl rfl <| A7 rfl rfl <| A7 rfl rfl <| A7 rfl rfl <| A7 rfl rfl <| B2 rfl rfl rfl <| C0 rfl rfl rfl rfl ?_
         refine A4 ⟨nofun, _, kS [0,3,80] [] rfl, ?_⟩
         refine A8 rfl (fun hc => ?_) (fun hc => absurd hc (by decide))
         refine A5 <| A0 <| A6 rfl rfl rfl ?_
         refine A4 ⟨nofun, _, kS [2] [] rfl, ?_⟩
         refine C4 <| C1 rfl rfl trivial ?_
         exact congrArg bV (D8 (i := i) (by omega) (F6 hnd (by omega) (by omega))).symm
        have hg := hg0; try simp only [SG] at hg
        refine gF rfl rfl <| gF rfl rfl <| gT rfl rfl <| B6 rfl (by assumption) rfl rfl <| C0 rfl rfl rfl rfl <| A3 rfl rfl <| gT rfl rfl <| A3 rfl rfl <| gT rfl rfl <| I7 rfl rfl <| gT rfl rfl <| A3 rfl rfl ?_
        refine B3 rfl rfl (fun hg0 => ?_) (fun hg0 => ?_)
        ·have hg := hg0; try simp only [SG] at hg
         refine B5 rfl rfl (by decide) rfl rfl <| gT rfl rfl <| B7 rfl rfl rfl rfl rfl rfl <| gT rfl rfl <| A3 rfl rfl <| gT rfl rfl <| H6 rfl rfl (C8 (by omega)) <| gT rfl rfl ?_
         apply D6 rfl
         ·apply B1
          ·exact B0 rfl
          apply B1
          ·exact B0 rfl
          apply B1
          ·exact B0 rfl
          exact D5
         ·exact F5 _ _ _
         ·exact ⟨rfl, rfl, rfl, of_decide_eq_true rfl, rfl⟩
         ·exact .inl rfl
         ·exact C6
         ·exact C7 rfl
         ·exact fun _ => rfl
         intro g77
         refine gT rfl rfl <| G8 rfl <| gT rfl rfl <| C0 rfl (by assumption) rfl rfl <| C0 rfl rfl rfl rfl ?_
         refine A4 ⟨nofun, _, kS [0,3,80] [] rfl, ?_⟩
         refine A8 rfl (fun hc => ?_) (fun hc => ?_)
         ·try simp only [SG, List.length_map] at hc
          refine A5 <| A0 <| A6 rfl rfl rfl ?_
          refine A4 ⟨nofun, _, kS [2] [] rfl, ?_⟩
          refine C4 <| C1 rfl rfl trivial ?_
          exact congrArg bV (D8 (i := i) (by omega) (F6 hnd (by omega) (by omega))).symm
         try simp only [SG, List.length_map] at hc
         refine B9 <| A0 <| A3 rfl rfl <| D9 rfl rfl (C8 (by omega)) <| A6 rfl rfl rfl ?_
         refine A4 ⟨nofun, _, kS [0,3] [] rfl, ?_⟩
         refine ⟨i + 1, ⟨by omega, fun j hj => by rcases Nat.lt_succ_iff_lt_or_eq.1 hj with h | h; (· exact hi2 j h); (· subst h; exact F3 hnd (by omega) (by assumption) (by exact .inl (by assumption)) (by omega) (by omega))⟩, (by omega), ⟨rfl, rfl, trivial⟩⟩
        have hg := hg0; try simp only [SG] at hg
        refine B2 rfl rfl rfl <| B2 rfl rfl rfl <| B2 rfl rfl rfl <| B2 rfl rfl rfl <| B2 rfl rfl rfl <| gT rfl rfl <| B6 rfl rfl rfl rfl <| C0 rfl rfl rfl rfl ?_
        refine A4 ⟨nofun, _, kS [0,3,80] [] rfl, ?_⟩
        refine A8 rfl (fun hc => absurd hc (by simp_all)) (fun hc => ?_)
        refine B9 <| A0 <| A3 rfl rfl <| D9 rfl rfl (C8 (by omega)) <| A6 rfl rfl rfl ?_
        refine A4 ⟨nofun, _, kS [0,3] [] rfl, ?_⟩
        refine ⟨i + 1, ⟨by omega, fun j hj => by rcases Nat.lt_succ_iff_lt_or_eq.1 hj with h | h; (· exact hi2 j h); (· subst h; exact F3 hnd (by omega) (by assumption) (by exact .inl (by assumption)) (by omega) (by omega))⟩, (by omega), ⟨rfl, rfl, trivial⟩⟩
       have hg := hg0; try simp only [SG] at hg
       refine B2 rfl rfl rfl <| B2 rfl rfl rfl <| A7 rfl rfl <| A7 rfl rfl <| A7 rfl rfl <| B2 rfl rfl rfl <| C0 rfl rfl rfl rfl <| A3 rfl rfl <| B2 rfl rfl rfl <| B2 rfl rfl rfl <| B2 rfl rfl rfl <| A7 rfl rfl <| A7 rfl rfl <| A7 rfl rfl <| A7 rfl rfl <| A7 rfl rfl <| A7 rfl rfl <| B2 rfl rfl rfl <| C0 rfl rfl rfl rfl ?_
       refine A4 ⟨nofun, _, kS [0,3,80] [] rfl, ?_⟩
       refine A8 rfl (fun hc => ?_) (fun hc => absurd hc (by decide))
       refine A5 <| A0 <| A6 rfl rfl rfl ?_
       refine A4 ⟨nofun, _, kS [2] [] rfl, ?_⟩
       refine C4 <| C1 rfl rfl trivial ?_
       exact congrArg bV (D8 (i := i) (by omega) (F6 hnd (by omega) (by omega))).symm
      have hg := hg0; try simp only [SG] at hg
      refine B2 rfl rfl rfl <| B2 rfl rfl rfl <| B2 rfl rfl rfl <| B2 rfl rfl rfl <| B2 rfl rfl rfl <| B8 rfl rfl rfl <| B6 rfl rfl rfl rfl <| B6 rfl rfl rfl rfl <| A3 rfl rfl <| B8 rfl rfl rfl <| A3 rfl rfl <| B8 rfl rfl rfl <| G7 rfl rfl <| B8 rfl rfl rfl <| A3 rfl rfl ?_
      refine B3 rfl rfl (fun hg0 => ?_) (fun hg0 => ?_)
      ·have hg := hg0; try simp only [SG] at hg
       refine B5 rfl rfl (by decide) rfl rfl <| gT rfl rfl <| B7 rfl rfl rfl rfl rfl rfl <| gT rfl rfl <| K7 rfl rfl <| B8 rfl rfl rfl <| C0 rfl rfl rfl rfl <| B6 rfl rfl rfl rfl <| A3 rfl rfl ?_
       refine B3 rfl rfl (fun hg0 => ?_) (fun hg0 => ?_)
       ·have hg := hg0; try simp only [SG] at hg
        refine A3 rfl rfl <| gT rfl rfl <| I7 rfl rfl <| gT rfl rfl <| A3 rfl rfl ?_
        refine B3 rfl rfl (fun hg0 => ?_) (fun hg0 => ?_)
        ·have hg := hg0; try simp only [SG] at hg
         refine B5 rfl rfl (by decide) rfl rfl <| gT rfl rfl <| B7 rfl rfl rfl rfl rfl rfl <| gT rfl rfl <| A3 rfl rfl <| gT rfl rfl <| H6 rfl rfl (C8 (by omega)) <| gT rfl rfl ?_
         apply D6 rfl
         ·apply B1
          ·exact B0 rfl
          apply B1
          ·exact B0 rfl
          apply B1
          ·exact B0 rfl
          exact D5
         ·exact F5 _ _ _
         ·exact ⟨rfl, rfl, rfl, of_decide_eq_true rfl, rfl⟩
         ·exact .inl rfl
         ·exact C6
         ·exact C7 rfl
         ·exact fun _ => rfl
         intro g77
         refine gT rfl rfl <| G8 rfl <| gT rfl rfl <| C0 rfl (by assumption) rfl rfl <| B6 rfl (by assumption) rfl rfl ?_
         refine A4 ⟨nofun, _, kS [0,3,80] [] rfl, ?_⟩
         refine A8 rfl (fun hc => ?_) (fun hc => ?_)
         ·try simp only [SG, List.length_map] at hc
          refine A5 <| A0 <| A6 rfl rfl rfl ?_
          refine A4 ⟨nofun, _, kS [2] [] rfl, ?_⟩
          refine C4 <| C1 rfl rfl trivial ?_
          exact congrArg bV (D8 (i := i) (by omega) (F6 hnd (by omega) (by omega))).symm
         try simp only [SG, List.length_map] at hc
         refine B9 <| A0 <| A3 rfl rfl <| D9 rfl rfl (C8 (by omega)) <| A6 rfl rfl rfl ?_
         refine A4 ⟨nofun, _, kS [0,3] [] rfl, ?_⟩
         refine ⟨i + 1, ⟨by omega, fun j hj => by rcases Nat.lt_succ_iff_lt_or_eq.1 hj with h | h; (· exact hi2 j h); (· subst h; exact F3 hnd (by omega) (by assumption) (by exact .inl (by assumption)) (by omega) (by omega))⟩, (by omega), ⟨rfl, rfl, trivial⟩⟩
        have hg := hg0; try simp only [SG] at hg
        refine B2 rfl rfl rfl <| B2 rfl rfl rfl <| B2 rfl rfl rfl <| B2 rfl rfl rfl <| B2 rfl rfl rfl <| gT rfl rfl <| B6 rfl rfl rfl rfl <| B6 rfl (by assumption) rfl rfl ?_
        refine A4 ⟨nofun, _, kS [0,3,80] [] rfl, ?_⟩
        refine A8 rfl (fun hc => absurd hc (by decide)) (fun hc => ?_)
        refine B9 <| A0 <| A3 rfl rfl <| D9 rfl rfl (C8 (by omega)) <| A6 rfl rfl rfl ?_
        refine A4 ⟨nofun, _, kS [0,3] [] rfl, ?_⟩
        refine ⟨i + 1, ⟨by omega, fun j hj => by rcases Nat.lt_succ_iff_lt_or_eq.1 hj with h | h; (· exact hi2 j h); (· subst h; exact absurd trivial (by assumption))⟩, (by omega), ⟨rfl, rfl, trivial⟩⟩
       have hg := hg0; try simp only [SG] at hg
       refine gF rfl rfl <| gF rfl rfl <| A7 rfl rfl <| A7 rfl rfl <| A7 rfl rfl <| A7 rfl rfl <| A7 rfl rfl <| A7 rfl rfl <| gF rfl rfl <| C0 rfl (by assumption) rfl rfl ?_
       refine A4 ⟨nofun, _, kS [0,3,80] [] rfl, ?_⟩
       refine A8 rfl (fun hc => ?_) (fun hc => absurd hc (by decide))
       refine A5 <| A0 <| A6 rfl rfl rfl ?_
       refine A4 ⟨nofun, _, kS [2] [] rfl, ?_⟩
       refine C4 <| C1 rfl rfl trivial ?_
       exact congrArg bV (D8 (i := i) (by omega) (F6 hnd (by omega) (by omega))).symm
      have hg := hg0; try simp only [SG] at hg
      refine gF rfl rfl <| gF rfl rfl <| B8 rfl rfl rfl <| B6 rfl (by assumption) rfl rfl <| B6 rfl rfl rfl rfl <| A3 rfl rfl <| B8 rfl rfl rfl <| A3 rfl rfl <| B8 rfl rfl rfl <| I7 rfl rfl <| B8 rfl rfl rfl <| A3 rfl rfl ?_
      refine B3 rfl rfl (fun hg0 => ?_) (fun hg0 => ?_)
      ·have hg := hg0; try simp only [SG] at hg
       refine B5 rfl rfl (by decide) rfl rfl <| gT rfl rfl <| B7 rfl rfl rfl rfl rfl rfl <| gT rfl rfl <| A3 rfl rfl <| gT rfl rfl <| H6 rfl rfl (C8 (by omega)) <| gT rfl rfl ?_
       apply D6 rfl
       ·apply B1
        ·exact B0 rfl
        apply B1
        ·exact B0 rfl
        apply B1
        ·exact B0 rfl
        exact D5
       ·exact F5 _ _ _
       ·exact ⟨rfl, rfl, rfl, of_decide_eq_true rfl, rfl⟩
       ·exact .inl rfl
       ·exact C6
       ·exact C7 rfl
       ·exact fun _ => rfl
       intro g77
       refine gT rfl rfl <| G8 rfl <| B8 rfl rfl rfl <| C0 rfl (by assumption) rfl rfl <| C0 rfl (by assumption) rfl rfl ?_
       refine A4 ⟨nofun, _, kS [0,3,80] [] rfl, ?_⟩
       refine A8 rfl (fun hc => ?_) (fun hc => ?_)
       ·try simp only [SG, List.length_map] at hc
        refine A5 <| A0 <| A6 rfl rfl rfl ?_
        refine A4 ⟨nofun, _, kS [2] [] rfl, ?_⟩
        refine C4 <| C1 rfl rfl trivial ?_
        exact congrArg bV (D8 (i := i) (by omega) (F6 hnd (by omega) (by omega))).symm
       try simp only [SG, List.length_map] at hc
       refine B9 <| A0 <| A3 rfl rfl <| D9 rfl rfl (C8 (by omega)) <| A6 rfl rfl rfl ?_
       refine A4 ⟨nofun, _, kS [0,3] [] rfl, ?_⟩
       refine ⟨i + 1, ⟨by omega, fun j hj => by rcases Nat.lt_succ_iff_lt_or_eq.1 hj with h | h; (· exact hi2 j h); (· subst h; exact F3 hnd (by omega) (by assumption) (by exact .inl (by assumption)) (by omega) (by omega))⟩, (by omega), ⟨rfl, rfl, trivial⟩⟩
      have hg := hg0; try simp only [SG] at hg
      refine B2 rfl rfl rfl <| B2 rfl rfl rfl <| B2 rfl rfl rfl <| B2 rfl rfl rfl <| B2 rfl rfl rfl <| B8 rfl rfl rfl <| B6 rfl rfl rfl rfl <| B6 rfl rfl rfl rfl ?_
      refine A4 ⟨nofun, _, kS [0,3,80] [] rfl, ?_⟩
      refine A8 rfl (fun hc => absurd hc (by decide)) (fun hc => ?_)
      refine B9 <| A0 <| A3 rfl rfl <| D9 rfl rfl (C8 (by omega)) <| A6 rfl rfl rfl ?_
      refine A4 ⟨nofun, _, kS [0,3] [] rfl, ?_⟩
      refine ⟨i + 1, ⟨by omega, fun j hj => by rcases Nat.lt_succ_iff_lt_or_eq.1 hj with h | h; (· exact hi2 j h); (· subst h; exact F3 hnd (by omega) (by assumption) (by exact .inl (by assumption)) (by omega) (by omega))⟩, (by omega), ⟨rfl, rfl, trivial⟩⟩
     have hg := hg0; try simp only [SG] at hg
     refine gF rfl rfl <| gF rfl rfl <| gF rfl rfl <| gT rfl rfl <| B6 rfl (by assumption) rfl rfl <| B6 rfl (by assumption) rfl rfl ?_
     refine A4 ⟨nofun, _, kS [0,3,4,5,40] [4] rfl, ?_⟩
     refine A8 rfl (fun hc => absurd hc (by decide)) (fun hc => ?_)
     refine B9 <| A5 <| A0 <| A3 rfl rfl <| I7 rfl rfl <| A3 rfl rfl ?_
     refine B3 rfl rfl (fun hg0 => ?_) (fun hg0 => ?_)
     ·have hg := hg0; try simp only [SG] at hg
      refine B5 rfl rfl (by decide) rfl rfl <| gT rfl rfl <| B7 rfl rfl rfl rfl rfl rfl <| gT rfl rfl <| K7 rfl rfl <| C0 rfl rfl rfl rfl <| A3 rfl rfl ?_
      refine B3 rfl rfl (fun hg0 => ?_) (fun hg0 => ?_)
      ·have hg := hg0; try simp only [SG] at hg
       refine A3 rfl rfl <| gT rfl rfl <| Z4 rfl rfl <| gT rfl rfl <| A3 rfl rfl ?_
       refine B3 rfl rfl (fun hg0 => ?_) (fun hg0 => ?_)
       ·have hg := hg0; try simp only [SG] at hg
        refine B5 rfl rfl (by decide) rfl rfl <| gT rfl rfl <| B7 rfl rfl rfl rfl rfl rfl <| gT rfl rfl <| A3 rfl rfl <| gT rfl rfl <| H6 rfl rfl (C8 (by omega)) <| gT rfl rfl ?_
        apply D6 rfl
        ·apply B1
         ·exact B0 rfl
         apply B1
         ·exact B0 rfl
         apply B1
         ·exact B0 rfl
         exact D5
        ·exact F5 _ _ _
        ·exact ⟨rfl, rfl, rfl, of_decide_eq_true rfl, rfl⟩
        ·exact .inl rfl
        ·exact C6
        ·exact C7 rfl
        ·exact fun _ => rfl
        intro g56
        refine gT rfl rfl <| G8 rfl <| gT rfl rfl <| C0 rfl (by assumption) rfl rfl <| B6 rfl (by assumption) rfl rfl <| A3 rfl rfl ?_
        refine B3 rfl rfl (fun hg0 => ?_) (fun hg0 => ?_)
        ·have hg := hg0; try simp only [SG] at hg
         refine A3 rfl rfl <| gT rfl rfl <| G7 rfl rfl <| gT rfl rfl <| A3 rfl rfl ?_
         refine B3 rfl rfl (fun hg0 => ?_) (fun hg0 => ?_)
         ·have hg := hg0; try simp only [SG] at hg
          refine B5 rfl rfl (by decide) rfl rfl <| gT rfl rfl <| B7 rfl rfl rfl rfl rfl rfl <| gT rfl rfl <| K7 rfl rfl <| gT rfl rfl <| C0 rfl rfl rfl rfl <| B6 rfl (by assumption) rfl rfl <| A3 rfl rfl ?_
          refine B3 rfl rfl (fun hg0 => ?_) (fun hg0 => ?_)
          ·have hg := hg0; try simp only [SG] at hg
           refine A3 rfl rfl <| gT rfl rfl <| I7 rfl rfl <| gT rfl rfl <| A3 rfl rfl ?_
           refine B3 rfl rfl (fun hg0 => ?_) (fun hg0 => ?_)
           ·have hg := hg0; try simp only [SG] at hg
            refine B5 rfl rfl (by decide) rfl rfl <| gT rfl rfl <| B7 rfl rfl rfl rfl rfl rfl <| gT rfl rfl <| A3 rfl rfl <| gT rfl rfl <| H6 rfl rfl (C8 (by omega)) <| gT rfl rfl ?_
            apply D6 rfl
            ·apply B1
             ·exact B0 rfl
             apply B1
             ·exact B0 rfl
             apply B1
             ·exact B0 rfl
             exact D5
            ·exact F5 _ _ _
            ·exact ⟨rfl, rfl, rfl, of_decide_eq_true rfl, rfl⟩
            ·exact .inl rfl
            ·exact C6
            ·exact C7 rfl
            ·exact fun _ => rfl
            intro g77
            refine gT rfl rfl <| G8 rfl <| gT rfl rfl <| C0 rfl (by assumption) rfl rfl <| B6 rfl (by assumption) rfl rfl ?_
            refine A4 ⟨nofun, _, kS [0,3,80] [] rfl, ?_⟩
            refine A8 rfl (fun hc => ?_) (fun hc => ?_)
            ·try simp only [SG, List.length_map] at hc
             refine A5 <| A0 <| A6 rfl rfl rfl ?_
             refine A4 ⟨nofun, _, kS [2] [] rfl, ?_⟩
             refine C4 <| C1 rfl rfl trivial ?_
             exact congrArg bV (D8 (i := i) (by omega) (F6 hnd (by omega) (by omega))).symm
            try simp only [SG, List.length_map] at hc
            refine B9 <| A0 <| A3 rfl rfl <| D9 rfl rfl (C8 (by omega)) <| A6 rfl rfl rfl ?_
            refine A4 ⟨nofun, _, kS [0,3] [] rfl, ?_⟩
            refine ⟨i + 1, ⟨by omega, fun j hj => by rcases Nat.lt_succ_iff_lt_or_eq.1 hj with h | h; (· exact hi2 j h); (· subst h; exact F3 hnd (by omega) (by assumption) (by exact .inl (by assumption)) (by omega) (by omega))⟩, (by omega), ⟨rfl, rfl, trivial⟩⟩
           have hg := hg0; try simp only [SG] at hg
           refine B2 rfl rfl rfl <| B2 rfl rfl rfl <| B2 rfl rfl rfl <| B2 rfl rfl rfl <| B2 rfl rfl rfl <| gT rfl rfl <| B6 rfl rfl rfl rfl <| B6 rfl (by assumption) rfl rfl ?_
           refine A4 ⟨nofun, _, kS [0,3,80] [] rfl, ?_⟩
           refine A8 rfl (fun hc => absurd hc (by decide)) (fun hc => ?_)
           refine B9 <| A0 <| A3 rfl rfl <| D9 rfl rfl (C8 (by omega)) <| A6 rfl rfl rfl ?_
           refine A4 ⟨nofun, _, kS [0,3] [] rfl, ?_⟩
           refine ⟨i + 1, ⟨by omega, fun j hj => by rcases Nat.lt_succ_iff_lt_or_eq.1 hj with h | h; (· exact hi2 j h); (· subst h; exact F3 hnd (by omega) (by assumption) (by exact .inl (by assumption)) (by omega) (by omega))⟩, (by omega), ⟨rfl, rfl, trivial⟩⟩
          have hg := hg0; try simp only [SG] at hg
          refine gF rfl rfl <| gF rfl rfl <| A7 rfl rfl <| A7 rfl rfl <| A7 rfl rfl <| A7 rfl rfl <| A7 rfl rfl <| A7 rfl rfl <| gF rfl rfl <| C0 rfl (by assumption) rfl rfl ?_
          refine A4 ⟨nofun, _, kS [0,3,80] [] rfl, ?_⟩
          refine A8 rfl (fun hc => ?_) (fun hc => absurd hc (by decide))
          refine A5 <| A0 <| A6 rfl rfl rfl ?_
          refine A4 ⟨nofun, _, kS [2] [] rfl, ?_⟩
          refine C4 <| C1 rfl rfl trivial ?_
          exact congrArg bV (D8 (i := i) (by omega) (F6 hnd (by omega) (by omega))).symm
         have hg := hg0; try simp only [SG] at hg
         refine gF rfl rfl <| gF rfl rfl <| gT rfl rfl <| B6 rfl (by assumption) rfl rfl <| B6 rfl (by assumption) rfl rfl <| A3 rfl rfl <| B8 rfl rfl rfl <| A3 rfl rfl <| B8 rfl rfl rfl <| I7 rfl rfl <| B8 rfl rfl rfl <| A3 rfl rfl ?_
         refine B3 rfl rfl (fun hg0 => ?_) (fun hg0 => ?_)
         ·have hg := hg0; try simp only [SG] at hg
          refine B5 rfl rfl (by decide) rfl rfl <| gT rfl rfl <| B7 rfl rfl rfl rfl rfl rfl <| gT rfl rfl <| A3 rfl rfl <| gT rfl rfl <| H6 rfl rfl (C8 (by omega)) <| gT rfl rfl ?_
          apply D6 rfl
          ·apply B1
           ·exact B0 rfl
           apply B1
           ·exact B0 rfl
           apply B1
           ·exact B0 rfl
           exact D5
          ·exact F5 _ _ _
          ·exact ⟨rfl, rfl, rfl, of_decide_eq_true rfl, rfl⟩
          ·exact .inl rfl
          ·exact C6
          ·exact C7 rfl
          ·exact fun _ => rfl
          intro g77
          refine gT rfl rfl <| G8 rfl <| B8 rfl rfl rfl <| C0 rfl (by assumption) rfl rfl <| C0 rfl (by assumption) rfl rfl ?_
          refine A4 ⟨nofun, _, kS [0,3,80] [] rfl, ?_⟩
          refine A8 rfl (fun hc => ?_) (fun hc => ?_)
          ·try simp only [SG, List.length_map] at hc
           refine A5 <| A0 <| A6 rfl rfl rfl ?_
           refine A4 ⟨nofun, _, kS [2] [] rfl, ?_⟩
           refine C4 <| C1 rfl rfl trivial ?_
           exact congrArg bV (D8 (i := i) (by omega) (F6 hnd (by omega) (by omega))).symm
          try simp only [SG, List.length_map] at hc
          refine B9 <| A0 <| A3 rfl rfl <| D9 rfl rfl (C8 (by omega)) <| A6 rfl rfl rfl ?_
          refine A4 ⟨nofun, _, kS [0,3] [] rfl, ?_⟩
          refine ⟨i + 1, ⟨by omega, fun j hj => by rcases Nat.lt_succ_iff_lt_or_eq.1 hj with h | h; (· exact hi2 j h); (· subst h; exact F3 hnd (by omega) (by assumption) (by exact .inl (by assumption)) (by omega) (by omega))⟩, (by omega), ⟨rfl, rfl, trivial⟩⟩
         have hg := hg0; try simp only [SG] at hg
         refine B2 rfl rfl rfl <| B2 rfl rfl rfl <| B2 rfl rfl rfl <| B2 rfl rfl rfl <| B2 rfl rfl rfl <| B8 rfl rfl rfl <| B6 rfl rfl rfl rfl <| C0 rfl (by assumption) rfl rfl ?_
         refine A4 ⟨nofun, _, kS [0,3,80] [] rfl, ?_⟩
         refine A8 rfl (fun hc => absurd hc (by simp_all)) (fun hc => ?_)
         refine B9 <| A0 <| A3 rfl rfl <| D9 rfl rfl (C8 (by omega)) <| A6 rfl rfl rfl ?_
         refine A4 ⟨nofun, _, kS [0,3] [] rfl, ?_⟩
         refine ⟨i + 1, ⟨by omega, fun j hj => by rcases Nat.lt_succ_iff_lt_or_eq.1 hj with h | h; (· exact hi2 j h); (· subst h; exact F3 hnd (by omega) (by assumption) (by exact .inl (by assumption)) (by omega) (by omega))⟩, (by omega), ⟨rfl, rfl, trivial⟩⟩
        have hg := hg0; try simp only [SG] at hg
        refine gF rfl rfl <| gF rfl rfl <| A7 rfl rfl <| A7 rfl rfl <| A7 rfl rfl <| gF rfl rfl <| C0 rfl (by assumption) rfl rfl <| A3 rfl rfl <| B2 rfl rfl rfl <| B2 rfl rfl rfl <| B2 rfl rfl rfl <| A7 rfl rfl <| A7 rfl rfl <| A7 rfl rfl <| A7 rfl rfl <| A7 rfl rfl <| A7 rfl rfl <| B2 rfl rfl rfl <| C0 rfl rfl rfl rfl ?_
        refine A4 ⟨nofun, _, kS [0,3,80] [] rfl, ?_⟩
        refine A8 rfl (fun hc => ?_) (fun hc => absurd hc (by decide))
        refine A5 <| A0 <| A6 rfl rfl rfl ?_
        refine A4 ⟨nofun, _, kS [2] [] rfl, ?_⟩
        refine C4 <| C1 rfl rfl trivial ?_
        exact congrArg bV (D8 (i := i) (by omega) (F6 hnd (by omega) (by omega))).symm
       have hg := hg0; try simp only [SG] at hg
       refine B2 rfl rfl rfl <| B2 rfl rfl rfl <| B2 rfl rfl rfl <| B2 rfl rfl rfl <| B2 rfl rfl rfl <| gT rfl rfl <| B6 rfl rfl rfl rfl <| B6 rfl (by assumption) rfl rfl <| A3 rfl rfl <| B8 rfl rfl rfl <| A3 rfl rfl <| B8 rfl rfl rfl <| G7 rfl rfl <| B8 rfl rfl rfl <| A3 rfl rfl ?_
       refine B3 rfl rfl (fun hg0 => ?_) (fun hg0 => ?_)
       ·have hg := hg0; try simp only [SG] at hg
        refine B5 rfl rfl (by decide) rfl rfl <| gT rfl rfl <| B7 rfl rfl rfl rfl rfl rfl <| gT rfl rfl <| K7 rfl rfl <| B8 rfl rfl rfl <| C0 rfl rfl rfl rfl <| B6 rfl rfl rfl rfl <| A3 rfl rfl ?_
        refine B3 rfl rfl (fun hg0 => ?_) (fun hg0 => ?_)
        ·have hg := hg0; try simp only [SG] at hg
         refine A3 rfl rfl <| gT rfl rfl <| I7 rfl rfl <| gT rfl rfl <| A3 rfl rfl ?_
         refine B3 rfl rfl (fun hg0 => ?_) (fun hg0 => ?_)
         ·have hg := hg0; try simp only [SG] at hg
          refine B5 rfl rfl (by decide) rfl rfl <| gT rfl rfl <| B7 rfl rfl rfl rfl rfl rfl <| gT rfl rfl <| A3 rfl rfl <| gT rfl rfl <| H6 rfl rfl (C8 (by omega)) <| gT rfl rfl ?_
          apply D6 rfl
          ·apply B1
           ·exact B0 rfl
           apply B1
           ·exact B0 rfl
           apply B1
           ·exact B0 rfl
           exact D5
          ·exact F5 _ _ _
          ·exact ⟨rfl, rfl, rfl, of_decide_eq_true rfl, rfl⟩
          ·exact .inl rfl
          ·exact C6
          ·exact C7 rfl
          ·exact fun _ => rfl
          intro g77
          refine gT rfl rfl <| G8 rfl <| gT rfl rfl <| C0 rfl (by assumption) rfl rfl <| B6 rfl (by assumption) rfl rfl ?_
          refine A4 ⟨nofun, _, kS [0,3,80] [] rfl, ?_⟩
          refine A8 rfl (fun hc => ?_) (fun hc => ?_)
          ·try simp only [SG, List.length_map] at hc
           refine A5 <| A0 <| A6 rfl rfl rfl ?_
           refine A4 ⟨nofun, _, kS [2] [] rfl, ?_⟩
           refine C4 <| C1 rfl rfl trivial ?_
           exact congrArg bV (D8 (i := i) (by omega) (F6 hnd (by omega) (by omega))).symm
          try simp only [SG, List.length_map] at hc
          refine B9 <| A0 <| A3 rfl rfl <| D9 rfl rfl (C8 (by omega)) <| A6 rfl rfl rfl ?_
          refine A4 ⟨nofun, _, kS [0,3] [] rfl, ?_⟩
          refine ⟨i + 1, ⟨by omega, fun j hj => by rcases Nat.lt_succ_iff_lt_or_eq.1 hj with h | h; (· exact hi2 j h); (· subst h; exact F3 hnd (by omega) (by assumption) (by exact .inl (by assumption)) (by omega) (by omega))⟩, (by omega), ⟨rfl, rfl, trivial⟩⟩
         have hg := hg0; try simp only [SG] at hg
         refine B2 rfl rfl rfl <| B2 rfl rfl rfl <| B2 rfl rfl rfl <| B2 rfl rfl rfl <| B2 rfl rfl rfl <| gT rfl rfl <| B6 rfl rfl rfl rfl <| B6 rfl (by assumption) rfl rfl ?_
         refine A4 ⟨nofun, _, kS [0,3,80] [] rfl, ?_⟩
         refine A8 rfl (fun hc => absurd hc (by decide)) (fun hc => ?_)
         refine B9 <| A0 <| A3 rfl rfl <| D9 rfl rfl (C8 (by omega)) <| A6 rfl rfl rfl ?_
         refine A4 ⟨nofun, _, kS [0,3] [] rfl, ?_⟩
         refine ⟨i + 1, ⟨by omega, fun j hj => by rcases Nat.lt_succ_iff_lt_or_eq.1 hj with h | h; (· exact hi2 j h); (· subst h; exact F3 hnd (by omega) (by assumption) (by exact .inl (by assumption)) (by omega) (by omega))⟩, (by omega), ⟨rfl, rfl, trivial⟩⟩
        have hg := hg0; try simp only [SG] at hg
        refine gF rfl rfl <| gF rfl rfl <| A7 rfl rfl <| A7 rfl rfl <| A7 rfl rfl <| A7 rfl rfl <| A7 rfl rfl <| A7 rfl rfl <| gF rfl rfl <| C0 rfl (by assumption) rfl rfl ?_
        refine A4 ⟨nofun, _, kS [0,3,80] [] rfl, ?_⟩
        refine A8 rfl (fun hc => ?_) (fun hc => absurd hc (by decide))
        refine A5 <| A0 <| A6 rfl rfl rfl ?_
        refine A4 ⟨nofun, _, kS [2] [] rfl, ?_⟩
        refine C4 <| C1 rfl rfl trivial ?_
        exact congrArg bV (D8 (i := i) (by omega) (F6 hnd (by omega) (by omega))).symm
       have hg := hg0; try simp only [SG] at hg
       refine gF rfl rfl <| gF rfl rfl <| B8 rfl rfl rfl <| B6 rfl (by assumption) rfl rfl <| B6 rfl rfl rfl rfl <| A3 rfl rfl <| B8 rfl rfl rfl <| A3 rfl rfl <| B8 rfl rfl rfl <| I7 rfl rfl <| B8 rfl rfl rfl <| A3 rfl rfl ?_
       refine B3 rfl rfl (fun hg0 => ?_) (fun hg0 => ?_)
       ·have hg := hg0; try simp only [SG] at hg
        refine B5 rfl rfl (by decide) rfl rfl <| gT rfl rfl <| B7 rfl rfl rfl rfl rfl rfl <| gT rfl rfl <| A3 rfl rfl <| gT rfl rfl <| H6 rfl rfl (C8 (by omega)) <| gT rfl rfl ?_
        apply D6 rfl
        ·apply B1
         ·exact B0 rfl
         apply B1
         ·exact B0 rfl
         apply B1
         ·exact B0 rfl
         exact D5
        ·exact F5 _ _ _
        ·exact ⟨rfl, rfl, rfl, of_decide_eq_true rfl, rfl⟩
        ·exact .inl rfl
        ·exact C6
        ·exact C7 rfl
        ·exact fun _ => rfl
        intro g77
        refine gT rfl rfl <| G8 rfl <| B8 rfl rfl rfl <| C0 rfl (by assumption) rfl rfl <| C0 rfl (by assumption) rfl rfl ?_
        refine A4 ⟨nofun, _, kS [0,3,80] [] rfl, ?_⟩
        refine A8 rfl (fun hc => ?_) (fun hc => ?_)
        ·try simp only [SG, List.length_map] at hc
         refine A5 <| A0 <| A6 rfl rfl rfl ?_
         refine A4 ⟨nofun, _, kS [2] [] rfl, ?_⟩
         refine C4 <| C1 rfl rfl trivial ?_
         exact congrArg bV (D8 (i := i) (by omega) (F6 hnd (by omega) (by omega))).symm
        try simp only [SG, List.length_map] at hc
        refine B9 <| A0 <| A3 rfl rfl <| D9 rfl rfl (C8 (by omega)) <| A6 rfl rfl rfl ?_
        refine A4 ⟨nofun, _, kS [0,3] [] rfl, ?_⟩
        refine ⟨i + 1, ⟨by omega, fun j hj => by rcases Nat.lt_succ_iff_lt_or_eq.1 hj with h | h; (· exact hi2 j h); (· subst h; exact F3 hnd (by omega) (by assumption) (by exact .inl (by assumption)) (by omega) (by omega))⟩, (by omega), ⟨rfl, rfl, trivial⟩⟩
       have hg := hg0; try simp only [SG] at hg
       refine B2 rfl rfl rfl <| B2 rfl rfl rfl <| B2 rfl rfl rfl <| B2 rfl rfl rfl <| B2 rfl rfl rfl <| B8 rfl rfl rfl <| B6 rfl rfl rfl rfl <| B6 rfl rfl rfl rfl ?_
       refine A4 ⟨nofun, _, kS [0,3,80] [] rfl, ?_⟩
       refine A8 rfl (fun hc => absurd hc (by decide)) (fun hc => ?_)
       refine B9 <| A0 <| A3 rfl rfl <| D9 rfl rfl (C8 (by omega)) <| A6 rfl rfl rfl ?_
       refine A4 ⟨nofun, _, kS [0,3] [] rfl, ?_⟩
       refine ⟨i + 1, ⟨by omega, fun j hj => by rcases Nat.lt_succ_iff_lt_or_eq.1 hj with h | h; (· exact hi2 j h); (· subst h; exact F3 hnd (by omega) (by assumption) (by exact .inl (by assumption)) (by omega) (by omega))⟩, (by omega), ⟨rfl, rfl, trivial⟩⟩
      have hg := hg0; try simp only [SG] at hg
      refine gF rfl rfl <| gF rfl rfl <| A7 rfl rfl <| A7 rfl rfl <| A7 rfl rfl <| A7 rfl rfl <| A7 rfl rfl <| A7 rfl rfl <| gF rfl rfl <| C0 rfl (by assumption) rfl rfl <| A3 rfl rfl <| B2 rfl rfl rfl <| B2 rfl rfl rfl <| B2 rfl rfl rfl <| A7 rfl rfl <| A7 rfl rfl <| A7 rfl rfl <| B2 rfl rfl rfl <| C0 rfl rfl rfl rfl <| A3 rfl rfl <| B2 rfl rfl rfl <| B2 rfl rfl rfl <| B2 rfl rfl rfl <| A7 rfl rfl <| A7 rfl rfl <| A7 rfl rfl <| A7 rfl rfl <| A7 rfl rfl <| A7 rfl rfl <| B2 rfl rfl rfl <| C0 rfl rfl rfl rfl ?_
      refine A4 ⟨nofun, _, kS [0,3,80] [] rfl, ?_⟩
      refine A8 rfl (fun hc => ?_) (fun hc => absurd hc (by decide))
      refine A5 <| A0 <| A6 rfl rfl rfl ?_
      refine A4 ⟨nofun, _, kS [2] [] rfl, ?_⟩
      refine C4 <| C1 rfl rfl trivial ?_
      exact congrArg bV (D8 (i := i) (by omega) (F6 hnd (by omega) (by omega))).symm
     have hg := hg0; try simp only [SG] at hg
     refine gF rfl rfl <| gF rfl rfl <| B6 rfl (by assumption) rfl rfl <| A3 rfl rfl <| B8 rfl rfl rfl <| A3 rfl rfl <| B8 rfl rfl rfl <| Z4 rfl rfl <| B8 rfl rfl rfl <| A3 rfl rfl ?_
     refine B3 rfl rfl (fun hg0 => ?_) (fun hg0 => ?_)
     ·have hg := hg0; try simp only [SG] at hg
      refine B5 rfl rfl (by decide) rfl rfl <| gT rfl rfl <| B7 rfl rfl rfl rfl rfl rfl <| gT rfl rfl <| A3 rfl rfl <| gT rfl rfl <| H6 rfl rfl (C8 (by omega)) <| gT rfl rfl ?_
      apply D6 rfl
      ·apply B1
       ·exact B0 rfl
       apply B1
       ·exact B0 rfl
       apply B1
       ·exact B0 rfl
       exact D5
      ·exact F5 _ _ _
      ·exact ⟨rfl, rfl, rfl, of_decide_eq_true rfl, rfl⟩
      ·exact .inl rfl
      ·exact C6
      ·exact C7 rfl
      ·exact fun _ => rfl
      intro g56
      refine gT rfl rfl <| G8 rfl <| B8 rfl rfl rfl <| C0 rfl (by assumption) rfl rfl <| C0 rfl (by assumption) rfl rfl <| A3 rfl rfl ?_
      refine B3 rfl rfl (fun hg0 => ?_) (fun hg0 => ?_)
      ·have hg := hg0; try simp only [SG] at hg
       refine A3 rfl rfl <| gT rfl rfl <| G7 rfl rfl <| gT rfl rfl <| A3 rfl rfl ?_
       refine B3 rfl rfl (fun hg0 => ?_) (fun hg0 => ?_)
       ·have hg := hg0; try simp only [SG] at hg
        refine B5 rfl rfl (by decide) rfl rfl <| gT rfl rfl <| B7 rfl rfl rfl rfl rfl rfl <| gT rfl rfl <| K7 rfl rfl <| gT rfl rfl <| C0 rfl rfl rfl rfl <| C0 rfl rfl rfl rfl <| A3 rfl rfl ?_
        refine B3 rfl rfl (fun hg0 => ?_) (fun hg0 => ?_)
        ·have hg := hg0; try simp only [SG] at hg
         refine A3 rfl rfl <| gT rfl rfl <| I7 rfl rfl <| gT rfl rfl <| A3 rfl rfl ?_
         refine B3 rfl rfl (fun hg0 => ?_) (fun hg0 => ?_)
         ·have hg := hg0; try simp only [SG] at hg
          refine B5 rfl rfl (by decide) rfl rfl <| gT rfl rfl <| B7 rfl rfl rfl rfl rfl rfl <| gT rfl rfl <| A3 rfl rfl <| gT rfl rfl <| H6 rfl rfl (C8 (by omega)) <| gT rfl rfl ?_
          apply D6 rfl
          ·apply B1
           ·exact B0 rfl
           apply B1
           ·exact B0 rfl
           apply B1
           ·exact B0 rfl
           exact D5
          ·exact F5 _ _ _
          ·exact ⟨rfl, rfl, rfl, of_decide_eq_true rfl, rfl⟩
          ·exact .inl rfl
          ·exact C6
          ·exact C7 rfl
          ·exact fun _ => rfl
          intro g77
          refine gT rfl rfl <| G8 rfl <| gT rfl rfl <| C0 rfl (by assumption) rfl rfl <| C0 rfl rfl rfl rfl ?_
          refine A4 ⟨nofun, _, kS [0,3,80] [] rfl, ?_⟩
          refine A8 rfl (fun hc => ?_) (fun hc => ?_)
          ·try simp only [SG, List.length_map] at hc
           refine A5 <| A0 <| A6 rfl rfl rfl ?_
           refine A4 ⟨nofun, _, kS [2] [] rfl, ?_⟩
           refine C4 <| C1 rfl rfl trivial ?_
           exact congrArg bV (D8 (i := i) (by omega) (F6 hnd (by omega) (by omega))).symm
          try simp only [SG, List.length_map] at hc
          refine B9 <| A0 <| A3 rfl rfl <| D9 rfl rfl (C8 (by omega)) <| A6 rfl rfl rfl ?_
          refine A4 ⟨nofun, _, kS [0,3] [] rfl, ?_⟩
          refine ⟨i + 1, ⟨by omega, fun j hj => by rcases Nat.lt_succ_iff_lt_or_eq.1 hj with h | h; (· exact hi2 j h); (· subst h; exact F3 hnd (by omega) (by assumption) (by exact .inl (by assumption)) (by omega) (by omega))⟩, (by omega), ⟨rfl, rfl, trivial⟩⟩
         have hg := hg0; try simp only [SG] at hg
         refine B2 rfl rfl rfl <| B2 rfl rfl rfl <| B2 rfl rfl rfl <| B2 rfl rfl rfl <| B2 rfl rfl rfl <| gT rfl rfl <| B6 rfl rfl rfl rfl <| C0 rfl rfl rfl rfl ?_
         refine A4 ⟨nofun, _, kS [0,3,80] [] rfl, ?_⟩
         refine A8 rfl (fun hc => absurd hc (by simp_all)) (fun hc => ?_)
         refine B9 <| A0 <| A3 rfl rfl <| D9 rfl rfl (C8 (by omega)) <| A6 rfl rfl rfl ?_
         refine A4 ⟨nofun, _, kS [0,3] [] rfl, ?_⟩
         refine ⟨i + 1, ⟨by omega, fun j hj => by rcases Nat.lt_succ_iff_lt_or_eq.1 hj with h | h; (· exact hi2 j h); (· subst h; exact F3 hnd (by omega) (by assumption) (by exact .inl (by assumption)) (by omega) (by omega))⟩, (by omega), ⟨rfl, rfl, trivial⟩⟩
        have hg := hg0; try simp only [SG] at hg
        refine B2 rfl rfl rfl <| B2 rfl rfl rfl <| A7 rfl rfl <| A7 rfl rfl <| A7 rfl rfl <| A7 rfl rfl <| A7 rfl rfl <| A7 rfl rfl <| B2 rfl rfl rfl <| C0 rfl rfl rfl rfl ?_
        refine A4 ⟨nofun, _, kS [0,3,80] [] rfl, ?_⟩
        refine A8 rfl (fun hc => ?_) (fun hc => absurd hc (by decide))
        refine A5 <| A0 <| A6 rfl rfl rfl ?_
        refine A4 ⟨nofun, _, kS [2] [] rfl, ?_⟩
        refine C4 <| C1 rfl rfl trivial ?_
        exact congrArg bV (D8 (i := i) (by omega) (F6 hnd (by omega) (by omega))).symm
       have hg := hg0; try simp only [SG] at hg
       refine gF rfl rfl <| gF rfl rfl <| gT rfl rfl <| B6 rfl (by assumption) rfl rfl <| C0 rfl rfl rfl rfl <| A3 rfl rfl <| gT rfl rfl <| A3 rfl rfl <| gT rfl rfl <| I7 rfl rfl <| gT rfl rfl <| A3 rfl rfl ?_
       refine B3 rfl rfl (fun hg0 => ?_) (fun hg0 => ?_)
       ·have hg := hg0; try simp only [SG] at hg
        refine B5 rfl rfl (by decide) rfl rfl <| gT rfl rfl <| B7 rfl rfl rfl rfl rfl rfl <| gT rfl rfl <| A3 rfl rfl <| gT rfl rfl <| H6 rfl rfl (C8 (by omega)) <| gT rfl rfl ?_
        apply D6 rfl
        ·apply B1
         ·exact B0 rfl
         apply B1
         ·exact B0 rfl
         apply B1
         ·exact B0 rfl
         exact D5
        ·exact F5 _ _ _
        ·exact ⟨rfl, rfl, rfl, of_decide_eq_true rfl, rfl⟩
        ·exact .inl rfl
        ·exact C6
        ·exact C7 rfl
        ·exact fun _ => rfl
        intro g77
        refine gT rfl rfl <| G8 rfl <| gT rfl rfl <| C0 rfl (by assumption) rfl rfl <| C0 rfl rfl rfl rfl ?_
        refine A4 ⟨nofun, _, kS [0,3,80] [] rfl, ?_⟩
        refine A8 rfl (fun hc => ?_) (fun hc => ?_)
        ·try simp only [SG, List.length_map] at hc
         refine A5 <| A0 <| A6 rfl rfl rfl ?_
         refine A4 ⟨nofun, _, kS [2] [] rfl, ?_⟩
         refine C4 <| C1 rfl rfl trivial ?_
         exact congrArg bV (D8 (i := i) (by omega) (F6 hnd (by omega) (by omega))).symm
        try simp only [SG, List.length_map] at hc
        refine B9 <| A0 <| A3 rfl rfl <| D9 rfl rfl (C8 (by omega)) <| A6 rfl rfl rfl ?_
        refine A4 ⟨nofun, _, kS [0,3] [] rfl, ?_⟩
        refine ⟨i + 1, ⟨by omega, fun j hj => by rcases Nat.lt_succ_iff_lt_or_eq.1 hj with h | h; (· exact hi2 j h); (· subst h; exact F3 hnd (by omega) (by assumption) (by exact .inl (by assumption)) (by omega) (by omega))⟩, (by omega), ⟨rfl, rfl, trivial⟩⟩
       have hg := hg0; try simp only [SG] at hg
       refine B2 rfl rfl rfl <| B2 rfl rfl rfl <| B2 rfl rfl rfl <| B2 rfl rfl rfl <| B2 rfl rfl rfl <| gT rfl rfl <| B6 rfl rfl rfl rfl <| C0 rfl rfl rfl rfl ?_
       refine A4 ⟨nofun, _, kS [0,3,80] [] rfl, ?_⟩
       refine A8 rfl (fun hc => absurd hc (by simp_all)) (fun hc => ?_)
       refine B9 <| A0 <| A3 rfl rfl <| D9 rfl rfl (C8 (by omega)) <| A6 rfl rfl rfl ?_
       refine A4 ⟨nofun, _, kS [0,3] [] rfl, ?_⟩
       refine ⟨i + 1, ⟨by omega, fun j hj => by rcases Nat.lt_succ_iff_lt_or_eq.1 hj with h | h; (· exact hi2 j h); (· subst h; exact F3 hnd (by omega) (by assumption) (by exact .inl (by assumption)) (by omega) (by omega))⟩, (by omega), ⟨rfl, rfl, trivial⟩⟩
      have hg := hg0; try simp only [SG] at hg
      refine B2 rfl rfl rfl <| B2 rfl rfl rfl <| A7 rfl rfl <| A7 rfl rfl <| A7 rfl rfl <| B2 rfl rfl rfl <| C0 rfl rfl rfl rfl <| A3 rfl rfl <| B2 rfl rfl rfl <| B2 rfl rfl rfl <| B2 rfl rfl rfl <| A7 rfl rfl <| A7 rfl rfl <| A7 rfl rfl <| A7 rfl rfl <| A7 rfl rfl <| A7 rfl rfl <| B2 rfl rfl rfl <| C0 rfl rfl rfl rfl ?_
      refine A4 ⟨nofun, _, kS [0,3,80] [] rfl, ?_⟩
      refine A8 rfl (fun hc => ?_) (fun hc => absurd hc (by decide))
      refine A5 <| A0 <| A6 rfl rfl rfl ?_
      refine A4 ⟨nofun, _, kS [2] [] rfl, ?_⟩
      refine C4 <| C1 rfl rfl trivial ?_
      exact congrArg bV (D8 (i := i) (by omega) (F6 hnd (by omega) (by omega))).symm
     have hg := hg0; try simp only [SG] at hg
     refine B2 rfl rfl rfl <| B2 rfl rfl rfl <| B2 rfl rfl rfl <| B2 rfl rfl rfl <| B2 rfl rfl rfl <| B8 rfl rfl rfl <| B6 rfl rfl rfl rfl <| B6 rfl rfl rfl rfl <| A3 rfl rfl <| B8 rfl rfl rfl <| A3 rfl rfl <| B8 rfl rfl rfl <| G7 rfl rfl <| B8 rfl rfl rfl <| A3 rfl rfl ?_
     refine B3 rfl rfl (fun hg0 => ?_) (fun hg0 => ?_)
     ·have hg := hg0; try simp only [SG] at hg
      refine B5 rfl rfl (by decide) rfl rfl <| gT rfl rfl <| B7 rfl rfl rfl rfl rfl rfl <| gT rfl rfl <| K7 rfl rfl <| B8 rfl rfl rfl <| C0 rfl rfl rfl rfl <| B6 rfl rfl rfl rfl <| A3 rfl rfl ?_
      refine B3 rfl rfl (fun hg0 => ?_) (fun hg0 => ?_)
      ·have hg := hg0; try simp only [SG] at hg
       refine A3 rfl rfl <| gT rfl rfl <| I7 rfl rfl <| gT rfl rfl <| A3 rfl rfl ?_
       refine B3 rfl rfl (fun hg0 => ?_) (fun hg0 => ?_)
       ·have hg := hg0; try simp only [SG] at hg
        refine B5 rfl rfl (by decide) rfl rfl <| gT rfl rfl <| B7 rfl rfl rfl rfl rfl rfl <| gT rfl rfl <| A3 rfl rfl <| gT rfl rfl <| H6 rfl rfl (C8 (by omega)) <| gT rfl rfl ?_
        apply D6 rfl
        ·apply B1
         ·exact B0 rfl
         apply B1
         ·exact B0 rfl
         apply B1
         ·exact B0 rfl
         exact D5
        ·exact F5 _ _ _
        ·exact ⟨rfl, rfl, rfl, of_decide_eq_true rfl, rfl⟩
        ·exact .inl rfl
        ·exact C6
        ·exact C7 rfl
        ·exact fun _ => rfl
        intro g77
        refine gT rfl rfl <| G8 rfl <| gT rfl rfl <| C0 rfl (by assumption) rfl rfl <| B6 rfl (by assumption) rfl rfl ?_
        refine A4 ⟨nofun, _, kS [0,3,80] [] rfl, ?_⟩
        refine A8 rfl (fun hc => ?_) (fun hc => ?_)
        ·try simp only [SG, List.length_map] at hc
         refine A5 <| A0 <| A6 rfl rfl rfl ?_
         refine A4 ⟨nofun, _, kS [2] [] rfl, ?_⟩
         refine C4 <| C1 rfl rfl trivial ?_
         exact congrArg bV (D8 (i := i) (by omega) (F6 hnd (by omega) (by omega))).symm
        try simp only [SG, List.length_map] at hc
        refine B9 <| A0 <| A3 rfl rfl <| D9 rfl rfl (C8 (by omega)) <| A6 rfl rfl rfl ?_
        refine A4 ⟨nofun, _, kS [0,3] [] rfl, ?_⟩
        refine ⟨i + 1, ⟨by omega, fun j hj => by rcases Nat.lt_succ_iff_lt_or_eq.1 hj with h | h; (· exact hi2 j h); (· subst h; exact F3 hnd (by omega) (by assumption) (by exact .inl (by assumption)) (by omega) (by omega))⟩, (by omega), ⟨rfl, rfl, trivial⟩⟩
       have hg := hg0; try simp only [SG] at hg
       refine B2 rfl rfl rfl <| B2 rfl rfl rfl <| B2 rfl rfl rfl <| B2 rfl rfl rfl <| B2 rfl rfl rfl <| gT rfl rfl <| B6 rfl rfl rfl rfl <| B6 rfl (by assumption) rfl rfl ?_
       refine A4 ⟨nofun, _, kS [0,3,80] [] rfl, ?_⟩
       refine A8 rfl (fun hc => absurd hc (by decide)) (fun hc => ?_)
       refine B9 <| A0 <| A3 rfl rfl <| D9 rfl rfl (C8 (by omega)) <| A6 rfl rfl rfl ?_
       refine A4 ⟨nofun, _, kS [0,3] [] rfl, ?_⟩
       refine ⟨i + 1, ⟨by omega, fun j hj => by rcases Nat.lt_succ_iff_lt_or_eq.1 hj with h | h; (· exact hi2 j h); (· subst h; exact absurd trivial (by assumption))⟩, (by omega), ⟨rfl, rfl, trivial⟩⟩
      have hg := hg0; try simp only [SG] at hg
      refine gF rfl rfl <| gF rfl rfl <| A7 rfl rfl <| A7 rfl rfl <| A7 rfl rfl <| A7 rfl rfl <| A7 rfl rfl <| A7 rfl rfl <| gF rfl rfl <| C0 rfl (by assumption) rfl rfl ?_
      refine A4 ⟨nofun, _, kS [0,3,80] [] rfl, ?_⟩
      refine A8 rfl (fun hc => ?_) (fun hc => absurd hc (by decide))
      refine A5 <| A0 <| A6 rfl rfl rfl ?_
      refine A4 ⟨nofun, _, kS [2] [] rfl, ?_⟩
      refine C4 <| C1 rfl rfl trivial ?_
      exact congrArg bV (D8 (i := i) (by omega) (F6 hnd (by omega) (by omega))).symm
     have hg := hg0; try simp only [SG] at hg
     refine gF rfl rfl <| gF rfl rfl <| B8 rfl rfl rfl <| B6 rfl (by assumption) rfl rfl <| B6 rfl rfl rfl rfl <| A3 rfl rfl <| B8 rfl rfl rfl <| A3 rfl rfl <| B8 rfl rfl rfl <| I7 rfl rfl <| B8 rfl rfl rfl <| A3 rfl rfl ?_
     refine B3 rfl rfl (fun hg0 => ?_) (fun hg0 => ?_)
     ·have hg := hg0; try simp only [SG] at hg
      refine B5 rfl rfl (by decide) rfl rfl <| gT rfl rfl <| B7 rfl rfl rfl rfl rfl rfl <| gT rfl rfl <| A3 rfl rfl <| gT rfl rfl <| H6 rfl rfl (C8 (by omega)) <| gT rfl rfl ?_
      apply D6 rfl
      ·apply B1
       ·exact B0 rfl
       apply B1
       ·exact B0 rfl
       apply B1
       ·exact B0 rfl
       exact D5
      ·exact F5 _ _ _
      ·exact ⟨rfl, rfl, rfl, of_decide_eq_true rfl, rfl⟩
      ·exact .inl rfl
      ·exact C6
      ·exact C7 rfl
      ·exact fun _ => rfl
      intro g77
      refine gT rfl rfl <| G8 rfl <| B8 rfl rfl rfl <| C0 rfl (by assumption) rfl rfl <| C0 rfl (by assumption) rfl rfl ?_
      refine A4 ⟨nofun, _, kS [0,3,80] [] rfl, ?_⟩
      refine A8 rfl (fun hc => ?_) (fun hc => ?_)
      ·try simp only [SG, List.length_map] at hc
       refine A5 <| A0 <| A6 rfl rfl rfl ?_
       refine A4 ⟨nofun, _, kS [2] [] rfl, ?_⟩
       refine C4 <| C1 rfl rfl trivial ?_
       exact congrArg bV (D8 (i := i) (by omega) (F6 hnd (by omega) (by omega))).symm
      try simp only [SG, List.length_map] at hc
      refine B9 <| A0 <| A3 rfl rfl <| D9 rfl rfl (C8 (by omega)) <| A6 rfl rfl rfl ?_
      refine A4 ⟨nofun, _, kS [0,3] [] rfl, ?_⟩
      refine ⟨i + 1, ⟨by omega, fun j hj => by rcases Nat.lt_succ_iff_lt_or_eq.1 hj with h | h; (· exact hi2 j h); (· subst h; exact F3 hnd (by omega) (by assumption) (by exact .inl (by assumption)) (by omega) (by omega))⟩, (by omega), ⟨rfl, rfl, trivial⟩⟩
     have hg := hg0; try simp only [SG] at hg
     refine B2 rfl rfl rfl <| B2 rfl rfl rfl <| B2 rfl rfl rfl <| B2 rfl rfl rfl <| B2 rfl rfl rfl <| B8 rfl rfl rfl <| B6 rfl rfl rfl rfl <| B6 rfl rfl rfl rfl ?_
     refine A4 ⟨nofun, _, kS [0,3,80] [] rfl, ?_⟩
     refine A8 rfl (fun hc => absurd hc (by decide)) (fun hc => ?_)
     refine B9 <| A0 <| A3 rfl rfl <| D9 rfl rfl (C8 (by omega)) <| A6 rfl rfl rfl ?_
     refine A4 ⟨nofun, _, kS [0,3] [] rfl, ?_⟩
     refine ⟨i + 1, ⟨by omega, fun j hj => by rcases Nat.lt_succ_iff_lt_or_eq.1 hj with h | h; (· exact hi2 j h); (· subst h; exact F3 hnd (by omega) (by assumption) (by exact .inl (by assumption)) (by omega) (by omega))⟩, (by omega), ⟨rfl, rfl, trivial⟩⟩
    have hg := hg0; try simp only [SG] at hg
    refine gF rfl rfl <| gF rfl rfl <| gF rfl rfl <| A7 rfl rfl <| A7 rfl rfl <| A7 rfl rfl <| A7 rfl rfl <| gF rfl rfl <| C0 rfl (by assumption) rfl rfl ?_
    refine A4 ⟨nofun, _, kS [0,3,4,5,40] [4] rfl, ?_⟩
    refine A8 rfl (fun hc => ?_) (fun hc => absurd hc (by decide))
    refine A5 <| A0 <| A6 rfl rfl rfl ?_
    refine A4 ⟨nofun, _, kS [2] [] rfl, ?_⟩
    refine C4 <| C1 rfl rfl trivial ?_
    exact congrArg bV (D8 (i := i) (by omega) (c4 (by exact .inr (.inr (by assumption))))).symm
   have hg := hg0; try simp only [SG] at hg
   refine gF rfl rfl <| gF rfl rfl <| gF rfl rfl <| C0 rfl (by assumption) rfl rfl <| A3 rfl rfl <| B2 rfl rfl rfl <| B2 rfl rfl rfl <| B2 rfl rfl rfl <| B2 rfl rfl rfl <| A7 rfl rfl <| A7 rfl rfl <| A7 rfl rfl <| A7 rfl rfl <| B2 rfl rfl rfl <| C0 rfl rfl rfl rfl ?_
   refine A4 ⟨nofun, _, kS [0,3,4,5,40] [4] rfl, ?_⟩
   refine A8 rfl (fun hc => ?_) (fun hc => absurd hc (by decide))
   refine A5 <| A0 <| A6 rfl rfl rfl ?_
   refine A4 ⟨nofun, _, kS [2] [] rfl, ?_⟩
   refine C4 <| C1 rfl rfl trivial ?_
   exact congrArg bV (D8 (i := i) (by omega) (c4 (by exact .inl (by omega)))).symm
  try simp only [SG, List.length_map] at hc
  have hnd : nd (ss.getD i default).op = rch (ss.getD i default).op := a2m _ hc
  refine B9 <| A5 <| A5 <| A0 <| A3 rfl rfl <| G7 rfl rfl <| A3 rfl rfl ?_
  refine B3 rfl rfl (fun hg0 => ?_) (fun hg0 => ?_)
  ·have hg := hg0; try simp only [SG] at hg
   refine B5 rfl rfl (by decide) rfl rfl <| gT rfl rfl <| B7 rfl rfl rfl rfl rfl rfl <| gT rfl rfl ?_
   apply D6 rfl
   ·apply B1
    ·exact B0 rfl
    exact D5
   ·exact p6 (ss.getD i default).ns (by have := hsz (by omega); omega)
   ·exact ⟨rfl, rfl, rfl, of_decide_eq_true rfl, rfl⟩
   ·exact .inl rfl
   ·exact C6
   ·exact C7 rfl
   ·exact fun _ => rfl
   intro g27
   refine gT rfl rfl <| G8 rfl <| B6 rfl (by assumption) rfl rfl <| A3 rfl rfl ?_
   refine B3 rfl rfl (fun hg0 => ?_) (fun hg0 => ?_)
   ·have hg := hg0; try simp only [SG] at hg
    refine B5 rfl rfl (by decide) rfl rfl <| gT rfl rfl <| B7 rfl rfl rfl rfl rfl rfl <| gT rfl rfl <| a3m rfl rfl <| gT rfl rfl <| A3 rfl rfl ?_
    refine B3 rfl rfl (fun hg0 => ?_) (fun hg0 => ?_)
    ·have hg := hg0; try simp only [SG] at hg
     refine B5 rfl rfl (by decide) rfl rfl <| gT rfl rfl <| B7 rfl rfl rfl rfl rfl rfl <| gT rfl rfl <| E3 rfl rfl <| gT rfl rfl <| Z4 rfl rfl <| gT rfl rfl <| C0 rfl (by assumption) rfl rfl <| B6 rfl (by assumption) rfl rfl ?_
     refine A4 ⟨nofun, _, kS [0,3,4,5,40] [4] rfl, ?_⟩
     refine A8 rfl (fun hc => ?_) (fun hc => ?_)
     ·try simp only [SG, List.length_map] at hc
      refine A5 <| A0 <| A6 rfl rfl rfl ?_
      refine A4 ⟨nofun, _, kS [2] [] rfl, ?_⟩
      refine C4 <| C1 rfl rfl trivial ?_
      exact congrArg bV (D8 (i := i) (by omega) (c4 (by exact .inr (.inl ⟨by assumption, by omega⟩)))).symm
     try simp only [SG, List.length_map] at hc
     refine B9 <| A5 <| A0 <| A3 rfl rfl <| I7 rfl rfl <| A3 rfl rfl ?_
     refine B3 rfl rfl (fun hg0 => ?_) (fun hg0 => ?_)
     ·have hg := hg0; try simp only [SG] at hg
      refine B5 rfl rfl (by decide) rfl rfl <| gT rfl rfl <| B7 rfl rfl rfl rfl rfl rfl <| gT rfl rfl <| K7 rfl rfl <| C0 rfl (by assumption) rfl rfl <| A3 rfl rfl ?_
      refine B3 rfl rfl (fun hg0 => ?_) (fun hg0 => ?_)
      ·have hg := hg0; try simp only [SG] at hg
       refine A3 rfl rfl <| gT rfl rfl <| Z4 rfl rfl <| gT rfl rfl <| A3 rfl rfl ?_
       refine B3 rfl rfl (fun hg0 => ?_) (fun hg0 => ?_)
       ·have hg := hg0; try simp only [SG] at hg
        refine B5 rfl rfl (by decide) rfl rfl <| gT rfl rfl <| B7 rfl rfl rfl rfl rfl rfl <| gT rfl rfl <| A3 rfl rfl <| gT rfl rfl <| H6 rfl rfl (C8 (by omega)) <| gT rfl rfl ?_
        apply D6 rfl
        ·apply B1
         ·exact B0 rfl
         apply B1
         ·exact B0 rfl
         apply B1
         ·exact B0 rfl
         exact D5
        ·exact F5 _ _ _
        ·exact ⟨rfl, rfl, rfl, of_decide_eq_true rfl, rfl⟩
        ·exact .inl rfl
        ·exact C6
        ·exact C7 rfl
        ·exact fun _ => rfl
        intro g56
        refine gT rfl rfl <| G8 rfl <| gT rfl rfl <| C0 rfl (by assumption) rfl rfl <| B6 rfl (by assumption) rfl rfl <| A3 rfl rfl ?_
        refine B3 rfl rfl (fun hg0 => ?_) (fun hg0 => ?_)
        ·have hg := hg0; try simp only [SG] at hg
         refine A3 rfl rfl <| gT rfl rfl <| G7 rfl rfl <| gT rfl rfl <| A3 rfl rfl ?_
         refine B3 rfl rfl (fun hg0 => ?_) (fun hg0 => ?_)
         ·have hg := hg0; try simp only [SG] at hg
          refine B5 rfl rfl (by decide) rfl rfl <| gT rfl rfl <| B7 rfl rfl rfl rfl rfl rfl <| gT rfl rfl <| K7 rfl rfl <| gT rfl rfl <| C0 rfl (by assumption) rfl rfl <| B6 rfl (by assumption) rfl rfl <| A3 rfl rfl ?_
          refine B3 rfl rfl (fun hg0 => ?_) (fun hg0 => ?_)
          ·have hg := hg0; try simp only [SG] at hg
           refine A3 rfl rfl <| gT rfl rfl <| I7 rfl rfl <| gT rfl rfl <| A3 rfl rfl ?_
           refine B3 rfl rfl (fun hg0 => ?_) (fun hg0 => ?_)
           ·have hg := hg0; try simp only [SG] at hg
            refine B5 rfl rfl (by decide) rfl rfl <| gT rfl rfl <| B7 rfl rfl rfl rfl rfl rfl <| gT rfl rfl <| A3 rfl rfl <| gT rfl rfl <| H6 rfl rfl (C8 (by omega)) <| gT rfl rfl ?_
            apply D6 rfl
            ·apply B1
             ·exact B0 rfl
             apply B1
             ·exact B0 rfl
             apply B1
             ·exact B0 rfl
             exact D5
            ·exact F5 _ _ _
            ·exact ⟨rfl, rfl, rfl, of_decide_eq_true rfl, rfl⟩
            ·exact .inl rfl
            ·exact C6
            ·exact C7 rfl
            ·exact fun _ => rfl
            intro g77
            refine gT rfl rfl <| G8 rfl <| gT rfl rfl <| C0 rfl (by assumption) rfl rfl <| B6 rfl (by assumption) rfl rfl ?_
            refine A4 ⟨nofun, _, kS [0,3,80] [] rfl, ?_⟩
            refine A8 rfl (fun hc => ?_) (fun hc => ?_)
            ·try simp only [SG, List.length_map] at hc
             refine A5 <| A0 <| A6 rfl rfl rfl ?_
             refine A4 ⟨nofun, _, kS [2] [] rfl, ?_⟩
             refine C4 <| C1 rfl rfl trivial ?_
             exact congrArg bV (D8 (i := i) (by omega) (F6 hnd (by omega) (by omega))).symm
            try simp only [SG, List.length_map] at hc
            refine B9 <| A0 <| A3 rfl rfl <| D9 rfl rfl (C8 (by omega)) <| A6 rfl rfl rfl ?_
            refine A4 ⟨nofun, _, kS [0,3] [] rfl, ?_⟩
            refine ⟨i + 1, ⟨by omega, fun j hj => by rcases Nat.lt_succ_iff_lt_or_eq.1 hj with h | h; (· exact hi2 j h); (· subst h; exact F3 hnd (by omega) (by assumption) (by exact .inr (by omega)) (by omega) (by omega))⟩, (by omega), ⟨rfl, rfl, trivial⟩⟩
           have hg := hg0; try simp only [SG] at hg
           refine gF rfl rfl <| gF rfl rfl <| gF rfl rfl <| gF rfl rfl <| gF rfl rfl <| gT rfl rfl <| B6 rfl (by assumption) rfl rfl <| B6 rfl (by assumption) rfl rfl ?_
           refine A4 ⟨nofun, _, kS [0,3,80] [] rfl, ?_⟩
           refine A8 rfl (fun hc => absurd hc (by decide)) (fun hc => ?_)
           refine B9 <| A0 <| A3 rfl rfl <| D9 rfl rfl (C8 (by omega)) <| A6 rfl rfl rfl ?_
           refine A4 ⟨nofun, _, kS [0,3] [] rfl, ?_⟩
           refine ⟨i + 1, ⟨by omega, fun j hj => by rcases Nat.lt_succ_iff_lt_or_eq.1 hj with h | h; (· exact hi2 j h); (· subst h; exact F3 hnd (by omega) (by assumption) (by exact .inr (by omega)) (by omega) (by omega))⟩, (by omega), ⟨rfl, rfl, trivial⟩⟩
          have hg := hg0; try simp only [SG] at hg
          refine gF rfl rfl <| gF rfl rfl <| A7 rfl rfl <| A7 rfl rfl <| A7 rfl rfl <| A7 rfl rfl <| A7 rfl rfl <| A7 rfl rfl <| gF rfl rfl <| C0 rfl (by assumption) rfl rfl ?_
          refine A4 ⟨nofun, _, kS [0,3,80] [] rfl, ?_⟩
          refine A8 rfl (fun hc => ?_) (fun hc => absurd hc (by decide))
          refine A5 <| A0 <| A6 rfl rfl rfl ?_
          refine A4 ⟨nofun, _, kS [2] [] rfl, ?_⟩
          refine C4 <| C1 rfl rfl trivial ?_
          exact congrArg bV (D8 (i := i) (by omega) (F6 hnd (by omega) (by omega))).symm
         have hg := hg0; try simp only [SG] at hg
         refine gF rfl rfl <| gF rfl rfl <| gT rfl rfl <| B6 rfl (by assumption) rfl rfl <| B6 rfl (by assumption) rfl rfl <| A3 rfl rfl <| B8 rfl rfl rfl <| A3 rfl rfl <| B8 rfl rfl rfl <| I7 rfl rfl <| B8 rfl rfl rfl <| A3 rfl rfl ?_
         refine B3 rfl rfl (fun hg0 => ?_) (fun hg0 => ?_)
         ·have hg := hg0; try simp only [SG] at hg
          refine B5 rfl rfl (by decide) rfl rfl <| gT rfl rfl <| B7 rfl rfl rfl rfl rfl rfl <| gT rfl rfl <| A3 rfl rfl <| gT rfl rfl <| H6 rfl rfl (C8 (by omega)) <| gT rfl rfl ?_
          apply D6 rfl
          ·apply B1
           ·exact B0 rfl
           apply B1
           ·exact B0 rfl
           apply B1
           ·exact B0 rfl
           exact D5
          ·exact F5 _ _ _
          ·exact ⟨rfl, rfl, rfl, of_decide_eq_true rfl, rfl⟩
          ·exact .inl rfl
          ·exact C6
          ·exact C7 rfl
          ·exact fun _ => rfl
          intro g77
          refine gT rfl rfl <| G8 rfl <| B8 rfl rfl rfl <| C0 rfl (by assumption) rfl rfl <| B6 rfl rfl rfl rfl ?_
          refine A4 ⟨nofun, _, kS [0,3,80] [] rfl, ?_⟩
          refine A8 rfl (fun hc => ?_) (fun hc => ?_)
          ·try simp only [SG, List.length_map] at hc
           refine A5 <| A0 <| A6 rfl rfl rfl ?_
           refine A4 ⟨nofun, _, kS [2] [] rfl, ?_⟩
           refine C4 <| C1 rfl rfl trivial ?_
           exact congrArg bV (D8 (i := i) (by omega) (F6 hnd (by omega) (by omega))).symm
          try simp only [SG, List.length_map] at hc
          refine B9 <| A0 <| A3 rfl rfl <| D9 rfl rfl (C8 (by omega)) <| A6 rfl rfl rfl ?_
          refine A4 ⟨nofun, _, kS [0,3] [] rfl, ?_⟩
          refine ⟨i + 1, ⟨by omega, fun j hj => by rcases Nat.lt_succ_iff_lt_or_eq.1 hj with h | h; (· exact hi2 j h); (· subst h; exact F3 hnd (by omega) (by assumption) (by exact .inr (by omega)) (by omega) (by omega))⟩, (by omega), ⟨rfl, rfl, trivial⟩⟩
         have hg := hg0; try simp only [SG] at hg
         refine gF rfl rfl <| gF rfl rfl <| gF rfl rfl <| gF rfl rfl <| gF rfl rfl <| B8 rfl rfl rfl <| B6 rfl (by assumption) rfl rfl <| B6 rfl rfl rfl rfl ?_
         refine A4 ⟨nofun, _, kS [0,3,80] [] rfl, ?_⟩
         refine A8 rfl (fun hc => absurd hc (by decide)) (fun hc => ?_)
         refine B9 <| A0 <| A3 rfl rfl <| D9 rfl rfl (C8 (by omega)) <| A6 rfl rfl rfl ?_
         refine A4 ⟨nofun, _, kS [0,3] [] rfl, ?_⟩
         refine ⟨i + 1, ⟨by omega, fun j hj => by rcases Nat.lt_succ_iff_lt_or_eq.1 hj with h | h; (· exact hi2 j h); (· subst h; exact F3 hnd (by omega) (by assumption) (by exact .inr (by omega)) (by omega) (by omega))⟩, (by omega), ⟨rfl, rfl, trivial⟩⟩
        have hg := hg0; try simp only [SG] at hg
        refine gF rfl rfl <| gF rfl rfl <| A7 rfl rfl <| A7 rfl rfl <| A7 rfl rfl <| gF rfl rfl <| C0 rfl (by assumption) rfl rfl <| A3 rfl rfl <| B2 rfl rfl rfl <| B2 rfl rfl rfl <| B2 rfl rfl rfl <| A7 rfl rfl <| A7 rfl rfl <| A7 rfl rfl <| A7 rfl rfl <| A7 rfl rfl <| A7 rfl rfl <| B2 rfl rfl rfl <| C0 rfl rfl rfl rfl ?_
        refine A4 ⟨nofun, _, kS [0,3,80] [] rfl, ?_⟩
        refine A8 rfl (fun hc => ?_) (fun hc => absurd hc (by decide))
        refine A5 <| A0 <| A6 rfl rfl rfl ?_
        refine A4 ⟨nofun, _, kS [2] [] rfl, ?_⟩
        refine C4 <| C1 rfl rfl trivial ?_
        exact congrArg bV (D8 (i := i) (by omega) (F6 hnd (by omega) (by omega))).symm
       have hg := hg0; try simp only [SG] at hg
       refine gF rfl rfl <| gF rfl rfl <| gF rfl rfl <| gF rfl rfl <| gF rfl rfl <| gT rfl rfl <| B6 rfl (by assumption) rfl rfl <| B6 rfl (by assumption) rfl rfl <| A3 rfl rfl <| B8 rfl rfl rfl <| A3 rfl rfl <| B8 rfl rfl rfl <| G7 rfl rfl <| B8 rfl rfl rfl <| A3 rfl rfl ?_
       refine B3 rfl rfl (fun hg0 => ?_) (fun hg0 => ?_)
       ·have hg := hg0; try simp only [SG] at hg
        refine B5 rfl rfl (by decide) rfl rfl <| gT rfl rfl <| B7 rfl rfl rfl rfl rfl rfl <| gT rfl rfl <| K7 rfl rfl <| B8 rfl rfl rfl <| C0 rfl (by assumption) rfl rfl <| B6 rfl rfl rfl rfl <| A3 rfl rfl ?_
        refine B3 rfl rfl (fun hg0 => ?_) (fun hg0 => ?_)
        ·have hg := hg0; try simp only [SG] at hg
         refine A3 rfl rfl <| gT rfl rfl <| I7 rfl rfl <| gT rfl rfl <| A3 rfl rfl ?_
         refine B3 rfl rfl (fun hg0 => ?_) (fun hg0 => ?_)
         ·have hg := hg0; try simp only [SG] at hg
          refine B5 rfl rfl (by decide) rfl rfl <| gT rfl rfl <| B7 rfl rfl rfl rfl rfl rfl <| gT rfl rfl <| A3 rfl rfl <| gT rfl rfl <| H6 rfl rfl (C8 (by omega)) <| gT rfl rfl ?_
          apply D6 rfl
          ·apply B1
           ·exact B0 rfl
           apply B1
           ·exact B0 rfl
           apply B1
           ·exact B0 rfl
           exact D5
          ·exact F5 _ _ _
          ·exact ⟨rfl, rfl, rfl, of_decide_eq_true rfl, rfl⟩
          ·exact .inl rfl
          ·exact C6
          ·exact C7 rfl
          ·exact fun _ => rfl
          intro g77
          refine gT rfl rfl <| G8 rfl <| gT rfl rfl <| C0 rfl (by assumption) rfl rfl <| B6 rfl (by assumption) rfl rfl ?_
          refine A4 ⟨nofun, _, kS [0,3,80] [] rfl, ?_⟩
          refine A8 rfl (fun hc => ?_) (fun hc => ?_)
          ·try simp only [SG, List.length_map] at hc
           refine A5 <| A0 <| A6 rfl rfl rfl ?_
           refine A4 ⟨nofun, _, kS [2] [] rfl, ?_⟩
           refine C4 <| C1 rfl rfl trivial ?_
           exact congrArg bV (D8 (i := i) (by omega) (F6 hnd (by omega) (by omega))).symm
          try simp only [SG, List.length_map] at hc
          refine B9 <| A0 <| A3 rfl rfl <| D9 rfl rfl (C8 (by omega)) <| A6 rfl rfl rfl ?_
          refine A4 ⟨nofun, _, kS [0,3] [] rfl, ?_⟩
          refine ⟨i + 1, ⟨by omega, fun j hj => by rcases Nat.lt_succ_iff_lt_or_eq.1 hj with h | h; (· exact hi2 j h); (· subst h; exact F3 hnd (by omega) (by assumption) (by exact .inr (by omega)) (by omega) (by omega))⟩, (by omega), ⟨rfl, rfl, trivial⟩⟩
         have hg := hg0; try simp only [SG] at hg
         refine gF rfl rfl <| gF rfl rfl <| gF rfl rfl <| gF rfl rfl <| gF rfl rfl <| gT rfl rfl <| B6 rfl (by assumption) rfl rfl <| B6 rfl (by assumption) rfl rfl ?_
         refine A4 ⟨nofun, _, kS [0,3,80] [] rfl, ?_⟩
         refine A8 rfl (fun hc => absurd hc (by decide)) (fun hc => ?_)
         refine B9 <| A0 <| A3 rfl rfl <| D9 rfl rfl (C8 (by omega)) <| A6 rfl rfl rfl ?_
         refine A4 ⟨nofun, _, kS [0,3] [] rfl, ?_⟩
         refine ⟨i + 1, ⟨by omega, fun j hj => by rcases Nat.lt_succ_iff_lt_or_eq.1 hj with h | h; (· exact hi2 j h); (· subst h; exact F3 hnd (by omega) (by assumption) (by exact .inr (by omega)) (by omega) (by omega))⟩, (by omega), ⟨rfl, rfl, trivial⟩⟩
        have hg := hg0; try simp only [SG] at hg
        refine gF rfl rfl <| gF rfl rfl <| A7 rfl rfl <| A7 rfl rfl <| A7 rfl rfl <| A7 rfl rfl <| A7 rfl rfl <| A7 rfl rfl <| gF rfl rfl <| C0 rfl (by assumption) rfl rfl ?_
        refine A4 ⟨nofun, _, kS [0,3,80] [] rfl, ?_⟩
        refine A8 rfl (fun hc => ?_) (fun hc => absurd hc (by decide))
        refine A5 <| A0 <| A6 rfl rfl rfl ?_
        refine A4 ⟨nofun, _, kS [2] [] rfl, ?_⟩
        refine C4 <| C1 rfl rfl trivial ?_
        exact congrArg bV (D8 (i := i) (by omega) (F6 hnd (by omega) (by omega))).symm
       have hg := hg0; try simp only [SG] at hg
       refine gF rfl rfl <| gF rfl rfl <| B8 rfl rfl rfl <| B6 rfl (by assumption) rfl rfl <| B6 rfl rfl rfl rfl <| A3 rfl rfl <| B8 rfl rfl rfl <| A3 rfl rfl <| B8 rfl rfl rfl <| I7 rfl rfl <| B8 rfl rfl rfl <| A3 rfl rfl ?_
       refine B3 rfl rfl (fun hg0 => ?_) (fun hg0 => ?_)
       ·have hg := hg0; try simp only [SG] at hg
        refine B5 rfl rfl (by decide) rfl rfl <| gT rfl rfl <| B7 rfl rfl rfl rfl rfl rfl <| gT rfl rfl <| A3 rfl rfl <| gT rfl rfl <| H6 rfl rfl (C8 (by omega)) <| gT rfl rfl ?_
        apply D6 rfl
        ·apply B1
         ·exact B0 rfl
         apply B1
         ·exact B0 rfl
         apply B1
         ·exact B0 rfl
         exact D5
        ·exact F5 _ _ _
        ·exact ⟨rfl, rfl, rfl, of_decide_eq_true rfl, rfl⟩
        ·exact .inl rfl
        ·exact C6
        ·exact C7 rfl
        ·exact fun _ => rfl
        intro g77
        refine gT rfl rfl <| G8 rfl <| B8 rfl rfl rfl <| C0 rfl (by assumption) rfl rfl <| B6 rfl rfl rfl rfl ?_
        refine A4 ⟨nofun, _, kS [0,3,80] [] rfl, ?_⟩
        refine A8 rfl (fun hc => ?_) (fun hc => ?_)
        ·try simp only [SG, List.length_map] at hc
         refine A5 <| A0 <| A6 rfl rfl rfl ?_
         refine A4 ⟨nofun, _, kS [2] [] rfl, ?_⟩
         refine C4 <| C1 rfl rfl trivial ?_
         exact congrArg bV (D8 (i := i) (by omega) (F6 hnd (by omega) (by omega))).symm
        try simp only [SG, List.length_map] at hc
        refine B9 <| A0 <| A3 rfl rfl <| D9 rfl rfl (C8 (by omega)) <| A6 rfl rfl rfl ?_
        refine A4 ⟨nofun, _, kS [0,3] [] rfl, ?_⟩
        refine ⟨i + 1, ⟨by omega, fun j hj => by rcases Nat.lt_succ_iff_lt_or_eq.1 hj with h | h; (· exact hi2 j h); (· subst h; exact F3 hnd (by omega) (by assumption) (by exact .inr (by omega)) (by omega) (by omega))⟩, (by omega), ⟨rfl, rfl, trivial⟩⟩
       have hg := hg0; try simp only [SG] at hg
       refine gF rfl rfl <| gF rfl rfl <| gF rfl rfl <| gF rfl rfl <| gF rfl rfl <| B8 rfl rfl rfl <| B6 rfl (by assumption) rfl rfl <| B6 rfl rfl rfl rfl ?_
       refine A4 ⟨nofun, _, kS [0,3,80] [] rfl, ?_⟩
       refine A8 rfl (fun hc => absurd hc (by decide)) (fun hc => ?_)
       refine B9 <| A0 <| A3 rfl rfl <| D9 rfl rfl (C8 (by omega)) <| A6 rfl rfl rfl ?_
       refine A4 ⟨nofun, _, kS [0,3] [] rfl, ?_⟩
       refine ⟨i + 1, ⟨by omega, fun j hj => by rcases Nat.lt_succ_iff_lt_or_eq.1 hj with h | h; (· exact hi2 j h); (· subst h; exact F3 hnd (by omega) (by assumption) (by exact .inr (by omega)) (by omega) (by omega))⟩, (by omega), ⟨rfl, rfl, trivial⟩⟩
      have hg := hg0; try simp only [SG] at hg
      refine gF rfl rfl <| gF rfl rfl <| A7 rfl rfl <| A7 rfl rfl <| A7 rfl rfl <| A7 rfl rfl <| A7 rfl rfl <| A7 rfl rfl <| gF rfl rfl <| C0 rfl (by assumption) rfl rfl <| A3 rfl rfl <| B2 rfl rfl rfl <| B2 rfl rfl rfl <| B2 rfl rfl rfl <| A7 rfl rfl <| A7 rfl rfl <| A7 rfl rfl <| B2 rfl rfl rfl <| C0 rfl rfl rfl rfl <| A3 rfl rfl <| B2 rfl rfl rfl <| B2 rfl rfl rfl <| B2 rfl rfl rfl <| A7 rfl rfl <| A7 rfl rfl <| A7 rfl rfl <| A7 rfl rfl <| A7 rfl rfl <| A7 rfl rfl <| B2 rfl rfl rfl <| C0 rfl rfl rfl rfl ?_
      refine A4 ⟨nofun, _, kS [0,3,80] [] rfl, ?_⟩
      refine A8 rfl (fun hc => ?_) (fun hc => absurd hc (by decide))
      refine A5 <| A0 <| A6 rfl rfl rfl ?_
      refine A4 ⟨nofun, _, kS [2] [] rfl, ?_⟩
      refine C4 <| C1 rfl rfl trivial ?_
      exact congrArg bV (D8 (i := i) (by omega) (F6 hnd (by omega) (by omega))).symm
     have hg := hg0; try simp only [SG] at hg
     refine gF rfl rfl <| gF rfl rfl <| B6 rfl (by assumption) rfl rfl <| A3 rfl rfl <| B8 rfl rfl rfl <| A3 rfl rfl <| B8 rfl rfl rfl <| Z4 rfl rfl <| B8 rfl rfl rfl <| A3 rfl rfl ?_
     refine B3 rfl rfl (fun hg0 => ?_) (fun hg0 => ?_)
     ·have hg := hg0; try simp only [SG] at hg
      refine B5 rfl rfl (by decide) rfl rfl <| gT rfl rfl <| B7 rfl rfl rfl rfl rfl rfl <| gT rfl rfl <| A3 rfl rfl <| gT rfl rfl <| H6 rfl rfl (C8 (by omega)) <| gT rfl rfl ?_
      apply D6 rfl
      ·apply B1
       ·exact B0 rfl
       apply B1
       ·exact B0 rfl
       apply B1
       ·exact B0 rfl
       exact D5
      ·exact F5 _ _ _
      ·exact ⟨rfl, rfl, rfl, of_decide_eq_true rfl, rfl⟩
      ·exact .inl rfl
      ·exact C6
      ·exact C7 rfl
      ·exact fun _ => rfl
      intro g56
      refine gT rfl rfl <| G8 rfl <| B8 rfl rfl rfl <| C0 rfl (by assumption) rfl rfl <| B6 rfl rfl rfl rfl <| A3 rfl rfl ?_
      refine B3 rfl rfl (fun hg0 => ?_) (fun hg0 => ?_)
      ·have hg := hg0; try simp only [SG] at hg
       refine A3 rfl rfl <| gT rfl rfl <| G7 rfl rfl <| gT rfl rfl <| A3 rfl rfl ?_
       refine B3 rfl rfl (fun hg0 => ?_) (fun hg0 => ?_)
       ·have hg := hg0; try simp only [SG] at hg
        refine B5 rfl rfl (by decide) rfl rfl <| gT rfl rfl <| B7 rfl rfl rfl rfl rfl rfl <| gT rfl rfl <| K7 rfl rfl <| gT rfl rfl <| C0 rfl (by assumption) rfl rfl <| B6 rfl (by assumption) rfl rfl <| A3 rfl rfl ?_
        refine B3 rfl rfl (fun hg0 => ?_) (fun hg0 => ?_)
        ·have hg := hg0; try simp only [SG] at hg
         refine A3 rfl rfl <| gT rfl rfl <| I7 rfl rfl <| gT rfl rfl <| A3 rfl rfl ?_
         refine B3 rfl rfl (fun hg0 => ?_) (fun hg0 => ?_)
         ·have hg := hg0; try simp only [SG] at hg
          refine B5 rfl rfl (by decide) rfl rfl <| gT rfl rfl <| B7 rfl rfl rfl rfl rfl rfl <| gT rfl rfl <| A3 rfl rfl <| gT rfl rfl <| H6 rfl rfl (C8 (by omega)) <| gT rfl rfl ?_
          apply D6 rfl
          ·apply B1
           ·exact B0 rfl
           apply B1
           ·exact B0 rfl
           apply B1
           ·exact B0 rfl
           exact D5
          ·exact F5 _ _ _
          ·exact ⟨rfl, rfl, rfl, of_decide_eq_true rfl, rfl⟩
          ·exact .inl rfl
          ·exact C6
          ·exact C7 rfl
          ·exact fun _ => rfl
          intro g77
          refine gT rfl rfl <| G8 rfl <| gT rfl rfl <| C0 rfl (by assumption) rfl rfl <| B6 rfl (by assumption) rfl rfl ?_
          refine A4 ⟨nofun, _, kS [0,3,80] [] rfl, ?_⟩
          refine A8 rfl (fun hc => ?_) (fun hc => ?_)
          ·try simp only [SG, List.length_map] at hc
           refine A5 <| A0 <| A6 rfl rfl rfl ?_
           refine A4 ⟨nofun, _, kS [2] [] rfl, ?_⟩
           refine C4 <| C1 rfl rfl trivial ?_
           exact congrArg bV (D8 (i := i) (by omega) (F6 hnd (by omega) (by omega))).symm
          try simp only [SG, List.length_map] at hc
          refine B9 <| A0 <| A3 rfl rfl <| D9 rfl rfl (C8 (by omega)) <| A6 rfl rfl rfl ?_
          refine A4 ⟨nofun, _, kS [0,3] [] rfl, ?_⟩
          refine ⟨i + 1, ⟨by omega, fun j hj => by rcases Nat.lt_succ_iff_lt_or_eq.1 hj with h | h; (· exact hi2 j h); (· subst h; exact F3 hnd (by omega) (by assumption) (by exact .inr (by omega)) (by omega) (by omega))⟩, (by omega), ⟨rfl, rfl, trivial⟩⟩
         have hg := hg0; try simp only [SG] at hg
         refine gF rfl rfl <| gF rfl rfl <| gF rfl rfl <| gF rfl rfl <| gF rfl rfl <| gT rfl rfl <| B6 rfl (by assumption) rfl rfl <| B6 rfl (by assumption) rfl rfl ?_
         refine A4 ⟨nofun, _, kS [0,3,80] [] rfl, ?_⟩
         refine A8 rfl (fun hc => absurd hc (by decide)) (fun hc => ?_)
         refine B9 <| A0 <| A3 rfl rfl <| D9 rfl rfl (C8 (by omega)) <| A6 rfl rfl rfl ?_
         refine A4 ⟨nofun, _, kS [0,3] [] rfl, ?_⟩
         refine ⟨i + 1, ⟨by omega, fun j hj => by rcases Nat.lt_succ_iff_lt_or_eq.1 hj with h | h; (· exact hi2 j h); (· subst h; exact F3 hnd (by omega) (by assumption) (by exact .inr (by omega)) (by omega) (by omega))⟩, (by omega), ⟨rfl, rfl, trivial⟩⟩
        have hg := hg0; try simp only [SG] at hg
        refine gF rfl rfl <| gF rfl rfl <| A7 rfl rfl <| A7 rfl rfl <| A7 rfl rfl <| A7 rfl rfl <| A7 rfl rfl <| A7 rfl rfl <| gF rfl rfl <| C0 rfl (by assumption) rfl rfl ?_
        refine A4 ⟨nofun, _, kS [0,3,80] [] rfl, ?_⟩
        refine A8 rfl (fun hc => ?_) (fun hc => absurd hc (by decide))
        refine A5 <| A0 <| A6 rfl rfl rfl ?_
        refine A4 ⟨nofun, _, kS [2] [] rfl, ?_⟩
        refine C4 <| C1 rfl rfl trivial ?_
        exact congrArg bV (D8 (i := i) (by omega) (F6 hnd (by omega) (by omega))).symm
       have hg := hg0; try simp only [SG] at hg
       refine gF rfl rfl <| gF rfl rfl <| gT rfl rfl <| B6 rfl (by assumption) rfl rfl <| B6 rfl (by assumption) rfl rfl <| A3 rfl rfl <| B8 rfl rfl rfl <| A3 rfl rfl <| B8 rfl rfl rfl <| I7 rfl rfl <| B8 rfl rfl rfl <| A3 rfl rfl ?_
       refine B3 rfl rfl (fun hg0 => ?_) (fun hg0 => ?_)
       ·have hg := hg0; try simp only [SG] at hg
        refine B5 rfl rfl (by decide) rfl rfl <| gT rfl rfl <| B7 rfl rfl rfl rfl rfl rfl <| gT rfl rfl <| A3 rfl rfl <| gT rfl rfl <| H6 rfl rfl (C8 (by omega)) <| gT rfl rfl ?_
        apply D6 rfl
        ·apply B1
         ·exact B0 rfl
         apply B1
         ·exact B0 rfl
         apply B1
         ·exact B0 rfl
         exact D5
        ·exact F5 _ _ _
        ·exact ⟨rfl, rfl, rfl, of_decide_eq_true rfl, rfl⟩
        ·exact .inl rfl
        ·exact C6
        ·exact C7 rfl
        ·exact fun _ => rfl
        intro g77
        refine gT rfl rfl <| G8 rfl <| B8 rfl rfl rfl <| C0 rfl (by assumption) rfl rfl <| B6 rfl rfl rfl rfl ?_
        refine A4 ⟨nofun, _, kS [0,3,80] [] rfl, ?_⟩
        refine A8 rfl (fun hc => ?_) (fun hc => ?_)
        ·try simp only [SG, List.length_map] at hc
         refine A5 <| A0 <| A6 rfl rfl rfl ?_
         refine A4 ⟨nofun, _, kS [2] [] rfl, ?_⟩
         refine C4 <| C1 rfl rfl trivial ?_
         exact congrArg bV (D8 (i := i) (by omega) (F6 hnd (by omega) (by omega))).symm
        try simp only [SG, List.length_map] at hc
        refine B9 <| A0 <| A3 rfl rfl <| D9 rfl rfl (C8 (by omega)) <| A6 rfl rfl rfl ?_
        refine A4 ⟨nofun, _, kS [0,3] [] rfl, ?_⟩
        refine ⟨i + 1, ⟨by omega, fun j hj => by rcases Nat.lt_succ_iff_lt_or_eq.1 hj with h | h; (· exact hi2 j h); (· subst h; exact F3 hnd (by omega) (by assumption) (by exact .inr (by omega)) (by omega) (by omega))⟩, (by omega), ⟨rfl, rfl, trivial⟩⟩
       have hg := hg0; try simp only [SG] at hg
       refine gF rfl rfl <| gF rfl rfl <| gF rfl rfl <| gF rfl rfl <| gF rfl rfl <| B8 rfl rfl rfl <| B6 rfl (by assumption) rfl rfl <| B6 rfl rfl rfl rfl ?_
       refine A4 ⟨nofun, _, kS [0,3,80] [] rfl, ?_⟩
       refine A8 rfl (fun hc => absurd hc (by decide)) (fun hc => ?_)
       refine B9 <| A0 <| A3 rfl rfl <| D9 rfl rfl (C8 (by omega)) <| A6 rfl rfl rfl ?_
       refine A4 ⟨nofun, _, kS [0,3] [] rfl, ?_⟩
       refine ⟨i + 1, ⟨by omega, fun j hj => by rcases Nat.lt_succ_iff_lt_or_eq.1 hj with h | h; (· exact hi2 j h); (· subst h; exact F3 hnd (by omega) (by assumption) (by exact .inr (by omega)) (by omega) (by omega))⟩, (by omega), ⟨rfl, rfl, trivial⟩⟩
      have hg := hg0; try simp only [SG] at hg
      refine gF rfl rfl <| gF rfl rfl <| A7 rfl rfl <| A7 rfl rfl <| A7 rfl rfl <| gF rfl rfl <| C0 rfl (by assumption) rfl rfl <| A3 rfl rfl <| B2 rfl rfl rfl <| B2 rfl rfl rfl <| B2 rfl rfl rfl <| A7 rfl rfl <| A7 rfl rfl <| A7 rfl rfl <| A7 rfl rfl <| A7 rfl rfl <| A7 rfl rfl <| B2 rfl rfl rfl <| C0 rfl rfl rfl rfl ?_
      refine A4 ⟨nofun, _, kS [0,3,80] [] rfl, ?_⟩
      refine A8 rfl (fun hc => ?_) (fun hc => absurd hc (by decide))
      refine A5 <| A0 <| A6 rfl rfl rfl ?_
      refine A4 ⟨nofun, _, kS [2] [] rfl, ?_⟩
      refine C4 <| C1 rfl rfl trivial ?_
      exact congrArg bV (D8 (i := i) (by omega) (F6 hnd (by omega) (by omega))).symm
     have hg := hg0; try simp only [SG] at hg
     refine gF rfl rfl <| gF rfl rfl <| gF rfl rfl <| gF rfl rfl <| gF rfl rfl <| B8 rfl rfl rfl <| B6 rfl (by assumption) rfl rfl <| B6 rfl rfl rfl rfl <| A3 rfl rfl <| B8 rfl rfl rfl <| A3 rfl rfl <| B8 rfl rfl rfl <| G7 rfl rfl <| B8 rfl rfl rfl <| A3 rfl rfl ?_
     refine B3 rfl rfl (fun hg0 => ?_) (fun hg0 => ?_)
     ·have hg := hg0; try simp only [SG] at hg
      refine B5 rfl rfl (by decide) rfl rfl <| gT rfl rfl <| B7 rfl rfl rfl rfl rfl rfl <| gT rfl rfl <| K7 rfl rfl <| B8 rfl rfl rfl <| C0 rfl (by assumption) rfl rfl <| B6 rfl rfl rfl rfl <| A3 rfl rfl ?_
      refine B3 rfl rfl (fun hg0 => ?_) (fun hg0 => ?_)
      ·have hg := hg0; try simp only [SG] at hg
       refine A3 rfl rfl <| gT rfl rfl <| I7 rfl rfl <| gT rfl rfl <| A3 rfl rfl ?_
       refine B3 rfl rfl (fun hg0 => ?_) (fun hg0 => ?_)
       ·have hg := hg0; try simp only [SG] at hg
        refine B5 rfl rfl (by decide) rfl rfl <| gT rfl rfl <| B7 rfl rfl rfl rfl rfl rfl <| gT rfl rfl <| A3 rfl rfl <| gT rfl rfl <| H6 rfl rfl (C8 (by omega)) <| gT rfl rfl ?_
        apply D6 rfl
        ·apply B1
         ·exact B0 rfl
         apply B1
         ·exact B0 rfl
         apply B1
         ·exact B0 rfl
         exact D5
        ·exact F5 _ _ _
        ·exact ⟨rfl, rfl, rfl, of_decide_eq_true rfl, rfl⟩
        ·exact .inl rfl
        ·exact C6
        ·exact C7 rfl
        ·exact fun _ => rfl
        intro g77
        refine gT rfl rfl <| G8 rfl <| gT rfl rfl <| C0 rfl (by assumption) rfl rfl <| B6 rfl (by assumption) rfl rfl ?_
        refine A4 ⟨nofun, _, kS [0,3,80] [] rfl, ?_⟩
        refine A8 rfl (fun hc => ?_) (fun hc => ?_)
        ·try simp only [SG, List.length_map] at hc
         refine A5 <| A0 <| A6 rfl rfl rfl ?_
         refine A4 ⟨nofun, _, kS [2] [] rfl, ?_⟩
         refine C4 <| C1 rfl rfl trivial ?_
         exact congrArg bV (D8 (i := i) (by omega) (F6 hnd (by omega) (by omega))).symm
        try simp only [SG, List.length_map] at hc
        refine B9 <| A0 <| A3 rfl rfl <| D9 rfl rfl (C8 (by omega)) <| A6 rfl rfl rfl ?_
        refine A4 ⟨nofun, _, kS [0,3] [] rfl, ?_⟩
        refine ⟨i + 1, ⟨by omega, fun j hj => by rcases Nat.lt_succ_iff_lt_or_eq.1 hj with h | h; (· exact hi2 j h); (· subst h; exact F3 hnd (by omega) (by assumption) (by exact .inr (by omega)) (by omega) (by omega))⟩, (by omega), ⟨rfl, rfl, trivial⟩⟩
       have hg := hg0; try simp only [SG] at hg
       refine gF rfl rfl <| gF rfl rfl <| gF rfl rfl <| gF rfl rfl <| gF rfl rfl <| gT rfl rfl <| B6 rfl (by assumption) rfl rfl <| B6 rfl (by assumption) rfl rfl ?_
       refine A4 ⟨nofun, _, kS [0,3,80] [] rfl, ?_⟩
       refine A8 rfl (fun hc => absurd hc (by decide)) (fun hc => ?_)
       refine B9 <| A0 <| A3 rfl rfl <| D9 rfl rfl (C8 (by omega)) <| A6 rfl rfl rfl ?_
       refine A4 ⟨nofun, _, kS [0,3] [] rfl, ?_⟩
       refine ⟨i + 1, ⟨by omega, fun j hj => by rcases Nat.lt_succ_iff_lt_or_eq.1 hj with h | h; (· exact hi2 j h); (· subst h; exact F3 hnd (by omega) (by assumption) (by exact .inr (by omega)) (by omega) (by omega))⟩, (by omega), ⟨rfl, rfl, trivial⟩⟩
      have hg := hg0; try simp only [SG] at hg
      refine gF rfl rfl <| gF rfl rfl <| A7 rfl rfl <| A7 rfl rfl <| A7 rfl rfl <| A7 rfl rfl <| A7 rfl rfl <| A7 rfl rfl <| gF rfl rfl <| C0 rfl (by assumption) rfl rfl ?_
      refine A4 ⟨nofun, _, kS [0,3,80] [] rfl, ?_⟩
      refine A8 rfl (fun hc => ?_) (fun hc => absurd hc (by decide))
      refine A5 <| A0 <| A6 rfl rfl rfl ?_
      refine A4 ⟨nofun, _, kS [2] [] rfl, ?_⟩
      refine C4 <| C1 rfl rfl trivial ?_
      exact congrArg bV (D8 (i := i) (by omega) (F6 hnd (by omega) (by omega))).symm
     have hg := hg0; try simp only [SG] at hg
     refine gF rfl rfl <| gF rfl rfl <| B8 rfl rfl rfl <| B6 rfl (by assumption) rfl rfl <| B6 rfl rfl rfl rfl <| A3 rfl rfl <| B8 rfl rfl rfl <| A3 rfl rfl <| B8 rfl rfl rfl <| I7 rfl rfl <| B8 rfl rfl rfl <| A3 rfl rfl ?_
     refine B3 rfl rfl (fun hg0 => ?_) (fun hg0 => ?_)
     ·have hg := hg0; try simp only [SG] at hg
      refine B5 rfl rfl (by decide) rfl rfl <| gT rfl rfl <| B7 rfl rfl rfl rfl rfl rfl <| gT rfl rfl <| A3 rfl rfl <| gT rfl rfl <| H6 rfl rfl (C8 (by omega)) <| gT rfl rfl ?_
      apply D6 rfl
      ·apply B1
       ·exact B0 rfl
       apply B1
       ·exact B0 rfl
       apply B1
       ·exact B0 rfl
       exact D5
      ·exact F5 _ _ _
      ·exact ⟨rfl, rfl, rfl, of_decide_eq_true rfl, rfl⟩
      ·exact .inl rfl
      ·exact C6
      ·exact C7 rfl
      ·exact fun _ => rfl
      intro g77
      refine gT rfl rfl <| G8 rfl <| B8 rfl rfl rfl <| C0 rfl (by assumption) rfl rfl <| B6 rfl rfl rfl rfl ?_
      refine A4 ⟨nofun, _, kS [0,3,80] [] rfl, ?_⟩
      refine A8 rfl (fun hc => ?_) (fun hc => ?_)
      ·try simp only [SG, List.length_map] at hc
       refine A5 <| A0 <| A6 rfl rfl rfl ?_
       refine A4 ⟨nofun, _, kS [2] [] rfl, ?_⟩
       refine C4 <| C1 rfl rfl trivial ?_
       exact congrArg bV (D8 (i := i) (by omega) (F6 hnd (by omega) (by omega))).symm
      try simp only [SG, List.length_map] at hc
      refine B9 <| A0 <| A3 rfl rfl <| D9 rfl rfl (C8 (by omega)) <| A6 rfl rfl rfl ?_
      refine A4 ⟨nofun, _, kS [0,3] [] rfl, ?_⟩
      refine ⟨i + 1, ⟨by omega, fun j hj => by rcases Nat.lt_succ_iff_lt_or_eq.1 hj with h | h; (· exact hi2 j h); (· subst h; exact F3 hnd (by omega) (by assumption) (by exact .inr (by omega)) (by omega) (by omega))⟩, (by omega), ⟨rfl, rfl, trivial⟩⟩
     have hg := hg0; try simp only [SG] at hg
     refine gF rfl rfl <| gF rfl rfl <| gF rfl rfl <| gF rfl rfl <| gF rfl rfl <| B8 rfl rfl rfl <| B6 rfl (by assumption) rfl rfl <| B6 rfl rfl rfl rfl ?_
     refine A4 ⟨nofun, _, kS [0,3,80] [] rfl, ?_⟩
     refine A8 rfl (fun hc => absurd hc (by decide)) (fun hc => ?_)
     refine B9 <| A0 <| A3 rfl rfl <| D9 rfl rfl (C8 (by omega)) <| A6 rfl rfl rfl ?_
     refine A4 ⟨nofun, _, kS [0,3] [] rfl, ?_⟩
     refine ⟨i + 1, ⟨by omega, fun j hj => by rcases Nat.lt_succ_iff_lt_or_eq.1 hj with h | h; (· exact hi2 j h); (· subst h; exact F3 hnd (by omega) (by assumption) (by exact .inr (by omega)) (by omega) (by omega))⟩, (by omega), ⟨rfl, rfl, trivial⟩⟩
    have hg := hg0; try simp only [SG] at hg
    refine gF rfl rfl <| gF rfl rfl <| gF rfl rfl <| gT rfl rfl <| B6 rfl (by assumption) rfl rfl <| B6 rfl (by assumption) rfl rfl ?_
    refine A4 ⟨nofun, _, kS [0,3,4,5,40] [4] rfl, ?_⟩
    refine A8 rfl (fun hc => absurd hc (by decide)) (fun hc => ?_)
    refine B9 <| A5 <| A0 <| A3 rfl rfl <| I7 rfl rfl <| A3 rfl rfl ?_
    refine B3 rfl rfl (fun hg0 => ?_) (fun hg0 => ?_)
    ·have hg := hg0; try simp only [SG] at hg
     refine B5 rfl rfl (by decide) rfl rfl <| gT rfl rfl <| B7 rfl rfl rfl rfl rfl rfl <| gT rfl rfl <| K7 rfl rfl <| C0 rfl (by assumption) rfl rfl <| A3 rfl rfl ?_
     refine B3 rfl rfl (fun hg0 => ?_) (fun hg0 => ?_)
     ·have hg := hg0; try simp only [SG] at hg
      refine A3 rfl rfl <| gT rfl rfl <| Z4 rfl rfl <| gT rfl rfl <| A3 rfl rfl ?_
      refine B3 rfl rfl (fun hg0 => ?_) (fun hg0 => ?_)
      ·have hg := hg0; try simp only [SG] at hg
       refine B5 rfl rfl (by decide) rfl rfl <| gT rfl rfl <| B7 rfl rfl rfl rfl rfl rfl <| gT rfl rfl <| A3 rfl rfl <| gT rfl rfl <| H6 rfl rfl (C8 (by omega)) <| gT rfl rfl ?_
       apply D6 rfl
       ·apply B1
        ·exact B0 rfl
        apply B1
        ·exact B0 rfl
        apply B1
        ·exact B0 rfl
        exact D5
       ·exact F5 _ _ _
       ·exact ⟨rfl, rfl, rfl, of_decide_eq_true rfl, rfl⟩
       ·exact .inl rfl
       ·exact C6
       ·exact C7 rfl
       ·exact fun _ => rfl
       intro g56
       refine gT rfl rfl <| G8 rfl <| gT rfl rfl <| C0 rfl (by assumption) rfl rfl <| B6 rfl (by assumption) rfl rfl <| A3 rfl rfl ?_
       refine B3 rfl rfl (fun hg0 => ?_) (fun hg0 => ?_)
       ·have hg := hg0; try simp only [SG] at hg
        refine A3 rfl rfl <| gT rfl rfl <| G7 rfl rfl <| gT rfl rfl <| A3 rfl rfl ?_
        refine B3 rfl rfl (fun hg0 => ?_) (fun hg0 => ?_)
        ·have hg := hg0; try simp only [SG] at hg
         refine B5 rfl rfl (by decide) rfl rfl <| gT rfl rfl <| B7 rfl rfl rfl rfl rfl rfl <| gT rfl rfl <| K7 rfl rfl <| gT rfl rfl <| C0 rfl (by assumption) rfl rfl <| B6 rfl (by assumption) rfl rfl <| A3 rfl rfl ?_
         refine B3 rfl rfl (fun hg0 => ?_) (fun hg0 => ?_)
         ·have hg := hg0; try simp only [SG] at hg
          refine A3 rfl rfl <| gT rfl rfl <| I7 rfl rfl <| gT rfl rfl <| A3 rfl rfl ?_
          refine B3 rfl rfl (fun hg0 => ?_) (fun hg0 => ?_)
          ·have hg := hg0; try simp only [SG] at hg
           refine B5 rfl rfl (by decide) rfl rfl <| gT rfl rfl <| B7 rfl rfl rfl rfl rfl rfl <| gT rfl rfl <| A3 rfl rfl <| gT rfl rfl <| H6 rfl rfl (C8 (by omega)) <| gT rfl rfl ?_
           apply D6 rfl
           ·apply B1
            ·exact B0 rfl
            apply B1
            ·exact B0 rfl
            apply B1
            ·exact B0 rfl
            exact D5
           ·exact F5 _ _ _
           ·exact ⟨rfl, rfl, rfl, of_decide_eq_true rfl, rfl⟩
           ·exact .inl rfl
           ·exact C6
           ·exact C7 rfl
           ·exact fun _ => rfl
           intro g77
           refine gT rfl rfl <| G8 rfl <| gT rfl rfl <| C0 rfl (by assumption) rfl rfl <| B6 rfl (by assumption) rfl rfl ?_
           refine A4 ⟨nofun, _, kS [0,3,80] [] rfl, ?_⟩
           refine A8 rfl (fun hc => ?_) (fun hc => ?_)
           ·try simp only [SG, List.length_map] at hc
            refine A5 <| A0 <| A6 rfl rfl rfl ?_
            refine A4 ⟨nofun, _, kS [2] [] rfl, ?_⟩
            refine C4 <| C1 rfl rfl trivial ?_
            exact congrArg bV (D8 (i := i) (by omega) (F6 hnd (by omega) (by omega))).symm
           try simp only [SG, List.length_map] at hc
           refine B9 <| A0 <| A3 rfl rfl <| D9 rfl rfl (C8 (by omega)) <| A6 rfl rfl rfl ?_
           refine A4 ⟨nofun, _, kS [0,3] [] rfl, ?_⟩
           refine ⟨i + 1, ⟨by omega, fun j hj => by rcases Nat.lt_succ_iff_lt_or_eq.1 hj with h | h; (· exact hi2 j h); (· subst h; exact F3 hnd (by omega) (by assumption) (by exact .inl (by assumption)) (by omega) (by omega))⟩, (by omega), ⟨rfl, rfl, trivial⟩⟩
          have hg := hg0; try simp only [SG] at hg
          refine gF rfl rfl <| gF rfl rfl <| gF rfl rfl <| gF rfl rfl <| gF rfl rfl <| gT rfl rfl <| B6 rfl (by assumption) rfl rfl <| B6 rfl (by assumption) rfl rfl ?_
          refine A4 ⟨nofun, _, kS [0,3,80] [] rfl, ?_⟩
          refine A8 rfl (fun hc => absurd hc (by decide)) (fun hc => ?_)
          refine B9 <| A0 <| A3 rfl rfl <| D9 rfl rfl (C8 (by omega)) <| A6 rfl rfl rfl ?_
          refine A4 ⟨nofun, _, kS [0,3] [] rfl, ?_⟩
          refine ⟨i + 1, ⟨by omega, fun j hj => by rcases Nat.lt_succ_iff_lt_or_eq.1 hj with h | h; (· exact hi2 j h); (· subst h; exact F3 hnd (by omega) (by assumption) (by exact .inl (by assumption)) (by omega) (by omega))⟩, (by omega), ⟨rfl, rfl, trivial⟩⟩
         have hg := hg0; try simp only [SG] at hg
         refine gF rfl rfl <| gF rfl rfl <| A7 rfl rfl <| A7 rfl rfl <| A7 rfl rfl <| A7 rfl rfl <| A7 rfl rfl <| A7 rfl rfl <| gF rfl rfl <| C0 rfl (by assumption) rfl rfl ?_
         refine A4 ⟨nofun, _, kS [0,3,80] [] rfl, ?_⟩
         refine A8 rfl (fun hc => ?_) (fun hc => absurd hc (by decide))
         refine A5 <| A0 <| A6 rfl rfl rfl ?_
         refine A4 ⟨nofun, _, kS [2] [] rfl, ?_⟩
         refine C4 <| C1 rfl rfl trivial ?_
         exact congrArg bV (D8 (i := i) (by omega) (F6 hnd (by omega) (by omega))).symm
        have hg := hg0; try simp only [SG] at hg
        refine gF rfl rfl <| gF rfl rfl <| gT rfl rfl <| B6 rfl (by assumption) rfl rfl <| B6 rfl (by assumption) rfl rfl <| A3 rfl rfl <| B8 rfl rfl rfl <| A3 rfl rfl <| B8 rfl rfl rfl <| I7 rfl rfl <| B8 rfl rfl rfl <| A3 rfl rfl ?_
        refine B3 rfl rfl (fun hg0 => ?_) (fun hg0 => ?_)
        ·have hg := hg0; try simp only [SG] at hg
         refine B5 rfl rfl (by decide) rfl rfl <| gT rfl rfl <| B7 rfl rfl rfl rfl rfl rfl <| gT rfl rfl <| A3 rfl rfl <| gT rfl rfl <| H6 rfl rfl (C8 (by omega)) <| gT rfl rfl ?_
         apply D6 rfl
         ·apply B1
          ·exact B0 rfl
          apply B1
          ·exact B0 rfl
          apply B1
          ·exact B0 rfl
          exact D5
         ·exact F5 _ _ _
         ·exact ⟨rfl, rfl, rfl, of_decide_eq_true rfl, rfl⟩
         ·exact .inl rfl
         ·exact C6
         ·exact C7 rfl
         ·exact fun _ => rfl
         intro g77
         refine gT rfl rfl <| G8 rfl <| B8 rfl rfl rfl <| C0 rfl (by assumption) rfl rfl <| B6 rfl rfl rfl rfl ?_
         refine A4 ⟨nofun, _, kS [0,3,80] [] rfl, ?_⟩
         refine A8 rfl (fun hc => ?_) (fun hc => ?_)
         ·try simp only [SG, List.length_map] at hc
          refine A5 <| A0 <| A6 rfl rfl rfl ?_
          refine A4 ⟨nofun, _, kS [2] [] rfl, ?_⟩
          refine C4 <| C1 rfl rfl trivial ?_
          exact congrArg bV (D8 (i := i) (by omega) (F6 hnd (by omega) (by omega))).symm
         try simp only [SG, List.length_map] at hc
         refine B9 <| A0 <| A3 rfl rfl <| D9 rfl rfl (C8 (by omega)) <| A6 rfl rfl rfl ?_
         refine A4 ⟨nofun, _, kS [0,3] [] rfl, ?_⟩
         refine ⟨i + 1, ⟨by omega, fun j hj => by rcases Nat.lt_succ_iff_lt_or_eq.1 hj with h | h; (· exact hi2 j h); (· subst h; exact F3 hnd (by omega) (by assumption) (by exact .inl (by assumption)) (by omega) (by omega))⟩, (by omega), ⟨rfl, rfl, trivial⟩⟩
        have hg := hg0; try simp only [SG] at hg
        refine gF rfl rfl <| gF rfl rfl <| gF rfl rfl <| gF rfl rfl <| gF rfl rfl <| B8 rfl rfl rfl <| B6 rfl (by assumption) rfl rfl <| B6 rfl rfl rfl rfl ?_
        refine A4 ⟨nofun, _, kS [0,3,80] [] rfl, ?_⟩
        refine A8 rfl (fun hc => absurd hc (by decide)) (fun hc => ?_)
        refine B9 <| A0 <| A3 rfl rfl <| D9 rfl rfl (C8 (by omega)) <| A6 rfl rfl rfl ?_
        refine A4 ⟨nofun, _, kS [0,3] [] rfl, ?_⟩
        refine ⟨i + 1, ⟨by omega, fun j hj => by rcases Nat.lt_succ_iff_lt_or_eq.1 hj with h | h; (· exact hi2 j h); (· subst h; exact F3 hnd (by omega) (by assumption) (by exact .inl (by assumption)) (by omega) (by omega))⟩, (by omega), ⟨rfl, rfl, trivial⟩⟩
       have hg := hg0; try simp only [SG] at hg
       refine gF rfl rfl <| gF rfl rfl <| A7 rfl rfl <| A7 rfl rfl <| A7 rfl rfl <| gF rfl rfl <| C0 rfl (by assumption) rfl rfl <| A3 rfl rfl <| B2 rfl rfl rfl <| B2 rfl rfl rfl <| B2 rfl rfl rfl <| A7 rfl rfl <| A7 rfl rfl <| A7 rfl rfl <| A7 rfl rfl <| A7 rfl rfl <| A7 rfl rfl <| B2 rfl rfl rfl <| C0 rfl rfl rfl rfl ?_
       refine A4 ⟨nofun, _, kS [0,3,80] [] rfl, ?_⟩
       refine A8 rfl (fun hc => ?_) (fun hc => absurd hc (by decide))
       refine A5 <| A0 <| A6 rfl rfl rfl ?_
       refine A4 ⟨nofun, _, kS [2] [] rfl, ?_⟩
       refine C4 <| C1 rfl rfl trivial ?_
       exact congrArg bV (D8 (i := i) (by omega) (F6 hnd (by omega) (by omega))).symm
      have hg := hg0; try simp only [SG] at hg
      refine gF rfl rfl <| gF rfl rfl <| gF rfl rfl <| gF rfl rfl <| gF rfl rfl <| gT rfl rfl <| B6 rfl (by assumption) rfl rfl <| B6 rfl (by assumption) rfl rfl <| A3 rfl rfl <| B8 rfl rfl rfl <| A3 rfl rfl <| B8 rfl rfl rfl <| G7 rfl rfl <| B8 rfl rfl rfl <| A3 rfl rfl ?_
      refine B3 rfl rfl (fun hg0 => ?_) (fun hg0 => ?_)
      ·have hg := hg0; try simp only [SG] at hg
       refine B5 rfl rfl (by decide) rfl rfl <| gT rfl rfl <| B7 rfl rfl rfl rfl rfl rfl <| gT rfl rfl <| K7 rfl rfl <| B8 rfl rfl rfl <| C0 rfl (by assumption) rfl rfl <| B6 rfl rfl rfl rfl <| A3 rfl rfl ?_
       refine B3 rfl rfl (fun hg0 => ?_) (fun hg0 => ?_)
       ·have hg := hg0; try simp only [SG] at hg
        refine A3 rfl rfl <| gT rfl rfl <| I7 rfl rfl <| gT rfl rfl <| A3 rfl rfl ?_
        refine B3 rfl rfl (fun hg0 => ?_) (fun hg0 => ?_)
        ·have hg := hg0; try simp only [SG] at hg
         refine B5 rfl rfl (by decide) rfl rfl <| gT rfl rfl <| B7 rfl rfl rfl rfl rfl rfl <| gT rfl rfl <| A3 rfl rfl <| gT rfl rfl <| H6 rfl rfl (C8 (by omega)) <| gT rfl rfl ?_
         apply D6 rfl
         ·apply B1
          ·exact B0 rfl
          apply B1
          ·exact B0 rfl
          apply B1
          ·exact B0 rfl
          exact D5
         ·exact F5 _ _ _
         ·exact ⟨rfl, rfl, rfl, of_decide_eq_true rfl, rfl⟩
         ·exact .inl rfl
         ·exact C6
         ·exact C7 rfl
         ·exact fun _ => rfl
         intro g77
         refine gT rfl rfl <| G8 rfl <| gT rfl rfl <| C0 rfl (by assumption) rfl rfl <| B6 rfl (by assumption) rfl rfl ?_
         refine A4 ⟨nofun, _, kS [0,3,80] [] rfl, ?_⟩
         refine A8 rfl (fun hc => ?_) (fun hc => ?_)
         ·try simp only [SG, List.length_map] at hc
          refine A5 <| A0 <| A6 rfl rfl rfl ?_
          refine A4 ⟨nofun, _, kS [2] [] rfl, ?_⟩
          refine C4 <| C1 rfl rfl trivial ?_
          exact congrArg bV (D8 (i := i) (by omega) (F6 hnd (by omega) (by omega))).symm
         try simp only [SG, List.length_map] at hc
         refine B9 <| A0 <| A3 rfl rfl <| D9 rfl rfl (C8 (by omega)) <| A6 rfl rfl rfl ?_
         refine A4 ⟨nofun, _, kS [0,3] [] rfl, ?_⟩
         refine ⟨i + 1, ⟨by omega, fun j hj => by rcases Nat.lt_succ_iff_lt_or_eq.1 hj with h | h; (· exact hi2 j h); (· subst h; exact F3 hnd (by omega) (by assumption) (by exact .inl (by assumption)) (by omega) (by omega))⟩, (by omega), ⟨rfl, rfl, trivial⟩⟩
        have hg := hg0; try simp only [SG] at hg
        refine gF rfl rfl <| gF rfl rfl <| gF rfl rfl <| gF rfl rfl <| gF rfl rfl <| gT rfl rfl <| B6 rfl (by assumption) rfl rfl <| B6 rfl (by assumption) rfl rfl ?_
        refine A4 ⟨nofun, _, kS [0,3,80] [] rfl, ?_⟩
        refine A8 rfl (fun hc => absurd hc (by decide)) (fun hc => ?_)
        refine B9 <| A0 <| A3 rfl rfl <| D9 rfl rfl (C8 (by omega)) <| A6 rfl rfl rfl ?_
        refine A4 ⟨nofun, _, kS [0,3] [] rfl, ?_⟩
        refine ⟨i + 1, ⟨by omega, fun j hj => by rcases Nat.lt_succ_iff_lt_or_eq.1 hj with h | h; (· exact hi2 j h); (· subst h; exact F3 hnd (by omega) (by assumption) (by exact .inl (by assumption)) (by omega) (by omega))⟩, (by omega), ⟨rfl, rfl, trivial⟩⟩
       have hg := hg0; try simp only [SG] at hg
       refine gF rfl rfl <| gF rfl rfl <| A7 rfl rfl <| A7 rfl rfl <| A7 rfl rfl <| A7 rfl rfl <| A7 rfl rfl <| A7 rfl rfl <| gF rfl rfl <| C0 rfl (by assumption) rfl rfl ?_
       refine A4 ⟨nofun, _, kS [0,3,80] [] rfl, ?_⟩
       refine A8 rfl (fun hc => ?_) (fun hc => absurd hc (by decide))
       refine A5 <| A0 <| A6 rfl rfl rfl ?_
       refine A4 ⟨nofun, _, kS [2] [] rfl, ?_⟩
       refine C4 <| C1 rfl rfl trivial ?_
       exact congrArg bV (D8 (i := i) (by omega) (F6 hnd (by omega) (by omega))).symm
      have hg := hg0; try simp only [SG] at hg
      refine gF rfl rfl <| gF rfl rfl <| B8 rfl rfl rfl <| B6 rfl (by assumption) rfl rfl <| B6 rfl rfl rfl rfl <| A3 rfl rfl <| B8 rfl rfl rfl <| A3 rfl rfl <| B8 rfl rfl rfl <| I7 rfl rfl <| B8 rfl rfl rfl <| A3 rfl rfl ?_
      refine B3 rfl rfl (fun hg0 => ?_) (fun hg0 => ?_)
      ·have hg := hg0; try simp only [SG] at hg
       refine B5 rfl rfl (by decide) rfl rfl <| gT rfl rfl <| B7 rfl rfl rfl rfl rfl rfl <| gT rfl rfl <| A3 rfl rfl <| gT rfl rfl <| H6 rfl rfl (C8 (by omega)) <| gT rfl rfl ?_
       apply D6 rfl
       ·apply B1
        ·exact B0 rfl
        apply B1
        ·exact B0 rfl
        apply B1
        ·exact B0 rfl
        exact D5
       ·exact F5 _ _ _
       ·exact ⟨rfl, rfl, rfl, of_decide_eq_true rfl, rfl⟩
       ·exact .inl rfl
       ·exact C6
       ·exact C7 rfl
       ·exact fun _ => rfl
       intro g77
       refine gT rfl rfl <| G8 rfl <| B8 rfl rfl rfl <| C0 rfl (by assumption) rfl rfl <| B6 rfl rfl rfl rfl ?_
       refine A4 ⟨nofun, _, kS [0,3,80] [] rfl, ?_⟩
       refine A8 rfl (fun hc => ?_) (fun hc => ?_)
       ·try simp only [SG, List.length_map] at hc
        refine A5 <| A0 <| A6 rfl rfl rfl ?_
        refine A4 ⟨nofun, _, kS [2] [] rfl, ?_⟩
        refine C4 <| C1 rfl rfl trivial ?_
        exact congrArg bV (D8 (i := i) (by omega) (F6 hnd (by omega) (by omega))).symm
       try simp only [SG, List.length_map] at hc
       refine B9 <| A0 <| A3 rfl rfl <| D9 rfl rfl (C8 (by omega)) <| A6 rfl rfl rfl ?_
       refine A4 ⟨nofun, _, kS [0,3] [] rfl, ?_⟩
       refine ⟨i + 1, ⟨by omega, fun j hj => by rcases Nat.lt_succ_iff_lt_or_eq.1 hj with h | h; (· exact hi2 j h); (· subst h; exact F3 hnd (by omega) (by assumption) (by exact .inl (by assumption)) (by omega) (by omega))⟩, (by omega), ⟨rfl, rfl, trivial⟩⟩
      have hg := hg0; try simp only [SG] at hg
      refine gF rfl rfl <| gF rfl rfl <| gF rfl rfl <| gF rfl rfl <| gF rfl rfl <| B8 rfl rfl rfl <| B6 rfl (by assumption) rfl rfl <| B6 rfl rfl rfl rfl ?_
      refine A4 ⟨nofun, _, kS [0,3,80] [] rfl, ?_⟩
      refine A8 rfl (fun hc => absurd hc (by decide)) (fun hc => ?_)
      refine B9 <| A0 <| A3 rfl rfl <| D9 rfl rfl (C8 (by omega)) <| A6 rfl rfl rfl ?_
      refine A4 ⟨nofun, _, kS [0,3] [] rfl, ?_⟩
      refine ⟨i + 1, ⟨by omega, fun j hj => by rcases Nat.lt_succ_iff_lt_or_eq.1 hj with h | h; (· exact hi2 j h); (· subst h; exact F3 hnd (by omega) (by assumption) (by exact .inl (by assumption)) (by omega) (by omega))⟩, (by omega), ⟨rfl, rfl, trivial⟩⟩
     have hg := hg0; try simp only [SG] at hg
     refine gF rfl rfl <| gF rfl rfl <| A7 rfl rfl <| A7 rfl rfl <| A7 rfl rfl <| A7 rfl rfl <| A7 rfl rfl <| A7 rfl rfl <| gF rfl rfl <| C0 rfl (by assumption) rfl rfl <| A3 rfl rfl <| B2 rfl rfl rfl <| B2 rfl rfl rfl <| B2 rfl rfl rfl <| A7 rfl rfl <| A7 rfl rfl <| A7 rfl rfl <| B2 rfl rfl rfl <| C0 rfl rfl rfl rfl <| A3 rfl rfl <| B2 rfl rfl rfl <| B2 rfl rfl rfl <| B2 rfl rfl rfl <| A7 rfl rfl <| A7 rfl rfl <| A7 rfl rfl <| A7 rfl rfl <| A7 rfl rfl <| A7 rfl rfl <| B2 rfl rfl rfl <| C0 rfl rfl rfl rfl ?_
     refine A4 ⟨nofun, _, kS [0,3,80] [] rfl, ?_⟩
     refine A8 rfl (fun hc => ?_) (fun hc => absurd hc (by decide))
     refine A5 <| A0 <| A6 rfl rfl rfl ?_
     refine A4 ⟨nofun, _, kS [2] [] rfl, ?_⟩
     refine C4 <| C1 rfl rfl trivial ?_
     exact congrArg bV (D8 (i := i) (by omega) (F6 hnd (by omega) (by omega))).symm
    have hg := hg0; try simp only [SG] at hg
    refine gF rfl rfl <| gF rfl rfl <| B6 rfl (by assumption) rfl rfl <| A3 rfl rfl <| B8 rfl rfl rfl <| A3 rfl rfl <| B8 rfl rfl rfl <| Z4 rfl rfl <| B8 rfl rfl rfl <| A3 rfl rfl ?_
    refine B3 rfl rfl (fun hg0 => ?_) (fun hg0 => ?_)
    ·have hg := hg0; try simp only [SG] at hg
     refine B5 rfl rfl (by decide) rfl rfl <| gT rfl rfl <| B7 rfl rfl rfl rfl rfl rfl <| gT rfl rfl <| A3 rfl rfl <| gT rfl rfl <| H6 rfl rfl (C8 (by omega)) <| gT rfl rfl ?_
     apply D6 rfl
     ·apply B1
      ·exact B0 rfl
      apply B1
      ·exact B0 rfl
      apply B1
      ·exact B0 rfl
      exact D5
     ·exact F5 _ _ _
     ·exact ⟨rfl, rfl, rfl, of_decide_eq_true rfl, rfl⟩
     ·exact .inl rfl
     ·exact C6
     ·exact C7 rfl
     ·exact fun _ => rfl
     intro g56
     refine gT rfl rfl <| G8 rfl <| B8 rfl rfl rfl <| C0 rfl (by assumption) rfl rfl <| B6 rfl rfl rfl rfl <| A3 rfl rfl ?_
     refine B3 rfl rfl (fun hg0 => ?_) (fun hg0 => ?_)
     ·have hg := hg0; try simp only [SG] at hg
      refine A3 rfl rfl <| gT rfl rfl <| G7 rfl rfl <| gT rfl rfl <| A3 rfl rfl ?_
      refine B3 rfl rfl (fun hg0 => ?_) (fun hg0 => ?_)
      ·have hg := hg0; try simp only [SG] at hg
       refine B5 rfl rfl (by decide) rfl rfl <| gT rfl rfl <| B7 rfl rfl rfl rfl rfl rfl <| gT rfl rfl <| K7 rfl rfl <| gT rfl rfl <| C0 rfl (by assumption) rfl rfl <| B6 rfl (by assumption) rfl rfl <| A3 rfl rfl ?_
       refine B3 rfl rfl (fun hg0 => ?_) (fun hg0 => ?_)
       ·have hg := hg0; try simp only [SG] at hg
        refine A3 rfl rfl <| gT rfl rfl <| I7 rfl rfl <| gT rfl rfl <| A3 rfl rfl ?_
        refine B3 rfl rfl (fun hg0 => ?_) (fun hg0 => ?_)
        ·have hg := hg0; try simp only [SG] at hg
         refine B5 rfl rfl (by decide) rfl rfl <| gT rfl rfl <| B7 rfl rfl rfl rfl rfl rfl <| gT rfl rfl <| A3 rfl rfl <| gT rfl rfl <| H6 rfl rfl (C8 (by omega)) <| gT rfl rfl ?_
         apply D6 rfl
         ·apply B1
          ·exact B0 rfl
          apply B1
          ·exact B0 rfl
          apply B1
          ·exact B0 rfl
          exact D5
         ·exact F5 _ _ _
         ·exact ⟨rfl, rfl, rfl, of_decide_eq_true rfl, rfl⟩
         ·exact .inl rfl
         ·exact C6
         ·exact C7 rfl
         ·exact fun _ => rfl
         intro g77
         refine gT rfl rfl <| G8 rfl <| gT rfl rfl <| C0 rfl (by assumption) rfl rfl <| B6 rfl (by assumption) rfl rfl ?_
         refine A4 ⟨nofun, _, kS [0,3,80] [] rfl, ?_⟩
         refine A8 rfl (fun hc => ?_) (fun hc => ?_)
         ·try simp only [SG, List.length_map] at hc
          refine A5 <| A0 <| A6 rfl rfl rfl ?_
          refine A4 ⟨nofun, _, kS [2] [] rfl, ?_⟩
          refine C4 <| C1 rfl rfl trivial ?_
          exact congrArg bV (D8 (i := i) (by omega) (F6 hnd (by omega) (by omega))).symm
         try simp only [SG, List.length_map] at hc
         refine B9 <| A0 <| A3 rfl rfl <| D9 rfl rfl (C8 (by omega)) <| A6 rfl rfl rfl ?_
         refine A4 ⟨nofun, _, kS [0,3] [] rfl, ?_⟩
         refine ⟨i + 1, ⟨by omega, fun j hj => by rcases Nat.lt_succ_iff_lt_or_eq.1 hj with h | h; (· exact hi2 j h); (· subst h; exact F3 hnd (by omega) (by assumption) (by exact .inl (by assumption)) (by omega) (by omega))⟩, (by omega), ⟨rfl, rfl, trivial⟩⟩
        have hg := hg0; try simp only [SG] at hg
        refine gF rfl rfl <| gF rfl rfl <| gF rfl rfl <| gF rfl rfl <| gF rfl rfl <| gT rfl rfl <| B6 rfl (by assumption) rfl rfl <| B6 rfl (by assumption) rfl rfl ?_
        refine A4 ⟨nofun, _, kS [0,3,80] [] rfl, ?_⟩
        refine A8 rfl (fun hc => absurd hc (by decide)) (fun hc => ?_)
        refine B9 <| A0 <| A3 rfl rfl <| D9 rfl rfl (C8 (by omega)) <| A6 rfl rfl rfl ?_
        refine A4 ⟨nofun, _, kS [0,3] [] rfl, ?_⟩
        refine ⟨i + 1, ⟨by omega, fun j hj => by rcases Nat.lt_succ_iff_lt_or_eq.1 hj with h | h; (· exact hi2 j h); (· subst h; exact F3 hnd (by omega) (by assumption) (by exact .inl (by assumption)) (by omega) (by omega))⟩, (by omega), ⟨rfl, rfl, trivial⟩⟩
       have hg := hg0; try simp only [SG] at hg
       refine gF rfl rfl <| gF rfl rfl <| A7 rfl rfl <| A7 rfl rfl <| A7 rfl rfl <| A7 rfl rfl <| A7 rfl rfl <| A7 rfl rfl <| gF rfl rfl <| C0 rfl (by assumption) rfl rfl ?_
       refine A4 ⟨nofun, _, kS [0,3,80] [] rfl, ?_⟩
       refine A8 rfl (fun hc => ?_) (fun hc => absurd hc (by decide))
       refine A5 <| A0 <| A6 rfl rfl rfl ?_
       refine A4 ⟨nofun, _, kS [2] [] rfl, ?_⟩
       refine C4 <| C1 rfl rfl trivial ?_
       exact congrArg bV (D8 (i := i) (by omega) (F6 hnd (by omega) (by omega))).symm
      have hg := hg0; try simp only [SG] at hg
      refine gF rfl rfl <| gF rfl rfl <| gT rfl rfl <| B6 rfl (by assumption) rfl rfl <| B6 rfl (by assumption) rfl rfl <| A3 rfl rfl <| B8 rfl rfl rfl <| A3 rfl rfl <| B8 rfl rfl rfl <| I7 rfl rfl <| B8 rfl rfl rfl <| A3 rfl rfl ?_
      refine B3 rfl rfl (fun hg0 => ?_) (fun hg0 => ?_)
      ·have hg := hg0; try simp only [SG] at hg
       refine B5 rfl rfl (by decide) rfl rfl <| gT rfl rfl <| B7 rfl rfl rfl rfl rfl rfl <| gT rfl rfl <| A3 rfl rfl <| gT rfl rfl <| H6 rfl rfl (C8 (by omega)) <| gT rfl rfl ?_
       apply D6 rfl
       ·apply B1
        ·exact B0 rfl
        apply B1
        ·exact B0 rfl
        apply B1
        ·exact B0 rfl
        exact D5
       ·exact F5 _ _ _
       ·exact ⟨rfl, rfl, rfl, of_decide_eq_true rfl, rfl⟩
       ·exact .inl rfl
       ·exact C6
       ·exact C7 rfl
       ·exact fun _ => rfl
       intro g77
       refine gT rfl rfl <| G8 rfl <| B8 rfl rfl rfl <| C0 rfl (by assumption) rfl rfl <| B6 rfl rfl rfl rfl ?_
       refine A4 ⟨nofun, _, kS [0,3,80] [] rfl, ?_⟩
       refine A8 rfl (fun hc => ?_) (fun hc => ?_)
       ·try simp only [SG, List.length_map] at hc
        refine A5 <| A0 <| A6 rfl rfl rfl ?_
        refine A4 ⟨nofun, _, kS [2] [] rfl, ?_⟩
        refine C4 <| C1 rfl rfl trivial ?_
        exact congrArg bV (D8 (i := i) (by omega) (F6 hnd (by omega) (by omega))).symm
       try simp only [SG, List.length_map] at hc
       refine B9 <| A0 <| A3 rfl rfl <| D9 rfl rfl (C8 (by omega)) <| A6 rfl rfl rfl ?_
       refine A4 ⟨nofun, _, kS [0,3] [] rfl, ?_⟩
       refine ⟨i + 1, ⟨by omega, fun j hj => by rcases Nat.lt_succ_iff_lt_or_eq.1 hj with h | h; (· exact hi2 j h); (· subst h; exact F3 hnd (by omega) (by assumption) (by exact .inl (by assumption)) (by omega) (by omega))⟩, (by omega), ⟨rfl, rfl, trivial⟩⟩
      have hg := hg0; try simp only [SG] at hg
      refine gF rfl rfl <| gF rfl rfl <| gF rfl rfl <| gF rfl rfl <| gF rfl rfl <| B8 rfl rfl rfl <| B6 rfl (by assumption) rfl rfl <| B6 rfl rfl rfl rfl ?_
      refine A4 ⟨nofun, _, kS [0,3,80] [] rfl, ?_⟩
      refine A8 rfl (fun hc => absurd hc (by decide)) (fun hc => ?_)
      refine B9 <| A0 <| A3 rfl rfl <| D9 rfl rfl (C8 (by omega)) <| A6 rfl rfl rfl ?_
      refine A4 ⟨nofun, _, kS [0,3] [] rfl, ?_⟩
      refine ⟨i + 1, ⟨by omega, fun j hj => by rcases Nat.lt_succ_iff_lt_or_eq.1 hj with h | h; (· exact hi2 j h); (· subst h; exact F3 hnd (by omega) (by assumption) (by exact .inl (by assumption)) (by omega) (by omega))⟩, (by omega), ⟨rfl, rfl, trivial⟩⟩
     have hg := hg0; try simp only [SG] at hg
     refine gF rfl rfl <| gF rfl rfl <| A7 rfl rfl <| A7 rfl rfl <| A7 rfl rfl <| gF rfl rfl <| C0 rfl (by assumption) rfl rfl <| A3 rfl rfl <| B2 rfl rfl rfl <| B2 rfl rfl rfl <| B2 rfl rfl rfl <| A7 rfl rfl <| A7 rfl rfl <| A7 rfl rfl <| A7 rfl rfl <| A7 rfl rfl <| A7 rfl rfl <| B2 rfl rfl rfl <| C0 rfl rfl rfl rfl ?_
     refine A4 ⟨nofun, _, kS [0,3,80] [] rfl, ?_⟩
     refine A8 rfl (fun hc => ?_) (fun hc => absurd hc (by decide))
     refine A5 <| A0 <| A6 rfl rfl rfl ?_
     refine A4 ⟨nofun, _, kS [2] [] rfl, ?_⟩
     refine C4 <| C1 rfl rfl trivial ?_
     exact congrArg bV (D8 (i := i) (by omega) (F6 hnd (by omega) (by omega))).symm
    have hg := hg0; try simp only [SG] at hg
    refine gF rfl rfl <| gF rfl rfl <| gF rfl rfl <| gF rfl rfl <| gF rfl rfl <| B8 rfl rfl rfl <| B6 rfl (by assumption) rfl rfl <| B6 rfl rfl rfl rfl <| A3 rfl rfl <| B8 rfl rfl rfl <| A3 rfl rfl <| B8 rfl rfl rfl <| G7 rfl rfl <| B8 rfl rfl rfl <| A3 rfl rfl ?_
    refine B3 rfl rfl (fun hg0 => ?_) (fun hg0 => ?_)
    ·have hg := hg0; try simp only [SG] at hg
     refine B5 rfl rfl (by decide) rfl rfl <| gT rfl rfl <| B7 rfl rfl rfl rfl rfl rfl <| gT rfl rfl <| K7 rfl rfl <| B8 rfl rfl rfl <| C0 rfl (by assumption) rfl rfl <| B6 rfl rfl rfl rfl <| A3 rfl rfl ?_
     refine B3 rfl rfl (fun hg0 => ?_) (fun hg0 => ?_)
     ·have hg := hg0; try simp only [SG] at hg
      refine A3 rfl rfl <| gT rfl rfl <| I7 rfl rfl <| gT rfl rfl <| A3 rfl rfl ?_
      refine B3 rfl rfl (fun hg0 => ?_) (fun hg0 => ?_)
      ·have hg := hg0; try simp only [SG] at hg
       refine B5 rfl rfl (by decide) rfl rfl <| gT rfl rfl <| B7 rfl rfl rfl rfl rfl rfl <| gT rfl rfl <| A3 rfl rfl <| gT rfl rfl <| H6 rfl rfl (C8 (by omega)) <| gT rfl rfl ?_
       apply D6 rfl
       ·apply B1
        ·exact B0 rfl
        apply B1
        ·exact B0 rfl
        apply B1
        ·exact B0 rfl
        exact D5
       ·exact F5 _ _ _
       ·exact ⟨rfl, rfl, rfl, of_decide_eq_true rfl, rfl⟩
       ·exact .inl rfl
       ·exact C6
       ·exact C7 rfl
       ·exact fun _ => rfl
       intro g77
       refine gT rfl rfl <| G8 rfl <| gT rfl rfl <| C0 rfl (by assumption) rfl rfl <| B6 rfl (by assumption) rfl rfl ?_
       refine A4 ⟨nofun, _, kS [0,3,80] [] rfl, ?_⟩
       refine A8 rfl (fun hc => ?_) (fun hc => ?_)
       ·try simp only [SG, List.length_map] at hc
        refine A5 <| A0 <| A6 rfl rfl rfl ?_
        refine A4 ⟨nofun, _, kS [2] [] rfl, ?_⟩
        refine C4 <| C1 rfl rfl trivial ?_
        exact congrArg bV (D8 (i := i) (by omega) (F6 hnd (by omega) (by omega))).symm
       try simp only [SG, List.length_map] at hc
       refine B9 <| A0 <| A3 rfl rfl <| D9 rfl rfl (C8 (by omega)) <| A6 rfl rfl rfl ?_
       refine A4 ⟨nofun, _, kS [0,3] [] rfl, ?_⟩
       refine ⟨i + 1, ⟨by omega, fun j hj => by rcases Nat.lt_succ_iff_lt_or_eq.1 hj with h | h; (· exact hi2 j h); (· subst h; exact F3 hnd (by omega) (by assumption) (by exact .inl (by assumption)) (by omega) (by omega))⟩, (by omega), ⟨rfl, rfl, trivial⟩⟩
      have hg := hg0; try simp only [SG] at hg
      refine gF rfl rfl <| gF rfl rfl <| gF rfl rfl <| gF rfl rfl <| gF rfl rfl <| gT rfl rfl <| B6 rfl (by assumption) rfl rfl <| B6 rfl (by assumption) rfl rfl ?_
      refine A4 ⟨nofun, _, kS [0,3,80] [] rfl, ?_⟩
      refine A8 rfl (fun hc => absurd hc (by decide)) (fun hc => ?_)
      refine B9 <| A0 <| A3 rfl rfl <| D9 rfl rfl (C8 (by omega)) <| A6 rfl rfl rfl ?_
      refine A4 ⟨nofun, _, kS [0,3] [] rfl, ?_⟩
      refine ⟨i + 1, ⟨by omega, fun j hj => by rcases Nat.lt_succ_iff_lt_or_eq.1 hj with h | h; (· exact hi2 j h); (· subst h; exact F3 hnd (by omega) (by assumption) (by exact .inl (by assumption)) (by omega) (by omega))⟩, (by omega), ⟨rfl, rfl, trivial⟩⟩
     have hg := hg0; try simp only [SG] at hg
     refine gF rfl rfl <| gF rfl rfl <| A7 rfl rfl <| A7 rfl rfl <| A7 rfl rfl <| A7 rfl rfl <| A7 rfl rfl <| A7 rfl rfl <| gF rfl rfl <| C0 rfl (by assumption) rfl rfl ?_
     refine A4 ⟨nofun, _, kS [0,3,80] [] rfl, ?_⟩
     refine A8 rfl (fun hc => ?_) (fun hc => absurd hc (by decide))
     refine A5 <| A0 <| A6 rfl rfl rfl ?_
     refine A4 ⟨nofun, _, kS [2] [] rfl, ?_⟩
     refine C4 <| C1 rfl rfl trivial ?_
     exact congrArg bV (D8 (i := i) (by omega) (F6 hnd (by omega) (by omega))).symm
    have hg := hg0; try simp only [SG] at hg
    refine gF rfl rfl <| gF rfl rfl <| B8 rfl rfl rfl <| B6 rfl (by assumption) rfl rfl <| B6 rfl rfl rfl rfl <| A3 rfl rfl <| B8 rfl rfl rfl <| A3 rfl rfl <| B8 rfl rfl rfl <| I7 rfl rfl <| B8 rfl rfl rfl <| A3 rfl rfl ?_
    refine B3 rfl rfl (fun hg0 => ?_) (fun hg0 => ?_)
    ·have hg := hg0; try simp only [SG] at hg
     refine B5 rfl rfl (by decide) rfl rfl <| gT rfl rfl <| B7 rfl rfl rfl rfl rfl rfl <| gT rfl rfl <| A3 rfl rfl <| gT rfl rfl <| H6 rfl rfl (C8 (by omega)) <| gT rfl rfl ?_
     apply D6 rfl
     ·apply B1
      ·exact B0 rfl
      apply B1
      ·exact B0 rfl
      apply B1
      ·exact B0 rfl
      exact D5
     ·exact F5 _ _ _
     ·exact ⟨rfl, rfl, rfl, of_decide_eq_true rfl, rfl⟩
     ·exact .inl rfl
     ·exact C6
     ·exact C7 rfl
     ·exact fun _ => rfl
     intro g77
     refine gT rfl rfl <| G8 rfl <| B8 rfl rfl rfl <| C0 rfl (by assumption) rfl rfl <| B6 rfl rfl rfl rfl ?_
     refine A4 ⟨nofun, _, kS [0,3,80] [] rfl, ?_⟩
     refine A8 rfl (fun hc => ?_) (fun hc => ?_)
     ·try simp only [SG, List.length_map] at hc
      refine A5 <| A0 <| A6 rfl rfl rfl ?_
      refine A4 ⟨nofun, _, kS [2] [] rfl, ?_⟩
      refine C4 <| C1 rfl rfl trivial ?_
      exact congrArg bV (D8 (i := i) (by omega) (F6 hnd (by omega) (by omega))).symm
     try simp only [SG, List.length_map] at hc
     refine B9 <| A0 <| A3 rfl rfl <| D9 rfl rfl (C8 (by omega)) <| A6 rfl rfl rfl ?_
     refine A4 ⟨nofun, _, kS [0,3] [] rfl, ?_⟩
     refine ⟨i + 1, ⟨by omega, fun j hj => by rcases Nat.lt_succ_iff_lt_or_eq.1 hj with h | h; (· exact hi2 j h); (· subst h; exact F3 hnd (by omega) (by assumption) (by exact .inl (by assumption)) (by omega) (by omega))⟩, (by omega), ⟨rfl, rfl, trivial⟩⟩
    have hg := hg0; try simp only [SG] at hg
    refine gF rfl rfl <| gF rfl rfl <| gF rfl rfl <| gF rfl rfl <| gF rfl rfl <| B8 rfl rfl rfl <| B6 rfl (by assumption) rfl rfl <| B6 rfl rfl rfl rfl ?_
    refine A4 ⟨nofun, _, kS [0,3,80] [] rfl, ?_⟩
    refine A8 rfl (fun hc => absurd hc (by decide)) (fun hc => ?_)
    refine B9 <| A0 <| A3 rfl rfl <| D9 rfl rfl (C8 (by omega)) <| A6 rfl rfl rfl ?_
    refine A4 ⟨nofun, _, kS [0,3] [] rfl, ?_⟩
    refine ⟨i + 1, ⟨by omega, fun j hj => by rcases Nat.lt_succ_iff_lt_or_eq.1 hj with h | h; (· exact hi2 j h); (· subst h; exact F3 hnd (by omega) (by assumption) (by exact .inl (by assumption)) (by omega) (by omega))⟩, (by omega), ⟨rfl, rfl, trivial⟩⟩
   have hg := hg0; try simp only [SG] at hg
   refine gF rfl rfl <| gF rfl rfl <| gF rfl rfl <| A7 rfl rfl <| A7 rfl rfl <| A7 rfl rfl <| A7 rfl rfl <| gF rfl rfl <| C0 rfl (by assumption) rfl rfl ?_
   refine A4 ⟨nofun, _, kS [0,3,4,5,40] [4] rfl, ?_⟩
   refine A8 rfl (fun hc => ?_) (fun hc => absurd hc (by decide))
   refine A5 <| A0 <| A6 rfl rfl rfl ?_
   refine A4 ⟨nofun, _, kS [2] [] rfl, ?_⟩
   refine C4 <| C1 rfl rfl trivial ?_
   exact congrArg bV (D8 (i := i) (by omega) (c4 (by exact .inr (.inr (by assumption))))).symm
  have hg := hg0; try simp only [SG] at hg
  refine gF rfl rfl <| gF rfl rfl <| gF rfl rfl <| C0 rfl (by assumption) rfl rfl <| A3 rfl rfl <| B2 rfl rfl rfl <| B2 rfl rfl rfl <| B2 rfl rfl rfl <| B2 rfl rfl rfl <| A7 rfl rfl <| A7 rfl rfl <| A7 rfl rfl <| A7 rfl rfl <| B2 rfl rfl rfl <| C0 rfl rfl rfl rfl ?_
  refine A4 ⟨nofun, _, kS [0,3,4,5,40] [4] rfl, ?_⟩
  refine A8 rfl (fun hc => ?_) (fun hc => absurd hc (by decide))
  refine A5 <| A0 <| A6 rfl rfl rfl ?_
  refine A4 ⟨nofun, _, kS [2] [] rfl, ?_⟩
  refine C4 <| C1 rfl rfl trivial ?_
  exact congrArg bV (D8 (i := i) (by omega) (c4 (by exact .inl (by omega)))).symm
 try simp only [SG, List.length_map] at hc
 refine G6 <| A5 <| A0 <| A3 rfl rfl <| E3 rfl rfl ?_
 apply D6 rfl
 ·apply B1
  ·exact B0 rfl
  apply B1
  ·exact B0 rfl
  apply B1
  ·exact B0 rfl
  exact D5
 ·exact F5 _ _ _
 ·exact ⟨rfl, rfl, rfl, of_decide_eq_true rfl, rfl⟩
 ·exact .inl rfl
 ·exact C6
 ·exact C7 rfl
 ·exact fun _ => rfl
 intro g83
 refine A6 rfl rfl rfl ?_
 refine A4 ⟨nofun, _, kS [2] [] rfl, ?_⟩
 refine C4 <| C1 rfl rfl trivial ?_
 rw [a8j fun j hj => hi2 j (by omega)]
 exact congrArg bV (by (simp [Bool.decide_and]; done))

theorem keep_s_RunSharedI : G4 Try.f10 = [0, 1, 4, 5, 21, 24, 23, 25, 22, 8, 38, 37, 39, 36, 11, 6, 9, 52, 13, 70, 12, 32] := by kernel_rfl
set_option maxHeartbeats 20000000 in
theorem a1n (ss : List Stp) (hz : ss.length ≤ 1048576 ∧ szT ss ≤ 1048576) (cols : List (List Int)) (hc4 : cols.length ≤ 1048576) (hcb : ∀ c ∈ cols, c.length ≤ 1048576) : CW cxT 10 [.list (ss.map stA), M cols] = some (.tup [.own 1 (((rsF cols ss).getD []).map iV), bV (rsF cols ss).isSome], []) := by
 refine G5 rfl Try.func10 rfl ⟨by kernel_rfl, rfl, of_decide_eq_true rfl, of_decide_eq_true rfl, by decide⟩ keep_s_RunSharedI <| A5 <| A0 ?_
 (refine E7 rfl rfl (fun _ => rfl) ?_; intro g4)
 refine A6 rfl rfl rfl ?_
 refine A4 ⟨nofun, _, kS [0,1] [] rfl, ?_⟩
 refine A5 <| A5 <| A0 <| A3 rfl rfl ?_
 apply D6 rfl
 ·apply B1
  ·exact B0 rfl
  exact D5
 ·exact b0g ss hz
 ·exact ⟨rfl, rfl, rfl, of_decide_eq_true rfl, rfl⟩
 ·exact .inl rfl
 ·exact C6
 ·exact C7 rfl
 ·exact fun _ => rfl
 intro g15
 refine G8 rfl <| A3 rfl rfl ?_
 refine B3 rfl rfl (fun hg0 => ?_) (fun hg0 => ?_)
 ·have hg := hg0; try simp only [SG] at hg
  refine A3 rfl rfl <| gT rfl rfl ?_
  apply D6 rfl
  ·apply B1
   ·exact B0 rfl
   exact D5
  ·exact a5s cols hc4 hcb
  ·exact ⟨rfl, rfl, rfl, of_decide_eq_true rfl, rfl⟩
  ·exact .inl rfl
  ·exact C6
  ·exact C7 rfl
  ·exact fun _ => rfl
  intro g19
  refine gT rfl rfl <| G8 rfl <| B6 rfl (by assumption) rfl rfl ?_
  refine A4 ⟨nofun, _, kS [0,1,21] [] rfl, ?_⟩
  refine A8 rfl (fun hc => ?_) (fun hc => ?_)
  ·try simp only [SG, List.length_map] at hc
   refine A5 <| A0 ?_
   (refine E7 rfl rfl (fun _ => rfl) ?_; intro g4)
   refine A6 rfl rfl rfl ?_
   refine A4 ⟨nofun, _, kS [4,5] [4] rfl, ?_⟩
   refine C4 <| M6 (S1 rfl rfl (by simp) (by rfl) (P9 rfl rfl (O7 H0))) ?_
   rw [b0u (by simp_all)]
   rfl
  try simp only [SG, List.length_map] at hc
  have hok : r9 ss = true := by simp_all
  have hvc : vcs cols = true := by simp_all
  have hok2 := b1q hok
  refine B9 <| A5 <| A0 ?_
  (refine E7 rfl rfl (fun _ => rfl) ?_; intro g6)
  refine A4 ⟨nofun, _, kS [0,1,6] [6] rfl, ?_⟩
  refine A5 <| A5 <| A0 <| A3 rfl rfl <| E3 rfl rfl <| A3 rfl rfl ?_
  refine A4 ⟨nofun, _, kS [1,6,22,23,24] [6] rfl, ?_⟩
  refine D3 <| G1 (β := Nat × List (Bool × List Int) × Nat) [(.t 1, _), (.t 22, _), (.t 23, _)] (fun (z : Nat × List (Bool × List Int) × Nat) => match z with | (i, rows, g) => [(.t 24, iV i), (.h 6, .obj g 0 1 (rows.map rF)), (.t 6, .sl 6 g none 0 rows.length)]) (fun (z : Nat × List (Bool × List Int) × Nat) => match z with | (i, rows, g) => i ≤ ss.length ∧ W4 cols ss i = some (rows.map (·.2)) ∧ (∀ j, j + 1 = i → (rows.getD j default).1 = false)) (fun (z : Nat × List (Bool × List Int) × Nat) => match z with | (i, rows, g) => ss.length - i) (0, [], _) ⟨rfl, rfl, rfl, rfl, rfl, rfl, trivial⟩ ⟨Nat.zero_le _, rfl, fun j h => by omega⟩ ?_
  intro z hb
  obtain ⟨i, rows, g⟩ := z
  try dsimp only at hb
  obtain ⟨hi1, hmade, hlast⟩ := hb
  have hrl : rows.length = i := by simpa using a2b hmade
  have hvl := a1o hvc hok hi1 hmade
  refine A5 <| A0 <| G7 rfl rfl ?_
  refine A4 ⟨nofun, _, kS [1,6,22,23,24,25] [6] rfl, ?_⟩
  refine A5 ?_
  refine A8 rfl (fun hc => ?_) (fun hc => ?_)
  ·try simp only [SG, List.length_map] at hc
   have hi : i < ss.length := by omega
   have hso := a9x hok hi
   obtain ⟨n, hnd, hn2⟩ : ∃ n : Nat, nd (ss.getD i default).op = n ∧ n ≤ 2 := ⟨(nd (ss.getD i default).op).toNat, by have := (Y1 hso).1; have := a9k (ss.getD i default).op; omega, by have := a9k (ss.getD i default).op; omega⟩
   have hidx := c3g hso hnd
   have hvd := (Y1 hso).2.1
   have hvdl := b5x hvd
   refine B9 <| A5 <| D3 <| A5 <| A0 <| C9 rfl rfl rfl (fun _ => rfl) (by omega) <| D7 rfl rfl rfl <| z6 rfl (fun _ => J7 rfl) (fun _ => rfl) ?_
   intro g8
   refine X7 rfl rfl rfl rfl ⟨by decide, rfl, of_decide_eq_true rfl, of_decide_eq_true rfl, rfl⟩ rfl (by exact J7 rfl) ?_
   refine A4 ⟨nofun, _, kS [1,6,8,22,23,24] [6,8] rfl, ?_⟩
   refine A5 <| A0 ?_
   (refine E7 rfl rfl (fun _ => rfl) ?_; intro g9)
   refine A4 ⟨nofun, _, kS [1,6,8,9,22,23,24] [6,8,9] rfl, ?_⟩
   refine A5 <| A5 <| A0 <| B5 rfl rfl (by decide) rfl rfl <| B7 rfl rfl rfl rfl rfl rfl <| B5 rfl rfl (by decide) rfl rfl <| B7 rfl rfl rfl rfl rfl rfl <| F0 (es := List.map iV [(ss.getD i default).a, (ss.getD i default).b]) rfl rfl (by decide) rfl rfl (fun _ => C3 (B4 fun _ => rfl)) (fun _ => rfl) ?_
   intro g32
   refine B5 rfl rfl (by decide) rfl rfl <| B7 rfl rfl rfl rfl rfl rfl ?_
   apply D6 rfl
   ·apply B1
    ·exact B0 rfl
    exact D5
   ·exact b6p (ss.getD i default).op
   ·exact ⟨rfl, rfl, rfl, of_decide_eq_true rfl, rfl⟩
   ·exact .inl rfl
   ·exact C6
   ·exact C7 rfl
   ·exact fun _ => rfl
   intro g35
   rw [hnd]
   refine a0m rfl rfl rfl (T5 rfl) (by omega) rfl <| K1 rfl rfl <| A3 rfl rfl ?_
   refine A4 ⟨fun _ => ⟨by (simp only [a7s, List.nil_append, List.append_nil, List.map_cons, List.map_nil, List.cons_append]; decide +kernel), by decide +kernel⟩, [(.t 1, _), (.t 6, _), (.t 8, _), (.t 9, _), (.t 22, _), (.t 23, _), (.t 24, _), (.t 36, _), (.t 37, _), (.t 38, _), (.h 6, _), (.h 8, _), (.h 9, _), (.h 1000032, _)], ⟨rfl, rfl, rfl, rfl, rfl, rfl, rfl, rfl, rfl, rfl, rfl, rfl, rfl, rfl, rfl, rfl, rfl, rfl, rfl, rfl, rfl, rfl, rfl, rfl, rfl, rfl, rfl, rfl, trivial⟩, ?_⟩
   refine D3 <| G1 (β := Nat × List (List Int) × List (Bool × List Int) × Nat) [(.t 1, _), (.t 6, _), (.t 8, _), (.t 22, _), (.t 23, _), (.t 24, _), (.t 36, _), (.t 37, _), (.h 8, _), (.h 1000032, _)] (fun (z : Nat × List (List Int) × List (Bool × List Int) × Nat) => match z with | (k, ls, rows2, g2) => [(.t 38, iV k), (.t 9, .sl 9 g2 none 0 ls.length), (.h 9, .obj g2 0 1 (ls.map fun l => .list (l.map iV))), (.h 6, .obj g 0 1 (rows2.map rF))]) (fun (z : Nat × List (List Int) × List (Bool × List Int) × Nat) => match z with | (k, ls, rows2, g2) => k ≤ n ∧ ls.length = k ∧ rows2.map (·.2) = rows.map (·.2) ∧ ∀ j, j < k → ls.getD j default = (rows.map (·.2)).getD ([(ss.getD i default).a, (ss.getD i default).b].getD j default).toNat default) (fun (z : Nat × List (List Int) × List (Bool × List Int) × Nat) => match z with | (k, ls, rows2, g2) => n - k) (0, [], rows, _) ⟨rfl, rfl, rfl, rfl, rfl, rfl, rfl, rfl, rfl, rfl, rfl, rfl, rfl, rfl, trivial⟩ ⟨Nat.zero_le _, rfl, rfl, fun j h => by omega⟩ ?_
   intro z hb
   obtain ⟨k, ls, rows2, g2⟩ := z
   try dsimp only at hb
   obtain ⟨hk1, hk2, hk3, hk4⟩ := hb
   have hrl2 : rows2.length = rows.length := by simpa using congrArg List.length hk3
   refine A5 <| A0 <| G7 rfl rfl ?_
   refine A4 ⟨nofun, _, kS [1,6,8,9,22,23,24,36,37,38,39] [6,8,9,1000032] rfl, ?_⟩
   refine A5 ?_
   refine A8 rfl (fun hc => ?_) (fun hc => ?_)
   ·try simp only [SG, List.length_map] at hc
    refine B9 <| A5 <| D3 <| A5 <| A0 <| E6 rfl rfl rfl rfl (by omega) (by (simp; omega)) rfl <| I3 (f := iV) (xs := [(ss.getD i default).a, (ss.getD i default).b]) rfl rfl (by (simp; omega)) (fun _ => rfl) (fun _ => rfl) rfl ?_
    obtain ⟨x, hx, hxl⟩ := hidx k (by omega)
    rw [hx]
    refine A6 rfl rfl rfl ?_
    refine A4 ⟨nofun, _, kS [1,6,8,9,11,22,23,24,36,37,38] [6,8,9,1000032] rfl, ?_⟩
    refine A0 <| A3 rfl rfl <| A3 rfl rfl <| A3 rfl rfl <| E6 rfl rfl rfl rfl (by omega) (by (simp; omega)) rfl ?_
    rcases c1q (rows := rows2) (i := x) with ⟨l, hl⟩ | ⟨l, hl⟩
    ·skip
     refine U9 rfl rfl (a8s (b := true) (by omega) hl) rfl rfl ?_
     (refine F0 (es := [l].map fun l => .list (l.map iV)) rfl rfl (by decide) rfl rfl (fun _ => C3 (B4 fun _ => rfl)) (fun _ => rfl) ?_; intro g47)
     refine F9 rfl rfl rfl rfl (by (simp; done)) (by simp) (by decide) rfl rfl rfl rfl (by decide) (fun _ => ⟨rfl, rfl⟩) (by simp only [H8]; (simp only [List.length_nil, List.length_cons, List.length_append, Nat.zero_add, List.length_map]; omega)) (fun _ => rfl) ?_
     intro g48
     (refine C5 rfl rfl (by (simp; done)) rfl (fun _ => (C3 (by exact B4 fun _ => rfl))) (fun _ => rfl) ?_; intro g9)
     refine A4 ⟨nofun, _, kS [1,6,8,9,22,23,24,36,37,38] [6,8,9,1000032] rfl, ?_⟩
     refine A0 <| D9 rfl rfl (C8 (by omega)) <| A3 rfl rfl ?_
     refine A4 ⟨nofun, _, kS [1,6,8,9,22,23,24,36,37,38] [6,8,9,1000032] rfl, ?_⟩
     refine ⟨(k + 1, _, rows2, _), ?_, (by simp only; omega), ⟨rfl, rfl, rfl, rfl, rfl, rfl, rfl, rfl, rfl, rfl, rfl, rfl, rfl, rfl, trivial⟩⟩
     have hml : (rows.map (·.2)).getD x default = l := by rw [← hk3, a6p, hl]
     have hls := b6u hk2 hk4 hx hml
     exact ⟨by omega, hls.1, hk3, hls.2⟩
    skip
    refine U9 rfl rfl (a8s (b := false) (by omega) hl) rfl rfl ?_
    (refine b1f rfl rfl (by omega) hl (by simp) rfl rfl (fun _ => rfl) ?_; intro g47)
    refine F9 rfl rfl rfl rfl (by (simp; done)) (by simp) (by decide) rfl rfl rfl rfl (by decide) (fun _ => ⟨rfl, rfl⟩) (by simp only [H8]; (simp only [List.length_nil, List.length_cons, List.length_append, Nat.zero_add, List.length_map]; omega)) (fun _ => rfl) ?_
    intro g48
    (refine C5 rfl rfl (by (simp; done)) rfl (fun _ => (C3 (by exact B4 fun _ => rfl))) (fun _ => rfl) ?_; intro g9)
    refine A4 ⟨nofun, _, kS [1,6,8,9,22,23,24,36,37,38] [6,8,9,1000032] rfl, ?_⟩
    refine A0 <| D9 rfl rfl (C8 (by omega)) <| A3 rfl rfl ?_
    refine A4 ⟨nofun, _, kS [1,6,8,9,22,23,24,36,37,38] [6,8,9,1000032] rfl, ?_⟩
    refine ⟨(k + 1, _, rows2.set x (true, l), _), ?_, (by simp only; omega), ⟨rfl, rfl, rfl, rfl, rfl, rfl, rfl, rfl, rfl, rfl, rfl, rfl, rfl, rfl, trivial⟩⟩
    have hml : (rows.map (·.2)).getD x default = l := by rw [← hk3, a6p, hl]
    have hls := b6u hk2 hk4 hx hml
    exact ⟨by omega, hls.1, by rw [c4d (by rw [hl]), hk3], hls.2⟩
   try simp only [SG, List.length_map] at hc
   refine G6 <| A5 <| A5 <| A0 <| A3 rfl rfl <| K1 rfl rfl <| I7 rfl rfl ?_
   refine A4 ⟨nofun, _, kS [1,6,8,9,22,23,24,52] [6,8,9] rfl, ?_⟩
   refine A8 rfl (fun hc => ?_) (fun hc => ?_)
   ·try simp only [SG, List.length_map] at hc
    refine A5 <| A0 <| A3 rfl rfl <| B5 rfl rfl (by decide) rfl rfl <| B7 rfl rfl rfl rfl rfl rfl <| B5 rfl rfl (by decide) rfl rfl <| B7 rfl rfl rfl rfl rfl rfl <| A3 rfl rfl ?_
    have hn0 : nd (ss.getD i default).op = 0 := by omega
    have hcol0 : ∃ row, stepR cols (rows.map (·.2)) (ss.getD i default) = some row ∧ CW cxT 32 [sV (ss.getD i default).op, L (ss.getD i default).ns, M cols] = some (.own 1 (row.map iV), []) := by
     rcases b9s hn0 with e | ⟨k, hk, e⟩
     ·exact ⟨_, Y7 e, by rw [e]; exact b8g (ss.getD i default).ns (by omega) cols⟩
     exact ⟨_, c9 hk e hn0, by rw [e]; exact c1r k hk (ss.getD i default).ns cols hc4 hcb⟩
    obtain ⟨row, hst, hcol⟩ := hcol0
    apply D6 rfl
    ·apply B1
     ·exact B0 rfl
     apply B1
     ·exact B0 rfl
     apply B1
     ·exact B0 rfl
     exact D5
    ·exact hcol
    ·exact ⟨rfl, rfl, rfl, of_decide_eq_true rfl, rfl⟩
    ·exact .inl rfl
    ·exact C6
    ·exact I0
    ·exact fun _ => rfl
    intro g59
    simp only [List.length_map]
    refine I9 rfl rfl (by simp) rfl rfl rfl (fun _ => rfl) ?_
    intro g60
    refine F9 (f := rF) (ys := [(false, row)]) rfl rfl rfl rfl (by (simp; omega)) (by simp) (by decide) rfl rfl rfl rfl (by decide) b7s (by simp only [H8]; simp; omega) (fun _ => rfl) ?_
    intro gA
    (refine C5 rfl rfl (by (simp; done)) rfl (fun _ => (C3 (by exact B4 a6x))) (fun _ => rfl) ?_; intro g6)
    refine A4 ⟨nofun, _, kS [1,6,22,23,24] [6] rfl, ?_⟩
    refine G6 <| A0 <| D9 rfl rfl (C8 (by omega)) <| A3 rfl rfl ?_
    refine A4 ⟨nofun, _, kS [1,6,22,23,24] [6] rfl, ?_⟩
    refine ⟨(i + 1, _, _), ?_, (by simp only; omega), ⟨rfl, rfl, rfl, rfl, rfl, rfl, trivial⟩⟩
    refine ⟨by omega, ?_, fun j hj => a3h hj (by omega)⟩
    have hms := J6 hmade hst
    rw [← hk3] at hms
    rw [List.map_append]
    exact hms
   try simp only [SG, List.length_map] at hc
   refine B9 <| A5 <| A0 <| B5 rfl rfl (by decide) rfl rfl <| B7 rfl rfl rfl rfl rfl rfl <| A3 rfl rfl ?_
   have hmk := c2e (ss.getD i default).op (by omega) ((rows.map (·.2)).getD (ss.getD i default).a.toNat default) (if nd (ss.getD i default).op = 2 then (rows.map (·.2)).getD (ss.getD i default).b.toNat default else []) (l9 hvl _) (c4z hvl _) ls (by omega) (fun h => by omega) (hk4 0 (by omega)) (fun h => (hk4 1 (by omega)).trans (if_pos (by omega)).symm)
   apply D6 rfl
   ·apply B1
    ·exact B0 rfl
    apply B1
    ·exact H9 rfl rfl rfl (by (simp; done)) (fun _ => rfl)
    exact D5
   ·exact hmk
   ·exact ⟨rfl, rfl, rfl, of_decide_eq_true rfl, rfl⟩
   ·exact .inr ⟨M8 _ _, rfl⟩
   ·exact C6
   ·exact S9 (r6 fun _ => o7 rfl u7)
   ·exact fun _ => rfl
   intro g66
   simp only [List.length_map]
   refine A3 rfl rfl <| J9 rfl rfl rfl <| J9 rfl rfl rfl ?_
   (refine C5 rfl rfl (by (simp; done)) rfl (fun _ => (C3 (by exact B4 fun _ => rfl))) (fun _ => rfl) ?_; intro g12)
   refine A6 rfl rfl rfl ?_
   refine A4 ⟨nofun, _, kS [1,6,12,13,22,23,24] [6,12] rfl, ?_⟩
   refine A5 <| A5 <| A0 <| A3 rfl rfl <| G8 rfl ?_
   refine A4 ⟨nofun, _, kS [1,6,12,22,23,24,70] [6,12] rfl, ?_⟩
   refine A8 rfl (fun hc => ?_) (fun hc => ?_)
   ·try simp only [SG, List.length_map] at hc
    skip
    refine A5 <| A0 ?_
    (refine E7 rfl rfl (fun _ => rfl) ?_; intro g4)
    refine A6 rfl rfl rfl ?_
    refine A4 ⟨nofun, _, kS [4,5] [4] rfl, ?_⟩
    refine C4 <| M6 (S1 rfl rfl (by simp) (by rfl) (P9 rfl rfl (O7 H0))) ?_
    have hst : stepR cols (rows.map (·.2)) (ss.getD i default) = none := (a7c hnd (by omega)).trans (by simpa using hc)
    rw [rsF, if_pos ⟨hok, hvc⟩, a0p hmade hst hi]
    rfl
   try simp only [SG, List.length_map] at hc
   obtain ⟨row, hst⟩ : ∃ row, stepR cols (rows.map (·.2)) (ss.getD i default) = some row := Option.isSome_iff_exists.1 (by rw [a7c hnd (by omega)]; simpa using hc)
   have hrow : mkR (ss.getD i default).op ((rows.map (·.2)).getD (ss.getD i default).a.toNat default) (if nd (ss.getD i default).op = 2 then (rows.map (·.2)).getD (ss.getD i default).b.toNat default else []) = some row := (a7c hnd (by omega)).symm.trans hst
   rw [hrow]
   try simp only [Option.getD_some]
   refine B9 <| A0 <| A3 rfl rfl <| A3 rfl rfl <| I9 rfl rfl (by simp) rfl rfl rfl (fun _ => rfl) ?_
   intro g73
   refine F9 (f := rF) (ys := [(false, row)]) rfl rfl rfl rfl (by (simp; omega)) (by simp) (by decide) rfl rfl rfl rfl (by decide) b7s (by simp only [H8]; simp; omega) (fun _ => rfl) ?_
   intro gA
   (refine C5 rfl rfl (by (simp; done)) rfl (fun _ => (C3 (by exact B4 a6x))) (fun _ => rfl) ?_; intro g6)
   refine A4 ⟨nofun, _, kS [1,6,22,23,24] [6] rfl, ?_⟩
   refine A0 <| D9 rfl rfl (C8 (by omega)) <| A3 rfl rfl ?_
   refine A4 ⟨nofun, _, kS [1,6,22,23,24] [6] rfl, ?_⟩
   refine ⟨(i + 1, _, _), ?_, (by simp only; omega), ⟨rfl, rfl, rfl, rfl, rfl, rfl, trivial⟩⟩
   refine ⟨by omega, ?_, fun j hj => a3h hj (by omega)⟩
   have hms := J6 hmade hst
   rw [← hk3] at hms
   rw [List.map_append]
   exact hms
  try simp only [SG, List.length_map] at hc
  refine G6 <| A5 <| A0 <| A3 rfl rfl <| A3 rfl rfl <| K1 rfl rfl <| H6 rfl rfl (C8 (by omega)) ?_
  rw [show ((rows.length : Int) - 1) = ((rows.length - 1 : Nat) : Int) by omega]
  refine E6 rfl rfl rfl rfl (by omega) (by (simp; done)) rfl <| U9 rfl rfl (a8s (b := false) (by omega) (a7f (i := rows.length) (by rw [hrl]; exact hlast) (by omega))) rfl rfl <| A6 rfl rfl rfl <| A6 rfl rfl rfl ?_
  refine A4 ⟨nofun, _, kS [4,5] [6] rfl, ?_⟩
  refine C4 <| M6 (b7y rfl rfl (b7q (by omega) (a7f (i := rows.length) (by rw [hrl]; exact hlast) (by omega))) (a8s (by omega) (a7f (i := rows.length) (by rw [hrl]; exact hlast) (by omega))) rfl (B4 fun _ => rfl) (P9 rfl rfl (O7 H0))) ?_
  have hil : i = ss.length := by omega
  rw [rsF, if_pos ⟨hok, hvc⟩, ← hil, hmade, Option.map_some, a6p, ← hrl]
  rfl
 have hg := hg0; try simp only [SG] at hg
 refine gF rfl rfl <| gF rfl rfl <| C0 rfl (by assumption) rfl rfl ?_
 refine A4 ⟨nofun, _, kS [0,1,21] [] rfl, ?_⟩
 refine A8 rfl (fun hc => ?_) (fun hc => absurd hc (by decide))
 refine A5 <| A0 ?_
 (refine E7 rfl rfl (fun _ => rfl) ?_; intro g4)
 refine A6 rfl rfl rfl ?_
 refine A4 ⟨nofun, _, kS [4,5] [4] rfl, ?_⟩
 refine C4 <| M6 (S1 rfl rfl (by simp) (by rfl) (P9 rfl rfl (O7 H0))) ?_
 rw [b0u (by simp_all)]
 rfl

theorem keep_s_RunSharedS : G4 Try.f7 = [0, 1, 4, 5, 20, 7, 25, 8, 36, 6, 44, 57, 64, 10, 9, 12, 74, 11] := by kernel_rfl
set_option maxHeartbeats 20000000 in
theorem a9s (ss : List Stp) (hz : ss.length ≤ 1048576 ∧ szT ss ≤ 1048576) (cols : List (List Int)) (hc4 : cols.length ≤ 1048576) (hcb : ∀ c ∈ cols, c.length ≤ 1048576) : CW cxT 7 [.list (ss.map stA), M cols] = some (.tup [.own 1 (((rsF cols ss).getD []).map iV), bV (rsF cols ss).isSome], []) := by
 refine G5 rfl Try.func7 rfl ⟨by kernel_rfl, rfl, of_decide_eq_true rfl, of_decide_eq_true rfl, by decide⟩ keep_s_RunSharedS <| A5 <| A0 ?_
 (refine E7 rfl rfl (fun _ => rfl) ?_; intro g4)
 refine A6 rfl rfl rfl ?_
 refine A4 ⟨nofun, _, kS [0,1] [] rfl, ?_⟩
 refine A5 <| A5 <| A0 <| A3 rfl rfl ?_
 apply D6 rfl
 ·apply B1
  ·exact B0 rfl
  exact D5
 ·exact b0n ss hz
 ·exact ⟨rfl, rfl, rfl, of_decide_eq_true rfl, rfl⟩
 ·exact .inl rfl
 ·exact C6
 ·exact C7 rfl
 ·exact fun _ => rfl
 intro g14
 refine G8 rfl <| A3 rfl rfl ?_
 refine B3 rfl rfl (fun hg0 => ?_) (fun hg0 => ?_)
 ·have hg := hg0; try simp only [SG] at hg
  refine A3 rfl rfl <| gT rfl rfl ?_
  apply D6 rfl
  ·apply B1
   ·exact B0 rfl
   exact D5
  ·exact a4m cols hc4 hcb
  ·exact ⟨rfl, rfl, rfl, of_decide_eq_true rfl, rfl⟩
  ·exact .inl rfl
  ·exact C6
  ·exact C7 rfl
  ·exact fun _ => rfl
  intro g18
  refine gT rfl rfl <| G8 rfl <| B6 rfl (by assumption) rfl rfl ?_
  refine A4 ⟨nofun, _, kS [0,1,20] [] rfl, ?_⟩
  refine A8 rfl (fun hc => ?_) (fun hc => ?_)
  ·try simp only [SG, List.length_map] at hc
   refine A5 <| A0 ?_
   (refine E7 rfl rfl (fun _ => rfl) ?_; intro g4)
   refine A6 rfl rfl rfl ?_
   refine A4 ⟨nofun, _, kS [4,5] [4] rfl, ?_⟩
   refine C4 <| M6 (S1 rfl rfl (by simp) (by rfl) (P9 rfl rfl (O7 H0))) ?_
   rw [b0u (by simp_all)]
   rfl
  try simp only [SG, List.length_map] at hc
  have hok : r9 ss = true := by simp_all
  have hvc : vcs cols = true := by simp_all
  have hok2 := b1q hok
  refine B9 <| A5 <| A0 <| F0 (es := List.map oI []) rfl rfl (by decide) rfl rfl (fun _ => C3 (B4 fun _ => rfl)) (fun _ => rfl) ?_
  intro g21
  (refine C5 rfl rfl (by (simp; done)) rfl (fun _ => (C3 (by exact B4 fun _ => rfl))) (fun _ => rfl) ?_; intro g6)
  refine A4 ⟨nofun, _, kS [0,1,6] [6] rfl, ?_⟩
  refine A5 <| A5 <| A0 <| A6 rfl rfl rfl ?_
  refine A4 ⟨nofun, _, kS [0,1,6,7] [6] rfl, ?_⟩
  refine D3 <| G1 (β := Nat × List (List Int) × Nat) [(.t 0, _), (.t 1, _)] (fun (z : Nat × List (List Int) × Nat) => match z with | (i, rows, g) => [(.t 7, iV i), (.h 6, .obj g 0 1 (rows.map oI)), (.t 6, .sl 6 g none 0 rows.length)]) (fun (z : Nat × List (List Int) × Nat) => match z with | (i, rows, g) => i ≤ ss.length ∧ W4 cols ss i = some rows) (fun (z : Nat × List (List Int) × Nat) => match z with | (i, rows, g) => ss.length - i) (0, [], _) ⟨rfl, rfl, rfl, rfl, rfl, trivial⟩ ⟨Nat.zero_le _, rfl⟩ ?_
  intro z hb
  obtain ⟨i, rows, g⟩ := z
  try dsimp only at hb
  obtain ⟨hi1, hmade⟩ := hb
  have hrl : rows.length = i := a2b hmade
  have hvl := a1o hvc hok hi1 hmade
  refine A5 <| A5 <| A0 <| A3 rfl rfl <| A3 rfl rfl <| E3 rfl rfl <| G7 rfl rfl ?_
  refine A4 ⟨nofun, _, kS [0,1,6,7,25] [6] rfl, ?_⟩
  refine A8 rfl (fun hc => ?_) (fun hc => ?_)
  ·try simp only [SG, List.length_map] at hc
   have hi : i < ss.length := by omega
   have hso := a9x hok hi
   have hnb := a9k (ss.getD i default).op
   have hn0 := (Y1 hso).1
   obtain ⟨ha0, ha1, hb0, hb1⟩ := c5p hso
   have hvd := (Y1 hso).2.1
   have hvdl := b5x hvd
   refine B9 <| A5 <| D3 <| A5 <| A0 <| A3 rfl rfl <| A3 rfl rfl <| C9 rfl rfl rfl (fun _ => rfl) (by omega) <| D7 rfl rfl rfl <| z6 rfl (fun _ => J7 rfl) (fun _ => rfl) ?_
   intro g8
   refine X7 rfl rfl rfl rfl ⟨by decide, rfl, of_decide_eq_true rfl, of_decide_eq_true rfl, rfl⟩ rfl (by exact J7 rfl) ?_
   refine A4 ⟨nofun, _, kS [0,1,6,7,8] [6,8] rfl, ?_⟩
   refine A5 <| A0 <| F0 (es := List.map iV []) rfl rfl (by decide) rfl rfl (fun _ => C3 (B4 fun _ => rfl)) (fun _ => rfl) ?_
   intro g32
   (refine C5 rfl rfl (by (simp; done)) rfl (fun _ => (C3 (by exact B4 fun _ => rfl))) (fun _ => rfl) ?_; intro g9)
   refine A4 ⟨nofun, _, kS [0,1,6,7,8,9] [6,8,9] rfl, ?_⟩
   refine A5 <| A0 <| F0 (es := List.map iV []) rfl rfl (by decide) rfl rfl (fun _ => C3 (B4 fun _ => rfl)) (fun _ => rfl) ?_
   intro g33
   (refine C5 rfl rfl (by (simp; done)) rfl (fun _ => (C3 (by exact B4 fun _ => rfl))) (fun _ => rfl) ?_; intro g10)
   refine A4 ⟨nofun, _, kS [0,1,6,7,8,9,10] [6,8,9,10] rfl, ?_⟩
   refine A5 <| A5 <| A0 <| B5 rfl rfl (by decide) rfl rfl <| B7 rfl rfl rfl rfl rfl rfl <| r8 rfl rfl ?_
   refine A4 ⟨nofun, _, kS [0,1,6,7,8,9,10,36] [6,8,9,10] rfl, ?_⟩
   refine A8 rfl (fun hc => ?_) (fun hc => ?_)
   ·try simp only [SG, List.length_map] at hc
    have hA := hc
    refine A0 <| A3 rfl rfl <| B5 rfl rfl (by decide) rfl rfl <| B7 rfl rfl rfl rfl rfl rfl <| u0 rfl rfl rfl rfl (by omega) (by (simp; done)) rfl <| Y8 rfl rfl (by omega) rfl rfl <| A6 rfl rfl rfl ?_
    refine A4 ⟨nofun, _, kS [0,1,6,7,8,9,10] [6,8,9,10] rfl, ?_⟩
    refine A5 <| A5 <| A0 <| B5 rfl rfl (by decide) rfl rfl <| B7 rfl rfl rfl rfl rfl rfl <| r8 rfl rfl ?_
    refine A4 ⟨nofun, _, kS [0,1,6,7,8,9,10,44] [6,8,9,10] rfl, ?_⟩
    refine A8 rfl (fun hc => ?_) (fun hc => ?_)
    ·try simp only [SG, List.length_map] at hc
     have hB := hc
     refine A0 <| A3 rfl rfl <| B5 rfl rfl (by decide) rfl rfl <| B7 rfl rfl rfl rfl rfl rfl <| u0 rfl rfl rfl rfl (by omega) (by (simp; done)) rfl <| Y8 rfl rfl (by omega) rfl rfl <| A6 rfl rfl rfl ?_
     refine A4 ⟨nofun, _, kS [0,1,6,7,8,9,10] [6,8,9,10] rfl, ?_⟩
     refine A5 <| A0 <| F0 (es := List.map iV []) rfl rfl (by decide) rfl rfl (fun _ => C3 (B4 fun _ => rfl)) (fun _ => rfl) ?_
     intro g50
     refine B5 rfl rfl (by decide) rfl rfl <| B7 rfl rfl rfl rfl rfl rfl <| K8 rfl rfl rfl (by (simp; done)) rfl rfl rfl (by decide) (fun _ => ⟨rfl, rfl, rfl⟩) (by simp only [H8]; (simp only [List.length_nil, List.length_cons, List.length_append, Nat.zero_add, List.length_map]; omega)) (fun _ => rfl) ?_
     intro g53
     (refine C5 rfl rfl (by (simp; done)) rfl (fun _ => (C3 (by exact B4 fun _ => rfl))) (fun _ => rfl) ?_; intro g11)
     refine A4 ⟨nofun, _, kS [0,1,6,7,8,9,10,11] [6,8,9,10,11] rfl, ?_⟩
     refine A5 <| A0 <| A6 rfl rfl rfl ?_
     refine A4 ⟨nofun, _, kS [0,1,6,7,8,9,10,11,12] [6,8,9,10,11] rfl, ?_⟩
     refine A5 <| A5 <| A0 <| B5 rfl rfl (by decide) rfl rfl <| B7 rfl rfl rfl rfl rfl rfl ?_
     apply D6 rfl
     ·apply B1
      ·exact B0 rfl
      exact D5
     ·exact e7 (ss.getD i default).op
     ·exact ⟨rfl, rfl, rfl, of_decide_eq_true rfl, rfl⟩
     ·exact .inl rfl
     ·exact C6
     ·exact C7 rfl
     ·exact fun _ => rfl
     intro g56
     refine I7 rfl rfl ?_
     refine A4 ⟨nofun, _, kS [0,1,6,7,8,9,10,11,12,57] [6,8,9,10,11] rfl, ?_⟩
     refine A8 rfl (fun hc => ?_) (fun hc => ?_)
     ·try simp only [SG, List.length_map] at hc
      obtain ⟨⟨k, hk, ek⟩, en⟩ := a4v hc
      refine A0 <| B5 rfl rfl (by decide) rfl rfl <| B7 rfl rfl rfl rfl rfl rfl <| A3 rfl rfl ?_
      have hco := l7 k hk cols hc4 hcb
      rw [← ek] at hco
      apply D6 rfl
      ·apply B1
       ·exact B0 rfl
       apply B1
       ·exact B0 rfl
       exact D5
      ·exact hco
      ·exact ⟨rfl, rfl, rfl, of_decide_eq_true rfl, rfl⟩
      ·exact .inl rfl
      ·exact C6
      ·exact I0
      ·exact fun _ => rfl
      intro g61
      simp only [List.length_map]
      (refine C5 rfl rfl (by (simp; done)) rfl (fun _ => (C3 (by exact B4 fun _ => rfl))) (fun _ => rfl) ?_; intro g11)
      refine A4 ⟨nofun, _, kS [0,1,6,7,11,12] [6,11] rfl, ?_⟩
      refine A5 <| A5 <| A0 <| A3 rfl rfl <| G8 rfl ?_
      refine A4 ⟨nofun, _, kS [0,1,6,7,11,74] [6,11] rfl, ?_⟩
      refine A8 rfl (fun hc => absurd hc (by decide)) (fun hc => ?_)
      refine B9 <| A0 <| A3 rfl rfl <| A3 rfl rfl <| I9 rfl rfl (by simp) rfl rfl rfl (fun _ => rfl) ?_
      intro g77
      refine F9 rfl rfl rfl rfl (by (simp; done)) (by simp) (by decide) rfl rfl rfl rfl (by decide) (fun _ => ⟨rfl, rfl⟩) (by simp only [H8]; omega) (fun _ => rfl) ?_
      intro g78
      (refine C5 rfl rfl (by (simp; done)) rfl (fun _ => (C3 (by exact B4 fun _ => rfl))) (fun _ => rfl) ?_; intro g6)
      refine A4 ⟨nofun, _, kS [0,1,6,7] [6] rfl, ?_⟩
      refine A0 <| A3 rfl rfl <| D9 rfl rfl (C8 (by omega)) <| A6 rfl rfl rfl ?_
      refine A4 ⟨nofun, _, kS [0,1,6,7] [6] rfl, ?_⟩
      refine ⟨(i + 1, _, _), ?_, (by simp only; omega), ⟨rfl, rfl, rfl, rfl, rfl, trivial⟩⟩
      refine ⟨by omega, J6 hmade ?_⟩
      exact c9 hk ek en
     try simp only [SG, List.length_map] at hc
     have hr0 := hc
     refine A5 <| A0 <| B5 rfl rfl (by decide) rfl rfl <| B7 rfl rfl rfl rfl rfl rfl <| a3m rfl rfl ?_
     refine A4 ⟨nofun, _, kS [0,1,6,7,8,9,10,11,12,64] [6,8,9,10,11] rfl, ?_⟩
     refine A8 rfl (fun hc => ?_) (fun hc => ?_)
     ·try simp only [SG, List.length_map] at hc
      have h1 : 1 ≤ nd (ss.getD i default).op := by rw [a2m _ hc] at hn0 ⊢; omega
      refine A0 <| B5 rfl rfl (by decide) rfl rfl <| B7 rfl rfl rfl rfl rfl rfl <| A3 rfl rfl <| A3 rfl rfl ?_
      apply D6 rfl
      ·apply B1
       ·exact B0 rfl
       apply B1
       ·exact x3 rfl rfl (O1 (by omega) rfl) (by simp)
       apply B1
       ·exact x3 rfl rfl (O1 (by omega) rfl) (by simp)
       exact D5
      ·exact a4y (ss.getD i default).op h1 (rows.getD (ss.getD i default).a.toNat default) (rows.getD (ss.getD i default).b.toNat default) (l9 hvl _) (l9 hvl _)
      ·exact ⟨rfl, rfl, rfl, of_decide_eq_true rfl, rfl⟩
      ·exact .inr ⟨M8 _ _, rfl⟩
      ·exact C6
      ·exact S9 (r6 fun _ => o7 rfl u7)
      ·exact fun _ => rfl
      intro g70
      simp only [List.length_map]
      refine A3 rfl rfl <| J9 rfl rfl rfl <| J9 rfl rfl rfl ?_
      (refine C5 rfl rfl (by (simp; done)) rfl (fun _ => (C3 (by exact B4 fun _ => rfl))) (fun _ => rfl) ?_; intro g11)
      refine A6 rfl rfl rfl ?_
      refine A4 ⟨nofun, _, kS [0,1,6,7,11,12] [6,11] rfl, ?_⟩
      refine A5 <| A5 <| A0 <| A3 rfl rfl <| G8 rfl ?_
      refine A4 ⟨nofun, _, kS [0,1,6,7,11,74] [6,11] rfl, ?_⟩
      refine A8 rfl (fun hc => ?_) (fun hc => ?_)
      ·try simp only [SG, List.length_map] at hc
       refine A5 <| A0 ?_
       (refine E7 rfl rfl (fun _ => rfl) ?_; intro g4)
       refine A6 rfl rfl rfl ?_
       refine A4 ⟨nofun, _, kS [4,5] [4] rfl, ?_⟩
       refine C4 <| M6 (S1 rfl rfl (by simp) (by rfl) (P9 rfl rfl (O7 H0))) ?_
       exact b6x hok hvc hi hmade ((d5 h1 (by rfl) (by exact if_pos (by omega))).trans (by simpa using hc))
      try simp only [SG, List.length_map] at hc
      obtain ⟨row, hrow⟩ := Option.isSome_iff_exists.1 hc
      have hraw := a4w hrow
      refine B9 <| A0 <| A3 rfl rfl <| A3 rfl rfl <| I9 rfl rfl (by simp) rfl rfl rfl (fun _ => rfl) ?_
      intro g77
      refine F9 rfl rfl rfl rfl (by (simp; done)) (by simp) (by decide) rfl rfl rfl rfl (by decide) (fun _ => ⟨rfl, rfl⟩) (by simp only [H8]; (simp only [List.length_nil, List.length_cons, List.length_append, Nat.zero_add, List.length_map]; omega)) (fun _ => rfl) ?_
      intro g78
      (refine C5 rfl rfl (by (simp; done)) rfl (fun _ => (C3 (by exact B4 fun _ => rfl))) (fun _ => rfl) ?_; intro g6)
      refine A4 ⟨nofun, _, kS [0,1,6,7] [6] rfl, ?_⟩
      refine A0 <| A3 rfl rfl <| D9 rfl rfl (C8 (by omega)) <| A6 rfl rfl rfl ?_
      refine A4 ⟨nofun, _, kS [0,1,6,7] [6] rfl, ?_⟩
      refine ⟨(i + 1, _, _), ?_, (by simp only; omega), ⟨rfl, rfl, rfl, rfl, rfl, trivial⟩⟩
      refine ⟨by omega, J6 hmade ?_⟩
      exact (d5 h1 (by rfl) (by exact if_pos (by omega))).trans (hraw ▸ hrow)
     try simp only [SG, List.length_map] at hc
     have ek : (ss.getD i default).op = wList := a0t hc
     refine B9 <| A5 <| A5 <| A0 <| A3 rfl rfl <| G8 rfl ?_
     refine A4 ⟨nofun, _, kS [0,1,6,7,11,74] [6,11] rfl, ?_⟩
     refine A8 rfl (fun hc => absurd hc (by decide)) (fun hc => ?_)
     refine B9 <| A0 <| A3 rfl rfl <| A3 rfl rfl <| I9 rfl rfl (by simp) rfl rfl rfl (fun _ => rfl) ?_
     intro g77
     refine F9 rfl rfl rfl rfl (by (simp; done)) (by simp) (by decide) rfl rfl rfl rfl (by decide) (fun _ => ⟨rfl, rfl⟩) (by simp only [H8]; (simp only [List.length_nil, List.length_cons, List.length_append, Nat.zero_add, List.length_map]; omega)) (fun _ => rfl) ?_
     intro g78
     (refine C5 rfl rfl (by (simp; done)) rfl (fun _ => (C3 (by exact B4 fun _ => rfl))) (fun _ => rfl) ?_; intro g6)
     refine A4 ⟨nofun, _, kS [0,1,6,7] [6] rfl, ?_⟩
     refine A0 <| A3 rfl rfl <| D9 rfl rfl (C8 (by omega)) <| A6 rfl rfl rfl ?_
     refine A4 ⟨nofun, _, kS [0,1,6,7] [6] rfl, ?_⟩
     refine ⟨(i + 1, _, _), ?_, (by simp only; omega), ⟨rfl, rfl, rfl, rfl, rfl, trivial⟩⟩
     refine ⟨by omega, J6 hmade ?_⟩
     exact Y7 ek
    try simp only [SG, List.length_map] at hc
    have hB := hc
    refine B9 <| A5 <| A0 <| F0 (es := List.map iV []) rfl rfl (by decide) rfl rfl (fun _ => C3 (B4 fun _ => rfl)) (fun _ => rfl) ?_
    intro g50
    refine B5 rfl rfl (by decide) rfl rfl <| B7 rfl rfl rfl rfl rfl rfl <| K8 rfl rfl rfl (by (simp; done)) rfl rfl rfl (by decide) (fun _ => ⟨rfl, rfl, rfl⟩) (by simp only [H8]; (simp only [List.length_nil, List.length_cons, List.length_append, Nat.zero_add, List.length_map]; omega)) (fun _ => rfl) ?_
    intro g53
    (refine C5 rfl rfl (by (simp; done)) rfl (fun _ => (C3 (by exact B4 fun _ => rfl))) (fun _ => rfl) ?_; intro g11)
    refine A4 ⟨nofun, _, kS [0,1,6,7,8,9,10,11] [6,8,9,10,11] rfl, ?_⟩
    refine A5 <| A0 <| A6 rfl rfl rfl ?_
    refine A4 ⟨nofun, _, kS [0,1,6,7,8,9,10,11,12] [6,8,9,10,11] rfl, ?_⟩
    refine A5 <| A5 <| A0 <| B5 rfl rfl (by decide) rfl rfl <| B7 rfl rfl rfl rfl rfl rfl ?_
    apply D6 rfl
    ·apply B1
     ·exact B0 rfl
     exact D5
    ·exact e7 (ss.getD i default).op
    ·exact ⟨rfl, rfl, rfl, of_decide_eq_true rfl, rfl⟩
    ·exact .inl rfl
    ·exact C6
    ·exact C7 rfl
    ·exact fun _ => rfl
    intro g56
    refine I7 rfl rfl ?_
    refine A4 ⟨nofun, _, kS [0,1,6,7,8,9,10,11,12,57] [6,8,9,10,11] rfl, ?_⟩
    refine A8 rfl (fun hc => ?_) (fun hc => ?_)
    ·try simp only [SG, List.length_map] at hc
     obtain ⟨⟨k, hk, ek⟩, en⟩ := a4v hc
     refine A0 <| B5 rfl rfl (by decide) rfl rfl <| B7 rfl rfl rfl rfl rfl rfl <| A3 rfl rfl ?_
     have hco := l7 k hk cols hc4 hcb
     rw [← ek] at hco
     apply D6 rfl
     ·apply B1
      ·exact B0 rfl
      apply B1
      ·exact B0 rfl
      exact D5
     ·exact hco
     ·exact ⟨rfl, rfl, rfl, of_decide_eq_true rfl, rfl⟩
     ·exact .inl rfl
     ·exact C6
     ·exact I0
     ·exact fun _ => rfl
     intro g61
     simp only [List.length_map]
     (refine C5 rfl rfl (by (simp; done)) rfl (fun _ => (C3 (by exact B4 fun _ => rfl))) (fun _ => rfl) ?_; intro g11)
     refine A4 ⟨nofun, _, kS [0,1,6,7,11,12] [6,11] rfl, ?_⟩
     refine A5 <| A5 <| A0 <| A3 rfl rfl <| G8 rfl ?_
     refine A4 ⟨nofun, _, kS [0,1,6,7,11,74] [6,11] rfl, ?_⟩
     refine A8 rfl (fun hc => absurd hc (by decide)) (fun hc => ?_)
     refine B9 <| A0 <| A3 rfl rfl <| A3 rfl rfl <| I9 rfl rfl (by simp) rfl rfl rfl (fun _ => rfl) ?_
     intro g77
     refine F9 rfl rfl rfl rfl (by (simp; done)) (by simp) (by decide) rfl rfl rfl rfl (by decide) (fun _ => ⟨rfl, rfl⟩) (by simp only [H8]; omega) (fun _ => rfl) ?_
     intro g78
     (refine C5 rfl rfl (by (simp; done)) rfl (fun _ => (C3 (by exact B4 fun _ => rfl))) (fun _ => rfl) ?_; intro g6)
     refine A4 ⟨nofun, _, kS [0,1,6,7] [6] rfl, ?_⟩
     refine A0 <| A3 rfl rfl <| D9 rfl rfl (C8 (by omega)) <| A6 rfl rfl rfl ?_
     refine A4 ⟨nofun, _, kS [0,1,6,7] [6] rfl, ?_⟩
     refine ⟨(i + 1, _, _), ?_, (by simp only; omega), ⟨rfl, rfl, rfl, rfl, rfl, trivial⟩⟩
     refine ⟨by omega, J6 hmade ?_⟩
     exact c9 hk ek en
    try simp only [SG, List.length_map] at hc
    have hr0 := hc
    refine A5 <| A0 <| B5 rfl rfl (by decide) rfl rfl <| B7 rfl rfl rfl rfl rfl rfl <| a3m rfl rfl ?_
    refine A4 ⟨nofun, _, kS [0,1,6,7,8,9,10,11,12,64] [6,8,9,10,11] rfl, ?_⟩
    refine A8 rfl (fun hc => ?_) (fun hc => ?_)
    ·try simp only [SG, List.length_map] at hc
     have h1 : 1 ≤ nd (ss.getD i default).op := by rw [a2m _ hc] at hn0 ⊢; omega
     refine A0 <| B5 rfl rfl (by decide) rfl rfl <| B7 rfl rfl rfl rfl rfl rfl <| A3 rfl rfl <| A3 rfl rfl ?_
     apply D6 rfl
     ·apply B1
      ·exact B0 rfl
      apply B1
      ·exact x3 rfl rfl (O1 (by omega) rfl) (by simp)
      apply B1
      ·exact H9 rfl rfl rfl (by (simp; done)) (fun _ => rfl)
      exact D5
     ·exact a4y (ss.getD i default).op h1 (rows.getD (ss.getD i default).a.toNat default) [] (l9 hvl _) a2k
     ·exact ⟨rfl, rfl, rfl, of_decide_eq_true rfl, rfl⟩
     ·exact .inr ⟨M8 _ _, rfl⟩
     ·exact C6
     ·exact S9 (r6 fun _ => o7 rfl u7)
     ·exact fun _ => rfl
     intro g70
     simp only [List.length_map]
     refine A3 rfl rfl <| J9 rfl rfl rfl <| J9 rfl rfl rfl ?_
     (refine C5 rfl rfl (by (simp; done)) rfl (fun _ => (C3 (by exact B4 fun _ => rfl))) (fun _ => rfl) ?_; intro g11)
     refine A6 rfl rfl rfl ?_
     refine A4 ⟨nofun, _, kS [0,1,6,7,11,12] [6,11] rfl, ?_⟩
     refine A5 <| A5 <| A0 <| A3 rfl rfl <| G8 rfl ?_
     refine A4 ⟨nofun, _, kS [0,1,6,7,11,74] [6,11] rfl, ?_⟩
     refine A8 rfl (fun hc => ?_) (fun hc => ?_)
     ·try simp only [SG, List.length_map] at hc
      refine A5 <| A0 ?_
      (refine E7 rfl rfl (fun _ => rfl) ?_; intro g4)
      refine A6 rfl rfl rfl ?_
      refine A4 ⟨nofun, _, kS [4,5] [4] rfl, ?_⟩
      refine C4 <| M6 (S1 rfl rfl (by simp) (by rfl) (P9 rfl rfl (O7 H0))) ?_
      exact b6x hok hvc hi hmade ((d5 h1 (by rfl) (by exact if_neg (by omega))).trans (by simpa using hc))
     try simp only [SG, List.length_map] at hc
     obtain ⟨row, hrow⟩ := Option.isSome_iff_exists.1 hc
     have hraw := a4w hrow
     refine B9 <| A0 <| A3 rfl rfl <| A3 rfl rfl <| I9 rfl rfl (by simp) rfl rfl rfl (fun _ => rfl) ?_
     intro g77
     refine F9 rfl rfl rfl rfl (by (simp; done)) (by simp) (by decide) rfl rfl rfl rfl (by decide) (fun _ => ⟨rfl, rfl⟩) (by simp only [H8]; (simp only [List.length_nil, List.length_cons, List.length_append, Nat.zero_add, List.length_map]; omega)) (fun _ => rfl) ?_
     intro g78
     (refine C5 rfl rfl (by (simp; done)) rfl (fun _ => (C3 (by exact B4 fun _ => rfl))) (fun _ => rfl) ?_; intro g6)
     refine A4 ⟨nofun, _, kS [0,1,6,7] [6] rfl, ?_⟩
     refine A0 <| A3 rfl rfl <| D9 rfl rfl (C8 (by omega)) <| A6 rfl rfl rfl ?_
     refine A4 ⟨nofun, _, kS [0,1,6,7] [6] rfl, ?_⟩
     refine ⟨(i + 1, _, _), ?_, (by simp only; omega), ⟨rfl, rfl, rfl, rfl, rfl, trivial⟩⟩
     refine ⟨by omega, J6 hmade ?_⟩
     exact (d5 h1 (by rfl) (by exact if_neg (by omega))).trans (hraw ▸ hrow)
    try simp only [SG, List.length_map] at hc
    have ek : (ss.getD i default).op = wList := a0t hc
    refine B9 <| A5 <| A5 <| A0 <| A3 rfl rfl <| G8 rfl ?_
    refine A4 ⟨nofun, _, kS [0,1,6,7,11,74] [6,11] rfl, ?_⟩
    refine A8 rfl (fun hc => absurd hc (by decide)) (fun hc => ?_)
    refine B9 <| A0 <| A3 rfl rfl <| A3 rfl rfl <| I9 rfl rfl (by simp) rfl rfl rfl (fun _ => rfl) ?_
    intro g77
    refine F9 rfl rfl rfl rfl (by (simp; done)) (by simp) (by decide) rfl rfl rfl rfl (by decide) (fun _ => ⟨rfl, rfl⟩) (by simp only [H8]; (simp only [List.length_nil, List.length_cons, List.length_append, Nat.zero_add, List.length_map]; omega)) (fun _ => rfl) ?_
    intro g78
    (refine C5 rfl rfl (by (simp; done)) rfl (fun _ => (C3 (by exact B4 fun _ => rfl))) (fun _ => rfl) ?_; intro g6)
    refine A4 ⟨nofun, _, kS [0,1,6,7] [6] rfl, ?_⟩
    refine A0 <| A3 rfl rfl <| D9 rfl rfl (C8 (by omega)) <| A6 rfl rfl rfl ?_
    refine A4 ⟨nofun, _, kS [0,1,6,7] [6] rfl, ?_⟩
    refine ⟨(i + 1, _, _), ?_, (by simp only; omega), ⟨rfl, rfl, rfl, rfl, rfl, trivial⟩⟩
    refine ⟨by omega, J6 hmade ?_⟩
    exact Y7 ek
   try simp only [SG, List.length_map] at hc
   have hA := hc
   refine B9 <| A5 <| A5 <| A0 <| B5 rfl rfl (by decide) rfl rfl <| B7 rfl rfl rfl rfl rfl rfl <| r8 rfl rfl ?_
   refine A4 ⟨nofun, _, kS [0,1,6,7,8,9,10,44] [6,8,9,10] rfl, ?_⟩
   refine A8 rfl (fun hc => ?_) (fun hc => ?_)
   ·try simp only [SG, List.length_map] at hc
    have hB := hc
    refine A0 <| A3 rfl rfl <| B5 rfl rfl (by decide) rfl rfl <| B7 rfl rfl rfl rfl rfl rfl <| u0 rfl rfl rfl rfl (by omega) (by (simp; done)) rfl <| Y8 rfl rfl (by omega) rfl rfl <| A6 rfl rfl rfl ?_
    refine A4 ⟨nofun, _, kS [0,1,6,7,8,9,10] [6,8,9,10] rfl, ?_⟩
    refine A5 <| A0 <| F0 (es := List.map iV []) rfl rfl (by decide) rfl rfl (fun _ => C3 (B4 fun _ => rfl)) (fun _ => rfl) ?_
    intro g50
    refine B5 rfl rfl (by decide) rfl rfl <| B7 rfl rfl rfl rfl rfl rfl <| K8 rfl rfl rfl (by (simp; done)) rfl rfl rfl (by decide) (fun _ => ⟨rfl, rfl, rfl⟩) (by simp only [H8]; omega) (fun _ => rfl) ?_
    intro g53
    (refine C5 rfl rfl (by (simp; done)) rfl (fun _ => (C3 (by exact B4 fun _ => rfl))) (fun _ => rfl) ?_; intro g11)
    refine A4 ⟨nofun, _, kS [0,1,6,7,8,9,10,11] [6,8,9,10,11] rfl, ?_⟩
    refine A5 <| A0 <| A6 rfl rfl rfl ?_
    refine A4 ⟨nofun, _, kS [0,1,6,7,8,9,10,11,12] [6,8,9,10,11] rfl, ?_⟩
    refine A5 <| A5 <| A0 <| B5 rfl rfl (by decide) rfl rfl <| B7 rfl rfl rfl rfl rfl rfl ?_
    apply D6 rfl
    ·apply B1
     ·exact B0 rfl
     exact D5
    ·exact e7 (ss.getD i default).op
    ·exact ⟨rfl, rfl, rfl, of_decide_eq_true rfl, rfl⟩
    ·exact .inl rfl
    ·exact C6
    ·exact C7 rfl
    ·exact fun _ => rfl
    intro g56
    refine I7 rfl rfl ?_
    refine A4 ⟨nofun, _, kS [0,1,6,7,8,9,10,11,12,57] [6,8,9,10,11] rfl, ?_⟩
    refine A8 rfl (fun hc => ?_) (fun hc => ?_)
    ·try simp only [SG, List.length_map] at hc
     obtain ⟨⟨k, hk, ek⟩, en⟩ := a4v hc
     refine A0 <| B5 rfl rfl (by decide) rfl rfl <| B7 rfl rfl rfl rfl rfl rfl <| A3 rfl rfl ?_
     have hco := l7 k hk cols hc4 hcb
     rw [← ek] at hco
     apply D6 rfl
     ·apply B1
      ·exact B0 rfl
      apply B1
      ·exact B0 rfl
      exact D5
     ·exact hco
     ·exact ⟨rfl, rfl, rfl, of_decide_eq_true rfl, rfl⟩
     ·exact .inl rfl
     ·exact C6
     ·exact I0
     ·exact fun _ => rfl
     intro g61
     simp only [List.length_map]
     (refine C5 rfl rfl (by (simp; done)) rfl (fun _ => (C3 (by exact B4 fun _ => rfl))) (fun _ => rfl) ?_; intro g11)
     refine A4 ⟨nofun, _, kS [0,1,6,7,11,12] [6,11] rfl, ?_⟩
     refine A5 <| A5 <| A0 <| A3 rfl rfl <| G8 rfl ?_
     refine A4 ⟨nofun, _, kS [0,1,6,7,11,74] [6,11] rfl, ?_⟩
     refine A8 rfl (fun hc => absurd hc (by decide)) (fun hc => ?_)
     refine B9 <| A0 <| A3 rfl rfl <| A3 rfl rfl <| I9 rfl rfl (by simp) rfl rfl rfl (fun _ => rfl) ?_
     intro g77
     refine F9 rfl rfl rfl rfl (by (simp; done)) (by simp) (by decide) rfl rfl rfl rfl (by decide) (fun _ => ⟨rfl, rfl⟩) (by simp only [H8]; omega) (fun _ => rfl) ?_
     intro g78
     (refine C5 rfl rfl (by (simp; done)) rfl (fun _ => (C3 (by exact B4 fun _ => rfl))) (fun _ => rfl) ?_; intro g6)
     refine A4 ⟨nofun, _, kS [0,1,6,7] [6] rfl, ?_⟩
     refine A0 <| A3 rfl rfl <| D9 rfl rfl (C8 (by omega)) <| A6 rfl rfl rfl ?_
     refine A4 ⟨nofun, _, kS [0,1,6,7] [6] rfl, ?_⟩
     refine ⟨(i + 1, _, _), ?_, (by simp only; omega), ⟨rfl, rfl, rfl, rfl, rfl, trivial⟩⟩
     refine ⟨by omega, J6 hmade ?_⟩
     exact c9 hk ek en
    try simp only [SG, List.length_map] at hc
    have hr0 := hc
    refine A5 <| A0 <| B5 rfl rfl (by decide) rfl rfl <| B7 rfl rfl rfl rfl rfl rfl <| a3m rfl rfl ?_
    refine A4 ⟨nofun, _, kS [0,1,6,7,8,9,10,11,12,64] [6,8,9,10,11] rfl, ?_⟩
    refine A8 rfl (fun hc => ?_) (fun hc => ?_)
    ·try simp only [SG, List.length_map] at hc
     have h1 : 1 ≤ nd (ss.getD i default).op := by rw [a2m _ hc] at hn0 ⊢; omega
     refine A0 <| B5 rfl rfl (by decide) rfl rfl <| B7 rfl rfl rfl rfl rfl rfl <| A3 rfl rfl <| A3 rfl rfl ?_
     apply D6 rfl
     ·apply B1
      ·exact B0 rfl
      apply B1
      ·exact H9 rfl rfl rfl (by (simp; done)) (fun _ => rfl)
      apply B1
      ·exact x3 rfl rfl (O1 (by omega) rfl) (by simp)
      exact D5
     ·exact a4y (ss.getD i default).op h1 [] (rows.getD (ss.getD i default).b.toNat default) a2k (l9 hvl _)
     ·exact ⟨rfl, rfl, rfl, of_decide_eq_true rfl, rfl⟩
     ·exact .inr ⟨M8 _ _, rfl⟩
     ·exact C6
     ·exact S9 (r6 fun _ => o7 rfl u7)
     ·exact fun _ => rfl
     intro g70
     simp only [List.length_map]
     refine A3 rfl rfl <| J9 rfl rfl rfl <| J9 rfl rfl rfl ?_
     (refine C5 rfl rfl (by (simp; done)) rfl (fun _ => (C3 (by exact B4 fun _ => rfl))) (fun _ => rfl) ?_; intro g11)
     refine A6 rfl rfl rfl ?_
     refine A4 ⟨nofun, _, kS [0,1,6,7,11,12] [6,11] rfl, ?_⟩
     refine A5 <| A5 <| A0 <| A3 rfl rfl <| G8 rfl ?_
     refine A4 ⟨nofun, _, kS [0,1,6,7,11,74] [6,11] rfl, ?_⟩
     refine A8 rfl (fun hc => ?_) (fun hc => ?_)
     ·try simp only [SG, List.length_map] at hc
      refine A5 <| A0 ?_
      (refine E7 rfl rfl (fun _ => rfl) ?_; intro g4)
      refine A6 rfl rfl rfl ?_
      refine A4 ⟨nofun, _, kS [4,5] [4] rfl, ?_⟩
      refine C4 <| M6 (S1 rfl rfl (by simp) (by rfl) (P9 rfl rfl (O7 H0))) ?_
      (exfalso; omega)
     try simp only [SG, List.length_map] at hc
     obtain ⟨row, hrow⟩ := Option.isSome_iff_exists.1 hc
     have hraw := a4w hrow
     refine B9 <| A0 <| A3 rfl rfl <| A3 rfl rfl <| I9 rfl rfl (by simp) rfl rfl rfl (fun _ => rfl) ?_
     intro g77
     refine F9 rfl rfl rfl rfl (by (simp; done)) (by simp) (by decide) rfl rfl rfl rfl (by decide) (fun _ => ⟨rfl, rfl⟩) (by simp only [H8]; omega) (fun _ => rfl) ?_
     intro g78
     (refine C5 rfl rfl (by (simp; done)) rfl (fun _ => (C3 (by exact B4 fun _ => rfl))) (fun _ => rfl) ?_; intro g6)
     refine A4 ⟨nofun, _, kS [0,1,6,7] [6] rfl, ?_⟩
     refine A0 <| A3 rfl rfl <| D9 rfl rfl (C8 (by omega)) <| A6 rfl rfl rfl ?_
     refine A4 ⟨nofun, _, kS [0,1,6,7] [6] rfl, ?_⟩
     refine ⟨(i + 1, _, _), ?_, (by simp only; omega), ⟨rfl, rfl, rfl, rfl, rfl, trivial⟩⟩
     refine ⟨by omega, J6 hmade ?_⟩
     exact (d5 h1 (by (exfalso; omega)) (by exact if_pos (by omega))).trans (hraw ▸ hrow)
    try simp only [SG, List.length_map] at hc
    have ek : (ss.getD i default).op = wList := a0t hc
    refine B9 <| A5 <| A5 <| A0 <| A3 rfl rfl <| G8 rfl ?_
    refine A4 ⟨nofun, _, kS [0,1,6,7,11,74] [6,11] rfl, ?_⟩
    refine A8 rfl (fun hc => absurd hc (by decide)) (fun hc => ?_)
    refine B9 <| A0 <| A3 rfl rfl <| A3 rfl rfl <| I9 rfl rfl (by simp) rfl rfl rfl (fun _ => rfl) ?_
    intro g77
    refine F9 rfl rfl rfl rfl (by (simp; done)) (by simp) (by decide) rfl rfl rfl rfl (by decide) (fun _ => ⟨rfl, rfl⟩) (by simp only [H8]; omega) (fun _ => rfl) ?_
    intro g78
    (refine C5 rfl rfl (by (simp; done)) rfl (fun _ => (C3 (by exact B4 fun _ => rfl))) (fun _ => rfl) ?_; intro g6)
    refine A4 ⟨nofun, _, kS [0,1,6,7] [6] rfl, ?_⟩
    refine A0 <| A3 rfl rfl <| D9 rfl rfl (C8 (by omega)) <| A6 rfl rfl rfl ?_
    refine A4 ⟨nofun, _, kS [0,1,6,7] [6] rfl, ?_⟩
    refine ⟨(i + 1, _, _), ?_, (by simp only; omega), ⟨rfl, rfl, rfl, rfl, rfl, trivial⟩⟩
    refine ⟨by omega, J6 hmade ?_⟩
    exact Y7 ek
   try simp only [SG, List.length_map] at hc
   have hB := hc
   refine B9 <| A5 <| A0 <| F0 (es := List.map iV []) rfl rfl (by decide) rfl rfl (fun _ => C3 (B4 fun _ => rfl)) (fun _ => rfl) ?_
   intro g50
   refine B5 rfl rfl (by decide) rfl rfl <| B7 rfl rfl rfl rfl rfl rfl <| K8 rfl rfl rfl (by (simp; done)) rfl rfl rfl (by decide) (fun _ => ⟨rfl, rfl, rfl⟩) (by simp only [H8]; (simp only [List.length_nil, List.length_cons, List.length_append, Nat.zero_add, List.length_map]; omega)) (fun _ => rfl) ?_
   intro g53
   (refine C5 rfl rfl (by (simp; done)) rfl (fun _ => (C3 (by exact B4 fun _ => rfl))) (fun _ => rfl) ?_; intro g11)
   refine A4 ⟨nofun, _, kS [0,1,6,7,8,9,10,11] [6,8,9,10,11] rfl, ?_⟩
   refine A5 <| A0 <| A6 rfl rfl rfl ?_
   refine A4 ⟨nofun, _, kS [0,1,6,7,8,9,10,11,12] [6,8,9,10,11] rfl, ?_⟩
   refine A5 <| A5 <| A0 <| B5 rfl rfl (by decide) rfl rfl <| B7 rfl rfl rfl rfl rfl rfl ?_
   apply D6 rfl
   ·apply B1
    ·exact B0 rfl
    exact D5
   ·exact e7 (ss.getD i default).op
   ·exact ⟨rfl, rfl, rfl, of_decide_eq_true rfl, rfl⟩
   ·exact .inl rfl
   ·exact C6
   ·exact C7 rfl
   ·exact fun _ => rfl
   intro g56
   refine I7 rfl rfl ?_
   refine A4 ⟨nofun, _, kS [0,1,6,7,8,9,10,11,12,57] [6,8,9,10,11] rfl, ?_⟩
   refine A8 rfl (fun hc => ?_) (fun hc => ?_)
   ·try simp only [SG, List.length_map] at hc
    obtain ⟨⟨k, hk, ek⟩, en⟩ := a4v hc
    refine A0 <| B5 rfl rfl (by decide) rfl rfl <| B7 rfl rfl rfl rfl rfl rfl <| A3 rfl rfl ?_
    have hco := l7 k hk cols hc4 hcb
    rw [← ek] at hco
    apply D6 rfl
    ·apply B1
     ·exact B0 rfl
     apply B1
     ·exact B0 rfl
     exact D5
    ·exact hco
    ·exact ⟨rfl, rfl, rfl, of_decide_eq_true rfl, rfl⟩
    ·exact .inl rfl
    ·exact C6
    ·exact I0
    ·exact fun _ => rfl
    intro g61
    simp only [List.length_map]
    (refine C5 rfl rfl (by (simp; done)) rfl (fun _ => (C3 (by exact B4 fun _ => rfl))) (fun _ => rfl) ?_; intro g11)
    refine A4 ⟨nofun, _, kS [0,1,6,7,11,12] [6,11] rfl, ?_⟩
    refine A5 <| A5 <| A0 <| A3 rfl rfl <| G8 rfl ?_
    refine A4 ⟨nofun, _, kS [0,1,6,7,11,74] [6,11] rfl, ?_⟩
    refine A8 rfl (fun hc => absurd hc (by decide)) (fun hc => ?_)
    refine B9 <| A0 <| A3 rfl rfl <| A3 rfl rfl <| I9 rfl rfl (by simp) rfl rfl rfl (fun _ => rfl) ?_
    intro g77
    refine F9 rfl rfl rfl rfl (by (simp; done)) (by simp) (by decide) rfl rfl rfl rfl (by decide) (fun _ => ⟨rfl, rfl⟩) (by simp only [H8]; (simp only [List.length_nil, List.length_cons, List.length_append, Nat.zero_add, List.length_map]; omega)) (fun _ => rfl) ?_
    intro g78
    (refine C5 rfl rfl (by (simp; done)) rfl (fun _ => (C3 (by exact B4 fun _ => rfl))) (fun _ => rfl) ?_; intro g6)
    refine A4 ⟨nofun, _, kS [0,1,6,7] [6] rfl, ?_⟩
    refine A0 <| A3 rfl rfl <| D9 rfl rfl (C8 (by omega)) <| A6 rfl rfl rfl ?_
    refine A4 ⟨nofun, _, kS [0,1,6,7] [6] rfl, ?_⟩
    refine ⟨(i + 1, _, _), ?_, (by simp only; omega), ⟨rfl, rfl, rfl, rfl, rfl, trivial⟩⟩
    refine ⟨by omega, J6 hmade ?_⟩
    exact c9 hk ek en
   try simp only [SG, List.length_map] at hc
   have hr0 := hc
   refine A5 <| A0 <| B5 rfl rfl (by decide) rfl rfl <| B7 rfl rfl rfl rfl rfl rfl <| a3m rfl rfl ?_
   refine A4 ⟨nofun, _, kS [0,1,6,7,8,9,10,11,12,64] [6,8,9,10,11] rfl, ?_⟩
   refine A8 rfl (fun hc => ?_) (fun hc => ?_)
   ·try simp only [SG, List.length_map] at hc
    have h1 : 1 ≤ nd (ss.getD i default).op := by rw [a2m _ hc] at hn0 ⊢; omega
    refine A0 <| B5 rfl rfl (by decide) rfl rfl <| B7 rfl rfl rfl rfl rfl rfl <| A3 rfl rfl <| A3 rfl rfl ?_
    apply D6 rfl
    ·apply B1
     ·exact B0 rfl
     apply B1
     ·exact H9 rfl rfl rfl (by (simp; done)) (fun _ => rfl)
     apply B1
     ·exact H9 rfl rfl rfl (by (simp; done)) (fun _ => rfl)
     exact D5
    ·exact a4y (ss.getD i default).op h1 [] [] a2k a2k
    ·exact ⟨rfl, rfl, rfl, of_decide_eq_true rfl, rfl⟩
    ·exact .inr ⟨M8 _ _, rfl⟩
    ·exact C6
    ·exact S9 (r6 fun _ => o7 rfl u7)
    ·exact fun _ => rfl
    intro g70
    simp only [List.length_map]
    refine A3 rfl rfl <| J9 rfl rfl rfl <| J9 rfl rfl rfl ?_
    (refine C5 rfl rfl (by (simp; done)) rfl (fun _ => (C3 (by exact B4 fun _ => rfl))) (fun _ => rfl) ?_; intro g11)
    refine A6 rfl rfl rfl ?_
    refine A4 ⟨nofun, _, kS [0,1,6,7,11,12] [6,11] rfl, ?_⟩
    refine A5 <| A5 <| A0 <| A3 rfl rfl <| G8 rfl ?_
    refine A4 ⟨nofun, _, kS [0,1,6,7,11,74] [6,11] rfl, ?_⟩
    refine A8 rfl (fun hc => ?_) (fun hc => ?_)
    ·try simp only [SG, List.length_map] at hc
     refine A5 <| A0 ?_
     (refine E7 rfl rfl (fun _ => rfl) ?_; intro g4)
     refine A6 rfl rfl rfl ?_
     refine A4 ⟨nofun, _, kS [4,5] [4] rfl, ?_⟩
     refine C4 <| M6 (S1 rfl rfl (by simp) (by rfl) (P9 rfl rfl (O7 H0))) ?_
     (exfalso; omega)
    try simp only [SG, List.length_map] at hc
    obtain ⟨row, hrow⟩ := Option.isSome_iff_exists.1 hc
    have hraw := a4w hrow
    refine B9 <| A0 <| A3 rfl rfl <| A3 rfl rfl <| I9 rfl rfl (by simp) rfl rfl rfl (fun _ => rfl) ?_
    intro g77
    refine F9 rfl rfl rfl rfl (by (simp; done)) (by simp) (by decide) rfl rfl rfl rfl (by decide) (fun _ => ⟨rfl, rfl⟩) (by simp only [H8]; omega) (fun _ => rfl) ?_
    intro g78
    (refine C5 rfl rfl (by (simp; done)) rfl (fun _ => (C3 (by exact B4 fun _ => rfl))) (fun _ => rfl) ?_; intro g6)
    refine A4 ⟨nofun, _, kS [0,1,6,7] [6] rfl, ?_⟩
    refine A0 <| A3 rfl rfl <| D9 rfl rfl (C8 (by omega)) <| A6 rfl rfl rfl ?_
    refine A4 ⟨nofun, _, kS [0,1,6,7] [6] rfl, ?_⟩
    refine ⟨(i + 1, _, _), ?_, (by simp only; omega), ⟨rfl, rfl, rfl, rfl, rfl, trivial⟩⟩
    refine ⟨by omega, J6 hmade ?_⟩
    exact (d5 h1 (by (exfalso; omega)) (by exact if_neg (by omega))).trans (hraw ▸ hrow)
   try simp only [SG, List.length_map] at hc
   have ek : (ss.getD i default).op = wList := a0t hc
   refine B9 <| A5 <| A5 <| A0 <| A3 rfl rfl <| G8 rfl ?_
   refine A4 ⟨nofun, _, kS [0,1,6,7,11,74] [6,11] rfl, ?_⟩
   refine A8 rfl (fun hc => absurd hc (by decide)) (fun hc => ?_)
   refine B9 <| A0 <| A3 rfl rfl <| A3 rfl rfl <| I9 rfl rfl (by simp) rfl rfl rfl (fun _ => rfl) ?_
   intro g77
   refine F9 rfl rfl rfl rfl (by (simp; done)) (by simp) (by decide) rfl rfl rfl rfl (by decide) (fun _ => ⟨rfl, rfl⟩) (by simp only [H8]; (simp only [List.length_nil, List.length_cons, List.length_append, Nat.zero_add, List.length_map]; omega)) (fun _ => rfl) ?_
   intro g78
   (refine C5 rfl rfl (by (simp; done)) rfl (fun _ => (C3 (by exact B4 fun _ => rfl))) (fun _ => rfl) ?_; intro g6)
   refine A4 ⟨nofun, _, kS [0,1,6,7] [6] rfl, ?_⟩
   refine A0 <| A3 rfl rfl <| D9 rfl rfl (C8 (by omega)) <| A6 rfl rfl rfl ?_
   refine A4 ⟨nofun, _, kS [0,1,6,7] [6] rfl, ?_⟩
   refine ⟨(i + 1, _, _), ?_, (by simp only; omega), ⟨rfl, rfl, rfl, rfl, rfl, trivial⟩⟩
   refine ⟨by omega, J6 hmade ?_⟩
   exact Y7 ek
  try simp only [SG, List.length_map] at hc
  refine G6 <| A5 <| A0 <| A3 rfl rfl <| A3 rfl rfl <| K1 rfl rfl <| H6 rfl rfl (C8 (by omega)) ?_
  rw [show ((rows.length : Int) - 1) = ((rows.length - 1 : Nat) : Int) by omega]
  refine E6 rfl rfl rfl rfl (by omega) (by (simp; done)) rfl <| Y8 rfl rfl (by omega) rfl rfl <| A6 rfl rfl rfl <| A6 rfl rfl rfl ?_
  refine A4 ⟨nofun, _, kS [4,5] [6] rfl, ?_⟩
  refine C4 ?_
  refine M6 (b7y rfl rfl (O1 (by omega) rfl) (getElem?_map_getD (by omega)) (by simp) (B4 fun _ => rfl) (P9 rfl rfl (O7 H0))) ?_
  have hil : i = ss.length := by omega
  rw [rsF, if_pos ⟨hok, hvc⟩, ← hil, hmade, Option.map_some, ← hrl]
  rfl
 have hg := hg0; try simp only [SG] at hg
 refine gF rfl rfl <| gF rfl rfl <| C0 rfl (by assumption) rfl rfl ?_
 refine A4 ⟨nofun, _, kS [0,1,20] [] rfl, ?_⟩
 refine A8 rfl (fun hc => ?_) (fun hc => absurd hc (by decide))
 refine A5 <| A0 ?_
 (refine E7 rfl rfl (fun _ => rfl) ?_; intro g4)
 refine A6 rfl rfl rfl ?_
 refine A4 ⟨nofun, _, kS [4,5] [4] rfl, ?_⟩
 refine C4 <| M6 (S1 rfl rfl (by simp) (by rfl) (P9 rfl rfl (O7 H0))) ?_
 rw [b0u (by simp_all)]
 rfl

theorem keep_s_FnExactRunShared : G4 Try.f3 = [0, 1, 4, 5, 21, 26, 9, 8, 7, 11, 6, 10, 53, 58, 63, 12, 82, 13, 14, 90, 93, 16, 15, 110, 115, 118] := by kernel_rfl
set_option maxHeartbeats 20000000 in
theorem a1d (ss : List Stp) (hl : ss.length ≤ 9223372036854775807) (hs : ∀ s ∈ ss, s.op.size ≤ 9223372036854775807 ∧ s.ns.length ≤ 9223372036854775807) (cols : List (List Int)) (hcl : cols.length ≤ 9223372036854775807) (hcs : ∀ c ∈ cols, c.length ≤ 9223372036854775807) : CW cxT 3 [.list (ss.map stA), M cols] = some (bV true, []) := by
 have hrl := c4g (cols := cols) (ss := ss)
 refine G5 rfl Try.func3 rfl ⟨by kernel_rfl, rfl, of_decide_eq_true rfl, of_decide_eq_true rfl, by decide⟩ keep_s_FnExactRunShared <| A5 <| A0 <| A6 rfl rfl rfl ?_
 refine A4 ⟨nofun, _, kS [0,1] [] rfl, ?_⟩
 refine A5 <| A0 <| A6 rfl rfl rfl ?_
 refine A4 ⟨nofun, _, kS [0,1,5] [] rfl, ?_⟩
 refine A5 <| A0 <| A3 rfl rfl <| A3 rfl rfl ?_
 obtain ⟨_, _, ⟨r1, rfl, rfl, hr1, hr1n⟩, hC1⟩ := a8g ss hl hs 1048576 (by omega)
 apply D6 rfl
 ·apply B1
  ·exact B0 rfl
  apply B1
  ·exact B0 rfl
  exact D5
 ·exact hC1
 ·exact ⟨rfl, rfl, rfl, of_decide_eq_true rfl, rfl⟩
 ·exact .inl rfl
 ·exact C6
 ·exact C7 rfl
 ·exact fun _ => rfl
 intro g19
 refine A6 rfl rfl rfl ?_
 refine A4 ⟨nofun, _, kS [0,1,5] [] rfl, ?_⟩
 refine A5 <| A5 <| A0 <| A3 rfl rfl <| G7 rfl rfl ?_
 refine A4 ⟨nofun, _, kS [0,1,5,21] [] rfl, ?_⟩
 refine A8 rfl (fun hc => ?_) (fun hc => ?_)
 ·try simp only [SG, List.length_map] at hc
  refine A5 <| A0 <| A6 rfl rfl rfl ?_
  refine A4 ⟨nofun, _, kS [4] [] rfl, ?_⟩
  refine C4 <| C1 rfl rfl trivial ?_
  rfl
 try simp only [SG, List.length_map] at hc
 refine B9 <| A5 <| A0 <| A3 rfl rfl <| A3 rfl rfl ?_
 have hz : ss.length ≤ 1048576 ∧ szT ss ≤ 1048576 := by omega
 obtain ⟨_, _, ⟨r2, rfl, rfl, hr2, hr2n⟩, hC2⟩ := b8d cols hcl hcs r1 (by omega)
 apply D6 rfl
 ·apply B1
  ·exact B0 rfl
  apply B1
  ·exact B0 rfl
  exact D5
 ·exact hC2
 ·exact ⟨rfl, rfl, rfl, of_decide_eq_true rfl, rfl⟩
 ·exact .inl rfl
 ·exact C6
 ·exact C7 rfl
 ·exact fun _ => rfl
 intro g24
 refine A6 rfl rfl rfl ?_
 refine A4 ⟨nofun, _, kS [0,1,5] [] rfl, ?_⟩
 refine A5 <| A5 <| A0 <| A3 rfl rfl <| G7 rfl rfl ?_
 refine A4 ⟨nofun, _, kS [0,1,26] [] rfl, ?_⟩
 refine A8 rfl (fun hc => ?_) (fun hc => ?_)
 ·try simp only [SG, List.length_map] at hc
  refine A5 <| A0 <| A6 rfl rfl rfl ?_
  refine A4 ⟨nofun, _, kS [4] [] rfl, ?_⟩
  refine C4 <| C1 rfl rfl trivial ?_
  rfl
 try simp only [SG, List.length_map] at hc
 have hzr : cols.length ≤ 1048576 ∧ szR cols ≤ 1048576 := by omega
 refine B9 <| A5 <| A0 <| A3 rfl rfl ?_
 apply D6 rfl
 ·apply B1
  ·exact B0 rfl
  exact D5
 ·exact W0 ss hz
 ·exact ⟨rfl, rfl, rfl, of_decide_eq_true rfl, rfl⟩
 ·exact .inl rfl
 ·exact C6
 ·exact I0
 ·exact fun _ => rfl
 intro g29
 simp only [List.length_map]
 refine A3 rfl rfl ?_
 apply D6 rfl
 ·apply B1
  ·exact B0 rfl
  exact D5
 ·exact x5 cols hzr
 ·exact ⟨rfl, rfl, rfl, of_decide_eq_true rfl, rfl⟩
 ·exact .inl rfl
 ·exact C6
 ·exact I0
 ·exact fun _ => rfl
 intro g31
 simp only [List.length_map]
 apply D6 rfl
 ·apply B1
  ·exact U3 rfl rfl rfl (by (simp; done))
  apply B1
  ·exact T6 rfl rfl rfl (by (simp; done))
  exact D5
 ·exact a9s ss hz cols hzr.1 (b0l hzr.2)
 ·exact ⟨rfl, rfl, rfl, of_decide_eq_true rfl, rfl⟩
 ·exact .inr ⟨M8 _ _, rfl⟩
 ·exact C6
 ·exact S9 (r6 fun _ => o7 rfl u7)
 ·exact fun _ => rfl
 intro g32
 simp only [List.length_map]
 refine A3 rfl rfl <| J9 rfl rfl rfl <| J9 rfl rfl rfl ?_
 (refine C5 rfl rfl (by (simp; done)) rfl (fun _ => (C3 (by exact B4 fun _ => rfl))) (fun _ => rfl) ?_; intro g6)
 refine A6 rfl rfl rfl ?_
 refine A4 ⟨nofun, _, kS [0,1,6,7] [6] rfl, ?_⟩
 refine A5 <| A0 <| A3 rfl rfl ?_
 apply D6 rfl
 ·apply B1
  ·exact B0 rfl
  exact D5
 ·exact W0 ss hz
 ·exact ⟨rfl, rfl, rfl, of_decide_eq_true rfl, rfl⟩
 ·exact .inl rfl
 ·exact C6
 ·exact I0
 ·exact fun _ => rfl
 intro g36
 simp only [List.length_map]
 (refine C5 rfl rfl (by (simp; done)) rfl (fun _ => (C3 (by exact B4 fun _ => rfl))) (fun _ => rfl) ?_; intro g8)
 refine A4 ⟨nofun, _, kS [0,1,6,7,8] [6,8] rfl, ?_⟩
 refine A5 <| A0 <| A3 rfl rfl ?_
 apply D6 rfl
 ·apply B1
  ·exact B0 rfl
  exact D5
 ·exact x5 cols hzr
 ·exact ⟨rfl, rfl, rfl, of_decide_eq_true rfl, rfl⟩
 ·exact .inl rfl
 ·exact C6
 ·exact I0
 ·exact fun _ => rfl
 intro g38
 simp only [List.length_map]
 (refine C5 rfl rfl (by (simp; done)) rfl (fun _ => (C3 (by exact B4 fun _ => rfl))) (fun _ => rfl) ?_; intro g9)
 refine A4 ⟨nofun, _, kS [0,1,6,7,8,9] [6,8,9] rfl, ?_⟩
 refine A5 <| A0 <| A3 rfl rfl <| A3 rfl rfl ?_
 apply D6 rfl
 ·apply B1
  ·exact U3 rfl rfl rfl (by (simp; done))
  apply B1
  ·exact T6 rfl rfl rfl (by (simp; done))
  exact D5
 ·exact a1n ss hz cols hzr.1 (b0l hzr.2)
 ·exact ⟨rfl, rfl, rfl, of_decide_eq_true rfl, rfl⟩
 ·exact .inr ⟨M8 _ _, rfl⟩
 ·exact C6
 ·exact S9 (r6 fun _ => o7 rfl u7)
 ·exact fun _ => rfl
 intro g42
 simp only [List.length_map]
 refine A3 rfl rfl <| J9 rfl rfl rfl <| J9 rfl rfl rfl ?_
 (refine C5 rfl rfl (by (simp; done)) rfl (fun _ => (C3 (by exact B4 fun _ => rfl))) (fun _ => rfl) ?_; intro g10)
 refine A6 rfl rfl rfl ?_
 refine A4 ⟨nofun, _, kS [0,1,6,7,8,9,10,11] [6,8,9,10] rfl, ?_⟩
 refine A5 <| A5 <| A0 <| A3 rfl rfl <| A3 rfl rfl ?_
 apply D6 rfl
 ·apply B1
  ·exact H9 rfl rfl rfl (by (simp; done)) (fun _ => rfl)
  apply B1
  ·exact H9 rfl rfl rfl (by (simp; done)) (fun _ => rfl)
  exact D5
 ·exact r5 ((rsF cols ss).getD []) (by omega)
 ·exact ⟨rfl, rfl, rfl, of_decide_eq_true rfl, rfl⟩
 ·exact .inr ⟨rfl, rfl⟩
 ·exact C6
 ·exact C7 rfl
 ·exact fun _ => rfl
 intro g47
 refine G8 rfl <| A3 rfl rfl <| B8 rfl rfl rfl <| A3 rfl rfl <| B8 rfl rfl rfl <| A3 rfl rfl <| B8 rfl rfl rfl <| c0r rfl rfl rfl <| B6 rfl rfl rfl rfl ?_
 refine A4 ⟨nofun, _, kS [0,1,6,7,8,9,10,11,53] [6,8,9,10] rfl, ?_⟩
 refine A8 rfl (fun hc => ?_) (fun hc => ?_)
 ·try simp only [SG, List.length_map] at hc
  refine A5 <| A0 <| A6 rfl rfl rfl ?_
  refine A4 ⟨nofun, _, kS [4] [] rfl, ?_⟩
  refine C4 <| C1 rfl rfl trivial ?_
  (simp_all; done)
 try simp only [SG, List.length_map] at hc
 refine B9 <| A5 <| A5 <| A0 <| A3 rfl rfl <| A3 rfl rfl ?_
 apply D6 rfl
 ·apply B1
  ·exact B0 rfl
  exact D5
 ·exact W0 ss hz
 ·exact ⟨rfl, rfl, rfl, of_decide_eq_true rfl, rfl⟩
 ·exact .inl rfl
 ·exact C6
 ·exact I0
 ·exact fun _ => rfl
 intro g56
 simp only [List.length_map]
 apply D6 rfl
 ·apply B1
  ·exact U3 rfl rfl rfl (by (simp; done))
  apply B1
  ·exact U3 rfl rfl rfl (by (simp; done))
  exact D5
 ·exact a8i ss hz
 ·exact ⟨rfl, rfl, rfl, of_decide_eq_true rfl, rfl⟩
 ·exact .inr ⟨rfl, rfl⟩
 ·exact C6
 ·exact C7 rfl
 ·exact fun _ => rfl
 intro g57
 refine G8 rfl ?_
 refine A4 ⟨nofun, _, kS [0,1,6,7,8,9,10,11,58] [6,8,9,10] rfl, ?_⟩
 refine A8 rfl (fun hc => absurd hc (by decide)) (fun hc => ?_)
 refine B9 <| A5 <| A5 <| A0 <| A3 rfl rfl <| A3 rfl rfl ?_
 apply D6 rfl
 ·apply B1
  ·exact B0 rfl
  exact D5
 ·exact x5 cols hzr
 ·exact ⟨rfl, rfl, rfl, of_decide_eq_true rfl, rfl⟩
 ·exact .inl rfl
 ·exact C6
 ·exact I0
 ·exact fun _ => rfl
 intro g61
 simp only [List.length_map]
 apply D6 rfl
 ·apply B1
  ·exact T6 rfl rfl rfl (by (simp; done))
  apply B1
  ·exact T6 rfl rfl rfl (by (simp; done))
  exact D5
 ·exact b9p cols hzr
 ·exact ⟨rfl, rfl, rfl, of_decide_eq_true rfl, rfl⟩
 ·exact .inr ⟨rfl, rfl⟩
 ·exact C6
 ·exact C7 rfl
 ·exact fun _ => rfl
 intro g62
 refine G8 rfl ?_
 refine A4 ⟨nofun, _, kS [0,1,6,7,8,9,10,11,63] [6,8,9,10] rfl, ?_⟩
 refine A8 rfl (fun hc => absurd hc (by decide)) (fun hc => ?_)
 refine B9 <| A5 <| A0 <| A6 rfl rfl rfl ?_
 refine A4 ⟨nofun, _, kS [0,1,6,7,8,9,10,11,12] [6,8,9,10] rfl, ?_⟩
 refine A5 <| A0 <| A3 rfl rfl <| A3 rfl rfl ?_
 obtain ⟨_, _, ⟨r3, rfl, rfl, hr3, hr3n⟩, hM1⟩ := a4l ss hz 1 (by omega)
 apply D6 rfl
 ·apply B1
  ·exact a5a rfl rfl (by (simp; done)) (B4 fun _ => rfl)
  apply B1
  ·exact B0 rfl
  exact D5
 ·exact hM1
 ·exact ⟨rfl, rfl, rfl, of_decide_eq_true rfl, rfl⟩
 ·exact .inl rfl
 ·exact C6
 ·exact C7 rfl
 ·exact fun _ => rfl
 intro g66
 refine A6 rfl rfl rfl ?_
 refine A4 ⟨nofun, _, kS [0,1,6,7,9,10,11,12] [6,9,10] rfl, ?_⟩
 refine A5 <| A0 <| A3 rfl rfl <| A3 rfl rfl ?_
 obtain ⟨_, _, ⟨r4, rfl, rfl, hr4, hr4n⟩, hM2⟩ := b3o cols hzr r3 (by omega)
 apply D6 rfl
 ·apply B1
  ·exact a5a rfl rfl (by (simp; done)) (B4 fun _ => rfl)
  apply B1
  ·exact B0 rfl
  exact D5
 ·exact hM2
 ·exact ⟨rfl, rfl, rfl, of_decide_eq_true rfl, rfl⟩
 ·exact .inl rfl
 ·exact C6
 ·exact C7 rfl
 ·exact fun _ => rfl
 intro g69
 refine A6 rfl rfl rfl ?_
 refine A4 ⟨nofun, _, kS [0,1,6,7,10,11,12] [6,10] rfl, ?_⟩
 refine A5 <| A5 <| A0 <| A3 rfl rfl <| G7 rfl rfl <| A3 rfl rfl ?_
 refine B3 rfl rfl (fun hg0 => ?_) (fun hg0 => ?_)
 ·have hg := hg0; try simp only [SG] at hg
  refine A3 rfl rfl <| gT rfl rfl <| A3 rfl rfl <| gT rfl rfl ?_
  apply D6 rfl
  ·apply B1
   ·exact H9 rfl rfl rfl (by (simp; done)) (fun _ => rfl)
   apply B1
   ·exact H9 rfl rfl rfl (by (simp; done)) (fun _ => rfl)
   exact D5
  ·exact r5 ((rsF cols ss).getD []) (by omega)
  ·exact ⟨rfl, rfl, rfl, of_decide_eq_true rfl, rfl⟩
  ·exact .inr ⟨rfl, rfl⟩
  ·exact C6
  ·exact C7 rfl
  ·exact fun _ => rfl
  intro g75
  refine gT rfl rfl <| G8 rfl <| B6 rfl (by assumption) rfl rfl <| A3 rfl rfl <| B8 rfl rfl rfl <| A3 rfl rfl <| B8 rfl rfl rfl <| A3 rfl rfl <| B8 rfl rfl rfl <| c0r rfl rfl rfl <| B6 rfl rfl rfl rfl ?_
  refine A4 ⟨nofun, _, kS [0,1,6,7,10,82] [6,10] rfl, ?_⟩
  refine A8 rfl (fun hc => ?_) (fun hc => ?_)
  ·try simp only [SG, List.length_map] at hc
   refine A5 <| A0 <| A6 rfl rfl rfl ?_
   refine A4 ⟨nofun, _, kS [4] [] rfl, ?_⟩
   refine C4 <| C1 rfl rfl trivial ?_
   (simp_all; done)
  try simp only [SG, List.length_map] at hc
  refine B9 <| A5 <| A0 <| A6 rfl rfl rfl ?_
  refine A4 ⟨nofun, _, kS [0,1,6,7,10,13] [6,10] rfl, ?_⟩
  refine A5 <| A0 <| A3 rfl rfl <| A3 rfl rfl ?_
  obtain ⟨_, _, ⟨rfl, rfl⟩, hM3⟩ := a0x ((rsF cols ss).getD []) (by omega) 1 (by omega)
  apply D6 rfl
  ·apply B1
   ·exact a5m rfl rfl (by decide) (by (simp; done)) (P2 fun _ => rfl)
   apply B1
   ·exact B0 rfl
   exact D5
  ·exact hM3
  ·exact ⟨rfl, rfl, rfl, of_decide_eq_true rfl, rfl⟩
  ·exact .inl rfl
  ·exact a2w rfl (by simp) (Z1 _ _) C6
  ·exact C7 rfl
  ·(intro _; exact G3 (C3 (B4 fun _ => rfl)) rfl)
  intro g85
  refine A6 rfl rfl rfl ?_
  refine A4 ⟨nofun, _, kS [0,1,6,7,10,13] [6,10] rfl, ?_⟩
  refine A5 <| A0 <| A6 rfl rfl rfl ?_
  refine A4 ⟨nofun, _, kS [0,1,6,7,10,13,14] [6,10] rfl, ?_⟩
  refine A5 <| A0 <| A3 rfl rfl <| A3 rfl rfl ?_
  apply D6 rfl
  ·apply B1
   ·exact H9 rfl rfl rfl (by (simp; done)) (fun _ => rfl)
   apply B1
   ·exact B0 rfl
   exact D5
  ·exact a5u ((rsF cols ss).getD []).length (by omega) 1 (by omega)
  ·exact ⟨rfl, rfl, rfl, of_decide_eq_true rfl, rfl⟩
  ·exact .inr ⟨rfl, rfl⟩
  ·exact C6
  ·exact C7 rfl
  ·exact fun _ => rfl
  intro g88
  refine A6 rfl rfl rfl ?_
  refine A4 ⟨nofun, _, kS [0,1,6,7,10,13,14] [6,10] rfl, ?_⟩
  refine A5 <| A5 <| A0 <| A3 rfl rfl <| G7 rfl rfl ?_
  refine A4 ⟨nofun, _, kS [0,1,6,7,10,13,14,90] [6,10] rfl, ?_⟩
  refine A8 rfl (fun hc => ?_) (fun hc => ?_)
  ·try simp only [SG, List.length_map] at hc
   refine A5 <| A0 <| A6 rfl rfl rfl ?_
   refine A4 ⟨nofun, _, kS [4] [] rfl, ?_⟩
   refine C4 <| C1 rfl rfl trivial ?_
   (exfalso; omega)
  try simp only [SG, List.length_map] at hc
  refine B9 <| A5 <| A5 <| A0 <| A3 rfl rfl <| A3 rfl rfl <| K7 rfl rfl ?_
  refine A4 ⟨nofun, _, kS [0,1,6,7,10,13,93] [6,10] rfl, ?_⟩
  refine A8 rfl (fun hc => ?_) (fun hc => ?_)
  ·try simp only [SG, List.length_map] at hc
   refine A5 <| A0 <| A6 rfl rfl rfl ?_
   refine A4 ⟨nofun, _, kS [4] [] rfl, ?_⟩
   refine C4 <| C1 rfl rfl trivial ?_
   (simp_all; done)
  try simp only [SG, List.length_map] at hc
  refine B9 <| A5 <| A0 <| A3 rfl rfl ?_
  apply D6 rfl
  ·apply B1
   ·exact B0 rfl
   exact D5
  ·exact W0 ss hz
  ·exact ⟨rfl, rfl, rfl, of_decide_eq_true rfl, rfl⟩
  ·exact .inl rfl
  ·exact C6
  ·exact I0
  ·exact fun _ => rfl
  intro g96
  simp only [List.length_map]
  refine A3 rfl rfl ?_
  apply D6 rfl
  ·apply B1
   ·exact B0 rfl
   exact D5
  ·exact x5 cols hzr
  ·exact ⟨rfl, rfl, rfl, of_decide_eq_true rfl, rfl⟩
  ·exact .inl rfl
  ·exact C6
  ·exact I0
  ·exact fun _ => rfl
  intro g98
  simp only [List.length_map]
  apply D6 rfl
  ·apply B1
   ·exact U3 rfl rfl rfl (by (simp; done))
   apply B1
   ·exact T6 rfl rfl rfl (by (simp; done))
   exact D5
  ·exact a1n ss hz cols hzr.1 (b0l hzr.2)
  ·exact ⟨rfl, rfl, rfl, of_decide_eq_true rfl, rfl⟩
  ·exact .inr ⟨M8 _ _, rfl⟩
  ·exact C6
  ·exact S9 (r6 fun _ => o7 rfl u7)
  ·exact fun _ => rfl
  intro g99
  simp only [List.length_map]
  refine A3 rfl rfl <| J9 rfl rfl rfl <| J9 rfl rfl rfl ?_
  (refine C5 rfl rfl (by (simp; done)) rfl (fun _ => (C3 (by exact B4 fun _ => rfl))) (fun _ => rfl) ?_; intro g15)
  refine A6 rfl rfl rfl ?_
  refine A4 ⟨nofun, _, kS [6,7,10,13,15,16] [6,10,15] rfl, ?_⟩
  refine A5 <| A5 <| A0 <| A3 rfl rfl <| A3 rfl rfl ?_
  apply D6 rfl
  ·apply B1
   ·exact H9 rfl rfl rfl (by (simp; done)) (fun _ => rfl)
   apply B1
   ·exact H9 rfl rfl rfl (by (simp; done)) (fun _ => rfl)
   exact D5
  ·exact r5 ((rsF cols ss).getD []) (by omega)
  ·exact ⟨rfl, rfl, rfl, of_decide_eq_true rfl, rfl⟩
  ·exact .inr ⟨rfl, rfl⟩
  ·exact C6
  ·exact C7 rfl
  ·exact fun _ => rfl
  intro g104
  refine G8 rfl <| A3 rfl rfl <| B8 rfl rfl rfl <| A3 rfl rfl <| B8 rfl rfl rfl <| A3 rfl rfl <| B8 rfl rfl rfl <| c0r rfl rfl rfl <| B6 rfl rfl rfl rfl ?_
  refine A4 ⟨nofun, _, kS [10,13,110] [10] rfl, ?_⟩
  refine A8 rfl (fun hc => ?_) (fun hc => ?_)
  ·try simp only [SG, List.length_map] at hc
   refine A5 <| A0 <| A6 rfl rfl rfl ?_
   refine A4 ⟨nofun, _, kS [4] [] rfl, ?_⟩
   refine C4 <| C1 rfl rfl trivial ?_
   (simp_all; done)
  try simp only [SG, List.length_map] at hc
  refine B9 <| A5 <| A0 <| A6 rfl rfl rfl ?_
  refine A4 ⟨nofun, _, kS [10,13,14] [10] rfl, ?_⟩
  refine A5 <| A0 <| A3 rfl rfl <| A3 rfl rfl ?_
  apply D6 rfl
  ·apply B1
   ·exact H9 rfl rfl rfl (by (simp; done)) (fun _ => rfl)
   apply B1
   ·exact B0 rfl
   exact D5
  ·exact a5u ((rsF cols ss).getD []).length (by omega) 1 (by omega)
  ·exact ⟨rfl, rfl, rfl, of_decide_eq_true rfl, rfl⟩
  ·exact .inr ⟨rfl, rfl⟩
  ·exact C6
  ·exact C7 rfl
  ·exact fun _ => rfl
  intro g113
  refine A6 rfl rfl rfl ?_
  refine A4 ⟨nofun, _, kS [13,14] [] rfl, ?_⟩
  refine A5 <| A5 <| A0 <| A3 rfl rfl <| G7 rfl rfl ?_
  refine A4 ⟨nofun, _, kS [13,14,115] [] rfl, ?_⟩
  refine A8 rfl (fun hc => ?_) (fun hc => ?_)
  ·try simp only [SG, List.length_map] at hc
   refine A5 <| A0 <| A6 rfl rfl rfl ?_
   refine A4 ⟨nofun, _, kS [4] [] rfl, ?_⟩
   refine C4 <| C1 rfl rfl trivial ?_
   (exfalso; omega)
  try simp only [SG, List.length_map] at hc
  refine B9 <| A5 <| A5 <| A0 <| A3 rfl rfl <| A3 rfl rfl <| K7 rfl rfl ?_
  refine A4 ⟨nofun, _, kS [118] [] rfl, ?_⟩
  refine A8 rfl (fun hc => ?_) (fun hc => ?_)
  ·try simp only [SG, List.length_map] at hc
   refine A5 <| A0 <| A6 rfl rfl rfl ?_
   refine A4 ⟨nofun, _, kS [4] [] rfl, ?_⟩
   refine C4 <| C1 rfl rfl trivial ?_
   (simp_all; done)
  try simp only [SG, List.length_map] at hc
  refine B9 <| A5 <| A0 <| A6 rfl rfl rfl ?_
  refine A4 ⟨nofun, _, kS [4] [] rfl, ?_⟩
  refine C4 <| C1 rfl rfl trivial ?_
  rfl
 have hg := hg0; try simp only [SG] at hg
 refine gF rfl rfl <| gF rfl rfl <| gF rfl rfl <| C0 rfl (by assumption) rfl rfl <| A3 rfl rfl <| B2 rfl rfl rfl <| B2 rfl rfl rfl <| B2 rfl rfl rfl <| C0 rfl rfl rfl rfl ?_
 refine A4 ⟨nofun, _, kS [0,1,6,7,10,82] [6,10] rfl, ?_⟩
 refine A8 rfl (fun hc => ?_) (fun hc => absurd hc (by decide))
 refine A5 <| A0 <| A6 rfl rfl rfl ?_
 refine A4 ⟨nofun, _, kS [4] [] rfl, ?_⟩
 refine C4 <| C1 rfl rfl trivial ?_
 (exfalso; omega)
end Go.Proofs.Ytpjgdgnaeohmeaa
