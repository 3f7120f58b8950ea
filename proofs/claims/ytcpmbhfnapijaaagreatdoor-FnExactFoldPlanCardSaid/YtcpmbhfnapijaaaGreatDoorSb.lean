/- What each function of the program gives on the abstract machine, part 2 of 2. Conditions: those in front of each theorem. -/
import Derived.Test.YtcpmbhfnapijaaaGreatDoorSa
import Derived.KernelRfl

set_option linter.unusedVariables false
set_option linter.unusedSimpArgs false
namespace Go.Proofs.YtcpmbhfnapijaaaGreatDoor
open Go Go.Mv Go.Proofs
set_option maxRecDepth 100000
variable {oG : Option Nat} {rG : Nat}

theorem keep_s_runI : G8 Tryz.f59 = [0, 1, 4, 5, 2, 14, 24, 23, 25, 22, 8, 10, 35, 9, 6] := by kernel_rfl
set_option maxHeartbeats 20000000 in
theorem c6j (t : Pl) (hgd : t.good) (hwf : t.wf) (cols : List (List Int)) (hvc : vcs cols = true) (hc4 : cols.length ≤ 1048576) (hcb : ∀ c ∈ cols, c.length ≤ 1048576) : CW (cxT oG) 59 [trK t, M cols] = some (.tup [.own 1 (((a1q cols t).getD []).map iV), bV (a1q cols t).isSome], []) := by
 obtain ⟨kk, hkk⟩ : ∃ kk : Nat, t.sz < kk := ⟨_, Nat.lt_succ_self _⟩
 revert t
 induction kk with
 | zero => intro t hgd hwf hkk; exact absurd hkk (Nat.not_lt_zero _)
 | succ kk ih =>
  intro t hgd hwf hkk
  refine G3 rfl Tryz.func59 rfl ⟨by kernel_rfl, rfl, dT rfl, dT rfl, by decide⟩ keep_s_runI <| A3 <| A0 ?_
  rcases t with ns | w | ⟨w, p⟩ | ⟨w, p, q⟩
  ·rw [b5h]
   have hvl := a7y (show vd ns = true from hgd)
   refine a5g rfl rfl rfl (fun _ => B2 rfl) (fun _ => rfl) ?_
   intro g2
   (refine B9 rfl rfl (fun _ => rfl) ?_; intro g4)
   refine A5 rfl rfl rfl <| xN [1,2] [2] rfl <| A3 <| A3 <| A0 <| B1 rfl rfl (dT rfl) rfl rfl <| B4 rfl rfl rfl rfl rfl rfl <| D6 rfl rfl <| Y3 rfl rfl <| xN [1,2,14] [2] rfl ?_
   refine A8 rfl (fun hc => ?_) (fun hc => absurd hc (by decide))
   refine A3 <| A0 <| B1 rfl rfl (dT rfl) rfl rfl <| B4 rfl rfl rfl rfl rfl rfl <| B1 rfl rfl (dT rfl) rfl rfl <| B4 rfl rfl rfl rfl rfl rfl <| A4 rfl rfl ?_
   apply xC rfl
   ·apply B3
    ·exact B7 rfl
    apply B3
    ·exact B7 rfl
    apply B3
    ·exact B7 rfl
    exact D3
   ·exact c6c ns (by omega) cols
   refine ⟨⟨rfl, rfl, rfl, dT rfl, rfl⟩, .inl rfl, B8, N2, fun _ => rfl, fun g20 => ?_⟩
   simp only [List.length_map]
   (refine B0 rfl rfl (by (simp; done)) rfl (fun _ => (A9 (by exact A7 fun _ => rfl))) (fun _ => rfl) ?_; intro g4)
   refine A5 rfl rfl rfl <| xN [4,5] [4] rfl <| C0 <| C8 (G9 rfl rfl (by simp) (by exact A7 fun _ => rfl) (E7 rfl rfl (D9 C4))) ?_
   rfl
  ·rw [b5s]
   have hwl : rch (bA w) = 0 := hwf
   obtain ⟨⟨k, hk, ek⟩, -⟩ := d0x hwl
   have hci := c9z hk
   refine a5g rfl rfl rfl (fun _ => B2 rfl) (fun _ => rfl) ?_
   intro g2
   (refine B9 rfl rfl (fun _ => rfl) ?_; intro g4)
   refine A5 rfl rfl rfl <| xN [1,2] [2] rfl <| A3 <| A3 <| A0 <| B1 rfl rfl (dT rfl) rfl rfl <| B4 rfl rfl rfl rfl rfl rfl <| D6 rfl rfl <| Y3 rfl rfl <| xN [1,2,14] [2] rfl ?_
   refine A8 rfl (fun hc => ?_) (fun hc => absurd hc (by decide))
   refine A3 <| A0 <| B1 rfl rfl (dT rfl) rfl rfl <| B4 rfl rfl rfl rfl rfl rfl <| B1 rfl rfl (dT rfl) rfl rfl <| B4 rfl rfl rfl rfl rfl rfl <| A4 rfl rfl ?_
   apply xC rfl
   ·apply B3
    ·exact B7 rfl
    apply B3
    ·exact B7 rfl
    apply B3
    ·exact B7 rfl
    exact D3
   ·exact (by have hi := c8u (oG := oG) k hk [] cols hc4 hcb; rw [← ek] at hi; exact hi)
   refine ⟨⟨rfl, rfl, rfl, dT rfl, rfl⟩, .inl rfl, B8, N2, fun _ => rfl, fun g20 => ?_⟩
   simp only [List.length_map]
   (refine B0 rfl rfl (by (simp; done)) rfl (fun _ => (A9 (by exact A7 fun _ => rfl))) (fun _ => rfl) ?_; intro g4)
   refine A5 rfl rfl rfl <| xN [4,5] [4] rfl <| C0 <| C8 (G9 rfl rfl (by simp) (by exact A7 fun _ => rfl) (E7 rfl rfl (D9 C4))) ?_
   rw [a1q, ek, hci]
   rfl
  ·rw [c2f]
   have hsz1 : (Pl.un w p).sz = p.sz + 1 := rfl
   have hn : nd (bA w) = 1 := (S4 (by have h := hwf.1; omega)).trans hwf.1
   refine a5g rfl rfl rfl (fun _ => B2 rfl) (fun _ => rfl) ?_
   intro g2
   (refine B9 rfl rfl (fun _ => rfl) ?_; intro g4)
   refine A5 rfl rfl rfl <| xN [1,2] [2] rfl <| A3 <| A3 <| A0 <| B1 rfl rfl (dT rfl) rfl rfl <| B4 rfl rfl rfl rfl rfl rfl <| D6 rfl rfl <| Y3 rfl rfl <| xN [1,2,14] [2] rfl ?_
   refine A8 rfl (fun hc => absurd hc (by exact fun h => Bool.noConfusion (show false = true from h))) (fun hc => ?_)
   refine B5 <| A3 <| A0 ?_
   (refine B9 rfl rfl (fun _ => rfl) ?_; intro g6)
   refine xN [1,2,6] [2,6] rfl <| A3 <| A3 <| A0 <| B1 rfl rfl (dT rfl) rfl rfl <| B4 rfl rfl rfl rfl rfl rfl <| D6 rfl rfl <| A4 rfl rfl <| xN [1,2,6,22,23,24] [2,6] rfl <| C1 <| G6 <| A3 <| A0 <| H2 rfl rfl <| xN [1,2,6,22,23,24,25] [2,6] rfl <| A3 ?_
   refine A8 rfl (fun hc => ?_) (fun hc => absurd hc (by exact fun h => Bool.noConfusion (show true = false from h)))
   refine B5 <| A3 <| C1 <| A3 <| A0 <| L9 rfl rfl rfl (fun _ => rfl) (by show (0 : Int) ≤ 0 ∧ (0 : Int) < ((1 : Nat) : Int); omega) <| C6 rfl rfl rfl <| F5 rfl (fun _ => B2 rfl) (fun _ => rfl) ?_
   intro g8
   refine C2 rfl rfl rfl rfl ⟨by decide, rfl, dT rfl, dT rfl, rfl⟩ rfl (by exact B2 rfl) <| xN [1,2,6,8,22,23,24] [2,6,8] rfl <| A3 <| A0 <| C5 rfl rfl rfl rfl rfl <| A4 rfl rfl ?_
   apply xC rfl
   ·apply B3
    ·exact B7 rfl
    apply B3
    ·exact B7 rfl
    exact D3
   ·exact (by have hi := ih p hgd.2.2 hwf.2 (by omega); rw [← Z3] at hi; exact hi)
   refine ⟨⟨rfl, rfl, rfl, dT rfl, rfl⟩, .inr ⟨K0 _ _, rfl⟩, B8, I2 (M8 fun _ => I7 rfl M9), fun _ => rfl, fun g31 => ?_⟩
   simp only [List.length_map]
   refine A4 rfl rfl <| B6 rfl rfl rfl <| B6 rfl rfl rfl ?_
   (refine B0 rfl rfl (by (simp; done)) rfl (fun _ => (A9 (by exact A7 fun _ => rfl))) (fun _ => rfl) ?_; intro g9)
   refine A5 rfl rfl rfl <| xN [1,2,6,9,10,22,23,24] [2,6,9] rfl <| A3 <| A3 <| A0 <| A4 rfl rfl <| K9 rfl <| xN [1,2,6,9,22,23,24,35] [2,6,9] rfl ?_
   refine A8 rfl ?_ ?_ <;> intro hc <;> try simp only [SL] at hc
   ·refine A3 <| A0 ?_
    (refine B9 rfl rfl (fun _ => rfl) ?_; intro g4)
    refine A5 rfl rfl rfl <| xN [4,5] [4] rfl <| C0 <| C8 (G9 rfl rfl (by simp) (by rfl) (E7 rfl rfl (D9 C4))) ?_
    have hno : a1q cols p = none := by simpa using hc
    show AV.tup [.own 1 [], bV false] = _
    rw [a1q, hno]
    rfl
   obtain ⟨x, hx⟩ := Option.isSome_iff_exists.1 (show (a1q cols p).isSome = true by assumption)
   rw [hx]
   have hvx := c2m hvc (hgd.2.2) hx
   simp only [Option.getD_some]
   refine B5 <| A0 <| A4 rfl rfl <| A4 rfl rfl <| a3w rfl rfl (by simp) rfl rfl rfl (fun _ => rfl) ?_
   intro g38
   refine F7 (f := oI) (xs := []) (ys := [x]) rfl rfl rfl rfl (by simp) (by simp) (by decide) rfl rfl rfl rfl (dT rfl) (fun a => ⟨rfl, a7e a⟩) (by simp only [H6]; simp) (fun _ => rfl) ?_
   intro g39
   (refine B0 rfl rfl (by (simp; done)) rfl (fun _ => (A9 (by exact A7 fun _ => rfl))) (fun _ => rfl) ?_; intro g6)
   refine xN [1,2,6,22,23,24] [2,6] rfl <| A0 <| H0 rfl rfl (F3 (by omega)) <| A4 rfl rfl <| xN [1,2,6,22,23,24] [2,6] rfl <| G6 <| A3 <| A0 <| H2 rfl rfl <| xN [1,2,6,22,23,24,25] [2,6] rfl <| A3 ?_
   refine A8 rfl (fun hc => absurd hc (by exact fun h => Bool.noConfusion (show false = true from h))) (fun hc => ?_)
   refine G4 <| A3 <| A0 <| B1 rfl rfl (dT rfl) rfl rfl <| B4 rfl rfl rfl rfl rfl rfl <| A4 rfl rfl ?_
   apply xC rfl
   ·apply B3
    ·exact B7 rfl
    apply B3
    ·exact a7d rfl rfl rfl (by (simp; done))
    exact D3
   ·exact b9f (bA w) (by omega) x [] hvx c8y [x] (by simp) (by (intro h; omega)) rfl (by (intro _; rfl))
   refine ⟨⟨rfl, rfl, rfl, dT rfl, rfl⟩, .inr ⟨K0 _ _, rfl⟩, B8, I2 (M8 fun _ => I7 rfl M9), fun _ => rfl, fun g44 => ?_⟩
   simp only [List.length_map]
   refine B6 rfl rfl rfl <| B6 rfl rfl rfl ?_
   (refine B0 rfl rfl (by (simp; done)) rfl (fun _ => (A9 (by exact A7 fun _ => rfl))) (fun _ => rfl) ?_; intro g4)
   refine A5 rfl rfl rfl <| xN [4,5] [4] rfl <| C0 <| C8 (G9 rfl rfl (by simp) (by exact A7 fun _ => rfl) (E7 rfl rfl (D9 C4))) ?_
   rw [a1q, hx, Option.bind_some]
   rfl
  rw [b6b]
  have hsz1 : (Pl.bin w p q).sz = p.sz + q.sz + 1 := rfl
  have hn : nd (bA w) = 2 := (S4 (by have h := hwf.1; omega)).trans hwf.1
  refine a5g rfl rfl rfl (fun _ => B2 rfl) (fun _ => rfl) ?_
  intro g2
  (refine B9 rfl rfl (fun _ => rfl) ?_; intro g4)
  refine A5 rfl rfl rfl <| xN [1,2] [2] rfl <| A3 <| A3 <| A0 <| B1 rfl rfl (dT rfl) rfl rfl <| B4 rfl rfl rfl rfl rfl rfl <| D6 rfl rfl <| Y3 rfl rfl <| xN [1,2,14] [2] rfl ?_
  refine A8 rfl (fun hc => absurd hc (by exact fun h => Bool.noConfusion (show false = true from h))) (fun hc => ?_)
  refine B5 <| A3 <| A0 ?_
  (refine B9 rfl rfl (fun _ => rfl) ?_; intro g6)
  refine xN [1,2,6] [2,6] rfl <| A3 <| A3 <| A0 <| B1 rfl rfl (dT rfl) rfl rfl <| B4 rfl rfl rfl rfl rfl rfl <| D6 rfl rfl <| A4 rfl rfl <| xN [1,2,6,22,23,24] [2,6] rfl <| C1 <| G6 <| A3 <| A0 <| H2 rfl rfl <| xN [1,2,6,22,23,24,25] [2,6] rfl <| A3 ?_
  refine A8 rfl (fun hc => ?_) (fun hc => absurd hc (by exact fun h => Bool.noConfusion (show true = false from h)))
  refine B5 <| A3 <| C1 <| A3 <| A0 <| L9 rfl rfl rfl (fun _ => rfl) (by show (0 : Int) ≤ 0 ∧ (0 : Int) < ((2 : Nat) : Int); omega) <| C6 rfl rfl rfl <| F5 rfl (fun _ => B2 rfl) (fun _ => rfl) ?_
  intro g8
  refine C2 rfl rfl rfl rfl ⟨by decide, rfl, dT rfl, dT rfl, rfl⟩ rfl (by exact B2 rfl) <| xN [1,2,6,8,22,23,24] [2,6,8] rfl <| A3 <| A0 <| C5 rfl rfl rfl rfl rfl <| A4 rfl rfl ?_
  apply xC rfl
  ·apply B3
   ·exact B7 rfl
   apply B3
   ·exact B7 rfl
   exact D3
  ·exact (by have hi := ih p hgd.2.2.1 hwf.2.1 (by omega); rw [← Z3] at hi; exact hi)
  refine ⟨⟨rfl, rfl, rfl, dT rfl, rfl⟩, .inr ⟨K0 _ _, rfl⟩, B8, I2 (M8 fun _ => I7 rfl M9), fun _ => rfl, fun g31 => ?_⟩
  simp only [List.length_map]
  refine A4 rfl rfl <| B6 rfl rfl rfl <| B6 rfl rfl rfl ?_
  (refine B0 rfl rfl (by (simp; done)) rfl (fun _ => (A9 (by exact A7 fun _ => rfl))) (fun _ => rfl) ?_; intro g9)
  refine A5 rfl rfl rfl <| xN [1,2,6,9,10,22,23,24] [2,6,9] rfl <| A3 <| A3 <| A0 <| A4 rfl rfl <| K9 rfl <| xN [1,2,6,9,22,23,24,35] [2,6,9] rfl ?_
  refine A8 rfl ?_ ?_ <;> intro hc <;> try simp only [SL] at hc
  ·refine A3 <| A0 ?_
   (refine B9 rfl rfl (fun _ => rfl) ?_; intro g4)
   refine A5 rfl rfl rfl <| xN [4,5] [4] rfl <| C0 <| C8 (G9 rfl rfl (by simp) (by rfl) (E7 rfl rfl (D9 C4))) ?_
   have hno : a1q cols p = none := by simpa using hc
   show AV.tup [.own 1 [], bV false] = _
   rw [a1q, hno]
   rfl
  obtain ⟨x, hx⟩ := Option.isSome_iff_exists.1 (show (a1q cols p).isSome = true by assumption)
  rw [hx]
  have hvx := c2m hvc (hgd.2.2.1) hx
  simp only [Option.getD_some]
  refine B5 <| A0 <| A4 rfl rfl <| A4 rfl rfl <| a3w rfl rfl (by simp) rfl rfl rfl (fun _ => rfl) ?_
  intro g38
  refine F7 (f := oI) (xs := []) (ys := [x]) rfl rfl rfl rfl (by simp) (by simp) (by decide) rfl rfl rfl rfl (dT rfl) (fun a => ⟨rfl, a7e a⟩) (by simp only [H6]; simp) (fun _ => rfl) ?_
  intro g39
  (refine B0 rfl rfl (by (simp; done)) rfl (fun _ => (A9 (by exact A7 fun _ => rfl))) (fun _ => rfl) ?_; intro g6)
  refine xN [1,2,6,22,23,24] [2,6] rfl <| A0 <| H0 rfl rfl (F3 (by omega)) <| A4 rfl rfl <| xN [1,2,6,22,23,24] [2,6] rfl <| G6 <| A3 <| A0 <| H2 rfl rfl <| xN [1,2,6,22,23,24,25] [2,6] rfl <| A3 ?_
  refine A8 rfl (fun hc => ?_) (fun hc => absurd hc (by exact fun h => Bool.noConfusion (show true = false from h)))
  refine B5 <| A3 <| C1 <| A3 <| A0 <| L9 rfl rfl rfl (fun _ => rfl) (by show (0 : Int) ≤ 1 ∧ (1 : Int) < ((2 : Nat) : Int); omega) <| C6 rfl rfl rfl <| F5 rfl (fun _ => B2 rfl) (fun _ => rfl) ?_
  intro g8
  refine C2 rfl rfl rfl rfl ⟨by decide, rfl, dT rfl, dT rfl, rfl⟩ rfl (by exact B2 rfl) <| xN [1,2,6,8,22,23,24] [2,6,8] rfl <| A3 <| A0 <| C5 rfl rfl rfl rfl rfl <| A4 rfl rfl ?_
  apply xC rfl
  ·apply B3
   ·exact B7 rfl
   apply B3
   ·exact B7 rfl
   exact D3
  ·exact (by have hi := ih q hgd.2.2.2 hwf.2.2 (by omega); rw [← Z3] at hi; exact hi)
  refine ⟨⟨rfl, rfl, rfl, dT rfl, rfl⟩, .inr ⟨K0 _ _, rfl⟩, B8, I2 (M8 fun _ => I7 rfl M9), fun _ => rfl, fun g31 => ?_⟩
  simp only [List.length_map]
  refine A4 rfl rfl <| B6 rfl rfl rfl <| B6 rfl rfl rfl ?_
  (refine B0 rfl rfl (by (simp; done)) rfl (fun _ => (A9 (by exact A7 fun _ => rfl))) (fun _ => rfl) ?_; intro g9)
  refine A5 rfl rfl rfl <| xN [1,2,6,9,10,22,23,24] [2,6,9] rfl <| A3 <| A3 <| A0 <| A4 rfl rfl <| K9 rfl <| xN [1,2,6,9,22,23,24,35] [2,6,9] rfl ?_
  refine A8 rfl ?_ ?_ <;> intro hc <;> try simp only [SL] at hc
  ·refine A3 <| A0 ?_
   (refine B9 rfl rfl (fun _ => rfl) ?_; intro g4)
   refine A5 rfl rfl rfl <| xN [4,5] [4] rfl <| C0 <| C8 (G9 rfl rfl (by simp) (by rfl) (E7 rfl rfl (D9 C4))) ?_
   have hno : a1q cols q = none := by simpa using hc
   show AV.tup [.own 1 [], bV false] = _
   rw [a1q, hx, Option.bind_some, hno]
   rfl
  obtain ⟨y, hy⟩ := Option.isSome_iff_exists.1 (show (a1q cols q).isSome = true by assumption)
  rw [hy]
  have hvy := c2m hvc (hgd.2.2.2) hy
  simp only [Option.getD_some]
  refine B5 <| A0 <| A4 rfl rfl <| A4 rfl rfl <| a3w rfl rfl (by simp) rfl rfl rfl (fun _ => rfl) ?_
  intro g38
  refine F7 (f := oI) (xs := [x]) (ys := [y]) rfl rfl rfl rfl (by simp) (by simp) (by decide) rfl rfl rfl rfl (dT rfl) (fun a => ⟨rfl, a7e a⟩) (by simp only [H6]; simp) (fun _ => rfl) ?_
  intro g39
  (refine B0 rfl rfl (by (simp; done)) rfl (fun _ => (A9 (by exact A7 fun _ => rfl))) (fun _ => rfl) ?_; intro g6)
  refine xN [1,2,6,22,23,24] [2,6] rfl <| A0 <| H0 rfl rfl (F3 (by omega)) <| A4 rfl rfl <| xN [1,2,6,22,23,24] [2,6] rfl <| G6 <| A3 <| A0 <| H2 rfl rfl <| xN [1,2,6,22,23,24,25] [2,6] rfl <| A3 ?_
  refine A8 rfl (fun hc => absurd hc (by exact fun h => Bool.noConfusion (show false = true from h))) (fun hc => ?_)
  refine G4 <| A3 <| A0 <| B1 rfl rfl (dT rfl) rfl rfl <| B4 rfl rfl rfl rfl rfl rfl <| A4 rfl rfl ?_
  apply xC rfl
  ·apply B3
   ·exact B7 rfl
   apply B3
   ·exact a7d rfl rfl rfl (by (simp; done))
   exact D3
  ·exact b9f (bA w) (by omega) x y hvx hvy [x, y] (by simp) (by (intro h; simp; done)) rfl (by (intro _; rfl))
  refine ⟨⟨rfl, rfl, rfl, dT rfl, rfl⟩, .inr ⟨K0 _ _, rfl⟩, B8, I2 (M8 fun _ => I7 rfl M9), fun _ => rfl, fun g44 => ?_⟩
  simp only [List.length_map]
  refine B6 rfl rfl rfl <| B6 rfl rfl rfl ?_
  (refine B0 rfl rfl (by (simp; done)) rfl (fun _ => (A9 (by exact A7 fun _ => rfl))) (fun _ => rfl) ?_; intro g4)
  refine A5 rfl rfl rfl <| xN [4,5] [4] rfl <| C0 <| C8 (G9 rfl rfl (by simp) (by exact A7 fun _ => rfl) (E7 rfl rfl (D9 C4))) ?_
  rw [a1q, hx, Option.bind_some, hy, Option.bind_some]
  rfl

theorem keep_s_foldS : G8 Tryz.f82 = [0, 2, 1, 5, 20, 6, 4, 3, 46, 7, 51, 8, 9, 10, 73, 28] := by kernel_rfl
set_option maxHeartbeats 20000000 in
theorem d0l (t : Pl) (hgd : t.good) (hwf : t.wf) (hsz : t.sz ≤ 1000) : CW (cxT oG) 82 [trK t] = some (trV (foldP t), []) := by
 obtain ⟨kk, hkk⟩ : ∃ kk : Nat, t.sz < kk := ⟨_, Nat.lt_succ_self _⟩
 revert t
 induction kk with
 | zero => intro t hgd hwf hsz hkk; exact absurd hkk (Nat.not_lt_zero _)
 | succ kk ih =>
  intro t hgd hwf hsz hkk
  refine G3 rfl Tryz.func82 rfl ⟨by kernel_rfl, rfl, dT rfl, dT rfl, by decide⟩ keep_s_foldS <| A3 <| A0 <| a5g rfl rfl rfl (fun _ => B2 rfl) (fun _ => rfl) ?_
  intro g1
  rcases t with ns | w | ⟨w, p⟩ | ⟨w, p, q⟩
  ·rw [b5h]
    
   refine F5 rfl (fun _ => B2 rfl) (fun _ => rfl) ?_
   intro g2
   refine xN [1,2] [1,2] rfl <| A3 <| A0 <| D4 (es := List.map trV []) rfl rfl (dT rfl) rfl rfl (fun _ => A9 (A7 fun _ => rfl)) (fun _ => rfl) ?_
   intro g11
   (refine B0 rfl rfl (by (simp; done)) rfl (fun _ => (A9 (by exact A7 fun _ => rfl))) (fun _ => rfl) ?_; intro g3)
   refine xN [1,2,3] [1,2,3] rfl <| A3 <| A0 <| B1 rfl rfl (dT rfl) rfl rfl <| B4 rfl rfl rfl rfl rfl rfl <| D6 rfl rfl <| P1 rfl rfl <| A5 rfl rfl rfl <| xN [1,2,3,4] [1,2,3] rfl <| A3 <| A3 <| A0 <| A5 rfl rfl rfl <| xN [1,2,3,4,5] [1,2,3] rfl <| C1 <| G6 <| A3 <| A3 <| A0 <| A4 rfl rfl <| B1 rfl rfl (dT rfl) rfl rfl <| B4 rfl rfl rfl rfl rfl rfl <| D6 rfl rfl <| H2 rfl rfl <| xN [1,2,3,4,5,20] [1,2,3] rfl ?_
   refine A8 rfl (fun hc => absurd hc (by decide)) (fun hc => ?_)
   refine G4 <| A3 <| A0 <| B1 rfl rfl (dT rfl) rfl rfl <| B4 rfl rfl rfl rfl rfl rfl <| B1 rfl rfl (dT rfl) rfl rfl <| B4 rfl rfl rfl rfl rfl rfl <| A4 rfl rfl <| I6 (fs := [_, _, _]) rfl rfl rfl rfl rfl <| F5 rfl (fun _ => B2 rfl) (fun _ => rfl) ?_
   intro g7
   refine E9 rfl rfl rfl rfl (G1 rfl (G1 rfl (L7 (by decide) J0))) (fun _ => rfl) ⟨by decide, rfl, dT rfl, Nat.le_refl _⟩ (fun _ => rfl) (fun _ => rfl) (fun _ => (by rfl)) ?_
   intro z
   simp only [J4, List.cons_append, List.nil_append]
   refine xN [1,2,3,4,7] [1,2,3,7] rfl <| A3 <| A3 <| A0 <| A4 rfl rfl <| K9 rfl <| xN [1,2,3,7,46] [1,2,3,7] rfl ?_
   refine A8 rfl (fun hc => ?_) (fun hc => absurd hc (by decide))
   refine A3 <| A0 <| C5 rfl rfl rfl rfl rfl <| E9 rfl rfl rfl rfl (G1 rfl (G1 rfl (L7 (by decide) J0))) (fun _ => rfl) ⟨by decide, rfl, dT rfl, Nat.le_refl _⟩ (fun _ => rfl) (fun _ => rfl) (fun _ => (by rfl)) ?_
   intro z
   simp only [J4, List.cons_append, List.nil_append]
   refine xN [2] [2,3] rfl <| C0 <| C8 (F6 rfl rfl rfl rfl (F0 rfl (F0 rfl (J5 rfl rfl (by simp) (fun _ => rfl) H7))) (D9 C4)) ?_
   rfl
  ·rw [b5s]
    
   refine F5 rfl (fun _ => B2 rfl) (fun _ => rfl) ?_
   intro g2
   refine xN [1,2] [1,2] rfl <| A3 <| A0 <| D4 (es := List.map trV []) rfl rfl (dT rfl) rfl rfl (fun _ => A9 (A7 fun _ => rfl)) (fun _ => rfl) ?_
   intro g11
   (refine B0 rfl rfl (by (simp; done)) rfl (fun _ => (A9 (by exact A7 fun _ => rfl))) (fun _ => rfl) ?_; intro g3)
   refine xN [1,2,3] [1,2,3] rfl <| A3 <| A0 <| B1 rfl rfl (dT rfl) rfl rfl <| B4 rfl rfl rfl rfl rfl rfl <| D6 rfl rfl <| P1 rfl rfl <| A5 rfl rfl rfl <| xN [1,2,3,4] [1,2,3] rfl <| A3 <| A3 <| A0 <| A5 rfl rfl rfl <| xN [1,2,3,4,5] [1,2,3] rfl <| C1 <| G6 <| A3 <| A3 <| A0 <| A4 rfl rfl <| B1 rfl rfl (dT rfl) rfl rfl <| B4 rfl rfl rfl rfl rfl rfl <| D6 rfl rfl <| H2 rfl rfl <| xN [1,2,3,4,5,20] [1,2,3] rfl ?_
   refine A8 rfl (fun hc => absurd hc (by decide)) (fun hc => ?_)
   refine G4 <| A3 <| A0 <| B1 rfl rfl (dT rfl) rfl rfl <| B4 rfl rfl rfl rfl rfl rfl <| B1 rfl rfl (dT rfl) rfl rfl <| B4 rfl rfl rfl rfl rfl rfl <| A4 rfl rfl <| I6 (fs := [_, _, _]) rfl rfl rfl rfl rfl <| F5 rfl (fun _ => B2 rfl) (fun _ => rfl) ?_
   intro g7
   refine E9 rfl rfl rfl rfl (G1 rfl (G1 rfl (L7 (by decide) J0))) (fun _ => rfl) ⟨by decide, rfl, dT rfl, Nat.le_refl _⟩ (fun _ => rfl) (fun _ => rfl) (fun _ => (by rfl)) ?_
   intro z
   simp only [J4, List.cons_append, List.nil_append]
   refine xN [1,2,3,4,7] [1,2,3,7] rfl <| A3 <| A3 <| A0 <| A4 rfl rfl <| K9 rfl <| xN [1,2,3,7,46] [1,2,3,7] rfl ?_
   refine A8 rfl (fun hc => ?_) (fun hc => absurd hc (by decide))
   refine A3 <| A0 <| C5 rfl rfl rfl rfl rfl <| E9 rfl rfl rfl rfl (G1 rfl (G1 rfl (L7 (by decide) J0))) (fun _ => rfl) ⟨by decide, rfl, dT rfl, Nat.le_refl _⟩ (fun _ => rfl) (fun _ => rfl) (fun _ => (by rfl)) ?_
   intro z
   simp only [J4, List.cons_append, List.nil_append]
   refine xN [2] [2,3] rfl <| C0 <| C8 (F6 rfl rfl rfl rfl (F0 rfl (F0 rfl (J5 rfl rfl (by simp) (fun _ => rfl) H7))) (D9 C4)) ?_
   rfl
  ·rw [c2f]
   have hsz1 : (Pl.un w p).sz = p.sz + 1 := rfl
   have hn : nd (bA w) = 1 := (S4 (by have h := hwf.1; omega)).trans hwf.1
   refine F5 rfl (fun _ => B2 rfl) (fun _ => rfl) ?_
   intro g2
   refine xN [1,2] [1,2] rfl <| A3 <| A0 <| D4 (es := List.map trV []) rfl rfl (dT rfl) rfl rfl (fun _ => A9 (A7 fun _ => rfl)) (fun _ => rfl) ?_
   intro g11
   (refine B0 rfl rfl (by (simp; done)) rfl (fun _ => (A9 (by exact A7 fun _ => rfl))) (fun _ => rfl) ?_; intro g3)
   refine xN [1,2,3] [1,2,3] rfl <| A3 <| A0 <| B1 rfl rfl (dT rfl) rfl rfl <| B4 rfl rfl rfl rfl rfl rfl <| D6 rfl rfl <| P1 rfl rfl <| A5 rfl rfl rfl <| xN [1,2,3,4] [1,2,3] rfl <| A3 <| A3 <| A0 <| A5 rfl rfl rfl <| xN [1,2,3,4,5] [1,2,3] rfl <| C1 <| G6 <| A3 <| A3 <| A0 <| A4 rfl rfl <| B1 rfl rfl (dT rfl) rfl rfl <| B4 rfl rfl rfl rfl rfl rfl <| D6 rfl rfl <| H2 rfl rfl <| xN [1,2,3,4,5,20] [1,2,3] rfl ?_
   refine A8 rfl (fun hc => ?_) (fun hc => absurd hc (by exact fun h => Bool.noConfusion (show true = false from h)))
   refine B5 <| A3 <| C1 <| A3 <| A0 <| B1 rfl rfl (dT rfl) rfl rfl <| B4 rfl rfl rfl rfl rfl rfl <| A4 rfl rfl <| L9 rfl rfl rfl (fun _ => rfl) (by show (0 : Int) ≤ 0 ∧ (0 : Int) < ((1 : Nat) : Int); omega) <| C6 rfl rfl rfl ?_
   apply xC rfl
   ·apply B3
    ·exact B7 rfl
    exact D3
   ·exact (by have hi := ih p hgd.2.2 hwf.2 (by omega) (by omega); rw [← Z3] at hi; exact hi)
   refine ⟨⟨rfl, rfl, rfl, dT rfl, rfl⟩, .inl rfl, B8, D5 rfl, fun _ => rfl, fun g28 => ?_⟩
   refine F5 rfl (fun _ => B2 rfl) (fun _ => rfl) ?_
   intro g6
   refine C2 rfl rfl rfl rfl ⟨by decide, rfl, dT rfl, dT rfl, rfl⟩ rfl (by exact B2 rfl) <| xN [1,2,3,4,5,6] [1,2,3,6] rfl <| A3 <| A0 <| A4 rfl rfl <| A4 rfl rfl <| J1 rfl rfl rfl <| B1 rfl rfl (dT rfl) rfl rfl <| J1 rfl rfl rfl <| B4 rfl rfl rfl rfl rfl rfl <| J1 rfl rfl rfl <| a1m rfl rfl <| G5 rfl rfl rfl rfl <| A5 rfl rfl rfl <| xN [1,2,3,4,5,6] [1,2,3,6] rfl <| A0 <| A4 rfl rfl <| C5 rfl rfl rfl rfl rfl <| D4 (es := List.map trV [_]) rfl rfl (dT rfl) rfl rfl (fun _ => A9 (A7 fun _ => rfl)) (fun _ => rfl) ?_
   intro g37
   refine F7 rfl rfl rfl rfl (by (simp; done)) (by simp) (by decide) rfl rfl rfl rfl (dT rfl) (fun _ => ⟨rfl, rfl⟩) (by simp only [H6]; (simp only [List.length_nil, List.length_cons, List.length_append, Nat.zero_add, List.length_map]; omega)) (fun _ => rfl) ?_
   intro g38
   (refine B0 rfl rfl (by (simp; done)) rfl (fun _ => (A9 (by exact A7 fun _ => rfl))) (fun _ => rfl) ?_; intro g3)
   refine xN [1,2,3,4,5] [1,2,3] rfl <| A0 <| A4 rfl rfl <| H0 rfl rfl (F3 (by omega)) <| A5 rfl rfl rfl <| xN [1,2,3,4,5] [1,2,3] rfl <| G6 <| A3 <| A3 <| A0 <| A4 rfl rfl <| B1 rfl rfl (dT rfl) rfl rfl <| B4 rfl rfl rfl rfl rfl rfl <| D6 rfl rfl <| H2 rfl rfl <| xN [1,2,3,4,5,20] [1,2,3] rfl ?_
   refine A8 rfl (fun hc => absurd hc (by exact fun h => Bool.noConfusion (show false = true from h))) (fun hc => ?_)
   refine G4 <| A3 <| A0 <| B1 rfl rfl (dT rfl) rfl rfl <| B4 rfl rfl rfl rfl rfl rfl <| B1 rfl rfl (dT rfl) rfl rfl <| B4 rfl rfl rfl rfl rfl rfl <| A4 rfl rfl <| I6 (fs := [_, _, _]) rfl rfl rfl rfl rfl <| F5 rfl (fun _ => B2 rfl) (fun _ => rfl) ?_
   intro g7
   refine E9 rfl rfl rfl rfl (G1 rfl (G1 rfl (L7 (by decide) J0))) (fun _ => rfl) ⟨by decide, rfl, dT rfl, Nat.le_refl _⟩ (fun _ => rfl) (fun _ => rfl) (fun _ => (by rfl)) ?_
   intro z
   simp only [J4, List.cons_append, List.nil_append]
   refine xN [1,2,3,4,7] [1,2,3,7] rfl <| A3 <| A3 <| A0 <| A4 rfl rfl <| K9 rfl <| xN [1,2,3,7,46] [1,2,3,7] rfl ?_
   refine A8 rfl ?_ ?_ <;> intro hc <;> try simp only [SL] at hc
   ·have hnl : ∀ ns, foldP p ≠ .lst ns := fun ns e => hc (by rw [e]; rfl)
    refine A3 <| A0 <| C5 rfl rfl rfl rfl rfl <| E9 rfl rfl rfl rfl (G1 rfl (G1 rfl (L7 (by decide) J0))) (fun _ => rfl) ⟨by decide, rfl, dT rfl, Nat.le_refl _⟩ (fun _ => rfl) (fun _ => rfl) (fun _ => (by rfl)) ?_
    intro z
    simp only [J4, List.cons_append, List.nil_append]
    refine xN [2] [2,3] rfl <| C0 <| C8 (F6 rfl rfl rfl rfl (F0 rfl (F0 rfl (J5 rfl rfl (by simp) (fun _ => rfl) H7))) (D9 C4)) ?_
    rw [b3w hnl]
    show _ = AV.agg [tV w, .list [], .list [trV (foldP p)]]
    rfl
   obtain ⟨ms, hp, hvp⟩ := U6 (P0 _ hgd.2.2) (show (foldP p).op = lW by assumption)
   rw [hp]
   refine B5 <| A3 <| A0 <| D4 (es := List.map iV []) rfl rfl (dT rfl) rfl rfl (fun _ => A9 (A7 fun _ => rfl)) (fun _ => rfl) ?_
   intro g48
   (refine B0 rfl rfl (by (simp; done)) rfl (fun _ => (A9 (by exact A7 fun _ => rfl))) (fun _ => rfl) ?_; intro g8)
   refine xN [1,2,3,7,8] [1,2,3,7,8] rfl <| A3 <| A3 <| A0 <| A4 rfl rfl <| N6 rfl rfl <| Y3 rfl rfl <| xN [1,2,3,7,8,51] [1,2,3,7,8] rfl ?_
   refine A8 rfl (fun hc => absurd hc (by exact fun h => Bool.noConfusion (show false = true from h))) (fun hc => ?_)
   refine B5 <| A3 <| A0 <| B1 rfl rfl (dT rfl) rfl rfl <| B4 rfl rfl rfl rfl rfl rfl <| A4 rfl rfl <| F9 rfl rfl rfl rfl (by (simp; done)) (by (simp; done)) rfl <| B1 rfl rfl (dT rfl) rfl rfl <| a1b rfl rfl (by (simp; done)) (fun _ => rfl) rfl rfl <| A4 rfl rfl ?_
   apply xC rfl
   ·apply B3
    ·exact B7 rfl
    apply B3
    ·exact B7 rfl
    apply B3
    ·exact K2 rfl rfl rfl (by (simp; done)) (fun _ => rfl)
    exact D3
   ·exact c4d (bA w) (by omega) ms [] (b9t hvp) c8y
   refine ⟨⟨rfl, rfl, rfl, dT rfl, rfl⟩, .inr ⟨K0 _ _, rfl⟩, B8, I2 (M8 fun _ => I7 rfl M9), fun _ => rfl, fun g64 => ?_⟩
   simp only [List.length_map]
   refine A4 rfl rfl <| B6 rfl rfl rfl <| B6 rfl rfl rfl ?_
   (refine B0 rfl rfl (by (simp; done)) rfl (fun _ => (A9 (by exact A7 fun _ => rfl))) (fun _ => rfl) ?_; intro g9)
   refine A5 rfl rfl rfl ?_
   refine L1 ⟨fun _ => ⟨by (simp only [a1t, List.nil_append, List.append_nil, List.map_cons, List.map_nil, List.cons_append]; decide +kernel), by decide +kernel⟩, [(.t 2, _), (.t 7, _), (.t 9, _), (.t 10, _), (.h 2, _), (.h 7, _), (.h 3, _), (.h 9, _)], ⟨rfl, rfl, rfl, rfl, rfl, rfl, rfl, rfl, rfl, rfl, rfl, rfl, rfl, rfl, rfl, rfl, trivial⟩, ?_⟩
   refine A3 <| A3 <| A0 <| A4 rfl rfl <| K9 rfl <| A4 rfl rfl ?_
   refine E6 rfl rfl ?_ ?_ <;> intro hg0 <;> have hg := hg0 <;> try simp only [SG] at hg
   ·refine A4 rfl rfl <| gT rfl rfl ?_
    obtain ⟨r, hr⟩ := Option.isSome_iff_exists.1 (show (mkR (bA w) ms []).isSome = true by assumption)
    have hraw := c3l hr
    have hrl := (Q9.1 (a8b hr)).1
    rw [hraw]
    apply xC rfl
    ·apply B3
     ·exact K2 rfl rfl rfl (by (simp; done)) (fun _ => rfl)
     exact D3
    ·exact a3y r (by omega)
    refine ⟨⟨rfl, rfl, rfl, dT rfl, rfl⟩, .inr ⟨rfl, rfl⟩, B8, D5 rfl, fun _ => rfl, fun g71 => ?_⟩
    refine gT rfl rfl <| K9 rfl <| H5 rfl (by assumption) rfl rfl <| xN [2,7,9,73] [2,7,3,9] rfl ?_
    refine A8 rfl ?_ ?_ <;> intro hc <;> try simp only [SL] at hc
    ·refine A3 <| A0 <| C5 rfl rfl rfl rfl rfl <| E9 rfl rfl rfl rfl (G1 rfl (G1 rfl (L7 (by decide) J0))) (fun _ => rfl) ⟨by decide, rfl, dT rfl, Nat.le_refl _⟩ (fun _ => rfl) (fun _ => rfl) (fun _ => (by rfl)) ?_
     intro z
     simp only [J4, List.cons_append, List.nil_append]
     refine xN [2] [2,3] rfl <| C0 <| C8 (F6 rfl rfl rfl rfl (F0 rfl (F0 rfl (J5 rfl rfl (by simp) (fun _ => rfl) H7))) (D9 C4)) ?_
     have hx : mkR (bA w) ms [] = none ∨ ∃ r, mkR (bA w) ms [] = some r ∧ vd r = false := by exact .inr ⟨r, hr, by simpa using hc⟩
     rw [a4x hp hx]
     rfl
    refine B5 <| A3 <| A0 <| A4 rfl rfl <| I6 (fs := [_, _, _]) rfl rfl rfl rfl rfl <| E9 rfl rfl rfl rfl (G1 rfl (L7 (by decide) (G1 rfl J0))) (fun _ => rfl) ⟨by decide, rfl, dT rfl, Nat.le_refl _⟩ (fun _ => rfl) (fun _ => rfl) (fun _ => (by rfl)) ?_
    intro z
    simp only [J4, List.cons_append, List.nil_append]
    refine xN [2] [2,9] rfl <| C0 <| C8 (F6 rfl rfl rfl rfl (F0 rfl (J5 rfl rfl (by simp) (fun _ => rfl) (I1 rfl H7))) (D9 C4)) ?_
    rw [b3z hp hr (by simpa using hc)]
    rfl
   refine gF rfl rfl <| gF rfl rfl <| G5 rfl (by assumption) rfl rfl <| xN [2,7,9,73] [2,7,3,9] rfl ?_
   refine A8 rfl (fun hc => ?_) (fun hc => absurd hc (by decide))
   refine A3 <| A0 <| C5 rfl rfl rfl rfl rfl <| E9 rfl rfl rfl rfl (G1 rfl (G1 rfl (L7 (by decide) J0))) (fun _ => rfl) ⟨by decide, rfl, dT rfl, Nat.le_refl _⟩ (fun _ => rfl) (fun _ => rfl) (fun _ => (by rfl)) ?_
   intro z
   simp only [J4, List.cons_append, List.nil_append]
   refine xN [2] [2,3] rfl <| C0 <| C8 (F6 rfl rfl rfl rfl (F0 rfl (F0 rfl (J5 rfl rfl (by simp) (fun _ => rfl) H7))) (D9 C4)) ?_
   have hx : mkR (bA w) ms [] = none ∨ ∃ r, mkR (bA w) ms [] = some r ∧ vd r = false := by exact .inl (by simpa using hg)
   rw [a4x hp hx]
   rfl
  rw [b6b]
  have hsz1 : (Pl.bin w p q).sz = p.sz + q.sz + 1 := rfl
  have hn : nd (bA w) = 2 := (S4 (by have h := hwf.1; omega)).trans hwf.1
  refine F5 rfl (fun _ => B2 rfl) (fun _ => rfl) ?_
  intro g2
  refine xN [1,2] [1,2] rfl <| A3 <| A0 <| D4 (es := List.map trV []) rfl rfl (dT rfl) rfl rfl (fun _ => A9 (A7 fun _ => rfl)) (fun _ => rfl) ?_
  intro g11
  (refine B0 rfl rfl (by (simp; done)) rfl (fun _ => (A9 (by exact A7 fun _ => rfl))) (fun _ => rfl) ?_; intro g3)
  refine xN [1,2,3] [1,2,3] rfl <| A3 <| A0 <| B1 rfl rfl (dT rfl) rfl rfl <| B4 rfl rfl rfl rfl rfl rfl <| D6 rfl rfl <| P1 rfl rfl <| A5 rfl rfl rfl <| xN [1,2,3,4] [1,2,3] rfl <| A3 <| A3 <| A0 <| A5 rfl rfl rfl <| xN [1,2,3,4,5] [1,2,3] rfl <| C1 <| G6 <| A3 <| A3 <| A0 <| A4 rfl rfl <| B1 rfl rfl (dT rfl) rfl rfl <| B4 rfl rfl rfl rfl rfl rfl <| D6 rfl rfl <| H2 rfl rfl <| xN [1,2,3,4,5,20] [1,2,3] rfl ?_
  refine A8 rfl (fun hc => ?_) (fun hc => absurd hc (by exact fun h => Bool.noConfusion (show true = false from h)))
  refine B5 <| A3 <| C1 <| A3 <| A0 <| B1 rfl rfl (dT rfl) rfl rfl <| B4 rfl rfl rfl rfl rfl rfl <| A4 rfl rfl <| L9 rfl rfl rfl (fun _ => rfl) (by show (0 : Int) ≤ 0 ∧ (0 : Int) < ((2 : Nat) : Int); omega) <| C6 rfl rfl rfl ?_
  apply xC rfl
  ·apply B3
   ·exact B7 rfl
   exact D3
  ·exact (by have hi := ih p hgd.2.2.1 hwf.2.1 (by omega) (by omega); rw [← Z3] at hi; exact hi)
  refine ⟨⟨rfl, rfl, rfl, dT rfl, rfl⟩, .inl rfl, B8, D5 rfl, fun _ => rfl, fun g28 => ?_⟩
  refine F5 rfl (fun _ => B2 rfl) (fun _ => rfl) ?_
  intro g6
  refine C2 rfl rfl rfl rfl ⟨by decide, rfl, dT rfl, dT rfl, rfl⟩ rfl (by exact B2 rfl) <| xN [1,2,3,4,5,6] [1,2,3,6] rfl <| A3 <| A0 <| A4 rfl rfl <| A4 rfl rfl <| J1 rfl rfl rfl <| B1 rfl rfl (dT rfl) rfl rfl <| J1 rfl rfl rfl <| B4 rfl rfl rfl rfl rfl rfl <| J1 rfl rfl rfl <| a1m rfl rfl <| G5 rfl rfl rfl rfl <| A5 rfl rfl rfl <| xN [1,2,3,4,5,6] [1,2,3,6] rfl <| A0 <| A4 rfl rfl <| C5 rfl rfl rfl rfl rfl <| D4 (es := List.map trV [_]) rfl rfl (dT rfl) rfl rfl (fun _ => A9 (A7 fun _ => rfl)) (fun _ => rfl) ?_
  intro g37
  refine F7 rfl rfl rfl rfl (by (simp; done)) (by simp) (by decide) rfl rfl rfl rfl (dT rfl) (fun _ => ⟨rfl, rfl⟩) (by simp only [H6]; (simp only [List.length_nil, List.length_cons, List.length_append, Nat.zero_add, List.length_map]; omega)) (fun _ => rfl) ?_
  intro g38
  (refine B0 rfl rfl (by (simp; done)) rfl (fun _ => (A9 (by exact A7 fun _ => rfl))) (fun _ => rfl) ?_; intro g3)
  refine xN [1,2,3,4,5] [1,2,3] rfl <| A0 <| A4 rfl rfl <| H0 rfl rfl (F3 (by omega)) <| A5 rfl rfl rfl <| xN [1,2,3,4,5] [1,2,3] rfl <| G6 <| A3 <| A3 <| A0 <| A4 rfl rfl <| B1 rfl rfl (dT rfl) rfl rfl <| B4 rfl rfl rfl rfl rfl rfl <| D6 rfl rfl <| H2 rfl rfl <| xN [1,2,3,4,5,20] [1,2,3] rfl ?_
  refine A8 rfl (fun hc => ?_) (fun hc => absurd hc (by exact fun h => Bool.noConfusion (show true = false from h)))
  refine B5 <| A3 <| C1 <| A3 <| A0 <| B1 rfl rfl (dT rfl) rfl rfl <| B4 rfl rfl rfl rfl rfl rfl <| A4 rfl rfl <| L9 rfl rfl rfl (fun _ => rfl) (by show (0 : Int) ≤ 1 ∧ (1 : Int) < ((2 : Nat) : Int); omega) <| C6 rfl rfl rfl ?_
  apply xC rfl
  ·apply B3
   ·exact B7 rfl
   exact D3
  ·exact (by have hi := ih q hgd.2.2.2 hwf.2.2 (by omega) (by omega); rw [← Z3] at hi; exact hi)
  refine ⟨⟨rfl, rfl, rfl, dT rfl, rfl⟩, .inl rfl, B8, D5 rfl, fun _ => rfl, fun g28 => ?_⟩
  refine F5 rfl (fun _ => B2 rfl) (fun _ => rfl) ?_
  intro g6
  refine C2 rfl rfl rfl rfl ⟨by decide, rfl, dT rfl, dT rfl, rfl⟩ rfl (by exact B2 rfl) <| xN [1,2,3,4,5,6] [1,2,3,6] rfl <| A3 <| A0 <| A4 rfl rfl <| A4 rfl rfl ?_
  refine E6 rfl rfl ?_ ?_ <;> intro hg0 <;> have hg := hg0 <;> try simp only [SG] at hg
  ·refine B1 rfl rfl (dT rfl) rfl rfl <| gT rfl rfl <| B4 rfl rfl rfl rfl rfl rfl <| gT rfl rfl <| a1m rfl rfl <| G5 rfl (by assumption) rfl rfl <| A5 rfl rfl rfl <| xN [1,2,3,4,5,6] [1,2,3,6] rfl <| A0 <| A4 rfl rfl <| C5 rfl rfl rfl rfl rfl <| D4 (es := List.map trV [_]) rfl rfl (dT rfl) rfl rfl (fun _ => A9 (A7 fun _ => rfl)) (fun _ => rfl) ?_
   intro g37
   refine F7 rfl rfl rfl rfl (by (simp; done)) (by simp) (by decide) rfl rfl rfl rfl (dT rfl) (fun _ => ⟨rfl, rfl⟩) (by simp only [H6]; (simp only [List.length_nil, List.length_cons, List.length_append, Nat.zero_add, List.length_map]; omega)) (fun _ => rfl) ?_
   intro g38
   (refine B0 rfl rfl (by (simp; done)) rfl (fun _ => (A9 (by exact A7 fun _ => rfl))) (fun _ => rfl) ?_; intro g3)
   refine xN [1,2,3,4,5] [1,2,3] rfl <| A0 <| A4 rfl rfl <| H0 rfl rfl (F3 (by omega)) <| A5 rfl rfl rfl <| xN [1,2,3,4,5] [1,2,3] rfl <| G6 <| A3 <| A3 <| A0 <| A4 rfl rfl <| B1 rfl rfl (dT rfl) rfl rfl <| B4 rfl rfl rfl rfl rfl rfl <| D6 rfl rfl <| H2 rfl rfl <| xN [1,2,3,4,5,20] [1,2,3] rfl ?_
   refine A8 rfl (fun hc => absurd hc (by exact fun h => Bool.noConfusion (show false = true from h))) (fun hc => ?_)
   refine G4 <| A3 <| A0 <| B1 rfl rfl (dT rfl) rfl rfl <| B4 rfl rfl rfl rfl rfl rfl <| B1 rfl rfl (dT rfl) rfl rfl <| B4 rfl rfl rfl rfl rfl rfl <| A4 rfl rfl <| I6 (fs := [_, _, _]) rfl rfl rfl rfl rfl <| F5 rfl (fun _ => B2 rfl) (fun _ => rfl) ?_
   intro g7
   refine E9 rfl rfl rfl rfl (G1 rfl (G1 rfl (L7 (by decide) J0))) (fun _ => rfl) ⟨by decide, rfl, dT rfl, Nat.le_refl _⟩ (fun _ => rfl) (fun _ => rfl) (fun _ => (by rfl)) ?_
   intro z
   simp only [J4, List.cons_append, List.nil_append]
   refine xN [1,2,3,4,7] [1,2,3,7] rfl <| A3 <| A3 <| A0 <| A4 rfl rfl <| K9 rfl <| xN [1,2,3,7,46] [1,2,3,7] rfl ?_
   refine A8 rfl ?_ ?_ <;> intro hc <;> try simp only [SL] at hc
   ·have hnl : (∀ ns, foldP p ≠ .lst ns) ∨ ∀ ns, foldP q ≠ .lst ns := .inr fun ns e => hc (by rw [e]; rfl)
    refine A3 <| A0 <| C5 rfl rfl rfl rfl rfl <| E9 rfl rfl rfl rfl (G1 rfl (G1 rfl (L7 (by decide) J0))) (fun _ => rfl) ⟨by decide, rfl, dT rfl, Nat.le_refl _⟩ (fun _ => rfl) (fun _ => rfl) (fun _ => (by rfl)) ?_
    intro z
    simp only [J4, List.cons_append, List.nil_append]
    refine xN [2] [2,3] rfl <| C0 <| C8 (F6 rfl rfl rfl rfl (F0 rfl (F0 rfl (J5 rfl rfl (by simp) (fun _ => rfl) H7))) (D9 C4)) ?_
    rw [a2j hnl]
    show _ = AV.agg [tV w, .list [], .list [trV (foldP p), trV (foldP q)]]
    rfl
   obtain ⟨ms, hp, hvp⟩ := U6 (P0 _ hgd.2.2.1) (show (foldP p).op = lW by assumption)
   rw [hp]
   obtain ⟨ls, hq, hvq⟩ := U6 (P0 _ hgd.2.2.2) (show (foldP q).op = lW by assumption)
   rw [hq]
   refine B5 <| A3 <| A0 <| D4 (es := List.map iV []) rfl rfl (dT rfl) rfl rfl (fun _ => A9 (A7 fun _ => rfl)) (fun _ => rfl) ?_
   intro g48
   (refine B0 rfl rfl (by (simp; done)) rfl (fun _ => (A9 (by exact A7 fun _ => rfl))) (fun _ => rfl) ?_; intro g8)
   refine xN [1,2,3,7,8] [1,2,3,7,8] rfl <| A3 <| A3 <| A0 <| A4 rfl rfl <| N6 rfl rfl <| Y3 rfl rfl <| xN [1,2,3,7,8,51] [1,2,3,7,8] rfl ?_
   refine A8 rfl (fun hc => ?_) (fun hc => absurd hc (by exact fun h => Bool.noConfusion (show true = false from h)))
   refine A0 <| A4 rfl rfl <| F9 rfl rfl rfl rfl (by (simp; done)) (by (simp; done)) rfl <| B1 rfl rfl (dT rfl) rfl rfl <| a1b rfl rfl (by (simp; done)) (fun _ => rfl) rfl rfl <| A5 rfl rfl rfl <| xN [1,2,3,7,8] [1,2,3,7,8] rfl <| A3 <| A0 <| B1 rfl rfl (dT rfl) rfl rfl <| B4 rfl rfl rfl rfl rfl rfl <| A4 rfl rfl <| F9 rfl rfl rfl rfl (by (simp; done)) (by (simp; done)) rfl <| B1 rfl rfl (dT rfl) rfl rfl <| a1b rfl rfl (by (simp; done)) (fun _ => rfl) rfl rfl <| A4 rfl rfl ?_
   apply xC rfl
   ·apply B3
    ·exact B7 rfl
    apply B3
    ·exact B7 rfl
    apply B3
    ·exact B7 rfl
    exact D3
   ·exact c4d (bA w) (by omega) ms ls (b9t hvp) (b9t hvq)
   refine ⟨⟨rfl, rfl, rfl, dT rfl, rfl⟩, .inr ⟨K0 _ _, rfl⟩, B8, I2 (M8 fun _ => I7 rfl M9), fun _ => rfl, fun g64 => ?_⟩
   simp only [List.length_map]
   refine A4 rfl rfl <| B6 rfl rfl rfl <| B6 rfl rfl rfl ?_
   (refine B0 rfl rfl (by (simp; done)) rfl (fun _ => (A9 (by exact A7 fun _ => rfl))) (fun _ => rfl) ?_; intro g9)
   refine A5 rfl rfl rfl ?_
   refine L1 ⟨fun _ => ⟨by (simp only [a1t, List.nil_append, List.append_nil, List.map_cons, List.map_nil, List.cons_append]; decide +kernel), by decide +kernel⟩, [(.t 2, _), (.t 7, _), (.t 9, _), (.t 10, _), (.h 2, _), (.h 7, _), (.h 3, _), (.h 9, _)], ⟨rfl, rfl, rfl, rfl, rfl, rfl, rfl, rfl, rfl, rfl, rfl, rfl, rfl, rfl, rfl, rfl, trivial⟩, ?_⟩
   refine A3 <| A3 <| A0 <| A4 rfl rfl <| K9 rfl <| A4 rfl rfl ?_
   refine E6 rfl rfl ?_ ?_ <;> intro hg0 <;> have hg := hg0 <;> try simp only [SG] at hg
   ·refine A4 rfl rfl <| gT rfl rfl ?_
    obtain ⟨r, hr⟩ := Option.isSome_iff_exists.1 (show (mkR (bA w) ms ls).isSome = true by assumption)
    have hraw := c3l hr
    have hrl := (Q9.1 (a8b hr)).1
    rw [hraw]
    apply xC rfl
    ·apply B3
     ·exact K2 rfl rfl rfl (by (simp; done)) (fun _ => rfl)
     exact D3
    ·exact a3y r (by omega)
    refine ⟨⟨rfl, rfl, rfl, dT rfl, rfl⟩, .inr ⟨rfl, rfl⟩, B8, D5 rfl, fun _ => rfl, fun g71 => ?_⟩
    refine gT rfl rfl <| K9 rfl <| H5 rfl (by assumption) rfl rfl <| xN [2,7,9,73] [2,7,3,9] rfl ?_
    refine A8 rfl ?_ ?_ <;> intro hc <;> try simp only [SL] at hc
    ·refine A3 <| A0 <| C5 rfl rfl rfl rfl rfl <| E9 rfl rfl rfl rfl (G1 rfl (G1 rfl (L7 (by decide) J0))) (fun _ => rfl) ⟨by decide, rfl, dT rfl, Nat.le_refl _⟩ (fun _ => rfl) (fun _ => rfl) (fun _ => (by rfl)) ?_
     intro z
     simp only [J4, List.cons_append, List.nil_append]
     refine xN [2] [2,3] rfl <| C0 <| C8 (F6 rfl rfl rfl rfl (F0 rfl (F0 rfl (J5 rfl rfl (by simp) (fun _ => rfl) H7))) (D9 C4)) ?_
     have hx : mkR (bA w) ms ls = none ∨ ∃ r, mkR (bA w) ms ls = some r ∧ vd r = false := by exact .inr ⟨r, hr, by simpa using hc⟩
     rw [a2b hp hq hx]
     rfl
    refine B5 <| A3 <| A0 <| A4 rfl rfl <| I6 (fs := [_, _, _]) rfl rfl rfl rfl rfl <| E9 rfl rfl rfl rfl (G1 rfl (L7 (by decide) (G1 rfl J0))) (fun _ => rfl) ⟨by decide, rfl, dT rfl, Nat.le_refl _⟩ (fun _ => rfl) (fun _ => rfl) (fun _ => (by rfl)) ?_
    intro z
    simp only [J4, List.cons_append, List.nil_append]
    refine xN [2] [2,9] rfl <| C0 <| C8 (F6 rfl rfl rfl rfl (F0 rfl (J5 rfl rfl (by simp) (fun _ => rfl) (I1 rfl H7))) (D9 C4)) ?_
    rw [b1j hp hq hr (by simpa using hc)]
    rfl
   refine gF rfl rfl <| gF rfl rfl <| G5 rfl (by assumption) rfl rfl <| xN [2,7,9,73] [2,7,3,9] rfl ?_
   refine A8 rfl (fun hc => ?_) (fun hc => absurd hc (by decide))
   refine A3 <| A0 <| C5 rfl rfl rfl rfl rfl <| E9 rfl rfl rfl rfl (G1 rfl (G1 rfl (L7 (by decide) J0))) (fun _ => rfl) ⟨by decide, rfl, dT rfl, Nat.le_refl _⟩ (fun _ => rfl) (fun _ => rfl) (fun _ => (by rfl)) ?_
   intro z
   simp only [J4, List.cons_append, List.nil_append]
   refine xN [2] [2,3] rfl <| C0 <| C8 (F6 rfl rfl rfl rfl (F0 rfl (F0 rfl (J5 rfl rfl (by simp) (fun _ => rfl) H7))) (D9 C4)) ?_
   have hx : mkR (bA w) ms ls = none ∨ ∃ r, mkR (bA w) ms ls = some r ∧ vd r = false := by exact .inl (by simpa using hg)
   rw [a2b hp hq hx]
   rfl
  refine gF rfl rfl <| gF rfl rfl <| H5 rfl (by assumption) rfl rfl <| A5 rfl rfl rfl <| xN [1,2,3,4,5,6] [1,2,3,6] rfl <| A0 <| A4 rfl rfl <| C5 rfl rfl rfl rfl rfl <| D4 (es := List.map trV [_]) rfl rfl (dT rfl) rfl rfl (fun _ => A9 (A7 fun _ => rfl)) (fun _ => rfl) ?_
  intro g37
  refine F7 rfl rfl rfl rfl (by (simp; done)) (by simp) (by decide) rfl rfl rfl rfl (dT rfl) (fun _ => ⟨rfl, rfl⟩) (by simp only [H6]; (simp only [List.length_nil, List.length_cons, List.length_append, Nat.zero_add, List.length_map]; omega)) (fun _ => rfl) ?_
  intro g38
  (refine B0 rfl rfl (by (simp; done)) rfl (fun _ => (A9 (by exact A7 fun _ => rfl))) (fun _ => rfl) ?_; intro g3)
  refine xN [1,2,3,4,5] [1,2,3] rfl <| A0 <| A4 rfl rfl <| H0 rfl rfl (F3 (by omega)) <| A5 rfl rfl rfl <| xN [1,2,3,4,5] [1,2,3] rfl <| G6 <| A3 <| A3 <| A0 <| A4 rfl rfl <| B1 rfl rfl (dT rfl) rfl rfl <| B4 rfl rfl rfl rfl rfl rfl <| D6 rfl rfl <| H2 rfl rfl <| xN [1,2,3,4,5,20] [1,2,3] rfl ?_
  refine A8 rfl (fun hc => absurd hc (by exact fun h => Bool.noConfusion (show false = true from h))) (fun hc => ?_)
  refine G4 <| A3 <| A0 <| B1 rfl rfl (dT rfl) rfl rfl <| B4 rfl rfl rfl rfl rfl rfl <| B1 rfl rfl (dT rfl) rfl rfl <| B4 rfl rfl rfl rfl rfl rfl <| A4 rfl rfl <| I6 (fs := [_, _, _]) rfl rfl rfl rfl rfl <| F5 rfl (fun _ => B2 rfl) (fun _ => rfl) ?_
  intro g7
  refine E9 rfl rfl rfl rfl (G1 rfl (G1 rfl (L7 (by decide) J0))) (fun _ => rfl) ⟨by decide, rfl, dT rfl, Nat.le_refl _⟩ (fun _ => rfl) (fun _ => rfl) (fun _ => (by rfl)) ?_
  intro z
  simp only [J4, List.cons_append, List.nil_append]
  refine xN [1,2,3,4,7] [1,2,3,7] rfl <| A3 <| A3 <| A0 <| A4 rfl rfl <| K9 rfl <| xN [1,2,3,7,46] [1,2,3,7] rfl ?_
  refine A8 rfl (fun hc => ?_) (fun hc => absurd hc (by decide))
  refine A3 <| A0 <| C5 rfl rfl rfl rfl rfl <| E9 rfl rfl rfl rfl (G1 rfl (G1 rfl (L7 (by decide) J0))) (fun _ => rfl) ⟨by decide, rfl, dT rfl, Nat.le_refl _⟩ (fun _ => rfl) (fun _ => rfl) (fun _ => (by rfl)) ?_
  intro z
  simp only [J4, List.cons_append, List.nil_append]
  refine xN [2] [2,3] rfl <| C0 <| C8 (F6 rfl rfl rfl rfl (F0 rfl (F0 rfl (J5 rfl rfl (by simp) (fun _ => rfl) H7))) (D9 C4)) ?_
  rw [a2j (.inl fun ns e => hg (by rw [e]; rfl))]
  show _ = AV.agg [tV w, .list [], .list [trV (foldP p), trV (foldP q)]]
  rfl

theorem keep_s_foldI : G8 Tryz.f118 = [0, 2, 1, 22, 21, 23, 20, 6, 7, 4, 3, 41, 8, 9, 51, 27, 38, 50] := by kernel_rfl
set_option maxHeartbeats 20000000 in
theorem d1e (t : Pl) (hgd : t.good) (hwf : t.wf) (hsz : t.sz ≤ 1000) : CW (cxT oG) 118 [trK t] = some (trV (foldP t), []) := by
 obtain ⟨kk, hkk⟩ : ∃ kk : Nat, t.sz < kk := ⟨_, Nat.lt_succ_self _⟩
 revert t
 induction kk with
 | zero => intro t hgd hwf hsz hkk; exact absurd hkk (Nat.not_lt_zero _)
 | succ kk ih =>
  intro t hgd hwf hsz hkk
  refine G3 rfl Tryz.func118 rfl ⟨by kernel_rfl, rfl, dT rfl, dT rfl, by decide⟩ keep_s_foldI <| A3 <| A0 <| a5g rfl rfl rfl (fun _ => B2 rfl) (fun _ => rfl) ?_
  intro g1
  rcases t with ns | w | ⟨w, p⟩ | ⟨w, p, q⟩
  ·rw [b5h]
    
   refine F5 rfl (fun _ => B2 rfl) (fun _ => rfl) ?_
   intro g2
   refine xN [1,2] [1,2] rfl <| A3 <| A0 <| B1 rfl rfl (dT rfl) rfl rfl <| B4 rfl rfl rfl rfl rfl rfl <| B1 rfl rfl (dT rfl) rfl rfl <| B4 rfl rfl rfl rfl rfl rfl <| I6 (fs := [_, _, _]) rfl rfl rfl rfl rfl <| F5 rfl (fun _ => B2 rfl) (fun _ => rfl) ?_
   intro g3
   refine C2 rfl rfl rfl rfl ⟨by decide, rfl, dT rfl, dT rfl, rfl⟩ rfl (by exact B2 rfl) <| xN [1,2,3] [1,2,3] rfl <| A3 <| A0 <| B1 rfl rfl (dT rfl) rfl rfl <| B4 rfl rfl rfl rfl rfl rfl <| D6 rfl rfl <| P1 rfl rfl <| A5 rfl rfl rfl <| xN [1,2,3,4] [1,2,3] rfl <| A3 <| A3 <| A0 <| B1 rfl rfl (dT rfl) rfl rfl <| B4 rfl rfl rfl rfl rfl rfl <| D6 rfl rfl <| A4 rfl rfl <| xN [2,3,4,20,21,22] [2,3] rfl <| C1 <| G6 <| A3 <| A0 <| H2 rfl rfl <| xN [2,3,4,20,21,22,23] [2,3] rfl <| A3 ?_
   refine A8 rfl (fun hc => absurd hc (by decide)) (fun hc => ?_)
   refine G4 <| A3 <| A3 <| A0 <| A4 rfl rfl <| xN [2,3,41] [2,3] rfl ?_
   refine A8 rfl (fun hc => absurd hc (by decide)) (fun hc => ?_)
   refine B5 <| A3 <| A0 <| C5 rfl rfl rfl rfl rfl <| C2 rfl rfl rfl rfl ⟨by decide, rfl, dT rfl, dT rfl, rfl⟩ rfl (by exact B2 rfl) <| xN [2] [2] rfl <| C0 <| C8 (F6 rfl rfl rfl rfl (F0 rfl (F0 rfl (I1 rfl H7))) (D9 C4)) ?_
   rfl
  ·rw [b5s]
    
   refine F5 rfl (fun _ => B2 rfl) (fun _ => rfl) ?_
   intro g2
   refine xN [1,2] [1,2] rfl <| A3 <| A0 <| B1 rfl rfl (dT rfl) rfl rfl <| B4 rfl rfl rfl rfl rfl rfl <| B1 rfl rfl (dT rfl) rfl rfl <| B4 rfl rfl rfl rfl rfl rfl <| I6 (fs := [_, _, _]) rfl rfl rfl rfl rfl <| F5 rfl (fun _ => B2 rfl) (fun _ => rfl) ?_
   intro g3
   refine C2 rfl rfl rfl rfl ⟨by decide, rfl, dT rfl, dT rfl, rfl⟩ rfl (by exact B2 rfl) <| xN [1,2,3] [1,2,3] rfl <| A3 <| A0 <| B1 rfl rfl (dT rfl) rfl rfl <| B4 rfl rfl rfl rfl rfl rfl <| D6 rfl rfl <| P1 rfl rfl <| A5 rfl rfl rfl <| xN [1,2,3,4] [1,2,3] rfl <| A3 <| A3 <| A0 <| B1 rfl rfl (dT rfl) rfl rfl <| B4 rfl rfl rfl rfl rfl rfl <| D6 rfl rfl <| A4 rfl rfl <| xN [2,3,4,20,21,22] [2,3] rfl <| C1 <| G6 <| A3 <| A0 <| H2 rfl rfl <| xN [2,3,4,20,21,22,23] [2,3] rfl <| A3 ?_
   refine A8 rfl (fun hc => absurd hc (by decide)) (fun hc => ?_)
   refine G4 <| A3 <| A3 <| A0 <| A4 rfl rfl <| xN [2,3,41] [2,3] rfl ?_
   refine A8 rfl (fun hc => absurd hc (by decide)) (fun hc => ?_)
   refine B5 <| A3 <| A0 <| C5 rfl rfl rfl rfl rfl <| C2 rfl rfl rfl rfl ⟨by decide, rfl, dT rfl, dT rfl, rfl⟩ rfl (by exact B2 rfl) <| xN [2] [2] rfl <| C0 <| C8 (F6 rfl rfl rfl rfl (F0 rfl (F0 rfl (I1 rfl H7))) (D9 C4)) ?_
   rfl
  ·rw [c2f]
   have hsz1 : (Pl.un w p).sz = p.sz + 1 := rfl
   have hn : nd (bA w) = 1 := (S4 (by have h := hwf.1; omega)).trans hwf.1
   refine F5 rfl (fun _ => B2 rfl) (fun _ => rfl) ?_
   intro g2
   refine xN [1,2] [1,2] rfl <| A3 <| A0 <| B1 rfl rfl (dT rfl) rfl rfl <| B4 rfl rfl rfl rfl rfl rfl <| B1 rfl rfl (dT rfl) rfl rfl <| B4 rfl rfl rfl rfl rfl rfl <| I6 (fs := [_, _, _]) rfl rfl rfl rfl rfl <| F5 rfl (fun _ => B2 rfl) (fun _ => rfl) ?_
   intro g3
   refine C2 rfl rfl rfl rfl ⟨by decide, rfl, dT rfl, dT rfl, rfl⟩ rfl (by exact B2 rfl) <| xN [1,2,3] [1,2,3] rfl <| A3 <| A0 <| B1 rfl rfl (dT rfl) rfl rfl <| B4 rfl rfl rfl rfl rfl rfl <| D6 rfl rfl <| P1 rfl rfl <| A5 rfl rfl rfl <| xN [1,2,3,4] [1,2,3] rfl <| A3 <| A3 <| A0 <| B1 rfl rfl (dT rfl) rfl rfl <| B4 rfl rfl rfl rfl rfl rfl <| D6 rfl rfl <| A4 rfl rfl <| xN [2,3,4,20,21,22] [2,3] rfl <| C1 <| G6 <| A3 <| A0 <| H2 rfl rfl <| xN [2,3,4,20,21,22,23] [2,3] rfl <| A3 ?_
   refine A8 rfl (fun hc => ?_) (fun hc => absurd hc (by exact fun h => Bool.noConfusion (show true = false from h)))
   refine B5 <| A3 <| C1 <| A3 <| A0 <| L9 rfl rfl rfl (fun _ => rfl) (by show (0 : Int) ≤ 0 ∧ (0 : Int) < ((1 : Nat) : Int); omega) <| C6 rfl rfl rfl <| F5 rfl (fun _ => B2 rfl) (fun _ => rfl) ?_
   intro g6
   refine C2 rfl rfl rfl rfl ⟨by decide, rfl, dT rfl, dT rfl, rfl⟩ rfl (by exact B2 rfl) <| xN [2,3,4,6,20,21,22] [2,3,6] rfl <| A3 <| A0 <| C5 rfl rfl rfl rfl rfl ?_
   apply xC rfl
   ·apply B3
    ·exact B7 rfl
    exact D3
   ·exact (by have hi := ih p hgd.2.2 hwf.2 (by omega) (by omega); rw [← Z3] at hi; exact hi)
   refine ⟨⟨rfl, rfl, rfl, dT rfl, rfl⟩, .inl rfl, B8, D5 rfl, fun _ => rfl, fun g27 => ?_⟩
   refine F5 rfl (fun _ => B2 rfl) (fun _ => rfl) ?_
   intro g7
   refine C2 rfl rfl rfl rfl ⟨by decide, rfl, dT rfl, dT rfl, rfl⟩ rfl (by exact B2 rfl) <| xN [2,3,4,7,20,21,22] [2,3,7] rfl <| A3 <| A0 <| A4 rfl rfl <| A4 rfl rfl <| J1 rfl rfl rfl <| B1 rfl rfl (dT rfl) rfl rfl <| J1 rfl rfl rfl <| B4 rfl rfl rfl rfl rfl rfl <| J1 rfl rfl rfl <| a1m rfl rfl <| G5 rfl rfl rfl rfl <| A5 rfl rfl rfl <| xN [2,3,4,7,20,21,22] [2,3,7] rfl <| A0 <| B1 rfl rfl (dT rfl) rfl rfl <| B4 rfl rfl rfl rfl rfl rfl <| C5 rfl rfl rfl rfl rfl <| D4 (es := List.map trV [_]) rfl rfl (dT rfl) rfl rfl (fun _ => A9 (A7 fun _ => rfl)) (fun _ => rfl) ?_
   intro g37
   refine P8 rfl rfl rfl (by simp) (by decide) rfl rfl rfl (dT rfl) (fun _ => ⟨rfl, rfl⟩) (by simp only [H6]; (simp only [List.length_nil, List.length_cons, List.length_append, Nat.zero_add, List.length_map]; omega)) (fun _ => rfl) ?_
   intro g38
   refine B1 rfl rfl (dT rfl) rfl rfl <| L8 rfl rfl rfl rfl rfl (Nat.le_refl _) rfl <| xN [2,3,4,20,21,22] [2,3,1000038] rfl <| A0 <| H0 rfl rfl (F3 (by omega)) <| A4 rfl rfl <| xN [2,3,4,20,21,22] [2,3,1000038] rfl <| G6 <| A3 <| A0 <| H2 rfl rfl <| xN [2,3,4,20,21,22,23] [2,3,1000038] rfl <| A3 ?_
   refine A8 rfl (fun hc => absurd hc (by exact fun h => Bool.noConfusion (show false = true from h))) (fun hc => ?_)
   refine G4 <| A3 <| A3 <| A0 <| A4 rfl rfl <| xN [2,3,41] [2,3,1000038] rfl ?_
   refine A8 rfl ?_ ?_ <;> intro hc <;> try simp only [SL] at hc
   ·obtain ⟨ms, hp, hvp⟩ := U6 (P0 _ hgd.2.2) (show (foldP p).op = lW by assumption)
    rw [hp]
    refine A3 <| A0 <| C5 rfl rfl rfl rfl rfl ?_
    apply xC rfl
    ·apply B3
     ·exact c8q (dT rfl) (c8m (c3z (c8t rfl rfl (by simp) (fun _ => rfl) c7f)))
     apply B3
     ·exact c3w (dT rfl)
     exact D3
    ·exact (by have hi := c6j (oG := oG) (.un w (.lst ms)) ⟨hgd.1, hgd.2.1, hvp⟩ ⟨hwf.1, trivial⟩ [] rfl (by simp) (by simp); exact hi)
    refine ⟨⟨rfl, rfl, rfl, dT rfl, rfl⟩, .inr ⟨K0 _ _, rfl⟩, B8, I2 (M8 fun _ => I7 rfl M9), fun _ => rfl, fun g44 => ?_⟩
    simp only [List.length_map]
    rw [show a1q [] (.un w (.lst ms)) = mkR (bA w) ms [] from rfl]
    refine A4 rfl rfl <| B6 rfl rfl rfl <| B6 rfl rfl rfl ?_
    (refine B0 rfl rfl (by (simp; done)) rfl (fun _ => (A9 (by exact A7 fun _ => rfl))) (fun _ => rfl) ?_; intro g8)
    refine A5 rfl rfl rfl <| xN [2,3,8,9] [2,3,1000038,8] rfl <| A3 <| A0 <| A4 rfl rfl <| A4 rfl rfl ?_
    refine E6 rfl rfl ?_ ?_ <;> intro hg0 <;> have hg := hg0 <;> try simp only [SG] at hg
    ·refine A4 rfl rfl <| gT rfl rfl ?_
     obtain ⟨r, hr⟩ := Option.isSome_iff_exists.1 (show (mkR (bA w) ms []).isSome = true by assumption)
     have hrl := (Q9.1 (a8b hr)).1
     rw [hr, Option.getD_some]
     apply xC rfl
     ·apply B3
      ·exact K2 rfl rfl rfl (by (simp; done)) (fun _ => rfl)
      exact D3
     ·exact Z5 r (by omega)
     refine ⟨⟨rfl, rfl, rfl, dT rfl, rfl⟩, .inr ⟨rfl, rfl⟩, B8, D5 rfl, fun _ => rfl, fun g50 => ?_⟩
     refine G5 rfl rfl rfl rfl <| xN [2,3,8,51] [2,3,1000038,8] rfl ?_
     refine A8 rfl ?_ ?_ <;> intro hc <;> try simp only [SL] at hc
     ·refine A3 <| A0 <| A4 rfl rfl <| I6 (fs := [_, _, _]) rfl rfl rfl rfl rfl <| E9 rfl rfl rfl rfl (G1 rfl (L7 (by decide) (G1 rfl J0))) (fun _ => rfl) ⟨by decide, rfl, dT rfl, Nat.le_refl _⟩ (fun _ => rfl) (fun _ => rfl) (fun _ => (by rfl)) ?_
      intro z
      simp only [J4, List.cons_append, List.nil_append]
      refine xN [2] [2,8] rfl <| C0 <| C8 (F6 rfl rfl rfl rfl (F0 rfl (J5 rfl rfl (by simp) (fun _ => rfl) (I1 rfl H7))) (D9 C4)) ?_
      rw [b3z hp hr (by simpa using hc)]
      rfl
     refine B5 <| A3 <| A0 <| C5 rfl rfl rfl rfl rfl <| E9 rfl rfl rfl rfl (G1 rfl (G1 rfl (V7 (by decide) (by decide) rfl (by simp) fun _ => J0))) (fun _ => rfl) ⟨by decide, rfl, dT rfl, Nat.le_refl _⟩ (fun _ => rfl) (fun _ => rfl) (fun _ => C9 (by rfl) (C9 (A9 (A7 fun _ => rfl)) (by rfl))) ?_
     intro z
     simp only [J4, List.cons_append, List.nil_append]
     refine xN [2] [2,300002] rfl <| C0 <| C8 (F6 rfl rfl rfl rfl (F0 rfl (F0 rfl (J5 rfl rfl (by simp) (fun _ => rfl) H7))) (D9 C4)) ?_
     (have hx : mkR (bA w) ms [] = none ∨ ∃ r, mkR (bA w) ms [] = some r ∧ vd r = false := (by exact .inr ⟨r, hr, by simpa using hc⟩); rw [a4x hp hx]; rfl)
    refine gF rfl rfl <| H5 rfl (by assumption) rfl rfl <| xN [2,3,8,51] [2,3,1000038,8] rfl ?_
    refine A8 rfl (fun hc => absurd hc (by decide)) (fun hc => ?_)
    refine B5 <| A3 <| A0 <| C5 rfl rfl rfl rfl rfl <| E9 rfl rfl rfl rfl (G1 rfl (G1 rfl (V7 (by decide) (by decide) rfl (by simp) fun _ => J0))) (fun _ => rfl) ⟨by decide, rfl, dT rfl, Nat.le_refl _⟩ (fun _ => rfl) (fun _ => rfl) (fun _ => C9 (by rfl) (C9 (A9 (A7 fun _ => rfl)) (by rfl))) ?_
    intro z
    simp only [J4, List.cons_append, List.nil_append]
    refine xN [2] [2,300002] rfl <| C0 <| C8 (F6 rfl rfl rfl rfl (F0 rfl (F0 rfl (J5 rfl rfl (by simp) (fun _ => rfl) H7))) (D9 C4)) ?_
    (have hx : mkR (bA w) ms [] = none ∨ ∃ r, mkR (bA w) ms [] = some r ∧ vd r = false := (by exact .inl (by simpa using hg)); rw [a4x hp hx]; rfl)
   have hnl : ∀ ns, foldP p ≠ .lst ns := fun ns e => hc (by rw [e]; rfl)
   refine B5 <| A3 <| A0 <| C5 rfl rfl rfl rfl rfl <| E9 rfl rfl rfl rfl (G1 rfl (G1 rfl (V7 (by decide) (by decide) rfl (by simp) fun _ => J0))) (fun _ => rfl) ⟨by decide, rfl, dT rfl, Nat.le_refl _⟩ (fun _ => rfl) (fun _ => rfl) (fun _ => C9 (by rfl) (C9 (A9 (A7 fun _ => rfl)) (by rfl))) ?_
   intro z
   simp only [J4, List.cons_append, List.nil_append]
   refine xN [2] [2,300002] rfl <| C0 <| C8 (F6 rfl rfl rfl rfl (F0 rfl (F0 rfl (J5 rfl rfl (by simp) (fun _ => rfl) H7))) (D9 C4)) ?_
   (rw [b3w hnl]; show _ = AV.agg [tV w, .list [], .list [trV (foldP p)]]; rfl)
  rw [b6b]
  have hsz1 : (Pl.bin w p q).sz = p.sz + q.sz + 1 := rfl
  have hn : nd (bA w) = 2 := (S4 (by have h := hwf.1; omega)).trans hwf.1
  refine F5 rfl (fun _ => B2 rfl) (fun _ => rfl) ?_
  intro g2
  refine xN [1,2] [1,2] rfl <| A3 <| A0 <| B1 rfl rfl (dT rfl) rfl rfl <| B4 rfl rfl rfl rfl rfl rfl <| B1 rfl rfl (dT rfl) rfl rfl <| B4 rfl rfl rfl rfl rfl rfl <| I6 (fs := [_, _, _]) rfl rfl rfl rfl rfl <| F5 rfl (fun _ => B2 rfl) (fun _ => rfl) ?_
  intro g3
  refine C2 rfl rfl rfl rfl ⟨by decide, rfl, dT rfl, dT rfl, rfl⟩ rfl (by exact B2 rfl) <| xN [1,2,3] [1,2,3] rfl <| A3 <| A0 <| B1 rfl rfl (dT rfl) rfl rfl <| B4 rfl rfl rfl rfl rfl rfl <| D6 rfl rfl <| P1 rfl rfl <| A5 rfl rfl rfl <| xN [1,2,3,4] [1,2,3] rfl <| A3 <| A3 <| A0 <| B1 rfl rfl (dT rfl) rfl rfl <| B4 rfl rfl rfl rfl rfl rfl <| D6 rfl rfl <| A4 rfl rfl <| xN [2,3,4,20,21,22] [2,3] rfl <| C1 <| G6 <| A3 <| A0 <| H2 rfl rfl <| xN [2,3,4,20,21,22,23] [2,3] rfl <| A3 ?_
  refine A8 rfl (fun hc => ?_) (fun hc => absurd hc (by exact fun h => Bool.noConfusion (show true = false from h)))
  refine B5 <| A3 <| C1 <| A3 <| A0 <| L9 rfl rfl rfl (fun _ => rfl) (by show (0 : Int) ≤ 0 ∧ (0 : Int) < ((2 : Nat) : Int); omega) <| C6 rfl rfl rfl <| F5 rfl (fun _ => B2 rfl) (fun _ => rfl) ?_
  intro g6
  refine C2 rfl rfl rfl rfl ⟨by decide, rfl, dT rfl, dT rfl, rfl⟩ rfl (by exact B2 rfl) <| xN [2,3,4,6,20,21,22] [2,3,6] rfl <| A3 <| A0 <| C5 rfl rfl rfl rfl rfl ?_
  apply xC rfl
  ·apply B3
   ·exact B7 rfl
   exact D3
  ·exact (by have hi := ih p hgd.2.2.1 hwf.2.1 (by omega) (by omega); rw [← Z3] at hi; exact hi)
  refine ⟨⟨rfl, rfl, rfl, dT rfl, rfl⟩, .inl rfl, B8, D5 rfl, fun _ => rfl, fun g27 => ?_⟩
  refine F5 rfl (fun _ => B2 rfl) (fun _ => rfl) ?_
  intro g7
  refine C2 rfl rfl rfl rfl ⟨by decide, rfl, dT rfl, dT rfl, rfl⟩ rfl (by exact B2 rfl) <| xN [2,3,4,7,20,21,22] [2,3,7] rfl <| A3 <| A0 <| A4 rfl rfl <| A4 rfl rfl <| J1 rfl rfl rfl <| B1 rfl rfl (dT rfl) rfl rfl <| J1 rfl rfl rfl <| B4 rfl rfl rfl rfl rfl rfl <| J1 rfl rfl rfl <| a1m rfl rfl <| G5 rfl rfl rfl rfl <| A5 rfl rfl rfl <| xN [2,3,4,7,20,21,22] [2,3,7] rfl <| A0 <| B1 rfl rfl (dT rfl) rfl rfl <| B4 rfl rfl rfl rfl rfl rfl <| C5 rfl rfl rfl rfl rfl <| D4 (es := List.map trV [_]) rfl rfl (dT rfl) rfl rfl (fun _ => A9 (A7 fun _ => rfl)) (fun _ => rfl) ?_
  intro g37
  refine P8 rfl rfl rfl (by simp) (by decide) rfl rfl rfl (dT rfl) (fun _ => ⟨rfl, rfl⟩) (by simp only [H6]; (simp only [List.length_nil, List.length_cons, List.length_append, Nat.zero_add, List.length_map]; omega)) (fun _ => rfl) ?_
  intro g38
  refine B1 rfl rfl (dT rfl) rfl rfl <| L8 rfl rfl rfl rfl rfl (Nat.le_refl _) rfl <| xN [2,3,4,20,21,22] [2,3,1000038] rfl <| A0 <| H0 rfl rfl (F3 (by omega)) <| A4 rfl rfl <| xN [2,3,4,20,21,22] [2,3,1000038] rfl <| G6 <| A3 <| A0 <| H2 rfl rfl <| xN [2,3,4,20,21,22,23] [2,3,1000038] rfl <| A3 ?_
  refine A8 rfl (fun hc => ?_) (fun hc => absurd hc (by exact fun h => Bool.noConfusion (show true = false from h)))
  refine B5 <| A3 <| C1 <| A3 <| A0 <| L9 rfl rfl rfl (fun _ => rfl) (by show (0 : Int) ≤ 1 ∧ (1 : Int) < ((2 : Nat) : Int); omega) <| C6 rfl rfl rfl <| F5 rfl (fun _ => B2 rfl) (fun _ => rfl) ?_
  intro g6
  refine C2 rfl rfl rfl rfl ⟨by decide, rfl, dT rfl, dT rfl, rfl⟩ rfl (by exact B2 rfl) <| xN [2,3,4,6,20,21,22] [2,3,1000038,6] rfl <| A3 <| A0 <| C5 rfl rfl rfl rfl rfl ?_
  apply xC rfl
  ·apply B3
   ·exact B7 rfl
   exact D3
  ·exact (by have hi := ih q hgd.2.2.2 hwf.2.2 (by omega) (by omega); rw [← Z3] at hi; exact hi)
  refine ⟨⟨rfl, rfl, rfl, dT rfl, rfl⟩, .inl rfl, B8, D5 rfl, fun _ => rfl, fun g27 => ?_⟩
  refine F5 rfl (fun _ => B2 rfl) (fun _ => rfl) ?_
  intro g7
  refine C2 rfl rfl rfl rfl ⟨by decide, rfl, dT rfl, dT rfl, rfl⟩ rfl (by exact B2 rfl) <| xN [2,3,4,7,20,21,22] [2,3,1000038,7] rfl <| A3 <| A0 <| A4 rfl rfl <| A4 rfl rfl ?_
  refine E6 rfl rfl ?_ ?_ <;> intro hg0 <;> have hg := hg0 <;> try simp only [SG] at hg
  ·refine B1 rfl rfl (dT rfl) rfl rfl <| gT rfl rfl <| B4 rfl rfl rfl rfl rfl rfl <| gT rfl rfl <| a1m rfl rfl <| G5 rfl (by assumption) rfl rfl <| A5 rfl rfl rfl <| xN [2,3,4,7,20,21,22] [2,3,1000038,7] rfl <| A0 <| B1 rfl rfl (dT rfl) rfl rfl <| B4 rfl rfl rfl rfl rfl rfl <| C5 rfl rfl rfl rfl rfl <| D4 (es := List.map trV [_]) rfl rfl (dT rfl) rfl rfl (fun _ => A9 (A7 fun _ => rfl)) (fun _ => rfl) ?_
   intro g37
   refine F7 rfl rfl rfl rfl (by (simp; done)) (by simp) (by decide) rfl rfl rfl rfl (dT rfl) (fun _ => ⟨rfl, rfl⟩) (by simp only [H6]; (simp only [List.length_nil, List.length_cons, List.length_append, Nat.zero_add, List.length_map]; omega)) (fun _ => rfl) ?_
   intro g38
   refine B1 rfl rfl (dT rfl) rfl rfl <| L8 rfl rfl rfl rfl rfl (Nat.le_refl _) rfl <| xN [2,3,4,20,21,22] [2,3,1000038] rfl <| A0 <| H0 rfl rfl (F3 (by omega)) <| A4 rfl rfl <| xN [2,3,4,20,21,22] [2,3,1000038] rfl <| G6 <| A3 <| A0 <| H2 rfl rfl <| xN [2,3,4,20,21,22,23] [2,3,1000038] rfl <| A3 ?_
   refine A8 rfl (fun hc => absurd hc (by exact fun h => Bool.noConfusion (show false = true from h))) (fun hc => ?_)
   refine G4 <| A3 <| A3 <| A0 <| A4 rfl rfl <| xN [2,3,41] [2,3,1000038] rfl ?_
   refine A8 rfl ?_ ?_ <;> intro hc <;> try simp only [SL] at hc
   ·obtain ⟨ms, hp, hvp⟩ := U6 (P0 _ hgd.2.2.1) (show (foldP p).op = lW by assumption)
    rw [hp]
    obtain ⟨ls, hq, hvq⟩ := U6 (P0 _ hgd.2.2.2) (show (foldP q).op = lW by assumption)
    rw [hq]
    refine A3 <| A0 <| C5 rfl rfl rfl rfl rfl ?_
    apply xC rfl
    ·apply B3
     ·exact c8q (dT rfl) (c8m (c3z (c8t rfl rfl (by simp) (fun _ => rfl) c7f)))
     apply B3
     ·exact c3w (dT rfl)
     exact D3
    ·exact (by have hi := c6j (oG := oG) (.bin w (.lst ms) (.lst ls)) ⟨hgd.1, hgd.2.1, hvp, hvq⟩ ⟨hwf.1, trivial, trivial⟩ [] rfl (by simp) (by simp); exact hi)
    refine ⟨⟨rfl, rfl, rfl, dT rfl, rfl⟩, .inr ⟨K0 _ _, rfl⟩, B8, I2 (M8 fun _ => I7 rfl M9), fun _ => rfl, fun g44 => ?_⟩
    simp only [List.length_map]
    rw [show a1q [] (.bin w (.lst ms) (.lst ls)) = mkR (bA w) ms ls from rfl]
    refine A4 rfl rfl <| B6 rfl rfl rfl <| B6 rfl rfl rfl ?_
    (refine B0 rfl rfl (by (simp; done)) rfl (fun _ => (A9 (by exact A7 fun _ => rfl))) (fun _ => rfl) ?_; intro g8)
    refine A5 rfl rfl rfl <| xN [2,3,8,9] [2,3,1000038,8] rfl <| A3 <| A0 <| A4 rfl rfl <| A4 rfl rfl ?_
    refine E6 rfl rfl ?_ ?_ <;> intro hg0 <;> have hg := hg0 <;> try simp only [SG] at hg
    ·refine A4 rfl rfl <| gT rfl rfl ?_
     obtain ⟨r, hr⟩ := Option.isSome_iff_exists.1 (show (mkR (bA w) ms ls).isSome = true by assumption)
     have hrl := (Q9.1 (a8b hr)).1
     rw [hr, Option.getD_some]
     apply xC rfl
     ·apply B3
      ·exact K2 rfl rfl rfl (by (simp; done)) (fun _ => rfl)
      exact D3
     ·exact Z5 r (by omega)
     refine ⟨⟨rfl, rfl, rfl, dT rfl, rfl⟩, .inr ⟨rfl, rfl⟩, B8, D5 rfl, fun _ => rfl, fun g50 => ?_⟩
     refine G5 rfl rfl rfl rfl <| xN [2,3,8,51] [2,3,1000038,8] rfl ?_
     refine A8 rfl ?_ ?_ <;> intro hc <;> try simp only [SL] at hc
     ·refine A3 <| A0 <| A4 rfl rfl <| I6 (fs := [_, _, _]) rfl rfl rfl rfl rfl <| E9 rfl rfl rfl rfl (G1 rfl (L7 (by decide) (G1 rfl J0))) (fun _ => rfl) ⟨by decide, rfl, dT rfl, Nat.le_refl _⟩ (fun _ => rfl) (fun _ => rfl) (fun _ => (by rfl)) ?_
      intro z
      simp only [J4, List.cons_append, List.nil_append]
      refine xN [2] [2,8] rfl <| C0 <| C8 (F6 rfl rfl rfl rfl (F0 rfl (J5 rfl rfl (by simp) (fun _ => rfl) (I1 rfl H7))) (D9 C4)) ?_
      rw [b1j hp hq hr (by simpa using hc)]
      rfl
     refine B5 <| A3 <| A0 <| C5 rfl rfl rfl rfl rfl <| E9 rfl rfl rfl rfl (G1 rfl (G1 rfl (V7 (by decide) (by decide) rfl (by simp) fun _ => J0))) (fun _ => rfl) ⟨by decide, rfl, dT rfl, Nat.le_refl _⟩ (fun _ => rfl) (fun _ => rfl) (fun _ => C9 (by rfl) (C9 (A9 (A7 fun _ => rfl)) (by rfl))) ?_
     intro z
     simp only [J4, List.cons_append, List.nil_append]
     refine xN [2] [2,300002] rfl <| C0 <| C8 (F6 rfl rfl rfl rfl (F0 rfl (F0 rfl (J5 rfl rfl (by simp) (fun _ => rfl) H7))) (D9 C4)) ?_
     (have hx : mkR (bA w) ms ls = none ∨ ∃ r, mkR (bA w) ms ls = some r ∧ vd r = false := (by exact .inr ⟨r, hr, by simpa using hc⟩); rw [a2b hp hq hx]; rfl)
    refine gF rfl rfl <| H5 rfl (by assumption) rfl rfl <| xN [2,3,8,51] [2,3,1000038,8] rfl ?_
    refine A8 rfl (fun hc => absurd hc (by decide)) (fun hc => ?_)
    refine B5 <| A3 <| A0 <| C5 rfl rfl rfl rfl rfl <| E9 rfl rfl rfl rfl (G1 rfl (G1 rfl (V7 (by decide) (by decide) rfl (by simp) fun _ => J0))) (fun _ => rfl) ⟨by decide, rfl, dT rfl, Nat.le_refl _⟩ (fun _ => rfl) (fun _ => rfl) (fun _ => C9 (by rfl) (C9 (A9 (A7 fun _ => rfl)) (by rfl))) ?_
    intro z
    simp only [J4, List.cons_append, List.nil_append]
    refine xN [2] [2,300002] rfl <| C0 <| C8 (F6 rfl rfl rfl rfl (F0 rfl (F0 rfl (J5 rfl rfl (by simp) (fun _ => rfl) H7))) (D9 C4)) ?_
    (have hx : mkR (bA w) ms ls = none ∨ ∃ r, mkR (bA w) ms ls = some r ∧ vd r = false := (by exact .inl (by simpa using hg)); rw [a2b hp hq hx]; rfl)
   have hnl : (∀ ns, foldP p ≠ .lst ns) ∨ ∀ ns, foldP q ≠ .lst ns := .inr fun ns e => hc (by rw [e]; rfl)
   refine B5 <| A3 <| A0 <| C5 rfl rfl rfl rfl rfl <| E9 rfl rfl rfl rfl (G1 rfl (G1 rfl (V7 (by decide) (by decide) rfl (by simp) fun _ => J0))) (fun _ => rfl) ⟨by decide, rfl, dT rfl, Nat.le_refl _⟩ (fun _ => rfl) (fun _ => rfl) (fun _ => C9 (by rfl) (C9 (A9 (A7 fun _ => rfl)) (by rfl))) ?_
   intro z
   simp only [J4, List.cons_append, List.nil_append]
   refine xN [2] [2,300002] rfl <| C0 <| C8 (F6 rfl rfl rfl rfl (F0 rfl (F0 rfl (J5 rfl rfl (by simp) (fun _ => rfl) H7))) (D9 C4)) ?_
   ((rw [a2j hnl]); show _ = AV.agg [tV w, .list [], .list [trV (foldP p), trV (foldP q)]]; rfl)
  refine gF rfl rfl <| gF rfl rfl <| H5 rfl (by assumption) rfl rfl <| A5 rfl rfl rfl <| xN [2,3,4,7,20,21,22] [2,3,1000038,7] rfl <| A0 <| B1 rfl rfl (dT rfl) rfl rfl <| B4 rfl rfl rfl rfl rfl rfl <| C5 rfl rfl rfl rfl rfl <| D4 (es := List.map trV [_]) rfl rfl (dT rfl) rfl rfl (fun _ => A9 (A7 fun _ => rfl)) (fun _ => rfl) ?_
  intro g37
  refine F7 rfl rfl rfl rfl (by (simp; done)) (by simp) (by decide) rfl rfl rfl rfl (dT rfl) (fun _ => ⟨rfl, rfl⟩) (by simp only [H6]; (simp only [List.length_nil, List.length_cons, List.length_append, Nat.zero_add, List.length_map]; omega)) (fun _ => rfl) ?_
  intro g38
  refine B1 rfl rfl (dT rfl) rfl rfl <| L8 rfl rfl rfl rfl rfl (Nat.le_refl _) rfl <| xN [2,3,4,20,21,22] [2,3,1000038] rfl <| A0 <| H0 rfl rfl (F3 (by omega)) <| A4 rfl rfl <| xN [2,3,4,20,21,22] [2,3,1000038] rfl <| G6 <| A3 <| A0 <| H2 rfl rfl <| xN [2,3,4,20,21,22,23] [2,3,1000038] rfl <| A3 ?_
  refine A8 rfl (fun hc => absurd hc (by exact fun h => Bool.noConfusion (show false = true from h))) (fun hc => ?_)
  refine G4 <| A3 <| A3 <| A0 <| A4 rfl rfl <| xN [2,3,41] [2,3,1000038] rfl ?_
  refine A8 rfl (fun hc => absurd hc (by decide)) (fun hc => ?_)
  refine B5 <| A3 <| A0 <| C5 rfl rfl rfl rfl rfl <| E9 rfl rfl rfl rfl (G1 rfl (G1 rfl (V7 (by decide) (by decide) rfl (by simp) fun _ => J0))) (fun _ => rfl) ⟨by decide, rfl, dT rfl, Nat.le_refl _⟩ (fun _ => rfl) (fun _ => rfl) (fun _ => C9 (by rfl) (C9 (A9 (A7 fun _ => rfl)) (by rfl))) ?_
  intro z
  simp only [J4, List.cons_append, List.nil_append]
  refine xN [2] [2,300002] rfl <| C0 <| C8 (F6 rfl rfl rfl rfl (F0 rfl (F0 rfl (J5 rfl rfl (by simp) (fun _ => rfl) H7))) (D9 C4)) ?_
  ((rw [a2j (.inl fun ns e => hg (by rw [e]; rfl))]); show _ = AV.agg [tV w, .list [], .list [trV (foldP p), trV (foldP q)]]; rfl)

theorem keep_s_foldText : G8 Tryz.f73 = [0, 2, 4, 11, 3, 7] := by kernel_rfl
set_option maxHeartbeats 20000000 in
theorem c0k (t : Pl) (hgd : t.good) (hwf : t.wf) (hsz : t.sz ≤ 16) : CW (cxT oG) 73 [tV (M1 t)] = some (tV (M1 (foldP t)), []) := by
 have hfg := P0 t hgd
 have hfw := a7f t hwf
 have hfs := b3y t
 have hln := a0m hwf hgd
 have hlf := a0m hfw hfg
 obtain ⟨hi1, hi2⟩ := d0r hwf hgd hsz
 refine G3 rfl Tryz.func73 rfl ⟨by kernel_rfl, rfl, dT rfl, dT rfl, by decide⟩ keep_s_foldText <| A3 <| A0 <| A5 rfl rfl rfl <| xN [0] [] rfl <| A3 <| A0 <| A4 rfl rfl ?_
 apply xC rfl
 ·apply B3
  ·exact B7 rfl
  exact D3
 ·exact (by have hi := a8n (oG := oG) (M1 t) (by omega); rw [hi1, hi2] at hi; exact hi)
 refine ⟨⟨rfl, rfl, rfl, dT rfl, rfl⟩, .inl rfl, B8, L0 rfl, fun _ => rfl, fun g7 => ?_⟩
 refine A4 rfl rfl <| B6 rfl rfl rfl <| B6 rfl rfl rfl <| F5 rfl (fun _ => B2 rfl) (fun _ => rfl) ?_
 intro g3
 refine C2 rfl rfl rfl rfl ⟨by decide, rfl, dT rfl, dT rfl, rfl⟩ rfl (by exact B2 rfl) <| A5 rfl rfl rfl <| xN [0,3,4] [3] rfl <| A3 <| A3 <| A0 <| A4 rfl rfl <| K9 rfl <| xN [0,3,11] [3] rfl ?_
 refine A8 rfl (fun hc => absurd hc (by decide)) (fun hc => ?_)
 refine B5 <| A3 <| A0 <| C5 rfl rfl rfl rfl rfl ?_
 apply xC rfl
 ·apply B3
  ·exact B7 rfl
  exact D3
 ·exact (by have hi := d1e (oG := oG) t hgd hwf (by omega); rw [← Z3] at hi; exact hi)
 refine ⟨⟨rfl, rfl, rfl, dT rfl, rfl⟩, .inl rfl, B8, D5 rfl, fun _ => rfl, fun g14 => ?_⟩
 apply xC rfl
 ·apply B3
  ·exact B7 rfl
  exact D3
 ·exact (by have hi := d1v (oG := oG) (foldP t) (by omega) hfg; rw [← Z3] at hi; exact hi)
 refine ⟨⟨rfl, rfl, rfl, dT rfl, rfl⟩, .inl rfl, B8, D5 rfl, fun _ => rfl, fun g15 => ?_⟩
 refine A5 rfl rfl rfl <| xN [2] [] rfl <| C0 <| D7 rfl rfl trivial ?_
 rfl

theorem keep_s_FoldPlanI : G8 Tryz.f36 = [0, 2, 5] := by kernel_rfl
set_option maxHeartbeats 20000000 in
theorem b8q (s : List UInt8) (hs : s.length ≤ 1048576) : CW (cxT oG) 36 [tV s] = some (tV (b4g s), []) := by
 refine G3 rfl Tryz.func36 rfl ⟨by kernel_rfl, rfl, dT rfl, dT rfl, by decide⟩ keep_s_FoldPlanI <| A3 <| A0 <| A5 rfl rfl rfl <| xN [0] [] rfl <| A3 <| A3 <| A0 <| A4 rfl rfl ?_
 apply xC rfl
 ·apply B3
  ·exact B7 rfl
  exact D3
 ·exact b6d s hs
 refine ⟨⟨rfl, rfl, rfl, dT rfl, rfl⟩, .inl rfl, B8, D5 rfl, fun _ => rfl, fun g4 => ?_⟩
 refine K9 rfl <| xN [0,5] [] rfl ?_
 refine A8 rfl ?_ ?_ <;> intro hc <;> try simp only [SL] at hc
 ·refine A3 <| A0 <| A5 rfl rfl rfl <| xN [2] [] rfl <| C0 <| D7 rfl rfl trivial ?_
  rw [b0l hc]
  rfl
 refine B5 <| A3 <| A0 <| A4 rfl rfl ?_
 obtain ⟨t, ht1, ht2, ht3⟩ := b1v hc
 obtain ⟨hst, hwf, hgd, hsl, hsz⟩ := b1l ht1
 rw [b0t ht1]
 subst hst
 apply xC rfl
 ·apply B3
  ·exact B7 rfl
  exact D3
 ·exact c0k t hgd hwf hsz
 refine ⟨⟨rfl, rfl, rfl, dT rfl, rfl⟩, .inl rfl, B8, D5 rfl, fun _ => rfl, fun g7 => ?_⟩
 refine A5 rfl rfl rfl <| xN [2] [] rfl <| C0 <| D7 rfl rfl trivial ?_
 rfl

theorem keep_s_FoldPlanS : G8 Tryz.f35 = [0, 2, 4, 11, 3, 7] := by kernel_rfl
set_option maxHeartbeats 20000000 in
theorem b9z (s : List UInt8) (hs : s.length ≤ 1048576) : CW (cxT oG) 35 [tV s] = some (tV (b4g s), []) := by
 refine G3 rfl Tryz.func35 rfl ⟨by kernel_rfl, rfl, dT rfl, dT rfl, by decide⟩ keep_s_FoldPlanS <| A3 <| A0 <| A5 rfl rfl rfl <| xN [0] [] rfl <| A3 <| A0 <| A4 rfl rfl ?_
 apply xC rfl
 ·apply B3
  ·exact B7 rfl
  exact D3
 ·exact c1m s hs
 refine ⟨⟨rfl, rfl, rfl, dT rfl, rfl⟩, .inl rfl, B8, L0 rfl, fun _ => rfl, fun g7 => ?_⟩
 refine A4 rfl rfl <| B6 rfl rfl rfl <| B6 rfl rfl rfl <| F5 rfl (fun _ => B2 rfl) (fun _ => rfl) ?_
 intro g3
 refine C2 rfl rfl rfl rfl ⟨by decide, rfl, dT rfl, dT rfl, rfl⟩ rfl (by exact B2 rfl) <| A5 rfl rfl rfl <| xN [3,4] [3] rfl <| A3 <| A3 <| A0 <| A4 rfl rfl <| K9 rfl <| xN [3,11] [3] rfl ?_
 refine A8 rfl ?_ ?_ <;> intro hc <;> try simp only [SL] at hc
 ·refine A3 <| A0 <| A5 rfl rfl rfl <| xN [2] [] rfl <| C0 <| D7 rfl rfl trivial ?_
  rw [b0l hc]
  rfl
 refine B5 <| A3 <| A0 <| C5 rfl rfl rfl rfl rfl ?_
 obtain ⟨t, ht1, ht2, ht3⟩ := b1v hc
 obtain ⟨hst, hwf, hgd, hsl, hsz⟩ := b1l ht1
 have hfg := P0 t hgd
 have hfw := a7f t hwf
 have hfs := b3y t
 have hln := a0m hwf hgd
 have hlf := a0m hfw hfg
 rw [ht2, b0t ht1]
 apply xC rfl
 ·apply B3
  ·exact B7 rfl
  exact D3
 ·exact (by have hi := d0l (oG := oG) t hgd hwf (by omega); rw [← Z3] at hi; exact hi)
 refine ⟨⟨rfl, rfl, rfl, dT rfl, rfl⟩, .inl rfl, B8, D5 rfl, fun _ => rfl, fun g13 => ?_⟩
 apply xC rfl
 ·apply B3
  ·exact B7 rfl
  exact D3
 ·exact (by have hi := c1j (oG := oG) (foldP t) (by omega) hfg; rw [← Z3] at hi; exact hi)
 refine ⟨⟨rfl, rfl, rfl, dT rfl, rfl⟩, .inl rfl, B8, D5 rfl, fun _ => rfl, fun g14 => ?_⟩
 refine A5 rfl rfl rfl <| xN [2] [] rfl <| C0 <| D7 rfl rfl trivial ?_
 rfl

theorem keep_s_FnExactFoldPlan : G8 Tryz.f7 = [0, 2, 7, 3, 4, 14] := by kernel_rfl
set_option maxHeartbeats 20000000 in
theorem a6w (s : List UInt8) : CW (cxT oG) 7 [tV s] = some (bV true, []) := by
 refine G3 rfl Tryz.func7 rfl ⟨by kernel_rfl, rfl, dT rfl, dT rfl, by decide⟩ keep_s_FnExactFoldPlan <| A3 <| A0 <| A5 rfl rfl rfl <| xN [0] [] rfl <| A3 <| A3 <| A0 <| A4 rfl rfl <| a3v rfl rfl <| P1 rfl rfl <| xN [0,7] [] rfl ?_
 refine A8 rfl ?_ ?_ <;> intro hc <;> try simp only [SL] at hc
 ·refine A3 <| A0 <| A5 rfl rfl rfl <| xN [2] [] rfl <| C0 <| D7 rfl rfl trivial ?_
  rfl
 refine B5 <| A3 <| A0 <| A4 rfl rfl ?_
 apply xC rfl
 ·apply B3
  ·exact B7 rfl
  exact D3
 ·exact b9z s (by omega)
 refine ⟨⟨rfl, rfl, rfl, dT rfl, rfl⟩, .inl rfl, B8, D5 rfl, fun _ => rfl, fun g9 => ?_⟩
 refine A5 rfl rfl rfl <| xN [0,3] [] rfl <| A3 <| A0 <| A4 rfl rfl ?_
 apply xC rfl
 ·apply B3
  ·exact B7 rfl
  exact D3
 ·exact b8q s (by omega)
 refine ⟨⟨rfl, rfl, rfl, dT rfl, rfl⟩, .inl rfl, B8, D5 rfl, fun _ => rfl, fun g11 => ?_⟩
 refine A5 rfl rfl rfl <| xN [3,4] [] rfl <| A3 <| A3 <| A0 <| A4 rfl rfl <| A4 rfl rfl <| b1m rfl rfl <| xN [14] [] rfl ?_
 refine A8 rfl ?_ ?_ <;> intro hc <;> try simp only [SL] at hc
 ·refine A3 <| A0 <| A5 rfl rfl rfl <| xN [2] [] rfl <| C0 <| D7 rfl rfl trivial ?_
  (simp_all; done)
 refine B5 <| A3 <| A0 <| A5 rfl rfl rfl <| xN [2] [] rfl <| C0 <| D7 rfl rfl trivial ?_
 rfl
end Go.Proofs.YtcpmbhfnapijaaaGreatDoor
