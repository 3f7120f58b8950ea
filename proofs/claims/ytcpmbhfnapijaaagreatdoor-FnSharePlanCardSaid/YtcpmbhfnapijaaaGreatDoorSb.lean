/- What each function of the program gives on the abstract machine, part 2 of 2. Conditions: those in front of each theorem. -/
import Derived.Test.YtcpmbhfnapijaaaGreatDoorSa
import Derived.KernelRfl

set_option linter.unusedVariables false
set_option linter.unusedSimpArgs false
namespace Go.Proofs.YtcpmbhfnapijaaaGreatDoor
open Go Go.Mv Go.Proofs
set_option maxRecDepth 100000
variable {oG : Option Nat} {rG : Nat}

theorem keep_s_IndexSt : G8 Tryz.f115 = [0, 1, 4, 8, 7, 9, 5, 16] := by kernel_rfl
set_option maxHeartbeats 20000000 in
theorem W6 (ss : List Stp) (hss : ss.length ≤ 1000 ∧ ∀ s ∈ ss, stG s) (y : Stp) (hy : y.ns.length ≤ 1048576) : CW (cxT oG) 115 [.list (ss.map stA), .clo 116 [.ipt (stA y) 0]] = some (iV (stJ y ss), []) := by
 refine G9 rfl Tryz.func115 rfl ⟨by kernel_rfl, rfl, dT rfl, dT rfl, by decide⟩ keep_s_IndexSt <| A4 <| A0 <| A5 rfl rfl rfl <| xN [0,1] [] rfl <| A4 <| A4 <| A0 <| A3 rfl rfl <| E8 rfl rfl <| A3 rfl rfl <| xN [0,1,7,8] [] rfl <| C6 <| J6 (β := Nat) [(.t 0, _), (.t 1, _), (.t 7, _)] (fun (i : Nat) => [(.t 8, iV i)]) (fun (i : Nat) => i ≤ ss.length ∧ ∀ j, j < i → ss.getD j default ≠ y) (fun (i : Nat) => ss.length - i) 0 ⟨rfl, rfl, rfl, rfl, trivial⟩ ⟨Nat.zero_le _, fun j h => by omega⟩ ?_
 intro i hb
 obtain ⟨hi1, hne⟩ := hb
 refine A4 <| A0 <| I0 rfl rfl <| xN [0,1,7,8,9] [] rfl <| A4 ?_
 refine A9 rfl ?_ ?_ <;> intro hc <;> try simp only [SL] at hc
 ·refine B5 <| A4 <| C6 <| A4 <| A0 <| A3 rfl rfl <| A5 rfl rfl rfl <| xN [0,1,5,7,8] [] rfl <| A4 <| A0 <| A3 rfl rfl <| A3 rfl rfl <| A3 rfl rfl <| F8 rfl rfl rfl (fun _ => rfl) (by omega) <| F5 rfl rfl rfl ?_
  have hsg := hss.2 _ (L1 (xs := ss) (i := i) (by omega))
  have hvl := S0 hsg.2
  apply c4w rfl rfl
  ·apply B0
   ·exact B9 rfl
   apply B0
   ·exact B9 rfl
   exact C4
  ·exact c9g (ss.getD i default) y (by omega) hy
  ·exact ⟨rfl, rfl, rfl, dT rfl, rfl⟩
  ·exact .inl rfl
  ·exact B3
  ·exact C3 rfl
  ·exact fun _ => rfl
  intro g16
  refine xN [0,1,5,7,8,16] [] rfl ?_
  refine A9 rfl ?_ ?_ <;> intro hc <;> try simp only [SL] at hc
  ·refine A4 <| A0 <| A3 rfl rfl <| A5 rfl rfl rfl <| xN [4] [] rfl <| B6 <| C9 rfl rfl trivial ?_
   rw [d3l (by omega) (by assumption) hne]
  refine B5 <| A0 <| H5 rfl rfl (F4 (by omega)) <| A3 rfl rfl <| xN [0,1,7,8] [] rfl ?_
  refine ⟨i + 1, ⟨by omega, fun j hj => by rcases Nat.lt_succ_iff_lt_or_eq.1 hj with h | h; (· exact hne j h); (· subst h; assumption)⟩, (by omega), ⟨rfl, rfl, rfl, rfl, trivial⟩⟩
 refine H1 <| A4 <| A0 <| A5 rfl rfl rfl <| xN [4] [] rfl <| B6 <| C9 rfl rfl trivial ?_
 rw [d3e fun j hj => hne j (by omega)]
 rfl

theorem keep_s_ClipSt : G8 Tryz.f71 = [0, 2] := by kernel_rfl
set_option maxHeartbeats 20000000 in
theorem c9j (xs : List Stp) (hx : xs.length ≤ H7) : CW (cxT oG) 71 [.own 4 (xs.map stO)] = some (.own 4 (xs.map stO), []) := by
 refine G9 rfl Tryz.func71 rfl ⟨by kernel_rfl, rfl, dT rfl, dT rfl, by decide⟩ keep_s_ClipSt <| A4 <| A0 ?_
 (refine C2 rfl rfl (fun _ => rfl) ?_; intro g2)
 refine xN [0] [0] rfl <| A4 <| A0 <| A3 rfl rfl <| A3 rfl rfl <| I1 rfl rfl <| A3 rfl rfl <| I1 rfl rfl ?_
 refine c9l rfl rfl rfl rfl rfl rfl (fun hz => ?_) (fun hz => ?_)
 ·skip
  (refine C2 rfl rfl (fun _ => rfl) ?_; intro g2)
  refine xN [2] [0,2] rfl <| B6 <| V0 rfl rfl (by (simp; done)) (by rfl) trivial ?_
  (have h0 : xs = [] := (by simpa using hz); subst h0; rfl)
 skip
 (refine B2 rfl rfl (by (simp; done)) rfl (fun _ => (B1 (by exact A7 fun _ => rfl))) (fun _ => rfl) ?_; intro g2)
 refine xN [2] [0,2] rfl <| B6 <| V0 rfl rfl (by (simp; done)) (by exact A7 fun _ => rfl) trivial ?_
 rfl

theorem keep_s_shareI : G8 Tryz.f70 = [0, 1, 4, 5, 2, 6, 23, 22, 24, 21, 9, 8, 7, 10, 44, 15, 35] := by kernel_rfl
set_option maxHeartbeats 20000000 in
theorem c9k (t : Pl) (ss : List Stp) (hss : ss.length + t.sz ≤ 1000 ∧ ∀ s ∈ ss, stG s) (hgd : t.good) : CW (cxT oG) 70 [trK t, stL ss] = some (.tup [.own 4 ((shareP t ss).1.map stO), iV ((shareP t ss).2 : Nat)], []) := by
 obtain ⟨kk, hkk⟩ : ∃ kk : Nat, t.sz < kk := ⟨_, Nat.lt_succ_self _⟩
 revert t ss
 induction kk with
 | zero => intro t ss hss hgd hkk; exact absurd hkk (Nat.not_lt_zero _)
 | succ kk ih =>
  intro t ss hss hgd hkk
  refine G9 rfl Tryz.func70 rfl ⟨by kernel_rfl, rfl, dT rfl, dT rfl, by decide⟩ keep_s_shareI <| A4 <| A0 ?_
  rcases t with ns | w | ⟨w, p⟩ | ⟨w, p, q⟩ <;> rcases ss with _ | ⟨s0, sr⟩
  ·rw [b6i]
   skip
   refine a0e rfl rfl rfl (fun _ => C0 rfl) (fun _ => rfl) ?_
   intro g2
   (refine C2 rfl rfl (fun _ => rfl) ?_; intro g4)
   refine A5 rfl rfl rfl <| xN [1,2] [2] rfl <| A4 <| A0 <| A8 rfl rfl (dT rfl) rfl rfl <| B8 rfl rfl rfl rfl rfl rfl <| A8 rfl rfl (dT rfl) rfl rfl <| B8 rfl rfl rfl rfl rfl rfl ?_
   apply b7t rfl
   ·apply B0
    ·exact B9 rfl
    exact C4
   ·exact a1r ns (by have := S0 (show vd ns = true from hgd); omega)
   ·exact ⟨rfl, rfl, rfl, dT rfl, rfl⟩
   ·exact .inl rfl
   ·exact B3
   ·exact L8
   ·(intro _; exact B4 (B1 (A7 fun _ => rfl)) rfl)
   intro g15
   simp only [List.length_map]
   refine I7 (fs := [_, iV (-1), iV (-1), _]) rfl rfl rfl rfl rfl <| G5 rfl (fun _ => C0 rfl) (fun _ => rfl) ?_
   intro g6
   refine I2 rfl rfl rfl rfl (F7 rfl (F7 rfl (F7 rfl (V8 (by decide) (by decide) rfl (by simp) fun _ => K8)))) (fun _ => rfl) ⟨by decide, rfl, dT rfl, Nat.le_refl _⟩ (fun _ => rfl) (fun _ => rfl) (fun _ => B4 (by rfl) (B4 (B1 (A7 fun _ => rfl)) (by rfl))) ?_
   intro z
   simp only [K5, List.cons_append, List.nil_append]
   refine G6 ⟨fun _ => ⟨by (simp only [O9, List.nil_append, List.append_nil, List.map_cons, List.map_nil, List.cons_append]; decide +kernel), by decide +kernel⟩, [(.t 1, _), (.t 2, _), (.t 6, _), (.h 2, _), (.h 6, _), (.h 400006, _)], ⟨rfl, rfl, rfl, rfl, rfl, rfl, rfl, rfl, rfl, rfl, rfl, rfl, trivial⟩, ?_⟩
   refine A4 <| A0 <| A8 rfl rfl (dT rfl) rfl rfl <| A8 rfl rfl (dT rfl) rfl rfl <| O7 rfl rfl rfl rfl (fun _ => rfl) (fun _ => rfl) ?_
   intro g19
   refine B2 rfl rfl (by simp) rfl (fun _ => rfl) (fun _ => rfl) ?_
   intro g7
   refine xN [1,2,6,7] [2,6,400006,7] rfl <| A4 <| A4 <| A0 <| A8 rfl rfl (dT rfl) rfl rfl <| B8 rfl rfl rfl rfl rfl rfl <| E8 rfl rfl <| A3 rfl rfl <| xN [1,6,7,21,22,23] [6,400006,7] rfl <| C6 <| G2 <| A4 <| A0 <| I0 rfl rfl <| xN [1,6,7,21,22,23,24] [6,400006,7] rfl <| A4 ?_
   refine A9 rfl (fun hc => absurd hc (by decide)) (fun hc => ?_)
   refine H1 <| A4 <| A0 <| A3 rfl rfl <| Q8 rfl rfl ?_
   apply xC rfl
   ·apply B0
    ·exact a7m (dT rfl)
    apply B0
    ·exact a2j rfl (a1t rfl (N7 (N7 (N7 (a5n rfl rfl (by simp) (fun _ => rfl) a4w)))) a2g)
    exact C4
   ·exact W6 [] ⟨by simp only [List.length_cons, List.length_nil] at *; omega, hss.2⟩ (I8 (.lst ns) (-1) (-1)) (by exact Nat.le_trans (S0 (a0w hgd)) (by decide))
   refine ⟨⟨rfl, rfl, rfl, dT rfl, rfl⟩, .inr ⟨rfl, rfl⟩, B3, C3 rfl, fun _ => rfl, fun g42 => ?_⟩
   refine A5 rfl rfl rfl <| xN [1,6,10] [6,400006] rfl <| A4 <| A4 <| A0 <| A3 rfl rfl <| a0o rfl rfl <| xN [1,6,10,44] [6,400006] rfl ?_
   refine A9 rfl ?_ ?_ <;> intro hc <;> try simp only [SL] at hc
   ·refine A4 <| A0 <| A3 rfl rfl <| A3 rfl rfl ?_
    (refine C2 rfl rfl (fun _ => rfl) ?_; intro g4)
    refine A5 rfl rfl rfl <| xN [4,5] [4] rfl <| B6 <| D3 (F9 rfl rfl (by simp) (by rfl) (D7 rfl rfl (E7 C5))) ?_
    obtain ⟨h1, h2, h3⟩ := a2a hc
    show _ = AV.tup [.own 4 ((stAdd (I8 (.lst ns) (-1) (-1)) []).map stO), iV (stIx (I8 (.lst ns) (-1) (-1)) [] : Nat)]
    rw [h2, ← h1]
    rfl
   refine B5 <| A4 <| A0 <| A3 rfl rfl <| E5 rfl rfl rfl rfl rfl <| L7 (mk := 0) (fs := [_, _, _, _]) rfl rfl rfl (dT rfl) rfl rfl (F7 rfl (F7 rfl (F7 rfl (a1v rfl (by simp) (X1 fun _ => rfl) rfl K8)))) (fun _ _ => B4 (by rfl) (B4 (B1 (by rfl)) (G7 rfl))) ?_
   intro z49 g49
   simp only [K5, List.cons_append, List.nil_append]
   rw [b0a]
   refine R7 rfl rfl rfl (by simp) (by decide) rfl rfl rfl (dT rfl) (fun _ => ⟨rfl, rfl⟩) (by simp only [H7]; (simp only [List.length_nil, List.length_cons, List.length_append, Nat.zero_add, List.length_map]; omega)) (fun _ => rfl) ?_
   intro g50
   refine A3 rfl rfl <| b5q rfl rfl ?_
   (refine B2 rfl rfl (by (simp; done)) rfl (fun _ => (B1 (by exact A7 fun _ => rfl))) (fun _ => rfl) ?_; intro g4)
   refine A5 rfl rfl rfl <| xN [4,5] [4] rfl <| B6 <| D3 (F9 rfl rfl (by simp) (by rfl) (D7 rfl rfl (E7 C5))) ?_
   obtain ⟨h1, h2⟩ := Z8 hc
   show _ = AV.tup [.own 4 ((stAdd (I8 (.lst ns) (-1) (-1)) []).map stO), iV (stIx (I8 (.lst ns) (-1) (-1)) [] : Nat)]
   rw [h1, h2]
   rfl
  ·rw [b6i]
   skip
   have hlc : (s0 :: sr).length = sr.length + 1 := rfl
   refine a0e rfl rfl rfl (fun _ => C0 rfl) (fun _ => rfl) ?_
   intro g2
   (refine C2 rfl rfl (fun _ => rfl) ?_; intro g4)
   refine A5 rfl rfl rfl <| xN [1,2] [1,2] rfl <| A4 <| A0 <| A8 rfl rfl (dT rfl) rfl rfl <| B8 rfl rfl rfl rfl rfl rfl <| A8 rfl rfl (dT rfl) rfl rfl <| B8 rfl rfl rfl rfl rfl rfl ?_
   apply b7t rfl
   ·apply B0
    ·exact B9 rfl
    exact C4
   ·exact a1r ns (by have := S0 (show vd ns = true from hgd); omega)
   ·exact ⟨rfl, rfl, rfl, dT rfl, rfl⟩
   ·exact .inl rfl
   ·exact B3
   ·exact L8
   ·(intro _; exact B4 (B1 (A7 fun _ => rfl)) rfl)
   intro g15
   simp only [List.length_map]
   refine I7 (fs := [_, iV (-1), iV (-1), _]) rfl rfl rfl rfl rfl <| G5 rfl (fun _ => C0 rfl) (fun _ => rfl) ?_
   intro g6
   refine I2 rfl rfl rfl rfl (F7 rfl (F7 rfl (F7 rfl (V8 (by decide) (by decide) rfl (by simp) fun _ => K8)))) (fun _ => rfl) ⟨by decide, rfl, dT rfl, Nat.le_refl _⟩ (fun _ => rfl) (fun _ => rfl) (fun _ => B4 (by rfl) (B4 (B1 (A7 fun _ => rfl)) (by rfl))) ?_
   intro z
   simp only [K5, List.cons_append, List.nil_append]
   refine G6 ⟨fun _ => ⟨by (simp only [O9, List.nil_append, List.append_nil, List.map_cons, List.map_nil, List.cons_append]; decide +kernel), by decide +kernel⟩, [(.t 1, _), (.t 2, _), (.t 6, _), (.h 1, _), (.h 2, _), (.h 6, _), (.h 400006, _)], ⟨rfl, rfl, rfl, rfl, rfl, rfl, rfl, rfl, rfl, rfl, rfl, rfl, rfl, rfl, trivial⟩, ?_⟩
   refine A4 <| A0 <| A8 rfl rfl (dT rfl) rfl rfl <| A8 rfl rfl (dT rfl) rfl rfl <| O7 rfl rfl rfl rfl (fun _ => rfl) (fun _ => rfl) ?_
   intro g19
   refine B2 rfl rfl (by simp) rfl (fun _ => rfl) (fun _ => rfl) ?_
   intro g7
   refine xN [1,2,6,7] [1,2,6,400006,7] rfl <| A4 <| A4 <| A0 <| A8 rfl rfl (dT rfl) rfl rfl <| B8 rfl rfl rfl rfl rfl rfl <| E8 rfl rfl <| A3 rfl rfl <| xN [1,6,7,21,22,23] [1,6,400006,7] rfl <| C6 <| G2 <| A4 <| A0 <| I0 rfl rfl <| xN [1,6,7,21,22,23,24] [1,6,400006,7] rfl <| A4 ?_
   refine A9 rfl (fun hc => absurd hc (by decide)) (fun hc => ?_)
   refine H1 <| A4 <| A0 <| A3 rfl rfl <| Q8 rfl rfl ?_
   apply xC rfl
   ·apply B0
    ·exact O8 rfl rfl rfl (by (simp; done))
    apply B0
    ·exact a2j rfl (a1t rfl (N7 (N7 (N7 (a5n rfl rfl (by simp) (fun _ => rfl) a4w)))) a2g)
    exact C4
   ·exact W6 (s0 :: sr) ⟨by simp only [List.length_cons, List.length_nil] at *; omega, hss.2⟩ (I8 (.lst ns) (-1) (-1)) (by exact Nat.le_trans (S0 (a0w hgd)) (by decide))
   refine ⟨⟨rfl, rfl, rfl, dT rfl, rfl⟩, .inr ⟨rfl, rfl⟩, B3, C3 rfl, fun _ => rfl, fun g42 => ?_⟩
   refine A5 rfl rfl rfl <| xN [1,6,10] [1,6,400006] rfl <| A4 <| A4 <| A0 <| A3 rfl rfl <| a0o rfl rfl <| xN [1,6,10,44] [1,6,400006] rfl ?_
   refine A9 rfl ?_ ?_ <;> intro hc <;> try simp only [SL] at hc
   ·refine A4 <| A0 <| A3 rfl rfl <| A3 rfl rfl ?_
    (refine B2 rfl rfl (by (simp; done)) rfl (fun _ => (B1 (by exact A7 fun _ => rfl))) (fun _ => rfl) ?_; intro g4)
    refine A5 rfl rfl rfl <| xN [4,5] [4] rfl <| B6 <| D3 (F9 rfl rfl (by simp) (by exact A7 fun _ => rfl) (D7 rfl rfl (E7 C5))) ?_
    obtain ⟨h1, h2, h3⟩ := a2a hc
    show _ = AV.tup [.own 4 ((stAdd (I8 (.lst ns) (-1) (-1)) (s0 :: sr)).map stO), iV (stIx (I8 (.lst ns) (-1) (-1)) (s0 :: sr) : Nat)]
    rw [h2, ← h1]
    rfl
   refine B5 <| A4 <| A0 <| A3 rfl rfl <| E5 rfl rfl rfl rfl rfl <| L7 (mk := 0) (fs := [_, _, _, _]) rfl rfl rfl (dT rfl) rfl rfl (F7 rfl (F7 rfl (F7 rfl (a1v rfl (by simp) (X1 fun _ => rfl) rfl K8)))) (fun _ _ => B4 (by rfl) (B4 (B1 (by rfl)) (G7 rfl))) ?_
   intro z49 g49
   simp only [K5, List.cons_append, List.nil_append]
   rw [b0a]
   refine H0 rfl rfl rfl rfl (by (simp; done)) (by simp) (by decide) rfl rfl rfl rfl (dT rfl) (fun _ => ⟨rfl, rfl⟩) (by simp only [H7]; (simp only [List.length_nil, List.length_cons, List.length_append, Nat.zero_add, List.length_map]; omega)) (fun _ => rfl) ?_
   intro g50
   refine A3 rfl rfl <| I1 rfl rfl ?_
   (refine B2 rfl rfl (by (simp; done)) rfl (fun _ => (B1 (by exact A7 fun _ => rfl))) (fun _ => rfl) ?_; intro g4)
   refine A5 rfl rfl rfl <| xN [4,5] [4] rfl <| B6 <| D3 (F9 rfl rfl (by simp) (by exact A7 fun _ => rfl) (D7 rfl rfl (E7 C5))) ?_
   obtain ⟨h1, h2⟩ := Z8 hc
   show _ = AV.tup [.own 4 ((stAdd (I8 (.lst ns) (-1) (-1)) (s0 :: sr)).map stO), iV (stIx (I8 (.lst ns) (-1) (-1)) (s0 :: sr) : Nat)]
   rw [h1, h2]
   rfl
  ·rw [b6u]
   have hwl : w ≠ lW := hgd.1
   refine a0e rfl rfl rfl (fun _ => C0 rfl) (fun _ => rfl) ?_
   intro g2
   (refine C2 rfl rfl (fun _ => rfl) ?_; intro g4)
   refine A5 rfl rfl rfl <| xN [1,2] [2] rfl <| A4 <| A0 <| A8 rfl rfl (dT rfl) rfl rfl <| B8 rfl rfl rfl rfl rfl rfl <| A8 rfl rfl (dT rfl) rfl rfl <| B8 rfl rfl rfl rfl rfl rfl ?_
   apply xC rfl
   ·apply B0
    ·exact B9 rfl
    exact C4
   ·exact a1r [] (by decide)
   refine ⟨⟨rfl, rfl, rfl, dT rfl, rfl⟩, .inl rfl, B3, L8, fun _ => rfl, fun g15 => ?_⟩
   simp only [List.length_map]
   refine I7 (fs := [_, iV (-1), iV (-1), _]) rfl rfl rfl rfl rfl <| G5 rfl (fun _ => C0 rfl) (fun _ => rfl) ?_
   intro g6
   refine I2 rfl rfl rfl rfl (F7 rfl (F7 rfl (F7 rfl (V8 (by decide) (by decide) rfl (by simp) fun _ => K8)))) (fun _ => rfl) ⟨by decide, rfl, dT rfl, Nat.le_refl _⟩ (fun _ => rfl) (fun _ => rfl) (fun _ => B4 (by rfl) (B4 (B1 (A7 fun _ => rfl)) (by rfl))) ?_
   intro z
   simp only [K5, List.cons_append, List.nil_append]
   refine G6 ⟨fun _ => ⟨by (simp only [O9, List.nil_append, List.append_nil, List.map_cons, List.map_nil, List.cons_append]; decide +kernel), by decide +kernel⟩, [(.t 1, _), (.t 2, _), (.t 6, _), (.h 2, _), (.h 6, _), (.h 400006, _)], ⟨rfl, rfl, rfl, rfl, rfl, rfl, rfl, rfl, rfl, rfl, rfl, rfl, trivial⟩, ?_⟩
   refine A4 <| A0 <| A8 rfl rfl (dT rfl) rfl rfl <| A8 rfl rfl (dT rfl) rfl rfl <| O7 rfl rfl rfl rfl (fun _ => rfl) (fun _ => rfl) ?_
   intro g19
   refine B2 rfl rfl (by simp) rfl (fun _ => rfl) (fun _ => rfl) ?_
   intro g7
   refine xN [1,2,6,7] [2,6,400006,7] rfl <| A4 <| A4 <| A0 <| A8 rfl rfl (dT rfl) rfl rfl <| B8 rfl rfl rfl rfl rfl rfl <| E8 rfl rfl <| A3 rfl rfl <| xN [1,6,7,21,22,23] [6,400006,7] rfl <| C6 <| G2 <| A4 <| A0 <| I0 rfl rfl <| xN [1,6,7,21,22,23,24] [6,400006,7] rfl <| A4 ?_
   refine A9 rfl (fun hc => absurd hc (by decide)) (fun hc => ?_)
   refine H1 <| A4 <| A0 <| A3 rfl rfl <| Q8 rfl rfl ?_
   apply xC rfl
   ·apply B0
    ·exact a7m (dT rfl)
    apply B0
    ·exact a2j rfl (a1t rfl (N7 (N7 (N7 (a5n rfl rfl (by simp) (fun _ => rfl) a4w)))) a2g)
    exact C4
   ·exact W6 [] ⟨by simp only [List.length_cons, List.length_nil] at *; omega, hss.2⟩ (I8 (.col w) (-1) (-1)) (by exact Nat.le_trans (S0 (a0w hgd)) (by decide))
   refine ⟨⟨rfl, rfl, rfl, dT rfl, rfl⟩, .inr ⟨rfl, rfl⟩, B3, C3 rfl, fun _ => rfl, fun g42 => ?_⟩
   refine A5 rfl rfl rfl <| xN [1,6,10] [6,400006] rfl <| A4 <| A4 <| A0 <| A3 rfl rfl <| a0o rfl rfl <| xN [1,6,10,44] [6,400006] rfl ?_
   refine A9 rfl ?_ ?_ <;> intro hc <;> try simp only [SL] at hc
   ·refine A4 <| A0 <| A3 rfl rfl <| A3 rfl rfl ?_
    (refine C2 rfl rfl (fun _ => rfl) ?_; intro g4)
    refine A5 rfl rfl rfl <| xN [4,5] [4] rfl <| B6 <| D3 (F9 rfl rfl (by simp) (by rfl) (D7 rfl rfl (E7 C5))) ?_
    obtain ⟨h1, h2, h3⟩ := a2a hc
    show _ = AV.tup [.own 4 ((stAdd (I8 (.col w) (-1) (-1)) []).map stO), iV (stIx (I8 (.col w) (-1) (-1)) [] : Nat)]
    rw [h2, ← h1]
    rfl
   refine B5 <| A4 <| A0 <| A3 rfl rfl <| E5 rfl rfl rfl rfl rfl <| L7 (mk := 0) (fs := [_, _, _, _]) rfl rfl rfl (dT rfl) rfl rfl (F7 rfl (F7 rfl (F7 rfl (a1v rfl (by simp) (X1 fun _ => rfl) rfl K8)))) (fun _ _ => B4 (by rfl) (B4 (B1 (by rfl)) (G7 rfl))) ?_
   intro z49 g49
   simp only [K5, List.cons_append, List.nil_append]
   rw [b0a]
   refine R7 rfl rfl rfl (by simp) (by decide) rfl rfl rfl (dT rfl) (fun _ => ⟨rfl, rfl⟩) (by simp only [H7]; (simp only [List.length_nil, List.length_cons, List.length_append, Nat.zero_add, List.length_map]; omega)) (fun _ => rfl) ?_
   intro g50
   refine A3 rfl rfl <| b5q rfl rfl ?_
   (refine B2 rfl rfl (by (simp; done)) rfl (fun _ => (B1 (by exact A7 fun _ => rfl))) (fun _ => rfl) ?_; intro g4)
   refine A5 rfl rfl rfl <| xN [4,5] [4] rfl <| B6 <| D3 (F9 rfl rfl (by simp) (by rfl) (D7 rfl rfl (E7 C5))) ?_
   obtain ⟨h1, h2⟩ := Z8 hc
   show _ = AV.tup [.own 4 ((stAdd (I8 (.col w) (-1) (-1)) []).map stO), iV (stIx (I8 (.col w) (-1) (-1)) [] : Nat)]
   rw [h1, h2]
   rfl
  ·rw [b6u]
   have hwl : w ≠ lW := hgd.1
   have hlc : (s0 :: sr).length = sr.length + 1 := rfl
   refine a0e rfl rfl rfl (fun _ => C0 rfl) (fun _ => rfl) ?_
   intro g2
   (refine C2 rfl rfl (fun _ => rfl) ?_; intro g4)
   refine A5 rfl rfl rfl <| xN [1,2] [1,2] rfl <| A4 <| A0 <| A8 rfl rfl (dT rfl) rfl rfl <| B8 rfl rfl rfl rfl rfl rfl <| A8 rfl rfl (dT rfl) rfl rfl <| B8 rfl rfl rfl rfl rfl rfl ?_
   apply xC rfl
   ·apply B0
    ·exact B9 rfl
    exact C4
   ·exact a1r [] (by decide)
   refine ⟨⟨rfl, rfl, rfl, dT rfl, rfl⟩, .inl rfl, B3, L8, fun _ => rfl, fun g15 => ?_⟩
   simp only [List.length_map]
   refine I7 (fs := [_, iV (-1), iV (-1), _]) rfl rfl rfl rfl rfl <| G5 rfl (fun _ => C0 rfl) (fun _ => rfl) ?_
   intro g6
   refine I2 rfl rfl rfl rfl (F7 rfl (F7 rfl (F7 rfl (V8 (by decide) (by decide) rfl (by simp) fun _ => K8)))) (fun _ => rfl) ⟨by decide, rfl, dT rfl, Nat.le_refl _⟩ (fun _ => rfl) (fun _ => rfl) (fun _ => B4 (by rfl) (B4 (B1 (A7 fun _ => rfl)) (by rfl))) ?_
   intro z
   simp only [K5, List.cons_append, List.nil_append]
   refine G6 ⟨fun _ => ⟨by (simp only [O9, List.nil_append, List.append_nil, List.map_cons, List.map_nil, List.cons_append]; decide +kernel), by decide +kernel⟩, [(.t 1, _), (.t 2, _), (.t 6, _), (.h 1, _), (.h 2, _), (.h 6, _), (.h 400006, _)], ⟨rfl, rfl, rfl, rfl, rfl, rfl, rfl, rfl, rfl, rfl, rfl, rfl, rfl, rfl, trivial⟩, ?_⟩
   refine A4 <| A0 <| A8 rfl rfl (dT rfl) rfl rfl <| A8 rfl rfl (dT rfl) rfl rfl <| O7 rfl rfl rfl rfl (fun _ => rfl) (fun _ => rfl) ?_
   intro g19
   refine B2 rfl rfl (by simp) rfl (fun _ => rfl) (fun _ => rfl) ?_
   intro g7
   refine xN [1,2,6,7] [1,2,6,400006,7] rfl <| A4 <| A4 <| A0 <| A8 rfl rfl (dT rfl) rfl rfl <| B8 rfl rfl rfl rfl rfl rfl <| E8 rfl rfl <| A3 rfl rfl <| xN [1,6,7,21,22,23] [1,6,400006,7] rfl <| C6 <| G2 <| A4 <| A0 <| I0 rfl rfl <| xN [1,6,7,21,22,23,24] [1,6,400006,7] rfl <| A4 ?_
   refine A9 rfl (fun hc => absurd hc (by decide)) (fun hc => ?_)
   refine H1 <| A4 <| A0 <| A3 rfl rfl <| Q8 rfl rfl ?_
   apply xC rfl
   ·apply B0
    ·exact O8 rfl rfl rfl (by (simp; done))
    apply B0
    ·exact a2j rfl (a1t rfl (N7 (N7 (N7 (a5n rfl rfl (by simp) (fun _ => rfl) a4w)))) a2g)
    exact C4
   ·exact W6 (s0 :: sr) ⟨by simp only [List.length_cons, List.length_nil] at *; omega, hss.2⟩ (I8 (.col w) (-1) (-1)) (by exact Nat.le_trans (S0 (a0w hgd)) (by decide))
   refine ⟨⟨rfl, rfl, rfl, dT rfl, rfl⟩, .inr ⟨rfl, rfl⟩, B3, C3 rfl, fun _ => rfl, fun g42 => ?_⟩
   refine A5 rfl rfl rfl <| xN [1,6,10] [1,6,400006] rfl <| A4 <| A4 <| A0 <| A3 rfl rfl <| a0o rfl rfl <| xN [1,6,10,44] [1,6,400006] rfl ?_
   refine A9 rfl ?_ ?_ <;> intro hc <;> try simp only [SL] at hc
   ·refine A4 <| A0 <| A3 rfl rfl <| A3 rfl rfl ?_
    (refine B2 rfl rfl (by (simp; done)) rfl (fun _ => (B1 (by exact A7 fun _ => rfl))) (fun _ => rfl) ?_; intro g4)
    refine A5 rfl rfl rfl <| xN [4,5] [4] rfl <| B6 <| D3 (F9 rfl rfl (by simp) (by exact A7 fun _ => rfl) (D7 rfl rfl (E7 C5))) ?_
    obtain ⟨h1, h2, h3⟩ := a2a hc
    show _ = AV.tup [.own 4 ((stAdd (I8 (.col w) (-1) (-1)) (s0 :: sr)).map stO), iV (stIx (I8 (.col w) (-1) (-1)) (s0 :: sr) : Nat)]
    rw [h2, ← h1]
    rfl
   refine B5 <| A4 <| A0 <| A3 rfl rfl <| E5 rfl rfl rfl rfl rfl <| L7 (mk := 0) (fs := [_, _, _, _]) rfl rfl rfl (dT rfl) rfl rfl (F7 rfl (F7 rfl (F7 rfl (a1v rfl (by simp) (X1 fun _ => rfl) rfl K8)))) (fun _ _ => B4 (by rfl) (B4 (B1 (by rfl)) (G7 rfl))) ?_
   intro z49 g49
   simp only [K5, List.cons_append, List.nil_append]
   rw [b0a]
   refine H0 rfl rfl rfl rfl (by (simp; done)) (by simp) (by decide) rfl rfl rfl rfl (dT rfl) (fun _ => ⟨rfl, rfl⟩) (by simp only [H7]; (simp only [List.length_nil, List.length_cons, List.length_append, Nat.zero_add, List.length_map]; omega)) (fun _ => rfl) ?_
   intro g50
   refine A3 rfl rfl <| I1 rfl rfl ?_
   (refine B2 rfl rfl (by (simp; done)) rfl (fun _ => (B1 (by exact A7 fun _ => rfl))) (fun _ => rfl) ?_; intro g4)
   refine A5 rfl rfl rfl <| xN [4,5] [4] rfl <| B6 <| D3 (F9 rfl rfl (by simp) (by exact A7 fun _ => rfl) (D7 rfl rfl (E7 C5))) ?_
   obtain ⟨h1, h2⟩ := Z8 hc
   show _ = AV.tup [.own 4 ((stAdd (I8 (.col w) (-1) (-1)) (s0 :: sr)).map stO), iV (stIx (I8 (.col w) (-1) (-1)) (s0 :: sr) : Nat)]
   rw [h1, h2]
   rfl
  ·rw [c2f]
   have hwl : w ≠ lW := hgd.1
   have hs1 := M1 p []
   have hsz1 : (Pl.un w p).sz = p.sz + 1 := rfl
   refine a0e rfl rfl rfl (fun _ => C0 rfl) (fun _ => rfl) ?_
   intro g2
   (refine C2 rfl rfl (fun _ => rfl) ?_; intro g4)
   refine A5 rfl rfl rfl <| xN [1,2] [2] rfl <| A4 <| A0 <| A8 rfl rfl (dT rfl) rfl rfl <| B8 rfl rfl rfl rfl rfl rfl <| A8 rfl rfl (dT rfl) rfl rfl <| B8 rfl rfl rfl rfl rfl rfl ?_
   apply xC rfl
   ·apply B0
    ·exact B9 rfl
    exact C4
   ·exact a1r [] (by decide)
   refine ⟨⟨rfl, rfl, rfl, dT rfl, rfl⟩, .inl rfl, B3, L8, fun _ => rfl, fun g15 => ?_⟩
   simp only [List.length_map]
   refine I7 (fs := [_, iV (-1), iV (-1), _]) rfl rfl rfl rfl rfl <| G5 rfl (fun _ => C0 rfl) (fun _ => rfl) ?_
   intro g6
   refine I2 rfl rfl rfl rfl (F7 rfl (F7 rfl (F7 rfl (V8 (by decide) (by decide) rfl (by simp) fun _ => K8)))) (fun _ => rfl) ⟨by decide, rfl, dT rfl, Nat.le_refl _⟩ (fun _ => rfl) (fun _ => rfl) (fun _ => B4 (by rfl) (B4 (B1 (A7 fun _ => rfl)) (by rfl))) ?_
   intro z
   simp only [K5, List.cons_append, List.nil_append]
   refine G6 ⟨fun _ => ⟨by (simp only [O9, List.nil_append, List.append_nil, List.map_cons, List.map_nil, List.cons_append]; decide +kernel), by decide +kernel⟩, [(.t 1, _), (.t 2, _), (.t 6, _), (.h 2, _), (.h 6, _), (.h 400006, _)], ⟨rfl, rfl, rfl, rfl, rfl, rfl, rfl, rfl, rfl, rfl, rfl, rfl, trivial⟩, ?_⟩
   refine A4 <| A0 <| A8 rfl rfl (dT rfl) rfl rfl <| A8 rfl rfl (dT rfl) rfl rfl <| O7 rfl rfl rfl rfl (fun _ => rfl) (fun _ => rfl) ?_
   intro g19
   refine B2 rfl rfl (by simp) rfl (fun _ => rfl) (fun _ => rfl) ?_
   intro g7
   refine xN [1,2,6,7] [2,6,400006,7] rfl <| A4 <| A4 <| A0 <| A8 rfl rfl (dT rfl) rfl rfl <| B8 rfl rfl rfl rfl rfl rfl <| E8 rfl rfl <| A3 rfl rfl <| xN [1,6,7,21,22,23] [6,400006,7] rfl <| C6 <| G2 <| A4 <| A0 <| I0 rfl rfl <| xN [1,6,7,21,22,23,24] [6,400006,7] rfl <| A4 ?_
   refine A9 rfl (fun hc => ?_) (fun hc => absurd hc (by exact fun h => Bool.noConfusion (show true = false from h)))
   refine B5 <| A4 <| C6 <| A4 <| A0 <| A3 rfl rfl <| J3 rfl rfl rfl (fun _ => rfl) (by show (0 : Int) ≤ 0 ∧ (0 : Int) < ((1 : Nat) : Int); omega) <| F5 rfl rfl rfl <| G5 rfl (fun _ => C0 rfl) (fun _ => rfl) ?_
   intro g9
   refine A5 rfl rfl rfl <| C7 rfl rfl rfl rfl ⟨by decide, rfl, dT rfl, dT rfl, rfl⟩ rfl (by exact C0 rfl) <| xN [1,6,7,8,9,21,22,23] [6,400006,7,9] rfl <| A0 <| A3 rfl rfl <| A3 rfl rfl <| E3 rfl rfl rfl rfl (by (change 0 < _; omega)) (by (simp; done)) rfl <| T5 rfl rfl rfl rfl rfl <| E5 rfl rfl rfl rfl rfl <| A3 rfl rfl ?_
   apply xC rfl
   ·apply B0
    ·exact B9 rfl
    apply B0
    ·exact b7v ⟨dT rfl, dT rfl⟩
    exact C4
   ·exact (by have hi := ih p [] ⟨by simp only [List.length_cons, List.length_nil] at *; omega, hss.2⟩ hgd.2.2 (by omega); rw [← a4m] at hi; exact hi)
   refine ⟨⟨rfl, rfl, rfl, dT rfl, rfl⟩, .inl rfl, B3, H8 (M3 fun _ => I9 rfl M0), fun _ => B4 (B1 (A7 fun _ => rfl)) (by rfl), fun g35 => ?_⟩
   simp only [List.length_map]
   refine A3 rfl rfl <| B7 rfl rfl rfl <| B7 rfl rfl rfl ?_
   (refine B2 rfl rfl (by (simp; done)) rfl (fun _ => (B1 (by exact A7 fun _ => rfl))) (fun _ => rfl) ?_; intro g1)
   refine J8 rfl rfl rfl <| V6 rfl rfl rfl rfl rfl ⟨by decide, rfl, dT rfl, dT rfl, rfl⟩ rfl ?_
   refine G6 ⟨fun _ => ⟨by (simp only [O9, List.nil_append, List.append_nil, List.map_cons, List.map_nil, List.cons_append]; decide +kernel), by decide +kernel⟩, [(.t 1, _), (.t 6, _), (.t 7, _), (.t 21, _), (.t 22, _), (.t 23, _), (.h 1, _), (.h 6, _), (.h 400006, _), (.h 7, _)], ⟨rfl, rfl, rfl, rfl, rfl, rfl, rfl, rfl, rfl, rfl, rfl, rfl, rfl, rfl, rfl, rfl, rfl, rfl, rfl, rfl, trivial⟩, ?_⟩
   refine A0 <| H5 rfl rfl (F4 (by omega)) <| A3 rfl rfl <| xN [1,6,7,21,22,23] [1,6,400006,7] rfl <| G2 <| A4 <| A0 <| I0 rfl rfl <| xN [1,6,7,21,22,23,24] [1,6,400006,7] rfl <| A4 ?_
   refine A9 rfl (fun hc => absurd hc (by exact fun h => Bool.noConfusion (show false = true from h))) (fun hc => ?_)
   refine H1 <| A4 <| A0 <| A3 rfl rfl <| Q8 rfl rfl ?_
   apply xC rfl
   ·apply B0
    ·exact O8 rfl rfl rfl (by (simp; done))
    apply B0
    ·exact a2j rfl (a1t rfl (N7 (N7 (N7 (a5n rfl rfl (by simp) (fun _ => rfl) a4w)))) a2g)
    exact C4
   ·exact W6 (shareP p []).1 ⟨by simp only [List.length_cons, List.length_nil] at *; omega, (Q4 p _ hgd.2.2 hss.2)⟩ (I8 (.un w p) ((shareP p []).2 : Int) (-1)) (by exact Nat.le_trans (S0 (a0w hgd)) (by decide))
   refine ⟨⟨rfl, rfl, rfl, dT rfl, rfl⟩, .inr ⟨rfl, rfl⟩, B3, C3 rfl, fun _ => rfl, fun g42 => ?_⟩
   refine A5 rfl rfl rfl <| xN [1,6,10] [1,6,400006] rfl <| A4 <| A4 <| A0 <| A3 rfl rfl <| a0o rfl rfl <| xN [1,6,10,44] [1,6,400006] rfl ?_
   refine A9 rfl ?_ ?_ <;> intro hc <;> try simp only [SL] at hc
   ·refine A4 <| A0 <| A3 rfl rfl <| A3 rfl rfl ?_
    (refine B2 rfl rfl (by (simp; done)) rfl (fun _ => (B1 (by exact A7 fun _ => rfl))) (fun _ => rfl) ?_; intro g4)
    refine A5 rfl rfl rfl <| xN [4,5] [4] rfl <| B6 <| D3 (F9 rfl rfl (by simp) (by exact A7 fun _ => rfl) (D7 rfl rfl (E7 C5))) ?_
    obtain ⟨h1, h2, h3⟩ := a2a hc
    show _ = AV.tup [.own 4 ((stAdd (I8 (.un w p) ((shareP p []).2 : Int) (-1)) (shareP p []).1).map stO), iV (stIx (I8 (.un w p) ((shareP p []).2 : Int) (-1)) (shareP p []).1 : Nat)]
    rw [h2, ← h1]
    rfl
   refine B5 <| A4 <| A0 <| A3 rfl rfl <| E5 rfl rfl rfl rfl rfl <| L7 (mk := 0) (fs := [_, _, _, _]) rfl rfl rfl (dT rfl) rfl rfl (F7 rfl (F7 rfl (F7 rfl (a1v rfl (by simp) (X1 fun _ => rfl) rfl K8)))) (fun _ _ => B4 (by rfl) (B4 (B1 (by rfl)) (G7 rfl))) ?_
   intro z49 g49
   simp only [K5, List.cons_append, List.nil_append]
   rw [b0a]
   refine H0 rfl rfl rfl rfl (by (simp; done)) (by simp) (by decide) rfl rfl rfl rfl (dT rfl) (fun _ => ⟨rfl, rfl⟩) (by simp only [H7]; (simp only [List.length_nil, List.length_cons, List.length_append, Nat.zero_add, List.length_map]; omega)) (fun _ => rfl) ?_
   intro g50
   refine A3 rfl rfl <| I1 rfl rfl ?_
   (refine B2 rfl rfl (by (simp; done)) rfl (fun _ => (B1 (by exact A7 fun _ => rfl))) (fun _ => rfl) ?_; intro g4)
   refine A5 rfl rfl rfl <| xN [4,5] [4] rfl <| B6 <| D3 (F9 rfl rfl (by simp) (by exact A7 fun _ => rfl) (D7 rfl rfl (E7 C5))) ?_
   obtain ⟨h1, h2⟩ := Z8 hc
   show _ = AV.tup [.own 4 ((stAdd (I8 (.un w p) ((shareP p []).2 : Int) (-1)) (shareP p []).1).map stO), iV (stIx (I8 (.un w p) ((shareP p []).2 : Int) (-1)) (shareP p []).1 : Nat)]
   rw [h1, h2]
   rfl
  ·rw [c2f]
   have hwl : w ≠ lW := hgd.1
   have hs1 := M1 p (s0 :: sr)
   have hsz1 : (Pl.un w p).sz = p.sz + 1 := rfl
   have hlc : (s0 :: sr).length = sr.length + 1 := rfl
   refine a0e rfl rfl rfl (fun _ => C0 rfl) (fun _ => rfl) ?_
   intro g2
   (refine C2 rfl rfl (fun _ => rfl) ?_; intro g4)
   refine A5 rfl rfl rfl <| xN [1,2] [1,2] rfl <| A4 <| A0 <| A8 rfl rfl (dT rfl) rfl rfl <| B8 rfl rfl rfl rfl rfl rfl <| A8 rfl rfl (dT rfl) rfl rfl <| B8 rfl rfl rfl rfl rfl rfl ?_
   apply xC rfl
   ·apply B0
    ·exact B9 rfl
    exact C4
   ·exact a1r [] (by decide)
   refine ⟨⟨rfl, rfl, rfl, dT rfl, rfl⟩, .inl rfl, B3, L8, fun _ => rfl, fun g15 => ?_⟩
   simp only [List.length_map]
   refine I7 (fs := [_, iV (-1), iV (-1), _]) rfl rfl rfl rfl rfl <| G5 rfl (fun _ => C0 rfl) (fun _ => rfl) ?_
   intro g6
   refine I2 rfl rfl rfl rfl (F7 rfl (F7 rfl (F7 rfl (V8 (by decide) (by decide) rfl (by simp) fun _ => K8)))) (fun _ => rfl) ⟨by decide, rfl, dT rfl, Nat.le_refl _⟩ (fun _ => rfl) (fun _ => rfl) (fun _ => B4 (by rfl) (B4 (B1 (A7 fun _ => rfl)) (by rfl))) ?_
   intro z
   simp only [K5, List.cons_append, List.nil_append]
   refine G6 ⟨fun _ => ⟨by (simp only [O9, List.nil_append, List.append_nil, List.map_cons, List.map_nil, List.cons_append]; decide +kernel), by decide +kernel⟩, [(.t 1, _), (.t 2, _), (.t 6, _), (.h 1, _), (.h 2, _), (.h 6, _), (.h 400006, _)], ⟨rfl, rfl, rfl, rfl, rfl, rfl, rfl, rfl, rfl, rfl, rfl, rfl, rfl, rfl, trivial⟩, ?_⟩
   refine A4 <| A0 <| A8 rfl rfl (dT rfl) rfl rfl <| A8 rfl rfl (dT rfl) rfl rfl <| O7 rfl rfl rfl rfl (fun _ => rfl) (fun _ => rfl) ?_
   intro g19
   refine B2 rfl rfl (by simp) rfl (fun _ => rfl) (fun _ => rfl) ?_
   intro g7
   refine xN [1,2,6,7] [1,2,6,400006,7] rfl <| A4 <| A4 <| A0 <| A8 rfl rfl (dT rfl) rfl rfl <| B8 rfl rfl rfl rfl rfl rfl <| E8 rfl rfl <| A3 rfl rfl <| xN [1,6,7,21,22,23] [1,6,400006,7] rfl <| C6 <| G2 <| A4 <| A0 <| I0 rfl rfl <| xN [1,6,7,21,22,23,24] [1,6,400006,7] rfl <| A4 ?_
   refine A9 rfl (fun hc => ?_) (fun hc => absurd hc (by exact fun h => Bool.noConfusion (show true = false from h)))
   refine B5 <| A4 <| C6 <| A4 <| A0 <| A3 rfl rfl <| J3 rfl rfl rfl (fun _ => rfl) (by show (0 : Int) ≤ 0 ∧ (0 : Int) < ((1 : Nat) : Int); omega) <| F5 rfl rfl rfl <| G5 rfl (fun _ => C0 rfl) (fun _ => rfl) ?_
   intro g9
   refine A5 rfl rfl rfl <| C7 rfl rfl rfl rfl ⟨by decide, rfl, dT rfl, dT rfl, rfl⟩ rfl (by exact C0 rfl) <| xN [1,6,7,8,9,21,22,23] [1,6,400006,7,9] rfl <| A0 <| A3 rfl rfl <| A3 rfl rfl <| E3 rfl rfl rfl rfl (by (change 0 < _; omega)) (by (simp; done)) rfl <| T5 rfl rfl rfl rfl rfl <| E5 rfl rfl rfl rfl rfl <| A3 rfl rfl ?_
   apply xC rfl
   ·apply B0
    ·exact B9 rfl
    apply B0
    ·exact Z5 rfl rfl (by (simp; done)) (A7 fun _ => rfl)
    exact C4
   ·exact (by have hi := ih p (s0 :: sr) ⟨by simp only [List.length_cons, List.length_nil] at *; omega, hss.2⟩ hgd.2.2 (by omega); rw [← a4m] at hi; exact hi)
   refine ⟨⟨rfl, rfl, rfl, dT rfl, rfl⟩, .inl rfl, B3, H8 (M3 fun _ => I9 rfl M0), fun _ => B4 (by rfl) (B4 (B1 (A7 fun _ => rfl)) (by rfl)), fun g35 => ?_⟩
   simp only [List.length_map]
   refine A3 rfl rfl <| B7 rfl rfl rfl <| B7 rfl rfl rfl ?_
   (refine B2 rfl rfl (by (simp; done)) rfl (fun _ => (B1 (by exact A7 fun _ => rfl))) (fun _ => rfl) ?_; intro g1)
   refine J8 rfl rfl rfl <| V6 rfl rfl rfl rfl rfl ⟨by decide, rfl, dT rfl, dT rfl, rfl⟩ rfl ?_
   refine G6 ⟨fun _ => ⟨by (simp only [O9, List.nil_append, List.append_nil, List.map_cons, List.map_nil, List.cons_append]; decide +kernel), by decide +kernel⟩, [(.t 1, _), (.t 6, _), (.t 7, _), (.t 21, _), (.t 22, _), (.t 23, _), (.h 1, _), (.h 6, _), (.h 400006, _), (.h 7, _)], ⟨rfl, rfl, rfl, rfl, rfl, rfl, rfl, rfl, rfl, rfl, rfl, rfl, rfl, rfl, rfl, rfl, rfl, rfl, rfl, rfl, trivial⟩, ?_⟩
   refine A0 <| H5 rfl rfl (F4 (by omega)) <| A3 rfl rfl <| xN [1,6,7,21,22,23] [1,6,400006,7] rfl <| G2 <| A4 <| A0 <| I0 rfl rfl <| xN [1,6,7,21,22,23,24] [1,6,400006,7] rfl <| A4 ?_
   refine A9 rfl (fun hc => absurd hc (by exact fun h => Bool.noConfusion (show false = true from h))) (fun hc => ?_)
   refine H1 <| A4 <| A0 <| A3 rfl rfl <| Q8 rfl rfl ?_
   apply xC rfl
   ·apply B0
    ·exact O8 rfl rfl rfl (by (simp; done))
    apply B0
    ·exact a2j rfl (a1t rfl (N7 (N7 (N7 (a5n rfl rfl (by simp) (fun _ => rfl) a4w)))) a2g)
    exact C4
   ·exact W6 (shareP p (s0 :: sr)).1 ⟨by simp only [List.length_cons, List.length_nil] at *; omega, (Q4 p _ hgd.2.2 hss.2)⟩ (I8 (.un w p) ((shareP p (s0 :: sr)).2 : Int) (-1)) (by exact Nat.le_trans (S0 (a0w hgd)) (by decide))
   refine ⟨⟨rfl, rfl, rfl, dT rfl, rfl⟩, .inr ⟨rfl, rfl⟩, B3, C3 rfl, fun _ => rfl, fun g42 => ?_⟩
   refine A5 rfl rfl rfl <| xN [1,6,10] [1,6,400006] rfl <| A4 <| A4 <| A0 <| A3 rfl rfl <| a0o rfl rfl <| xN [1,6,10,44] [1,6,400006] rfl ?_
   refine A9 rfl ?_ ?_ <;> intro hc <;> try simp only [SL] at hc
   ·refine A4 <| A0 <| A3 rfl rfl <| A3 rfl rfl ?_
    (refine B2 rfl rfl (by (simp; done)) rfl (fun _ => (B1 (by exact A7 fun _ => rfl))) (fun _ => rfl) ?_; intro g4)
    refine A5 rfl rfl rfl <| xN [4,5] [4] rfl <| B6 <| D3 (F9 rfl rfl (by simp) (by exact A7 fun _ => rfl) (D7 rfl rfl (E7 C5))) ?_
    obtain ⟨h1, h2, h3⟩ := a2a hc
    show _ = AV.tup [.own 4 ((stAdd (I8 (.un w p) ((shareP p (s0 :: sr)).2 : Int) (-1)) (shareP p (s0 :: sr)).1).map stO), iV (stIx (I8 (.un w p) ((shareP p (s0 :: sr)).2 : Int) (-1)) (shareP p (s0 :: sr)).1 : Nat)]
    rw [h2, ← h1]
    rfl
   refine B5 <| A4 <| A0 <| A3 rfl rfl <| E5 rfl rfl rfl rfl rfl <| L7 (mk := 0) (fs := [_, _, _, _]) rfl rfl rfl (dT rfl) rfl rfl (F7 rfl (F7 rfl (F7 rfl (a1v rfl (by simp) (X1 fun _ => rfl) rfl K8)))) (fun _ _ => B4 (by rfl) (B4 (B1 (by rfl)) (G7 rfl))) ?_
   intro z49 g49
   simp only [K5, List.cons_append, List.nil_append]
   rw [b0a]
   refine H0 rfl rfl rfl rfl (by (simp; done)) (by simp) (by decide) rfl rfl rfl rfl (dT rfl) (fun _ => ⟨rfl, rfl⟩) (by simp only [H7]; (simp only [List.length_nil, List.length_cons, List.length_append, Nat.zero_add, List.length_map]; omega)) (fun _ => rfl) ?_
   intro g50
   refine A3 rfl rfl <| I1 rfl rfl ?_
   (refine B2 rfl rfl (by (simp; done)) rfl (fun _ => (B1 (by exact A7 fun _ => rfl))) (fun _ => rfl) ?_; intro g4)
   refine A5 rfl rfl rfl <| xN [4,5] [4] rfl <| B6 <| D3 (F9 rfl rfl (by simp) (by exact A7 fun _ => rfl) (D7 rfl rfl (E7 C5))) ?_
   obtain ⟨h1, h2⟩ := Z8 hc
   show _ = AV.tup [.own 4 ((stAdd (I8 (.un w p) ((shareP p (s0 :: sr)).2 : Int) (-1)) (shareP p (s0 :: sr)).1).map stO), iV (stIx (I8 (.un w p) ((shareP p (s0 :: sr)).2 : Int) (-1)) (shareP p (s0 :: sr)).1 : Nat)]
   rw [h1, h2]
   rfl
  ·rw [b6w]
   have hwl : w ≠ lW := hgd.1
   have hs1 := M1 p []
   have hs2 := M1 q (shareP p []).1
   have hsz1 : (Pl.bin w p q).sz = p.sz + q.sz + 1 := rfl
   refine a0e rfl rfl rfl (fun _ => C0 rfl) (fun _ => rfl) ?_
   intro g2
   (refine C2 rfl rfl (fun _ => rfl) ?_; intro g4)
   refine A5 rfl rfl rfl <| xN [1,2] [2] rfl <| A4 <| A0 <| A8 rfl rfl (dT rfl) rfl rfl <| B8 rfl rfl rfl rfl rfl rfl <| A8 rfl rfl (dT rfl) rfl rfl <| B8 rfl rfl rfl rfl rfl rfl ?_
   apply xC rfl
   ·apply B0
    ·exact B9 rfl
    exact C4
   ·exact a1r [] (by decide)
   refine ⟨⟨rfl, rfl, rfl, dT rfl, rfl⟩, .inl rfl, B3, L8, fun _ => rfl, fun g15 => ?_⟩
   simp only [List.length_map]
   refine I7 (fs := [_, iV (-1), iV (-1), _]) rfl rfl rfl rfl rfl <| G5 rfl (fun _ => C0 rfl) (fun _ => rfl) ?_
   intro g6
   refine I2 rfl rfl rfl rfl (F7 rfl (F7 rfl (F7 rfl (V8 (by decide) (by decide) rfl (by simp) fun _ => K8)))) (fun _ => rfl) ⟨by decide, rfl, dT rfl, Nat.le_refl _⟩ (fun _ => rfl) (fun _ => rfl) (fun _ => B4 (by rfl) (B4 (B1 (A7 fun _ => rfl)) (by rfl))) ?_
   intro z
   simp only [K5, List.cons_append, List.nil_append]
   refine G6 ⟨fun _ => ⟨by (simp only [O9, List.nil_append, List.append_nil, List.map_cons, List.map_nil, List.cons_append]; decide +kernel), by decide +kernel⟩, [(.t 1, _), (.t 2, _), (.t 6, _), (.h 2, _), (.h 6, _), (.h 400006, _)], ⟨rfl, rfl, rfl, rfl, rfl, rfl, rfl, rfl, rfl, rfl, rfl, rfl, trivial⟩, ?_⟩
   refine A4 <| A0 <| A8 rfl rfl (dT rfl) rfl rfl <| A8 rfl rfl (dT rfl) rfl rfl <| O7 rfl rfl rfl rfl (fun _ => rfl) (fun _ => rfl) ?_
   intro g19
   refine B2 rfl rfl (by simp) rfl (fun _ => rfl) (fun _ => rfl) ?_
   intro g7
   refine xN [1,2,6,7] [2,6,400006,7] rfl <| A4 <| A4 <| A0 <| A8 rfl rfl (dT rfl) rfl rfl <| B8 rfl rfl rfl rfl rfl rfl <| E8 rfl rfl <| A3 rfl rfl <| xN [1,6,7,21,22,23] [6,400006,7] rfl <| C6 <| G2 <| A4 <| A0 <| I0 rfl rfl <| xN [1,6,7,21,22,23,24] [6,400006,7] rfl <| A4 ?_
   refine A9 rfl (fun hc => ?_) (fun hc => absurd hc (by exact fun h => Bool.noConfusion (show true = false from h)))
   refine B5 <| A4 <| C6 <| A4 <| A0 <| A3 rfl rfl <| J3 rfl rfl rfl (fun _ => rfl) (by show (0 : Int) ≤ 0 ∧ (0 : Int) < ((2 : Nat) : Int); omega) <| F5 rfl rfl rfl <| G5 rfl (fun _ => C0 rfl) (fun _ => rfl) ?_
   intro g9
   refine A5 rfl rfl rfl <| C7 rfl rfl rfl rfl ⟨by decide, rfl, dT rfl, dT rfl, rfl⟩ rfl (by exact C0 rfl) <| xN [1,6,7,8,9,21,22,23] [6,400006,7,9] rfl <| A0 <| A3 rfl rfl <| A3 rfl rfl <| E3 rfl rfl rfl rfl (by (change 0 < _; omega)) (by (simp; done)) rfl <| T5 rfl rfl rfl rfl rfl <| E5 rfl rfl rfl rfl rfl <| A3 rfl rfl ?_
   apply xC rfl
   ·apply B0
    ·exact B9 rfl
    apply B0
    ·exact b7v ⟨dT rfl, dT rfl⟩
    exact C4
   ·exact (by have hi := ih p [] ⟨by simp only [List.length_cons, List.length_nil] at *; omega, hss.2⟩ hgd.2.2.1 (by omega); rw [← a4m] at hi; exact hi)
   refine ⟨⟨rfl, rfl, rfl, dT rfl, rfl⟩, .inl rfl, B3, H8 (M3 fun _ => I9 rfl M0), fun _ => B4 (B1 (A7 fun _ => rfl)) (by rfl), fun g35 => ?_⟩
   simp only [List.length_map]
   refine A3 rfl rfl <| B7 rfl rfl rfl <| B7 rfl rfl rfl ?_
   (refine B2 rfl rfl (by (simp; done)) rfl (fun _ => (B1 (by exact A7 fun _ => rfl))) (fun _ => rfl) ?_; intro g1)
   refine J8 rfl rfl rfl <| V6 rfl rfl rfl rfl rfl ⟨by decide, rfl, dT rfl, dT rfl, rfl⟩ rfl ?_
   refine G6 ⟨fun _ => ⟨by (simp only [O9, List.nil_append, List.append_nil, List.map_cons, List.map_nil, List.cons_append]; decide +kernel), by decide +kernel⟩, [(.t 1, _), (.t 6, _), (.t 7, _), (.t 21, _), (.t 22, _), (.t 23, _), (.h 1, _), (.h 6, _), (.h 400006, _), (.h 7, _)], ⟨rfl, rfl, rfl, rfl, rfl, rfl, rfl, rfl, rfl, rfl, rfl, rfl, rfl, rfl, rfl, rfl, rfl, rfl, rfl, rfl, trivial⟩, ?_⟩
   refine A0 <| H5 rfl rfl (F4 (by omega)) <| A3 rfl rfl <| xN [1,6,7,21,22,23] [1,6,400006,7] rfl <| G2 <| A4 <| A0 <| I0 rfl rfl <| xN [1,6,7,21,22,23,24] [1,6,400006,7] rfl <| A4 ?_
   refine A9 rfl (fun hc => ?_) (fun hc => absurd hc (by exact fun h => Bool.noConfusion (show true = false from h)))
   refine B5 <| A4 <| C6 <| A4 <| A0 <| A3 rfl rfl <| J3 rfl rfl rfl (fun _ => rfl) (by show (0 : Int) ≤ 1 ∧ (1 : Int) < ((2 : Nat) : Int); omega) <| F5 rfl rfl rfl <| G5 rfl (fun _ => C0 rfl) (fun _ => rfl) ?_
   intro g9
   refine A5 rfl rfl rfl <| C7 rfl rfl rfl rfl ⟨by decide, rfl, dT rfl, dT rfl, rfl⟩ rfl (by exact C0 rfl) <| xN [1,6,7,8,9,21,22,23] [1,6,400006,7,9] rfl <| A0 <| A3 rfl rfl <| A3 rfl rfl <| E3 rfl rfl rfl rfl (by (simp; done)) (by (simp; done)) rfl <| T5 rfl rfl rfl rfl rfl <| E5 rfl rfl rfl rfl rfl <| A3 rfl rfl ?_
   apply xC rfl
   ·apply B0
    ·exact B9 rfl
    apply B0
    ·exact Z5 rfl rfl (by (simp; done)) (A7 fun _ => rfl)
    exact C4
   ·exact (by have hi := ih q (shareP p []).1 ⟨by simp only [List.length_cons, List.length_nil] at *; omega, (Q4 p _ hgd.2.2.1 hss.2)⟩ hgd.2.2.2 (by omega); rw [← a4m] at hi; rw [c7n (by omega)] at hi; exact hi)
   refine ⟨⟨rfl, rfl, rfl, dT rfl, rfl⟩, .inl rfl, B3, H8 (M3 fun _ => I9 rfl M0), fun _ => B4 (by rfl) (B4 (B1 (A7 fun _ => rfl)) (by rfl)), fun g35 => ?_⟩
   simp only [List.length_map]
   refine A3 rfl rfl <| B7 rfl rfl rfl <| B7 rfl rfl rfl ?_
   (refine B2 rfl rfl (by (simp; done)) rfl (fun _ => (B1 (by exact A7 fun _ => rfl))) (fun _ => rfl) ?_; intro g1)
   refine J8 rfl rfl rfl <| V6 rfl rfl rfl rfl rfl ⟨by decide, rfl, dT rfl, dT rfl, rfl⟩ rfl ?_
   refine G6 ⟨fun _ => ⟨by (simp only [O9, List.nil_append, List.append_nil, List.map_cons, List.map_nil, List.cons_append]; decide +kernel), by decide +kernel⟩, [(.t 1, _), (.t 6, _), (.t 7, _), (.t 21, _), (.t 22, _), (.t 23, _), (.h 1, _), (.h 6, _), (.h 400006, _), (.h 7, _)], ⟨rfl, rfl, rfl, rfl, rfl, rfl, rfl, rfl, rfl, rfl, rfl, rfl, rfl, rfl, rfl, rfl, rfl, rfl, rfl, rfl, trivial⟩, ?_⟩
   refine A0 <| H5 rfl rfl (F4 (by omega)) <| A3 rfl rfl <| xN [1,6,7,21,22,23] [1,6,400006,7] rfl <| G2 <| A4 <| A0 <| I0 rfl rfl <| xN [1,6,7,21,22,23,24] [1,6,400006,7] rfl <| A4 ?_
   refine A9 rfl (fun hc => absurd hc (by exact fun h => Bool.noConfusion (show false = true from h))) (fun hc => ?_)
   refine H1 <| A4 <| A0 <| A3 rfl rfl <| Q8 rfl rfl ?_
   apply xC rfl
   ·apply B0
    ·exact O8 rfl rfl rfl (by (simp; done))
    apply B0
    ·exact a2j rfl (a1t rfl (N7 (N7 (N7 (a5n rfl rfl (by simp) (fun _ => rfl) a4w)))) a2g)
    exact C4
   ·exact W6 (shareP q (shareP p []).1).1 ⟨by simp only [List.length_cons, List.length_nil] at *; omega, (Q4 q _ hgd.2.2.2 (Q4 p _ hgd.2.2.1 hss.2))⟩ (I8 (.bin w p q) ((shareP p []).2 : Int) ((shareP q (shareP p []).1).2 : Int)) (by exact Nat.le_trans (S0 (a0w hgd)) (by decide))
   refine ⟨⟨rfl, rfl, rfl, dT rfl, rfl⟩, .inr ⟨rfl, rfl⟩, B3, C3 rfl, fun _ => rfl, fun g42 => ?_⟩
   refine A5 rfl rfl rfl <| xN [1,6,10] [1,6,400006] rfl <| A4 <| A4 <| A0 <| A3 rfl rfl <| a0o rfl rfl <| xN [1,6,10,44] [1,6,400006] rfl ?_
   refine A9 rfl ?_ ?_ <;> intro hc <;> try simp only [SL] at hc
   ·refine A4 <| A0 <| A3 rfl rfl <| A3 rfl rfl ?_
    (refine B2 rfl rfl (by (simp; done)) rfl (fun _ => (B1 (by exact A7 fun _ => rfl))) (fun _ => rfl) ?_; intro g4)
    refine A5 rfl rfl rfl <| xN [4,5] [4] rfl <| B6 <| D3 (F9 rfl rfl (by simp) (by exact A7 fun _ => rfl) (D7 rfl rfl (E7 C5))) ?_
    obtain ⟨h1, h2, h3⟩ := a2a hc
    show _ = AV.tup [.own 4 ((stAdd (I8 (.bin w p q) ((shareP p []).2 : Int) ((shareP q (shareP p []).1).2 : Int)) (shareP q (shareP p []).1).1).map stO), iV (stIx (I8 (.bin w p q) ((shareP p []).2 : Int) ((shareP q (shareP p []).1).2 : Int)) (shareP q (shareP p []).1).1 : Nat)]
    rw [h2, ← h1]
    rfl
   refine B5 <| A4 <| A0 <| A3 rfl rfl <| E5 rfl rfl rfl rfl rfl <| L7 (mk := 0) (fs := [_, _, _, _]) rfl rfl rfl (dT rfl) rfl rfl (F7 rfl (F7 rfl (F7 rfl (a1v rfl (by simp) (X1 fun _ => rfl) rfl K8)))) (fun _ _ => B4 (by rfl) (B4 (B1 (by rfl)) (G7 rfl))) ?_
   intro z49 g49
   simp only [K5, List.cons_append, List.nil_append]
   rw [b0a]
   refine H0 rfl rfl rfl rfl (by (simp; done)) (by simp) (by decide) rfl rfl rfl rfl (dT rfl) (fun _ => ⟨rfl, rfl⟩) (by simp only [H7]; (simp only [List.length_nil, List.length_cons, List.length_append, Nat.zero_add, List.length_map]; omega)) (fun _ => rfl) ?_
   intro g50
   refine A3 rfl rfl <| I1 rfl rfl ?_
   (refine B2 rfl rfl (by (simp; done)) rfl (fun _ => (B1 (by exact A7 fun _ => rfl))) (fun _ => rfl) ?_; intro g4)
   refine A5 rfl rfl rfl <| xN [4,5] [4] rfl <| B6 <| D3 (F9 rfl rfl (by simp) (by exact A7 fun _ => rfl) (D7 rfl rfl (E7 C5))) ?_
   obtain ⟨h1, h2⟩ := Z8 hc
   show _ = AV.tup [.own 4 ((stAdd (I8 (.bin w p q) ((shareP p []).2 : Int) ((shareP q (shareP p []).1).2 : Int)) (shareP q (shareP p []).1).1).map stO), iV (stIx (I8 (.bin w p q) ((shareP p []).2 : Int) ((shareP q (shareP p []).1).2 : Int)) (shareP q (shareP p []).1).1 : Nat)]
   rw [h1, h2]
   rfl
  rw [b6w]
  have hwl : w ≠ lW := hgd.1
  have hs1 := M1 p (s0 :: sr)
  have hs2 := M1 q (shareP p (s0 :: sr)).1
  have hsz1 : (Pl.bin w p q).sz = p.sz + q.sz + 1 := rfl
  have hlc : (s0 :: sr).length = sr.length + 1 := rfl
  refine a0e rfl rfl rfl (fun _ => C0 rfl) (fun _ => rfl) ?_
  intro g2
  (refine C2 rfl rfl (fun _ => rfl) ?_; intro g4)
  refine A5 rfl rfl rfl <| xN [1,2] [1,2] rfl <| A4 <| A0 <| A8 rfl rfl (dT rfl) rfl rfl <| B8 rfl rfl rfl rfl rfl rfl <| A8 rfl rfl (dT rfl) rfl rfl <| B8 rfl rfl rfl rfl rfl rfl ?_
  apply xC rfl
  ·apply B0
   ·exact B9 rfl
   exact C4
  ·exact a1r [] (by decide)
  refine ⟨⟨rfl, rfl, rfl, dT rfl, rfl⟩, .inl rfl, B3, L8, fun _ => rfl, fun g15 => ?_⟩
  simp only [List.length_map]
  refine I7 (fs := [_, iV (-1), iV (-1), _]) rfl rfl rfl rfl rfl <| G5 rfl (fun _ => C0 rfl) (fun _ => rfl) ?_
  intro g6
  refine I2 rfl rfl rfl rfl (F7 rfl (F7 rfl (F7 rfl (V8 (by decide) (by decide) rfl (by simp) fun _ => K8)))) (fun _ => rfl) ⟨by decide, rfl, dT rfl, Nat.le_refl _⟩ (fun _ => rfl) (fun _ => rfl) (fun _ => B4 (by rfl) (B4 (B1 (A7 fun _ => rfl)) (by rfl))) ?_
  intro z
  simp only [K5, List.cons_append, List.nil_append]
  refine G6 ⟨fun _ => ⟨by (simp only [O9, List.nil_append, List.append_nil, List.map_cons, List.map_nil, List.cons_append]; decide +kernel), by decide +kernel⟩, [(.t 1, _), (.t 2, _), (.t 6, _), (.h 1, _), (.h 2, _), (.h 6, _), (.h 400006, _)], ⟨rfl, rfl, rfl, rfl, rfl, rfl, rfl, rfl, rfl, rfl, rfl, rfl, rfl, rfl, trivial⟩, ?_⟩
  refine A4 <| A0 <| A8 rfl rfl (dT rfl) rfl rfl <| A8 rfl rfl (dT rfl) rfl rfl <| O7 rfl rfl rfl rfl (fun _ => rfl) (fun _ => rfl) ?_
  intro g19
  refine B2 rfl rfl (by simp) rfl (fun _ => rfl) (fun _ => rfl) ?_
  intro g7
  refine xN [1,2,6,7] [1,2,6,400006,7] rfl <| A4 <| A4 <| A0 <| A8 rfl rfl (dT rfl) rfl rfl <| B8 rfl rfl rfl rfl rfl rfl <| E8 rfl rfl <| A3 rfl rfl <| xN [1,6,7,21,22,23] [1,6,400006,7] rfl <| C6 <| G2 <| A4 <| A0 <| I0 rfl rfl <| xN [1,6,7,21,22,23,24] [1,6,400006,7] rfl <| A4 ?_
  refine A9 rfl (fun hc => ?_) (fun hc => absurd hc (by exact fun h => Bool.noConfusion (show true = false from h)))
  refine B5 <| A4 <| C6 <| A4 <| A0 <| A3 rfl rfl <| J3 rfl rfl rfl (fun _ => rfl) (by show (0 : Int) ≤ 0 ∧ (0 : Int) < ((2 : Nat) : Int); omega) <| F5 rfl rfl rfl <| G5 rfl (fun _ => C0 rfl) (fun _ => rfl) ?_
  intro g9
  refine A5 rfl rfl rfl <| C7 rfl rfl rfl rfl ⟨by decide, rfl, dT rfl, dT rfl, rfl⟩ rfl (by exact C0 rfl) <| xN [1,6,7,8,9,21,22,23] [1,6,400006,7,9] rfl <| A0 <| A3 rfl rfl <| A3 rfl rfl <| E3 rfl rfl rfl rfl (by (change 0 < _; omega)) (by (simp; done)) rfl <| T5 rfl rfl rfl rfl rfl <| E5 rfl rfl rfl rfl rfl <| A3 rfl rfl ?_
  apply xC rfl
  ·apply B0
   ·exact B9 rfl
   apply B0
   ·exact Z5 rfl rfl (by (simp; done)) (A7 fun _ => rfl)
   exact C4
  ·exact (by have hi := ih p (s0 :: sr) ⟨by simp only [List.length_cons, List.length_nil] at *; omega, hss.2⟩ hgd.2.2.1 (by omega); rw [← a4m] at hi; exact hi)
  refine ⟨⟨rfl, rfl, rfl, dT rfl, rfl⟩, .inl rfl, B3, H8 (M3 fun _ => I9 rfl M0), fun _ => B4 (by rfl) (B4 (B1 (A7 fun _ => rfl)) (by rfl)), fun g35 => ?_⟩
  simp only [List.length_map]
  refine A3 rfl rfl <| B7 rfl rfl rfl <| B7 rfl rfl rfl ?_
  (refine B2 rfl rfl (by (simp; done)) rfl (fun _ => (B1 (by exact A7 fun _ => rfl))) (fun _ => rfl) ?_; intro g1)
  refine J8 rfl rfl rfl <| V6 rfl rfl rfl rfl rfl ⟨by decide, rfl, dT rfl, dT rfl, rfl⟩ rfl ?_
  refine G6 ⟨fun _ => ⟨by (simp only [O9, List.nil_append, List.append_nil, List.map_cons, List.map_nil, List.cons_append]; decide +kernel), by decide +kernel⟩, [(.t 1, _), (.t 6, _), (.t 7, _), (.t 21, _), (.t 22, _), (.t 23, _), (.h 1, _), (.h 6, _), (.h 400006, _), (.h 7, _)], ⟨rfl, rfl, rfl, rfl, rfl, rfl, rfl, rfl, rfl, rfl, rfl, rfl, rfl, rfl, rfl, rfl, rfl, rfl, rfl, rfl, trivial⟩, ?_⟩
  refine A0 <| H5 rfl rfl (F4 (by omega)) <| A3 rfl rfl <| xN [1,6,7,21,22,23] [1,6,400006,7] rfl <| G2 <| A4 <| A0 <| I0 rfl rfl <| xN [1,6,7,21,22,23,24] [1,6,400006,7] rfl <| A4 ?_
  refine A9 rfl (fun hc => ?_) (fun hc => absurd hc (by exact fun h => Bool.noConfusion (show true = false from h)))
  refine B5 <| A4 <| C6 <| A4 <| A0 <| A3 rfl rfl <| J3 rfl rfl rfl (fun _ => rfl) (by show (0 : Int) ≤ 1 ∧ (1 : Int) < ((2 : Nat) : Int); omega) <| F5 rfl rfl rfl <| G5 rfl (fun _ => C0 rfl) (fun _ => rfl) ?_
  intro g9
  refine A5 rfl rfl rfl <| C7 rfl rfl rfl rfl ⟨by decide, rfl, dT rfl, dT rfl, rfl⟩ rfl (by exact C0 rfl) <| xN [1,6,7,8,9,21,22,23] [1,6,400006,7,9] rfl <| A0 <| A3 rfl rfl <| A3 rfl rfl <| E3 rfl rfl rfl rfl (by (simp; done)) (by (simp; done)) rfl <| T5 rfl rfl rfl rfl rfl <| E5 rfl rfl rfl rfl rfl <| A3 rfl rfl ?_
  apply xC rfl
  ·apply B0
   ·exact B9 rfl
   apply B0
   ·exact Z5 rfl rfl (by (simp; done)) (A7 fun _ => rfl)
   exact C4
  ·exact (by have hi := ih q (shareP p (s0 :: sr)).1 ⟨by simp only [List.length_cons, List.length_nil] at *; omega, (Q4 p _ hgd.2.2.1 hss.2)⟩ hgd.2.2.2 (by omega); rw [← a4m] at hi; rw [c7n (by omega)] at hi; exact hi)
  refine ⟨⟨rfl, rfl, rfl, dT rfl, rfl⟩, .inl rfl, B3, H8 (M3 fun _ => I9 rfl M0), fun _ => B4 (by rfl) (B4 (B1 (A7 fun _ => rfl)) (by rfl)), fun g35 => ?_⟩
  simp only [List.length_map]
  refine A3 rfl rfl <| B7 rfl rfl rfl <| B7 rfl rfl rfl ?_
  (refine B2 rfl rfl (by (simp; done)) rfl (fun _ => (B1 (by exact A7 fun _ => rfl))) (fun _ => rfl) ?_; intro g1)
  refine J8 rfl rfl rfl <| V6 rfl rfl rfl rfl rfl ⟨by decide, rfl, dT rfl, dT rfl, rfl⟩ rfl ?_
  refine G6 ⟨fun _ => ⟨by (simp only [O9, List.nil_append, List.append_nil, List.map_cons, List.map_nil, List.cons_append]; decide +kernel), by decide +kernel⟩, [(.t 1, _), (.t 6, _), (.t 7, _), (.t 21, _), (.t 22, _), (.t 23, _), (.h 1, _), (.h 6, _), (.h 400006, _), (.h 7, _)], ⟨rfl, rfl, rfl, rfl, rfl, rfl, rfl, rfl, rfl, rfl, rfl, rfl, rfl, rfl, rfl, rfl, rfl, rfl, rfl, rfl, trivial⟩, ?_⟩
  refine A0 <| H5 rfl rfl (F4 (by omega)) <| A3 rfl rfl <| xN [1,6,7,21,22,23] [1,6,400006,7] rfl <| G2 <| A4 <| A0 <| I0 rfl rfl <| xN [1,6,7,21,22,23,24] [1,6,400006,7] rfl <| A4 ?_
  refine A9 rfl (fun hc => absurd hc (by exact fun h => Bool.noConfusion (show false = true from h))) (fun hc => ?_)
  refine H1 <| A4 <| A0 <| A3 rfl rfl <| Q8 rfl rfl ?_
  apply xC rfl
  ·apply B0
   ·exact O8 rfl rfl rfl (by (simp; done))
   apply B0
   ·exact a2j rfl (a1t rfl (N7 (N7 (N7 (a5n rfl rfl (by simp) (fun _ => rfl) a4w)))) a2g)
   exact C4
  ·exact W6 (shareP q (shareP p (s0 :: sr)).1).1 ⟨by simp only [List.length_cons, List.length_nil] at *; omega, (Q4 q _ hgd.2.2.2 (Q4 p _ hgd.2.2.1 hss.2))⟩ (I8 (.bin w p q) ((shareP p (s0 :: sr)).2 : Int) ((shareP q (shareP p (s0 :: sr)).1).2 : Int)) (by exact Nat.le_trans (S0 (a0w hgd)) (by decide))
  refine ⟨⟨rfl, rfl, rfl, dT rfl, rfl⟩, .inr ⟨rfl, rfl⟩, B3, C3 rfl, fun _ => rfl, fun g42 => ?_⟩
  refine A5 rfl rfl rfl <| xN [1,6,10] [1,6,400006] rfl <| A4 <| A4 <| A0 <| A3 rfl rfl <| a0o rfl rfl <| xN [1,6,10,44] [1,6,400006] rfl ?_
  refine A9 rfl ?_ ?_ <;> intro hc <;> try simp only [SL] at hc
  ·refine A4 <| A0 <| A3 rfl rfl <| A3 rfl rfl ?_
   (refine B2 rfl rfl (by (simp; done)) rfl (fun _ => (B1 (by exact A7 fun _ => rfl))) (fun _ => rfl) ?_; intro g4)
   refine A5 rfl rfl rfl <| xN [4,5] [4] rfl <| B6 <| D3 (F9 rfl rfl (by simp) (by exact A7 fun _ => rfl) (D7 rfl rfl (E7 C5))) ?_
   obtain ⟨h1, h2, h3⟩ := a2a hc
   show _ = AV.tup [.own 4 ((stAdd (I8 (.bin w p q) ((shareP p (s0 :: sr)).2 : Int) ((shareP q (shareP p (s0 :: sr)).1).2 : Int)) (shareP q (shareP p (s0 :: sr)).1).1).map stO), iV (stIx (I8 (.bin w p q) ((shareP p (s0 :: sr)).2 : Int) ((shareP q (shareP p (s0 :: sr)).1).2 : Int)) (shareP q (shareP p (s0 :: sr)).1).1 : Nat)]
   rw [h2, ← h1]
   rfl
  refine B5 <| A4 <| A0 <| A3 rfl rfl <| E5 rfl rfl rfl rfl rfl <| L7 (mk := 0) (fs := [_, _, _, _]) rfl rfl rfl (dT rfl) rfl rfl (F7 rfl (F7 rfl (F7 rfl (a1v rfl (by simp) (X1 fun _ => rfl) rfl K8)))) (fun _ _ => B4 (by rfl) (B4 (B1 (by rfl)) (G7 rfl))) ?_
  intro z49 g49
  simp only [K5, List.cons_append, List.nil_append]
  rw [b0a]
  refine H0 rfl rfl rfl rfl (by (simp; done)) (by simp) (by decide) rfl rfl rfl rfl (dT rfl) (fun _ => ⟨rfl, rfl⟩) (by simp only [H7]; (simp only [List.length_nil, List.length_cons, List.length_append, Nat.zero_add, List.length_map]; omega)) (fun _ => rfl) ?_
  intro g50
  refine A3 rfl rfl <| I1 rfl rfl ?_
  (refine B2 rfl rfl (by (simp; done)) rfl (fun _ => (B1 (by exact A7 fun _ => rfl))) (fun _ => rfl) ?_; intro g4)
  refine A5 rfl rfl rfl <| xN [4,5] [4] rfl <| B6 <| D3 (F9 rfl rfl (by simp) (by exact A7 fun _ => rfl) (D7 rfl rfl (E7 C5))) ?_
  obtain ⟨h1, h2⟩ := Z8 hc
  show _ = AV.tup [.own 4 ((stAdd (I8 (.bin w p q) ((shareP p (s0 :: sr)).2 : Int) ((shareP q (shareP p (s0 :: sr)).1).2 : Int)) (shareP q (shareP p (s0 :: sr)).1).1).map stO), iV (stIx (I8 (.bin w p q) ((shareP p (s0 :: sr)).2 : Int) ((shareP q (shareP p (s0 :: sr)).1).2 : Int)) (shareP q (shareP p (s0 :: sr)).1).1 : Nat)]
  rw [h1, h2]
  rfl

theorem keep_s_SharePlanI : G8 Tryz.f21 = [0, 2, 4, 13, 3, 5, 9] := by kernel_rfl
set_option maxHeartbeats 20000000 in
theorem b7d (s : List UInt8) (hs : s.length ≤ 1048576) : CW (cxT oG) 21 [tV s] = some (.own 4 ((sharesT s).map stO), []) := by
 refine G9 rfl Tryz.func21 rfl ⟨by kernel_rfl, rfl, dT rfl, dT rfl, by decide⟩ keep_s_SharePlanI <| A4 <| A0 ?_
 (refine C2 rfl rfl (fun _ => rfl) ?_; intro g2)
 refine xN [0] [] rfl <| A4 <| A0 <| A3 rfl rfl ?_
 apply xC rfl
 ·apply B0
  ·exact B9 rfl
  exact C4
 ·exact b8x s hs
 refine ⟨⟨rfl, rfl, rfl, dT rfl, rfl⟩, .inl rfl, B3, N1 rfl, fun _ => rfl, fun g9 => ?_⟩
 refine A3 rfl rfl <| B7 rfl rfl rfl <| B7 rfl rfl rfl <| G5 rfl (fun _ => C0 rfl) (fun _ => rfl) ?_
 intro g3
 refine C7 rfl rfl rfl rfl ⟨by decide, rfl, dT rfl, dT rfl, rfl⟩ rfl (by exact C0 rfl) <| A5 rfl rfl rfl <| xN [3,4] [3] rfl <| A4 <| A4 <| A0 <| A3 rfl rfl <| P6 rfl <| xN [3,13] [3] rfl ?_
 refine A9 rfl ?_ ?_ <;> intro hc <;> try simp only [SL] at hc
 ·refine A4 <| A0 ?_
  (refine C2 rfl rfl (fun _ => rfl) ?_; intro g2)
  refine xN [2] [2] rfl <| B6 <| V0 rfl rfl (by simp) (by rfl) trivial ?_
  rw [a7u hc]
  rfl
 refine B5 <| A4 <| A0 <| E5 rfl rfl rfl rfl rfl ?_
 obtain ⟨t, ht1, ht2, ht3⟩ := b3o hc
 obtain ⟨hst, hwf, hgd, hsl, hsz⟩ := a3x ht1
 have hsl2 := M1 t []
 rw [d2n ht1, a4m]
 apply xC rfl
 ·apply B0
  ·exact B9 rfl
  apply B0
  ·exact b7v ⟨dT rfl, dT rfl⟩
  exact C4
 ·exact c9k t [] ⟨by simp only [List.length_nil]; omega, fun _ h => by cases h⟩ hgd
 refine ⟨⟨rfl, rfl, rfl, dT rfl, rfl⟩, .inl rfl, B3, H8 (M3 fun _ => I9 rfl M0), fun _ => B4 (B1 (A7 fun _ => rfl)) (by rfl), fun g16 => ?_⟩
 simp only [List.length_map]
 refine A3 rfl rfl <| B7 rfl rfl rfl <| B7 rfl rfl rfl ?_
 (refine B2 rfl rfl (by (simp; done)) rfl (fun _ => (B1 (by exact A7 fun _ => rfl))) (fun _ => rfl) ?_; intro g5)
 refine A5 rfl rfl rfl <| xN [5] [5] rfl <| A4 <| A0 <| A3 rfl rfl ?_
 apply xC rfl
 ·apply B0
  ·exact Z5 rfl rfl (by (simp; done)) (A7 fun _ => rfl)
  exact C4
 ·exact c9j (shareP t []).1 (by simp only [H7]; simp only [List.length_nil] at hsl2; omega)
 refine ⟨⟨rfl, rfl, rfl, dT rfl, rfl⟩, .inl rfl, B3, L8, fun _ => rfl, fun g20 => ?_⟩
 simp only [List.length_map]
 (refine B2 rfl rfl (by (simp; done)) rfl (fun _ => (B1 (by exact A7 fun _ => rfl))) (fun _ => rfl) ?_; intro g2)
 refine xN [2] [2] rfl <| B6 <| V0 rfl rfl (by simp) (by exact A7 fun _ => rfl) trivial ?_
 rw [a7z ht1]

theorem keep_s_equalInts : G8 Tryz.f17 = [0, 1, 4, 10, 5, 14, 25] := by kernel_rfl
set_option maxHeartbeats 20000000 in
theorem c0a (a b : List Int) (ha : a.length ≤ 1048576) (hlb : b.length ≤ 1048576) : CW (cxT oG) 17 [L a, L b] = some (bV (decide (a = b)), []) := by
 refine G9 rfl Tryz.func17 rfl ⟨by kernel_rfl, rfl, dT rfl, dT rfl, by decide⟩ keep_s_equalInts <| A4 <| A0 <| A5 rfl rfl rfl <| xN [0,1] [] rfl <| A4 <| A4 <| A0 <| A3 rfl rfl <| E8 rfl rfl <| A3 rfl rfl <| E8 rfl rfl <| a5i rfl rfl <| xN [0,1,10] [] rfl ?_
 refine A9 rfl ?_ ?_ <;> intro hc <;> try simp only [SL] at hc
 ·refine A4 <| A0 <| A5 rfl rfl rfl <| xN [4] [] rfl <| B6 <| C9 rfl rfl trivial ?_
  rw [a0h (by omega)]
  rfl
 refine B5 <| A4 <| A4 <| A0 <| A5 rfl rfl rfl <| xN [0,1,5] [] rfl <| C6 <| J6 (β := Nat) [(.t 0, _), (.t 1, _)] (fun (i : Nat) => [(.t 5, iV i)]) (fun (i : Nat) => i ≤ a.length ∧ ∀ j, j < i → a.getD j default = b.getD j default) (fun (i : Nat) => a.length - i) 0 ⟨rfl, rfl, rfl, trivial⟩ ⟨Nat.zero_le _, fun j h => by omega⟩ ?_
 intro i hb
 obtain ⟨hi1, hi2⟩ := hb
 refine A4 <| A4 <| A0 <| A3 rfl rfl <| A3 rfl rfl <| E8 rfl rfl <| I0 rfl rfl <| xN [0,1,5,14] [] rfl ?_
 refine A9 rfl ?_ ?_ <;> intro hc <;> try simp only [SL] at hc
 ·refine B5 <| A4 <| C6 <| A4 <| A0 <| A3 rfl rfl <| A3 rfl rfl <| F8 rfl rfl rfl (fun _ => rfl) (by omega) <| F5 rfl rfl rfl <| A3 rfl rfl <| A3 rfl rfl <| F8 rfl rfl rfl (fun _ => rfl) (by omega) <| F5 rfl rfl rfl <| a5i rfl rfl ?_
  refine G6 ⟨fun _ => ⟨by decide +kernel, by decide +kernel⟩, [(.t 0, _), (.t 1, _), (.t 5, _), (.t 25, _)], ⟨rfl, rfl, rfl, rfl, rfl, rfl, rfl, rfl, trivial⟩, ?_⟩
  refine A9 rfl ?_ ?_ <;> intro hc <;> try simp only [SL] at hc
  ·refine A4 <| A0 <| A5 rfl rfl rfl <| xN [4] [] rfl <| B6 <| C9 rfl rfl trivial ?_
   rw [a1m (i := i) (by omega) (by assumption)]
   rfl
  refine B5 <| A0 <| A3 rfl rfl <| H5 rfl rfl (F4 (by omega)) <| A5 rfl rfl rfl <| xN [0,1,5] [] rfl ?_
  refine ⟨i + 1, ⟨by omega, fun j hj => by rcases Nat.lt_succ_iff_lt_or_eq.1 hj with h | h; (· exact hi2 j h); (· subst h; assumption)⟩, (by omega), ⟨rfl, rfl, rfl, trivial⟩⟩
 refine H1 <| A4 <| A0 <| A5 rfl rfl rfl <| xN [4] [] rfl <| B6 <| C9 rfl rfl trivial ?_
 rw [a1n (by omega) fun j hj => hi2 j (by omega)]
 rfl

theorem keep_s_equalPlan : G8 Tryz.f28 = [0, 1, 4, 10, 5, 14, 67] := by kernel_rfl
set_option maxHeartbeats 20000000 in
theorem a4l (xs ys : List Stp) (b : Bool) (hb : b = true ↔ xs = ys) (hx : xs.length ≤ 1000 ∧ ∀ x ∈ xs, x.ns.length ≤ 1000) (hy : ys.length ≤ 1000 ∧ ∀ x ∈ ys, x.ns.length ≤ 1000) : CW (cxT oG) 28 [.list (xs.map stA), .list (ys.map stA)] = some (bV b, []) := by
 refine G9 rfl Tryz.func28 rfl ⟨by kernel_rfl, rfl, dT rfl, dT rfl, by decide⟩ keep_s_equalPlan <| A4 <| A0 <| A5 rfl rfl rfl <| xN [0,1] [] rfl <| A4 <| A4 <| A0 <| A3 rfl rfl <| E8 rfl rfl <| A3 rfl rfl <| E8 rfl rfl <| a5i rfl rfl <| xN [0,1,10] [] rfl ?_
 refine A9 rfl ?_ ?_ <;> intro hc <;> try simp only [SL] at hc
 ·refine A4 <| A0 <| A5 rfl rfl rfl <| xN [4] [] rfl <| B6 <| C9 rfl rfl trivial ?_
  exact b2g hb (fun e => hc (by rw [e]))
 refine B5 <| A4 <| A4 <| A0 <| A5 rfl rfl rfl <| xN [0,1,5] [] rfl <| C6 <| J6 (β := Nat) [(.t 0, _), (.t 1, _)] (fun (i : Nat) => [(.t 5, iV i)]) (fun (i : Nat) => i ≤ xs.length ∧ ∀ j, j < i → xs.getD j default = ys.getD j default) (fun (i : Nat) => xs.length - i) 0 ⟨rfl, rfl, rfl, trivial⟩ ⟨Nat.zero_le _, fun j h => by omega⟩ ?_
 intro i hb
 obtain ⟨hi1, hi2⟩ := hb
 refine A4 <| A4 <| A0 <| A3 rfl rfl <| A3 rfl rfl <| E8 rfl rfl <| I0 rfl rfl <| xN [0,1,5,14] [] rfl ?_
 refine A9 rfl ?_ ?_ <;> intro hc <;> try simp only [SL] at hc
 ·have hx1 := hx.2 _ (L1 (xs := xs) (i := i) (by omega))
  have hy1 := hy.2 _ (L1 (xs := ys) (i := i) (by omega))
  refine B5 <| A4 <| C6 <| A4 <| A0 <| A3 rfl rfl <| A3 rfl rfl <| F8 rfl rfl rfl (fun _ => rfl) (by omega) <| A8 rfl rfl (dT rfl) rfl rfl <| M4 rfl rfl rfl <| A3 rfl rfl <| A3 rfl rfl <| F8 rfl rfl rfl (fun _ => rfl) (by omega) <| A8 rfl rfl (dT rfl) rfl rfl <| M4 rfl rfl rfl <| d2b rfl rfl <| A3 rfl rfl ?_
  refine C8 rfl rfl ?_ ?_ <;> intro hg0 <;> have hg := hg0 <;> try simp only [SG] at hg
  ·refine A3 rfl rfl <| gT rfl rfl <| A3 rfl rfl <| gT rfl rfl <| F8 rfl rfl rfl (fun _ => rfl) (by omega) <| gT rfl rfl <| A8 rfl rfl (dT rfl) rfl rfl <| gT rfl rfl <| M4 rfl rfl rfl <| gT rfl rfl <| A3 rfl rfl <| gT rfl rfl <| A3 rfl rfl <| gT rfl rfl <| F8 rfl rfl rfl (fun _ => rfl) (by omega) <| gT rfl rfl <| A8 rfl rfl (dT rfl) rfl rfl <| gT rfl rfl <| M4 rfl rfl rfl <| gT rfl rfl <| a5i rfl rfl <| D6 rfl (by assumption) rfl rfl <| A3 rfl rfl ?_
   refine C8 rfl rfl ?_ ?_ <;> intro hg0 <;> have hg := hg0 <;> try simp only [SG] at hg
   ·refine A3 rfl rfl <| gT rfl rfl <| A3 rfl rfl <| gT rfl rfl <| F8 rfl rfl rfl (fun _ => rfl) (by omega) <| gT rfl rfl <| A8 rfl rfl (dT rfl) rfl rfl <| gT rfl rfl <| M4 rfl rfl rfl <| gT rfl rfl <| A3 rfl rfl <| gT rfl rfl <| A3 rfl rfl <| gT rfl rfl <| F8 rfl rfl rfl (fun _ => rfl) (by omega) <| gT rfl rfl <| A8 rfl rfl (dT rfl) rfl rfl <| gT rfl rfl <| M4 rfl rfl rfl <| gT rfl rfl <| a5i rfl rfl <| D6 rfl (by assumption) rfl rfl <| A3 rfl rfl ?_
    refine C8 rfl rfl ?_ ?_ <;> intro hg0 <;> have hg := hg0 <;> try simp only [SG] at hg
    ·refine A3 rfl rfl <| gT rfl rfl <| A3 rfl rfl <| gT rfl rfl <| F8 rfl rfl rfl (fun _ => rfl) (by omega) <| gT rfl rfl <| A8 rfl rfl (dT rfl) rfl rfl <| gT rfl rfl <| M4 rfl rfl rfl <| gT rfl rfl <| A3 rfl rfl <| gT rfl rfl <| A3 rfl rfl <| gT rfl rfl <| F8 rfl rfl rfl (fun _ => rfl) (by omega) <| gT rfl rfl <| A8 rfl rfl (dT rfl) rfl rfl <| gT rfl rfl <| M4 rfl rfl rfl <| gT rfl rfl ?_
     apply xC rfl
     ·apply B0
      ·exact B9 rfl
      apply B0
      ·exact B9 rfl
      exact C4
     ·exact c0a (xs.getD i default).ns (ys.getD i default).ns (by omega) (by omega)
     refine ⟨⟨rfl, rfl, rfl, dT rfl, rfl⟩, .inl rfl, B3, C3 rfl, fun _ => rfl, fun g65 => ?_⟩
     refine gT rfl rfl <| P6 rfl <| D6 rfl (by assumption) rfl rfl ?_
     refine G6 ⟨fun _ => ⟨by (simp only [O9, List.nil_append, List.append_nil, List.map_cons, List.map_nil, List.cons_append]; decide +kernel), by decide +kernel⟩, [(.t 0, _), (.t 1, _), (.t 5, _), (.t 67, _)], ⟨rfl, rfl, rfl, rfl, rfl, rfl, rfl, rfl, trivial⟩, ?_⟩
     refine A9 rfl ?_ ?_ <;> intro hc <;> try simp only [SL] at hc
     ·refine A4 <| A0 <| A5 rfl rfl rfl <| xN [4] [] rfl <| B6 <| C9 rfl rfl trivial ?_
      exact b2g hb (fun e => by subst e; simp_all)
     refine B5 <| A0 <| A3 rfl rfl <| H5 rfl rfl (F4 (by omega)) <| A5 rfl rfl rfl <| xN [0,1,5] [] rfl ?_
     refine ⟨i + 1, ⟨by omega, fun j hj => by rcases Nat.lt_succ_iff_lt_or_eq.1 hj with h | h; (· exact hi2 j h); (· subst h; exact d3f (d0a (by assumption)) (by assumption) (by assumption) (by assumption))⟩, (by omega), ⟨rfl, rfl, rfl, trivial⟩⟩
    iterate 11 refine gF rfl rfl ?_
    refine F0 rfl (by assumption) rfl rfl ?_
    refine G6 ⟨fun _ => ⟨by decide +kernel, by decide +kernel⟩, [(.t 0, _), (.t 1, _), (.t 5, _), (.t 67, _)], ⟨rfl, rfl, rfl, rfl, rfl, rfl, rfl, rfl, trivial⟩, ?_⟩
    refine A9 rfl (fun hc => ?_) (fun hc => absurd hc (by decide))
    refine A4 <| A0 <| A5 rfl rfl rfl <| xN [4] [] rfl <| B6 <| C9 rfl rfl trivial ?_
    exact b2g hb (fun e => by subst e; simp_all)
   iterate 10 refine gF rfl rfl ?_
   refine F0 rfl (by assumption) rfl rfl <| A3 rfl rfl ?_
   iterate 12 refine G1 rfl rfl rfl ?_
   refine F0 rfl rfl rfl rfl ?_
   refine G6 ⟨fun _ => ⟨by decide +kernel, by decide +kernel⟩, [(.t 0, _), (.t 1, _), (.t 5, _), (.t 67, _)], ⟨rfl, rfl, rfl, rfl, rfl, rfl, rfl, rfl, trivial⟩, ?_⟩
   refine A9 rfl (fun hc => ?_) (fun hc => absurd hc (by decide))
   refine A4 <| A0 <| A5 rfl rfl rfl <| xN [4] [] rfl <| B6 <| C9 rfl rfl trivial ?_
   exact b2g hb (fun e => by subst e; simp_all)
  iterate 10 refine gF rfl rfl ?_
  refine F0 rfl (by assumption) rfl rfl <| A3 rfl rfl ?_
  iterate 11 refine G1 rfl rfl rfl ?_
  refine F0 rfl rfl rfl rfl <| A3 rfl rfl ?_
  iterate 12 refine G1 rfl rfl rfl ?_
  refine F0 rfl rfl rfl rfl ?_
  refine G6 ⟨fun _ => ⟨by decide +kernel, by decide +kernel⟩, [(.t 0, _), (.t 1, _), (.t 5, _), (.t 67, _)], ⟨rfl, rfl, rfl, rfl, rfl, rfl, rfl, rfl, trivial⟩, ?_⟩
  refine A9 rfl (fun hc => ?_) (fun hc => absurd hc (by decide))
  refine A4 <| A0 <| A5 rfl rfl rfl <| xN [4] [] rfl <| B6 <| C9 rfl rfl trivial ?_
  exact b2g hb (fun e => by subst e; simp_all)
 refine H1 <| A4 <| A0 <| A5 rfl rfl rfl <| xN [4] [] rfl <| B6 <| C9 rfl rfl trivial ?_
 exact d2s hb (b5j (by omega) fun j hj => hi2 j (by omega))

theorem keep_s_FnSharePlan : G8 Tryz.f5 = [0, 2, 11, 3, 4, 25, 6, 36, 7, 41, 54, 70, 76, 5, 89, 8, 101, 108] := by kernel_rfl
set_option maxHeartbeats 20000000 in
theorem b4q (bs : List Int) (hbs : a4d bs) : CW (cxT oG) 5 [.list (bs.map uV)] = some (bV true, []) := by
 refine G9 rfl Tryz.func5 rfl ⟨by kernel_rfl, rfl, dT rfl, dT rfl, by decide⟩ keep_s_FnSharePlan <| A4 <| A0 <| A5 rfl rfl rfl <| xN [0] [] rfl <| A4 <| A4 <| A0 <| A3 rfl rfl <| E8 rfl rfl <| a0c rfl rfl <| xN [0,11] [] rfl ?_
 refine A9 rfl ?_ ?_ <;> intro hc <;> try simp only [SL] at hc
 ·refine A4 <| A0 <| A5 rfl rfl rfl <| xN [2] [] rfl <| B6 <| C9 rfl rfl trivial ?_
  rfl
 refine B5 <| A4 <| A0 <| A3 rfl rfl ?_
 have hl2 : bs.length ≤ 1048576 := by omega
 obtain ⟨_, _, ⟨s, rfl, rfl, hs⟩, hC1⟩ := b0x (oG := oG) bs hbs hl2
 apply xC rfl
 ·apply B0
  ·exact B9 rfl
  exact C4
 ·exact hC1
 refine ⟨⟨rfl, rfl, rfl, dT rfl, rfl⟩, .inl rfl, B3, C3 rfl, fun _ => rfl, fun g13 => ?_⟩
 refine A5 rfl rfl rfl <| xN [3] [] rfl <| A4 <| A0 <| A3 rfl rfl ?_
 apply xC rfl
 ·apply B0
  ·exact B9 rfl
  exact C4
 ·exact b7d s (by omega)
 refine ⟨⟨rfl, rfl, rfl, dT rfl, rfl⟩, .inl rfl, B3, L8, fun _ => rfl, fun g15 => ?_⟩
 simp only [List.length_map]
 have hs16 := (b9g s).2
 have hlaw := b9t s
 (refine B2 rfl rfl (by (simp; done)) rfl (fun _ => (B1 (by exact A7 fun _ => rfl))) (fun _ => rfl) ?_; intro g4)
 refine xN [3,4] [4] rfl <| A4 <| A4 <| A0 <| A3 rfl rfl <| A3 rfl rfl ?_
 apply xC rfl
 ·apply B0
  ·exact B9 rfl
  exact C4
 ·exact a7x s (by omega)
 refine ⟨⟨rfl, rfl, rfl, dT rfl, rfl⟩, .inl rfl, B3, L8, fun _ => rfl, fun g18 => ?_⟩
 simp only [List.length_map]
 apply xC rfl
 ·apply B0
  ·exact O8 rfl rfl rfl (by (simp; done))
  apply B0
  ·exact O5 rfl rfl rfl (by (simp; done)) (fun _ => rfl)
  exact C4
 ·exact a4l (sharesT s) (sharesT s) true ⟨fun _ => rfl, fun _ => rfl⟩ ⟨by omega, fun x hx => by have := (a0y x hx).2; omega⟩ ⟨by omega, fun x hx => by have := (a0y x hx).2; omega⟩
 refine ⟨⟨rfl, rfl, rfl, dT rfl, rfl⟩, .inr ⟨rfl, rfl⟩, B3, C3 rfl, fun _ => rfl, fun g19 => ?_⟩
 refine P6 rfl <| A3 rfl rfl <| Q0 rfl rfl rfl <| A3 rfl rfl <| Q0 rfl rfl rfl <| I1 rfl rfl <| Q0 rfl rfl rfl <| N5 rfl rfl <| D6 rfl rfl rfl rfl <| xN [3,4,25] [4] rfl ?_
 refine A9 rfl ?_ ?_ <;> intro hc <;> try simp only [SL] at hc
 ·refine A4 <| A0 <| A3 rfl rfl <| A3 rfl rfl ?_
  apply xC rfl
  ·apply B0
   ·exact B9 rfl
   exact C4
  ·exact a7x s (by omega)
  refine ⟨⟨rfl, rfl, rfl, dT rfl, rfl⟩, .inl rfl, B3, L8, fun _ => rfl, fun g28 => ?_⟩
  simp only [List.length_map]
  apply xC rfl
  ·apply B0
   ·exact O8 rfl rfl rfl (by (simp; done))
   apply B0
   ·exact O5 rfl rfl rfl (by (simp; done)) (fun _ => rfl)
   exact C4
  ·exact a4l (sharesT s) (sharesT s) true ⟨fun _ => rfl, fun _ => rfl⟩ ⟨by omega, fun x hx => by have := (a0y x hx).2; omega⟩ ⟨by omega, fun x hx => by have := (a0y x hx).2; omega⟩
  refine ⟨⟨rfl, rfl, rfl, dT rfl, rfl⟩, .inr ⟨rfl, rfl⟩, B3, C3 rfl, fun _ => rfl, fun g29 => ?_⟩
  refine A5 rfl rfl rfl <| xN [2] [] rfl <| B6 <| C9 rfl rfl trivial ?_
  rfl
 refine B5 <| A4 <| A0 <| A3 rfl rfl <| I1 rfl rfl <| b9m (f := bV) (x0 := false) rfl rfl rfl rfl rfl (by simp only [H7]; omega) (dT rfl) (fun _ => B1 (by exact A7 fun _ => rfl)) (fun _ => rfl) ?_
 intro g32
 (refine B2 rfl rfl (by (simp; done)) rfl (fun _ => (B1 (by exact A7 fun _ => rfl))) (fun _ => rfl) ?_; intro g5)
 refine xN [4,5] [4,5] rfl <| A4 <| A4 <| A0 <| A5 rfl rfl rfl <| xN [4,5,6] [4,5] rfl <| C6 <| J6 (β := Nat × List Bool) [(.t 4, _), (.h 4, _)] (fun (z : Nat × List Bool) => match z with | (i, nd) => [(.t 6, iV i), (.h 5, .obj g5 0 1 (nd.map bV)), (.t 5, .sl 5 g5 none 0 (sharesT s).length)]) (fun (z : Nat × List Bool) => match z with | (i, nd) => i ≤ (sharesT s).length ∧ c2m (sharesT s) i nd) (fun (z : Nat × List Bool) => match z with | (i, nd) => (sharesT s).length - i) (0, List.replicate (sharesT s).length false) ⟨rfl, rfl, rfl, rfl, rfl, trivial⟩ ⟨Nat.zero_le _, c8q⟩ ?_
 intro z hb
 obtain ⟨i, nd⟩ := z
 try dsimp only at hb
 obtain ⟨hi1, hnd⟩ := hb
 have hndl := hnd.1
 refine A4 <| A4 <| A0 <| A3 rfl rfl <| A3 rfl rfl <| I1 rfl rfl <| I0 rfl rfl <| xN [4,5,6,36] [4,5] rfl ?_
 refine A9 rfl ?_ ?_ <;> intro hc <;> try simp only [SL] at hc
 ·obtain ⟨⟨ha1, ha2⟩, hb1, hb2⟩ := hlaw.lt i (by omega)
  refine B5 <| A4 <| C6 <| A4 <| A4 <| A0 <| A5 rfl rfl rfl <| xN [4,5,6,7] [4,5] rfl <| C6 <| J6 (β := Nat) [(.t 4, _), (.t 5, _), (.t 6, _), (.h 4, _), (.h 5, _)] (fun (k : Nat) => [(.t 7, iV k)]) (fun (k : Nat) => k ≤ i) (fun (k : Nat) => i - k) 0 ⟨rfl, rfl, rfl, rfl, rfl, rfl, trivial⟩ (Nat.zero_le _) ?_
  intro k hb
  have hk1 := hb
  refine A4 <| A4 <| A0 <| A3 rfl rfl <| A3 rfl rfl <| I0 rfl rfl <| xN [4,5,6,7,41] [4,5] rfl ?_
  refine A9 rfl ?_ ?_ <;> intro hc <;> try simp only [SL] at hc
  ·refine B5 <| A4 <| C6 <| A4 <| A0 <| A3 rfl rfl <| A3 rfl rfl <| A3 rfl rfl <| H5 rfl rfl (F4 (by omega)) <| b0i rfl rfl rfl (H6 rfl) (H6 rfl) (by (simp; omega)) rfl <| A3 rfl rfl <| A3 rfl rfl <| A3 rfl rfl <| H5 rfl rfl (F4 (by omega)) <| b0i rfl rfl rfl (H6 rfl) (H6 rfl) (by (simp; omega)) rfl ?_
   apply xC rfl
   ·apply B0
    ·exact a8f rfl rfl rfl (by show 0 + i + (i + 1 - i) ≤ (sharesT s).length; omega)
    apply B0
    ·exact a8f rfl rfl rfl (by show 0 + k + (k + 1 - k) ≤ (sharesT s).length; omega)
    exact C4
   ·exact a4l (((sharesT s).drop (0 + i)).take (i + 1 - i)) (((sharesT s).drop (0 + k)).take (k + 1 - k)) false (by rw [Nat.zero_add, Nat.zero_add, Nat.add_sub_cancel_left, Nat.add_sub_cancel_left, b9r (by omega), b9r (by omega)]; exact ⟨nofun, fun e => absurd (List.cons.inj e).1 (hlaw.ne i k (by omega) (by omega))⟩) ⟨by rw [List.length_take]; omega, fun x hx => by have := (a0y x (List.mem_of_mem_drop (List.mem_of_mem_take hx))).2; omega⟩ ⟨by rw [List.length_take]; omega, fun x hx => by have := (a0y x (List.mem_of_mem_drop (List.mem_of_mem_take hx))).2; omega⟩
   refine ⟨⟨rfl, rfl, rfl, dT rfl, rfl⟩, .inr ⟨rfl, rfl⟩, B3, C3 rfl, fun _ => rfl, fun g54 => ?_⟩
   refine G6 ⟨fun _ => ⟨by decide +kernel, by decide +kernel⟩, [(.t 4, _), (.t 5, _), (.t 6, _), (.t 7, _), (.t 54, _), (.h 4, _), (.h 5, _)], ⟨rfl, rfl, rfl, rfl, rfl, rfl, rfl, rfl, rfl, rfl, rfl, rfl, rfl, rfl, trivial⟩, ?_⟩
   refine A9 rfl (fun hc => absurd hc (by decide)) (fun hc => ?_)
   refine B5 <| A0 <| A3 rfl rfl <| H5 rfl rfl (F4 (by omega)) <| A5 rfl rfl rfl <| xN [4,5,6,7] [4,5] rfl ?_
   refine ⟨k + 1, (by omega), (by omega), ⟨rfl, rfl, rfl, rfl, rfl, rfl, trivial⟩⟩
  refine H1 <| A4 <| A4 <| A0 <| A3 rfl rfl <| A3 rfl rfl <| E3 rfl rfl rfl rfl (by omega) (by (simp; done)) rfl <| A8 rfl rfl (dT rfl) rfl rfl <| Q1 rfl rfl (by omega) rfl rfl <| A3 rfl rfl <| a0o rfl rfl <| A3 rfl rfl ?_
  refine C8 rfl rfl ?_ ?_ <;> intro hg0 <;> have hg := hg0 <;> try simp only [SG] at hg
  ·refine A3 rfl rfl <| gT rfl rfl <| A3 rfl rfl <| gT rfl rfl <| E3 rfl rfl rfl rfl (by omega) (by (simp; done)) rfl <| gT rfl rfl <| A8 rfl rfl (dT rfl) rfl rfl <| gT rfl rfl <| Q1 rfl rfl (by omega) rfl rfl <| gT rfl rfl <| A3 rfl rfl <| gT rfl rfl <| a0o rfl rfl <| D6 rfl (by assumption) rfl rfl <| xN [4,5,6,70] [4,5] rfl ?_
   refine A9 rfl (fun hc => ?_) (fun hc => ?_)
   ·try simp only [SD] at hc
    omega
   try simp only [SL] at hc
   refine B5 <| A4 <| A4 <| A0 <| A3 rfl rfl <| A3 rfl rfl <| E3 rfl rfl rfl rfl (by omega) (by (simp; done)) rfl <| A8 rfl rfl (dT rfl) rfl rfl <| Q1 rfl rfl (by omega) rfl rfl <| a0o rfl rfl <| xN [4,5,6,76] [4,5] rfl ?_
   refine A9 rfl ?_ ?_ <;> intro hc <;> try simp only [SL] at hc
   ·obtain ⟨x, hx⟩ : ∃ x : Nat, ((sharesT s).getD i default).a = x := ⟨_, (Int.toNat_of_nonneg hc).symm⟩
    refine A0 <| A3 rfl rfl <| A3 rfl rfl <| A3 rfl rfl <| E3 rfl rfl rfl rfl (by omega) (by (simp; done)) rfl <| A8 rfl rfl (dT rfl) rfl rfl <| Q1 rfl rfl (by omega) rfl rfl ?_
    rw [hx]
    refine E3 rfl rfl rfl rfl (by omega) (by (simp; omega)) rfl <| a3r (y := true) rfl rfl rfl (by omega) rfl ⟨rfl, dT rfl, dT rfl, rfl⟩ (by decide) rfl (by exact B1 (A7 fun _ => rfl)) <| xN [4,5,6] [4,5] rfl <| A4 <| A0 <| A3 rfl rfl <| A3 rfl rfl <| E3 rfl rfl rfl rfl (by omega) (by (simp; done)) rfl <| A8 rfl rfl (dT rfl) rfl rfl <| Q1 rfl rfl (by omega) rfl rfl <| a0o rfl rfl <| xN [4,5,6,89] [4,5] rfl ?_
    refine A9 rfl ?_ ?_ <;> intro hc <;> try simp only [SL] at hc
    ·obtain ⟨y, hy⟩ : ∃ y : Nat, ((sharesT s).getD i default).b = y := ⟨_, (Int.toNat_of_nonneg hc).symm⟩
     refine A0 <| A3 rfl rfl <| A3 rfl rfl <| A3 rfl rfl <| E3 rfl rfl rfl rfl (by omega) (by (simp; done)) rfl <| A8 rfl rfl (dT rfl) rfl rfl <| Q1 rfl rfl (by omega) rfl rfl ?_
     rw [hy]
     refine E3 rfl rfl rfl rfl (by omega) (by (simp; omega)) rfl <| a3r (y := true) rfl rfl rfl (by (simp; omega)) rfl ⟨rfl, dT rfl, dT rfl, rfl⟩ (by decide) rfl (by exact B1 (A7 fun _ => rfl)) <| xN [4,5,6] [4,5] rfl <| A0 <| A3 rfl rfl <| H5 rfl rfl (F4 (by omega)) <| A5 rfl rfl rfl <| xN [4,5,6] [4,5] rfl ?_
     refine ⟨(i + 1, (nd.set x true).set y true), ?_, (by simp only; omega), ⟨rfl, rfl, rfl, rfl, rfl, trivial⟩⟩
     refine ⟨by omega, a8h hnd (by simp) fun j => ?_⟩
     (rw [b1s (by simp; omega), b1s (by omega)]; constructor <;> intro h; (· rcases h with (h | h) | h <;> first | exact .inl h | (right; omega)); (· rcases h with h | h | h <;> first | exact .inl (.inl h) | (left; right; omega) | (right; omega)))
    refine B5 <| A0 <| A3 rfl rfl <| H5 rfl rfl (F4 (by omega)) <| A5 rfl rfl rfl <| xN [4,5,6] [4,5] rfl ?_
    refine ⟨(i + 1, nd.set x true), ?_, (by simp only; omega), ⟨rfl, rfl, rfl, rfl, rfl, trivial⟩⟩
    refine ⟨by omega, a8h hnd (by simp) fun j => ?_⟩
    (rw [b1s (by omega)]; constructor <;> intro h <;> (rcases h with h | h | h <;> first | exact .inl h | (right; omega)))
   refine B5 <| A4 <| A0 <| A3 rfl rfl <| A3 rfl rfl <| E3 rfl rfl rfl rfl (by omega) (by (simp; done)) rfl <| A8 rfl rfl (dT rfl) rfl rfl <| Q1 rfl rfl (by omega) rfl rfl <| a0o rfl rfl <| xN [4,5,6,89] [4,5] rfl ?_
   refine A9 rfl ?_ ?_ <;> intro hc <;> try simp only [SL] at hc
   ·obtain ⟨y, hy⟩ : ∃ y : Nat, ((sharesT s).getD i default).b = y := ⟨_, (Int.toNat_of_nonneg hc).symm⟩
    refine A0 <| A3 rfl rfl <| A3 rfl rfl <| A3 rfl rfl <| E3 rfl rfl rfl rfl (by omega) (by (simp; done)) rfl <| A8 rfl rfl (dT rfl) rfl rfl <| Q1 rfl rfl (by omega) rfl rfl ?_
    rw [hy]
    refine E3 rfl rfl rfl rfl (by omega) (by (simp; omega)) rfl <| a3r (y := true) rfl rfl rfl (by omega) rfl ⟨rfl, dT rfl, dT rfl, rfl⟩ (by decide) rfl (by exact B1 (A7 fun _ => rfl)) <| xN [4,5,6] [4,5] rfl <| A0 <| A3 rfl rfl <| H5 rfl rfl (F4 (by omega)) <| A5 rfl rfl rfl <| xN [4,5,6] [4,5] rfl ?_
    refine ⟨(i + 1, nd.set y true), ?_, (by simp only; omega), ⟨rfl, rfl, rfl, rfl, rfl, trivial⟩⟩
    refine ⟨by omega, a8h hnd (by simp) fun j => ?_⟩
    (rw [b1s (by omega)]; constructor <;> intro h <;> (rcases h with h | h | h <;> first | exact .inl h | (right; omega)))
   refine B5 <| A0 <| A3 rfl rfl <| H5 rfl rfl (F4 (by omega)) <| A5 rfl rfl rfl <| xN [4,5,6] [4,5] rfl ?_
   refine ⟨(i + 1, nd), ?_, (by simp only; omega), ⟨rfl, rfl, rfl, rfl, rfl, trivial⟩⟩
   refine ⟨by omega, a8h hnd (by simp) fun j => ?_⟩
   (constructor <;> intro h; (· exact .inl h); (· rcases h with h | h | h; (· exact h); (· omega); (· omega)))
  iterate 6 refine gF rfl rfl ?_
  refine F0 rfl (by assumption) rfl rfl <| xN [4,5,6,70] [4,5] rfl ?_
  refine A9 rfl (fun hc => ?_) (fun hc => absurd hc (by decide))
  refine A4 <| A0 <| A5 rfl rfl rfl <| xN [2] [] rfl <| B6 <| C9 rfl rfl trivial ?_
  (exfalso; omega)
 refine H1 <| A4 <| A4 <| A0 <| A5 rfl rfl rfl <| xN [4,5,8] [4,5] rfl <| C6 ?_
 have hnd9 : c2m (sharesT s) (sharesT s).length nd := (show i = (sharesT s).length by omega) ▸ hnd
 refine J6 (β := Nat) [(.t 4, _), (.t 5, _), (.h 4, _), (.h 5, _)] (fun (i0 : Nat) => [(.t 8, iV i0)]) (fun (i0 : Nat) => i0 ≤ (sharesT s).length) (fun (i0 : Nat) => (sharesT s).length - i0) 0 ⟨rfl, rfl, rfl, rfl, rfl, trivial⟩ (Nat.zero_le _) ?_
 intro i0 hb
 have hj1 := hb
 refine A4 <| A4 <| A0 <| A3 rfl rfl <| H5 rfl rfl (F4 (by omega)) <| A3 rfl rfl <| I1 rfl rfl <| I0 rfl rfl <| xN [4,5,8,101] [4,5] rfl ?_
 refine A9 rfl ?_ ?_ <;> intro hc <;> try simp only [SL] at hc
 ·refine B5 <| A4 <| C6 <| A4 <| A0 <| A3 rfl rfl <| A3 rfl rfl <| E3 rfl rfl rfl rfl (by omega) (by (simp; omega)) rfl <| S5 rfl rfl (by omega) (fun _ => rfl) (fun _ => rfl) rfl <| P6 rfl <| xN [4,5,8,108] [4,5] rfl ?_
  refine A9 rfl (fun hc => ?_) (fun hc => ?_)
  ·try simp only [SD] at hc
   have h9 := c9z (i := i0) hlaw hnd9 (by omega)
   simp_all
  try simp only [SL] at hc
  refine B5 <| A0 <| A3 rfl rfl <| H5 rfl rfl (F4 (by omega)) <| A5 rfl rfl rfl <| xN [4,5,8] [4,5] rfl ?_
  refine ⟨i0 + 1, (by omega), (by omega), ⟨rfl, rfl, rfl, rfl, rfl, trivial⟩⟩
 refine H1 <| A4 <| A0 <| A3 rfl rfl <| A3 rfl rfl <| I1 rfl rfl <| a1j rfl rfl (F4 (by omega)) ?_
 rw [show (((sharesT s).length : Int) - 1) = (((sharesT s).length - 1 : Nat) : Int) by omega]
 refine E3 rfl rfl rfl rfl (by omega) (by (simp; omega)) rfl <| S5 rfl rfl (by omega) (fun _ => rfl) (fun _ => rfl) rfl <| P6 rfl <| A5 rfl rfl rfl <| xN [2] [] rfl <| B6 <| C9 rfl rfl trivial ?_
 (rw [c7a hlaw hnd9 (by omega)]; rfl)
end Go.Proofs.YtcpmbhfnapijaaaGreatDoor
