/- What each function of the program gives on the abstract machine, part 2 of 2. Conditions: those in front of each theorem. -/
import Derived.Test.YtpjgdgnaeohmeaaSa
import Derived.KernelRfl

set_option linter.unusedVariables false
set_option linter.unusedSimpArgs false
namespace Go.Proofs.Ytpjgdgnaeohmeaa
open Go Go.Mv Go.Proofs
set_option maxRecDepth 100000

theorem keep_s_RunSharedI : G8 Try.f10 = [0, 1, 4, 5, 21, 24, 23, 25, 22, 8, 38, 37, 39, 36, 11, 6, 9, 52, 13, 70, 12, 32] := by kernel_rfl
set_option maxHeartbeats 20000000 in
theorem a7u (ss : List Stp) (hz : ss.length ≤ 1048576 ∧ szT ss ≤ 1048576) (cols : List (List Int)) (hc4 : cols.length ≤ 1048576) (hcb : ∀ c ∈ cols, c.length ≤ 1048576) : CW cxT 10 [.list (ss.map stA), M cols] = some (.tup [.own 1 (((rsF cols ss).getD []).map iV), bV (rsF cols ss).isSome], []) := by
 refine H0 rfl Try.func10 rfl ⟨by kernel_rfl, rfl, dT rfl, dT rfl, by decide⟩ keep_s_RunSharedI <| A4 <| A0 ?_
 (refine D3 rfl rfl (fun _ => rfl) ?_; intro g4)
 refine A5 rfl rfl rfl <| xN [0,1] [] rfl <| A4 <| A4 <| A0 <| A3 rfl rfl ?_
 apply xC rfl
 ·apply A9
  ·exact B2 rfl
  exact C6
 ·exact b6o ss hz
 refine ⟨⟨rfl, rfl, rfl, dT rfl, rfl⟩, .inl rfl, B9, C1 rfl, fun _ => rfl, fun g15 => ?_⟩
 refine H7 rfl <| A3 rfl rfl ?_
 refine B1 rfl rfl ?_ ?_ <;> intro hg0 <;> have hg := hg0 <;> try simp only [SG] at hg
 ·refine A3 rfl rfl <| gT rfl rfl ?_
  apply xC rfl
  ·apply A9
   ·exact B2 rfl
   exact C6
  ·exact b1z cols hc4 hcb
  refine ⟨⟨rfl, rfl, rfl, dT rfl, rfl⟩, .inl rfl, B9, C1 rfl, fun _ => rfl, fun g19 => ?_⟩
  refine gT rfl rfl <| H7 rfl <| B5 rfl (by assumption) rfl rfl <| xN [0,1,21] [] rfl ?_
  refine A7 rfl ?_ ?_ <;> intro hc <;> try simp only [SL] at hc
  ·refine A4 <| A0 ?_
   (refine D3 rfl rfl (fun _ => rfl) ?_; intro g4)
   refine A5 rfl rfl rfl <| xN [4,5] [4] rfl <| C2 <| F7 (H4 rfl rfl (by simp) (by rfl) (H2 rfl rfl (G9 E5))) ?_
   rw [b2w (by simp_all)]
   rfl
  have hok : a4c ss = true := by simp_all
  have hvc : vcs cols = true := by simp_all
  have hok2 := b9k hok
  refine B7 <| A4 <| A0 ?_
  (refine D3 rfl rfl (fun _ => rfl) ?_; intro g6)
  refine xN [0,1,6] [6] rfl <| A4 <| A4 <| A0 <| A3 rfl rfl <| D9 rfl rfl <| A3 rfl rfl <| xN [1,6,22,23,24] [6] rfl <| C9 <| G3 (β := Nat × List (Bool × List Int) × Nat) [(.t 1, _), (.t 22, _), (.t 23, _)] (fun (z : Nat × List (Bool × List Int) × Nat) => match z with | (i, rows, g) => [(.t 24, iV i), (.h 6, .obj g 0 1 (rows.map rF)), (.t 6, .sl 6 g none 0 rows.length)]) (fun (z : Nat × List (Bool × List Int) × Nat) => match z with | (i, rows, g) => i ≤ ss.length ∧ W9 cols ss i = some (rows.map (·.2)) ∧ (∀ j, j + 1 = i → (rows.getD j default).1 = false)) (fun (z : Nat × List (Bool × List Int) × Nat) => match z with | (i, rows, g) => ss.length - i) (0, [], _) ⟨rfl, rfl, rfl, rfl, rfl, rfl, trivial⟩ ⟨Nat.zero_le _, rfl, fun j h => by omega⟩ ?_
  intro z hb
  obtain ⟨i, rows, g⟩ := z
  try dsimp only at hb
  obtain ⟨hi1, hmade, hlast⟩ := hb
  have hrl : rows.length = i := by simpa using a9f hmade
  have hvl := a7z hvc hok hi1 hmade
  refine A4 <| A0 <| G7 rfl rfl <| xN [1,6,22,23,24,25] [6] rfl <| A4 ?_
  refine A7 rfl ?_ ?_ <;> intro hc <;> try simp only [SL] at hc
  ·have hi : i < ss.length := by omega
   have hso := b7i hok hi
   obtain ⟨n, hnd, hn2⟩ : ∃ n : Nat, nd (ss.getD i default).op = n ∧ n ≤ 2 := ⟨(nd (ss.getD i default).op).toNat, by have := (a0m hso).1; have := b5y (ss.getD i default).op; omega, by have := b5y (ss.getD i default).op; omega⟩
   have hidx := d0w hso hnd
   have hvd := (a0m hso).2.1
   have hvdl := a2z hvd
   refine B7 <| A4 <| C9 <| A4 <| A0 <| D5 rfl rfl rfl (fun _ => rfl) (by omega) <| D6 rfl rfl rfl <| M8 rfl (fun _ => F4 rfl) (fun _ => rfl) ?_
   intro g8
   refine G5 rfl rfl rfl rfl ⟨by decide, rfl, dT rfl, dT rfl, rfl⟩ rfl (by exact F4 rfl) <| xN [1,6,8,22,23,24] [6,8] rfl <| A4 <| A0 ?_
   (refine D3 rfl rfl (fun _ => rfl) ?_; intro g9)
   refine xN [1,6,8,9,22,23,24] [6,8,9] rfl <| A4 <| A4 <| A0 <| B0 rfl rfl (dT rfl) rfl rfl <| B4 rfl rfl rfl rfl rfl rfl <| B0 rfl rfl (dT rfl) rfl rfl <| B4 rfl rfl rfl rfl rfl rfl <| C8 (es := List.map iV [(ss.getD i default).a, (ss.getD i default).b]) rfl rfl (dT rfl) rfl rfl (fun _ => B3 (A6 fun _ => rfl)) (fun _ => rfl) ?_
   intro g32
   refine B0 rfl rfl (dT rfl) rfl rfl <| B4 rfl rfl rfl rfl rfl rfl ?_
   apply xC rfl
   ·apply A9
    ·exact B2 rfl
    exact C6
   ·exact c3v (ss.getD i default).op
   refine ⟨⟨rfl, rfl, rfl, dT rfl, rfl⟩, .inl rfl, B9, C1 rfl, fun _ => rfl, fun g35 => ?_⟩
   rw [hnd]
   refine a6x rfl rfl rfl (J4 rfl) (by omega) rfl <| I4 rfl rfl <| A3 rfl rfl ?_
   refine I7 ⟨fun _ => ⟨by (simp only [Z7, List.nil_append, List.append_nil, List.map_cons, List.map_nil, List.cons_append]; decide +kernel), by decide +kernel⟩, [(.t 1, _), (.t 6, _), (.t 8, _), (.t 9, _), (.t 22, _), (.t 23, _), (.t 24, _), (.t 36, _), (.t 37, _), (.t 38, _), (.h 6, _), (.h 8, _), (.h 9, _), (.h 1000032, _)], ⟨rfl, rfl, rfl, rfl, rfl, rfl, rfl, rfl, rfl, rfl, rfl, rfl, rfl, rfl, rfl, rfl, rfl, rfl, rfl, rfl, rfl, rfl, rfl, rfl, rfl, rfl, rfl, rfl, trivial⟩, ?_⟩
   refine C9 <| G3 (β := Nat × List (List Int) × List (Bool × List Int) × Nat) [(.t 1, _), (.t 6, _), (.t 8, _), (.t 22, _), (.t 23, _), (.t 24, _), (.t 36, _), (.t 37, _), (.h 8, _), (.h 1000032, _)] (fun (z : Nat × List (List Int) × List (Bool × List Int) × Nat) => match z with | (k, ls, rows2, g2) => [(.t 38, iV k), (.t 9, .sl 9 g2 none 0 ls.length), (.h 9, .obj g2 0 1 (ls.map fun l => .list (l.map iV))), (.h 6, .obj g 0 1 (rows2.map rF))]) (fun (z : Nat × List (List Int) × List (Bool × List Int) × Nat) => match z with | (k, ls, rows2, g2) => k ≤ n ∧ ls.length = k ∧ rows2.map (·.2) = rows.map (·.2) ∧ ∀ j, j < k → ls.getD j default = (rows.map (·.2)).getD ([(ss.getD i default).a, (ss.getD i default).b].getD j default).toNat default) (fun (z : Nat × List (List Int) × List (Bool × List Int) × Nat) => match z with | (k, ls, rows2, g2) => n - k) (0, [], rows, _) ⟨rfl, rfl, rfl, rfl, rfl, rfl, rfl, rfl, rfl, rfl, rfl, rfl, rfl, rfl, trivial⟩ ⟨Nat.zero_le _, rfl, rfl, fun j h => by omega⟩ ?_
   intro z hb
   obtain ⟨k, ls, rows2, g2⟩ := z
   try dsimp only at hb
   obtain ⟨hk1, hk2, hk3, hk4⟩ := hb
   have hrl2 : rows2.length = rows.length := by simpa using congrArg List.length hk3
   refine A4 <| A0 <| G7 rfl rfl <| xN [1,6,8,9,22,23,24,36,37,38,39] [6,8,9,1000032] rfl <| A4 ?_
   refine A7 rfl ?_ ?_ <;> intro hc <;> try simp only [SL] at hc
   ·refine B7 <| A4 <| C9 <| A4 <| A0 <| D8 rfl rfl rfl rfl (by omega) (by (simp; omega)) rfl <| J0 (f := iV) (xs := [(ss.getD i default).a, (ss.getD i default).b]) rfl rfl (by (simp; omega)) (fun _ => rfl) (fun _ => rfl) rfl ?_
    obtain ⟨x, hx, hxl⟩ := hidx k (by omega)
    rw [hx]
    refine A5 rfl rfl rfl <| xN [1,6,8,9,11,22,23,24,36,37,38] [6,8,9,1000032] rfl <| A0 <| A3 rfl rfl <| A3 rfl rfl <| A3 rfl rfl <| D8 rfl rfl rfl rfl (by omega) (by (simp; omega)) rfl ?_
    rcases c7e (rows := rows2) (i := x) with ⟨l, hl⟩ | ⟨l, hl⟩
    ·skip
     refine a1c rfl rfl (b5r (b := true) (by omega) hl) rfl rfl ?_
     (refine C8 (es := [l].map fun l => .list (l.map iV)) rfl rfl (by decide) rfl rfl (fun _ => B3 (A6 fun _ => rfl)) (fun _ => rfl) ?_; intro g47)
     refine E4 rfl rfl rfl rfl (by (simp; done)) (by simp) (by decide) rfl rfl rfl rfl (dT rfl) (fun _ => ⟨rfl, rfl⟩) (by simp only [H6]; (simp only [List.length_nil, List.length_cons, List.length_append, Nat.zero_add, List.length_map]; omega)) (fun _ => rfl) ?_
     intro g48
     (refine B6 rfl rfl (by (simp; done)) rfl (fun _ => (B3 (by exact A6 fun _ => rfl))) (fun _ => rfl) ?_; intro g9)
     refine xN [1,6,8,9,22,23,24,36,37,38] [6,8,9,1000032] rfl <| A0 <| D7 rfl rfl (C5 (by omega)) <| A3 rfl rfl <| xN [1,6,8,9,22,23,24,36,37,38] [6,8,9,1000032] rfl ?_
     refine ⟨(k + 1, _, rows2, _), ?_, (by simp only; omega), ⟨rfl, rfl, rfl, rfl, rfl, rfl, rfl, rfl, rfl, rfl, rfl, rfl, rfl, rfl, trivial⟩⟩
     have hml : (rows.map (·.2)).getD x default = l := by rw [← hk3, b1v, hl]
     have hls := c3t hk2 hk4 hx hml
     exact ⟨by omega, hls.1, hk3, hls.2⟩
    skip
    refine a1c rfl rfl (b5r (b := false) (by omega) hl) rfl rfl ?_
    (refine b7t rfl rfl (by omega) hl (by simp) rfl rfl (fun _ => rfl) ?_; intro g47)
    refine E4 rfl rfl rfl rfl (by (simp; done)) (by simp) (by decide) rfl rfl rfl rfl (dT rfl) (fun _ => ⟨rfl, rfl⟩) (by simp only [H6]; (simp only [List.length_nil, List.length_cons, List.length_append, Nat.zero_add, List.length_map]; omega)) (fun _ => rfl) ?_
    intro g48
    (refine B6 rfl rfl (by (simp; done)) rfl (fun _ => (B3 (by exact A6 fun _ => rfl))) (fun _ => rfl) ?_; intro g9)
    refine xN [1,6,8,9,22,23,24,36,37,38] [6,8,9,1000032] rfl <| A0 <| D7 rfl rfl (C5 (by omega)) <| A3 rfl rfl <| xN [1,6,8,9,22,23,24,36,37,38] [6,8,9,1000032] rfl ?_
    refine ⟨(k + 1, _, rows2.set x (true, l), _), ?_, (by simp only; omega), ⟨rfl, rfl, rfl, rfl, rfl, rfl, rfl, rfl, rfl, rfl, rfl, rfl, rfl, rfl, trivial⟩⟩
    have hml : (rows.map (·.2)).getD x default = l := by rw [← hk3, b1v, hl]
    have hls := c3t hk2 hk4 hx hml
    exact ⟨by omega, hls.1, by rw [c9w (by rw [hl]), hk3], hls.2⟩
   refine G4 <| A4 <| A4 <| A0 <| A3 rfl rfl <| I4 rfl rfl <| H8 rfl rfl <| xN [1,6,8,9,22,23,24,52] [6,8,9] rfl ?_
   refine A7 rfl ?_ ?_ <;> intro hc <;> try simp only [SL] at hc
   ·refine A4 <| A0 <| A3 rfl rfl <| B0 rfl rfl (dT rfl) rfl rfl <| B4 rfl rfl rfl rfl rfl rfl <| B0 rfl rfl (dT rfl) rfl rfl <| B4 rfl rfl rfl rfl rfl rfl <| A3 rfl rfl ?_
    have hn0 : nd (ss.getD i default).op = 0 := by omega
    have hcol0 : ∃ row, stepR cols (rows.map (·.2)) (ss.getD i default) = some row ∧ CW cxT 32 [sV (ss.getD i default).op, L (ss.getD i default).ns, M cols] = some (.own 1 (row.map iV), []) := by
     rcases c8m hn0 with e | ⟨k, hk, e⟩
     ·exact ⟨_, a1d e, by rw [e]; exact c5s (ss.getD i default).ns (by omega) cols⟩
     exact ⟨_, a2c hk e hn0, by rw [e]; exact c6q k hk (ss.getD i default).ns cols hc4 hcb⟩
    obtain ⟨row, hst, hcol⟩ := hcol0
    apply xC rfl
    ·apply A9
     ·exact B2 rfl
     apply A9
     ·exact B2 rfl
     apply A9
     ·exact B2 rfl
     exact C6
    ·exact hcol
    refine ⟨⟨rfl, rfl, rfl, dT rfl, rfl⟩, .inl rfl, B9, J7, fun _ => rfl, fun g59 => ?_⟩
    simp only [List.length_map]
    refine K7 rfl rfl (by simp) rfl rfl rfl (fun _ => rfl) ?_
    intro g60
    refine E4 (f := rF) (ys := [(false, row)]) rfl rfl rfl rfl (by (simp; omega)) (by simp) (by decide) rfl rfl rfl rfl (by decide) c2x (by simp only [H6]; simp; omega) (fun _ => rfl) ?_
    intro gA
    (refine B6 rfl rfl (by (simp; done)) rfl (fun _ => (B3 (by exact A6 b2s))) (fun _ => rfl) ?_; intro g6)
    refine xN [1,6,22,23,24] [6] rfl <| G4 <| A0 <| D7 rfl rfl (C5 (by omega)) <| A3 rfl rfl <| xN [1,6,22,23,24] [6] rfl ?_
    refine ⟨(i + 1, _, _), ?_, (by simp only; omega), ⟨rfl, rfl, rfl, rfl, rfl, rfl, trivial⟩⟩
    refine ⟨by omega, ?_, fun j hj => a9z hj (by omega)⟩
    have hms := L5 hmade hst
    rw [← hk3] at hms
    rw [List.map_append]
    exact hms
   refine B7 <| A4 <| A0 <| B0 rfl rfl (dT rfl) rfl rfl <| B4 rfl rfl rfl rfl rfl rfl <| A3 rfl rfl ?_
   have hmk := c9f (ss.getD i default).op (by omega) ((rows.map (·.2)).getD (ss.getD i default).a.toNat default) (if nd (ss.getD i default).op = 2 then (rows.map (·.2)).getD (ss.getD i default).b.toNat default else []) (a3l hvl _) (d1p hvl _) ls (by omega) (fun h => by omega) (hk4 0 (by omega)) (fun h => (hk4 1 (by omega)).trans (if_pos (by omega)).symm)
   apply xC rfl
   ·apply A9
    ·exact B2 rfl
    apply A9
    ·exact H3 rfl rfl rfl (by (simp; done)) (fun _ => rfl)
    exact C6
   ·exact hmk
   refine ⟨⟨rfl, rfl, rfl, dT rfl, rfl⟩, .inr ⟨M4 _ _, rfl⟩, B9, K3 (P8 fun _ => P0 rfl Q7), fun _ => rfl, fun g66 => ?_⟩
   simp only [List.length_map]
   refine A3 rfl rfl <| E8 rfl rfl rfl <| E8 rfl rfl rfl ?_
   (refine B6 rfl rfl (by (simp; done)) rfl (fun _ => (B3 (by exact A6 fun _ => rfl))) (fun _ => rfl) ?_; intro g12)
   refine A5 rfl rfl rfl <| xN [1,6,12,13,22,23,24] [6,12] rfl <| A4 <| A4 <| A0 <| A3 rfl rfl <| H7 rfl <| xN [1,6,12,22,23,24,70] [6,12] rfl ?_
   refine A7 rfl ?_ ?_ <;> intro hc <;> try simp only [SL] at hc
   ·skip
    refine A4 <| A0 ?_
    (refine D3 rfl rfl (fun _ => rfl) ?_; intro g4)
    refine A5 rfl rfl rfl <| xN [4,5] [4] rfl <| C2 <| F7 (H4 rfl rfl (by simp) (by rfl) (H2 rfl rfl (G9 E5))) ?_
    have hst : stepR cols (rows.map (·.2)) (ss.getD i default) = none := (b2t hnd (by omega)).trans (by simpa using hc)
    rw [rsF, if_pos ⟨hok, hvc⟩, a6u hmade hst hi]
    rfl
   obtain ⟨row, hst⟩ : ∃ row, stepR cols (rows.map (·.2)) (ss.getD i default) = some row := Option.isSome_iff_exists.1 (by rw [b2t hnd (by omega)]; simpa using hc)
   have hrow : mkR (ss.getD i default).op ((rows.map (·.2)).getD (ss.getD i default).a.toNat default) (if nd (ss.getD i default).op = 2 then (rows.map (·.2)).getD (ss.getD i default).b.toNat default else []) = some row := (b2t hnd (by omega)).symm.trans hst
   rw [hrow]
   try simp only [Option.getD_some]
   refine B7 <| A0 <| A3 rfl rfl <| A3 rfl rfl <| K7 rfl rfl (by simp) rfl rfl rfl (fun _ => rfl) ?_
   intro g73
   refine E4 (f := rF) (ys := [(false, row)]) rfl rfl rfl rfl (by (simp; omega)) (by simp) (by decide) rfl rfl rfl rfl (by decide) c2x (by simp only [H6]; simp; omega) (fun _ => rfl) ?_
   intro gA
   (refine B6 rfl rfl (by (simp; done)) rfl (fun _ => (B3 (by exact A6 b2s))) (fun _ => rfl) ?_; intro g6)
   refine xN [1,6,22,23,24] [6] rfl <| A0 <| D7 rfl rfl (C5 (by omega)) <| A3 rfl rfl <| xN [1,6,22,23,24] [6] rfl ?_
   refine ⟨(i + 1, _, _), ?_, (by simp only; omega), ⟨rfl, rfl, rfl, rfl, rfl, rfl, trivial⟩⟩
   refine ⟨by omega, ?_, fun j hj => a9z hj (by omega)⟩
   have hms := L5 hmade hst
   rw [← hk3] at hms
   rw [List.map_append]
   exact hms
  refine G4 <| A4 <| A0 <| A3 rfl rfl <| A3 rfl rfl <| I4 rfl rfl <| I1 rfl rfl (C5 (by omega)) ?_
  rw [show ((rows.length : Int) - 1) = ((rows.length - 1 : Nat) : Int) by omega]
  refine D8 rfl rfl rfl rfl (by omega) (by (simp; done)) rfl <| a1c rfl rfl (b5r (b := false) (by omega) (b3e (i := rows.length) (by rw [hrl]; exact hlast) (by omega))) rfl rfl <| A5 rfl rfl rfl <| A5 rfl rfl rfl <| xN [4,5] [6] rfl <| C2 <| F7 (c3i rfl rfl (c2w (by omega) (b3e (i := rows.length) (by rw [hrl]; exact hlast) (by omega))) (b5r (by omega) (b3e (i := rows.length) (by rw [hrl]; exact hlast) (by omega))) rfl (A6 fun _ => rfl) (H2 rfl rfl (G9 E5))) ?_
  have hil : i = ss.length := by omega
  rw [rsF, if_pos ⟨hok, hvc⟩, ← hil, hmade, Option.map_some, b1v, ← hrl]
  rfl
 refine gF rfl rfl <| gF rfl rfl <| B8 rfl (by assumption) rfl rfl <| xN [0,1,21] [] rfl ?_
 refine A7 rfl (fun hc => ?_) (fun hc => absurd hc (by decide))
 refine A4 <| A0 ?_
 (refine D3 rfl rfl (fun _ => rfl) ?_; intro g4)
 refine A5 rfl rfl rfl <| xN [4,5] [4] rfl <| C2 <| F7 (H4 rfl rfl (by simp) (by rfl) (H2 rfl rfl (G9 E5))) ?_
 rw [b2w (by simp_all)]
 rfl

theorem keep_s_RunSharedS : G8 Try.f7 = [0, 1, 4, 5, 20, 7, 25, 8, 36, 6, 44, 57, 64, 10, 9, 12, 74, 11] := by kernel_rfl
set_option maxHeartbeats 20000000 in
theorem b6s (ss : List Stp) (hz : ss.length ≤ 1048576 ∧ szT ss ≤ 1048576) (cols : List (List Int)) (hc4 : cols.length ≤ 1048576) (hcb : ∀ c ∈ cols, c.length ≤ 1048576) : CW cxT 7 [.list (ss.map stA), M cols] = some (.tup [.own 1 (((rsF cols ss).getD []).map iV), bV (rsF cols ss).isSome], []) := by
 refine H0 rfl Try.func7 rfl ⟨by kernel_rfl, rfl, dT rfl, dT rfl, by decide⟩ keep_s_RunSharedS <| A4 <| A0 ?_
 (refine D3 rfl rfl (fun _ => rfl) ?_; intro g4)
 refine A5 rfl rfl rfl <| xN [0,1] [] rfl <| A4 <| A4 <| A0 <| A3 rfl rfl ?_
 apply xC rfl
 ·apply A9
  ·exact B2 rfl
  exact C6
 ·exact b6h ss hz
 refine ⟨⟨rfl, rfl, rfl, dT rfl, rfl⟩, .inl rfl, B9, C1 rfl, fun _ => rfl, fun g14 => ?_⟩
 refine H7 rfl <| A3 rfl rfl ?_
 refine B1 rfl rfl ?_ ?_ <;> intro hg0 <;> have hg := hg0 <;> try simp only [SG] at hg
 ·refine A3 rfl rfl <| gT rfl rfl ?_
  apply xC rfl
  ·apply A9
   ·exact B2 rfl
   exact C6
  ·exact b0r cols hc4 hcb
  refine ⟨⟨rfl, rfl, rfl, dT rfl, rfl⟩, .inl rfl, B9, C1 rfl, fun _ => rfl, fun g18 => ?_⟩
  refine gT rfl rfl <| H7 rfl <| B5 rfl (by assumption) rfl rfl <| xN [0,1,20] [] rfl ?_
  refine A7 rfl ?_ ?_ <;> intro hc <;> try simp only [SL] at hc
  ·refine A4 <| A0 ?_
   (refine D3 rfl rfl (fun _ => rfl) ?_; intro g4)
   refine A5 rfl rfl rfl <| xN [4,5] [4] rfl <| C2 <| F7 (H4 rfl rfl (by simp) (by rfl) (H2 rfl rfl (G9 E5))) ?_
   rw [b2w (by simp_all)]
   rfl
  have hok : a4c ss = true := by simp_all
  have hvc : vcs cols = true := by simp_all
  have hok2 := b9k hok
  refine B7 <| A4 <| A0 <| C8 (es := List.map oI []) rfl rfl (dT rfl) rfl rfl (fun _ => B3 (A6 fun _ => rfl)) (fun _ => rfl) ?_
  intro g21
  (refine B6 rfl rfl (by (simp; done)) rfl (fun _ => (B3 (by exact A6 fun _ => rfl))) (fun _ => rfl) ?_; intro g6)
  refine xN [0,1,6] [6] rfl <| A4 <| A4 <| A0 <| A5 rfl rfl rfl <| xN [0,1,6,7] [6] rfl <| C9 <| G3 (β := Nat × List (List Int) × Nat) [(.t 0, _), (.t 1, _)] (fun (z : Nat × List (List Int) × Nat) => match z with | (i, rows, g) => [(.t 7, iV i), (.h 6, .obj g 0 1 (rows.map oI)), (.t 6, .sl 6 g none 0 rows.length)]) (fun (z : Nat × List (List Int) × Nat) => match z with | (i, rows, g) => i ≤ ss.length ∧ W9 cols ss i = some rows) (fun (z : Nat × List (List Int) × Nat) => match z with | (i, rows, g) => ss.length - i) (0, [], _) ⟨rfl, rfl, rfl, rfl, rfl, trivial⟩ ⟨Nat.zero_le _, rfl⟩ ?_
  intro z hb
  obtain ⟨i, rows, g⟩ := z
  try dsimp only at hb
  obtain ⟨hi1, hmade⟩ := hb
  have hrl : rows.length = i := a9f hmade
  have hvl := a7z hvc hok hi1 hmade
  refine A4 <| A4 <| A0 <| A3 rfl rfl <| A3 rfl rfl <| D9 rfl rfl <| G7 rfl rfl <| xN [0,1,6,7,25] [6] rfl ?_
  refine A7 rfl ?_ ?_ <;> intro hc <;> try simp only [SL] at hc
  ·have hi : i < ss.length := by omega
   have hso := b7i hok hi
   have hnb := b5y (ss.getD i default).op
   have hn0 := (a0m hso).1
   obtain ⟨ha0, ha1, hb0, hb1⟩ := d1m hso
   have hvd := (a0m hso).2.1
   have hvdl := a2z hvd
   refine B7 <| A4 <| C9 <| A4 <| A0 <| A3 rfl rfl <| A3 rfl rfl <| D5 rfl rfl rfl (fun _ => rfl) (by omega) <| D6 rfl rfl rfl <| M8 rfl (fun _ => F4 rfl) (fun _ => rfl) ?_
   intro g8
   refine G5 rfl rfl rfl rfl ⟨by decide, rfl, dT rfl, dT rfl, rfl⟩ rfl (by exact F4 rfl) <| xN [0,1,6,7,8] [6,8] rfl <| A4 <| A0 <| C8 (es := List.map iV []) rfl rfl (dT rfl) rfl rfl (fun _ => B3 (A6 fun _ => rfl)) (fun _ => rfl) ?_
   intro g32
   (refine B6 rfl rfl (by (simp; done)) rfl (fun _ => (B3 (by exact A6 fun _ => rfl))) (fun _ => rfl) ?_; intro g9)
   refine xN [0,1,6,7,8,9] [6,8,9] rfl <| A4 <| A0 <| C8 (es := List.map iV []) rfl rfl (dT rfl) rfl rfl (fun _ => B3 (A6 fun _ => rfl)) (fun _ => rfl) ?_
   intro g33
   (refine B6 rfl rfl (by (simp; done)) rfl (fun _ => (B3 (by exact A6 fun _ => rfl))) (fun _ => rfl) ?_; intro g10)
   refine xN [0,1,6,7,8,9,10] [6,8,9,10] rfl <| A4 <| A4 <| A0 <| B0 rfl rfl (dT rfl) rfl rfl <| B4 rfl rfl rfl rfl rfl rfl <| a5i rfl rfl <| xN [0,1,6,7,8,9,10,36] [6,8,9,10] rfl ?_
   refine A7 rfl ?_ ?_ <;> intro hc <;> try simp only [SL] at hc
   ·have hA := hc
    refine A0 <| A3 rfl rfl <| B0 rfl rfl (dT rfl) rfl rfl <| B4 rfl rfl rfl rfl rfl rfl <| a5a rfl rfl rfl rfl (by omega) (by (simp; done)) rfl <| a3c rfl rfl (by omega) rfl rfl <| A5 rfl rfl rfl <| xN [0,1,6,7,8,9,10] [6,8,9,10] rfl <| A4 <| A4 <| A0 <| B0 rfl rfl (dT rfl) rfl rfl <| B4 rfl rfl rfl rfl rfl rfl <| a5i rfl rfl <| xN [0,1,6,7,8,9,10,44] [6,8,9,10] rfl ?_
    refine A7 rfl ?_ ?_ <;> intro hc <;> try simp only [SL] at hc
    ·have hB := hc
     refine A0 <| A3 rfl rfl <| B0 rfl rfl (dT rfl) rfl rfl <| B4 rfl rfl rfl rfl rfl rfl <| a5a rfl rfl rfl rfl (by omega) (by (simp; done)) rfl <| a3c rfl rfl (by omega) rfl rfl <| A5 rfl rfl rfl <| xN [0,1,6,7,8,9,10] [6,8,9,10] rfl <| A4 <| A0 <| C8 (es := List.map iV []) rfl rfl (dT rfl) rfl rfl (fun _ => B3 (A6 fun _ => rfl)) (fun _ => rfl) ?_
     intro g50
     refine B0 rfl rfl (dT rfl) rfl rfl <| B4 rfl rfl rfl rfl rfl rfl <| L7 rfl rfl rfl (by (simp; done)) rfl rfl rfl (dT rfl) (fun _ => ⟨rfl, rfl, rfl⟩) (by simp only [H6]; (simp only [List.length_nil, List.length_cons, List.length_append, Nat.zero_add, List.length_map]; omega)) (fun _ => rfl) ?_
     intro g53
     (refine B6 rfl rfl (by (simp; done)) rfl (fun _ => (B3 (by exact A6 fun _ => rfl))) (fun _ => rfl) ?_; intro g11)
     refine xN [0,1,6,7,8,9,10,11] [6,8,9,10,11] rfl <| A4 <| A0 <| A5 rfl rfl rfl <| xN [0,1,6,7,8,9,10,11,12] [6,8,9,10,11] rfl <| A4 <| A4 <| A0 <| B0 rfl rfl (dT rfl) rfl rfl <| B4 rfl rfl rfl rfl rfl rfl ?_
     apply xC rfl
     ·apply A9
      ·exact B2 rfl
      exact C6
     ·exact a0u (ss.getD i default).op
     refine ⟨⟨rfl, rfl, rfl, dT rfl, rfl⟩, .inl rfl, B9, C1 rfl, fun _ => rfl, fun g56 => ?_⟩
     refine H8 rfl rfl <| xN [0,1,6,7,8,9,10,11,12,57] [6,8,9,10,11] rfl ?_
     refine A7 rfl ?_ ?_ <;> intro hc <;> try simp only [SL] at hc
     ·obtain ⟨⟨k, hk, ek⟩, en⟩ := b1f hc
      refine A0 <| B0 rfl rfl (dT rfl) rfl rfl <| B4 rfl rfl rfl rfl rfl rfl <| A3 rfl rfl ?_
      have hco := a3s k hk cols hc4 hcb
      rw [← ek] at hco
      apply xC rfl
      ·apply A9
       ·exact B2 rfl
       apply A9
       ·exact B2 rfl
       exact C6
      ·exact hco
      refine ⟨⟨rfl, rfl, rfl, dT rfl, rfl⟩, .inl rfl, B9, J7, fun _ => rfl, fun g61 => ?_⟩
      simp only [List.length_map]
      (refine B6 rfl rfl (by (simp; done)) rfl (fun _ => (B3 (by exact A6 fun _ => rfl))) (fun _ => rfl) ?_; intro g11)
      refine xN [0,1,6,7,11,12] [6,11] rfl <| A4 <| A4 <| A0 <| A3 rfl rfl <| H7 rfl <| xN [0,1,6,7,11,74] [6,11] rfl ?_
      refine A7 rfl (fun hc => absurd hc (by decide)) (fun hc => ?_)
      refine B7 <| A0 <| A3 rfl rfl <| A3 rfl rfl <| K7 rfl rfl (by simp) rfl rfl rfl (fun _ => rfl) ?_
      intro g77
      refine E4 rfl rfl rfl rfl (by (simp; done)) (by simp) (by decide) rfl rfl rfl rfl (dT rfl) (fun _ => ⟨rfl, rfl⟩) (by simp only [H6]; omega) (fun _ => rfl) ?_
      intro g78
      (refine B6 rfl rfl (by (simp; done)) rfl (fun _ => (B3 (by exact A6 fun _ => rfl))) (fun _ => rfl) ?_; intro g6)
      refine xN [0,1,6,7] [6] rfl <| A0 <| A3 rfl rfl <| D7 rfl rfl (C5 (by omega)) <| A5 rfl rfl rfl <| xN [0,1,6,7] [6] rfl ?_
      refine ⟨(i + 1, _, _), ?_, (by simp only; omega), ⟨rfl, rfl, rfl, rfl, rfl, trivial⟩⟩
      refine ⟨by omega, L5 hmade ?_⟩
      exact a2c hk ek en
     have hr0 := hc
     refine A4 <| A0 <| B0 rfl rfl (dT rfl) rfl rfl <| B4 rfl rfl rfl rfl rfl rfl <| b0e rfl rfl <| xN [0,1,6,7,8,9,10,11,12,64] [6,8,9,10,11] rfl ?_
     refine A7 rfl ?_ ?_ <;> intro hc <;> try simp only [SL] at hc
     ·have h1 : 1 ≤ nd (ss.getD i default).op := by rw [a8u _ hc] at hn0 ⊢; omega
      refine A0 <| B0 rfl rfl (dT rfl) rfl rfl <| B4 rfl rfl rfl rfl rfl rfl <| A3 rfl rfl <| A3 rfl rfl ?_
      apply xC rfl
      ·apply A9
       ·exact B2 rfl
       apply A9
       ·exact a6b rfl rfl (a1e (by omega) rfl) (by simp)
       apply A9
       ·exact a6b rfl rfl (a1e (by omega) rfl) (by simp)
       exact C6
      ·exact b1k (ss.getD i default).op h1 (rows.getD (ss.getD i default).a.toNat default) (rows.getD (ss.getD i default).b.toNat default) (a3l hvl _) (a3l hvl _)
      refine ⟨⟨rfl, rfl, rfl, dT rfl, rfl⟩, .inr ⟨M4 _ _, rfl⟩, B9, K3 (P8 fun _ => P0 rfl Q7), fun _ => rfl, fun g70 => ?_⟩
      simp only [List.length_map]
      refine A3 rfl rfl <| E8 rfl rfl rfl <| E8 rfl rfl rfl ?_
      (refine B6 rfl rfl (by (simp; done)) rfl (fun _ => (B3 (by exact A6 fun _ => rfl))) (fun _ => rfl) ?_; intro g11)
      refine A5 rfl rfl rfl <| xN [0,1,6,7,11,12] [6,11] rfl <| A4 <| A4 <| A0 <| A3 rfl rfl <| H7 rfl <| xN [0,1,6,7,11,74] [6,11] rfl ?_
      refine A7 rfl ?_ ?_ <;> intro hc <;> try simp only [SL] at hc
      ·refine A4 <| A0 ?_
       (refine D3 rfl rfl (fun _ => rfl) ?_; intro g4)
       refine A5 rfl rfl rfl <| xN [4,5] [4] rfl <| C2 <| F7 (H4 rfl rfl (by simp) (by rfl) (H2 rfl rfl (G9 E5))) ?_
       exact c3k hok hvc hi hmade ((a2m h1 (by rfl) (by exact if_pos (by omega))).trans (by simpa using hc))
      obtain ⟨row, hrow⟩ := Option.isSome_iff_exists.1 hc
      have hraw := b1e hrow
      refine B7 <| A0 <| A3 rfl rfl <| A3 rfl rfl <| K7 rfl rfl (by simp) rfl rfl rfl (fun _ => rfl) ?_
      intro g77
      refine E4 rfl rfl rfl rfl (by (simp; done)) (by simp) (by decide) rfl rfl rfl rfl (dT rfl) (fun _ => ⟨rfl, rfl⟩) (by simp only [H6]; (simp only [List.length_nil, List.length_cons, List.length_append, Nat.zero_add, List.length_map]; omega)) (fun _ => rfl) ?_
      intro g78
      (refine B6 rfl rfl (by (simp; done)) rfl (fun _ => (B3 (by exact A6 fun _ => rfl))) (fun _ => rfl) ?_; intro g6)
      refine xN [0,1,6,7] [6] rfl <| A0 <| A3 rfl rfl <| D7 rfl rfl (C5 (by omega)) <| A5 rfl rfl rfl <| xN [0,1,6,7] [6] rfl ?_
      refine ⟨(i + 1, _, _), ?_, (by simp only; omega), ⟨rfl, rfl, rfl, rfl, rfl, trivial⟩⟩
      refine ⟨by omega, L5 hmade ?_⟩
      exact (a2m h1 (by rfl) (by exact if_pos (by omega))).trans (hraw ▸ hrow)
     have ek : (ss.getD i default).op = wList := a6v hc
     refine B7 <| A4 <| A4 <| A0 <| A3 rfl rfl <| H7 rfl <| xN [0,1,6,7,11,74] [6,11] rfl ?_
     refine A7 rfl (fun hc => absurd hc (by decide)) (fun hc => ?_)
     refine B7 <| A0 <| A3 rfl rfl <| A3 rfl rfl <| K7 rfl rfl (by simp) rfl rfl rfl (fun _ => rfl) ?_
     intro g77
     refine E4 rfl rfl rfl rfl (by (simp; done)) (by simp) (by decide) rfl rfl rfl rfl (dT rfl) (fun _ => ⟨rfl, rfl⟩) (by simp only [H6]; (simp only [List.length_nil, List.length_cons, List.length_append, Nat.zero_add, List.length_map]; omega)) (fun _ => rfl) ?_
     intro g78
     (refine B6 rfl rfl (by (simp; done)) rfl (fun _ => (B3 (by exact A6 fun _ => rfl))) (fun _ => rfl) ?_; intro g6)
     refine xN [0,1,6,7] [6] rfl <| A0 <| A3 rfl rfl <| D7 rfl rfl (C5 (by omega)) <| A5 rfl rfl rfl <| xN [0,1,6,7] [6] rfl ?_
     refine ⟨(i + 1, _, _), ?_, (by simp only; omega), ⟨rfl, rfl, rfl, rfl, rfl, trivial⟩⟩
     refine ⟨by omega, L5 hmade ?_⟩
     exact a1d ek
    have hB := hc
    refine B7 <| A4 <| A0 <| C8 (es := List.map iV []) rfl rfl (dT rfl) rfl rfl (fun _ => B3 (A6 fun _ => rfl)) (fun _ => rfl) ?_
    intro g50
    refine B0 rfl rfl (dT rfl) rfl rfl <| B4 rfl rfl rfl rfl rfl rfl <| L7 rfl rfl rfl (by (simp; done)) rfl rfl rfl (dT rfl) (fun _ => ⟨rfl, rfl, rfl⟩) (by simp only [H6]; (simp only [List.length_nil, List.length_cons, List.length_append, Nat.zero_add, List.length_map]; omega)) (fun _ => rfl) ?_
    intro g53
    (refine B6 rfl rfl (by (simp; done)) rfl (fun _ => (B3 (by exact A6 fun _ => rfl))) (fun _ => rfl) ?_; intro g11)
    refine xN [0,1,6,7,8,9,10,11] [6,8,9,10,11] rfl <| A4 <| A0 <| A5 rfl rfl rfl <| xN [0,1,6,7,8,9,10,11,12] [6,8,9,10,11] rfl <| A4 <| A4 <| A0 <| B0 rfl rfl (dT rfl) rfl rfl <| B4 rfl rfl rfl rfl rfl rfl ?_
    apply xC rfl
    ·apply A9
     ·exact B2 rfl
     exact C6
    ·exact a0u (ss.getD i default).op
    refine ⟨⟨rfl, rfl, rfl, dT rfl, rfl⟩, .inl rfl, B9, C1 rfl, fun _ => rfl, fun g56 => ?_⟩
    refine H8 rfl rfl <| xN [0,1,6,7,8,9,10,11,12,57] [6,8,9,10,11] rfl ?_
    refine A7 rfl ?_ ?_ <;> intro hc <;> try simp only [SL] at hc
    ·obtain ⟨⟨k, hk, ek⟩, en⟩ := b1f hc
     refine A0 <| B0 rfl rfl (dT rfl) rfl rfl <| B4 rfl rfl rfl rfl rfl rfl <| A3 rfl rfl ?_
     have hco := a3s k hk cols hc4 hcb
     rw [← ek] at hco
     apply xC rfl
     ·apply A9
      ·exact B2 rfl
      apply A9
      ·exact B2 rfl
      exact C6
     ·exact hco
     refine ⟨⟨rfl, rfl, rfl, dT rfl, rfl⟩, .inl rfl, B9, J7, fun _ => rfl, fun g61 => ?_⟩
     simp only [List.length_map]
     (refine B6 rfl rfl (by (simp; done)) rfl (fun _ => (B3 (by exact A6 fun _ => rfl))) (fun _ => rfl) ?_; intro g11)
     refine xN [0,1,6,7,11,12] [6,11] rfl <| A4 <| A4 <| A0 <| A3 rfl rfl <| H7 rfl <| xN [0,1,6,7,11,74] [6,11] rfl ?_
     refine A7 rfl (fun hc => absurd hc (by decide)) (fun hc => ?_)
     refine B7 <| A0 <| A3 rfl rfl <| A3 rfl rfl <| K7 rfl rfl (by simp) rfl rfl rfl (fun _ => rfl) ?_
     intro g77
     refine E4 rfl rfl rfl rfl (by (simp; done)) (by simp) (by decide) rfl rfl rfl rfl (dT rfl) (fun _ => ⟨rfl, rfl⟩) (by simp only [H6]; omega) (fun _ => rfl) ?_
     intro g78
     (refine B6 rfl rfl (by (simp; done)) rfl (fun _ => (B3 (by exact A6 fun _ => rfl))) (fun _ => rfl) ?_; intro g6)
     refine xN [0,1,6,7] [6] rfl <| A0 <| A3 rfl rfl <| D7 rfl rfl (C5 (by omega)) <| A5 rfl rfl rfl <| xN [0,1,6,7] [6] rfl ?_
     refine ⟨(i + 1, _, _), ?_, (by simp only; omega), ⟨rfl, rfl, rfl, rfl, rfl, trivial⟩⟩
     refine ⟨by omega, L5 hmade ?_⟩
     exact a2c hk ek en
    have hr0 := hc
    refine A4 <| A0 <| B0 rfl rfl (dT rfl) rfl rfl <| B4 rfl rfl rfl rfl rfl rfl <| b0e rfl rfl <| xN [0,1,6,7,8,9,10,11,12,64] [6,8,9,10,11] rfl ?_
    refine A7 rfl ?_ ?_ <;> intro hc <;> try simp only [SL] at hc
    ·have h1 : 1 ≤ nd (ss.getD i default).op := by rw [a8u _ hc] at hn0 ⊢; omega
     refine A0 <| B0 rfl rfl (dT rfl) rfl rfl <| B4 rfl rfl rfl rfl rfl rfl <| A3 rfl rfl <| A3 rfl rfl ?_
     apply xC rfl
     ·apply A9
      ·exact B2 rfl
      apply A9
      ·exact a6b rfl rfl (a1e (by omega) rfl) (by simp)
      apply A9
      ·exact H3 rfl rfl rfl (by (simp; done)) (fun _ => rfl)
      exact C6
     ·exact b1k (ss.getD i default).op h1 (rows.getD (ss.getD i default).a.toNat default) [] (a3l hvl _) b6i
     refine ⟨⟨rfl, rfl, rfl, dT rfl, rfl⟩, .inr ⟨M4 _ _, rfl⟩, B9, K3 (P8 fun _ => P0 rfl Q7), fun _ => rfl, fun g70 => ?_⟩
     simp only [List.length_map]
     refine A3 rfl rfl <| E8 rfl rfl rfl <| E8 rfl rfl rfl ?_
     (refine B6 rfl rfl (by (simp; done)) rfl (fun _ => (B3 (by exact A6 fun _ => rfl))) (fun _ => rfl) ?_; intro g11)
     refine A5 rfl rfl rfl <| xN [0,1,6,7,11,12] [6,11] rfl <| A4 <| A4 <| A0 <| A3 rfl rfl <| H7 rfl <| xN [0,1,6,7,11,74] [6,11] rfl ?_
     refine A7 rfl ?_ ?_ <;> intro hc <;> try simp only [SL] at hc
     ·refine A4 <| A0 ?_
      (refine D3 rfl rfl (fun _ => rfl) ?_; intro g4)
      refine A5 rfl rfl rfl <| xN [4,5] [4] rfl <| C2 <| F7 (H4 rfl rfl (by simp) (by rfl) (H2 rfl rfl (G9 E5))) ?_
      exact c3k hok hvc hi hmade ((a2m h1 (by rfl) (by exact if_neg (by omega))).trans (by simpa using hc))
     obtain ⟨row, hrow⟩ := Option.isSome_iff_exists.1 hc
     have hraw := b1e hrow
     refine B7 <| A0 <| A3 rfl rfl <| A3 rfl rfl <| K7 rfl rfl (by simp) rfl rfl rfl (fun _ => rfl) ?_
     intro g77
     refine E4 rfl rfl rfl rfl (by (simp; done)) (by simp) (by decide) rfl rfl rfl rfl (dT rfl) (fun _ => ⟨rfl, rfl⟩) (by simp only [H6]; (simp only [List.length_nil, List.length_cons, List.length_append, Nat.zero_add, List.length_map]; omega)) (fun _ => rfl) ?_
     intro g78
     (refine B6 rfl rfl (by (simp; done)) rfl (fun _ => (B3 (by exact A6 fun _ => rfl))) (fun _ => rfl) ?_; intro g6)
     refine xN [0,1,6,7] [6] rfl <| A0 <| A3 rfl rfl <| D7 rfl rfl (C5 (by omega)) <| A5 rfl rfl rfl <| xN [0,1,6,7] [6] rfl ?_
     refine ⟨(i + 1, _, _), ?_, (by simp only; omega), ⟨rfl, rfl, rfl, rfl, rfl, trivial⟩⟩
     refine ⟨by omega, L5 hmade ?_⟩
     exact (a2m h1 (by rfl) (by exact if_neg (by omega))).trans (hraw ▸ hrow)
    have ek : (ss.getD i default).op = wList := a6v hc
    refine B7 <| A4 <| A4 <| A0 <| A3 rfl rfl <| H7 rfl <| xN [0,1,6,7,11,74] [6,11] rfl ?_
    refine A7 rfl (fun hc => absurd hc (by decide)) (fun hc => ?_)
    refine B7 <| A0 <| A3 rfl rfl <| A3 rfl rfl <| K7 rfl rfl (by simp) rfl rfl rfl (fun _ => rfl) ?_
    intro g77
    refine E4 rfl rfl rfl rfl (by (simp; done)) (by simp) (by decide) rfl rfl rfl rfl (dT rfl) (fun _ => ⟨rfl, rfl⟩) (by simp only [H6]; (simp only [List.length_nil, List.length_cons, List.length_append, Nat.zero_add, List.length_map]; omega)) (fun _ => rfl) ?_
    intro g78
    (refine B6 rfl rfl (by (simp; done)) rfl (fun _ => (B3 (by exact A6 fun _ => rfl))) (fun _ => rfl) ?_; intro g6)
    refine xN [0,1,6,7] [6] rfl <| A0 <| A3 rfl rfl <| D7 rfl rfl (C5 (by omega)) <| A5 rfl rfl rfl <| xN [0,1,6,7] [6] rfl ?_
    refine ⟨(i + 1, _, _), ?_, (by simp only; omega), ⟨rfl, rfl, rfl, rfl, rfl, trivial⟩⟩
    refine ⟨by omega, L5 hmade ?_⟩
    exact a1d ek
   have hA := hc
   refine B7 <| A4 <| A4 <| A0 <| B0 rfl rfl (dT rfl) rfl rfl <| B4 rfl rfl rfl rfl rfl rfl <| a5i rfl rfl <| xN [0,1,6,7,8,9,10,44] [6,8,9,10] rfl ?_
   refine A7 rfl ?_ ?_ <;> intro hc <;> try simp only [SL] at hc
   ·have hB := hc
    refine A0 <| A3 rfl rfl <| B0 rfl rfl (dT rfl) rfl rfl <| B4 rfl rfl rfl rfl rfl rfl <| a5a rfl rfl rfl rfl (by omega) (by (simp; done)) rfl <| a3c rfl rfl (by omega) rfl rfl <| A5 rfl rfl rfl <| xN [0,1,6,7,8,9,10] [6,8,9,10] rfl <| A4 <| A0 <| C8 (es := List.map iV []) rfl rfl (dT rfl) rfl rfl (fun _ => B3 (A6 fun _ => rfl)) (fun _ => rfl) ?_
    intro g50
    refine B0 rfl rfl (dT rfl) rfl rfl <| B4 rfl rfl rfl rfl rfl rfl <| L7 rfl rfl rfl (by (simp; done)) rfl rfl rfl (dT rfl) (fun _ => ⟨rfl, rfl, rfl⟩) (by simp only [H6]; omega) (fun _ => rfl) ?_
    intro g53
    (refine B6 rfl rfl (by (simp; done)) rfl (fun _ => (B3 (by exact A6 fun _ => rfl))) (fun _ => rfl) ?_; intro g11)
    refine xN [0,1,6,7,8,9,10,11] [6,8,9,10,11] rfl <| A4 <| A0 <| A5 rfl rfl rfl <| xN [0,1,6,7,8,9,10,11,12] [6,8,9,10,11] rfl <| A4 <| A4 <| A0 <| B0 rfl rfl (dT rfl) rfl rfl <| B4 rfl rfl rfl rfl rfl rfl ?_
    apply xC rfl
    ·apply A9
     ·exact B2 rfl
     exact C6
    ·exact a0u (ss.getD i default).op
    refine ⟨⟨rfl, rfl, rfl, dT rfl, rfl⟩, .inl rfl, B9, C1 rfl, fun _ => rfl, fun g56 => ?_⟩
    refine H8 rfl rfl <| xN [0,1,6,7,8,9,10,11,12,57] [6,8,9,10,11] rfl ?_
    refine A7 rfl ?_ ?_ <;> intro hc <;> try simp only [SL] at hc
    ·obtain ⟨⟨k, hk, ek⟩, en⟩ := b1f hc
     refine A0 <| B0 rfl rfl (dT rfl) rfl rfl <| B4 rfl rfl rfl rfl rfl rfl <| A3 rfl rfl ?_
     have hco := a3s k hk cols hc4 hcb
     rw [← ek] at hco
     apply xC rfl
     ·apply A9
      ·exact B2 rfl
      apply A9
      ·exact B2 rfl
      exact C6
     ·exact hco
     refine ⟨⟨rfl, rfl, rfl, dT rfl, rfl⟩, .inl rfl, B9, J7, fun _ => rfl, fun g61 => ?_⟩
     simp only [List.length_map]
     (refine B6 rfl rfl (by (simp; done)) rfl (fun _ => (B3 (by exact A6 fun _ => rfl))) (fun _ => rfl) ?_; intro g11)
     refine xN [0,1,6,7,11,12] [6,11] rfl <| A4 <| A4 <| A0 <| A3 rfl rfl <| H7 rfl <| xN [0,1,6,7,11,74] [6,11] rfl ?_
     refine A7 rfl (fun hc => absurd hc (by decide)) (fun hc => ?_)
     refine B7 <| A0 <| A3 rfl rfl <| A3 rfl rfl <| K7 rfl rfl (by simp) rfl rfl rfl (fun _ => rfl) ?_
     intro g77
     refine E4 rfl rfl rfl rfl (by (simp; done)) (by simp) (by decide) rfl rfl rfl rfl (dT rfl) (fun _ => ⟨rfl, rfl⟩) (by simp only [H6]; omega) (fun _ => rfl) ?_
     intro g78
     (refine B6 rfl rfl (by (simp; done)) rfl (fun _ => (B3 (by exact A6 fun _ => rfl))) (fun _ => rfl) ?_; intro g6)
     refine xN [0,1,6,7] [6] rfl <| A0 <| A3 rfl rfl <| D7 rfl rfl (C5 (by omega)) <| A5 rfl rfl rfl <| xN [0,1,6,7] [6] rfl ?_
     refine ⟨(i + 1, _, _), ?_, (by simp only; omega), ⟨rfl, rfl, rfl, rfl, rfl, trivial⟩⟩
     refine ⟨by omega, L5 hmade ?_⟩
     exact a2c hk ek en
    have hr0 := hc
    refine A4 <| A0 <| B0 rfl rfl (dT rfl) rfl rfl <| B4 rfl rfl rfl rfl rfl rfl <| b0e rfl rfl <| xN [0,1,6,7,8,9,10,11,12,64] [6,8,9,10,11] rfl ?_
    refine A7 rfl ?_ ?_ <;> intro hc <;> try simp only [SL] at hc
    ·have h1 : 1 ≤ nd (ss.getD i default).op := by rw [a8u _ hc] at hn0 ⊢; omega
     refine A0 <| B0 rfl rfl (dT rfl) rfl rfl <| B4 rfl rfl rfl rfl rfl rfl <| A3 rfl rfl <| A3 rfl rfl ?_
     apply xC rfl
     ·apply A9
      ·exact B2 rfl
      apply A9
      ·exact H3 rfl rfl rfl (by (simp; done)) (fun _ => rfl)
      apply A9
      ·exact a6b rfl rfl (a1e (by omega) rfl) (by simp)
      exact C6
     ·exact b1k (ss.getD i default).op h1 [] (rows.getD (ss.getD i default).b.toNat default) b6i (a3l hvl _)
     refine ⟨⟨rfl, rfl, rfl, dT rfl, rfl⟩, .inr ⟨M4 _ _, rfl⟩, B9, K3 (P8 fun _ => P0 rfl Q7), fun _ => rfl, fun g70 => ?_⟩
     simp only [List.length_map]
     refine A3 rfl rfl <| E8 rfl rfl rfl <| E8 rfl rfl rfl ?_
     (refine B6 rfl rfl (by (simp; done)) rfl (fun _ => (B3 (by exact A6 fun _ => rfl))) (fun _ => rfl) ?_; intro g11)
     refine A5 rfl rfl rfl <| xN [0,1,6,7,11,12] [6,11] rfl <| A4 <| A4 <| A0 <| A3 rfl rfl <| H7 rfl <| xN [0,1,6,7,11,74] [6,11] rfl ?_
     refine A7 rfl ?_ ?_ <;> intro hc <;> try simp only [SL] at hc
     ·refine A4 <| A0 ?_
      (refine D3 rfl rfl (fun _ => rfl) ?_; intro g4)
      refine A5 rfl rfl rfl <| xN [4,5] [4] rfl <| C2 <| F7 (H4 rfl rfl (by simp) (by rfl) (H2 rfl rfl (G9 E5))) ?_
      (exfalso; omega)
     obtain ⟨row, hrow⟩ := Option.isSome_iff_exists.1 hc
     have hraw := b1e hrow
     refine B7 <| A0 <| A3 rfl rfl <| A3 rfl rfl <| K7 rfl rfl (by simp) rfl rfl rfl (fun _ => rfl) ?_
     intro g77
     refine E4 rfl rfl rfl rfl (by (simp; done)) (by simp) (by decide) rfl rfl rfl rfl (dT rfl) (fun _ => ⟨rfl, rfl⟩) (by simp only [H6]; omega) (fun _ => rfl) ?_
     intro g78
     (refine B6 rfl rfl (by (simp; done)) rfl (fun _ => (B3 (by exact A6 fun _ => rfl))) (fun _ => rfl) ?_; intro g6)
     refine xN [0,1,6,7] [6] rfl <| A0 <| A3 rfl rfl <| D7 rfl rfl (C5 (by omega)) <| A5 rfl rfl rfl <| xN [0,1,6,7] [6] rfl ?_
     refine ⟨(i + 1, _, _), ?_, (by simp only; omega), ⟨rfl, rfl, rfl, rfl, rfl, trivial⟩⟩
     refine ⟨by omega, L5 hmade ?_⟩
     exact (a2m h1 (by (exfalso; omega)) (by exact if_pos (by omega))).trans (hraw ▸ hrow)
    have ek : (ss.getD i default).op = wList := a6v hc
    refine B7 <| A4 <| A4 <| A0 <| A3 rfl rfl <| H7 rfl <| xN [0,1,6,7,11,74] [6,11] rfl ?_
    refine A7 rfl (fun hc => absurd hc (by decide)) (fun hc => ?_)
    refine B7 <| A0 <| A3 rfl rfl <| A3 rfl rfl <| K7 rfl rfl (by simp) rfl rfl rfl (fun _ => rfl) ?_
    intro g77
    refine E4 rfl rfl rfl rfl (by (simp; done)) (by simp) (by decide) rfl rfl rfl rfl (dT rfl) (fun _ => ⟨rfl, rfl⟩) (by simp only [H6]; omega) (fun _ => rfl) ?_
    intro g78
    (refine B6 rfl rfl (by (simp; done)) rfl (fun _ => (B3 (by exact A6 fun _ => rfl))) (fun _ => rfl) ?_; intro g6)
    refine xN [0,1,6,7] [6] rfl <| A0 <| A3 rfl rfl <| D7 rfl rfl (C5 (by omega)) <| A5 rfl rfl rfl <| xN [0,1,6,7] [6] rfl ?_
    refine ⟨(i + 1, _, _), ?_, (by simp only; omega), ⟨rfl, rfl, rfl, rfl, rfl, trivial⟩⟩
    refine ⟨by omega, L5 hmade ?_⟩
    exact a1d ek
   have hB := hc
   refine B7 <| A4 <| A0 <| C8 (es := List.map iV []) rfl rfl (dT rfl) rfl rfl (fun _ => B3 (A6 fun _ => rfl)) (fun _ => rfl) ?_
   intro g50
   refine B0 rfl rfl (dT rfl) rfl rfl <| B4 rfl rfl rfl rfl rfl rfl <| L7 rfl rfl rfl (by (simp; done)) rfl rfl rfl (dT rfl) (fun _ => ⟨rfl, rfl, rfl⟩) (by simp only [H6]; (simp only [List.length_nil, List.length_cons, List.length_append, Nat.zero_add, List.length_map]; omega)) (fun _ => rfl) ?_
   intro g53
   (refine B6 rfl rfl (by (simp; done)) rfl (fun _ => (B3 (by exact A6 fun _ => rfl))) (fun _ => rfl) ?_; intro g11)
   refine xN [0,1,6,7,8,9,10,11] [6,8,9,10,11] rfl <| A4 <| A0 <| A5 rfl rfl rfl <| xN [0,1,6,7,8,9,10,11,12] [6,8,9,10,11] rfl <| A4 <| A4 <| A0 <| B0 rfl rfl (dT rfl) rfl rfl <| B4 rfl rfl rfl rfl rfl rfl ?_
   apply xC rfl
   ·apply A9
    ·exact B2 rfl
    exact C6
   ·exact a0u (ss.getD i default).op
   refine ⟨⟨rfl, rfl, rfl, dT rfl, rfl⟩, .inl rfl, B9, C1 rfl, fun _ => rfl, fun g56 => ?_⟩
   refine H8 rfl rfl <| xN [0,1,6,7,8,9,10,11,12,57] [6,8,9,10,11] rfl ?_
   refine A7 rfl ?_ ?_ <;> intro hc <;> try simp only [SL] at hc
   ·obtain ⟨⟨k, hk, ek⟩, en⟩ := b1f hc
    refine A0 <| B0 rfl rfl (dT rfl) rfl rfl <| B4 rfl rfl rfl rfl rfl rfl <| A3 rfl rfl ?_
    have hco := a3s k hk cols hc4 hcb
    rw [← ek] at hco
    apply xC rfl
    ·apply A9
     ·exact B2 rfl
     apply A9
     ·exact B2 rfl
     exact C6
    ·exact hco
    refine ⟨⟨rfl, rfl, rfl, dT rfl, rfl⟩, .inl rfl, B9, J7, fun _ => rfl, fun g61 => ?_⟩
    simp only [List.length_map]
    (refine B6 rfl rfl (by (simp; done)) rfl (fun _ => (B3 (by exact A6 fun _ => rfl))) (fun _ => rfl) ?_; intro g11)
    refine xN [0,1,6,7,11,12] [6,11] rfl <| A4 <| A4 <| A0 <| A3 rfl rfl <| H7 rfl <| xN [0,1,6,7,11,74] [6,11] rfl ?_
    refine A7 rfl (fun hc => absurd hc (by decide)) (fun hc => ?_)
    refine B7 <| A0 <| A3 rfl rfl <| A3 rfl rfl <| K7 rfl rfl (by simp) rfl rfl rfl (fun _ => rfl) ?_
    intro g77
    refine E4 rfl rfl rfl rfl (by (simp; done)) (by simp) (by decide) rfl rfl rfl rfl (dT rfl) (fun _ => ⟨rfl, rfl⟩) (by simp only [H6]; (simp only [List.length_nil, List.length_cons, List.length_append, Nat.zero_add, List.length_map]; omega)) (fun _ => rfl) ?_
    intro g78
    (refine B6 rfl rfl (by (simp; done)) rfl (fun _ => (B3 (by exact A6 fun _ => rfl))) (fun _ => rfl) ?_; intro g6)
    refine xN [0,1,6,7] [6] rfl <| A0 <| A3 rfl rfl <| D7 rfl rfl (C5 (by omega)) <| A5 rfl rfl rfl <| xN [0,1,6,7] [6] rfl ?_
    refine ⟨(i + 1, _, _), ?_, (by simp only; omega), ⟨rfl, rfl, rfl, rfl, rfl, trivial⟩⟩
    refine ⟨by omega, L5 hmade ?_⟩
    exact a2c hk ek en
   have hr0 := hc
   refine A4 <| A0 <| B0 rfl rfl (dT rfl) rfl rfl <| B4 rfl rfl rfl rfl rfl rfl <| b0e rfl rfl <| xN [0,1,6,7,8,9,10,11,12,64] [6,8,9,10,11] rfl ?_
   refine A7 rfl ?_ ?_ <;> intro hc <;> try simp only [SL] at hc
   ·have h1 : 1 ≤ nd (ss.getD i default).op := by rw [a8u _ hc] at hn0 ⊢; omega
    refine A0 <| B0 rfl rfl (dT rfl) rfl rfl <| B4 rfl rfl rfl rfl rfl rfl <| A3 rfl rfl <| A3 rfl rfl ?_
    apply xC rfl
    ·apply A9
     ·exact B2 rfl
     apply A9
     ·exact H3 rfl rfl rfl (by (simp; done)) (fun _ => rfl)
     apply A9
     ·exact H3 rfl rfl rfl (by (simp; done)) (fun _ => rfl)
     exact C6
    ·exact b1k (ss.getD i default).op h1 [] [] b6i b6i
    refine ⟨⟨rfl, rfl, rfl, dT rfl, rfl⟩, .inr ⟨M4 _ _, rfl⟩, B9, K3 (P8 fun _ => P0 rfl Q7), fun _ => rfl, fun g70 => ?_⟩
    simp only [List.length_map]
    refine A3 rfl rfl <| E8 rfl rfl rfl <| E8 rfl rfl rfl ?_
    (refine B6 rfl rfl (by (simp; done)) rfl (fun _ => (B3 (by exact A6 fun _ => rfl))) (fun _ => rfl) ?_; intro g11)
    refine A5 rfl rfl rfl <| xN [0,1,6,7,11,12] [6,11] rfl <| A4 <| A4 <| A0 <| A3 rfl rfl <| H7 rfl <| xN [0,1,6,7,11,74] [6,11] rfl ?_
    refine A7 rfl ?_ ?_ <;> intro hc <;> try simp only [SL] at hc
    ·refine A4 <| A0 ?_
     (refine D3 rfl rfl (fun _ => rfl) ?_; intro g4)
     refine A5 rfl rfl rfl <| xN [4,5] [4] rfl <| C2 <| F7 (H4 rfl rfl (by simp) (by rfl) (H2 rfl rfl (G9 E5))) ?_
     (exfalso; omega)
    obtain ⟨row, hrow⟩ := Option.isSome_iff_exists.1 hc
    have hraw := b1e hrow
    refine B7 <| A0 <| A3 rfl rfl <| A3 rfl rfl <| K7 rfl rfl (by simp) rfl rfl rfl (fun _ => rfl) ?_
    intro g77
    refine E4 rfl rfl rfl rfl (by (simp; done)) (by simp) (by decide) rfl rfl rfl rfl (dT rfl) (fun _ => ⟨rfl, rfl⟩) (by simp only [H6]; omega) (fun _ => rfl) ?_
    intro g78
    (refine B6 rfl rfl (by (simp; done)) rfl (fun _ => (B3 (by exact A6 fun _ => rfl))) (fun _ => rfl) ?_; intro g6)
    refine xN [0,1,6,7] [6] rfl <| A0 <| A3 rfl rfl <| D7 rfl rfl (C5 (by omega)) <| A5 rfl rfl rfl <| xN [0,1,6,7] [6] rfl ?_
    refine ⟨(i + 1, _, _), ?_, (by simp only; omega), ⟨rfl, rfl, rfl, rfl, rfl, trivial⟩⟩
    refine ⟨by omega, L5 hmade ?_⟩
    exact (a2m h1 (by (exfalso; omega)) (by exact if_neg (by omega))).trans (hraw ▸ hrow)
   have ek : (ss.getD i default).op = wList := a6v hc
   refine B7 <| A4 <| A4 <| A0 <| A3 rfl rfl <| H7 rfl <| xN [0,1,6,7,11,74] [6,11] rfl ?_
   refine A7 rfl (fun hc => absurd hc (by decide)) (fun hc => ?_)
   refine B7 <| A0 <| A3 rfl rfl <| A3 rfl rfl <| K7 rfl rfl (by simp) rfl rfl rfl (fun _ => rfl) ?_
   intro g77
   refine E4 rfl rfl rfl rfl (by (simp; done)) (by simp) (by decide) rfl rfl rfl rfl (dT rfl) (fun _ => ⟨rfl, rfl⟩) (by simp only [H6]; (simp only [List.length_nil, List.length_cons, List.length_append, Nat.zero_add, List.length_map]; omega)) (fun _ => rfl) ?_
   intro g78
   (refine B6 rfl rfl (by (simp; done)) rfl (fun _ => (B3 (by exact A6 fun _ => rfl))) (fun _ => rfl) ?_; intro g6)
   refine xN [0,1,6,7] [6] rfl <| A0 <| A3 rfl rfl <| D7 rfl rfl (C5 (by omega)) <| A5 rfl rfl rfl <| xN [0,1,6,7] [6] rfl ?_
   refine ⟨(i + 1, _, _), ?_, (by simp only; omega), ⟨rfl, rfl, rfl, rfl, rfl, trivial⟩⟩
   refine ⟨by omega, L5 hmade ?_⟩
   exact a1d ek
  refine G4 <| A4 <| A0 <| A3 rfl rfl <| A3 rfl rfl <| I4 rfl rfl <| I1 rfl rfl (C5 (by omega)) ?_
  rw [show ((rows.length : Int) - 1) = ((rows.length - 1 : Nat) : Int) by omega]
  refine D8 rfl rfl rfl rfl (by omega) (by (simp; done)) rfl <| a3c rfl rfl (by omega) rfl rfl <| A5 rfl rfl rfl <| A5 rfl rfl rfl <| xN [4,5] [6] rfl <| C2 ?_
  refine F7 (c3i rfl rfl (a1e (by omega) rfl) (getElem?_map_getD (by omega)) (by simp) (A6 fun _ => rfl) (H2 rfl rfl (G9 E5))) ?_
  have hil : i = ss.length := by omega
  rw [rsF, if_pos ⟨hok, hvc⟩, ← hil, hmade, Option.map_some, ← hrl]
  rfl
 refine gF rfl rfl <| gF rfl rfl <| B8 rfl (by assumption) rfl rfl <| xN [0,1,20] [] rfl ?_
 refine A7 rfl (fun hc => ?_) (fun hc => absurd hc (by decide))
 refine A4 <| A0 ?_
 (refine D3 rfl rfl (fun _ => rfl) ?_; intro g4)
 refine A5 rfl rfl rfl <| xN [4,5] [4] rfl <| C2 <| F7 (H4 rfl rfl (by simp) (by rfl) (H2 rfl rfl (G9 E5))) ?_
 rw [b2w (by simp_all)]
 rfl

theorem keep_s_number : G8 Try.f89 = [0, 2, 4, 10] := by kernel_rfl
set_option maxHeartbeats 20000000 in
theorem a5j (n : Int) (hn : -1000000 ≤ n ∧ n ≤ 1000000) : CW cxT 89 [iV n] = some (tV (dec n), []) := by
 obtain ⟨kk, hkk⟩ : ∃ kk : Nat, 2 * n.natAbs + (if n < 0 then 1 else 0) < kk := ⟨_, Nat.lt_succ_self _⟩
 revert n
 induction kk with
 | zero => intro n hn hkk; exact absurd hkk (Nat.not_lt_zero _)
 | succ kk ih =>
  intro n hn hkk
  refine H0 rfl Try.func89 rfl ⟨by kernel_rfl, rfl, dT rfl, dT rfl, by decide⟩ keep_s_number <| A4 <| A0 <| A5 rfl rfl rfl <| xN [0] [] rfl <| A4 <| A4 <| A0 <| A3 rfl rfl <| G7 rfl rfl <| xN [0,4] [] rfl ?_
  refine A7 rfl ?_ ?_ <;> intro hc <;> try simp only [SL] at hc
  ·refine A4 <| A0 <| A3 rfl rfl <| b5p rfl (C5 (by omega)) ?_
   have hdl := V2 (m := -n) (by omega)
   apply xC rfl
   ·apply A9
    ·exact B2 rfl
    exact C6
   ·exact ih (-n) (by omega) (by split at hkk <;> split <;> omega)
   refine ⟨⟨rfl, rfl, rfl, dT rfl, rfl⟩, .inl rfl, B9, C1 rfl, fun _ => rfl, fun g7 => ?_⟩
   refine Q0 rfl rfl (by simp only [H6, List.length_append, List.length_cons, List.length_nil]; omega) <| A5 rfl rfl rfl <| xN [2] [] rfl <| C2 <| C4 rfl rfl trivial ?_
   exact congrArg tV (d0n (by assumption)).symm
  refine B7 <| A4 <| A4 <| A0 <| A3 rfl rfl <| G7 rfl rfl <| xN [0,10] [] rfl ?_
  refine A7 rfl ?_ ?_ <;> intro hc <;> try simp only [SL] at hc
  ·refine A4 <| A0 <| A3 rfl rfl <| A3 rfl rfl <| D7 rfl rfl (C5 (by omega)) <| U3 rfl rfl (Q3 rfl (by omega)) (Q3 rfl (by omega)) (by (simp; omega)) <| A5 rfl rfl rfl <| xN [2] [] rfl <| C2 <| C4 rfl rfl trivial ?_
   rw [d0l (by omega)]
  refine B7 <| A4 <| A0 <| A3 rfl rfl ?_
  have hd10 : n.tdiv 10 = n / 10 := Int.tdiv_eq_ediv_of_nonneg (by omega)
  refine c6j rfl rfl ⟨by omega, C5 (by omega)⟩ ?_
  have hd10 : n.tdiv 10 = n / 10 := Int.tdiv_eq_ediv_of_nonneg (by omega)
  have hdl0 := V2 (m := n.tdiv 10) (by omega)
  apply xC rfl
  ·apply A9
   ·exact B2 rfl
   exact C6
  ·exact ih (n.tdiv 10) (by omega) (by split at hkk <;> split <;> omega)
  refine ⟨⟨rfl, rfl, rfl, dT rfl, rfl⟩, .inl rfl, B9, C1 rfl, fun _ => rfl, fun g17 => ?_⟩
  refine A3 rfl rfl <| b5x rfl rfl (by omega) ?_
  have hm10 : n.tmod 10 = n % 10 := Int.tmod_eq_emod_of_nonneg (by omega)
  have hdl1 := V2 (m := n.tmod 10) (by omega)
  apply xC rfl
  ·apply A9
   ·exact B2 rfl
   exact C6
  ·exact ih (n.tmod 10) (by omega) (by split at hkk <;> split <;> omega)
  refine ⟨⟨rfl, rfl, rfl, dT rfl, rfl⟩, .inl rfl, B9, C1 rfl, fun _ => rfl, fun g20 => ?_⟩
  refine Q0 rfl rfl (by simp only [H6, List.length_append, List.length_cons, List.length_nil]; omega) <| A5 rfl rfl rfl <| xN [2] [] rfl <| C2 <| C4 rfl rfl trivial ?_
  rw [← d2d (by omega)]

theorem keep_s_listText : G8 Try.f75 = [0, 2, 4, 8, 12, 3] := by kernel_rfl
set_option maxHeartbeats 20000000 in
theorem b3f (ns : List Int) (hl : ns.length ≤ 1000000) (hnb : ∀ n ∈ ns, -1000000 ≤ n ∧ n ≤ 1000000) : CW cxT 75 [L ns] = some (tV (a3z ns), []) := by
 have hg := fun (i : Nat) (h : i < ns.length) => hnb _ (a7p h)
 refine H0 rfl Try.func75 rfl ⟨by kernel_rfl, rfl, dT rfl, dT rfl, by decide⟩ keep_s_listText <| A4 <| A0 <| A5 rfl rfl rfl <| xN [0] [] rfl <| A4 <| A0 <| A5 rfl rfl rfl <| xN [0,3] [] rfl <| A4 <| A4 <| A0 <| A5 rfl rfl rfl <| xN [0,3,4] [] rfl <| C9 <| G3 (β := Nat) [(.t 0, _)] (fun (i : Nat) => [(.t 4, iV i), (.t 3, tV (a3z (ns.take i)))]) (fun (i : Nat) => i ≤ ns.length) (fun (i : Nat) => ns.length - i) 0 ⟨rfl, rfl, rfl, trivial⟩ (Nat.zero_le _) ?_
 intro i hb
 have hi1 := hb
 have hll := a8i (ns := ns.take i) (fun n hn => hnb n (List.mem_of_mem_take hn))
 rw [List.length_take] at hll
 refine A4 <| A4 <| A0 <| A3 rfl rfl <| A3 rfl rfl <| D9 rfl rfl <| G7 rfl rfl <| xN [0,3,4,8] [] rfl ?_
 refine A7 rfl ?_ ?_ <;> intro hc <;> try simp only [SL] at hc
 ·refine B7 <| A4 <| C9 <| A4 <| A4 <| A0 <| A3 rfl rfl <| N0 rfl rfl <| xN [0,3,4,12] [] rfl ?_
  refine A7 rfl ?_ ?_ <;> intro hc <;> try simp only [SL] at hc
  ·have hi0 : 0 < i := by omega
   refine A0 <| A3 rfl rfl <| Q0 rfl rfl (by simp only [H6, List.length_append, List.length_cons, List.length_nil]; omega) <| A5 rfl rfl rfl <| xN [0,3,4] [] rfl <| A0 <| A3 rfl rfl <| A3 rfl rfl <| A3 rfl rfl <| D5 rfl rfl rfl (fun _ => rfl) (by omega) <| D6 rfl rfl rfl ?_
   have hgi := hg i (by omega)
   have hdl := V2 hgi
   apply xC rfl
   ·apply A9
    ·exact B2 rfl
    exact C6
   ·exact a5j (ns.getD i default) hgi
   refine ⟨⟨rfl, rfl, rfl, dT rfl, rfl⟩, .inl rfl, B9, C1 rfl, fun _ => rfl, fun g20 => ?_⟩
   refine Q0 rfl rfl (by simp only [H6, List.length_append, List.length_cons, List.length_nil]; omega) <| A5 rfl rfl rfl <| xN [0,3,4] [] rfl <| A0 <| A3 rfl rfl <| D7 rfl rfl (C5 (by omega)) <| A5 rfl rfl rfl <| xN [0,3,4] [] rfl ?_
   rw [← b8c (by omega) hi0]
   refine ⟨i + 1, ?_, (by omega), ⟨rfl, rfl, rfl, trivial⟩⟩
   omega
  have hi0 : i = 0 := by omega
  refine B7 <| A0 <| A3 rfl rfl <| A3 rfl rfl <| A3 rfl rfl <| D5 rfl rfl rfl (fun _ => rfl) (by omega) <| D6 rfl rfl rfl ?_
  have hgi := hg i (by omega)
  have hdl := V2 hgi
  apply xC rfl
  ·apply A9
   ·exact B2 rfl
   exact C6
  ·exact a5j (ns.getD i default) hgi
  refine ⟨⟨rfl, rfl, rfl, dT rfl, rfl⟩, .inl rfl, B9, C1 rfl, fun _ => rfl, fun g20 => ?_⟩
  refine Q0 rfl rfl (by simp only [H6, List.length_append, List.length_cons, List.length_nil]; omega) <| A5 rfl rfl rfl <| xN [0,3,4] [] rfl <| A0 <| A3 rfl rfl <| D7 rfl rfl (C5 (by omega)) <| A5 rfl rfl rfl <| xN [0,3,4] [] rfl ?_
  rw [← b9t (by omega) hi0]
  refine ⟨i + 1, ?_, (by omega), ⟨rfl, rfl, rfl, trivial⟩⟩
  omega
 refine G4 <| A4 <| A0 <| A3 rfl rfl <| A5 rfl rfl rfl <| xN [2] [] rfl <| C2 <| C4 rfl rfl trivial ?_
 rw [List.take_of_length_le (by omega)]

theorem keep_s_splitAt : G8 Try.f72 = [0, 1, 4, 7, 12, 19, 6, 5] := by kernel_rfl
set_option maxHeartbeats 20000000 in
theorem b5m (s : List UInt8) (hs : s.length ≤ 1048576) (c : UInt8) : CW cxT 72 [tV s, uV c.toNat] = some (.own 1 ((splitB c s).map tV), []) := by
 refine H0 rfl Try.func72 rfl ⟨by kernel_rfl, rfl, dT rfl, dT rfl, by decide⟩ keep_s_splitAt <| A4 <| A0 ?_
 (refine D3 rfl rfl (fun _ => rfl) ?_; intro g4)
 refine xN [0,1] [] rfl <| A4 <| A0 <| C8 (es := List.map tV []) rfl rfl (dT rfl) rfl rfl (fun _ => B3 (A6 fun _ => rfl)) (fun _ => rfl) ?_
 intro g8
 (refine B6 rfl rfl (by (simp; done)) rfl (fun _ => (B3 (by exact A6 fun _ => rfl))) (fun _ => rfl) ?_; intro g5)
 refine xN [0,1,5] [5] rfl <| A4 <| A0 <| A5 rfl rfl rfl <| xN [0,1,5,6] [5] rfl <| A4 <| A4 <| A0 <| A5 rfl rfl rfl <| xN [0,1,5,6,7] [5] rfl <| C9 <| G3 (β := Nat × Nat × List (List UInt8) × Nat) [(.t 0, _), (.t 1, _)] (fun (z : Nat × Nat × List (List UInt8) × Nat) => match z with | (i, fr, out, g) => [(.t 7, iV i), (.t 6, iV fr), (.t 5, .sl 5 g none 0 out.length), (.h 5, .obj g 0 1 (out.map tV))]) (fun (z : Nat × Nat × List (List UInt8) × Nat) => match z with | (i, fr, out, g) => i ≤ s.length ∧ fr ≤ i ∧ out.length ≤ i ∧ splitB c s = out ++ W5 ((s.drop fr).take (i - fr)) (splitB c (s.drop i))) (fun (z : Nat × Nat × List (List UInt8) × Nat) => match z with | (i, fr, out, g) => s.length - i) (0, 0, [], _) ⟨rfl, rfl, rfl, rfl, rfl, rfl, trivial⟩ ⟨Nat.zero_le _, Nat.le_refl _, Nat.le_refl _, by simp [b5h]⟩ ?_
 intro z hb
 obtain ⟨i, fr, out, g⟩ := z
 try dsimp only at hb
 obtain ⟨hi1, hfr, hol, hsp⟩ := hb
 refine A4 <| A4 <| A0 <| A3 rfl rfl <| A3 rfl rfl <| a3h rfl rfl <| G7 rfl rfl <| xN [0,1,5,6,7,12] [5] rfl ?_
 refine A7 rfl ?_ ?_ <;> intro hc <;> try simp only [SL] at hc
 ·refine B7 <| A4 <| C9 <| A4 <| A0 <| A3 rfl rfl <| A3 rfl rfl <| P9 rfl rfl rfl (by omega) <| A3 rfl rfl <| H8 rfl rfl <| xN [0,1,5,6,7,19] [5] rfl ?_
  refine A7 rfl ?_ ?_ <;> intro hc <;> try simp only [SL] at hc
  ·have hcb : s.getD i 0 = c := UInt8.toNat_inj.1 (by omega)
   refine A4 <| A0 ?_
   iterate 4 refine A3 rfl rfl ?_
   refine U3 rfl rfl (J4 rfl) (J4 rfl) (by omega) <| C8 (es := List.map tV [_]) rfl rfl (dT rfl) rfl rfl (fun _ => B3 (A6 fun _ => rfl)) (fun _ => rfl) ?_
   intro g25
   refine E4 rfl rfl rfl rfl (by (simp; done)) (by simp) (by decide) rfl rfl rfl rfl (dT rfl) (fun _ => ⟨rfl, rfl⟩) (by simp only [H6]; (simp only [List.length_nil, List.length_cons, List.length_append, Nat.zero_add, List.length_map]; omega)) (fun _ => rfl) ?_
   intro g26
   (refine B6 rfl rfl (by (simp; done)) rfl (fun _ => (B3 (by exact A6 fun _ => rfl))) (fun _ => rfl) ?_; intro g5)
   refine xN [0,1,5,7] [5] rfl <| A0 <| A3 rfl rfl <| D7 rfl rfl (C5 (by omega)) <| A5 rfl rfl rfl <| xN [0,1,5,6,7] [5] rfl <| A0 <| A3 rfl rfl <| D7 rfl rfl (C5 (by omega)) <| A5 rfl rfl rfl <| xN [0,1,5,6,7] [5] rfl ?_
   refine ⟨(i + 1, i + 1, out ++ [(s.drop fr).take (i - fr)], _), ?_, (by simp only; omega), ⟨rfl, rfl, rfl, rfl, rfl, rfl, trivial⟩⟩
   have hst := b2j (by omega) hfr hsp
   exact ⟨by omega, by omega, by simp; omega, hst.1 hcb⟩
  have hcb : s.getD i 0 ≠ c := fun e => hc (by rw [e])
  refine B7 <| A0 <| A3 rfl rfl <| D7 rfl rfl (C5 (by omega)) <| A5 rfl rfl rfl <| xN [0,1,5,6,7] [5] rfl ?_
  refine ⟨(i + 1, fr, out, _), ?_, (by simp only; omega), ⟨rfl, rfl, rfl, rfl, rfl, rfl, trivial⟩⟩
  have hst := b2j (by omega) hfr hsp
  exact ⟨by omega, by omega, by omega, hst.2 hcb⟩
 refine G4 <| A4 <| A0 <| A3 rfl rfl <| A3 rfl rfl <| A3 rfl rfl <| U3 rfl rfl K8 (J4 rfl) (by omega) <| C8 (es := List.map tV [_]) rfl rfl (dT rfl) rfl rfl (fun _ => B3 (A6 fun _ => rfl)) (fun _ => rfl) ?_
 intro g33
 refine E4 rfl rfl rfl rfl (by (simp; done)) (by simp) (by decide) rfl rfl rfl rfl (dT rfl) (fun _ => ⟨rfl, rfl⟩) (by simp only [H6]; (simp only [List.length_nil, List.length_cons, List.length_append, Nat.zero_add, List.length_map]; omega)) (fun _ => rfl) ?_
 intro g34
 (refine B6 rfl rfl (by (simp; done)) rfl (fun _ => (B3 (by exact A6 fun _ => rfl))) (fun _ => rfl) ?_; intro g4)
 refine xN [4] [4] rfl <| C2 <| O2 rfl rfl (by simp) (by exact A6 fun _ => rfl) trivial ?_
 have hil : i = s.length := by omega
 rw [hsp, hil, List.drop_length, splitB, W5, List.append_nil]

theorem keep_s_readList : G8 Try.f96 = [0, 2, 3, 5, 6, 17, 7, 8, 31, 10, 37, 9, 53, 62, 75, 4] := by kernel_rfl
set_option maxHeartbeats 20000000 in
theorem c0s (s : List UInt8) (hs : s.length ≤ 1048576) : CW cxT 96 [tV s] = some (.tup [.own 1 (((rdL s).getD []).map iV), bV (rdL s).isSome], []) := by
 obtain ⟨ps, hps⟩ : ∃ ps, ps = splitB 44 s := ⟨_, rfl⟩
 have hpl := a1s 44 s
 rw [← hps] at hpl
 have hpp := a4o 44 s
 rw [← hps] at hpp
 refine H0 rfl Try.func96 rfl ⟨by kernel_rfl, rfl, dT rfl, dT rfl, by decide⟩ keep_s_readList <| A4 <| A0 ?_
 (refine D3 rfl rfl (fun _ => rfl) ?_; intro g2)
 refine A5 rfl rfl rfl <| xN [0] [] rfl <| A4 <| A0 <| C8 (es := List.map iV []) rfl rfl (dT rfl) rfl rfl (fun _ => B3 (A6 fun _ => rfl)) (fun _ => rfl) ?_
 intro g11
 (refine B6 rfl rfl (by (simp; done)) rfl (fun _ => (B3 (by exact A6 fun _ => rfl))) (fun _ => rfl) ?_; intro g4)
 refine xN [0,4] [4] rfl <| A4 <| A0 <| A3 rfl rfl ?_
 apply xC rfl
 ·apply A9
  ·exact B2 rfl
  apply A9
  ·exact B2 rfl
  exact C6
 ·exact b5m s hs 44
 refine ⟨⟨rfl, rfl, rfl, dT rfl, rfl⟩, .inl rfl, B9, J7, fun _ => rfl, fun g13 => ?_⟩
 rw [← hps]
 try simp only [List.length_map]
 (refine B6 rfl rfl (by (simp; done)) rfl (fun _ => (B3 (by exact A6 fun _ => rfl))) (fun _ => rfl) ?_; intro g5)
 refine xN [4,5] [4,5] rfl <| A4 <| A4 <| A0 <| A5 rfl rfl rfl <| xN [4,5,6] [4,5] rfl <| C9 <| G3 (β := Nat × List Int × Nat) [(.t 5, _), (.h 5, _)] (fun (z : Nat × List Int × Nat) => match z with | (i, ns, g) => [(.t 6, iV i), (.t 4, .sl 4 g none 0 ns.length), (.h 4, .obj g 0 1 (ns.map iV))]) (fun (z : Nat × List Int × Nat) => match z with | (i, ns, g) => i ≤ ps.length ∧ a1r (ps.take i) = some ns) (fun (z : Nat × List Int × Nat) => match z with | (i, ns, g) => ps.length - i) (0, [], _) ⟨rfl, rfl, rfl, rfl, rfl, trivial⟩ ⟨Nat.zero_le _, rfl⟩ ?_
 intro z hb
 obtain ⟨i, ns, g⟩ := z
 try dsimp only at hb
 obtain ⟨hi1, hrd⟩ := hb
 have hnl := a9t hrd
 rw [List.length_take] at hnl
 have hpi := fun h : i < ps.length => hpp _ (L8 h)
 refine A4 <| A4 <| A0 <| A3 rfl rfl <| A3 rfl rfl <| I4 rfl rfl <| G7 rfl rfl <| xN [4,5,6,17] [4,5] rfl ?_
 refine A7 rfl ?_ ?_ <;> intro hc <;> try simp only [SL] at hc
 ·refine B7 <| A4 <| C9 <| A4 <| A0 <| A3 rfl rfl <| A3 rfl rfl <| D8 rfl rfl rfl rfl (by omega) (by (simp; done)) rfl <| J0 rfl rfl (by omega) (fun _ => rfl) (fun _ => rfl) rfl <| A5 rfl rfl rfl <| xN [4,5,6,7] [4,5] rfl <| A4 <| A0 <| A3 rfl rfl <| c4l rfl rfl <| A3 rfl rfl ?_
  refine B1 rfl rfl ?_ ?_ <;> intro hg0 <;> have hg := hg0 <;> try simp only [SG] at hg
  ·refine A3 rfl rfl <| gT rfl rfl ?_
   have hp0 : 0 < (ps.getD i default).length := List.length_pos_iff.2 (by assumption)
   refine P9 (n := 0) rfl rfl rfl hp0 <| gT rfl rfl <| H8 rfl rfl <| B8 rfl (by assumption) rfl rfl <| A5 rfl rfl rfl <| xN [4,5,6,7,8] [4,5] rfl <| A4 <| A4 <| A0 <| A3 rfl rfl <| xN [4,5,6,7,8,31] [4,5] rfl ?_
   refine A7 rfl ?_ ?_ <;> intro hc <;> try simp only [SL] at hc
   ·obtain ⟨hng, hup⟩ := d2s (p := (ps.getD i default)) (by assumption) (by omega)
    have hul := b7e (ps.getD i default)
    rw [hup] at hul
    refine A0 <| A3 rfl rfl <| U3 rfl rfl K8 (J4 (n := 1) rfl) (by omega) <| A5 rfl rfl rfl <| xN [4,5,6,7,8] [4,5] rfl <| A4 <| A0 <| A5 rfl rfl rfl <| xN [4,5,6,7,8,9] [4,5] rfl <| A4 <| A4 <| A0 <| A5 rfl rfl rfl <| xN [4,5,6,7,8,9,10] [4,5] rfl <| C9 ?_
    have hup0 := hup
    refine G3 (β := Nat × Int) [(.t 4, _), (.t 5, _), (.t 6, _), (.t 7, _), (.t 8, _), (.h 4, _), (.h 5, _)] (fun (z : Nat × Int) => match z with | (k, a) => [(.t 10, iV k), (.t 9, iV a)]) (fun (z : Nat × Int) => match z with | (k, a) => k ≤ (unS (ps.getD i default)).length ∧ 0 ≤ a ∧ a0h 0 ((unS (ps.getD i default)).take k) = some a.toNat) (fun (z : Nat × Int) => match z with | (k, a) => (unS (ps.getD i default)).length - k) (0, 0) ⟨rfl, rfl, rfl, rfl, rfl, rfl, rfl, rfl, rfl, trivial⟩ ⟨Nat.zero_le _, by decide, rfl⟩ ?_
    intro z hb
    obtain ⟨k, a⟩ := z
    try dsimp only at hb
    obtain ⟨hk1, ha0, hdg⟩ := hb
    have hab := b1h (by decide) hdg
    rw [hup] at hk1 hdg
    refine A4 <| A4 <| A0 <| A3 rfl rfl <| A3 rfl rfl <| a3h rfl rfl <| G7 rfl rfl <| xN [4,5,6,7,8,9,10,37] [4,5] rfl ?_
    refine A7 rfl ?_ ?_ <;> intro hc <;> try simp only [SL] at hc
    ·refine B7 <| A4 <| C9 <| A4 <| A4 <| A0 <| A3 rfl rfl <| A3 rfl rfl <| P9 rfl rfl rfl (by omega) <| G7 rfl rfl <| A3 rfl rfl ?_
     refine B1 rfl rfl ?_ ?_ <;> intro hg0 <;> have hg := hg0 <;> try simp only [SG] at hg
     ·refine A3 rfl rfl <| gT rfl rfl <| A3 rfl rfl <| gT rfl rfl <| P9 rfl rfl rfl (by omega) <| gT rfl rfl <| N0 rfl rfl <| B5 rfl (by assumption) rfl rfl <| A3 rfl rfl ?_
      refine B1 rfl rfl ?_ ?_ <;> intro hg0 <;> have hg := hg0 <;> try simp only [SG] at hg
      ·refine A3 rfl rfl <| gT rfl rfl <| N0 rfl rfl <| B5 rfl (by assumption) rfl rfl <| xN [4,5,6,7,8,9,10,53] [4,5] rfl ?_
       refine A7 rfl ?_ ?_ <;> intro hc <;> try simp only [SL] at hc
       ·refine A4 <| A0 ?_
        (refine D3 rfl rfl (fun _ => rfl) ?_; intro g2)
        refine A5 rfl rfl rfl <| xN [2,3] [2] rfl <| C2 <| F7 (H4 rfl rfl (by simp) (by rfl) (H2 rfl rfl (G9 E5))) ?_
        rw [rdL, ← hps, M2 (show i < ps.length by omega) (W4 (by rw [hup]; exact T3 (by omega) hdg (by omega)))]
        rfl
       refine B7 <| A0 <| A3 rfl rfl <| a6i rfl rfl (C5 (by omega)) <| A3 rfl rfl <| A3 rfl rfl <| P9 rfl rfl rfl (by omega) <| I1 rfl rfl (d1s (by omega)) <| a5f rfl rfl rfl (C5 (by omega)) <| D7 rfl rfl (C5 (by omega)) <| A5 rfl rfl rfl <| xN [4,5,6,7,8,9,10] [4,5] rfl <| A0 <| A3 rfl rfl <| D7 rfl rfl (C5 (by omega)) <| A5 rfl rfl rfl <| xN [4,5,6,7,8,9,10] [4,5] rfl ?_
       refine ⟨(k + 1, _), ?_, (by simp only [hup]; omega), ⟨rfl, rfl, rfl, rfl, rfl, rfl, rfl, rfl, rfl, trivial⟩⟩
       rw [hup]
       have hds := a8t (by omega) hdg (by omega)
       exact ⟨by omega, by omega, hds.trans (congrArg some (by omega))⟩
      refine gF rfl rfl <| B8 rfl (by assumption) rfl rfl <| xN [4,5,6,7,8,9,10,53] [4,5] rfl ?_
      refine A7 rfl (fun hc => ?_) (fun hc => absurd hc (by decide))
      refine A4 <| A0 ?_
      (refine D3 rfl rfl (fun _ => rfl) ?_; intro g2)
      refine A5 rfl rfl rfl <| xN [2,3] [2] rfl <| C2 <| F7 (H4 rfl rfl (by simp) (by rfl) (H2 rfl rfl (G9 E5))) ?_
      rw [rdL, ← hps, M2 (show i < ps.length by omega) (W4 (by rw [hup]; exact T3 (by omega) hdg (by omega)))]
      rfl
     refine gF rfl rfl <| gF rfl rfl <| gF rfl rfl <| B8 rfl (by assumption) rfl rfl <| A3 rfl rfl <| C3 rfl rfl rfl <| C3 rfl rfl rfl <| B8 rfl rfl rfl rfl <| xN [4,5,6,7,8,9,10,53] [4,5] rfl ?_
     refine A7 rfl (fun hc => ?_) (fun hc => absurd hc (by decide))
     refine A4 <| A0 ?_
     (refine D3 rfl rfl (fun _ => rfl) ?_; intro g2)
     refine A5 rfl rfl rfl <| xN [2,3] [2] rfl <| C2 <| F7 (H4 rfl rfl (by simp) (by rfl) (H2 rfl rfl (G9 E5))) ?_
     rw [rdL, ← hps, M2 (show i < ps.length by omega) (W4 (by rw [hup]; exact T3 (by omega) hdg (by omega)))]
     rfl
    have hdU : a0h 0 (unS (ps.getD i default)) = some a.toNat := by rw [hup]; rw [List.take_of_length_le (by omega)] at hdg; exact hdg
    refine G4 <| A4 <| A4 <| A0 <| A3 rfl rfl <| xN [4,5,6,7,9,62] [4,5] rfl ?_
    refine A7 rfl (fun hc => ?_) (fun hc => absurd hc (by simp_all))
    refine A0 <| A3 rfl rfl <| b5p rfl (C5 (by omega)) <| A5 rfl rfl rfl <| xN [4,5,6,7,9] [4,5] rfl <| A4 <| A4 <| A0 <| A3 rfl rfl <| a4t rfl rfl <| A3 rfl rfl ?_
    refine B1 rfl rfl ?_ ?_ <;> intro hg0 <;> have hg := hg0 <;> try simp only [SG] at hg
    ·refine A3 rfl rfl <| gT rfl rfl ?_
     have hdl1 := V2 (m := -a) (by omega)
     have hdl2 := V2 (m := a) (by omega)
     apply xC rfl
     ·apply A9
      ·exact B2 rfl
      exact C6
     ·exact a5j (-a) (by omega)
     refine ⟨⟨rfl, rfl, rfl, dT rfl, rfl⟩, .inl rfl, B9, C1 rfl, fun _ => rfl, fun g69 => ?_⟩
     refine gT rfl rfl <| A3 rfl rfl <| gT rfl rfl <| A3 rfl rfl <| gT rfl rfl <| D8 rfl rfl rfl rfl (by omega) (by (simp; done)) rfl <| gT rfl rfl <| J0 rfl rfl (by omega) (fun _ => rfl) (fun _ => rfl) rfl <| gT rfl rfl <| c4l rfl rfl <| B5 rfl (by assumption) rfl rfl ?_
     refine I7 ⟨fun _ => ⟨by (simp only [Z7, List.nil_append, List.append_nil, List.map_cons, List.map_nil, List.cons_append]; decide +kernel), by decide +kernel⟩, [(.t 4, _), (.t 5, _), (.t 6, _), (.t 9, _), (.t 75, _), (.h 4, _), (.h 5, _)], ⟨rfl, rfl, rfl, rfl, rfl, rfl, rfl, rfl, rfl, rfl, rfl, rfl, rfl, rfl, trivial⟩, ?_⟩
     refine A7 rfl ?_ ?_ <;> intro hc <;> try simp only [SL] at hc
     ·refine A4 <| A0 ?_
      (refine D3 rfl rfl (fun _ => rfl) ?_; intro g2)
      refine A5 rfl rfl rfl <| xN [2,3] [2] rfl <| C2 <| F7 (H4 rfl rfl (by simp) (by rfl) (H2 rfl rfl (G9 E5))) ?_
      have hno : rdI (ps.getD i default) = none := by exact a8l (m := -a) hdU (by (rw [hng, if_pos rfl]; omega)) (by exact .inr (by assumption))
      rw [rdL, ← hps, M2 (show i < ps.length by omega) hno]
      rfl
     have hri := c0y (m := -a) hdU (by (rw [hng, if_pos rfl]; omega)) (by rw [hup]; assumption) (by assumption)
     refine B7 <| A0 <| A3 rfl rfl <| A3 rfl rfl <| C8 (es := List.map iV [_]) rfl rfl (dT rfl) rfl rfl (fun _ => B3 (A6 fun _ => rfl)) (fun _ => rfl) ?_
     intro g78
     refine E4 rfl rfl rfl rfl (by (simp; done)) (by simp) (by decide) rfl rfl rfl rfl (dT rfl) (fun _ => ⟨rfl, rfl⟩) (by simp only [H6]; (simp only [List.length_nil, List.length_cons, List.length_append, Nat.zero_add, List.length_map]; omega)) (fun _ => rfl) ?_
     intro g79
     (refine B6 rfl rfl (by (simp; done)) rfl (fun _ => (B3 (by exact A6 fun _ => rfl))) (fun _ => rfl) ?_; intro g4)
     refine xN [4,5,6] [4,5] rfl <| A0 <| A3 rfl rfl <| D7 rfl rfl (C5 (by omega)) <| A5 rfl rfl rfl <| xN [4,5,6] [4,5] rfl ?_
     refine ⟨(i + 1, ns ++ [-a], _), ?_, (by simp only; omega), ⟨rfl, rfl, rfl, rfl, rfl, trivial⟩⟩
     exact ⟨by omega, a8s (by omega) hrd hri⟩
    iterate 6 refine gF rfl rfl ?_
    refine B8 rfl (by assumption) rfl rfl ?_
    refine I7 ⟨fun _ => ⟨by decide +kernel, by decide +kernel⟩, [(.t 4, _), (.t 5, _), (.t 6, _), (.t 9, _), (.t 75, _), (.h 4, _), (.h 5, _)], ⟨rfl, rfl, rfl, rfl, rfl, rfl, rfl, rfl, rfl, rfl, rfl, rfl, rfl, rfl, trivial⟩, ?_⟩
    refine A7 rfl (fun hc => ?_) (fun hc => absurd hc (by decide))
    refine A4 <| A0 ?_
    (refine D3 rfl rfl (fun _ => rfl) ?_; intro g2)
    refine A5 rfl rfl rfl <| xN [2,3] [2] rfl <| C2 <| F7 (H4 rfl rfl (by simp) (by rfl) (H2 rfl rfl (G9 E5))) ?_
    have hno : rdI (ps.getD i default) = none := by exact a8l (m := -a) hdU (by (rw [hng, if_pos rfl]; omega)) (by exact .inl (by rw [hup]; assumption))
    rw [rdL, ← hps, M2 (show i < ps.length by omega) hno]
    rfl
   obtain ⟨hng, hup⟩ := d1c (p := (ps.getD i default)) (by exact .inr (by omega))
   have hul := b7e (ps.getD i default)
   rw [hup] at hul
   refine B7 <| A4 <| A0 <| A5 rfl rfl rfl <| xN [4,5,6,7,8,9] [4,5] rfl <| A4 <| A4 <| A0 <| A5 rfl rfl rfl <| xN [4,5,6,7,8,9,10] [4,5] rfl <| C9 ?_
   have hup0 := hup
   refine G3 (β := Nat × Int) [(.t 4, _), (.t 5, _), (.t 6, _), (.t 7, _), (.t 8, _), (.h 4, _), (.h 5, _)] (fun (z : Nat × Int) => match z with | (k, a) => [(.t 10, iV k), (.t 9, iV a)]) (fun (z : Nat × Int) => match z with | (k, a) => k ≤ (unS (ps.getD i default)).length ∧ 0 ≤ a ∧ a0h 0 ((unS (ps.getD i default)).take k) = some a.toNat) (fun (z : Nat × Int) => match z with | (k, a) => (unS (ps.getD i default)).length - k) (0, 0) ⟨rfl, rfl, rfl, rfl, rfl, rfl, rfl, rfl, rfl, trivial⟩ ⟨Nat.zero_le _, by decide, rfl⟩ ?_
   intro z hb
   obtain ⟨k, a⟩ := z
   try dsimp only at hb
   obtain ⟨hk1, ha0, hdg⟩ := hb
   have hab := b1h (by decide) hdg
   rw [hup] at hk1 hdg
   refine A4 <| A4 <| A0 <| A3 rfl rfl <| A3 rfl rfl <| a3h rfl rfl <| G7 rfl rfl <| xN [4,5,6,7,8,9,10,37] [4,5] rfl ?_
   refine A7 rfl ?_ ?_ <;> intro hc <;> try simp only [SL] at hc
   ·refine B7 <| A4 <| C9 <| A4 <| A4 <| A0 <| A3 rfl rfl <| A3 rfl rfl <| P9 rfl rfl rfl (by omega) <| G7 rfl rfl <| A3 rfl rfl ?_
    refine B1 rfl rfl ?_ ?_ <;> intro hg0 <;> have hg := hg0 <;> try simp only [SG] at hg
    ·refine A3 rfl rfl <| gT rfl rfl <| A3 rfl rfl <| gT rfl rfl <| P9 rfl rfl rfl (by omega) <| gT rfl rfl <| N0 rfl rfl <| B5 rfl (by assumption) rfl rfl <| A3 rfl rfl ?_
     refine B1 rfl rfl ?_ ?_ <;> intro hg0 <;> have hg := hg0 <;> try simp only [SG] at hg
     ·refine A3 rfl rfl <| gT rfl rfl <| N0 rfl rfl <| B5 rfl (by assumption) rfl rfl <| xN [4,5,6,7,8,9,10,53] [4,5] rfl ?_
      refine A7 rfl ?_ ?_ <;> intro hc <;> try simp only [SL] at hc
      ·refine A4 <| A0 ?_
       (refine D3 rfl rfl (fun _ => rfl) ?_; intro g2)
       refine A5 rfl rfl rfl <| xN [2,3] [2] rfl <| C2 <| F7 (H4 rfl rfl (by simp) (by rfl) (H2 rfl rfl (G9 E5))) ?_
       rw [rdL, ← hps, M2 (show i < ps.length by omega) (W4 (by rw [hup]; exact T3 (by omega) hdg (by omega)))]
       rfl
      refine B7 <| A0 <| A3 rfl rfl <| a6i rfl rfl (C5 (by omega)) <| A3 rfl rfl <| A3 rfl rfl <| P9 rfl rfl rfl (by omega) <| I1 rfl rfl (d1s (by omega)) <| a5f rfl rfl rfl (C5 (by omega)) <| D7 rfl rfl (C5 (by omega)) <| A5 rfl rfl rfl <| xN [4,5,6,7,8,9,10] [4,5] rfl <| A0 <| A3 rfl rfl <| D7 rfl rfl (C5 (by omega)) <| A5 rfl rfl rfl <| xN [4,5,6,7,8,9,10] [4,5] rfl ?_
      refine ⟨(k + 1, _), ?_, (by simp only [hup]; omega), ⟨rfl, rfl, rfl, rfl, rfl, rfl, rfl, rfl, rfl, trivial⟩⟩
      rw [hup]
      have hds := a8t (by omega) hdg (by omega)
      exact ⟨by omega, by omega, hds.trans (congrArg some (by omega))⟩
     refine gF rfl rfl <| B8 rfl (by assumption) rfl rfl <| xN [4,5,6,7,8,9,10,53] [4,5] rfl ?_
     refine A7 rfl (fun hc => ?_) (fun hc => absurd hc (by decide))
     refine A4 <| A0 ?_
     (refine D3 rfl rfl (fun _ => rfl) ?_; intro g2)
     refine A5 rfl rfl rfl <| xN [2,3] [2] rfl <| C2 <| F7 (H4 rfl rfl (by simp) (by rfl) (H2 rfl rfl (G9 E5))) ?_
     rw [rdL, ← hps, M2 (show i < ps.length by omega) (W4 (by rw [hup]; exact T3 (by omega) hdg (by omega)))]
     rfl
    refine gF rfl rfl <| gF rfl rfl <| gF rfl rfl <| B8 rfl (by assumption) rfl rfl <| A3 rfl rfl <| C3 rfl rfl rfl <| C3 rfl rfl rfl <| B8 rfl rfl rfl rfl <| xN [4,5,6,7,8,9,10,53] [4,5] rfl ?_
    refine A7 rfl (fun hc => ?_) (fun hc => absurd hc (by decide))
    refine A4 <| A0 ?_
    (refine D3 rfl rfl (fun _ => rfl) ?_; intro g2)
    refine A5 rfl rfl rfl <| xN [2,3] [2] rfl <| C2 <| F7 (H4 rfl rfl (by simp) (by rfl) (H2 rfl rfl (G9 E5))) ?_
    rw [rdL, ← hps, M2 (show i < ps.length by omega) (W4 (by rw [hup]; exact T3 (by omega) hdg (by omega)))]
    rfl
   have hdU : a0h 0 (unS (ps.getD i default)) = some a.toNat := by rw [hup]; rw [List.take_of_length_le (by omega)] at hdg; exact hdg
   refine G4 <| A4 <| A4 <| A0 <| A3 rfl rfl <| xN [4,5,6,7,9,62] [4,5] rfl ?_
   refine A7 rfl (fun hc => absurd hc (by simp_all)) (fun hc => ?_)
   refine B7 <| A4 <| A4 <| A0 <| A3 rfl rfl <| a4t rfl rfl <| A3 rfl rfl ?_
   refine B1 rfl rfl ?_ ?_ <;> intro hg0 <;> have hg := hg0 <;> try simp only [SG] at hg
   ·refine A3 rfl rfl <| gT rfl rfl ?_
    have hdl1 := V2 (m := -a) (by omega)
    have hdl2 := V2 (m := a) (by omega)
    apply xC rfl
    ·apply A9
     ·exact B2 rfl
     exact C6
    ·exact a5j a (by omega)
    refine ⟨⟨rfl, rfl, rfl, dT rfl, rfl⟩, .inl rfl, B9, C1 rfl, fun _ => rfl, fun g69 => ?_⟩
    refine gT rfl rfl <| A3 rfl rfl <| gT rfl rfl <| A3 rfl rfl <| gT rfl rfl <| D8 rfl rfl rfl rfl (by omega) (by (simp; done)) rfl <| gT rfl rfl <| J0 rfl rfl (by omega) (fun _ => rfl) (fun _ => rfl) rfl <| gT rfl rfl <| c4l rfl rfl <| B5 rfl (by assumption) rfl rfl ?_
    refine I7 ⟨fun _ => ⟨by (simp only [Z7, List.nil_append, List.append_nil, List.map_cons, List.map_nil, List.cons_append]; decide +kernel), by decide +kernel⟩, [(.t 4, _), (.t 5, _), (.t 6, _), (.t 9, _), (.t 75, _), (.h 4, _), (.h 5, _)], ⟨rfl, rfl, rfl, rfl, rfl, rfl, rfl, rfl, rfl, rfl, rfl, rfl, rfl, rfl, trivial⟩, ?_⟩
    refine A7 rfl ?_ ?_ <;> intro hc <;> try simp only [SL] at hc
    ·refine A4 <| A0 ?_
     (refine D3 rfl rfl (fun _ => rfl) ?_; intro g2)
     refine A5 rfl rfl rfl <| xN [2,3] [2] rfl <| C2 <| F7 (H4 rfl rfl (by simp) (by rfl) (H2 rfl rfl (G9 E5))) ?_
     have hno : rdI (ps.getD i default) = none := by exact a8l (m := a) hdU (by (rw [hng, if_neg (by decide)]; omega)) (by exact .inr (by assumption))
     rw [rdL, ← hps, M2 (show i < ps.length by omega) hno]
     rfl
    have hri := c0y (m := a) hdU (by (rw [hng, if_neg (by decide)]; omega)) (by rw [hup]; assumption) (by assumption)
    refine B7 <| A0 <| A3 rfl rfl <| A3 rfl rfl <| C8 (es := List.map iV [_]) rfl rfl (dT rfl) rfl rfl (fun _ => B3 (A6 fun _ => rfl)) (fun _ => rfl) ?_
    intro g78
    refine E4 rfl rfl rfl rfl (by (simp; done)) (by simp) (by decide) rfl rfl rfl rfl (dT rfl) (fun _ => ⟨rfl, rfl⟩) (by simp only [H6]; (simp only [List.length_nil, List.length_cons, List.length_append, Nat.zero_add, List.length_map]; omega)) (fun _ => rfl) ?_
    intro g79
    (refine B6 rfl rfl (by (simp; done)) rfl (fun _ => (B3 (by exact A6 fun _ => rfl))) (fun _ => rfl) ?_; intro g4)
    refine xN [4,5,6] [4,5] rfl <| A0 <| A3 rfl rfl <| D7 rfl rfl (C5 (by omega)) <| A5 rfl rfl rfl <| xN [4,5,6] [4,5] rfl ?_
    refine ⟨(i + 1, ns ++ [a], _), ?_, (by simp only; omega), ⟨rfl, rfl, rfl, rfl, rfl, trivial⟩⟩
    exact ⟨by omega, a8s (by omega) hrd hri⟩
   iterate 6 refine gF rfl rfl ?_
   refine B8 rfl (by assumption) rfl rfl ?_
   refine I7 ⟨fun _ => ⟨by decide +kernel, by decide +kernel⟩, [(.t 4, _), (.t 5, _), (.t 6, _), (.t 9, _), (.t 75, _), (.h 4, _), (.h 5, _)], ⟨rfl, rfl, rfl, rfl, rfl, rfl, rfl, rfl, rfl, rfl, rfl, rfl, rfl, rfl, trivial⟩, ?_⟩
   refine A7 rfl (fun hc => ?_) (fun hc => absurd hc (by decide))
   refine A4 <| A0 ?_
   (refine D3 rfl rfl (fun _ => rfl) ?_; intro g2)
   refine A5 rfl rfl rfl <| xN [2,3] [2] rfl <| C2 <| F7 (H4 rfl rfl (by simp) (by rfl) (H2 rfl rfl (G9 E5))) ?_
   have hno : rdI (ps.getD i default) = none := by exact a8l (m := a) hdU (by (rw [hng, if_neg (by decide)]; omega)) (by exact .inl (by rw [hup]; assumption))
   rw [rdL, ← hps, M2 (show i < ps.length by omega) hno]
   rfl
  refine gF rfl rfl <| gF rfl rfl <| B5 rfl (by assumption) rfl rfl <| A5 rfl rfl rfl <| xN [4,5,6,7,8] [4,5] rfl <| A4 <| A4 <| A0 <| A3 rfl rfl <| xN [4,5,6,7,8,31] [4,5] rfl ?_
  refine A7 rfl (fun hc => absurd hc (by decide)) (fun hc => ?_)
  refine B7 <| A4 <| A0 <| A5 rfl rfl rfl <| xN [4,5,6,7,8,9] [4,5] rfl <| A4 <| A4 <| A0 <| A5 rfl rfl rfl <| xN [4,5,6,7,8,9,10] [4,5] rfl <| C9 ?_
  (obtain ⟨hng, hup⟩ := d1c (p := (ps.getD i default)) (.inl (by assumption)); have hul := b7e (ps.getD i default); rw [hup] at hul)
  refine G3 (β := Nat × Int) [(.t 4, _), (.t 5, _), (.t 6, _), (.t 7, _), (.t 8, _), (.h 4, _), (.h 5, _)] (fun (z : Nat × Int) => match z with | (k, a) => [(.t 10, iV k), (.t 9, iV a)]) (fun (z : Nat × Int) => match z with | (k, a) => k ≤ (unS (ps.getD i default)).length ∧ 0 ≤ a ∧ a0h 0 ((unS (ps.getD i default)).take k) = some a.toNat) (fun (z : Nat × Int) => match z with | (k, a) => (unS (ps.getD i default)).length - k) (0, 0) ⟨rfl, rfl, rfl, rfl, rfl, rfl, rfl, rfl, rfl, trivial⟩ ⟨Nat.zero_le _, by decide, rfl⟩ ?_
  intro z hb
  obtain ⟨k, a⟩ := z
  try dsimp only at hb
  obtain ⟨hk1, ha0, hdg⟩ := hb
  have hab := b1h (by decide) hdg
  rw [hup] at hk1 hdg
  refine A4 <| A4 <| A0 <| A3 rfl rfl <| A3 rfl rfl <| a3h rfl rfl <| G7 rfl rfl <| xN [4,5,6,7,8,9,10,37] [4,5] rfl ?_
  refine A7 rfl ?_ ?_ <;> intro hc <;> try simp only [SL] at hc
  ·refine B7 <| A4 <| C9 <| A4 <| A4 <| A0 <| A3 rfl rfl <| A3 rfl rfl <| P9 rfl rfl rfl (by omega) <| G7 rfl rfl <| A3 rfl rfl ?_
   refine B1 rfl rfl ?_ ?_ <;> intro hg0 <;> have hg := hg0 <;> try simp only [SG] at hg
   ·refine A3 rfl rfl <| gT rfl rfl <| A3 rfl rfl <| gT rfl rfl <| P9 rfl rfl rfl (by omega) <| gT rfl rfl <| N0 rfl rfl <| B5 rfl (by assumption) rfl rfl <| A3 rfl rfl ?_
    refine B1 rfl rfl ?_ ?_ <;> intro hg0 <;> have hg := hg0 <;> try simp only [SG] at hg
    ·refine A3 rfl rfl <| gT rfl rfl <| N0 rfl rfl <| B5 rfl (by assumption) rfl rfl <| xN [4,5,6,7,8,9,10,53] [4,5] rfl ?_
     refine A7 rfl ?_ ?_ <;> intro hc <;> try simp only [SL] at hc
     ·refine A4 <| A0 ?_
      (refine D3 rfl rfl (fun _ => rfl) ?_; intro g2)
      refine A5 rfl rfl rfl <| xN [2,3] [2] rfl <| C2 <| F7 (H4 rfl rfl (by simp) (by rfl) (H2 rfl rfl (G9 E5))) ?_
      rw [rdL, ← hps, M2 (show i < ps.length by omega) (W4 (by rw [hup]; exact T3 (by omega) hdg (by omega)))]
      rfl
     refine B7 <| A0 <| A3 rfl rfl <| a6i rfl rfl (C5 (by omega)) <| A3 rfl rfl <| A3 rfl rfl <| P9 rfl rfl rfl (by omega) <| I1 rfl rfl (d1s (by omega)) <| a5f rfl rfl rfl (C5 (by omega)) <| D7 rfl rfl (C5 (by omega)) <| A5 rfl rfl rfl <| xN [4,5,6,7,8,9,10] [4,5] rfl <| A0 <| A3 rfl rfl <| D7 rfl rfl (C5 (by omega)) <| A5 rfl rfl rfl <| xN [4,5,6,7,8,9,10] [4,5] rfl ?_
     refine ⟨(k + 1, _), ?_, (by simp only [hup]; omega), ⟨rfl, rfl, rfl, rfl, rfl, rfl, rfl, rfl, rfl, trivial⟩⟩
     rw [hup]
     have hds := a8t (by omega) hdg (by omega)
     exact ⟨by omega, by omega, hds.trans (congrArg some (by omega))⟩
    refine gF rfl rfl <| B8 rfl (by assumption) rfl rfl <| xN [4,5,6,7,8,9,10,53] [4,5] rfl ?_
    refine A7 rfl (fun hc => ?_) (fun hc => absurd hc (by decide))
    refine A4 <| A0 ?_
    (refine D3 rfl rfl (fun _ => rfl) ?_; intro g2)
    refine A5 rfl rfl rfl <| xN [2,3] [2] rfl <| C2 <| F7 (H4 rfl rfl (by simp) (by rfl) (H2 rfl rfl (G9 E5))) ?_
    rw [rdL, ← hps, M2 (show i < ps.length by omega) (W4 (by rw [hup]; exact T3 (by omega) hdg (by omega)))]
    rfl
   refine gF rfl rfl <| gF rfl rfl <| gF rfl rfl <| B8 rfl (by assumption) rfl rfl <| A3 rfl rfl <| C3 rfl rfl rfl <| C3 rfl rfl rfl <| B8 rfl rfl rfl rfl <| xN [4,5,6,7,8,9,10,53] [4,5] rfl ?_
   refine A7 rfl (fun hc => ?_) (fun hc => absurd hc (by decide))
   refine A4 <| A0 ?_
   (refine D3 rfl rfl (fun _ => rfl) ?_; intro g2)
   refine A5 rfl rfl rfl <| xN [2,3] [2] rfl <| C2 <| F7 (H4 rfl rfl (by simp) (by rfl) (H2 rfl rfl (G9 E5))) ?_
   rw [rdL, ← hps, M2 (show i < ps.length by omega) (W4 (by rw [hup]; exact T3 (by omega) hdg (by omega)))]
   rfl
  have hdU : a0h 0 (unS (ps.getD i default)) = some a.toNat := by rw [hup]; rw [List.take_of_length_le (by omega)] at hdg; exact hdg
  refine G4 <| A4 <| A4 <| A0 <| A3 rfl rfl <| xN [4,5,6,7,9,62] [4,5] rfl ?_
  refine A7 rfl (fun hc => absurd hc (by decide)) (fun hc => ?_)
  refine B7 <| A4 <| A4 <| A0 <| A3 rfl rfl <| a4t rfl rfl <| A3 rfl rfl ?_
  refine B1 rfl rfl ?_ ?_ <;> intro hg0 <;> have hg := hg0 <;> try simp only [SG] at hg
  ·refine A3 rfl rfl <| gT rfl rfl ?_
   have hdl1 := V2 (m := -a) (by omega)
   have hdl2 := V2 (m := a) (by omega)
   apply xC rfl
   ·apply A9
    ·exact B2 rfl
    exact C6
   ·exact a5j a (by omega)
   refine ⟨⟨rfl, rfl, rfl, dT rfl, rfl⟩, .inl rfl, B9, C1 rfl, fun _ => rfl, fun g69 => ?_⟩
   refine gT rfl rfl <| A3 rfl rfl <| gT rfl rfl <| A3 rfl rfl <| gT rfl rfl <| D8 rfl rfl rfl rfl (by omega) (by (simp; done)) rfl <| gT rfl rfl <| J0 rfl rfl (by omega) (fun _ => rfl) (fun _ => rfl) rfl <| gT rfl rfl <| c4l rfl rfl <| B5 rfl (by assumption) rfl rfl ?_
   refine I7 ⟨fun _ => ⟨by (simp only [Z7, List.nil_append, List.append_nil, List.map_cons, List.map_nil, List.cons_append]; decide +kernel), by decide +kernel⟩, [(.t 4, _), (.t 5, _), (.t 6, _), (.t 9, _), (.t 75, _), (.h 4, _), (.h 5, _)], ⟨rfl, rfl, rfl, rfl, rfl, rfl, rfl, rfl, rfl, rfl, rfl, rfl, rfl, rfl, trivial⟩, ?_⟩
   refine A7 rfl ?_ ?_ <;> intro hc <;> try simp only [SL] at hc
   ·refine A4 <| A0 ?_
    (refine D3 rfl rfl (fun _ => rfl) ?_; intro g2)
    refine A5 rfl rfl rfl <| xN [2,3] [2] rfl <| C2 <| F7 (H4 rfl rfl (by simp) (by rfl) (H2 rfl rfl (G9 E5))) ?_
    have hno : rdI (ps.getD i default) = none := by exact a8l (m := a) hdU (by (rw [hng, if_neg (by decide)]; omega)) (by exact .inl (by rw [hup]; assumption))
    rw [rdL, ← hps, M2 (show i < ps.length by omega) hno]
    rfl
   have hri := c0y (m := a) hdU (by (rw [hng, if_neg (by decide)]; omega)) (by rw [hup]; assumption) (by assumption)
   refine B7 <| A0 <| A3 rfl rfl <| A3 rfl rfl <| C8 (es := List.map iV [_]) rfl rfl (dT rfl) rfl rfl (fun _ => B3 (A6 fun _ => rfl)) (fun _ => rfl) ?_
   intro g78
   refine E4 rfl rfl rfl rfl (by (simp; done)) (by simp) (by decide) rfl rfl rfl rfl (dT rfl) (fun _ => ⟨rfl, rfl⟩) (by simp only [H6]; (simp only [List.length_nil, List.length_cons, List.length_append, Nat.zero_add, List.length_map]; omega)) (fun _ => rfl) ?_
   intro g79
   (refine B6 rfl rfl (by (simp; done)) rfl (fun _ => (B3 (by exact A6 fun _ => rfl))) (fun _ => rfl) ?_; intro g4)
   refine xN [4,5,6] [4,5] rfl <| A0 <| A3 rfl rfl <| D7 rfl rfl (C5 (by omega)) <| A5 rfl rfl rfl <| xN [4,5,6] [4,5] rfl ?_
   refine ⟨(i + 1, ns ++ [a], _), ?_, (by simp only; omega), ⟨rfl, rfl, rfl, rfl, rfl, trivial⟩⟩
   exact ⟨by omega, a8s (by omega) hrd hri⟩
  iterate 6 refine gF rfl rfl ?_
  refine B8 rfl (by assumption) rfl rfl ?_
  refine I7 ⟨fun _ => ⟨by decide +kernel, by decide +kernel⟩, [(.t 4, _), (.t 5, _), (.t 6, _), (.t 9, _), (.t 75, _), (.h 4, _), (.h 5, _)], ⟨rfl, rfl, rfl, rfl, rfl, rfl, rfl, rfl, rfl, rfl, rfl, rfl, rfl, rfl, trivial⟩, ?_⟩
  refine A7 rfl (fun hc => ?_) (fun hc => absurd hc (by decide))
  refine A4 <| A0 ?_
  (refine D3 rfl rfl (fun _ => rfl) ?_; intro g2)
  refine A5 rfl rfl rfl <| xN [2,3] [2] rfl <| C2 <| F7 (H4 rfl rfl (by simp) (by rfl) (H2 rfl rfl (G9 E5))) ?_
  have hno : rdI (ps.getD i default) = none := by exact a8l (m := a) hdU (by (rw [hng, if_neg (by decide)]; omega)) (by exact .inl (by rw [hup]; assumption))
  rw [rdL, ← hps, M2 (show i < ps.length by omega) hno]
  rfl
 refine G4 <| A4 <| A0 <| A3 rfl rfl ?_
 (refine B6 rfl rfl (by (simp; done)) rfl (fun _ => (B3 (by exact A6 fun _ => rfl))) (fun _ => rfl) ?_; intro g2)
 refine A5 rfl rfl rfl <| xN [2,3] [2] rfl <| C2 <| F7 (H4 rfl rfl (by simp) (by exact A6 fun _ => rfl) (H2 rfl rfl (G9 E5))) ?_
 have hil : i = ps.length := by omega
 rw [hil, List.take_length] at hrd
 rw [rdL, ← hps, hrd]
 rfl

theorem keep_s_readNums : G8 Try.f88 = [0, 2, 3, 4, 22, 24, 5, 6] := by kernel_rfl
set_option maxHeartbeats 20000000 in
theorem c2n (s : List UInt8) (hs : s.length ≤ 1048576) : CW cxT 88 [tV s] = some (.tup [.own 1 ((b9w s).map iV), bV (O9 s).isSome], []) := by
 refine H0 rfl Try.func88 rfl ⟨by kernel_rfl, rfl, dT rfl, dT rfl, by decide⟩ keep_s_readNums <| A4 <| A0 ?_
 (refine D3 rfl rfl (fun _ => rfl) ?_; intro g2)
 refine A5 rfl rfl rfl <| xN [0] [] rfl <| A4 <| A0 <| A3 rfl rfl <| a3h rfl rfl <| A5 rfl rfl rfl <| xN [0,4] [] rfl <| A4 <| A4 <| A0 <| A3 rfl rfl <| G7 rfl rfl <| A3 rfl rfl ?_
 refine B1 rfl rfl ?_ ?_ <;> intro hg0 <;> have hg := hg0 <;> try simp only [SG] at hg
 ·refine A3 rfl rfl <| gT rfl rfl <| P9 (n := 0) rfl rfl rfl (by omega) <| gT rfl rfl <| N5 rfl rfl <| B5 rfl (by assumption) rfl rfl <| A3 rfl rfl ?_
  refine B1 rfl rfl ?_ ?_ <;> intro hg0 <;> have hg := hg0 <;> try simp only [SG] at hg
  ·refine A3 rfl rfl <| gT rfl rfl <| A3 rfl rfl <| gT rfl rfl <| I1 rfl rfl (C5 (by omega)) <| gT rfl rfl ?_
   rw [show ((s.length : Int) - 1) = ((s.length - 1 : Nat) : Int) by omega]
   refine P9 rfl rfl rfl (by omega) <| gT rfl rfl <| N5 rfl rfl <| B5 rfl (by assumption) rfl rfl <| xN [0,4,22] [] rfl ?_
   refine A7 rfl ?_ ?_ <;> intro hc <;> try simp only [SL] at hc
   ·refine A4 <| A0 ?_
    (refine D3 rfl rfl (fun _ => rfl) ?_; intro g2)
    refine A5 rfl rfl rfl <| xN [2,3] [2] rfl <| C2 <| F7 (H4 rfl rfl (by simp) (by rfl) (H2 rfl rfl (G9 E5))) ?_
    obtain ⟨hn1, hn2⟩ := a5x (s := s) (by exact .inr (.inr (by omega)))
    rw [hn1, hn2]
    rfl
   have hin := c4u (s := s) (by omega) (by omega) (by omega)
   refine B7 <| A4 <| A4 <| A0 <| A3 rfl rfl <| H8 rfl rfl <| xN [0,4,24] [] rfl ?_
   refine A7 rfl ?_ ?_ <;> intro hc <;> try simp only [SL] at hc
   ·refine A4 <| A0 <| C8 (es := List.map iV []) rfl rfl (dT rfl) rfl rfl (fun _ => B3 (A6 fun _ => rfl)) (fun _ => rfl) ?_
    intro g25
    (refine B6 rfl rfl (by (simp; done)) rfl (fun _ => (B3 (by exact A6 fun _ => rfl))) (fun _ => rfl) ?_; intro g2)
    refine A5 rfl rfl rfl <| xN [2,3] [2] rfl <| C2 <| F7 (H4 rfl rfl (by simp) (by rfl) (H2 rfl rfl (G9 E5))) ?_
    obtain ⟨hn1, hn2⟩ := hin.1 (by omega)
    rw [hn1, hn2]
    rfl
   refine B7 <| A4 <| A0 <| A3 rfl rfl <| A3 rfl rfl <| I1 rfl rfl (C5 (by omega)) ?_
   rw [show ((s.length : Int) - 1) = ((s.length - 1 : Nat) : Int) by omega]
   have hrl := d0c ((s.drop 1).take (s.length - 1 - 1))
   have hin2 : ((s.drop 1).take (s.length - 1 - 1)).length ≤ s.length - 2 := by simp only [List.length_take, List.length_drop]; omega
   refine U3 rfl rfl (J4 rfl) (J4 (n := 1) rfl) (by omega) ?_
   apply xC rfl
   ·apply A9
    ·exact B2 rfl
    exact C6
   ·exact c0s ((s.drop 1).take (s.length - 1 - 1)) (by omega)
   refine ⟨⟨rfl, rfl, rfl, dT rfl, rfl⟩, .inr ⟨M4 _ _, rfl⟩, B9, K3 (P8 fun _ => P0 rfl Q7), fun _ => rfl, fun g31 => ?_⟩
   simp only [List.length_map]
   refine A3 rfl rfl <| E8 rfl rfl rfl <| E8 rfl rfl rfl ?_
   (refine B6 rfl rfl (by (simp; done)) rfl (fun _ => (B3 (by exact A6 fun _ => rfl))) (fun _ => rfl) ?_; intro g5)
   refine A5 rfl rfl rfl <| xN [5,6] [5] rfl <| A4 <| A0 <| A3 rfl rfl <| A3 rfl rfl <| A3 rfl rfl ?_
   refine B1 rfl rfl ?_ ?_ <;> intro hg0 <;> have hg := hg0 <;> try simp only [SG] at hg
   ·refine A3 rfl rfl <| gT rfl rfl ?_
    apply xC rfl
    ·apply A9
     ·exact H3 rfl rfl rfl (by (simp; done)) (fun _ => rfl)
     exact C6
    ·exact a1g ((rdL ((s.drop 1).take (s.length - 1 - 1))).getD []) (by omega)
    refine ⟨⟨rfl, rfl, rfl, dT rfl, rfl⟩, .inr ⟨rfl, rfl⟩, B9, C1 rfl, fun _ => rfl, fun g38 => ?_⟩
    refine B8 rfl (by assumption) rfl rfl ?_
    (refine B6 rfl rfl (by (simp; done)) rfl (fun _ => (B3 (by exact A6 fun _ => rfl))) (fun _ => rfl) ?_; intro g2)
    refine A5 rfl rfl rfl <| xN [2,3] [2] rfl <| C2 <| F7 (H4 rfl rfl (by simp) (by exact A6 fun _ => rfl) (H2 rfl rfl (G9 E5))) ?_
    obtain ⟨hn1, hn2⟩ := hin.2 (by omega)
    rw [hn2, b2x hn1]
    simp_all
    try rfl
   refine gF rfl rfl <| B5 rfl (by assumption) rfl rfl ?_
   (refine B6 rfl rfl (by (simp; done)) rfl (fun _ => (B3 (by exact A6 fun _ => rfl))) (fun _ => rfl) ?_; intro g2)
   refine A5 rfl rfl rfl <| xN [2,3] [2] rfl <| C2 <| F7 (H4 rfl rfl (by simp) (by exact A6 fun _ => rfl) (H2 rfl rfl (G9 E5))) ?_
   obtain ⟨hn1, hn2⟩ := hin.2 (by omega)
   rw [hn2, b2x hn1]
   simp_all
   try rfl
  iterate 4 refine gF rfl rfl ?_
  refine B8 rfl (by assumption) rfl rfl <| xN [0,4,22] [] rfl ?_
  refine A7 rfl (fun hc => ?_) (fun hc => absurd hc (by decide))
  refine A4 <| A0 ?_
  (refine D3 rfl rfl (fun _ => rfl) ?_; intro g2)
  refine A5 rfl rfl rfl <| xN [2,3] [2] rfl <| C2 <| F7 (H4 rfl rfl (by simp) (by rfl) (H2 rfl rfl (G9 E5))) ?_
  obtain ⟨hn1, hn2⟩ := a5x (s := s) (by exact .inr (.inl (by omega)))
  rw [hn1, hn2]
  rfl
 refine gF rfl rfl <| gF rfl rfl <| B8 rfl (by assumption) rfl rfl <| A3 rfl rfl ?_
 iterate 5 refine C3 rfl rfl rfl ?_
 refine B8 rfl rfl rfl rfl <| xN [0,4,22] [] rfl ?_
 refine A7 rfl (fun hc => ?_) (fun hc => absurd hc (by decide))
 refine A4 <| A0 ?_
 (refine D3 rfl rfl (fun _ => rfl) ?_; intro g2)
 refine A5 rfl rfl rfl <| xN [2,3] [2] rfl <| C2 <| F7 (H4 rfl rfl (by simp) (by rfl) (H2 rfl rfl (G9 E5))) ?_
 obtain ⟨hn1, hn2⟩ := a5x (s := s) (by exact .inl (by omega))
 rw [hn1, hn2]
 rfl

theorem keep_s_readTree : G8 Try.f73 = [0, 2, 3, 4, 15, 6, 24, 5, 7, 34, 43, 9, 12, 53, 8, 10, 11, 48, 59] := by kernel_rfl
set_option maxHeartbeats 20000000 in
theorem b3d (ws : List W8) (hws : ws.length ≤ 1048600 ∧ ∀ w ∈ ws, w.length ≤ 1048576) : CW cxT 73 [.list (ws.map tV)] = some (rtR (rdT ws), []) := by
 obtain ⟨kk, hkk⟩ : ∃ kk : Nat, ws.length < kk := ⟨_, Nat.lt_succ_self _⟩
 revert ws
 induction kk with
 | zero => intro ws hws hkk; exact absurd hkk (Nat.not_lt_zero _)
 | succ kk ih =>
  intro ws hws hkk
  refine H0 rfl Try.func73 rfl ⟨by kernel_rfl, rfl, dT rfl, dT rfl, by decide⟩ keep_s_readTree <| A4 <| A0 <| M8 rfl (fun _ => F4 rfl) (fun _ => rfl) ?_
  intro g2
  (refine D3 rfl rfl (fun _ => rfl) ?_; intro g3)
  refine A5 rfl rfl rfl <| xN [0,2] [2] rfl <| A4 <| A4 <| A0 <| A3 rfl rfl <| D9 rfl rfl <| H8 rfl rfl <| xN [0,2,15] [2] rfl ?_
  refine A7 rfl ?_ ?_ <;> intro hc <;> try simp only [SL] at hc
  ·have hw0 : ws = [] := List.length_eq_zero_iff.1 (by simpa using hc)
   subst hw0
   refine A4 <| A0 <| Q8 (fs := [_, _, _]) rfl rfl rfl rfl rfl <| G5 rfl rfl rfl rfl ⟨by decide, rfl, dT rfl, dT rfl, rfl⟩ rfl (by exact F4 rfl) ?_
   (refine D3 rfl rfl (fun _ => rfl) ?_; intro g3)
   refine A5 rfl rfl rfl <| xN [2,3,4] [2,3] rfl <| C2 <| F7 (P7 rfl rfl rfl rfl (S9 rfl (N3 rfl (N3 rfl Y5))) (H4 rfl rfl (by simp) (by rfl) (H2 rfl rfl (G9 E5)))) ?_
   rfl
  obtain ⟨w, ws1, rfl⟩ : ∃ w ws1, ws = w :: ws1 := List.exists_cons_of_ne_nil (fun e => by subst e; simp at hc)
  have hw := hws.2 w (by simp)
  refine B7 <| A4 <| A0 <| A3 rfl rfl <| D5 rfl rfl rfl (fun _ => rfl) (by (change 0 < _; omega)) <| D6 rfl rfl rfl ?_
  apply xC rfl
  ·apply A9
   ·exact B2 rfl
   exact C6
  ·exact c2n w (by omega)
  refine ⟨⟨rfl, rfl, rfl, dT rfl, rfl⟩, .inr ⟨M4 _ _, rfl⟩, B9, K3 (P8 fun _ => P0 rfl Q7), fun _ => rfl, fun g21 => ?_⟩
  simp only [List.length_map]
  refine A3 rfl rfl <| E8 rfl rfl rfl <| E8 rfl rfl rfl ?_
  (refine B6 rfl rfl (by (simp; done)) rfl (fun _ => (B3 (by exact A6 fun _ => rfl))) (fun _ => rfl) ?_; intro g5)
  refine A5 rfl rfl rfl <| xN [0,2,5,6] [2,5] rfl <| A4 <| A4 <| A0 <| A3 rfl rfl <| xN [0,2,5,24] [2,5] rfl ?_
  refine A7 rfl ?_ ?_ <;> intro hc <;> try simp only [SL] at hc
  ·obtain ⟨ns, hns⟩ := Option.isSome_iff_exists.1 hc
   have hraw := c9q hns
   refine A4 <| A0 <| A3 rfl rfl <| Q8 (fs := [_, _, _]) rfl rfl rfl rfl rfl <| A3 rfl rfl <| X5 rfl rfl rfl (Mv.sized_map fun _ => rfl) K8 (J4 (n := 1) rfl) (by simp) ?_
   rw [show ((List.map tV (w :: ws1)).drop 1).take ((List.map tV (w :: ws1)).length - 1) = ws1.map tV from by rw [List.map_cons, List.drop_succ_cons, List.drop_zero, List.take_of_length_le (by simp)]]
   refine a5e rfl rfl rfl rfl (a8z rfl (d2l (by decide) (a8z rfl a6w))) (fun _ => rfl) ⟨by decide, rfl, dT rfl, Nat.le_refl _⟩ (fun _ => rfl) (fun _ => rfl) (fun _ => (by rfl)) ?_
   intro z
   simp only [Y0, List.cons_append, List.nil_append]
   refine A5 rfl rfl rfl <| A5 rfl rfl rfl ?_
   refine I7 ⟨fun _ => ⟨by (simp only [Z7, List.nil_append, List.append_nil, List.map_cons, List.map_nil, List.cons_append]; decide +kernel), by decide +kernel⟩, [(.t 2, _), (.t 3, _), (.t 4, _), (.h 2, _), (.h 5, _)], ⟨rfl, rfl, rfl, rfl, rfl, rfl, rfl, rfl, rfl, rfl, trivial⟩, ?_⟩
   refine C2 <| F7 (P7 rfl rfl rfl rfl (S9 rfl (b6q rfl rfl (by simp) (fun _ => rfl) (N3 rfl Y5))) (H2 rfl rfl (H2 rfl rfl (G9 E5)))) ?_
   rw [c8z hns, hraw]
   rfl
  have hnn : O9 w = none := by simpa using hc
  refine B7 <| A4 <| A0 <| A3 rfl rfl <| D5 rfl rfl rfl (fun _ => rfl) (by (change 0 < _; omega)) <| D6 rfl rfl rfl ?_
  apply xC rfl
  ·apply A9
   ·exact B2 rfl
   exact C6
  ·exact a0u (bA w)
  refine ⟨⟨rfl, rfl, rfl, dT rfl, rfl⟩, .inl rfl, B9, C1 rfl, fun _ => rfl, fun g32 => ?_⟩
  refine A5 rfl rfl rfl <| xN [0,2,7] [2] rfl <| A4 <| A4 <| A0 <| A3 rfl rfl <| G7 rfl rfl <| xN [0,2,7,34] [2] rfl ?_
  refine A7 rfl ?_ ?_ <;> intro hc <;> try simp only [SL] at hc
  ·refine A4 <| A0 <| Q8 (fs := [_, _, _]) rfl rfl rfl rfl rfl <| G5 rfl rfl rfl rfl ⟨by decide, rfl, dT rfl, dT rfl, rfl⟩ rfl (by exact F4 rfl) ?_
   (refine D3 rfl rfl (fun _ => rfl) ?_; intro g3)
   refine A5 rfl rfl rfl <| xN [2,3,4] [2,3] rfl <| C2 <| F7 (P7 rfl rfl rfl rfl (S9 rfl (N3 rfl (N3 rfl Y5))) (H4 rfl rfl (by simp) (by rfl) (H2 rfl rfl (G9 E5)))) ?_
   rw [d0x hnn (by omega)]
   rfl
  refine B7 <| A4 <| A0 <| A3 rfl rfl <| D5 rfl rfl rfl (fun _ => rfl) (by (change 0 < _; omega)) <| D6 rfl rfl rfl <| Q8 (fs := [_, _, _]) rfl rfl rfl rfl rfl <| M8 rfl (fun _ => F4 rfl) (fun _ => rfl) ?_
  intro g8
  refine G5 rfl rfl rfl rfl ⟨by decide, rfl, dT rfl, dT rfl, rfl⟩ rfl (by exact F4 rfl) <| xN [0,2,7,8] [2,8] rfl <| A4 <| A0 ?_
  rcases c5j (w := bA w) (by omega) with hn | hn | hn
  ·rw [hn]
   refine A3 rfl rfl <| X5 rfl rfl rfl (Mv.sized_map fun _ => rfl) K8 (J4 (n := 1) rfl) (by simp) ?_
   rw [show ((List.map tV (w :: ws1)).drop 1).take ((List.map tV (w :: ws1)).length - 1) = ws1.map tV from by rw [List.map_cons, List.drop_succ_cons, List.drop_zero, List.take_of_length_le (by simp)]]
   refine A5 rfl rfl rfl <| xN [2,7,8,9] [2,8] rfl <| A4 <| C9 <| N8 <| A4 <| A4 <| A0 <| A3 rfl rfl <| N0 rfl rfl <| xN [2,7,8,9,43] [2,8] rfl ?_
   refine A7 rfl (fun hc => absurd hc (by decide)) (fun hc => ?_)
   refine G4 <| A4 <| A0 <| L2 rfl rfl rfl rfl rfl <| A3 rfl rfl <| G5 rfl rfl rfl rfl ⟨by decide, rfl, dT rfl, dT rfl, rfl⟩ rfl (by exact F4 rfl) <| A5 rfl rfl rfl <| A5 rfl rfl rfl <| xN [2,3,4] [2] rfl <| C2 <| F7 (P7 rfl rfl rfl rfl (S9 rfl (N3 rfl (N3 rfl Y5))) (H2 rfl rfl (H2 rfl rfl (G9 E5)))) ?_
   rw [d0b hnn hn]
   rfl
  ·rw [hn]
   refine A3 rfl rfl <| X5 rfl rfl rfl (Mv.sized_map fun _ => rfl) K8 (J4 (n := 1) rfl) (by simp) ?_
   rw [show ((List.map tV (w :: ws1)).drop 1).take ((List.map tV (w :: ws1)).length - 1) = ws1.map tV from by rw [List.map_cons, List.drop_succ_cons, List.drop_zero, List.take_of_length_le (by simp)]]
   refine A5 rfl rfl rfl <| xN [2,7,8,9] [2,8] rfl <| A4 <| C9 <| N8 <| A4 <| A4 <| A0 <| A3 rfl rfl <| N0 rfl rfl <| xN [2,7,8,9,43] [2,8] rfl ?_
   refine A7 rfl (fun hc => ?_) (fun hc => absurd hc (by decide))
   refine B7 <| A4 <| C9 <| A4 <| A0 <| A3 rfl rfl ?_
   rcases hr1 : rdT ws1 with _ | ⟨k1, r1⟩
   ·skip
    apply xC rfl
    ·apply A9
     ·exact B2 rfl
     exact C6
    ·exact (by have hi := ih ws1 ⟨by simp only [List.length_cons] at hws; omega, fun x hx => hws.2 x (List.mem_cons_of_mem _ hx)⟩ (by simp only [List.length_cons] at hkk; omega); rw [hr1] at hi; exact hi)
    refine ⟨⟨rfl, rfl, rfl, dT rfl, rfl⟩, .inl rfl, B9, K3 (P0 rfl (P8 fun _ => P0 rfl Q7)), fun _ => E7 (B3 rfl) (by rfl), fun g48 => ?_⟩
    refine A3 rfl rfl <| E8 rfl rfl rfl <| E8 rfl rfl rfl <| E8 rfl rfl rfl <| M8 rfl (fun _ => F4 rfl) (fun _ => rfl) ?_
    intro g10
    refine G5 rfl rfl rfl rfl ⟨by decide, rfl, dT rfl, dT rfl, rfl⟩ rfl (by exact F4 rfl) ?_
    (refine B6 rfl rfl (by (simp; done)) rfl (fun _ => (B3 (by rfl))) (fun _ => rfl) ?_; intro g11)
    refine A5 rfl rfl rfl <| xN [2,7,8,10,11,12] [2,8,10] rfl <| A4 <| A4 <| A0 <| A3 rfl rfl <| H7 rfl <| xN [2,7,8,10,11,53] [2,8,10] rfl ?_
    refine A7 rfl (fun hc => ?_) (fun hc => absurd hc (by decide))
    refine A4 <| A0 <| Q8 (fs := [_, _, _]) rfl rfl rfl rfl rfl <| G5 rfl rfl rfl rfl ⟨by decide, rfl, dT rfl, dT rfl, rfl⟩ rfl (by exact F4 rfl) ?_
    (refine D3 rfl rfl (fun _ => rfl) ?_; intro g3)
    refine A5 rfl rfl rfl <| xN [2,3,4] [2,3] rfl <| C2 <| F7 (P7 rfl rfl rfl rfl (S9 rfl (N3 rfl (N3 rfl Y5))) (H4 rfl rfl (by simp) (by rfl) (H2 rfl rfl (G9 E5)))) ?_
    rw [c9d hnn hn, hr1]
    rfl
   skip
   apply xC rfl
   ·apply A9
    ·exact B2 rfl
    exact C6
   ·exact (by have hi := ih ws1 ⟨by simp only [List.length_cons] at hws; omega, fun x hx => hws.2 x (List.mem_cons_of_mem _ hx)⟩ (by simp only [List.length_cons] at hkk; omega); rw [hr1] at hi; exact hi)
   refine ⟨⟨rfl, rfl, rfl, dT rfl, rfl⟩, .inl rfl, B9, a0v rfl, fun _ => rfl, fun g48 => ?_⟩
   refine A3 rfl rfl <| E8 rfl rfl rfl <| E8 rfl rfl rfl <| E8 rfl rfl rfl <| M8 rfl (fun _ => F4 rfl) (fun _ => rfl) ?_
   intro g10
   refine G5 rfl rfl rfl rfl ⟨by decide, rfl, dT rfl, dT rfl, rfl⟩ rfl (by exact F4 rfl) <| A5 rfl rfl rfl <| A5 rfl rfl rfl <| xN [2,7,8,10,11,12] [2,8,10] rfl <| A4 <| A4 <| A0 <| A3 rfl rfl <| H7 rfl <| xN [2,7,8,10,11,53] [2,8,10] rfl ?_
   refine A7 rfl (fun hc => absurd hc (by decide)) (fun hc => ?_)
   refine B7 <| A4 <| A0 <| B0 rfl rfl (dT rfl) rfl rfl <| B4 rfl rfl rfl rfl rfl rfl <| L2 rfl rfl rfl rfl rfl <| a1p (es := List.map trV [_]) rfl rfl (dT rfl) rfl rfl (fun _ => B3 (A6 fun _ => rfl)) (fun _ => rfl) ?_
   intro g58
   refine a6m rfl rfl rfl (by simp) (by decide) rfl rfl rfl (dT rfl) (fun _ => ⟨rfl, rfl⟩) (by simp only [H6]; (simp only [List.length_nil, List.length_cons, List.length_append, Nat.zero_add, List.length_map]; omega)) (fun _ => rfl) ?_
   intro g59
   refine B0 rfl rfl (dT rfl) rfl rfl <| a0p rfl rfl rfl rfl rfl (Nat.le_refl _) rfl <| xN [2,7,8,11] [2,8,1000059] rfl <| A0 <| A3 rfl rfl <| A5 rfl rfl rfl <| xN [2,7,8,9] [2,8,1000059] rfl <| A0 <| A3 rfl rfl <| I1 rfl rfl (C5 (by omega)) <| A5 rfl rfl rfl <| xN [2,7,8,9] [2,8,1000059] rfl <| N8 <| A4 <| A4 <| A0 <| A3 rfl rfl <| N0 rfl rfl <| xN [2,7,8,9,43] [2,8,1000059] rfl ?_
   refine A7 rfl (fun hc => absurd hc (by decide)) (fun hc => ?_)
   refine G4 <| A4 <| A0 <| L2 rfl rfl rfl rfl rfl <| A3 rfl rfl <| a5e rfl rfl rfl rfl (a8z rfl (a8z rfl (c3d (by decide) (by decide) rfl (by simp) fun _ => a6w))) (fun _ => rfl) ⟨by decide, rfl, dT rfl, Nat.le_refl _⟩ (fun _ => rfl) (fun _ => rfl) (fun _ => E7 (by rfl) (E7 (B3 (A6 fun _ => rfl)) (by rfl))) ?_
   intro z
   simp only [Y0, List.cons_append, List.nil_append]
   refine A5 rfl rfl rfl <| A5 rfl rfl rfl <| xN [2,3,4] [2,300002] rfl <| C2 <| F7 (P7 rfl rfl rfl rfl (S9 rfl (N3 rfl (b6q rfl rfl (by simp) (fun _ => rfl) Y5))) (H2 rfl rfl (H2 rfl rfl (G9 E5)))) ?_
   rw [c9d hnn hn, hr1]
   rfl
  rw [hn]
  refine A3 rfl rfl <| X5 rfl rfl rfl (Mv.sized_map fun _ => rfl) K8 (J4 (n := 1) rfl) (by simp) ?_
  rw [show ((List.map tV (w :: ws1)).drop 1).take ((List.map tV (w :: ws1)).length - 1) = ws1.map tV from by rw [List.map_cons, List.drop_succ_cons, List.drop_zero, List.take_of_length_le (by simp)]]
  refine A5 rfl rfl rfl <| xN [2,7,8,9] [2,8] rfl <| A4 <| C9 <| N8 <| A4 <| A4 <| A0 <| A3 rfl rfl <| N0 rfl rfl <| xN [2,7,8,9,43] [2,8] rfl ?_
  refine A7 rfl (fun hc => ?_) (fun hc => absurd hc (by decide))
  refine B7 <| A4 <| C9 <| A4 <| A0 <| A3 rfl rfl ?_
  rcases hr1 : rdT ws1 with _ | ⟨k1, r1⟩
  ·skip
   apply xC rfl
   ·apply A9
    ·exact B2 rfl
    exact C6
   ·exact (by have hi := ih ws1 ⟨by simp only [List.length_cons] at hws; omega, fun x hx => hws.2 x (List.mem_cons_of_mem _ hx)⟩ (by simp only [List.length_cons] at hkk; omega); rw [hr1] at hi; exact hi)
   refine ⟨⟨rfl, rfl, rfl, dT rfl, rfl⟩, .inl rfl, B9, K3 (P0 rfl (P8 fun _ => P0 rfl Q7)), fun _ => E7 (B3 rfl) (by rfl), fun g48 => ?_⟩
   refine A3 rfl rfl <| E8 rfl rfl rfl <| E8 rfl rfl rfl <| E8 rfl rfl rfl <| M8 rfl (fun _ => F4 rfl) (fun _ => rfl) ?_
   intro g10
   refine G5 rfl rfl rfl rfl ⟨by decide, rfl, dT rfl, dT rfl, rfl⟩ rfl (by exact F4 rfl) ?_
   (refine B6 rfl rfl (by (simp; done)) rfl (fun _ => (B3 (by rfl))) (fun _ => rfl) ?_; intro g11)
   refine A5 rfl rfl rfl <| xN [2,7,8,10,11,12] [2,8,10] rfl <| A4 <| A4 <| A0 <| A3 rfl rfl <| H7 rfl <| xN [2,7,8,10,11,53] [2,8,10] rfl ?_
   refine A7 rfl (fun hc => ?_) (fun hc => absurd hc (by decide))
   refine A4 <| A0 <| Q8 (fs := [_, _, _]) rfl rfl rfl rfl rfl <| G5 rfl rfl rfl rfl ⟨by decide, rfl, dT rfl, dT rfl, rfl⟩ rfl (by exact F4 rfl) ?_
   (refine D3 rfl rfl (fun _ => rfl) ?_; intro g3)
   refine A5 rfl rfl rfl <| xN [2,3,4] [2,3] rfl <| C2 <| F7 (P7 rfl rfl rfl rfl (S9 rfl (N3 rfl (N3 rfl Y5))) (H4 rfl rfl (by simp) (by rfl) (H2 rfl rfl (G9 E5)))) ?_
   rw [b6v hnn hn, hr1]
   rfl
  skip
  apply xC rfl
  ·apply A9
   ·exact B2 rfl
   exact C6
  ·exact (by have hi := ih ws1 ⟨by simp only [List.length_cons] at hws; omega, fun x hx => hws.2 x (List.mem_cons_of_mem _ hx)⟩ (by simp only [List.length_cons] at hkk; omega); rw [hr1] at hi; exact hi)
  refine ⟨⟨rfl, rfl, rfl, dT rfl, rfl⟩, .inl rfl, B9, a0v rfl, fun _ => rfl, fun g48 => ?_⟩
  refine A3 rfl rfl <| E8 rfl rfl rfl <| E8 rfl rfl rfl <| E8 rfl rfl rfl <| M8 rfl (fun _ => F4 rfl) (fun _ => rfl) ?_
  intro g10
  refine G5 rfl rfl rfl rfl ⟨by decide, rfl, dT rfl, dT rfl, rfl⟩ rfl (by exact F4 rfl) <| A5 rfl rfl rfl <| A5 rfl rfl rfl <| xN [2,7,8,10,11,12] [2,8,10] rfl <| A4 <| A4 <| A0 <| A3 rfl rfl <| H7 rfl <| xN [2,7,8,10,11,53] [2,8,10] rfl ?_
  refine A7 rfl (fun hc => absurd hc (by decide)) (fun hc => ?_)
  refine B7 <| A4 <| A0 <| B0 rfl rfl (dT rfl) rfl rfl <| B4 rfl rfl rfl rfl rfl rfl <| L2 rfl rfl rfl rfl rfl <| a1p (es := List.map trV [_]) rfl rfl (dT rfl) rfl rfl (fun _ => B3 (A6 fun _ => rfl)) (fun _ => rfl) ?_
  intro g58
  refine a6m rfl rfl rfl (by simp) (by decide) rfl rfl rfl (dT rfl) (fun _ => ⟨rfl, rfl⟩) (by simp only [H6]; (simp only [List.length_nil, List.length_cons, List.length_append, Nat.zero_add, List.length_map]; omega)) (fun _ => rfl) ?_
  intro g59
  refine B0 rfl rfl (dT rfl) rfl rfl <| a0p rfl rfl rfl rfl rfl (Nat.le_refl _) rfl <| xN [2,7,8,11] [2,8,1000059] rfl <| A0 <| A3 rfl rfl <| A5 rfl rfl rfl <| xN [2,7,8,9] [2,8,1000059] rfl <| A0 <| A3 rfl rfl <| I1 rfl rfl (C5 (by omega)) <| A5 rfl rfl rfl <| xN [2,7,8,9] [2,8,1000059] rfl <| N8 <| A4 <| A4 <| A0 <| A3 rfl rfl <| N0 rfl rfl <| xN [2,7,8,9,43] [2,8,1000059] rfl ?_
  refine A7 rfl (fun hc => ?_) (fun hc => absurd hc (by decide))
  refine B7 <| A4 <| C9 <| A4 <| A0 <| A3 rfl rfl ?_
  rcases hr2 : rdT r1 with _ | ⟨k2, r2⟩
  ·skip
   apply xC rfl
   ·apply A9
    ·exact B2 rfl
    exact C6
   ·exact (by have hi := ih r1 ⟨by have := a7d hr1; simp only [List.length_cons] at hws; omega, fun x hx => hws.2 x (List.mem_cons_of_mem _ (c3z hr1 x hx))⟩ (by have := a7d hr1; simp only [List.length_cons] at hkk; omega); rw [hr2] at hi; exact hi)
   refine ⟨⟨rfl, rfl, rfl, dT rfl, rfl⟩, .inl rfl, B9, K3 (P0 rfl (P8 fun _ => P0 rfl Q7)), fun _ => E7 (B3 rfl) (by rfl), fun g48 => ?_⟩
   refine A3 rfl rfl <| E8 rfl rfl rfl <| E8 rfl rfl rfl <| E8 rfl rfl rfl <| M8 rfl (fun _ => F4 rfl) (fun _ => rfl) ?_
   intro g10
   refine G5 rfl rfl rfl rfl ⟨by decide, rfl, dT rfl, dT rfl, rfl⟩ rfl (by exact F4 rfl) ?_
   (refine B6 rfl rfl (by (simp; done)) rfl (fun _ => (B3 (by rfl))) (fun _ => rfl) ?_; intro g11)
   refine A5 rfl rfl rfl <| xN [2,7,8,10,11,12] [2,8,1000059,10] rfl <| A4 <| A4 <| A0 <| A3 rfl rfl <| H7 rfl <| xN [2,7,8,10,11,53] [2,8,1000059,10] rfl ?_
   refine A7 rfl (fun hc => ?_) (fun hc => absurd hc (by decide))
   refine A4 <| A0 <| Q8 (fs := [_, _, _]) rfl rfl rfl rfl rfl <| G5 rfl rfl rfl rfl ⟨by decide, rfl, dT rfl, dT rfl, rfl⟩ rfl (by exact F4 rfl) ?_
   (refine D3 rfl rfl (fun _ => rfl) ?_; intro g3)
   refine A5 rfl rfl rfl <| xN [2,3,4] [2,3] rfl <| C2 <| F7 (P7 rfl rfl rfl rfl (S9 rfl (N3 rfl (N3 rfl Y5))) (H4 rfl rfl (by simp) (by rfl) (H2 rfl rfl (G9 E5)))) ?_
   rw [b6v hnn hn, hr1, Option.bind_some, hr2]
   rfl
  skip
  apply xC rfl
  ·apply A9
   ·exact B2 rfl
   exact C6
  ·exact (by have hi := ih r1 ⟨by have := a7d hr1; simp only [List.length_cons] at hws; omega, fun x hx => hws.2 x (List.mem_cons_of_mem _ (c3z hr1 x hx))⟩ (by have := a7d hr1; simp only [List.length_cons] at hkk; omega); rw [hr2] at hi; exact hi)
  refine ⟨⟨rfl, rfl, rfl, dT rfl, rfl⟩, .inl rfl, B9, a0v rfl, fun _ => rfl, fun g48 => ?_⟩
  refine A3 rfl rfl <| E8 rfl rfl rfl <| E8 rfl rfl rfl <| E8 rfl rfl rfl <| M8 rfl (fun _ => F4 rfl) (fun _ => rfl) ?_
  intro g10
  refine G5 rfl rfl rfl rfl ⟨by decide, rfl, dT rfl, dT rfl, rfl⟩ rfl (by exact F4 rfl) <| A5 rfl rfl rfl <| A5 rfl rfl rfl <| xN [2,7,8,10,11,12] [2,8,1000059,10] rfl <| A4 <| A4 <| A0 <| A3 rfl rfl <| H7 rfl <| xN [2,7,8,10,11,53] [2,8,1000059,10] rfl ?_
  refine A7 rfl (fun hc => absurd hc (by decide)) (fun hc => ?_)
  refine B7 <| A4 <| A0 <| B0 rfl rfl (dT rfl) rfl rfl <| B4 rfl rfl rfl rfl rfl rfl <| L2 rfl rfl rfl rfl rfl <| a1p (es := List.map trV [_]) rfl rfl (dT rfl) rfl rfl (fun _ => B3 (A6 fun _ => rfl)) (fun _ => rfl) ?_
  intro g58
  refine E4 rfl rfl rfl rfl (by (simp; done)) (by simp) (by decide) rfl rfl rfl rfl (dT rfl) (fun _ => ⟨rfl, rfl⟩) (by simp only [H6]; (simp only [List.length_nil, List.length_cons, List.length_append, Nat.zero_add, List.length_map]; omega)) (fun _ => rfl) ?_
  intro g59
  refine B0 rfl rfl (dT rfl) rfl rfl <| a0p rfl rfl rfl rfl rfl (Nat.le_refl _) rfl <| xN [2,7,8,11] [2,8,1000059] rfl <| A0 <| A3 rfl rfl <| A5 rfl rfl rfl <| xN [2,7,8,9] [2,8,1000059] rfl <| A0 <| A3 rfl rfl <| I1 rfl rfl (C5 (by omega)) <| A5 rfl rfl rfl <| xN [2,7,8,9] [2,8,1000059] rfl <| N8 <| A4 <| A4 <| A0 <| A3 rfl rfl <| N0 rfl rfl <| xN [2,7,8,9,43] [2,8,1000059] rfl ?_
  refine A7 rfl (fun hc => absurd hc (by decide)) (fun hc => ?_)
  refine G4 <| A4 <| A0 <| L2 rfl rfl rfl rfl rfl <| A3 rfl rfl <| a5e rfl rfl rfl rfl (a8z rfl (a8z rfl (c3d (by decide) (by decide) rfl (by simp) fun _ => a6w))) (fun _ => rfl) ⟨by decide, rfl, dT rfl, Nat.le_refl _⟩ (fun _ => rfl) (fun _ => rfl) (fun _ => E7 (by rfl) (E7 (B3 (A6 fun _ => rfl)) (by rfl))) ?_
  intro z
  simp only [Y0, List.cons_append, List.nil_append]
  refine A5 rfl rfl rfl <| A5 rfl rfl rfl <| xN [2,3,4] [2,300002] rfl <| C2 <| F7 (P7 rfl rfl rfl rfl (S9 rfl (N3 rfl (b6q rfl rfl (by simp) (fun _ => rfl) Y5))) (H2 rfl rfl (H2 rfl rfl (G9 E5)))) ?_
  rw [b6v hnn hn, hr1, Option.bind_some, hr2]
  rfl

theorem keep_s_readPlan : G8 Try.f62 = [0, 2, 3, 4, 17, 6, 7, 5, 21] := by kernel_rfl
set_option maxHeartbeats 20000000 in
theorem c1c (s : List UInt8) (hs : s.length ≤ 1048576) : CW cxT 62 [tV s] = some (.tup [trV (rpT s), bV (rdPlan s).isSome], []) := by
 obtain ⟨ws, hws⟩ : ∃ ws, ws = splitB 32 s := ⟨_, rfl⟩
 have hwl := a1s 32 s
 have hwp := a4o 32 s
 rw [← hws] at hwl hwp
 refine H0 rfl Try.func62 rfl ⟨by kernel_rfl, rfl, dT rfl, dT rfl, by decide⟩ keep_s_readPlan <| A4 <| A0 <| M8 rfl (fun _ => F4 rfl) (fun _ => rfl) ?_
 intro g2
 refine A5 rfl rfl rfl <| xN [0,2] [2] rfl <| A4 <| A0 <| A3 rfl rfl ?_
 apply xC rfl
 ·apply A9
  ·exact B2 rfl
  apply A9
  ·exact B2 rfl
  exact C6
 ·exact b5m s (by omega) 32
 refine ⟨⟨rfl, rfl, rfl, dT rfl, rfl⟩, .inl rfl, B9, J7, fun _ => rfl, fun g9 => ?_⟩
 rw [← hws]
 try simp only [List.length_map]
 (refine B6 rfl rfl (by (simp; done)) rfl (fun _ => (B3 (by exact A6 fun _ => rfl))) (fun _ => rfl) ?_; intro g4)
 refine xN [0,2,4] [2,4] rfl <| A4 <| A4 <| A0 <| A3 rfl rfl <| a3h rfl rfl <| N0 rfl rfl <| A3 rfl rfl ?_
 refine B1 rfl rfl ?_ ?_ <;> intro hg0 <;> have hg := hg0 <;> try simp only [SG] at hg
 ·refine A3 rfl rfl <| gT rfl rfl <| I4 rfl rfl <| gT rfl rfl <| N0 rfl rfl <| B5 rfl (by assumption) rfl rfl <| xN [2,4,17] [2,4] rfl ?_
  refine A7 rfl ?_ ?_ <;> intro hc <;> try simp only [SL] at hc
  ·refine A4 <| A0 <| Q8 (fs := [_, _, _]) rfl rfl rfl rfl rfl <| G5 rfl rfl rfl rfl ⟨by decide, rfl, dT rfl, dT rfl, rfl⟩ rfl (by exact F4 rfl) <| A5 rfl rfl rfl <| xN [2,3] [2] rfl <| C2 <| F7 (P7 rfl rfl rfl rfl (S9 rfl (N3 rfl (N3 rfl Y5))) (H2 rfl rfl (G9 E5))) ?_
   obtain ⟨h1, h2⟩ := b1w (s := s) (by rw [hws] at *; omega)
   rw [h1, h2]
   rfl
  have hin := c4r hws (by omega)
  refine B7 <| A4 <| A0 <| A3 rfl rfl ?_
  rcases hr : rdT ws with _ | ⟨t, r⟩
  ·skip
   apply xC rfl
   ·apply A9
    ·exact I9 rfl rfl (by (simp; done)) (fun _ => rfl)
    exact C6
   ·exact (by have hi := b3d ws ⟨by omega, fun w hw => by have := hwp w hw; omega⟩; rw [hr] at hi; exact hi)
   refine ⟨⟨rfl, rfl, rfl, dT rfl, rfl⟩, .inl rfl, B9, K3 (P0 rfl (P8 fun _ => P0 rfl Q7)), fun _ => E7 (a2f (A6 fun _ => rfl) (by decide)) (by rfl), fun g21 => ?_⟩
   refine A3 rfl rfl <| E8 rfl rfl rfl <| E8 rfl rfl rfl <| E8 rfl rfl rfl <| M8 rfl (fun _ => F4 rfl) (fun _ => rfl) ?_
   intro g5
   refine G5 rfl rfl rfl rfl ⟨by decide, rfl, dT rfl, dT rfl, rfl⟩ rfl (by exact F4 rfl) ?_
   (refine B6 rfl rfl (by (simp; done)) rfl (fun _ => (B3 (by rfl))) (fun _ => rfl) ?_; intro g6)
   refine A5 rfl rfl rfl <| xN [2,5,6,7] [2,5] rfl <| A4 <| A0 <| L2 rfl rfl rfl rfl rfl <| A3 rfl rfl <| A3 rfl rfl <| C3 rfl rfl rfl <| C3 rfl rfl rfl <| C3 rfl rfl rfl <| B5 rfl rfl rfl rfl <| G5 rfl rfl rfl rfl ⟨by decide, rfl, dT rfl, dT rfl, rfl⟩ rfl (by exact F4 rfl) <| A5 rfl rfl rfl <| xN [2,3] [2] rfl <| C2 <| F7 (P7 rfl rfl rfl rfl (S9 rfl (S9 rfl (S9 rfl Y5))) (H2 rfl rfl (G9 E5))) ?_
   obtain ⟨h1, h2⟩ := hin.1 hr
   rw [h1, h2]
   rfl
  skip
  apply xC rfl
  ·apply A9
   ·exact I9 rfl rfl (by (simp; done)) (fun _ => rfl)
   exact C6
  ·exact (by have hi := b3d ws ⟨by omega, fun w hw => by have := hwp w hw; omega⟩; rw [hr] at hi; exact hi)
  refine ⟨⟨rfl, rfl, rfl, dT rfl, rfl⟩, .inl rfl, B9, a0v rfl, fun _ => E7 (a2f (A6 fun _ => rfl) (by decide)) (by rfl), fun g21 => ?_⟩
  refine A3 rfl rfl <| E8 rfl rfl rfl <| E8 rfl rfl rfl <| E8 rfl rfl rfl <| M8 rfl (fun _ => F4 rfl) (fun _ => rfl) ?_
  intro g5
  refine G5 rfl rfl rfl rfl ⟨by decide, rfl, dT rfl, dT rfl, rfl⟩ rfl (by exact F4 rfl) <| A5 rfl rfl rfl <| A5 rfl rfl rfl <| xN [2,5,6,7] [2,5] rfl <| A4 <| A0 <| L2 rfl rfl rfl rfl rfl <| A3 rfl rfl <| A3 rfl rfl <| C0 rfl rfl rfl <| A3 rfl rfl <| C0 rfl rfl rfl <| D9 rfl rfl <| C0 rfl rfl rfl <| H8 rfl rfl <| B8 rfl rfl rfl rfl <| G5 rfl rfl rfl rfl ⟨by decide, rfl, dT rfl, dT rfl, rfl⟩ rfl (by exact F4 rfl) <| A5 rfl rfl rfl <| xN [2,3] [2] rfl <| C2 <| F7 (P7 rfl rfl rfl rfl (S9 rfl (S9 rfl (S9 rfl Y5))) (H2 rfl rfl (G9 E5))) ?_
  obtain ⟨h1, h2⟩ := hin.2 t r hr
  rw [h1, h2]
  rfl
 refine gF rfl rfl <| gF rfl rfl <| B8 rfl (by assumption) rfl rfl <| xN [2,4,17] [2,4] rfl ?_
 refine A7 rfl (fun hc => ?_) (fun hc => absurd hc (by decide))
 refine A4 <| A0 <| Q8 (fs := [_, _, _]) rfl rfl rfl rfl rfl <| G5 rfl rfl rfl rfl ⟨by decide, rfl, dT rfl, dT rfl, rfl⟩ rfl (by exact F4 rfl) <| A5 rfl rfl rfl <| xN [2,3] [2] rfl <| C2 <| F7 (P7 rfl rfl rfl rfl (S9 rfl (N3 rfl (N3 rfl Y5))) (H2 rfl rfl (G9 E5))) ?_
 obtain ⟨h1, h2⟩ := b1w (s := s) (by rw [hws] at *; omega)
 rw [h1, h2]
 rfl

theorem keep_s_sameInts : G8 Try.f74 = [0, 1, 4, 10, 5, 14, 25] := by kernel_rfl
set_option maxHeartbeats 20000000 in
theorem a3f (a b : List Int) (ha : a.length ≤ 1048576) (hlb : b.length ≤ 1048576) : CW cxT 74 [L a, L b] = some (bV (decide (a = b)), []) := by
 refine H0 rfl Try.func74 rfl ⟨by kernel_rfl, rfl, dT rfl, dT rfl, by decide⟩ keep_s_sameInts <| A4 <| A0 <| A5 rfl rfl rfl <| xN [0,1] [] rfl <| A4 <| A4 <| A0 <| A3 rfl rfl <| D9 rfl rfl <| A3 rfl rfl <| D9 rfl rfl <| N5 rfl rfl <| xN [0,1,10] [] rfl ?_
 refine A7 rfl ?_ ?_ <;> intro hc <;> try simp only [SL] at hc
 ·refine A4 <| A0 <| A5 rfl rfl rfl <| xN [4] [] rfl <| C2 <| C4 rfl rfl trivial ?_
  rw [b0q (by omega)]
  rfl
 refine B7 <| A4 <| A4 <| A0 <| A5 rfl rfl rfl <| xN [0,1,5] [] rfl <| C9 <| G3 (β := Nat) [(.t 0, _), (.t 1, _)] (fun (i : Nat) => [(.t 5, iV i)]) (fun (i : Nat) => i ≤ a.length ∧ ∀ j, j < i → a.getD j default = b.getD j default) (fun (i : Nat) => a.length - i) 0 ⟨rfl, rfl, rfl, trivial⟩ ⟨Nat.zero_le _, fun j h => by omega⟩ ?_
 intro i hb
 obtain ⟨hi1, hi2⟩ := hb
 refine A4 <| A4 <| A0 <| A3 rfl rfl <| A3 rfl rfl <| D9 rfl rfl <| G7 rfl rfl <| xN [0,1,5,14] [] rfl ?_
 refine A7 rfl ?_ ?_ <;> intro hc <;> try simp only [SL] at hc
 ·refine B7 <| A4 <| C9 <| A4 <| A0 <| A3 rfl rfl <| A3 rfl rfl <| D5 rfl rfl rfl (fun _ => rfl) (by omega) <| D6 rfl rfl rfl <| A3 rfl rfl <| A3 rfl rfl <| D5 rfl rfl rfl (fun _ => rfl) (by omega) <| D6 rfl rfl rfl <| N5 rfl rfl ?_
  refine I7 ⟨fun _ => ⟨by decide +kernel, by decide +kernel⟩, [(.t 0, _), (.t 1, _), (.t 5, _), (.t 25, _)], ⟨rfl, rfl, rfl, rfl, rfl, rfl, rfl, rfl, trivial⟩, ?_⟩
  refine A7 rfl ?_ ?_ <;> intro hc <;> try simp only [SL] at hc
  ·refine A4 <| A0 <| A5 rfl rfl rfl <| xN [4] [] rfl <| C2 <| C4 rfl rfl trivial ?_
   rw [b2a (i := i) (by omega) (by assumption)]
   rfl
  refine B7 <| A0 <| A3 rfl rfl <| D7 rfl rfl (C5 (by omega)) <| A5 rfl rfl rfl <| xN [0,1,5] [] rfl ?_
  refine ⟨i + 1, ⟨by omega, fun j hj => by rcases Nat.lt_succ_iff_lt_or_eq.1 hj with h | h; (· exact hi2 j h); (· subst h; assumption)⟩, (by omega), ⟨rfl, rfl, rfl, trivial⟩⟩
 refine G4 <| A4 <| A0 <| A5 rfl rfl rfl <| xN [4] [] rfl <| C2 <| C4 rfl rfl trivial ?_
 rw [b3x (by omega) fun j hj => hi2 j (by omega)]
 rfl

theorem keep_s_shareS : G8 Try.f63 = [0, 1, 4, 5, 2, 16, 6, 7, 26, 9, 41, 8, 10, 49, 89, 20, 88] := by kernel_rfl
set_option maxHeartbeats 20000000 in
theorem c9j (t : Pl) (ss : List Stp) (hss : ss.length + t.sz ≤ 1000 ∧ ∀ s ∈ ss, stG s) (hgd : t.good) : CW cxT 63 [trK t, .own 4 (ss.map stA)] = some (.tup [iV ((shareP t ss).2 : Nat), .own 4 ((shareP t ss).1.map stA)], []) := by
 obtain ⟨kk, hkk⟩ : ∃ kk : Nat, t.sz < kk := ⟨_, Nat.lt_succ_self _⟩
 revert t ss
 induction kk with
 | zero => intro t ss hss hgd hkk; exact absurd hkk (Nat.not_lt_zero _)
 | succ kk ih =>
  intro t ss hss hgd hkk
  refine H0 rfl Try.func63 rfl ⟨by kernel_rfl, rfl, dT rfl, dT rfl, by decide⟩ keep_s_shareS <| A4 <| A0 ?_
  rcases t with ns | w | ⟨w, p⟩ | ⟨w, p, q⟩
  ·rw [c9o]
   have hvl := a2z (show vd ns = true from hgd)
   refine a9p rfl rfl rfl (fun _ => F4 rfl) (fun _ => rfl) ?_
   intro g2
   refine A5 rfl rfl rfl ?_
   (refine D3 rfl rfl (fun _ => rfl) ?_; intro g5)
   refine xN [1,2] [1,2] rfl <| A4 <| A0 <| B0 rfl rfl (dT rfl) rfl rfl <| B4 rfl rfl rfl rfl rfl rfl <| Q8 (fs := [_, iV (-1), iV (-1), .nil]) rfl rfl rfl rfl rfl <| M8 rfl (fun _ => F4 rfl) (fun _ => rfl) ?_
   intro g6
   refine G5 rfl rfl rfl rfl ⟨by decide, rfl, dT rfl, dT rfl, rfl⟩ rfl (by exact F4 rfl) <| xN [1,2,6] [1,2,6] rfl <| A4 <| A4 <| A0 <| B0 rfl rfl (dT rfl) rfl rfl <| B4 rfl rfl rfl rfl rfl rfl <| a4t rfl rfl <| xN [1,2,6,16] [1,2,6] rfl ?_
   refine A7 rfl (fun hc => ?_) (fun hc => absurd hc (by decide))
   refine A0 <| C8 (es := List.map iV []) rfl rfl (dT rfl) rfl rfl (fun _ => B3 (A6 fun _ => rfl)) (fun _ => rfl) ?_
   intro g17
   refine B0 rfl rfl (dT rfl) rfl rfl <| B4 rfl rfl rfl rfl rfl rfl <| L7 rfl rfl rfl (by (simp; done)) rfl rfl rfl (dT rfl) (fun _ => ⟨rfl, rfl, rfl⟩) (by simp only [H6]; (simp only [List.length_nil, List.length_cons, List.length_append, Nat.zero_add, List.length_map]; omega)) (fun _ => rfl) ?_
   intro g20
   simp only [List.nil_append]
   refine B0 rfl rfl (dT rfl) rfl rfl <| a0p rfl rfl rfl rfl rfl (Nat.le_refl _) rfl <| xN [1,2,6] [1,2,6,1000020] rfl <| A4 <| A4 <| A0 <| A5 rfl rfl rfl <| xN [1,2,6,7] [1,2,6,1000020] rfl <| C9 <| N8 <| A4 <| A4 <| A0 <| A3 rfl rfl <| B0 rfl rfl (dT rfl) rfl rfl <| B4 rfl rfl rfl rfl rfl rfl <| D9 rfl rfl <| G7 rfl rfl <| xN [1,2,6,7,26] [1,2,6,1000020] rfl ?_
   refine A7 rfl (fun hc => absurd hc (by decide)) (fun hc => ?_)
   refine G4 <| A4 <| A4 <| A0 <| A5 rfl rfl rfl <| xN [1,6,10] [1,6,1000020] rfl <| C9 <| G3 (β := Nat) [(.t 1, _), (.t 6, _), (.h 1, _), (.h 6, _), (.h 1000020, _)] (fun (i : Nat) => [(.t 10, iV i)]) (fun (i : Nat) => i ≤ ss.length ∧ ∀ j, j < i → ss.getD j default ≠ (Q4 (.lst ns) (-1) (-1))) (fun (i : Nat) => ss.length - i) 0 ⟨rfl, rfl, rfl, rfl, rfl, rfl, trivial⟩ ⟨Nat.zero_le _, fun j h => by omega⟩ ?_
   intro i hb
   obtain ⟨hi1, hne⟩ := hb
   refine A4 <| A4 <| A0 <| A3 rfl rfl <| A3 rfl rfl <| I4 rfl rfl <| G7 rfl rfl <| xN [1,6,10,49] [1,6,1000020] rfl ?_
   refine A7 rfl ?_ ?_ <;> intro hc <;> try simp only [SL] at hc
   ·refine B7 <| A4 <| C9 <| A4 <| A0 <| A3 rfl rfl <| A3 rfl rfl <| D8 rfl rfl rfl rfl (by (simp; omega)) (by (simp; done)) rfl <| B0 rfl rfl (dT rfl) rfl rfl <| J8 rfl rfl (by omega) (fun _ => rfl) rfl rfl <| B0 rfl rfl (dT rfl) rfl rfl <| B4 rfl rfl rfl rfl rfl rfl <| a4t rfl rfl <| A3 rfl rfl ?_
    refine B1 rfl rfl ?_ ?_ <;> intro hg0 <;> have hg := hg0 <;> try simp only [SG] at hg
    ·refine A3 rfl rfl <| gT rfl rfl <| A3 rfl rfl <| gT rfl rfl <| D8 rfl rfl rfl rfl (by (simp; omega)) (by (simp; done)) rfl <| gT rfl rfl <| B0 rfl rfl (dT rfl) rfl rfl <| gT rfl rfl <| J8 rfl rfl (by omega) (fun _ => rfl) rfl rfl <| gT rfl rfl <| B0 rfl rfl (dT rfl) rfl rfl <| gT rfl rfl <| B4 rfl rfl rfl rfl rfl rfl <| gT rfl rfl <| H8 rfl rfl <| B8 rfl (by assumption) rfl rfl <| A3 rfl rfl ?_
     refine B1 rfl rfl ?_ ?_ <;> intro hg0 <;> have hg := hg0 <;> try simp only [SG] at hg
     ·refine A3 rfl rfl <| gT rfl rfl <| A3 rfl rfl <| gT rfl rfl <| D8 rfl rfl rfl rfl (by (simp; omega)) (by (simp; done)) rfl <| gT rfl rfl <| B0 rfl rfl (dT rfl) rfl rfl <| gT rfl rfl <| J8 rfl rfl (by omega) (fun _ => rfl) rfl rfl <| gT rfl rfl <| B0 rfl rfl (dT rfl) rfl rfl <| gT rfl rfl <| B4 rfl rfl rfl rfl rfl rfl <| gT rfl rfl <| H8 rfl rfl <| B8 rfl (by assumption) rfl rfl <| A3 rfl rfl ?_
      refine B1 rfl rfl ?_ ?_ <;> intro hg0 <;> have hg := hg0 <;> try simp only [SG] at hg
      ·refine A3 rfl rfl <| gT rfl rfl <| A3 rfl rfl <| gT rfl rfl <| D8 rfl rfl rfl rfl (by (simp; omega)) (by (simp; done)) rfl <| gT rfl rfl <| B0 rfl rfl (dT rfl) rfl rfl <| gT rfl rfl <| J8 rfl rfl (by omega) (fun _ => rfl) rfl rfl <| gT rfl rfl <| B0 rfl rfl (dT rfl) rfl rfl <| gT rfl rfl <| B4 rfl rfl rfl rfl rfl rfl <| gT rfl rfl ?_
       apply xC rfl
       ·apply A9
        ·exact B2 rfl
        apply A9
        ·exact H3 rfl rfl rfl (by (simp; done)) (fun _ => rfl)
        exact C6
       ·exact a3f (ss.getD i default).ns ns (by have hsg := hss.2 _ (L8 (xs := ss) (i := i) (by omega)); have := a2z hsg.2; omega) (by omega)
       refine ⟨⟨rfl, rfl, rfl, dT rfl, rfl⟩, .inr ⟨rfl, rfl⟩, B9, C1 rfl, fun _ => rfl, fun g88 => ?_⟩
       refine B8 rfl (by assumption) rfl rfl ?_
       refine I7 ⟨fun _ => ⟨by (simp only [Z7, List.nil_append, List.append_nil, List.map_cons, List.map_nil, List.cons_append]; decide +kernel), by decide +kernel⟩, [(.t 1, _), (.t 6, _), (.t 10, _), (.t 89, _), (.h 1, _), (.h 6, _), (.h 1000020, _)], ⟨rfl, rfl, rfl, rfl, rfl, rfl, rfl, rfl, rfl, rfl, rfl, rfl, rfl, rfl, trivial⟩, ?_⟩
       refine A7 rfl ?_ ?_ <;> intro hc <;> try simp only [SL] at hc
       ·refine A4 <| A0 <| A3 rfl rfl <| A3 rfl rfl <| A5 rfl rfl rfl ?_
        (refine B6 rfl rfl (by (simp; done)) rfl (fun _ => (B3 (by exact A6 fun _ => rfl))) (fun _ => rfl) ?_; intro g5)
        refine xN [4,5] [5] rfl <| C2 <| F7 (H2 rfl rfl (H4 rfl rfl (by simp) (by exact A6 fun _ => rfl) (G9 E5))) ?_
        have hx : ss.getD i default = (Q4 (.lst ns) (-1) (-1)) := b0z (by assumption) (by assumption) (by assumption) (by assumption)
        obtain ⟨h1, h2⟩ := a6f (by omega) hx hne
        show _ = AV.tup [iV (stIx (Q4 (.lst ns) (-1) (-1)) ss : Nat), .own 4 ((stAdd (Q4 (.lst ns) (-1) (-1)) ss).map stA)]
        rw [h1, h2]
        rfl
       refine B7 <| A0 <| A3 rfl rfl <| D7 rfl rfl (C5 (by omega)) <| A5 rfl rfl rfl <| xN [1,6,10] [1,6,1000020] rfl ?_
       refine ⟨i + 1, ⟨by omega, fun j hj => by rcases Nat.lt_succ_iff_lt_or_eq.1 hj with h | h; (· exact hne j h); (· subst h; exact b1m (by assumption))⟩, (by omega), ⟨rfl, rfl, rfl, rfl, rfl, rfl, trivial⟩⟩
      iterate 7 refine gF rfl rfl ?_
      refine B5 rfl (by assumption) rfl rfl ?_
      refine I7 ⟨fun _ => ⟨by decide +kernel, by decide +kernel⟩, [(.t 1, _), (.t 6, _), (.t 10, _), (.t 89, _), (.h 1, _), (.h 6, _), (.h 1000020, _)], ⟨rfl, rfl, rfl, rfl, rfl, rfl, rfl, rfl, rfl, rfl, rfl, rfl, rfl, rfl, trivial⟩, ?_⟩
      refine A7 rfl (fun hc => absurd hc (by decide)) (fun hc => ?_)
      refine B7 <| A0 <| A3 rfl rfl <| D7 rfl rfl (C5 (by omega)) <| A5 rfl rfl rfl <| xN [1,6,10] [1,6,1000020] rfl ?_
      refine ⟨i + 1, ⟨by omega, fun j hj => by rcases Nat.lt_succ_iff_lt_or_eq.1 hj with h | h; (· exact hne j h); (· subst h; exact b0x (by assumption))⟩, (by omega), ⟨rfl, rfl, rfl, rfl, rfl, rfl, trivial⟩⟩
     iterate 7 refine gF rfl rfl ?_
     refine B5 rfl (by assumption) rfl rfl <| A3 rfl rfl ?_
     iterate 8 refine C3 rfl rfl rfl ?_
     refine B5 rfl rfl rfl rfl ?_
     refine I7 ⟨fun _ => ⟨by decide +kernel, by decide +kernel⟩, [(.t 1, _), (.t 6, _), (.t 10, _), (.t 89, _), (.h 1, _), (.h 6, _), (.h 1000020, _)], ⟨rfl, rfl, rfl, rfl, rfl, rfl, rfl, rfl, rfl, rfl, rfl, rfl, rfl, rfl, trivial⟩, ?_⟩
     refine A7 rfl (fun hc => absurd hc (by decide)) (fun hc => ?_)
     refine B7 <| A0 <| A3 rfl rfl <| D7 rfl rfl (C5 (by omega)) <| A5 rfl rfl rfl <| xN [1,6,10] [1,6,1000020] rfl ?_
     refine ⟨i + 1, ⟨by omega, fun j hj => by rcases Nat.lt_succ_iff_lt_or_eq.1 hj with h | h; (· exact hne j h); (· subst h; exact b1g (by assumption))⟩, (by omega), ⟨rfl, rfl, rfl, rfl, rfl, rfl, trivial⟩⟩
    iterate 7 refine gF rfl rfl ?_
    refine B5 rfl (by assumption) rfl rfl <| A3 rfl rfl ?_
    iterate 8 refine C3 rfl rfl rfl ?_
    refine B5 rfl rfl rfl rfl <| A3 rfl rfl ?_
    iterate 8 refine C3 rfl rfl rfl ?_
    refine B5 rfl rfl rfl rfl ?_
    refine I7 ⟨fun _ => ⟨by decide +kernel, by decide +kernel⟩, [(.t 1, _), (.t 6, _), (.t 10, _), (.t 89, _), (.h 1, _), (.h 6, _), (.h 1000020, _)], ⟨rfl, rfl, rfl, rfl, rfl, rfl, rfl, rfl, rfl, rfl, rfl, rfl, rfl, rfl, trivial⟩, ?_⟩
    refine A7 rfl (fun hc => absurd hc (by decide)) (fun hc => ?_)
    refine B7 <| A0 <| A3 rfl rfl <| D7 rfl rfl (C5 (by omega)) <| A5 rfl rfl rfl <| xN [1,6,10] [1,6,1000020] rfl ?_
    refine ⟨i + 1, ⟨by omega, fun j hj => by rcases Nat.lt_succ_iff_lt_or_eq.1 hj with h | h; (· exact hne j h); (· subst h; exact b1b (by assumption))⟩, (by omega), ⟨rfl, rfl, rfl, rfl, rfl, rfl, trivial⟩⟩
   refine G4 <| A4 <| A0 <| A3 rfl rfl <| I4 rfl rfl <| C8 (es := List.map stA []) rfl rfl (dT rfl) rfl rfl (fun _ => B3 (A6 fun _ => rfl)) (fun _ => rfl) ?_
   intro g94
   refine A3 rfl rfl <| N4 rfl rfl rfl rfl (by decide) rfl (by (simp; done)) (by (simp; done)) rfl rfl rfl (dT rfl) (fun _ => ⟨rfl, rfl, rfl⟩) (by simp only [H6]; (simp only [List.length_nil, List.length_cons, List.length_append, Nat.zero_add, List.length_map]; omega)) (fun _ => rfl) ?_
   intro g96
   refine L2 rfl rfl rfl rfl rfl <| a1o (mk := 2) (fs := [_, _, _, _]) rfl rfl rfl (dT rfl) rfl rfl (a0d rfl (a0d rfl (a0d rfl (d1q rfl (by simp) (fun _ => rfl) a6w)))) (fun _ _ => E7 (a2f (A6 fun _ => rfl) (by decide)) (E7 (B3 rfl) (I6 rfl))) ?_
   intro z98 g98
   simp only [Y0, List.cons_append, List.nil_append]
   rw [d2z]
   refine E4 rfl rfl rfl rfl (by (simp; done)) (by simp) (by decide) rfl rfl rfl rfl (dT rfl) (fun _ => ⟨rfl, rfl⟩) (by simp only [H6]; (simp; omega)) (fun _ => rfl) ?_
   intro g99
   refine A5 rfl rfl rfl ?_
   (refine B6 rfl rfl (by (simp; done)) rfl (fun _ => (B3 (by exact A6 fun _ => rfl))) (fun _ => rfl) ?_; intro g5)
   refine I7 ⟨fun _ => ⟨by (simp only [Z7, List.nil_append, List.append_nil, List.map_cons, List.map_nil, List.cons_append]; decide +kernel), by decide +kernel⟩, [(.t 4, _), (.t 5, _), (.h 5, _)], ⟨rfl, rfl, rfl, rfl, rfl, rfl, trivial⟩, ?_⟩
   refine C2 <| F7 (H2 rfl rfl (H4 rfl rfl (by simp) (by exact A6 fun _ => rfl) (G9 E5))) ?_
   obtain ⟨h1, h2⟩ := a3b (l := ss) (s := (Q4 (.lst ns) (-1) (-1))) fun j hj => hne j (by omega)
   show _ = AV.tup [iV (stIx (Q4 (.lst ns) (-1) (-1)) ss : Nat), .own 4 ((stAdd (Q4 (.lst ns) (-1) (-1)) ss).map stA)]
   rw [h1, h2]
   simp only [List.length_map, List.drop_zero, List.take_length]
   rfl
  ·rw [c9x]
   have hwl : w ≠ lW := hgd.1
   refine a9p rfl rfl rfl (fun _ => F4 rfl) (fun _ => rfl) ?_
   intro g2
   refine A5 rfl rfl rfl ?_
   (refine D3 rfl rfl (fun _ => rfl) ?_; intro g5)
   refine xN [1,2] [1,2] rfl <| A4 <| A0 <| B0 rfl rfl (dT rfl) rfl rfl <| B4 rfl rfl rfl rfl rfl rfl <| Q8 (fs := [_, iV (-1), iV (-1), .nil]) rfl rfl rfl rfl rfl <| M8 rfl (fun _ => F4 rfl) (fun _ => rfl) ?_
   intro g6
   refine G5 rfl rfl rfl rfl ⟨by decide, rfl, dT rfl, dT rfl, rfl⟩ rfl (by exact F4 rfl) <| xN [1,2,6] [1,2,6] rfl <| A4 <| A4 <| A0 <| B0 rfl rfl (dT rfl) rfl rfl <| B4 rfl rfl rfl rfl rfl rfl <| a4t rfl rfl <| xN [1,2,6,16] [1,2,6] rfl ?_
   refine A7 rfl (fun hc => absurd hc (by simp_all)) (fun hc => ?_)
   refine B7 <| A4 <| A4 <| A0 <| A5 rfl rfl rfl <| xN [1,2,6,7] [1,2,6] rfl <| C9 <| N8 <| A4 <| A4 <| A0 <| A3 rfl rfl <| B0 rfl rfl (dT rfl) rfl rfl <| B4 rfl rfl rfl rfl rfl rfl <| D9 rfl rfl <| G7 rfl rfl <| xN [1,2,6,7,26] [1,2,6] rfl ?_
   refine A7 rfl (fun hc => absurd hc (by decide)) (fun hc => ?_)
   refine G4 <| A4 <| A4 <| A0 <| A5 rfl rfl rfl <| xN [1,6,10] [1,6] rfl <| C9 <| G3 (β := Nat) [(.t 1, _), (.t 6, _), (.h 1, _), (.h 6, _)] (fun (i : Nat) => [(.t 10, iV i)]) (fun (i : Nat) => i ≤ ss.length ∧ ∀ j, j < i → ss.getD j default ≠ (Q4 (.col w) (-1) (-1))) (fun (i : Nat) => ss.length - i) 0 ⟨rfl, rfl, rfl, rfl, rfl, trivial⟩ ⟨Nat.zero_le _, fun j h => by omega⟩ ?_
   intro i hb
   obtain ⟨hi1, hne⟩ := hb
   refine A4 <| A4 <| A0 <| A3 rfl rfl <| A3 rfl rfl <| I4 rfl rfl <| G7 rfl rfl <| xN [1,6,10,49] [1,6] rfl ?_
   refine A7 rfl ?_ ?_ <;> intro hc <;> try simp only [SL] at hc
   ·refine B7 <| A4 <| C9 <| A4 <| A0 <| A3 rfl rfl <| A3 rfl rfl <| D8 rfl rfl rfl rfl (by (simp; omega)) (by (simp; done)) rfl <| B0 rfl rfl (dT rfl) rfl rfl <| J8 rfl rfl (by omega) (fun _ => rfl) rfl rfl <| B0 rfl rfl (dT rfl) rfl rfl <| B4 rfl rfl rfl rfl rfl rfl <| a4t rfl rfl <| A3 rfl rfl ?_
    refine B1 rfl rfl ?_ ?_ <;> intro hg0 <;> have hg := hg0 <;> try simp only [SG] at hg
    ·refine A3 rfl rfl <| gT rfl rfl <| A3 rfl rfl <| gT rfl rfl <| D8 rfl rfl rfl rfl (by (simp; omega)) (by (simp; done)) rfl <| gT rfl rfl <| B0 rfl rfl (dT rfl) rfl rfl <| gT rfl rfl <| J8 rfl rfl (by omega) (fun _ => rfl) rfl rfl <| gT rfl rfl <| B0 rfl rfl (dT rfl) rfl rfl <| gT rfl rfl <| B4 rfl rfl rfl rfl rfl rfl <| gT rfl rfl <| H8 rfl rfl <| B8 rfl (by assumption) rfl rfl <| A3 rfl rfl ?_
     refine B1 rfl rfl ?_ ?_ <;> intro hg0 <;> have hg := hg0 <;> try simp only [SG] at hg
     ·refine A3 rfl rfl <| gT rfl rfl <| A3 rfl rfl <| gT rfl rfl <| D8 rfl rfl rfl rfl (by (simp; omega)) (by (simp; done)) rfl <| gT rfl rfl <| B0 rfl rfl (dT rfl) rfl rfl <| gT rfl rfl <| J8 rfl rfl (by omega) (fun _ => rfl) rfl rfl <| gT rfl rfl <| B0 rfl rfl (dT rfl) rfl rfl <| gT rfl rfl <| B4 rfl rfl rfl rfl rfl rfl <| gT rfl rfl <| H8 rfl rfl <| B8 rfl (by assumption) rfl rfl <| A3 rfl rfl ?_
      refine B1 rfl rfl ?_ ?_ <;> intro hg0 <;> have hg := hg0 <;> try simp only [SG] at hg
      ·refine A3 rfl rfl <| gT rfl rfl <| A3 rfl rfl <| gT rfl rfl <| D8 rfl rfl rfl rfl (by (simp; omega)) (by (simp; done)) rfl <| gT rfl rfl <| B0 rfl rfl (dT rfl) rfl rfl <| gT rfl rfl <| J8 rfl rfl (by omega) (fun _ => rfl) rfl rfl <| gT rfl rfl <| B0 rfl rfl (dT rfl) rfl rfl <| gT rfl rfl <| B4 rfl rfl rfl rfl rfl rfl <| gT rfl rfl ?_
       apply xC rfl
       ·apply A9
        ·exact B2 rfl
        apply A9
        ·exact b7d (dT rfl)
        exact C6
       ·exact a3f (ss.getD i default).ns [] (by have hsg := hss.2 _ (L8 (xs := ss) (i := i) (by omega)); have := a2z hsg.2; omega) (by decide)
       refine ⟨⟨rfl, rfl, rfl, dT rfl, rfl⟩, .inl rfl, B9, C1 rfl, fun _ => rfl, fun g88 => ?_⟩
       refine B8 rfl (by assumption) rfl rfl ?_
       refine I7 ⟨fun _ => ⟨by (simp only [Z7, List.nil_append, List.append_nil, List.map_cons, List.map_nil, List.cons_append]; decide +kernel), by decide +kernel⟩, [(.t 1, _), (.t 6, _), (.t 10, _), (.t 89, _), (.h 1, _), (.h 6, _)], ⟨rfl, rfl, rfl, rfl, rfl, rfl, rfl, rfl, rfl, rfl, rfl, rfl, trivial⟩, ?_⟩
       refine A7 rfl ?_ ?_ <;> intro hc <;> try simp only [SL] at hc
       ·refine A4 <| A0 <| A3 rfl rfl <| A3 rfl rfl <| A5 rfl rfl rfl ?_
        (refine B6 rfl rfl (by (simp; done)) rfl (fun _ => (B3 (by exact A6 fun _ => rfl))) (fun _ => rfl) ?_; intro g5)
        refine xN [4,5] [5] rfl <| C2 <| F7 (H2 rfl rfl (H4 rfl rfl (by simp) (by exact A6 fun _ => rfl) (G9 E5))) ?_
        have hx : ss.getD i default = (Q4 (.col w) (-1) (-1)) := b0z (by assumption) (by assumption) (by assumption) (by assumption)
        obtain ⟨h1, h2⟩ := a6f (by omega) hx hne
        show _ = AV.tup [iV (stIx (Q4 (.col w) (-1) (-1)) ss : Nat), .own 4 ((stAdd (Q4 (.col w) (-1) (-1)) ss).map stA)]
        rw [h1, h2]
        rfl
       refine B7 <| A0 <| A3 rfl rfl <| D7 rfl rfl (C5 (by omega)) <| A5 rfl rfl rfl <| xN [1,6,10] [1,6] rfl ?_
       refine ⟨i + 1, ⟨by omega, fun j hj => by rcases Nat.lt_succ_iff_lt_or_eq.1 hj with h | h; (· exact hne j h); (· subst h; exact b1m (by assumption))⟩, (by omega), ⟨rfl, rfl, rfl, rfl, rfl, trivial⟩⟩
      iterate 7 refine gF rfl rfl ?_
      refine B5 rfl (by assumption) rfl rfl ?_
      refine I7 ⟨fun _ => ⟨by decide +kernel, by decide +kernel⟩, [(.t 1, _), (.t 6, _), (.t 10, _), (.t 89, _), (.h 1, _), (.h 6, _)], ⟨rfl, rfl, rfl, rfl, rfl, rfl, rfl, rfl, rfl, rfl, rfl, rfl, trivial⟩, ?_⟩
      refine A7 rfl (fun hc => absurd hc (by decide)) (fun hc => ?_)
      refine B7 <| A0 <| A3 rfl rfl <| D7 rfl rfl (C5 (by omega)) <| A5 rfl rfl rfl <| xN [1,6,10] [1,6] rfl ?_
      refine ⟨i + 1, ⟨by omega, fun j hj => by rcases Nat.lt_succ_iff_lt_or_eq.1 hj with h | h; (· exact hne j h); (· subst h; exact b0x (by assumption))⟩, (by omega), ⟨rfl, rfl, rfl, rfl, rfl, trivial⟩⟩
     iterate 7 refine gF rfl rfl ?_
     refine B5 rfl (by assumption) rfl rfl <| A3 rfl rfl ?_
     iterate 8 refine C3 rfl rfl rfl ?_
     refine B5 rfl rfl rfl rfl ?_
     refine I7 ⟨fun _ => ⟨by decide +kernel, by decide +kernel⟩, [(.t 1, _), (.t 6, _), (.t 10, _), (.t 89, _), (.h 1, _), (.h 6, _)], ⟨rfl, rfl, rfl, rfl, rfl, rfl, rfl, rfl, rfl, rfl, rfl, rfl, trivial⟩, ?_⟩
     refine A7 rfl (fun hc => absurd hc (by decide)) (fun hc => ?_)
     refine B7 <| A0 <| A3 rfl rfl <| D7 rfl rfl (C5 (by omega)) <| A5 rfl rfl rfl <| xN [1,6,10] [1,6] rfl ?_
     refine ⟨i + 1, ⟨by omega, fun j hj => by rcases Nat.lt_succ_iff_lt_or_eq.1 hj with h | h; (· exact hne j h); (· subst h; exact b1g (by assumption))⟩, (by omega), ⟨rfl, rfl, rfl, rfl, rfl, trivial⟩⟩
    iterate 7 refine gF rfl rfl ?_
    refine B5 rfl (by assumption) rfl rfl <| A3 rfl rfl ?_
    iterate 8 refine C3 rfl rfl rfl ?_
    refine B5 rfl rfl rfl rfl <| A3 rfl rfl ?_
    iterate 8 refine C3 rfl rfl rfl ?_
    refine B5 rfl rfl rfl rfl ?_
    refine I7 ⟨fun _ => ⟨by decide +kernel, by decide +kernel⟩, [(.t 1, _), (.t 6, _), (.t 10, _), (.t 89, _), (.h 1, _), (.h 6, _)], ⟨rfl, rfl, rfl, rfl, rfl, rfl, rfl, rfl, rfl, rfl, rfl, rfl, trivial⟩, ?_⟩
    refine A7 rfl (fun hc => absurd hc (by decide)) (fun hc => ?_)
    refine B7 <| A0 <| A3 rfl rfl <| D7 rfl rfl (C5 (by omega)) <| A5 rfl rfl rfl <| xN [1,6,10] [1,6] rfl ?_
    refine ⟨i + 1, ⟨by omega, fun j hj => by rcases Nat.lt_succ_iff_lt_or_eq.1 hj with h | h; (· exact hne j h); (· subst h; exact b1b (by assumption))⟩, (by omega), ⟨rfl, rfl, rfl, rfl, rfl, trivial⟩⟩
   refine G4 <| A4 <| A0 <| A3 rfl rfl <| I4 rfl rfl <| C8 (es := List.map stA []) rfl rfl (dT rfl) rfl rfl (fun _ => B3 (A6 fun _ => rfl)) (fun _ => rfl) ?_
   intro g94
   refine A3 rfl rfl <| N4 rfl rfl rfl rfl (by decide) rfl (by (simp; done)) (by (simp; done)) rfl rfl rfl (dT rfl) (fun _ => ⟨rfl, rfl, rfl⟩) (by simp only [H6]; (simp only [List.length_nil, List.length_cons, List.length_append, Nat.zero_add, List.length_map]; omega)) (fun _ => rfl) ?_
   intro g96
   refine L2 rfl rfl rfl rfl rfl <| a1o (mk := 2) (fs := [_, _, _, _]) rfl rfl rfl (dT rfl) rfl rfl (a0d rfl (a0d rfl (a0d rfl (b7b a6w)))) (fun _ _ => E7 (B3 rfl) (I6 rfl)) ?_
   intro z98 g98
   simp only [Y0, List.cons_append, List.nil_append]
   rw [c2j]
   refine E4 rfl rfl rfl rfl (by (simp; done)) (by simp) (by decide) rfl rfl rfl rfl (dT rfl) (fun _ => ⟨rfl, rfl⟩) (by simp only [H6]; (simp; omega)) (fun _ => rfl) ?_
   intro g99
   refine A5 rfl rfl rfl ?_
   (refine B6 rfl rfl (by (simp; done)) rfl (fun _ => (B3 (by exact A6 fun _ => rfl))) (fun _ => rfl) ?_; intro g5)
   refine I7 ⟨fun _ => ⟨by (simp only [Z7, List.nil_append, List.append_nil, List.map_cons, List.map_nil, List.cons_append]; decide +kernel), by decide +kernel⟩, [(.t 4, _), (.t 5, _), (.h 5, _)], ⟨rfl, rfl, rfl, rfl, rfl, rfl, trivial⟩, ?_⟩
   refine C2 <| F7 (H2 rfl rfl (H4 rfl rfl (by simp) (by exact A6 fun _ => rfl) (G9 E5))) ?_
   obtain ⟨h1, h2⟩ := a3b (l := ss) (s := (Q4 (.col w) (-1) (-1))) fun j hj => hne j (by omega)
   show _ = AV.tup [iV (stIx (Q4 (.col w) (-1) (-1)) ss : Nat), .own 4 ((stAdd (Q4 (.col w) (-1) (-1)) ss).map stA)]
   rw [h1, h2]
   simp only [List.length_map, List.drop_zero, List.take_length]
   rfl
  ·rw [d1o]
   have hwl : w ≠ lW := hgd.1
   have hs1 := V9 p ss
   have hsz1 : (Pl.un w p).sz = p.sz + 1 := rfl
   refine a9p rfl rfl rfl (fun _ => F4 rfl) (fun _ => rfl) ?_
   intro g2
   refine A5 rfl rfl rfl ?_
   (refine D3 rfl rfl (fun _ => rfl) ?_; intro g5)
   refine xN [1,2] [1,2] rfl <| A4 <| A0 <| B0 rfl rfl (dT rfl) rfl rfl <| B4 rfl rfl rfl rfl rfl rfl <| Q8 (fs := [_, iV (-1), iV (-1), .nil]) rfl rfl rfl rfl rfl <| M8 rfl (fun _ => F4 rfl) (fun _ => rfl) ?_
   intro g6
   refine G5 rfl rfl rfl rfl ⟨by decide, rfl, dT rfl, dT rfl, rfl⟩ rfl (by exact F4 rfl) <| xN [1,2,6] [1,2,6] rfl <| A4 <| A4 <| A0 <| B0 rfl rfl (dT rfl) rfl rfl <| B4 rfl rfl rfl rfl rfl rfl <| a4t rfl rfl <| xN [1,2,6,16] [1,2,6] rfl ?_
   refine A7 rfl (fun hc => absurd hc (by simp_all)) (fun hc => ?_)
   refine B7 <| A4 <| A4 <| A0 <| A5 rfl rfl rfl <| xN [1,2,6,7] [1,2,6] rfl <| C9 <| N8 <| A4 <| A4 <| A0 <| A3 rfl rfl <| B0 rfl rfl (dT rfl) rfl rfl <| B4 rfl rfl rfl rfl rfl rfl <| D9 rfl rfl <| G7 rfl rfl <| xN [1,2,6,7,26] [1,2,6] rfl ?_
   refine A7 rfl (fun hc => ?_) (fun hc => absurd hc (by exact fun h => Bool.noConfusion (show true = false from h)))
   refine B7 <| A4 <| C9 <| A4 <| A0 <| B0 rfl rfl (dT rfl) rfl rfl <| B4 rfl rfl rfl rfl rfl rfl <| A3 rfl rfl <| N2 rfl rfl rfl (fun _ => rfl) (by show (0 : Int) ≤ 0 ∧ (0 : Int) < ((1 : Nat) : Int); omega) <| D6 rfl rfl rfl <| A3 rfl rfl ?_
   apply xC rfl
   ·apply A9
    ·exact B2 rfl
    apply A9
    ·exact a5z rfl rfl (by (simp; done)) (A6 fun _ => rfl)
    exact C6
   ·exact (by have hi := ih p ss ⟨by omega, hss.2⟩ hgd.2.2 (by omega); rw [← c3s] at hi; exact hi)
   refine ⟨⟨rfl, rfl, rfl, dT rfl, rfl⟩, .inl rfl, B9, K3 (P0 rfl (P8 fun _ => Q7)), fun _ => E7 (by rfl) (E7 (B3 (A6 fun _ => rfl)) (by rfl)), fun g36 => ?_⟩
   simp only [List.length_map]
   refine A3 rfl rfl <| E8 rfl rfl rfl <| E8 rfl rfl rfl <| A5 rfl rfl rfl ?_
   (refine B6 rfl rfl (by (simp; done)) rfl (fun _ => (B3 (by exact A6 fun _ => rfl))) (fun _ => rfl) ?_; intro g9)
   refine xN [2,6,7,8,9] [2,6,9] rfl <| A4 <| A0 <| A3 rfl rfl ?_
   (refine B6 rfl rfl (by (simp; done)) rfl (fun _ => (B3 (by exact A6 fun _ => rfl))) (fun _ => rfl) ?_; intro g1)
   refine xN [1,2,6,7,8] [1,2,6] rfl <| A4 <| A0 <| A3 rfl rfl <| H8 rfl rfl <| xN [1,2,6,7,8,41] [1,2,6] rfl ?_
   refine A7 rfl (fun hc => ?_) (fun hc => absurd hc (by decide))
   refine A0 <| A3 rfl rfl <| B0 rfl rfl (dT rfl) rfl rfl <| a3t rfl rfl rfl rfl rfl ⟨by decide, rfl, dT rfl, dT rfl, rfl⟩ (by exact F4 rfl) <| xN [1,2,6,7] [1,2,6] rfl <| A0 <| A3 rfl rfl <| D7 rfl rfl (C5 (by omega)) <| A5 rfl rfl rfl <| xN [1,2,6,7] [1,2,6] rfl <| N8 <| A4 <| A4 <| A0 <| A3 rfl rfl <| B0 rfl rfl (dT rfl) rfl rfl <| B4 rfl rfl rfl rfl rfl rfl <| D9 rfl rfl <| G7 rfl rfl <| xN [1,2,6,7,26] [1,2,6] rfl ?_
   refine A7 rfl (fun hc => absurd hc (by exact fun h => Bool.noConfusion (show false = true from h))) (fun hc => ?_)
   refine G4 <| A4 <| A4 <| A0 <| A5 rfl rfl rfl <| xN [1,6,10] [1,6] rfl <| C9 <| G3 (β := Nat) [(.t 1, _), (.t 6, _), (.h 1, _), (.h 6, _)] (fun (i : Nat) => [(.t 10, iV i)]) (fun (i : Nat) => i ≤ (shareP p ss).1.length ∧ ∀ j, j < i → (shareP p ss).1.getD j default ≠ (Q4 (.un w p) ((shareP p ss).2 : Int) (-1))) (fun (i : Nat) => (shareP p ss).1.length - i) 0 ⟨rfl, rfl, rfl, rfl, rfl, trivial⟩ ⟨Nat.zero_le _, fun j h => by omega⟩ ?_
   intro i hb
   obtain ⟨hi1, hne⟩ := hb
   refine A4 <| A4 <| A0 <| A3 rfl rfl <| A3 rfl rfl <| I4 rfl rfl <| G7 rfl rfl <| xN [1,6,10,49] [1,6] rfl ?_
   refine A7 rfl ?_ ?_ <;> intro hc <;> try simp only [SL] at hc
   ·refine B7 <| A4 <| C9 <| A4 <| A0 <| A3 rfl rfl <| A3 rfl rfl <| D8 rfl rfl rfl rfl (by omega) (by (simp; done)) rfl <| B0 rfl rfl (dT rfl) rfl rfl <| J8 rfl rfl (by omega) (fun _ => rfl) rfl rfl <| B0 rfl rfl (dT rfl) rfl rfl <| B4 rfl rfl rfl rfl rfl rfl <| a4t rfl rfl <| A3 rfl rfl ?_
    refine B1 rfl rfl ?_ ?_ <;> intro hg0 <;> have hg := hg0 <;> try simp only [SG] at hg
    ·refine A3 rfl rfl <| gT rfl rfl <| A3 rfl rfl <| gT rfl rfl <| D8 rfl rfl rfl rfl (by omega) (by (simp; done)) rfl <| gT rfl rfl <| B0 rfl rfl (dT rfl) rfl rfl <| gT rfl rfl <| J8 rfl rfl (by omega) (fun _ => rfl) rfl rfl <| gT rfl rfl <| B0 rfl rfl (dT rfl) rfl rfl <| gT rfl rfl <| B4 rfl rfl rfl rfl rfl rfl <| gT rfl rfl <| H8 rfl rfl <| B8 rfl (by assumption) rfl rfl <| A3 rfl rfl ?_
     refine B1 rfl rfl ?_ ?_ <;> intro hg0 <;> have hg := hg0 <;> try simp only [SG] at hg
     ·refine A3 rfl rfl <| gT rfl rfl <| A3 rfl rfl <| gT rfl rfl <| D8 rfl rfl rfl rfl (by omega) (by (simp; done)) rfl <| gT rfl rfl <| B0 rfl rfl (dT rfl) rfl rfl <| gT rfl rfl <| J8 rfl rfl (by omega) (fun _ => rfl) rfl rfl <| gT rfl rfl <| B0 rfl rfl (dT rfl) rfl rfl <| gT rfl rfl <| B4 rfl rfl rfl rfl rfl rfl <| gT rfl rfl <| H8 rfl rfl <| B8 rfl (by assumption) rfl rfl <| A3 rfl rfl ?_
      refine B1 rfl rfl ?_ ?_ <;> intro hg0 <;> have hg := hg0 <;> try simp only [SG] at hg
      ·refine A3 rfl rfl <| gT rfl rfl <| A3 rfl rfl <| gT rfl rfl <| D8 rfl rfl rfl rfl (by omega) (by (simp; done)) rfl <| gT rfl rfl <| B0 rfl rfl (dT rfl) rfl rfl <| gT rfl rfl <| J8 rfl rfl (by omega) (fun _ => rfl) rfl rfl <| gT rfl rfl <| B0 rfl rfl (dT rfl) rfl rfl <| gT rfl rfl <| B4 rfl rfl rfl rfl rfl rfl <| gT rfl rfl ?_
       apply xC rfl
       ·apply A9
        ·exact B2 rfl
        apply A9
        ·exact b7d (dT rfl)
        exact C6
       ·exact a3f ((shareP p ss).1.getD i default).ns [] (by have hsg := (a3p p _ hgd.2.2 hss.2) _ (L8 (xs := (shareP p ss).1) (i := i) (by omega)); have := a2z hsg.2; omega) (by decide)
       refine ⟨⟨rfl, rfl, rfl, dT rfl, rfl⟩, .inl rfl, B9, C1 rfl, fun _ => rfl, fun g88 => ?_⟩
       refine B8 rfl (by assumption) rfl rfl ?_
       refine I7 ⟨fun _ => ⟨by (simp only [Z7, List.nil_append, List.append_nil, List.map_cons, List.map_nil, List.cons_append]; decide +kernel), by decide +kernel⟩, [(.t 1, _), (.t 6, _), (.t 10, _), (.t 89, _), (.h 1, _), (.h 6, _)], ⟨rfl, rfl, rfl, rfl, rfl, rfl, rfl, rfl, rfl, rfl, rfl, rfl, trivial⟩, ?_⟩
       refine A7 rfl ?_ ?_ <;> intro hc <;> try simp only [SL] at hc
       ·refine A4 <| A0 <| A3 rfl rfl <| A3 rfl rfl <| A5 rfl rfl rfl ?_
        (refine B6 rfl rfl (by (simp; done)) rfl (fun _ => (B3 (by exact A6 fun _ => rfl))) (fun _ => rfl) ?_; intro g5)
        refine xN [4,5] [5] rfl <| C2 <| F7 (H2 rfl rfl (H4 rfl rfl (by simp) (by exact A6 fun _ => rfl) (G9 E5))) ?_
        have hx : (shareP p ss).1.getD i default = (Q4 (.un w p) ((shareP p ss).2 : Int) (-1)) := b0z (by assumption) (by assumption) (by assumption) (by assumption)
        obtain ⟨h1, h2⟩ := a6f (by omega) hx hne
        show _ = AV.tup [iV (stIx (Q4 (.un w p) ((shareP p ss).2 : Int) (-1)) (shareP p ss).1 : Nat), .own 4 ((stAdd (Q4 (.un w p) ((shareP p ss).2 : Int) (-1)) (shareP p ss).1).map stA)]
        rw [h1, h2]
        rfl
       refine B7 <| A0 <| A3 rfl rfl <| D7 rfl rfl (C5 (by omega)) <| A5 rfl rfl rfl <| xN [1,6,10] [1,6] rfl ?_
       refine ⟨i + 1, ⟨by omega, fun j hj => by rcases Nat.lt_succ_iff_lt_or_eq.1 hj with h | h; (· exact hne j h); (· subst h; exact b1m (by assumption))⟩, (by omega), ⟨rfl, rfl, rfl, rfl, rfl, trivial⟩⟩
      iterate 7 refine gF rfl rfl ?_
      refine B5 rfl (by assumption) rfl rfl ?_
      refine I7 ⟨fun _ => ⟨by decide +kernel, by decide +kernel⟩, [(.t 1, _), (.t 6, _), (.t 10, _), (.t 89, _), (.h 1, _), (.h 6, _)], ⟨rfl, rfl, rfl, rfl, rfl, rfl, rfl, rfl, rfl, rfl, rfl, rfl, trivial⟩, ?_⟩
      refine A7 rfl (fun hc => absurd hc (by decide)) (fun hc => ?_)
      refine B7 <| A0 <| A3 rfl rfl <| D7 rfl rfl (C5 (by omega)) <| A5 rfl rfl rfl <| xN [1,6,10] [1,6] rfl ?_
      refine ⟨i + 1, ⟨by omega, fun j hj => by rcases Nat.lt_succ_iff_lt_or_eq.1 hj with h | h; (· exact hne j h); (· subst h; exact b0x (by assumption))⟩, (by omega), ⟨rfl, rfl, rfl, rfl, rfl, trivial⟩⟩
     iterate 7 refine gF rfl rfl ?_
     refine B5 rfl (by assumption) rfl rfl <| A3 rfl rfl ?_
     iterate 8 refine C3 rfl rfl rfl ?_
     refine B5 rfl rfl rfl rfl ?_
     refine I7 ⟨fun _ => ⟨by decide +kernel, by decide +kernel⟩, [(.t 1, _), (.t 6, _), (.t 10, _), (.t 89, _), (.h 1, _), (.h 6, _)], ⟨rfl, rfl, rfl, rfl, rfl, rfl, rfl, rfl, rfl, rfl, rfl, rfl, trivial⟩, ?_⟩
     refine A7 rfl (fun hc => absurd hc (by decide)) (fun hc => ?_)
     refine B7 <| A0 <| A3 rfl rfl <| D7 rfl rfl (C5 (by omega)) <| A5 rfl rfl rfl <| xN [1,6,10] [1,6] rfl ?_
     refine ⟨i + 1, ⟨by omega, fun j hj => by rcases Nat.lt_succ_iff_lt_or_eq.1 hj with h | h; (· exact hne j h); (· subst h; exact b1g (by assumption))⟩, (by omega), ⟨rfl, rfl, rfl, rfl, rfl, trivial⟩⟩
    iterate 7 refine gF rfl rfl ?_
    refine B5 rfl (by assumption) rfl rfl <| A3 rfl rfl ?_
    iterate 8 refine C3 rfl rfl rfl ?_
    refine B5 rfl rfl rfl rfl <| A3 rfl rfl ?_
    iterate 8 refine C3 rfl rfl rfl ?_
    refine B5 rfl rfl rfl rfl ?_
    refine I7 ⟨fun _ => ⟨by decide +kernel, by decide +kernel⟩, [(.t 1, _), (.t 6, _), (.t 10, _), (.t 89, _), (.h 1, _), (.h 6, _)], ⟨rfl, rfl, rfl, rfl, rfl, rfl, rfl, rfl, rfl, rfl, rfl, rfl, trivial⟩, ?_⟩
    refine A7 rfl (fun hc => absurd hc (by decide)) (fun hc => ?_)
    refine B7 <| A0 <| A3 rfl rfl <| D7 rfl rfl (C5 (by omega)) <| A5 rfl rfl rfl <| xN [1,6,10] [1,6] rfl ?_
    refine ⟨i + 1, ⟨by omega, fun j hj => by rcases Nat.lt_succ_iff_lt_or_eq.1 hj with h | h; (· exact hne j h); (· subst h; exact b1b (by assumption))⟩, (by omega), ⟨rfl, rfl, rfl, rfl, rfl, trivial⟩⟩
   refine G4 <| A4 <| A0 <| A3 rfl rfl <| I4 rfl rfl <| C8 (es := List.map stA []) rfl rfl (dT rfl) rfl rfl (fun _ => B3 (A6 fun _ => rfl)) (fun _ => rfl) ?_
   intro g94
   refine A3 rfl rfl <| N4 rfl rfl rfl rfl (by decide) rfl (by (simp; done)) (by omega) rfl rfl rfl (dT rfl) (fun _ => ⟨rfl, rfl, rfl⟩) (by simp only [H6]; (simp only [List.length_nil, List.length_cons, List.length_append, Nat.zero_add, List.length_map]; omega)) (fun _ => rfl) ?_
   intro g96
   refine L2 rfl rfl rfl rfl rfl <| a1o (mk := 2) (fs := [_, _, _, _]) rfl rfl rfl (dT rfl) rfl rfl (a0d rfl (a0d rfl (a0d rfl (b7b a6w)))) (fun _ _ => E7 (B3 rfl) (I6 rfl)) ?_
   intro z98 g98
   simp only [Y0, List.cons_append, List.nil_append]
   rw [c2j]
   refine E4 rfl rfl rfl rfl (by (simp; done)) (by simp) (by decide) rfl rfl rfl rfl (dT rfl) (fun _ => ⟨rfl, rfl⟩) (by simp only [H6]; (simp; omega)) (fun _ => rfl) ?_
   intro g99
   refine A5 rfl rfl rfl ?_
   (refine B6 rfl rfl (by (simp; done)) rfl (fun _ => (B3 (by exact A6 fun _ => rfl))) (fun _ => rfl) ?_; intro g5)
   refine I7 ⟨fun _ => ⟨by (simp only [Z7, List.nil_append, List.append_nil, List.map_cons, List.map_nil, List.cons_append]; decide +kernel), by decide +kernel⟩, [(.t 4, _), (.t 5, _), (.h 5, _)], ⟨rfl, rfl, rfl, rfl, rfl, rfl, trivial⟩, ?_⟩
   refine C2 <| F7 (H2 rfl rfl (H4 rfl rfl (by simp) (by exact A6 fun _ => rfl) (G9 E5))) ?_
   obtain ⟨h1, h2⟩ := a3b (l := (shareP p ss).1) (s := (Q4 (.un w p) ((shareP p ss).2 : Int) (-1))) fun j hj => hne j (by omega)
   show _ = AV.tup [iV (stIx (Q4 (.un w p) ((shareP p ss).2 : Int) (-1)) (shareP p ss).1 : Nat), .own 4 ((stAdd (Q4 (.un w p) ((shareP p ss).2 : Int) (-1)) (shareP p ss).1).map stA)]
   rw [h1, h2]
   simp only [List.length_map, List.drop_zero, List.take_length]
   rfl
  rw [d0k]
  have hwl : w ≠ lW := hgd.1
  have hs1 := V9 p ss
  have hs2 := V9 q (shareP p ss).1
  have hsz1 : (Pl.bin w p q).sz = p.sz + q.sz + 1 := rfl
  refine a9p rfl rfl rfl (fun _ => F4 rfl) (fun _ => rfl) ?_
  intro g2
  refine A5 rfl rfl rfl ?_
  (refine D3 rfl rfl (fun _ => rfl) ?_; intro g5)
  refine xN [1,2] [1,2] rfl <| A4 <| A0 <| B0 rfl rfl (dT rfl) rfl rfl <| B4 rfl rfl rfl rfl rfl rfl <| Q8 (fs := [_, iV (-1), iV (-1), .nil]) rfl rfl rfl rfl rfl <| M8 rfl (fun _ => F4 rfl) (fun _ => rfl) ?_
  intro g6
  refine G5 rfl rfl rfl rfl ⟨by decide, rfl, dT rfl, dT rfl, rfl⟩ rfl (by exact F4 rfl) <| xN [1,2,6] [1,2,6] rfl <| A4 <| A4 <| A0 <| B0 rfl rfl (dT rfl) rfl rfl <| B4 rfl rfl rfl rfl rfl rfl <| a4t rfl rfl <| xN [1,2,6,16] [1,2,6] rfl ?_
  refine A7 rfl (fun hc => absurd hc (by simp_all)) (fun hc => ?_)
  refine B7 <| A4 <| A4 <| A0 <| A5 rfl rfl rfl <| xN [1,2,6,7] [1,2,6] rfl <| C9 <| N8 <| A4 <| A4 <| A0 <| A3 rfl rfl <| B0 rfl rfl (dT rfl) rfl rfl <| B4 rfl rfl rfl rfl rfl rfl <| D9 rfl rfl <| G7 rfl rfl <| xN [1,2,6,7,26] [1,2,6] rfl ?_
  refine A7 rfl (fun hc => ?_) (fun hc => absurd hc (by exact fun h => Bool.noConfusion (show true = false from h)))
  refine B7 <| A4 <| C9 <| A4 <| A0 <| B0 rfl rfl (dT rfl) rfl rfl <| B4 rfl rfl rfl rfl rfl rfl <| A3 rfl rfl <| N2 rfl rfl rfl (fun _ => rfl) (by show (0 : Int) ≤ 0 ∧ (0 : Int) < ((2 : Nat) : Int); omega) <| D6 rfl rfl rfl <| A3 rfl rfl ?_
  apply xC rfl
  ·apply A9
   ·exact B2 rfl
   apply A9
   ·exact a5z rfl rfl (by (simp; done)) (A6 fun _ => rfl)
   exact C6
  ·exact (by have hi := ih p ss ⟨by omega, hss.2⟩ hgd.2.2.1 (by omega); rw [← c3s] at hi; exact hi)
  refine ⟨⟨rfl, rfl, rfl, dT rfl, rfl⟩, .inl rfl, B9, K3 (P0 rfl (P8 fun _ => Q7)), fun _ => E7 (by rfl) (E7 (B3 (A6 fun _ => rfl)) (by rfl)), fun g36 => ?_⟩
  simp only [List.length_map]
  refine A3 rfl rfl <| E8 rfl rfl rfl <| E8 rfl rfl rfl <| A5 rfl rfl rfl ?_
  (refine B6 rfl rfl (by (simp; done)) rfl (fun _ => (B3 (by exact A6 fun _ => rfl))) (fun _ => rfl) ?_; intro g9)
  refine xN [2,6,7,8,9] [2,6,9] rfl <| A4 <| A0 <| A3 rfl rfl ?_
  (refine B6 rfl rfl (by (simp; done)) rfl (fun _ => (B3 (by exact A6 fun _ => rfl))) (fun _ => rfl) ?_; intro g1)
  refine xN [1,2,6,7,8] [1,2,6] rfl <| A4 <| A0 <| A3 rfl rfl <| H8 rfl rfl <| xN [1,2,6,7,8,41] [1,2,6] rfl ?_
  refine A7 rfl (fun hc => ?_) (fun hc => absurd hc (by decide))
  refine A0 <| A3 rfl rfl <| B0 rfl rfl (dT rfl) rfl rfl <| a3t rfl rfl rfl rfl rfl ⟨by decide, rfl, dT rfl, dT rfl, rfl⟩ (by exact F4 rfl) <| xN [1,2,6,7] [1,2,6] rfl <| A0 <| A3 rfl rfl <| D7 rfl rfl (C5 (by omega)) <| A5 rfl rfl rfl <| xN [1,2,6,7] [1,2,6] rfl <| N8 <| A4 <| A4 <| A0 <| A3 rfl rfl <| B0 rfl rfl (dT rfl) rfl rfl <| B4 rfl rfl rfl rfl rfl rfl <| D9 rfl rfl <| G7 rfl rfl <| xN [1,2,6,7,26] [1,2,6] rfl ?_
  refine A7 rfl (fun hc => ?_) (fun hc => absurd hc (by exact fun h => Bool.noConfusion (show true = false from h)))
  refine B7 <| A4 <| C9 <| A4 <| A0 <| B0 rfl rfl (dT rfl) rfl rfl <| B4 rfl rfl rfl rfl rfl rfl <| A3 rfl rfl <| N2 rfl rfl rfl (fun _ => rfl) (by show (0 : Int) ≤ 1 ∧ (1 : Int) < ((2 : Nat) : Int); omega) <| D6 rfl rfl rfl <| A3 rfl rfl ?_
  apply xC rfl
  ·apply A9
   ·exact B2 rfl
   apply A9
   ·exact a5z rfl rfl (by (simp; done)) (A6 fun _ => rfl)
   exact C6
  ·exact (by have hi := ih q (shareP p ss).1 ⟨by omega, (a3p p _ hgd.2.2.1 hss.2)⟩ hgd.2.2.2 (by omega); rw [← c3s] at hi; exact hi)
  refine ⟨⟨rfl, rfl, rfl, dT rfl, rfl⟩, .inl rfl, B9, K3 (P0 rfl (P8 fun _ => Q7)), fun _ => E7 (by rfl) (E7 (B3 (A6 fun _ => rfl)) (by rfl)), fun g36 => ?_⟩
  simp only [List.length_map]
  refine A3 rfl rfl <| E8 rfl rfl rfl <| E8 rfl rfl rfl <| A5 rfl rfl rfl ?_
  (refine B6 rfl rfl (by (simp; done)) rfl (fun _ => (B3 (by exact A6 fun _ => rfl))) (fun _ => rfl) ?_; intro g9)
  refine xN [2,6,7,8,9] [2,6,9] rfl <| A4 <| A0 <| A3 rfl rfl ?_
  (refine B6 rfl rfl (by (simp; done)) rfl (fun _ => (B3 (by exact A6 fun _ => rfl))) (fun _ => rfl) ?_; intro g1)
  refine xN [1,2,6,7,8] [1,2,6] rfl <| A4 <| A0 <| A3 rfl rfl <| H8 rfl rfl <| xN [1,2,6,7,8,41] [1,2,6] rfl ?_
  refine A7 rfl (fun hc => absurd hc (by decide)) (fun hc => ?_)
  refine A0 <| A3 rfl rfl <| B0 rfl rfl (dT rfl) rfl rfl <| a3t rfl rfl rfl rfl rfl ⟨by decide, rfl, dT rfl, dT rfl, rfl⟩ (by exact F4 rfl) <| xN [1,2,6,7] [1,2,6] rfl <| A0 <| A3 rfl rfl <| D7 rfl rfl (C5 (by omega)) <| A5 rfl rfl rfl <| xN [1,2,6,7] [1,2,6] rfl <| N8 <| A4 <| A4 <| A0 <| A3 rfl rfl <| B0 rfl rfl (dT rfl) rfl rfl <| B4 rfl rfl rfl rfl rfl rfl <| D9 rfl rfl <| G7 rfl rfl <| xN [1,2,6,7,26] [1,2,6] rfl ?_
  refine A7 rfl (fun hc => absurd hc (by exact fun h => Bool.noConfusion (show false = true from h))) (fun hc => ?_)
  refine G4 <| A4 <| A4 <| A0 <| A5 rfl rfl rfl <| xN [1,6,10] [1,6] rfl <| C9 <| G3 (β := Nat) [(.t 1, _), (.t 6, _), (.h 1, _), (.h 6, _)] (fun (i : Nat) => [(.t 10, iV i)]) (fun (i : Nat) => i ≤ (shareP q (shareP p ss).1).1.length ∧ ∀ j, j < i → (shareP q (shareP p ss).1).1.getD j default ≠ (Q4 (.bin w p q) ((shareP p ss).2 : Int) ((shareP q (shareP p ss).1).2 : Int))) (fun (i : Nat) => (shareP q (shareP p ss).1).1.length - i) 0 ⟨rfl, rfl, rfl, rfl, rfl, trivial⟩ ⟨Nat.zero_le _, fun j h => by omega⟩ ?_
  intro i hb
  obtain ⟨hi1, hne⟩ := hb
  refine A4 <| A4 <| A0 <| A3 rfl rfl <| A3 rfl rfl <| I4 rfl rfl <| G7 rfl rfl <| xN [1,6,10,49] [1,6] rfl ?_
  refine A7 rfl ?_ ?_ <;> intro hc <;> try simp only [SL] at hc
  ·refine B7 <| A4 <| C9 <| A4 <| A0 <| A3 rfl rfl <| A3 rfl rfl <| D8 rfl rfl rfl rfl (by omega) (by (simp; done)) rfl <| B0 rfl rfl (dT rfl) rfl rfl <| J8 rfl rfl (by omega) (fun _ => rfl) rfl rfl <| B0 rfl rfl (dT rfl) rfl rfl <| B4 rfl rfl rfl rfl rfl rfl <| a4t rfl rfl <| A3 rfl rfl ?_
   refine B1 rfl rfl ?_ ?_ <;> intro hg0 <;> have hg := hg0 <;> try simp only [SG] at hg
   ·refine A3 rfl rfl <| gT rfl rfl <| A3 rfl rfl <| gT rfl rfl <| D8 rfl rfl rfl rfl (by omega) (by (simp; done)) rfl <| gT rfl rfl <| B0 rfl rfl (dT rfl) rfl rfl <| gT rfl rfl <| J8 rfl rfl (by omega) (fun _ => rfl) rfl rfl <| gT rfl rfl <| B0 rfl rfl (dT rfl) rfl rfl <| gT rfl rfl <| B4 rfl rfl rfl rfl rfl rfl <| gT rfl rfl <| H8 rfl rfl <| B8 rfl (by assumption) rfl rfl <| A3 rfl rfl ?_
    refine B1 rfl rfl ?_ ?_ <;> intro hg0 <;> have hg := hg0 <;> try simp only [SG] at hg
    ·refine A3 rfl rfl <| gT rfl rfl <| A3 rfl rfl <| gT rfl rfl <| D8 rfl rfl rfl rfl (by omega) (by (simp; done)) rfl <| gT rfl rfl <| B0 rfl rfl (dT rfl) rfl rfl <| gT rfl rfl <| J8 rfl rfl (by omega) (fun _ => rfl) rfl rfl <| gT rfl rfl <| B0 rfl rfl (dT rfl) rfl rfl <| gT rfl rfl <| B4 rfl rfl rfl rfl rfl rfl <| gT rfl rfl <| H8 rfl rfl <| B8 rfl (by assumption) rfl rfl <| A3 rfl rfl ?_
     refine B1 rfl rfl ?_ ?_ <;> intro hg0 <;> have hg := hg0 <;> try simp only [SG] at hg
     ·refine A3 rfl rfl <| gT rfl rfl <| A3 rfl rfl <| gT rfl rfl <| D8 rfl rfl rfl rfl (by omega) (by (simp; done)) rfl <| gT rfl rfl <| B0 rfl rfl (dT rfl) rfl rfl <| gT rfl rfl <| J8 rfl rfl (by omega) (fun _ => rfl) rfl rfl <| gT rfl rfl <| B0 rfl rfl (dT rfl) rfl rfl <| gT rfl rfl <| B4 rfl rfl rfl rfl rfl rfl <| gT rfl rfl ?_
      apply xC rfl
      ·apply A9
       ·exact B2 rfl
       apply A9
       ·exact b7d (dT rfl)
       exact C6
      ·exact a3f ((shareP q (shareP p ss).1).1.getD i default).ns [] (by have hsg := (a3p q _ hgd.2.2.2 (a3p p _ hgd.2.2.1 hss.2)) _ (L8 (xs := (shareP q (shareP p ss).1).1) (i := i) (by omega)); have := a2z hsg.2; omega) (by decide)
      refine ⟨⟨rfl, rfl, rfl, dT rfl, rfl⟩, .inl rfl, B9, C1 rfl, fun _ => rfl, fun g88 => ?_⟩
      refine B8 rfl (by assumption) rfl rfl ?_
      refine I7 ⟨fun _ => ⟨by (simp only [Z7, List.nil_append, List.append_nil, List.map_cons, List.map_nil, List.cons_append]; decide +kernel), by decide +kernel⟩, [(.t 1, _), (.t 6, _), (.t 10, _), (.t 89, _), (.h 1, _), (.h 6, _)], ⟨rfl, rfl, rfl, rfl, rfl, rfl, rfl, rfl, rfl, rfl, rfl, rfl, trivial⟩, ?_⟩
      refine A7 rfl ?_ ?_ <;> intro hc <;> try simp only [SL] at hc
      ·refine A4 <| A0 <| A3 rfl rfl <| A3 rfl rfl <| A5 rfl rfl rfl ?_
       (refine B6 rfl rfl (by (simp; done)) rfl (fun _ => (B3 (by exact A6 fun _ => rfl))) (fun _ => rfl) ?_; intro g5)
       refine xN [4,5] [5] rfl <| C2 <| F7 (H2 rfl rfl (H4 rfl rfl (by simp) (by exact A6 fun _ => rfl) (G9 E5))) ?_
       have hx : (shareP q (shareP p ss).1).1.getD i default = (Q4 (.bin w p q) ((shareP p ss).2 : Int) ((shareP q (shareP p ss).1).2 : Int)) := b0z (by assumption) (by assumption) (by assumption) (by assumption)
       obtain ⟨h1, h2⟩ := a6f (by omega) hx hne
       show _ = AV.tup [iV (stIx (Q4 (.bin w p q) ((shareP p ss).2 : Int) ((shareP q (shareP p ss).1).2 : Int)) (shareP q (shareP p ss).1).1 : Nat), .own 4 ((stAdd (Q4 (.bin w p q) ((shareP p ss).2 : Int) ((shareP q (shareP p ss).1).2 : Int)) (shareP q (shareP p ss).1).1).map stA)]
       rw [h1, h2]
       rfl
      refine B7 <| A0 <| A3 rfl rfl <| D7 rfl rfl (C5 (by omega)) <| A5 rfl rfl rfl <| xN [1,6,10] [1,6] rfl ?_
      refine ⟨i + 1, ⟨by omega, fun j hj => by rcases Nat.lt_succ_iff_lt_or_eq.1 hj with h | h; (· exact hne j h); (· subst h; exact b1m (by assumption))⟩, (by omega), ⟨rfl, rfl, rfl, rfl, rfl, trivial⟩⟩
     iterate 7 refine gF rfl rfl ?_
     refine B5 rfl (by assumption) rfl rfl ?_
     refine I7 ⟨fun _ => ⟨by decide +kernel, by decide +kernel⟩, [(.t 1, _), (.t 6, _), (.t 10, _), (.t 89, _), (.h 1, _), (.h 6, _)], ⟨rfl, rfl, rfl, rfl, rfl, rfl, rfl, rfl, rfl, rfl, rfl, rfl, trivial⟩, ?_⟩
     refine A7 rfl (fun hc => absurd hc (by decide)) (fun hc => ?_)
     refine B7 <| A0 <| A3 rfl rfl <| D7 rfl rfl (C5 (by omega)) <| A5 rfl rfl rfl <| xN [1,6,10] [1,6] rfl ?_
     refine ⟨i + 1, ⟨by omega, fun j hj => by rcases Nat.lt_succ_iff_lt_or_eq.1 hj with h | h; (· exact hne j h); (· subst h; exact b0x (by assumption))⟩, (by omega), ⟨rfl, rfl, rfl, rfl, rfl, trivial⟩⟩
    iterate 7 refine gF rfl rfl ?_
    refine B5 rfl (by assumption) rfl rfl <| A3 rfl rfl ?_
    iterate 8 refine C3 rfl rfl rfl ?_
    refine B5 rfl rfl rfl rfl ?_
    refine I7 ⟨fun _ => ⟨by decide +kernel, by decide +kernel⟩, [(.t 1, _), (.t 6, _), (.t 10, _), (.t 89, _), (.h 1, _), (.h 6, _)], ⟨rfl, rfl, rfl, rfl, rfl, rfl, rfl, rfl, rfl, rfl, rfl, rfl, trivial⟩, ?_⟩
    refine A7 rfl (fun hc => absurd hc (by decide)) (fun hc => ?_)
    refine B7 <| A0 <| A3 rfl rfl <| D7 rfl rfl (C5 (by omega)) <| A5 rfl rfl rfl <| xN [1,6,10] [1,6] rfl ?_
    refine ⟨i + 1, ⟨by omega, fun j hj => by rcases Nat.lt_succ_iff_lt_or_eq.1 hj with h | h; (· exact hne j h); (· subst h; exact b1g (by assumption))⟩, (by omega), ⟨rfl, rfl, rfl, rfl, rfl, trivial⟩⟩
   iterate 7 refine gF rfl rfl ?_
   refine B5 rfl (by assumption) rfl rfl <| A3 rfl rfl ?_
   iterate 8 refine C3 rfl rfl rfl ?_
   refine B5 rfl rfl rfl rfl <| A3 rfl rfl ?_
   iterate 8 refine C3 rfl rfl rfl ?_
   refine B5 rfl rfl rfl rfl ?_
   refine I7 ⟨fun _ => ⟨by decide +kernel, by decide +kernel⟩, [(.t 1, _), (.t 6, _), (.t 10, _), (.t 89, _), (.h 1, _), (.h 6, _)], ⟨rfl, rfl, rfl, rfl, rfl, rfl, rfl, rfl, rfl, rfl, rfl, rfl, trivial⟩, ?_⟩
   refine A7 rfl (fun hc => absurd hc (by decide)) (fun hc => ?_)
   refine B7 <| A0 <| A3 rfl rfl <| D7 rfl rfl (C5 (by omega)) <| A5 rfl rfl rfl <| xN [1,6,10] [1,6] rfl ?_
   refine ⟨i + 1, ⟨by omega, fun j hj => by rcases Nat.lt_succ_iff_lt_or_eq.1 hj with h | h; (· exact hne j h); (· subst h; exact b1b (by assumption))⟩, (by omega), ⟨rfl, rfl, rfl, rfl, rfl, trivial⟩⟩
  refine G4 <| A4 <| A0 <| A3 rfl rfl <| I4 rfl rfl <| C8 (es := List.map stA []) rfl rfl (dT rfl) rfl rfl (fun _ => B3 (A6 fun _ => rfl)) (fun _ => rfl) ?_
  intro g94
  refine A3 rfl rfl <| N4 rfl rfl rfl rfl (by decide) rfl (by (simp; done)) (by omega) rfl rfl rfl (dT rfl) (fun _ => ⟨rfl, rfl, rfl⟩) (by simp only [H6]; (simp only [List.length_nil, List.length_cons, List.length_append, Nat.zero_add, List.length_map]; omega)) (fun _ => rfl) ?_
  intro g96
  refine L2 rfl rfl rfl rfl rfl <| a1o (mk := 2) (fs := [_, _, _, _]) rfl rfl rfl (dT rfl) rfl rfl (a0d rfl (a0d rfl (a0d rfl (b7b a6w)))) (fun _ _ => E7 (B3 rfl) (I6 rfl)) ?_
  intro z98 g98
  simp only [Y0, List.cons_append, List.nil_append]
  rw [c2j]
  refine E4 rfl rfl rfl rfl (by (simp; done)) (by simp) (by decide) rfl rfl rfl rfl (dT rfl) (fun _ => ⟨rfl, rfl⟩) (by simp only [H6]; (simp; omega)) (fun _ => rfl) ?_
  intro g99
  refine A5 rfl rfl rfl ?_
  (refine B6 rfl rfl (by (simp; done)) rfl (fun _ => (B3 (by exact A6 fun _ => rfl))) (fun _ => rfl) ?_; intro g5)
  refine I7 ⟨fun _ => ⟨by (simp only [Z7, List.nil_append, List.append_nil, List.map_cons, List.map_nil, List.cons_append]; decide +kernel), by decide +kernel⟩, [(.t 4, _), (.t 5, _), (.h 5, _)], ⟨rfl, rfl, rfl, rfl, rfl, rfl, trivial⟩, ?_⟩
  refine C2 <| F7 (H2 rfl rfl (H4 rfl rfl (by simp) (by exact A6 fun _ => rfl) (G9 E5))) ?_
  obtain ⟨h1, h2⟩ := a3b (l := (shareP q (shareP p ss).1).1) (s := (Q4 (.bin w p q) ((shareP p ss).2 : Int) ((shareP q (shareP p ss).1).2 : Int))) fun j hj => hne j (by omega)
  show _ = AV.tup [iV (stIx (Q4 (.bin w p q) ((shareP p ss).2 : Int) ((shareP q (shareP p ss).1).2 : Int)) (shareP q (shareP p ss).1).1 : Nat), .own 4 ((stAdd (Q4 (.bin w p q) ((shareP p ss).2 : Int) ((shareP q (shareP p ss).1).2 : Int)) (shareP q (shareP p ss).1).1).map stA)]
  rw [h1, h2]
  simp only [List.length_map, List.drop_zero, List.take_length]
  rfl

theorem keep_s_SharePlanS : G8 Try.f37 = [0, 2, 4, 13, 3, 6, 9] := by kernel_rfl
set_option maxHeartbeats 20000000 in
theorem b7x (s : List UInt8) (hs : s.length ≤ 1048576) : CW cxT 37 [tV s] = some (.own 4 ((sharesT s).map stA), []) := by
 refine H0 rfl Try.func37 rfl ⟨by kernel_rfl, rfl, dT rfl, dT rfl, by decide⟩ keep_s_SharePlanS <| A4 <| A0 ?_
 (refine D3 rfl rfl (fun _ => rfl) ?_; intro g2)
 refine xN [0] [] rfl <| A4 <| A0 <| A3 rfl rfl ?_
 apply xC rfl
 ·apply A9
  ·exact B2 rfl
  exact C6
 ·exact c1c s hs
 refine ⟨⟨rfl, rfl, rfl, dT rfl, rfl⟩, .inl rfl, B9, a0v rfl, fun _ => rfl, fun g9 => ?_⟩
 refine A3 rfl rfl <| E8 rfl rfl rfl <| E8 rfl rfl rfl <| M8 rfl (fun _ => F4 rfl) (fun _ => rfl) ?_
 intro g3
 refine G5 rfl rfl rfl rfl ⟨by decide, rfl, dT rfl, dT rfl, rfl⟩ rfl (by exact F4 rfl) <| A5 rfl rfl rfl <| xN [3,4] [3] rfl <| A4 <| A4 <| A0 <| A3 rfl rfl <| H7 rfl <| xN [3,13] [3] rfl ?_
 refine A7 rfl ?_ ?_ <;> intro hc <;> try simp only [SL] at hc
 ·refine A4 <| A0 ?_
  (refine D3 rfl rfl (fun _ => rfl) ?_; intro g2)
  refine xN [2] [2] rfl <| C2 <| O2 rfl rfl (by simp) (by rfl) trivial ?_
  rw [b6w hc]
  rfl
 refine B7 <| A4 <| A0 <| L2 rfl rfl rfl rfl rfl <| C8 (es := List.map stA []) rfl rfl (dT rfl) rfl rfl (fun _ => B3 (A6 fun _ => rfl)) (fun _ => rfl) ?_
 intro g16
 obtain ⟨t, ht1, ht2, ht3⟩ := c1h hc
 obtain ⟨hst, hwf, hgd, hsl, hsz⟩ := b3t ht1
 have hsl2 := V9 t []
 rw [ht2, c3s]
 apply xC rfl
 ·apply A9
  ·exact B2 rfl
  apply A9
  ·exact a5z rfl rfl (by (simp; done)) (A6 fun _ => rfl)
  exact C6
 ·exact c9j t [] ⟨by simp only [List.length_nil]; omega, fun _ h => by cases h⟩ hgd
 refine ⟨⟨rfl, rfl, rfl, dT rfl, rfl⟩, .inl rfl, B9, K3 (P0 rfl (P8 fun _ => Q7)), fun _ => E7 (by rfl) (E7 (B3 (A6 fun _ => rfl)) (by rfl)), fun g17 => ?_⟩
 simp only [List.length_map]
 refine A3 rfl rfl <| E8 rfl rfl rfl <| E8 rfl rfl rfl <| A5 rfl rfl rfl ?_
 (refine B6 rfl rfl (by (simp; done)) rfl (fun _ => (B3 (by exact A6 fun _ => rfl))) (fun _ => rfl) ?_; intro g6)
 refine xN [6] [6] rfl <| A4 <| A0 <| A3 rfl rfl ?_
 (refine B6 rfl rfl (by (simp; done)) rfl (fun _ => (B3 (by exact A6 fun _ => rfl))) (fun _ => rfl) ?_; intro g2)
 refine xN [2] [2] rfl <| C2 <| O2 rfl rfl (by simp) (by exact A6 fun _ => rfl) trivial ?_
 rw [b6n ht1]

theorem keep_s_pick : G8 Try.f39 = [0, 1, 4, 24, 5, 36, 6] := by kernel_rfl
set_option maxHeartbeats 20000000 in
theorem Q5 (bs : List Int) (p : Int) (hbs : a1i bs) (hl : bs.length ≤ 1048576) (hp : 0 ≤ p ∧ p ≤ 1000000000) (n : Int) (hn : n ≤ 1000000000) : ∃ res outs, (fun res outs => ∃ k, res = iV k ∧ outs = [[rdr bs (p + 1)]] ∧ (1 ≤ n → 0 ≤ k ∧ k < n) ∧ (n < 1 → k = 0)) res outs ∧ CW cxT 39 [.ownp [rdr bs p] 0 0, iV n] = some (res, outs) := by
 refine N7 rfl Try.func39 rfl ⟨by kernel_rfl, rfl, dT rfl, dT rfl, by decide⟩ keep_s_pick <| A4 <| A0 <| A5 rfl rfl rfl <| xN [0,1] [0] rfl <| A4 <| A0 <| A3 rfl rfl <| A3 rfl rfl <| O3 rfl rfl rfl <| B0 rfl rfl (dT rfl) rfl rfl <| B4 rfl rfl rfl rfl rfl rfl <| D7 rfl rfl (C5 (by omega)) <| O3 rfl rfl rfl <| B0 rfl rfl (dT rfl) rfl rfl <| a3t rfl rfl rfl rfl rfl ⟨by decide, rfl, dT rfl, dT rfl, rfl⟩ (by exact c6h rfl) <| xN [0,1] [0] rfl <| A4 <| A4 <| A0 <| A3 rfl rfl <| G7 rfl rfl <| A3 rfl rfl ?_
 refine B1 rfl rfl ?_ ?_ <;> intro hg0 <;> have hg := hg0 <;> try simp only [SG] at hg
 ·refine A3 rfl rfl <| gT rfl rfl <| O3 rfl rfl rfl <| gT rfl rfl <| B0 rfl rfl (dT rfl) rfl rfl <| gT rfl rfl <| B4 rfl rfl rfl rfl rfl rfl <| gT rfl rfl <| D9 rfl rfl <| gT rfl rfl <| H8 rfl rfl <| B5 rfl (by assumption) rfl rfl <| xN [0,1,24] [0] rfl ?_
  refine A7 rfl ?_ ?_ <;> intro hc <;> try simp only [SL] at hc
  ·refine A4 <| A0 <| A5 rfl rfl rfl <| xN [4] [0] rfl <| C2 ?_
   refine ⟨_, _, ?_, K5 rfl rfl (J5 rfl rfl)⟩
   refine ⟨_, rfl, rfl, fun h => ?_, fun h => ?_⟩
   ·omega
   omega
  refine B7 <| A4 <| A0 <| A3 rfl rfl <| O3 rfl rfl rfl <| B0 rfl rfl (dT rfl) rfl rfl <| B4 rfl rfl rfl rfl rfl rfl <| I1 rfl rfl (C5 (by omega)) <| A5 rfl rfl rfl <| xN [0,1,5] [0] rfl <| A4 <| A4 <| A0 <| A3 rfl rfl <| A3 rfl rfl <| O3 rfl rfl rfl <| B0 rfl rfl (dT rfl) rfl rfl <| B4 rfl rfl rfl rfl rfl rfl <| D9 rfl rfl <| G7 rfl rfl <| xN [0,1,5,36] [0] rfl ?_
  refine A7 rfl ?_ ?_ <;> intro hc <;> try simp only [SL] at hc
  ·refine A4 <| A0 <| A3 rfl rfl <| O3 rfl rfl rfl <| B0 rfl rfl (dT rfl) rfl rfl <| B4 rfl rfl rfl rfl rfl rfl <| A3 rfl rfl <| N2 rfl rfl rfl (fun _ => rfl) (by omega) <| D6 rfl rfl rfl <| a5f rfl rfl rfl (C5 (by have := hbs.getD (p + 1 - 1).toNat; omega)) <| A3 rfl rfl ?_
   have hk := hbs.getD (p + 1 - 1).toNat
   refine b5x rfl rfl (by omega) <| A5 rfl rfl rfl <| xN [4] [0] rfl <| C2 ?_
   refine ⟨_, _, ?_, K5 rfl rfl (J5 rfl rfl)⟩
   refine ⟨_, rfl, rfl, fun h => ?_, fun h => ?_⟩
   ·exact a7l (by omega) (by omega)
   omega
  refine B7 <| A4 <| A0 <| A3 rfl rfl <| O3 rfl rfl rfl <| B0 rfl rfl (dT rfl) rfl rfl <| B4 rfl rfl rfl rfl rfl rfl <| A3 rfl rfl <| A3 rfl rfl <| O3 rfl rfl rfl <| B0 rfl rfl (dT rfl) rfl rfl <| B4 rfl rfl rfl rfl rfl rfl <| D9 rfl rfl ?_
  have hlen : 0 < (bs.length : Int) := by omega
  refine b5x rfl rfl (by omega) ?_
  have hm1 := a7l (a := p + 1 - 1) (by omega) hlen
  refine N2 rfl rfl rfl (fun _ => rfl) (by omega) <| D6 rfl rfl rfl <| a5f rfl rfl rfl (C5 (by have := hbs.getD ((p + 1 - 1).tmod bs.length).toNat; omega)) ?_
  have hk := hbs.getD ((p + 1 - 1).tmod bs.length).toNat
  refine a6i rfl rfl (C5 (by omega)) <| A3 rfl rfl <| O3 rfl rfl rfl <| B0 rfl rfl (dT rfl) rfl rfl <| B4 rfl rfl rfl rfl rfl rfl <| A3 rfl rfl <| a6i rfl rfl (C5 (by omega)) <| D7 rfl rfl (C5 (by omega)) <| A3 rfl rfl <| O3 rfl rfl rfl <| B0 rfl rfl (dT rfl) rfl rfl <| B4 rfl rfl rfl rfl rfl rfl <| D9 rfl rfl <| b5x rfl rfl (by omega) ?_
  have hm2 := a7l (a := (p + 1 - 1) * 7 + 3) (by omega) hlen
  refine N2 rfl rfl rfl (fun _ => rfl) (by omega) <| D6 rfl rfl rfl <| a5f rfl rfl rfl (C5 (by have := hbs.getD (((p + 1 - 1) * 7 + 3).tmod bs.length).toNat; omega)) ?_
  have hk2 := hbs.getD (((p + 1 - 1) * 7 + 3).tmod bs.length).toNat
  refine a6i rfl rfl (C5 (by omega)) <| D7 rfl rfl (C5 (by omega)) <| A3 rfl rfl <| a6i rfl rfl (C5 (by omega)) <| D7 rfl rfl (C5 (by omega)) <| A3 rfl rfl <| A3 rfl rfl <| O3 rfl rfl rfl <| B0 rfl rfl (dT rfl) rfl rfl <| B4 rfl rfl rfl rfl rfl rfl <| D9 rfl rfl ?_
  have hd := c4a (a := p + 1 - 1) (b := bs.length) (by omega) (by omega)
  refine c6j rfl rfl ⟨by omega, C5 (by omega)⟩ <| a6i rfl rfl (C5 (by omega)) <| D7 rfl rfl (C5 (by omega)) <| A5 rfl rfl rfl ?_
  refine I7 ⟨fun _ => ⟨by decide +kernel, by decide +kernel⟩, [(.t 1, _), (.t 6, _), (.h 0, _)], ⟨rfl, rfl, rfl, rfl, rfl, rfl, trivial⟩, ?_⟩
  refine A4 <| A0 <| A3 rfl rfl <| A3 rfl rfl ?_
  have hd2 := c4a (a := (bs.getD ((p + 1 - 1).tmod bs.length).toNat default * 131 + bs.getD (((p + 1 - 1) * 7 + 3).tmod bs.length).toNat default * 1117 + (p + 1 - 1) * 29 + (p + 1 - 1).tdiv bs.length * 53)) (b := 64) (by omega) (by decide)
  refine c6j rfl rfl ⟨by omega, C5 (by omega)⟩ ?_
  have hx := d2a (x := (bs.getD ((p + 1 - 1).tmod bs.length).toNat default * 131 + bs.getD (((p + 1 - 1) * 7 + 3).tmod bs.length).toNat default * 1117 + (p + 1 - 1) * 29 + (p + 1 - 1).tdiv bs.length * 53)) (by omega) (y := (bs.getD ((p + 1 - 1).tmod bs.length).toNat default * 131 + bs.getD (((p + 1 - 1) * 7 + 3).tmod bs.length).toNat default * 1117 + (p + 1 - 1) * 29 + (p + 1 - 1).tdiv bs.length * 53).tdiv 64) (by omega)
  refine d2x rfl rfl <| A5 rfl rfl rfl <| xN [1,6] [0] rfl <| A4 <| A0 <| A3 rfl rfl <| A3 rfl rfl <| b5x rfl rfl (by omega) <| A5 rfl rfl rfl <| xN [4] [0] rfl <| C2 ?_
  refine ⟨_, _, ?_, K5 rfl rfl (J5 rfl rfl)⟩
  refine ⟨_, rfl, rfl, fun h => ?_, fun h => ?_⟩
  ·exact a7l (by omega) (by omega)
  omega
 iterate 5 refine gF rfl rfl ?_
 refine B8 rfl (by assumption) rfl rfl <| xN [0,1,24] [0] rfl ?_
 refine A7 rfl (fun hc => ?_) (fun hc => absurd hc (by decide))
 refine A4 <| A0 <| A5 rfl rfl rfl <| xN [4] [0] rfl <| C2 ?_
 refine ⟨_, _, ?_, K5 rfl rfl (J5 rfl rfl)⟩
 refine ⟨_, rfl, rfl, fun h => ?_, fun h => ?_⟩
 ·omega
 omega

theorem keep_s_one : G8 Try.f40 = [0, 1, 4] := by kernel_rfl
set_option maxHeartbeats 20000000 in
theorem a8e (bs : List Int) (p : Int) (hbs : a1i bs) (hl : bs.length ≤ 1048576) (hp : 0 ≤ p ∧ p ≤ 1000000000) (xs : List Int) (hx : 1 ≤ xs.length ∧ xs.length ≤ 1000) : ∃ res outs, (fun res outs => ∃ k, res = iV k ∧ outs = [[rdr bs (p + 1)]] ∧ k ∈ xs) res outs ∧ CW cxT 40 [.ownp [rdr bs p] 0 0, L xs] = some (res, outs) := by
 refine N7 rfl Try.func40 rfl ⟨by kernel_rfl, rfl, dT rfl, dT rfl, by decide⟩ keep_s_one <| A4 <| A0 <| A5 rfl rfl rfl <| xN [0,1] [0] rfl <| A4 <| A0 <| A3 rfl rfl <| A3 rfl rfl <| A3 rfl rfl <| D9 rfl rfl ?_
 obtain ⟨_, _, ⟨k, rfl, rfl, hk1, hk2⟩, hC⟩ := Q5 bs p hbs hl hp xs.length (by omega)
 have hk1 := hk1 (by omega)
 apply xC rfl
 ·apply A9
  ·exact I3 rfl (by decide) rfl
  apply A9
  ·exact B2 rfl
  exact C6
 ·exact hC
 refine ⟨⟨rfl, rfl, rfl, dT rfl, rfl⟩, .inl rfl, F3 rfl rfl rfl B9, C1 rfl, fun _ => rfl, fun g9 => ?_⟩
 refine N2 rfl rfl rfl (fun _ => rfl) (by omega) <| D6 rfl rfl rfl <| A5 rfl rfl rfl <| xN [4] [0] rfl <| C2 ?_
 refine ⟨_, _, ?_, K5 rfl rfl (J5 rfl rfl)⟩
 refine ⟨_, rfl, rfl, a7p (by omega)⟩

theorem keep_s_newReader : G8 Try.f36 = [0, 2, 5] := by kernel_rfl
set_option maxHeartbeats 20000000 in
theorem b8o (bs : List Int) (hl : bs.length ≤ 1048576) : ∃ res outs, (fun res outs => res = .ownp [rdr (bs.take 2000) 0] 0 0 ∧ outs = []) res outs ∧ CW cxT 36 [.list (bs.map uV)] = some (res, outs) := by
 refine N7 rfl Try.func36 rfl ⟨by kernel_rfl, rfl, dT rfl, dT rfl, by decide⟩ keep_s_newReader <| A4 <| A0 <| A5 rfl rfl rfl <| xN [0] [] rfl <| A4 <| A4 <| A0 <| A3 rfl rfl <| D9 rfl rfl <| N0 rfl rfl <| xN [0,5] [] rfl ?_
 refine A7 rfl ?_ ?_ <;> intro hc <;> try simp only [SL] at hc
 ·refine A0 <| A3 rfl rfl <| X5 rfl rfl rfl (Mv.sized_map fun _ => rfl) (J4 rfl) K8 (by (simp; omega)) <| A5 rfl rfl rfl <| xN [0] [] rfl <| A4 <| A0 <| A3 rfl rfl <| Q8 (fs := [_, _]) rfl rfl rfl rfl rfl <| a9p rfl rfl rfl (fun _ => F4 rfl) (fun _ => rfl) ?_
  intro g10
  (refine a3w rfl rfl rfl rfl (fun _ => F4 rfl) (fun _ => rfl) ?_; intro g2)
  refine xN [2] [2] rfl <| C2 ?_
  refine ⟨_, _, ?_, c4e rfl rfl rfl E5⟩
  have e : rdr (bs.take 2000) 0 = .agg [.list ((bs.map uV).take 2000), iV 0] := by unfold rdr; rw [List.map_take]
  rw [e]
  exact ⟨rfl, rfl⟩
 refine B7 <| A4 <| A0 <| A3 rfl rfl <| Q8 (fs := [_, _]) rfl rfl rfl rfl rfl <| a9p rfl rfl rfl (fun _ => F4 rfl) (fun _ => rfl) ?_
 intro g10
 (refine a3w rfl rfl rfl rfl (fun _ => F4 rfl) (fun _ => rfl) ?_; intro g2)
 refine xN [2] [2] rfl <| C2 ?_
 refine ⟨_, _, ?_, c4e rfl rfl rfl E5⟩
 have e : bs.take 2000 = bs := List.take_of_length_le (by omega)
 rw [e]
 exact ⟨rfl, rfl⟩

theorem keep_s_ofT : G8 Try.f41 = [0, 1, 4] := by kernel_rfl
set_option maxHeartbeats 20000000 in
theorem a8g (bs : List Int) (p : Int) (hbs : a1i bs) (hl : bs.length ≤ 1048576) (hp : 0 ≤ p ∧ p ≤ 1000000000) (ss : List W8) (hs : 1 ≤ ss.length ∧ ss.length ≤ 1000) : ∃ res outs, (fun res outs => ∃ k, res = tV k ∧ outs = [[rdr bs (p + 1)]] ∧ k ∈ ss) res outs ∧ CW cxT 41 [.ownp [rdr bs p] 0 0, .list (ss.map tV)] = some (res, outs) := by
 refine N7 rfl Try.func41 rfl ⟨by kernel_rfl, rfl, dT rfl, dT rfl, by decide⟩ keep_s_ofT <| A4 <| A0 <| A5 rfl rfl rfl <| xN [0,1] [0] rfl <| A4 <| A0 <| A3 rfl rfl <| A3 rfl rfl <| A3 rfl rfl <| D9 rfl rfl ?_
 obtain ⟨_, _, ⟨k, rfl, rfl, hk, -⟩, hC⟩ := Q5 bs (p) hbs hl (by omega) (ss.length) (by omega)
 have hk := hk (by omega)
 apply xC rfl
 ·apply A9
  ·exact I3 rfl (by decide) rfl
  apply A9
  ·exact B2 rfl
  exact C6
 ·exact hC
 refine ⟨⟨rfl, rfl, rfl, dT rfl, rfl⟩, .inl rfl, F3 rfl rfl rfl B9, C1 rfl, fun _ => rfl, fun g9 => ?_⟩
 refine N2 rfl rfl rfl (fun _ => rfl) (by omega) <| D6 rfl rfl rfl <| A5 rfl rfl rfl <| xN [4] [0] rfl <| C2 ?_
 refine ⟨_, _, ?_, K5 rfl rfl (J5 rfl rfl)⟩
 refine ⟨_, rfl, rfl, L8 (by omega)⟩

theorem keep_s_planText : G8 Try.f64 = [0, 1, 4, 15, 18, 6, 5, 29, 42, 7, 50, 8] := by kernel_rfl
set_option maxHeartbeats 20000000 in
theorem c2k (bs : List Int) (p : Int) (d : Nat) (hbs : a1i bs) (hl : bs.length ≤ 1048576) (hp : 0 ≤ p ∧ p + gN d ≤ 50000000)  (hd : d ≤ 5) : ∃ res outs, (fun res outs => ∃ (x : W8) (q : Int), res = tV x ∧ outs = [[rdr bs q]] ∧ p ≤ q ∧ q ≤ p + gN d ∧ x.length ≤ lN d) res outs ∧ CW cxT 64 [.ownp [rdr bs p] 0 0, iV d] = some (res, outs) := by
 obtain ⟨kk, hkk⟩ : ∃ kk : Nat, d < kk := ⟨_, Nat.lt_succ_self _⟩
 revert bs p d
 induction kk with
 | zero => intro bs p d hbs hl hp hd hkk; exact absurd hkk (Nat.not_lt_zero _)
 | succ kk ih =>
  intro bs p d hbs hl hp hd hkk
  have hgd := b6g d
  have hld := c0x d
  refine N7 rfl Try.func64 rfl ⟨by kernel_rfl, rfl, dT rfl, dT rfl, by decide⟩ keep_s_planText <| A4 <| A0 <| A5 rfl rfl rfl <| xN [0,1] [0] rfl <| A4 <| A4 <| A0 <| A3 rfl rfl <| H8 rfl rfl <| A3 rfl rfl ?_
  refine B1 rfl rfl ?_ ?_ <;> intro hg0 <;> have hg := hg0 <;> try simp only [SG] at hg
  ·refine A3 rfl rfl <| gT rfl rfl ?_
   obtain ⟨_, _, ⟨k0, rfl, rfl, hk0, -⟩, hC0⟩ := Q5 bs (p) hbs hl (by omega) (5) (by omega)
   have hk0 := hk0 (by omega)
   apply xC rfl
   ·apply A9
    ·exact I3 rfl (by decide) rfl
    apply A9
    ·exact B2 rfl
    exact C6
   ·exact hC0
   refine ⟨⟨rfl, rfl, rfl, dT rfl, rfl⟩, .inl rfl, F3 rfl rfl rfl B9, C1 rfl, fun _ => rfl, fun g13 => ?_⟩
   refine gT rfl rfl <| H8 rfl rfl <| B5 rfl (by assumption) rfl rfl <| xN [0,1,15] [0] rfl ?_
   refine A7 rfl ?_ ?_ <;> intro hc <;> try simp only [SL] at hc
   ·refine A4 <| A4 <| A0 <| A3 rfl rfl ?_
    obtain ⟨_, _, ⟨k1, rfl, rfl, hk1, -⟩, hC1⟩ := Q5 bs (p + 1) hbs hl (by omega) (2) (by omega)
    have hk1 := hk1 (by omega)
    apply xC rfl
    ·apply A9
     ·exact I3 rfl (by decide) rfl
     apply A9
     ·exact B2 rfl
     exact C6
    ·exact hC1
    refine ⟨⟨rfl, rfl, rfl, dT rfl, rfl⟩, .inl rfl, F3 rfl rfl rfl B9, C1 rfl, fun _ => rfl, fun g17 => ?_⟩
    refine H8 rfl rfl <| xN [0,18] [0] rfl ?_
    refine A7 rfl ?_ ?_ <;> intro hc <;> try simp only [SL] at hc
    ·refine A4 <| A0 <| A3 rfl rfl <| C8 (es := List.map tV [[97], [98], [97], [99], [100]]) rfl rfl (dT rfl) rfl rfl (fun _ => B3 (A6 fun _ => rfl)) (fun _ => rfl) ?_
     intro g20
     obtain ⟨_, _, ⟨w1, rfl, rfl, hw1⟩, hC2⟩ := a8g bs (p + 1 + 1) hbs hl (by omega) [[97], [98], [97], [99], [100]] (by decide)
     have hw1b : w1.length ≤ 1 := by have hall : ∀ x ∈ ([[97], [98], [97], [99], [100]] : List W8), x.length ≤ 1 := (by decide); exact hall _ hw1
     apply xC rfl
     ·apply A9
      ·exact I3 rfl (by decide) rfl
      apply A9
      ·exact I9 rfl rfl (by (simp; done)) (fun _ => rfl)
      exact C6
     ·exact hC2
     refine ⟨⟨rfl, rfl, rfl, dT rfl, rfl⟩, .inl rfl, F3 rfl rfl rfl B9, C1 rfl, fun _ => rfl, fun g21 => ?_⟩
     refine A5 rfl rfl rfl <| xN [4] [0] rfl <| C2 ?_
     refine ⟨_, _, ?_, K5 rfl rfl (J5 rfl rfl)⟩
     exact ⟨_, _, rfl, rfl, by omega, by omega, by omega⟩
    refine B7 <| A4 <| A0 <| C8 (es := List.map iV []) rfl rfl (dT rfl) rfl rfl (fun _ => B3 (A6 fun _ => rfl)) (fun _ => rfl) ?_
    intro g22
    (refine B6 rfl rfl (by (simp; done)) rfl (fun _ => (B3 (by exact A6 fun _ => rfl))) (fun _ => rfl) ?_; intro g5)
    refine xN [0,5] [0,5] rfl <| A4 <| A4 <| A0 <| A3 rfl rfl <| C8 (es := List.map iV [2, 3, 1, 0, 4]) rfl rfl (dT rfl) rfl rfl (fun _ => B3 (A6 fun _ => rfl)) (fun _ => rfl) ?_
    intro g24
    obtain ⟨_, _, ⟨n1, rfl, rfl, hn1⟩, hC3⟩ := a8e bs (p + 1 + 1) hbs hl (by omega) [2, 3, 1, 0, 4] (by decide)
    have hn1b : 0 ≤ n1 ∧ n1 ≤ 4 := by simp at hn1; omega
    apply xC rfl
    ·apply A9
     ·exact I3 rfl (by decide) rfl
     apply A9
     ·exact I9 rfl rfl (by (simp; done)) (fun _ => rfl)
     exact C6
    ·exact hC3
    refine ⟨⟨rfl, rfl, rfl, dT rfl, rfl⟩, .inl rfl, F3 rfl rfl rfl B9, C1 rfl, fun _ => rfl, fun g25 => ?_⟩
    refine A5 rfl rfl rfl <| xN [0,5,6] [0,5] rfl <| C9 <| G3 (β := List Int × Nat × Int) [(.t 0, _), (.t 6, _)] (fun (z : List Int × Nat × Int) => match z with | (xs, g, q) => [(.h 0, .obj 1 4 0 [rdr bs q]), (.t 5, .sl 5 g none 0 xs.length), (.h 5, .obj g 0 1 (xs.map iV))]) (fun (z : List Int × Nat × Int) => match z with | (xs, g, q) => (xs.length : Int) ≤ n1 ∧ p ≤ q ∧ q ≤ p + 4 + xs.length ∧ ∀ x ∈ xs, -20 ≤ x ∧ x ≤ 20) (fun (z : List Int × Nat × Int) => match z with | (xs, g, q) => 5 - xs.length) ([], _, _) ⟨rfl, rfl, rfl, rfl, rfl, trivial⟩ ⟨by simp; omega, by omega, by omega, by simp⟩ ?_
    intro z hb
    obtain ⟨xs, g, q⟩ := z
    try dsimp only at hb
    obtain ⟨hx1, hq1, hq2, hxb⟩ := hb
    refine A4 <| A4 <| A0 <| A3 rfl rfl <| I4 rfl rfl <| A3 rfl rfl <| G7 rfl rfl <| xN [0,5,6,29] [0,5] rfl ?_
    refine A7 rfl ?_ ?_ <;> intro hc <;> try simp only [SL] at hc
    ·refine B7 <| C9 <| A0 <| A3 rfl rfl <| A3 rfl rfl ?_
     obtain ⟨_, _, ⟨k2, rfl, rfl, hk2, -⟩, hC4⟩ := Q5 bs (q) hbs hl (by omega) (41) (by omega)
     have hk2 := hk2 (by omega)
     apply xC rfl
     ·apply A9
      ·exact I3 rfl (by decide) rfl
      apply A9
      ·exact B2 rfl
      exact C6
     ·exact hC4
     refine ⟨⟨rfl, rfl, rfl, dT rfl, rfl⟩, .inl rfl, F3 rfl rfl rfl B9, C1 rfl, fun _ => rfl, fun g32 => ?_⟩
     refine I1 rfl rfl (C5 (by omega)) <| C8 (es := List.map iV [k2 - 20]) rfl rfl (dT rfl) rfl rfl (fun _ => B3 (A6 fun _ => rfl)) (fun _ => rfl) ?_
     intro g34
     refine E4 rfl rfl rfl rfl (by (simp; done)) (by simp) (by decide) rfl rfl rfl rfl (dT rfl) (fun _ => ⟨rfl, rfl⟩) (by simp only [H6]; (simp only [List.length_nil, List.length_cons, List.length_append, Nat.zero_add, List.length_map]; omega)) (fun _ => rfl) ?_
     intro g35
     (refine B6 rfl rfl (by (simp; done)) rfl (fun _ => (B3 (by exact A6 fun _ => rfl))) (fun _ => rfl) ?_; intro g5)
     refine xN [0,5,6] [0,5] rfl ?_
     refine ⟨(xs ++ [k2 - 20], _, q + 1), ?_, (by simp only [List.length_append, List.length_singleton]; omega), ⟨rfl, rfl, rfl, rfl, rfl, trivial⟩⟩
     refine ⟨?_, ?_, ?_, fun x hx => ?_⟩
     ·simp only [List.length_append, List.length_singleton]; omega
     ·omega
     ·simp only [List.length_append, List.length_singleton]; omega
     rcases List.mem_append.1 hx with hx | hx
     ·exact hxb x hx
     rw [List.mem_singleton.1 hx]; omega
    refine G4 <| A4 <| A0 <| A3 rfl rfl ?_
    have hll := a8i (ns := xs) (fun n hn => by have := hxb n hn; omega)
    apply xC rfl
    ·apply A9
     ·exact H3 rfl rfl rfl (by (simp; done)) (fun _ => rfl)
     exact C6
    ·exact b3f xs (by omega) (fun n hn => by have := hxb n hn; omega)
    refine ⟨⟨rfl, rfl, rfl, dT rfl, rfl⟩, .inr ⟨rfl, rfl⟩, B9, C1 rfl, fun _ => rfl, fun g37 => ?_⟩
    iterate 2 refine Q0 rfl rfl (by simp only [H6, List.length_append, List.length_cons, List.length_nil]; omega) ?_
    refine A5 rfl rfl rfl <| xN [4] [0] rfl <| C2 ?_
    refine ⟨_, _, ?_, K5 rfl rfl (J5 rfl rfl)⟩
    exact ⟨_, _, rfl, rfl, by omega, by omega, by (simp only [List.length_append, List.length_cons, List.length_nil]; omega)⟩
   obtain ⟨d1, rfl⟩ : ∃ d1, d = d1 + 1 := ⟨d - 1, by omega⟩
   have hge : gN (d1 + 1) = 2 * gN d1 + 20 := rfl
   have hle : lN (d1 + 1) = 2 * lN d1 + 60 := rfl
   have hgp := b6g d1
   have hlp := c0x d1
   have hlm := c4k (d := d1 + 1) hd
   refine B7 <| A4 <| A4 <| A0 <| A3 rfl rfl ?_
   obtain ⟨_, _, ⟨k3, rfl, rfl, hk3, -⟩, hC5⟩ := Q5 bs (p + 1) hbs hl (by omega) (4) (by omega)
   have hk3 := hk3 (by omega)
   apply xC rfl
   ·apply A9
    ·exact I3 rfl (by decide) rfl
    apply A9
    ·exact B2 rfl
    exact C6
   ·exact hC5
   refine ⟨⟨rfl, rfl, rfl, dT rfl, rfl⟩, .inl rfl, F3 rfl rfl rfl B9, C1 rfl, fun _ => rfl, fun g41 => ?_⟩
   refine H8 rfl rfl <| xN [0,1,42] [0] rfl ?_
   refine A7 rfl ?_ ?_ <;> intro hc <;> try simp only [SL] at hc
   ·refine A4 <| A0 <| A3 rfl rfl <| A3 rfl rfl <| I1 rfl rfl (C5 (by omega)) ?_
    obtain ⟨_, _, ⟨x1, q1, rfl, rfl, hx11, hx12, hx13⟩, hC6⟩ := ih bs (p + 1 + 1) d1 hbs hl (by omega) (by omega) (by omega)
    rw [show ((d1 + 1 : Nat) : Int) - 1 = (d1 : Int) by omega]
    apply xC rfl
    ·apply A9
     ·exact I3 rfl (by decide) rfl
     apply A9
     ·exact B2 rfl
     exact C6
    ·exact hC6
    refine ⟨⟨rfl, rfl, rfl, dT rfl, rfl⟩, .inl rfl, F3 rfl rfl rfl B9, C1 rfl, fun _ => rfl, fun g46 => ?_⟩
    refine A5 rfl rfl rfl <| xN [0,1,7] [0] rfl <| A4 <| A0 <| A3 rfl rfl <| A5 rfl rfl rfl <| xN [0,1,7,8] [0] rfl <| A4 <| A4 <| A0 <| A3 rfl rfl ?_
    obtain ⟨_, _, ⟨k4, rfl, rfl, hk4, -⟩, hC7⟩ := Q5 bs (q1) hbs hl (by omega) (2) (by omega)
    have hk4 := hk4 (by omega)
    apply xC rfl
    ·apply A9
     ·exact I3 rfl (by decide) rfl
     apply A9
     ·exact B2 rfl
     exact C6
    ·exact hC7
    refine ⟨⟨rfl, rfl, rfl, dT rfl, rfl⟩, .inl rfl, F3 rfl rfl rfl B9, C1 rfl, fun _ => rfl, fun g49 => ?_⟩
    refine H8 rfl rfl <| xN [0,1,7,8,50] [0] rfl ?_
    refine A7 rfl ?_ ?_ <;> intro hc <;> try simp only [SL] at hc
    ·refine A0 <| A3 rfl rfl <| A3 rfl rfl <| I1 rfl rfl (C5 (by omega)) ?_
     obtain ⟨_, _, ⟨x2, q2, rfl, rfl, hx21, hx22, hx23⟩, hC8⟩ := ih bs (q1 + 1) d1 hbs hl (by omega) (by omega) (by omega)
     rw [show ((d1 + 1 : Nat) : Int) - 1 = (d1 : Int) by omega]
     apply xC rfl
     ·apply A9
      ·exact I3 rfl (by decide) rfl
      apply A9
      ·exact B2 rfl
      exact C6
     ·exact hC8
     refine ⟨⟨rfl, rfl, rfl, dT rfl, rfl⟩, .inl rfl, F3 rfl rfl rfl B9, C1 rfl, fun _ => rfl, fun g54 => ?_⟩
     refine A5 rfl rfl rfl <| xN [0,7,8] [0] rfl <| A4 <| A0 <| A3 rfl rfl <| C8 (es := List.map tV [[97, 100, 100], [106, 111, 105, 110], [106, 111, 105, 110]]) rfl rfl (dT rfl) rfl rfl (fun _ => B3 (A6 fun _ => rfl)) (fun _ => rfl) ?_
     intro g56
     obtain ⟨_, _, ⟨w2, rfl, rfl, hw2⟩, hC9⟩ := a8g bs (q2) hbs hl (by omega) [[97, 100, 100], [106, 111, 105, 110], [106, 111, 105, 110]] (by decide)
     have hw2b : w2.length ≤ 4 := by have hall : ∀ x ∈ ([[97, 100, 100], [106, 111, 105, 110], [106, 111, 105, 110]] : List W8), x.length ≤ 4 := (by decide); exact hall _ hw2
     apply xC rfl
     ·apply A9
      ·exact I3 rfl (by decide) rfl
      apply A9
      ·exact I9 rfl rfl (by (simp; done)) (fun _ => rfl)
      exact C6
     ·exact hC9
     refine ⟨⟨rfl, rfl, rfl, dT rfl, rfl⟩, .inl rfl, F3 rfl rfl rfl B9, C1 rfl, fun _ => rfl, fun g57 => ?_⟩
     refine Q0 rfl rfl (by simp only [H6, List.length_append, List.length_cons, List.length_nil]; omega) <| A3 rfl rfl ?_
     iterate 2 refine Q0 rfl rfl (by simp only [H6, List.length_append, List.length_cons, List.length_nil]; omega) ?_
     refine A3 rfl rfl <| Q0 rfl rfl (by simp only [H6, List.length_append, List.length_cons, List.length_nil]; omega) <| A5 rfl rfl rfl <| xN [4] [0] rfl <| C2 ?_
     refine ⟨_, _, ?_, K5 rfl rfl (J5 rfl rfl)⟩
     exact ⟨_, _, rfl, rfl, by omega, by omega, by (simp only [List.length_append, List.length_cons, List.length_nil]; omega)⟩
    refine B7 <| A4 <| A0 <| A3 rfl rfl <| C8 (es := List.map tV [[97, 100, 100], [106, 111, 105, 110], [106, 111, 105, 110]]) rfl rfl (dT rfl) rfl rfl (fun _ => B3 (A6 fun _ => rfl)) (fun _ => rfl) ?_
    intro g56
    obtain ⟨_, _, ⟨w2, rfl, rfl, hw2⟩, hC9⟩ := a8g bs (q1 + 1) hbs hl (by omega) [[97, 100, 100], [106, 111, 105, 110], [106, 111, 105, 110]] (by decide)
    have hw2b : w2.length ≤ 4 := by have hall : ∀ x ∈ ([[97, 100, 100], [106, 111, 105, 110], [106, 111, 105, 110]] : List W8), x.length ≤ 4 := (by decide); exact hall _ hw2
    apply xC rfl
    ·apply A9
     ·exact I3 rfl (by decide) rfl
     apply A9
     ·exact I9 rfl rfl (by (simp; done)) (fun _ => rfl)
     exact C6
    ·exact hC9
    refine ⟨⟨rfl, rfl, rfl, dT rfl, rfl⟩, .inl rfl, F3 rfl rfl rfl B9, C1 rfl, fun _ => rfl, fun g57 => ?_⟩
    refine Q0 rfl rfl (by simp only [H6, List.length_append, List.length_cons, List.length_nil]; omega) <| A3 rfl rfl ?_
    iterate 2 refine Q0 rfl rfl (by simp only [H6, List.length_append, List.length_cons, List.length_nil]; omega) ?_
    refine A3 rfl rfl <| Q0 rfl rfl (by simp only [H6, List.length_append, List.length_cons, List.length_nil]; omega) <| A5 rfl rfl rfl <| xN [4] [0] rfl <| C2 ?_
    refine ⟨_, _, ?_, K5 rfl rfl (J5 rfl rfl)⟩
    exact ⟨_, _, rfl, rfl, by omega, by omega, by (simp only [List.length_append, List.length_cons, List.length_nil]; omega)⟩
   refine B7 <| A4 <| A0 <| A3 rfl rfl <| C8 (es := List.map tV [[115, 111, 114, 116], [114, 101, 118], [110, 101, 103], [97, 98, 115], [100, 105, 102, 102], [115, 117, 109, 115], [114, 97, 110, 107, 115], [116, 111, 116, 97, 108], [115, 111, 114, 116], [114, 101, 118], [110, 101, 103], [97, 98, 115]]) rfl rfl (dT rfl) rfl rfl (fun _ => B3 (A6 fun _ => rfl)) (fun _ => rfl) ?_
   intro g65
   obtain ⟨_, _, ⟨w3, rfl, rfl, hw3⟩, hC10⟩ := a8g bs (p + 1 + 1) hbs hl (by omega) [[115, 111, 114, 116], [114, 101, 118], [110, 101, 103], [97, 98, 115], [100, 105, 102, 102], [115, 117, 109, 115], [114, 97, 110, 107, 115], [116, 111, 116, 97, 108], [115, 111, 114, 116], [114, 101, 118], [110, 101, 103], [97, 98, 115]] (by decide)
   have hw3b : w3.length ≤ 5 := by have hall : ∀ x ∈ ([[115, 111, 114, 116], [114, 101, 118], [110, 101, 103], [97, 98, 115], [100, 105, 102, 102], [115, 117, 109, 115], [114, 97, 110, 107, 115], [116, 111, 116, 97, 108], [115, 111, 114, 116], [114, 101, 118], [110, 101, 103], [97, 98, 115]] : List W8), x.length ≤ 5 := (by decide); exact hall _ hw3
   apply xC rfl
   ·apply A9
    ·exact I3 rfl (by decide) rfl
    apply A9
    ·exact I9 rfl rfl (by (simp; done)) (fun _ => rfl)
    exact C6
   ·exact hC10
   refine ⟨⟨rfl, rfl, rfl, dT rfl, rfl⟩, .inl rfl, F3 rfl rfl rfl B9, C1 rfl, fun _ => rfl, fun g66 => ?_⟩
   refine Q0 rfl rfl (by simp only [H6, List.length_append, List.length_cons, List.length_nil]; omega) <| A3 rfl rfl <| A3 rfl rfl <| I1 rfl rfl (C5 (by omega)) ?_
   obtain ⟨_, _, ⟨x3, q3, rfl, rfl, hx31, hx32, hx33⟩, hC11⟩ := ih bs (p + 1 + 1 + 1) d1 hbs hl (by omega) (by omega) (by omega)
   rw [show ((d1 + 1 : Nat) : Int) - 1 = (d1 : Int) by omega]
   apply xC rfl
   ·apply A9
    ·exact I3 rfl (by decide) rfl
    apply A9
    ·exact B2 rfl
    exact C6
   ·exact hC11
   refine ⟨⟨rfl, rfl, rfl, dT rfl, rfl⟩, .inl rfl, F3 rfl rfl rfl B9, C1 rfl, fun _ => rfl, fun g71 => ?_⟩
   refine Q0 rfl rfl (by simp only [H6, List.length_append, List.length_cons, List.length_nil]; omega) <| A5 rfl rfl rfl <| xN [4] [0] rfl <| C2 ?_
   refine ⟨_, _, ?_, K5 rfl rfl (J5 rfl rfl)⟩
   exact ⟨_, _, rfl, rfl, by omega, by omega, by (simp only [List.length_append, List.length_cons, List.length_nil]; omega)⟩
  refine gF rfl rfl <| gF rfl rfl <| B8 rfl (by assumption) rfl rfl <| xN [0,1,15] [0] rfl ?_
  refine A7 rfl (fun hc => ?_) (fun hc => absurd hc (by decide))
  refine A4 <| A4 <| A0 <| A3 rfl rfl ?_
  obtain ⟨_, _, ⟨k1, rfl, rfl, hk1, -⟩, hC1⟩ := Q5 bs (p) hbs hl (by omega) (2) (by omega)
  have hk1 := hk1 (by omega)
  apply xC rfl
  ·apply A9
   ·exact I3 rfl (by decide) rfl
   apply A9
   ·exact B2 rfl
   exact C6
  ·exact hC1
  refine ⟨⟨rfl, rfl, rfl, dT rfl, rfl⟩, .inl rfl, F3 rfl rfl rfl B9, C1 rfl, fun _ => rfl, fun g17 => ?_⟩
  refine H8 rfl rfl <| xN [0,18] [0] rfl ?_
  refine A7 rfl ?_ ?_ <;> intro hc <;> try simp only [SL] at hc
  ·refine A4 <| A0 <| A3 rfl rfl <| C8 (es := List.map tV [[97], [98], [97], [99], [100]]) rfl rfl (dT rfl) rfl rfl (fun _ => B3 (A6 fun _ => rfl)) (fun _ => rfl) ?_
   intro g20
   obtain ⟨_, _, ⟨w1, rfl, rfl, hw1⟩, hC2⟩ := a8g bs (p + 1) hbs hl (by omega) [[97], [98], [97], [99], [100]] (by decide)
   have hw1b : w1.length ≤ 1 := by have hall : ∀ x ∈ ([[97], [98], [97], [99], [100]] : List W8), x.length ≤ 1 := (by decide); exact hall _ hw1
   apply xC rfl
   ·apply A9
    ·exact I3 rfl (by decide) rfl
    apply A9
    ·exact I9 rfl rfl (by (simp; done)) (fun _ => rfl)
    exact C6
   ·exact hC2
   refine ⟨⟨rfl, rfl, rfl, dT rfl, rfl⟩, .inl rfl, F3 rfl rfl rfl B9, C1 rfl, fun _ => rfl, fun g21 => ?_⟩
   refine A5 rfl rfl rfl <| xN [4] [0] rfl <| C2 ?_
   refine ⟨_, _, ?_, K5 rfl rfl (J5 rfl rfl)⟩
   exact ⟨_, _, rfl, rfl, by omega, by omega, by omega⟩
  refine B7 <| A4 <| A0 <| C8 (es := List.map iV []) rfl rfl (dT rfl) rfl rfl (fun _ => B3 (A6 fun _ => rfl)) (fun _ => rfl) ?_
  intro g22
  (refine B6 rfl rfl (by (simp; done)) rfl (fun _ => (B3 (by exact A6 fun _ => rfl))) (fun _ => rfl) ?_; intro g5)
  refine xN [0,5] [0,5] rfl <| A4 <| A4 <| A0 <| A3 rfl rfl <| C8 (es := List.map iV [2, 3, 1, 0, 4]) rfl rfl (dT rfl) rfl rfl (fun _ => B3 (A6 fun _ => rfl)) (fun _ => rfl) ?_
  intro g24
  obtain ⟨_, _, ⟨n1, rfl, rfl, hn1⟩, hC3⟩ := a8e bs (p + 1) hbs hl (by omega) [2, 3, 1, 0, 4] (by decide)
  have hn1b : 0 ≤ n1 ∧ n1 ≤ 4 := by simp at hn1; omega
  apply xC rfl
  ·apply A9
   ·exact I3 rfl (by decide) rfl
   apply A9
   ·exact I9 rfl rfl (by (simp; done)) (fun _ => rfl)
   exact C6
  ·exact hC3
  refine ⟨⟨rfl, rfl, rfl, dT rfl, rfl⟩, .inl rfl, F3 rfl rfl rfl B9, C1 rfl, fun _ => rfl, fun g25 => ?_⟩
  refine A5 rfl rfl rfl <| xN [0,5,6] [0,5] rfl <| C9 <| G3 (β := List Int × Nat × Int) [(.t 0, _), (.t 6, _)] (fun (z : List Int × Nat × Int) => match z with | (xs, g, q) => [(.h 0, .obj 1 4 0 [rdr bs q]), (.t 5, .sl 5 g none 0 xs.length), (.h 5, .obj g 0 1 (xs.map iV))]) (fun (z : List Int × Nat × Int) => match z with | (xs, g, q) => (xs.length : Int) ≤ n1 ∧ p ≤ q ∧ q ≤ p + 4 + xs.length ∧ ∀ x ∈ xs, -20 ≤ x ∧ x ≤ 20) (fun (z : List Int × Nat × Int) => match z with | (xs, g, q) => 5 - xs.length) ([], _, _) ⟨rfl, rfl, rfl, rfl, rfl, trivial⟩ ⟨by simp; omega, by omega, by omega, by simp⟩ ?_
  intro z hb
  obtain ⟨xs, g, q⟩ := z
  try dsimp only at hb
  obtain ⟨hx1, hq1, hq2, hxb⟩ := hb
  refine A4 <| A4 <| A0 <| A3 rfl rfl <| I4 rfl rfl <| A3 rfl rfl <| G7 rfl rfl <| xN [0,5,6,29] [0,5] rfl ?_
  refine A7 rfl ?_ ?_ <;> intro hc <;> try simp only [SL] at hc
  ·refine B7 <| C9 <| A0 <| A3 rfl rfl <| A3 rfl rfl ?_
   obtain ⟨_, _, ⟨k2, rfl, rfl, hk2, -⟩, hC4⟩ := Q5 bs (q) hbs hl (by omega) (41) (by omega)
   have hk2 := hk2 (by omega)
   apply xC rfl
   ·apply A9
    ·exact I3 rfl (by decide) rfl
    apply A9
    ·exact B2 rfl
    exact C6
   ·exact hC4
   refine ⟨⟨rfl, rfl, rfl, dT rfl, rfl⟩, .inl rfl, F3 rfl rfl rfl B9, C1 rfl, fun _ => rfl, fun g32 => ?_⟩
   refine I1 rfl rfl (C5 (by omega)) <| C8 (es := List.map iV [k2 - 20]) rfl rfl (dT rfl) rfl rfl (fun _ => B3 (A6 fun _ => rfl)) (fun _ => rfl) ?_
   intro g34
   refine E4 rfl rfl rfl rfl (by (simp; done)) (by simp) (by decide) rfl rfl rfl rfl (dT rfl) (fun _ => ⟨rfl, rfl⟩) (by simp only [H6]; (simp only [List.length_nil, List.length_cons, List.length_append, Nat.zero_add, List.length_map]; omega)) (fun _ => rfl) ?_
   intro g35
   (refine B6 rfl rfl (by (simp; done)) rfl (fun _ => (B3 (by exact A6 fun _ => rfl))) (fun _ => rfl) ?_; intro g5)
   refine xN [0,5,6] [0,5] rfl ?_
   refine ⟨(xs ++ [k2 - 20], _, q + 1), ?_, (by simp only [List.length_append, List.length_singleton]; omega), ⟨rfl, rfl, rfl, rfl, rfl, trivial⟩⟩
   refine ⟨?_, ?_, ?_, fun x hx => ?_⟩
   ·simp only [List.length_append, List.length_singleton]; omega
   ·omega
   ·simp only [List.length_append, List.length_singleton]; omega
   rcases List.mem_append.1 hx with hx | hx
   ·exact hxb x hx
   rw [List.mem_singleton.1 hx]; omega
  refine G4 <| A4 <| A0 <| A3 rfl rfl ?_
  have hll := a8i (ns := xs) (fun n hn => by have := hxb n hn; omega)
  apply xC rfl
  ·apply A9
   ·exact H3 rfl rfl rfl (by (simp; done)) (fun _ => rfl)
   exact C6
  ·exact b3f xs (by omega) (fun n hn => by have := hxb n hn; omega)
  refine ⟨⟨rfl, rfl, rfl, dT rfl, rfl⟩, .inr ⟨rfl, rfl⟩, B9, C1 rfl, fun _ => rfl, fun g37 => ?_⟩
  iterate 2 refine Q0 rfl rfl (by simp only [H6, List.length_append, List.length_cons, List.length_nil]; omega) ?_
  refine A5 rfl rfl rfl <| xN [4] [0] rfl <| C2 ?_
  refine ⟨_, _, ?_, K5 rfl rfl (J5 rfl rfl)⟩
  exact ⟨_, _, rfl, rfl, by omega, by omega, by (simp only [List.length_append, List.length_cons, List.length_nil]; omega)⟩

theorem keep_s_mutate : G8 Try.f65 = [0, 1, 4, 12, 13, 5, 19, 32, 37] := by kernel_rfl
set_option maxHeartbeats 20000000 in
theorem c8h (bs : List Int) (p : Int) (hbs : a1i bs) (hl : bs.length ≤ 1048576) (hp : 0 ≤ p ∧ p ≤ 100000000) (s : W8) (hs : s.length ≤ 100000) : ∃ res outs, (fun res outs => ∃ (x : W8) (q : Int), res = tV x ∧ outs = [[rdr bs q]] ∧ p ≤ q ∧ q ≤ p + 10 ∧ x.length ≤ s.length + 10) res outs ∧ CW cxT 65 [.ownp [rdr bs p] 0 0, tV s] = some (res, outs) := by
 refine N7 rfl Try.func65 rfl ⟨by kernel_rfl, rfl, dT rfl, dT rfl, by decide⟩ keep_s_mutate <| A4 <| A0 <| A5 rfl rfl rfl <| xN [0,1] [0] rfl <| A4 <| A0 <| A3 rfl rfl <| A3 rfl rfl <| a3h rfl rfl <| D7 rfl rfl (C5 (by omega)) ?_
 obtain ⟨_, _, ⟨k0, rfl, rfl, hk0, -⟩, hC0⟩ := Q5 bs (p) hbs hl (by omega) (s.length + 1) (by omega)
 have hk0 := hk0 (by omega)
 apply xC rfl
 ·apply A9
  ·exact I3 rfl (by decide) rfl
  apply A9
  ·exact B2 rfl
  exact C6
 ·exact hC0
 refine ⟨⟨rfl, rfl, rfl, dT rfl, rfl⟩, .inl rfl, F3 rfl rfl rfl B9, C1 rfl, fun _ => rfl, fun g10 => ?_⟩
 refine A5 rfl rfl rfl <| xN [0,1,5] [0] rfl <| A4 <| A4 <| A0 <| A3 rfl rfl ?_
 obtain ⟨_, _, ⟨k1, rfl, rfl, hk1, -⟩, hC1⟩ := Q5 bs (p + 1) hbs hl (by omega) (5) (by omega)
 have hk1 := hk1 (by omega)
 apply xC rfl
 ·apply A9
  ·exact I3 rfl (by decide) rfl
  apply A9
  ·exact B2 rfl
  exact C6
 ·exact hC1
 refine ⟨⟨rfl, rfl, rfl, dT rfl, rfl⟩, .inl rfl, F3 rfl rfl rfl B9, C1 rfl, fun _ => rfl, fun g12 => ?_⟩
 refine xN [0,1,5,12] [0] rfl <| C9 <| A4 <| A4 <| A0 <| H8 rfl rfl <| A5 rfl rfl rfl <| xN [0,1,5,12,13] [0] rfl ?_
 refine A7 rfl ?_ ?_ <;> intro hc <;> try simp only [SL] at hc
 ·refine B7 ?_
  refine A7 rfl (fun hc => ?_) (fun hc => absurd hc (by simp_all))
  refine A4 <| A0 <| A3 rfl rfl <| A3 rfl rfl <| a3h rfl rfl <| G7 rfl rfl <| xN [0,1,5,19] [0] rfl ?_
  refine A7 rfl ?_ ?_ <;> intro hc <;> try simp only [SL] at hc
  ·refine A4 <| A0 <| A3 rfl rfl <| A3 rfl rfl <| U3 rfl rfl (Q3 rfl (by omega)) K8 (by omega) <| A3 rfl rfl <| C8 (es := List.map tV [[48], [49], [97], [44], [45], [93], [32]]) rfl rfl (dT rfl) rfl rfl (fun _ => B3 (A6 fun _ => rfl)) (fun _ => rfl) ?_
   intro g24
   obtain ⟨_, _, ⟨w1, rfl, rfl, hw1⟩, hC2⟩ := a8g bs (p + 1 + 1) hbs hl (by omega) [[48], [49], [97], [44], [45], [93], [32]] (by decide)
   have hw1b : w1.length ≤ 1 := by have hall : ∀ x ∈ ([[48], [49], [97], [44], [45], [93], [32]] : List W8), x.length ≤ 1 := (by decide); exact hall _ hw1
   apply xC rfl
   ·apply A9
    ·exact I3 rfl (by decide) rfl
    apply A9
    ·exact I9 rfl rfl (by (simp; done)) (fun _ => rfl)
    exact C6
   ·exact hC2
   refine ⟨⟨rfl, rfl, rfl, dT rfl, rfl⟩, .inl rfl, F3 rfl rfl rfl B9, C1 rfl, fun _ => rfl, fun g25 => ?_⟩
   refine Q0 rfl rfl (by simp only [H6, List.length_append, List.length_take, List.length_drop]; omega) <| A3 rfl rfl <| A3 rfl rfl <| D7 rfl rfl (C5 (by omega)) <| U3 rfl rfl K8 (Q3 rfl (by omega)) (by omega) <| Q0 rfl rfl (by simp only [H6, List.length_append, List.length_take, List.length_drop]; omega) <| A5 rfl rfl rfl ?_
   refine I7 ⟨fun _ => ⟨by (simp only [Z7, List.nil_append, List.append_nil, List.map_cons, List.map_nil, List.cons_append]; decide +kernel), by decide +kernel⟩, [(.t 4, _), (.h 0, _)], ⟨rfl, rfl, rfl, rfl, trivial⟩, ?_⟩
   refine C2 ?_
   refine ⟨_, _, ?_, K5 rfl rfl (J5 rfl rfl)⟩
   exact ⟨_, _, rfl, rfl, by omega, by omega, by (simp only [List.length_append, List.length_cons, List.length_nil, List.length_take, List.length_drop]; omega)⟩
  refine B7 <| A4 <| A0 <| A3 rfl rfl <| A5 rfl rfl rfl <| xN [4] [0] rfl <| C2 ?_
  refine ⟨_, _, ?_, K5 rfl rfl (J5 rfl rfl)⟩
  exact ⟨_, _, rfl, rfl, by omega, by omega, by omega⟩
 refine A0 <| H8 rfl rfl <| A5 rfl rfl rfl <| xN [0,1,5,12,13] [0] rfl ?_
 refine A7 rfl ?_ ?_ <;> intro hc <;> try simp only [SL] at hc
 ·refine A4 <| A0 <| A3 rfl rfl <| A3 rfl rfl <| a3h rfl rfl <| G7 rfl rfl <| xN [0,1,5,19] [0] rfl ?_
  refine A7 rfl ?_ ?_ <;> intro hc <;> try simp only [SL] at hc
  ·refine A4 <| A0 <| A3 rfl rfl <| A3 rfl rfl <| U3 rfl rfl (Q3 rfl (by omega)) K8 (by omega) <| A3 rfl rfl <| C8 (es := List.map tV [[48], [49], [97], [44], [45], [93], [32]]) rfl rfl (dT rfl) rfl rfl (fun _ => B3 (A6 fun _ => rfl)) (fun _ => rfl) ?_
   intro g24
   obtain ⟨_, _, ⟨w1, rfl, rfl, hw1⟩, hC2⟩ := a8g bs (p + 1 + 1) hbs hl (by omega) [[48], [49], [97], [44], [45], [93], [32]] (by decide)
   have hw1b : w1.length ≤ 1 := by have hall : ∀ x ∈ ([[48], [49], [97], [44], [45], [93], [32]] : List W8), x.length ≤ 1 := (by decide); exact hall _ hw1
   apply xC rfl
   ·apply A9
    ·exact I3 rfl (by decide) rfl
    apply A9
    ·exact I9 rfl rfl (by (simp; done)) (fun _ => rfl)
    exact C6
   ·exact hC2
   refine ⟨⟨rfl, rfl, rfl, dT rfl, rfl⟩, .inl rfl, F3 rfl rfl rfl B9, C1 rfl, fun _ => rfl, fun g25 => ?_⟩
   refine Q0 rfl rfl (by simp only [H6, List.length_append, List.length_take, List.length_drop]; omega) <| A3 rfl rfl <| A3 rfl rfl <| D7 rfl rfl (C5 (by omega)) <| U3 rfl rfl K8 (Q3 rfl (by omega)) (by omega) <| Q0 rfl rfl (by simp only [H6, List.length_append, List.length_take, List.length_drop]; omega) <| A5 rfl rfl rfl ?_
   refine I7 ⟨fun _ => ⟨by (simp only [Z7, List.nil_append, List.append_nil, List.map_cons, List.map_nil, List.cons_append]; decide +kernel), by decide +kernel⟩, [(.t 4, _), (.h 0, _)], ⟨rfl, rfl, rfl, rfl, trivial⟩, ?_⟩
   refine C2 ?_
   refine ⟨_, _, ?_, K5 rfl rfl (J5 rfl rfl)⟩
   exact ⟨_, _, rfl, rfl, by omega, by omega, by (simp only [List.length_append, List.length_cons, List.length_nil, List.length_take, List.length_drop]; omega)⟩
  refine B7 <| A4 <| A0 <| A3 rfl rfl <| A5 rfl rfl rfl <| xN [4] [0] rfl <| C2 ?_
  refine ⟨_, _, ?_, K5 rfl rfl (J5 rfl rfl)⟩
  exact ⟨_, _, rfl, rfl, by omega, by omega, by omega⟩
 refine A4 <| A0 <| H8 rfl rfl <| A5 rfl rfl rfl <| xN [0,1,5,12,32] [0] rfl ?_
 refine A7 rfl ?_ ?_ <;> intro hc <;> try simp only [SL] at hc
 ·refine A4 <| A0 <| A3 rfl rfl <| A3 rfl rfl <| U3 rfl rfl (Q3 rfl (by omega)) K8 (by omega) <| A5 rfl rfl rfl <| xN [4] [0] rfl <| C2 ?_
  refine ⟨_, _, ?_, K5 rfl rfl (J5 rfl rfl)⟩
  exact ⟨_, _, rfl, rfl, by omega, by omega, by (simp only [List.length_append, List.length_cons, List.length_nil, List.length_take, List.length_drop]; omega)⟩
 refine A4 <| A0 <| H8 rfl rfl <| A5 rfl rfl rfl <| xN [0,1,37] [0] rfl ?_
 refine A7 rfl ?_ ?_ <;> intro hc <;> try simp only [SL] at hc
 ·refine A4 <| A0 <| A3 rfl rfl <| A3 rfl rfl <| C8 (es := List.map tV [[48], [44], [32], [32, 97]]) rfl rfl (dT rfl) rfl rfl (fun _ => B3 (A6 fun _ => rfl)) (fun _ => rfl) ?_
  intro g41
  obtain ⟨_, _, ⟨w2, rfl, rfl, hw2⟩, hC3⟩ := a8g bs (p + 1 + 1) hbs hl (by omega) [[48], [44], [32], [32, 97]] (by decide)
  have hw2b : w2.length ≤ 2 := by have hall : ∀ x ∈ ([[48], [44], [32], [32, 97]] : List W8), x.length ≤ 2 := (by decide); exact hall _ hw2
  apply xC rfl
  ·apply A9
   ·exact I3 rfl (by decide) rfl
   apply A9
   ·exact I9 rfl rfl (by (simp; done)) (fun _ => rfl)
   exact C6
  ·exact hC3
  refine ⟨⟨rfl, rfl, rfl, dT rfl, rfl⟩, .inl rfl, F3 rfl rfl rfl B9, C1 rfl, fun _ => rfl, fun g42 => ?_⟩
  refine Q0 rfl rfl (by simp only [H6, List.length_append, List.length_cons, List.length_nil]; omega) <| A5 rfl rfl rfl <| xN [4] [0] rfl <| C2 ?_
  refine ⟨_, _, ?_, K5 rfl rfl (J5 rfl rfl)⟩
  exact ⟨_, _, rfl, rfl, by omega, by omega, by (simp only [List.length_append, List.length_cons, List.length_nil, List.length_take, List.length_drop]; omega)⟩
 refine B7 <| A4 <| A0 <| A3 rfl rfl <| A5 rfl rfl rfl <| xN [4] [0] rfl <| C2 ?_
 refine ⟨_, _, ?_, K5 rfl rfl (J5 rfl rfl)⟩
 exact ⟨_, _, rfl, rfl, by omega, by omega, by omega⟩

theorem keep_s_somePlan : G8 Try.f38 = [0, 2, 11, 3] := by kernel_rfl
set_option maxHeartbeats 20000000 in
theorem c1n (bs : List Int) (p : Int) (hbs : a1i bs) (hl : bs.length ≤ 1048576) (hp : 0 ≤ p ∧ p ≤ 1000000) : ∃ res outs, (fun res outs => ∃ (x : W8) (q : Int), res = tV x ∧ outs = [[rdr bs q]] ∧ p ≤ q ∧ q ≤ p + 3000 ∧ x.length ≤ 5000) res outs ∧ CW cxT 38 [.ownp [rdr bs p] 0 0] = some (res, outs) := by
 refine N7 rfl Try.func38 rfl ⟨by kernel_rfl, rfl, dT rfl, dT rfl, by decide⟩ keep_s_somePlan <| A4 <| A0 <| A5 rfl rfl rfl <| xN [0] [0] rfl <| A4 <| A0 <| A3 rfl rfl <| A3 rfl rfl <| C8 (es := List.map iV [3, 4, 2, 5, 1, 0]) rfl rfl (dT rfl) rfl rfl (fun _ => B3 (A6 fun _ => rfl)) (fun _ => rfl) ?_
 intro g6
 obtain ⟨_, _, ⟨k0, rfl, rfl, hk0⟩, hC0⟩ := a8e bs (p) hbs hl (by omega) [3, 4, 2, 5, 1, 0] (by decide)
 have hk0b : 0 ≤ k0 ∧ k0 ≤ 5 := by simp at hk0; omega
 obtain ⟨d, rfl⟩ : ∃ d : Nat, k0 = d := ⟨k0.toNat, by omega⟩
 have hgm := d0s (d := d) (by omega)
 have hlm := c4k (d := d) (by omega)
 have hgp := b6g d
 apply xC rfl
 ·apply A9
  ·exact I3 rfl (by decide) rfl
  apply A9
  ·exact I9 rfl rfl (by (simp; done)) (fun _ => rfl)
  exact C6
 ·exact hC0
 refine ⟨⟨rfl, rfl, rfl, dT rfl, rfl⟩, .inl rfl, F3 rfl rfl rfl B9, C1 rfl, fun _ => rfl, fun g7 => ?_⟩
 obtain ⟨_, _, ⟨x, q, rfl, rfl, hx1, hx2, hx3⟩, hC1⟩ := c2k bs (p + 1) d hbs hl (by omega) (by omega)
 apply xC rfl
 ·apply A9
  ·exact I3 rfl (by decide) rfl
  apply A9
  ·exact B2 rfl
  exact C6
 ·exact hC1
 refine ⟨⟨rfl, rfl, rfl, dT rfl, rfl⟩, .inl rfl, F3 rfl rfl rfl B9, C1 rfl, fun _ => rfl, fun g8 => ?_⟩
 refine A5 rfl rfl rfl <| xN [0,3] [0] rfl <| A4 <| A4 <| A0 <| A3 rfl rfl ?_
 obtain ⟨_, _, ⟨k1, rfl, rfl, hk1, -⟩, hC2⟩ := Q5 bs (q) hbs hl (by omega) (16) (by omega)
 have hk1 := hk1 (by omega)
 apply xC rfl
 ·apply A9
  ·exact I3 rfl (by decide) rfl
  apply A9
  ·exact B2 rfl
  exact C6
 ·exact hC2
 refine ⟨⟨rfl, rfl, rfl, dT rfl, rfl⟩, .inl rfl, F3 rfl rfl rfl B9, C1 rfl, fun _ => rfl, fun g10 => ?_⟩
 refine H8 rfl rfl <| xN [0,3,11] [0] rfl ?_
 refine A7 rfl ?_ ?_ <;> intro hc <;> try simp only [SL] at hc
 ·refine A0 <| A3 rfl rfl <| A3 rfl rfl ?_
  obtain ⟨_, _, ⟨y, q2, rfl, rfl, hy1, hy2, hy3⟩, hC3⟩ := c8h bs (q + 1) hbs hl (by omega) x (by omega)
  apply xC rfl
  ·apply A9
   ·exact I3 rfl (by decide) rfl
   apply A9
   ·exact B2 rfl
   exact C6
  ·exact hC3
  refine ⟨⟨rfl, rfl, rfl, dT rfl, rfl⟩, .inl rfl, F3 rfl rfl rfl B9, C1 rfl, fun _ => rfl, fun g14 => ?_⟩
  refine A5 rfl rfl rfl <| xN [3] [0] rfl <| A4 <| A0 <| A3 rfl rfl <| A5 rfl rfl rfl <| xN [2] [0] rfl <| C2 ?_
  refine ⟨_, _, ?_, K5 rfl rfl (J5 rfl rfl)⟩
  exact ⟨_, _, rfl, rfl, by omega, by omega, by omega⟩
 refine B7 <| A4 <| A0 <| A3 rfl rfl <| A5 rfl rfl rfl <| xN [2] [0] rfl <| C2 ?_
 refine ⟨_, _, ?_, K5 rfl rfl (J5 rfl rfl)⟩
 exact ⟨_, _, rfl, rfl, by omega, by omega, by omega⟩

theorem keep_s_equalIntsR : G8 Try.f19 = [0, 1, 4, 10, 5, 14, 25] := by kernel_rfl
set_option maxHeartbeats 20000000 in
theorem a0k (a : List Int) (ha : a.length ≤ 1048576) : CW cxT 19 [L a, L a] = some (bV true, []) := by
 refine H0 rfl Try.func19 rfl ⟨by kernel_rfl, rfl, dT rfl, dT rfl, by decide⟩ keep_s_equalIntsR <| A4 <| A0 <| A5 rfl rfl rfl <| xN [0,1] [] rfl <| A4 <| A4 <| A0 <| A3 rfl rfl <| D9 rfl rfl <| A3 rfl rfl <| D9 rfl rfl <| N5 rfl rfl <| xN [0,1,10] [] rfl ?_
 refine A7 rfl (fun hc => ?_) (fun hc => ?_)
 ·try simp only [SD] at hc
  exact absurd trivial hc
 try simp only [SL] at hc
 refine B7 <| A4 <| A4 <| A0 <| A5 rfl rfl rfl <| xN [0,1,5] [] rfl <| C9 <| G3 (β := Nat) [(.t 0, _), (.t 1, _)] (fun (i : Nat) => [(.t 5, iV i)]) (fun (i : Nat) => i ≤ a.length) (fun (i : Nat) => a.length - i) 0 ⟨rfl, rfl, rfl, trivial⟩ (Nat.zero_le _) ?_
 intro i hb
 have hi1 := hb
 refine A4 <| A4 <| A0 <| A3 rfl rfl <| A3 rfl rfl <| D9 rfl rfl <| G7 rfl rfl <| xN [0,1,5,14] [] rfl ?_
 refine A7 rfl ?_ ?_ <;> intro hc <;> try simp only [SL] at hc
 ·refine B7 <| A4 <| C9 <| A4 <| A0 <| A3 rfl rfl <| A3 rfl rfl <| D5 rfl rfl rfl (fun _ => rfl) (by omega) <| D6 rfl rfl rfl <| A3 rfl rfl <| A3 rfl rfl <| D5 rfl rfl rfl (fun _ => rfl) (by omega) <| D6 rfl rfl rfl <| N5 rfl rfl ?_
  refine I7 ⟨fun _ => ⟨by decide +kernel, by decide +kernel⟩, [(.t 0, _), (.t 1, _), (.t 5, _), (.t 25, _)], ⟨rfl, rfl, rfl, rfl, rfl, rfl, rfl, rfl, trivial⟩, ?_⟩
  refine A7 rfl (fun hc => ?_) (fun hc => ?_)
  ·try simp only [SD] at hc
   exact absurd trivial hc
  try simp only [SL] at hc
  refine B7 <| A0 <| A3 rfl rfl <| D7 rfl rfl (C5 (by omega)) <| A5 rfl rfl rfl <| xN [0,1,5] [] rfl ?_
  refine ⟨i + 1, (by omega), (by omega), ⟨rfl, rfl, rfl, trivial⟩⟩
 refine G4 <| A4 <| A0 <| A5 rfl rfl rfl <| xN [4] [] rfl <| C2 <| C4 rfl rfl trivial ?_
 rfl

theorem keep_s_dataOf : G8 Try.f66 = [0, 1, 4, 5, 14, 6, 27, 28, 36] := by kernel_rfl
set_option maxHeartbeats 20000000 in
theorem b8l (bs : List Int) (p : Int) (hbs : a1i bs) (hl : bs.length ≤ 1048576) (hp : 0 ≤ p ∧ p ≤ 1000000) (n : Int) (hn : 0 ≤ n ∧ n ≤ 10) : ∃ res outs, (fun res outs => ∃ (xs : List Int) (p' : Int), res = .own 1 (xs.map iV) ∧ outs = [[rdr bs p']] ∧ xs.length ≤ 21 ∧ p ≤ p' ∧ p' ≤ p + 13) res outs ∧ CW cxT 66 [.ownp [rdr bs p] 0 0, iV n] = some (res, outs) := by
 refine N7 rfl Try.func66 rfl ⟨by kernel_rfl, rfl, dT rfl, dT rfl, by decide⟩ keep_s_dataOf <| A4 <| A0 ?_
 (refine D3 rfl rfl (fun _ => rfl) ?_; intro g4)
 refine xN [0,1] [0] rfl <| A4 <| A0 <| C8 (es := List.map iV []) rfl rfl (dT rfl) rfl rfl (fun _ => B3 (A6 fun _ => rfl)) (fun _ => rfl) ?_
 intro g7
 (refine B6 rfl rfl (by (simp; done)) rfl (fun _ => (B3 (by exact A6 fun _ => rfl))) (fun _ => rfl) ?_; intro g5)
 refine xN [0,1,5] [0,5] rfl <| A4 <| A0 <| A3 rfl rfl <| C8 (es := List.map iV [_, _, _, _]) rfl rfl (dT rfl) rfl rfl (fun _ => B3 (A6 fun _ => rfl)) (fun _ => rfl) ?_
 intro g9
 obtain ⟨_, _, ⟨k0, rfl, rfl, k0m⟩, hC0⟩ := a8e bs (p) hbs hl (by omega) [3, 10, 40, 200] (by decide)
 have k0b : 3 ≤ k0 ∧ k0 ≤ 200 := by simp at k0m; omega
 apply xC rfl
 ·apply A9
  ·exact I3 rfl (by decide) rfl
  apply A9
  ·exact I9 rfl rfl (by (simp; done)) (fun _ => rfl)
  exact C6
 ·exact hC0
 refine ⟨⟨rfl, rfl, rfl, dT rfl, rfl⟩, .inl rfl, F3 rfl rfl rfl B9, C1 rfl, fun _ => rfl, fun g10 => ?_⟩
 refine A5 rfl rfl rfl <| xN [0,1,5,6] [0,5] rfl <| A4 <| C9 <| G3 (β := List Int × Nat × Int) [(.t 0, _), (.t 1, _), (.t 6, _)] (fun (z : List Int × Nat × Int) => match z with | (xs, g, q) => [(.h 0, .obj 1 4 0 [rdr bs q]), (.t 5, .sl 5 g none 0 xs.length), (.h 5, .obj g 0 1 (xs.map iV))]) (fun (z : List Int × Nat × Int) => match z with | (xs, g, q) => (xs.length : Int) ≤ n ∧ q = p + 1 + xs.length) (fun (z : List Int × Nat × Int) => match z with | (xs, g, q) => 10 - xs.length) ([], _, p + 1) ⟨rfl, rfl, rfl, rfl, rfl, rfl, trivial⟩ ⟨by simp; omega, by simp⟩ ?_
 intro z hb
 obtain ⟨xs, g, q⟩ := z
 try dsimp only at hb
 obtain ⟨hx1, hq1⟩ := hb
 refine A4 <| A4 <| A0 <| A3 rfl rfl <| I4 rfl rfl <| A3 rfl rfl <| G7 rfl rfl <| xN [0,1,5,6,14] [0,5] rfl ?_
 refine A7 rfl ?_ ?_ <;> intro hc <;> try simp only [SL] at hc
 ·refine B7 <| C9 <| A0 <| A3 rfl rfl <| A3 rfl rfl <| A3 rfl rfl <| a6i rfl rfl (C5 (by omega)) <| D7 rfl rfl (C5 (by omega)) ?_
  obtain ⟨_, _, ⟨k1, rfl, rfl, k1b, -⟩, hC1⟩ := Q5 bs (q) hbs hl (by omega) (2 * k0 + 1) (by omega)
  have k1b := k1b (by omega)
  apply xC rfl
  ·apply A9
   ·exact I3 rfl (by decide) rfl
   apply A9
   ·exact B2 rfl
   exact C6
  ·exact hC1
  refine ⟨⟨rfl, rfl, rfl, dT rfl, rfl⟩, .inl rfl, F3 rfl rfl rfl B9, C1 rfl, fun _ => rfl, fun g20 => ?_⟩
  refine b5x rfl rfl (by omega) <| A3 rfl rfl ?_
  have hm1 := a7l (a := k1) (b := 401) (by omega) (by decide)
  refine I1 rfl rfl (C5 (by omega)) <| C8 (es := List.map iV [k1.tmod 401 - k0]) rfl rfl (dT rfl) rfl rfl (fun _ => B3 (A6 fun _ => rfl)) (fun _ => rfl) ?_
  intro g24
  refine E4 rfl rfl rfl rfl (by (simp; done)) (by simp) (by decide) rfl rfl rfl rfl (dT rfl) (fun _ => ⟨rfl, rfl⟩) (by simp only [H6]; (simp only [List.length_nil, List.length_cons, List.length_append, Nat.zero_add, List.length_map]; omega)) (fun _ => rfl) ?_
  intro g25
  (refine B6 rfl rfl (by (simp; done)) rfl (fun _ => (B3 (by exact A6 fun _ => rfl))) (fun _ => rfl) ?_; intro g5)
  refine xN [0,1,5,6] [0,5] rfl ?_
  refine ⟨(xs ++ [k1.tmod 401 - k0], _, q + 1), ?_, (by simp only [List.length_append, List.length_singleton]; omega), ⟨rfl, rfl, rfl, rfl, rfl, rfl, trivial⟩⟩
  refine ⟨?_, ?_⟩ <;> (try simp only [List.length_append, List.length_singleton]) <;> omega
 refine G4 <| A4 <| A4 <| A0 <| A3 rfl rfl ?_
 obtain ⟨_, _, ⟨k2, rfl, rfl, k2b, -⟩, hC2⟩ := Q5 bs (q) hbs hl (by omega) (40) (by omega)
 have k2b := k2b (by omega)
 obtain ⟨_, _, ⟨k3, rfl, rfl, k3m⟩, hC3⟩ := a8e bs (q + 1) hbs hl (by omega) [201, -201] (by decide)
 have k3b : -201 ≤ k3 ∧ k3 ≤ 201 := by simp at k3m; omega
 apply xC rfl
 ·apply A9
  ·exact I3 rfl (by decide) rfl
  apply A9
  ·exact B2 rfl
  exact C6
 ·exact hC2
 refine ⟨⟨rfl, rfl, rfl, dT rfl, rfl⟩, .inl rfl, F3 rfl rfl rfl B9, C1 rfl, fun _ => rfl, fun g27 => ?_⟩
 refine xN [0,5,27] [0,5] rfl <| C9 <| A4 <| A0 <| H8 rfl rfl <| A5 rfl rfl rfl <| xN [0,5,27,28] [0,5] rfl ?_
 refine A7 rfl ?_ ?_ <;> intro hc <;> try simp only [SL] at hc
 ·refine A4 <| A0 <| A3 rfl rfl <| A3 rfl rfl <| C8 (es := List.map iV [_, _]) rfl rfl (dT rfl) rfl rfl (fun _ => B3 (A6 fun _ => rfl)) (fun _ => rfl) ?_
  intro g32
  apply xC rfl
  ·apply A9
   ·exact I3 rfl (by decide) rfl
   apply A9
   ·exact I9 rfl rfl (by (simp; done)) (fun _ => rfl)
   exact C6
  ·exact hC3
  refine ⟨⟨rfl, rfl, rfl, dT rfl, rfl⟩, .inl rfl, F3 rfl rfl rfl B9, C1 rfl, fun _ => rfl, fun g33 => ?_⟩
  refine C8 (es := List.map iV [_]) rfl rfl (dT rfl) rfl rfl (fun _ => B3 (A6 fun _ => rfl)) (fun _ => rfl) ?_
  intro g34
  refine E4 rfl rfl rfl rfl (by (simp; done)) (by simp) (by decide) rfl rfl rfl rfl (dT rfl) (fun _ => ⟨rfl, rfl⟩) (by simp only [H6]; (simp only [List.length_nil, List.length_cons, List.length_append, Nat.zero_add, List.length_map]; omega)) (fun _ => rfl) ?_
  intro g35
  (refine B6 rfl rfl (by (simp; done)) rfl (fun _ => (B3 (by exact A6 fun _ => rfl))) (fun _ => rfl) ?_; intro g4)
  refine xN [4] [0,4] rfl <| C2 ?_
  refine ⟨_, _, ?_, a7x rfl rfl (by (simp; done)) (by exact A6 fun _ => rfl) (J5 rfl rfl)⟩
  exact ⟨_, _, rfl, rfl, by (simp; omega), by omega, by omega⟩
 refine A4 <| A0 <| H8 rfl rfl <| A5 rfl rfl rfl <| xN [5,36] [0,5] rfl ?_
 refine A7 rfl ?_ ?_ <;> intro hc <;> try simp only [SL] at hc
 ·refine A4 <| A0 <| A3 rfl rfl <| C8 (es := List.map iV [_, _, _, _, _, _, _, _, _, _, _]) rfl rfl (dT rfl) rfl rfl (fun _ => B3 (A6 fun _ => rfl)) (fun _ => rfl) ?_
  intro g39
  refine E4 rfl rfl rfl rfl (by (simp; done)) (by simp) (by decide) rfl rfl rfl rfl (dT rfl) (fun _ => ⟨rfl, rfl⟩) (by simp only [H6]; (simp only [List.length_nil, List.length_cons, List.length_append, Nat.zero_add, List.length_map]; omega)) (fun _ => rfl) ?_
  intro g40
  (refine B6 rfl rfl (by (simp; done)) rfl (fun _ => (B3 (by exact A6 fun _ => rfl))) (fun _ => rfl) ?_; intro g4)
  refine xN [4] [0,4] rfl <| C2 ?_
  refine ⟨_, _, ?_, a7x rfl rfl (by (simp; done)) (by exact A6 fun _ => rfl) (J5 rfl rfl)⟩
  exact ⟨_, _, rfl, rfl, by (simp; omega), by omega, by omega⟩
 refine B7 <| A4 <| A0 <| A3 rfl rfl ?_
 (refine B6 rfl rfl (by (simp; done)) rfl (fun _ => (B3 (by exact A6 fun _ => rfl))) (fun _ => rfl) ?_; intro g4)
 refine xN [4] [0,4] rfl <| C2 ?_
 refine ⟨_, _, ?_, a7x rfl rfl (by (simp; done)) (by exact A6 fun _ => rfl) (J5 rfl rfl)⟩
 exact ⟨_, _, rfl, rfl, by omega, by omega, by omega⟩

theorem keep_s_someColumns : G8 Try.f42 = [0, 2, 5, 3, 16, 19, 4] := by kernel_rfl
set_option maxHeartbeats 20000000 in
theorem R8 (bs : List Int) (p : Int) (hbs : a1i bs) (hl : bs.length ≤ 1048576) (hp : 0 ≤ p ∧ p ≤ 100000) : ∃ res outs, (fun res outs => ∃ (cs : List (List Int)) (q : Int), res = .own 1 (cs.map lF) ∧ outs = [[rdr bs q]] ∧ cs.length ≤ 5 ∧ ∀ c ∈ cs, c.length ≤ 21) res outs ∧ CW cxT 42 [.ownp [rdr bs p] 0 0] = some (res, outs) := by
 refine N7 rfl Try.func42 rfl ⟨by kernel_rfl, rfl, dT rfl, dT rfl, by decide⟩ keep_s_someColumns <| A4 <| A0 ?_
 (refine D3 rfl rfl (fun _ => rfl) ?_; intro g2)
 refine xN [0] [0] rfl <| A4 <| A0 <| C8 (es := List.map lF []) rfl rfl (dT rfl) rfl rfl (fun _ => B3 (A6 fun _ => rfl)) (fun _ => rfl) ?_
 intro g6
 (refine B6 rfl rfl (by (simp; done)) rfl (fun _ => (B3 (by exact A6 fun _ => rfl))) (fun _ => rfl) ?_; intro g3)
 refine xN [0,3] [0,3] rfl <| A4 <| A0 <| A3 rfl rfl <| C8 (es := List.map iV [3, 2, 4, 1, 0]) rfl rfl (dT rfl) rfl rfl (fun _ => B3 (A6 fun _ => rfl)) (fun _ => rfl) ?_
 intro g8
 obtain ⟨_, _, ⟨n0, rfl, rfl, hn0⟩, hC0⟩ := a8e bs (p) hbs hl (by omega) [3, 2, 4, 1, 0] (by decide)
 have hn0b : 0 ≤ n0 ∧ n0 ≤ 4 := by simp at hn0; omega
 apply xC rfl
 ·apply A9
  ·exact I3 rfl (by decide) rfl
  apply A9
  ·exact I9 rfl rfl (by (simp; done)) (fun _ => rfl)
  exact C6
 ·exact hC0
 refine ⟨⟨rfl, rfl, rfl, dT rfl, rfl⟩, .inl rfl, F3 rfl rfl rfl B9, C1 rfl, fun _ => rfl, fun g9 => ?_⟩
 refine A5 rfl rfl rfl <| xN [0,3,4] [0,3] rfl <| A4 <| A4 <| A0 <| A3 rfl rfl <| C8 (es := List.map iV [2, 3, 1, 4, 0, 5]) rfl rfl (dT rfl) rfl rfl (fun _ => B3 (A6 fun _ => rfl)) (fun _ => rfl) ?_
 intro g11
 obtain ⟨_, _, ⟨k0, rfl, rfl, hk0⟩, hC1⟩ := a8e bs (p + 1) hbs hl (by omega) [2, 3, 1, 4, 0, 5] (by decide)
 have hk0b : 0 ≤ k0 ∧ k0 ≤ 5 := by simp at hk0; omega
 apply xC rfl
 ·apply A9
  ·exact I3 rfl (by decide) rfl
  apply A9
  ·exact I9 rfl rfl (by (simp; done)) (fun _ => rfl)
  exact C6
 ·exact hC1
 refine ⟨⟨rfl, rfl, rfl, dT rfl, rfl⟩, .inl rfl, F3 rfl rfl rfl B9, C1 rfl, fun _ => rfl, fun g12 => ?_⟩
 refine A5 rfl rfl rfl <| xN [0,3,4,5] [0,3] rfl <| C9 <| G3 (β := Int × List (List Int) × Nat × Int) [(.t 0, _), (.t 5, _)] (fun (z : Int × List (List Int) × Nat × Int) => match z with | (n, rows, g, q) => [(.h 0, .obj 1 4 0 [rdr bs q]), (.t 4, iV n), (.t 3, .sl 3 g none 0 rows.length), (.h 3, .obj g 0 1 (rows.map lF))]) (fun (z : Int × List (List Int) × Nat × Int) => match z with | (n, rows, g, q) => 0 ≤ n ∧ n ≤ 4 ∧ (rows.length : Int) ≤ k0 ∧ p ≤ q ∧ q ≤ p + 2 + 20 * (rows.length : Int) ∧ ∀ c ∈ rows, c.length ≤ 21) (fun (z : Int × List (List Int) × Nat × Int) => match z with | (n, rows, g, q) => 6 - rows.length) (n0, [], _, _) ⟨rfl, rfl, rfl, rfl, rfl, rfl, trivial⟩ ⟨by omega, by omega, by simp; omega, by omega, by simp; try omega, by simp⟩ ?_
 intro z hb
 obtain ⟨n, rows, g, q⟩ := z
 try dsimp only at hb
 obtain ⟨hn1, hn2, hr1, hq1, hq2, hrb⟩ := hb
 refine A4 <| A4 <| A0 <| A3 rfl rfl <| I4 rfl rfl <| A3 rfl rfl <| G7 rfl rfl <| xN [0,3,4,5,16] [0,3] rfl ?_
 refine A7 rfl ?_ ?_ <;> intro hc <;> try simp only [SL] at hc
 ·refine B7 <| C9 <| A4 <| A4 <| A0 <| A3 rfl rfl ?_
  obtain ⟨_, _, ⟨k1, rfl, rfl, hk1, -⟩, hC2⟩ := Q5 bs (q) hbs hl (by omega) (3) (by omega)
  have hk1 := hk1 (by omega)
  apply xC rfl
  ·apply A9
   ·exact I3 rfl (by decide) rfl
   apply A9
   ·exact B2 rfl
   exact C6
  ·exact hC2
  refine ⟨⟨rfl, rfl, rfl, dT rfl, rfl⟩, .inl rfl, F3 rfl rfl rfl B9, C1 rfl, fun _ => rfl, fun g18 => ?_⟩
  refine H8 rfl rfl <| xN [0,3,4,5,19] [0,3] rfl ?_
  refine A7 rfl ?_ ?_ <;> intro hc <;> try simp only [SL] at hc
  ·refine A0 <| A3 rfl rfl ?_
   obtain ⟨_, _, ⟨k2, rfl, rfl, hk2, -⟩, hC3⟩ := Q5 bs (q + 1) hbs hl (by omega) (5) (by omega)
   have hk2 := hk2 (by omega)
   apply xC rfl
   ·apply A9
    ·exact I3 rfl (by decide) rfl
    apply A9
    ·exact B2 rfl
    exact C6
   ·exact hC3
   refine ⟨⟨rfl, rfl, rfl, dT rfl, rfl⟩, .inl rfl, F3 rfl rfl rfl B9, C1 rfl, fun _ => rfl, fun g21 => ?_⟩
   refine A5 rfl rfl rfl <| xN [0,3,4,5] [0,3] rfl <| A0 <| A3 rfl rfl <| A3 rfl rfl <| A3 rfl rfl ?_
   obtain ⟨_, _, ⟨xs, q2, rfl, rfl, hx21, hq3, hq4⟩, hC4⟩ := b8l bs (q + 1 + 1) hbs hl (by omega) k2 (by omega)
   apply xC rfl
   ·apply A9
    ·exact I3 rfl (by decide) rfl
    apply A9
    ·exact B2 rfl
    exact C6
   ·exact hC4
   refine ⟨⟨rfl, rfl, rfl, dT rfl, rfl⟩, .inl rfl, F3 rfl rfl rfl B9, J7, fun _ => rfl, fun g25 => ?_⟩
   simp only [List.length_map]
   refine a3u (φ := iV) rfl rfl (by simp) (fun _ => rfl) rfl rfl rfl rfl (fun _ => rfl) ?_
   intro g26
   rw [show ([.list (List.map iV xs)] : List AV) = List.map lF [xs] from rfl]
   refine E4 rfl rfl rfl rfl (by (simp; done)) (by simp) (by decide) rfl rfl rfl rfl (dT rfl) (fun _ => ⟨rfl, rfl⟩) (by simp only [H6]; (simp only [List.length_nil, List.length_cons, List.length_append, Nat.zero_add, List.length_map]; omega)) (fun _ => rfl) ?_
   intro g27
   (refine B6 rfl rfl (by (simp; done)) rfl (fun _ => (B3 (by exact A6 fun _ => rfl))) (fun _ => rfl) ?_; intro g3)
   refine xN [0,3,4,5] [0,3] rfl ?_
   refine ⟨(k2, rows ++ [xs], _, q2), ?_, (by simp only [List.length_append, List.length_singleton]; omega), ⟨rfl, rfl, rfl, rfl, rfl, rfl, trivial⟩⟩
   refine ⟨by omega, by omega, ?_, by dsimp only; omega, ?_, fun c hc => ?_⟩
   ·simp only [List.length_append, List.length_singleton]; omega
   ·simp only [List.length_append, List.length_singleton]; omega
   rcases List.mem_append.1 hc with hc | hc
   ·exact hrb c hc
   rw [List.mem_singleton.1 hc]; exact hx21
  refine B7 <| A0 <| A3 rfl rfl <| A3 rfl rfl <| A3 rfl rfl ?_
  obtain ⟨_, _, ⟨xs, q2, rfl, rfl, hx21, hq3, hq4⟩, hC4⟩ := b8l bs (q + 1) hbs hl (by omega) n (by omega)
  apply xC rfl
  ·apply A9
   ·exact I3 rfl (by decide) rfl
   apply A9
   ·exact B2 rfl
   exact C6
  ·exact hC4
  refine ⟨⟨rfl, rfl, rfl, dT rfl, rfl⟩, .inl rfl, F3 rfl rfl rfl B9, J7, fun _ => rfl, fun g25 => ?_⟩
  simp only [List.length_map]
  refine a3u (φ := iV) rfl rfl (by simp) (fun _ => rfl) rfl rfl rfl rfl (fun _ => rfl) ?_
  intro g26
  rw [show ([.list (List.map iV xs)] : List AV) = List.map lF [xs] from rfl]
  refine E4 rfl rfl rfl rfl (by (simp; done)) (by simp) (by decide) rfl rfl rfl rfl (dT rfl) (fun _ => ⟨rfl, rfl⟩) (by simp only [H6]; (simp only [List.length_nil, List.length_cons, List.length_append, Nat.zero_add, List.length_map]; omega)) (fun _ => rfl) ?_
  intro g27
  (refine B6 rfl rfl (by (simp; done)) rfl (fun _ => (B3 (by exact A6 fun _ => rfl))) (fun _ => rfl) ?_; intro g3)
  refine xN [0,3,4,5] [0,3] rfl ?_
  refine ⟨(n, rows ++ [xs], _, q2), ?_, (by simp only [List.length_append, List.length_singleton]; omega), ⟨rfl, rfl, rfl, rfl, rfl, rfl, trivial⟩⟩
  refine ⟨by omega, by omega, ?_, by dsimp only; omega, ?_, fun c hc => ?_⟩
  ·simp only [List.length_append, List.length_singleton]; omega
  ·simp only [List.length_append, List.length_singleton]; omega
  rcases List.mem_append.1 hc with hc | hc
  ·exact hrb c hc
  rw [List.mem_singleton.1 hc]; exact hx21
 refine G4 <| A4 <| A0 <| A3 rfl rfl ?_
 (refine B6 rfl rfl (by (simp; done)) rfl (fun _ => (B3 (by exact A6 fun _ => rfl))) (fun _ => rfl) ?_; intro g2)
 refine xN [2] [0,2] rfl <| C2 ?_
 refine ⟨_, _, ?_, a7x rfl rfl (by simp) (by exact A6 fun _ => rfl) (J5 rfl rfl)⟩
 exact ⟨_, _, rfl, rfl, by omega, hrb⟩

theorem keep_s_drawRunShared : G8 Try.f18 = [0, 2, 3, 4, 5, 19, 25, 31, 6, 41, 50, 38, 47, 56, 28] := by kernel_rfl
set_option maxHeartbeats 20000000 in
theorem b0l (bs : List Int) (hbs : a1i bs) (hl : bs.length ≤ 1048576) : ∃ res outs, (fun res outs => ∃ (ss : List Stp) (cols : List (List Int)), res = .tup [.own 4 (ss.map stA), .own 1 (cols.map lF)] ∧ outs = [] ∧ ss.length ≤ 16 ∧ (∀ x ∈ ss, stH x) ∧ cols.length ≤ 5 ∧ ∀ c ∈ cols, c.length ≤ 21) res outs ∧ CW cxT 18 [.list (bs.map uV)] = some (res, outs) := by
 refine N7 rfl Try.func18 rfl ⟨by kernel_rfl, rfl, dT rfl, dT rfl, by decide⟩ keep_s_drawRunShared <| A4 <| A0 ?_
 (refine D3 rfl rfl (fun _ => rfl) ?_; intro g2)
 (refine D3 rfl rfl (fun _ => rfl) ?_; intro g3)
 refine xN [0] [] rfl <| A4 <| A0 <| A3 rfl rfl ?_
 obtain ⟨_, _, ⟨rfl, rfl⟩, hC0⟩ := b8o bs hl
 have hbs2 : a1i (bs.take 2000) := fun b hb => hbs b (List.mem_of_mem_take hb)
 have hl2 : (bs.take 2000).length ≤ 1048576 := by simp; omega
 apply xC rfl
 ·apply A9
  ·exact B2 rfl
  exact C6
 ·exact hC0
 refine ⟨⟨rfl, rfl, rfl, dT rfl, rfl⟩, .inl rfl, B9, c6z, fun _ => rfl, fun g8 => ?_⟩
 (refine a3w rfl rfl rfl rfl (fun _ => F4 rfl) (fun _ => rfl) ?_; intro g4)
 refine xN [4] [4] rfl <| A4 <| A0 <| A3 rfl rfl ?_
 obtain ⟨_, _, ⟨s, q, rfl, rfl, hq1, hq2, hs3⟩, hC1⟩ := c1n (bs.take 2000) 0 hbs2 hl2 (by omega)
 have hs16 := (b9n s).2
 have hsH := b5k (s := s)
 apply xC rfl
 ·apply A9
  ·exact I3 rfl (by decide) rfl
  exact C6
 ·exact hC1
 refine ⟨⟨rfl, rfl, rfl, dT rfl, rfl⟩, .inl rfl, F3 rfl rfl rfl B9, C1 rfl, fun _ => rfl, fun g10 => ?_⟩
 apply xC rfl
 ·apply A9
  ·exact B2 rfl
  exact C6
 ·exact b7x s (by omega)
 refine ⟨⟨rfl, rfl, rfl, dT rfl, rfl⟩, .inl rfl, B9, J7, fun _ => rfl, fun g11 => ?_⟩
 simp only [List.length_map]
 (refine B6 rfl rfl (by (simp; done)) rfl (fun _ => (B3 (by exact A6 fun _ => rfl))) (fun _ => rfl) ?_; intro g5)
 refine xN [4,5] [4,5] rfl <| A4 <| A4 <| A0 <| A3 rfl rfl <| I4 rfl rfl <| N0 rfl rfl <| A3 rfl rfl ?_
 refine B1 rfl rfl ?_ ?_ <;> intro hg0 <;> have hg := hg0 <;> try simp only [SG] at hg
 ·refine A3 rfl rfl <| gT rfl rfl ?_
  obtain ⟨_, _, ⟨k1, rfl, rfl, hk1, -⟩, hC2⟩ := Q5 (bs.take 2000) (q) hbs2 hl2 (by omega) (4) (by omega)
  have hk1 := hk1 (by omega)
  apply xC rfl
  ·apply A9
   ·exact I3 rfl (by decide) rfl
   apply A9
   ·exact B2 rfl
   exact C6
  ·exact hC2
  refine ⟨⟨rfl, rfl, rfl, dT rfl, rfl⟩, .inl rfl, F3 rfl rfl rfl B9, C1 rfl, fun _ => rfl, fun g17 => ?_⟩
  refine gT rfl rfl <| H8 rfl rfl <| B8 rfl (by assumption) rfl rfl <| xN [4,5,19] [4,5] rfl ?_
  refine A7 rfl ?_ ?_ <;> intro hc <;> try simp only [SL] at hc
  ·refine A4 <| A0 <| A3 rfl rfl <| A3 rfl rfl <| I4 rfl rfl ?_
   obtain ⟨_, _, ⟨k0, rfl, rfl, hk0, -⟩, hC3⟩ := Q5 (bs.take 2000) (q + 1) hbs2 hl2 (by omega) ((sharesT s).length) (by omega)
   have hk0 := hk0 (by omega)
   obtain ⟨k, rfl⟩ : ∃ k : Nat, k0 = k := ⟨k0.toNat, by omega⟩
   have hkl : k < (sharesT s).length := by omega
   have hsk := d2g (b5k (s := s)) hkl
   apply xC rfl
   ·apply A9
    ·exact I3 rfl (by decide) rfl
    apply A9
    ·exact B2 rfl
    exact C6
   ·exact hC3
   refine ⟨⟨rfl, rfl, rfl, dT rfl, rfl⟩, .inl rfl, F3 rfl rfl rfl B9, C1 rfl, fun _ => rfl, fun g23 => ?_⟩
   refine A5 rfl rfl rfl <| xN [4,5,6] [4,5] rfl <| A4 <| A0 <| A3 rfl rfl ?_
   obtain ⟨_, _, ⟨k2, rfl, rfl, hk2, -⟩, hC4⟩ := Q5 (bs.take 2000) (q + 1 + 1) hbs2 hl2 (by omega) (4) (by omega)
   have hk2 := hk2 (by omega)
   apply xC rfl
   ·apply A9
    ·exact I3 rfl (by decide) rfl
    apply A9
    ·exact B2 rfl
    exact C6
   ·exact hC4
   refine ⟨⟨rfl, rfl, rfl, dT rfl, rfl⟩, .inl rfl, F3 rfl rfl rfl B9, C1 rfl, fun _ => rfl, fun g25 => ?_⟩
   refine xN [4,5,6,25] [4,5] rfl <| C9 <| A4 <| A0 <| H8 rfl rfl <| A5 rfl rfl rfl <| xN [4,5,6,25,31] [4,5] rfl ?_
   refine A7 rfl ?_ ?_ <;> intro hc <;> try simp only [SL] at hc
   ·refine A0 <| A3 rfl rfl <| A3 rfl rfl <| A3 rfl rfl <| A3 rfl rfl <| C8 (es := List.map iV [0, -1, (k : Int)]) rfl rfl (dT rfl) rfl rfl (fun _ => B3 (A6 fun _ => rfl)) (fun _ => rfl) ?_
    intro g37
    obtain ⟨_, _, ⟨v, rfl, rfl, hv⟩, hC5⟩ := a8e (bs.take 2000) (q + 1 + 1 + 1) hbs2 hl2 (by omega) [0, -1, (k : Int)] (by simp)
    apply xC rfl
    ·apply A9
     ·exact I3 rfl (by decide) rfl
     apply A9
     ·exact I9 rfl rfl (by (simp; done)) (fun _ => rfl)
     exact C6
    ·exact hC5
    refine ⟨⟨rfl, rfl, rfl, dT rfl, rfl⟩, .inl rfl, F3 rfl rfl rfl B9, C1 rfl, fun _ => rfl, fun g38 => ?_⟩
    refine D8 rfl rfl rfl rfl (by omega) (by (simp; done)) rfl <| B0 rfl rfl (dT rfl) rfl rfl <| a3m (y := ((sharesT s).getD k default).sA v) rfl rfl rfl (by omega) rfl ⟨rfl, dT rfl, dT rfl, rfl⟩ (by decide) rfl (by exact B3 (A6 fun _ => rfl)) <| xN [4,5] [4,5] rfl <| A4 <| A0 <| A3 rfl rfl <| A3 rfl rfl ?_
    obtain ⟨_, _, ⟨cs, q9, rfl, rfl, hc5, hc21⟩, hC9⟩ := R8 (bs.take 2000) (q + 1 + 1 + 1 + 1) hbs2 hl2 (by omega)
    apply xC rfl
    ·apply A9
     ·exact I3 rfl (by decide) rfl
     exact C6
    ·exact hC9
    refine ⟨⟨rfl, rfl, rfl, dT rfl, rfl⟩, .inl rfl, F3 rfl rfl rfl B9, J7, fun _ => rfl, fun g61 => ?_⟩
    simp only [List.length_map]
    (refine B6 rfl rfl (by (simp; done)) rfl (fun _ => (B3 (by exact A6 fun _ => rfl))) (fun _ => rfl) ?_; intro g2)
    (refine B6 rfl rfl (by (simp; done)) rfl (fun _ => (B3 (by exact A6 fun _ => rfl))) (fun _ => rfl) ?_; intro g3)
    refine xN [2,3] [2,3] rfl <| C2 ?_
    refine ⟨_, _, ?_, F7 (H4 rfl rfl (by simp) (by exact A6 fun _ => rfl) (H4 rfl rfl (by simp) (by exact A6 fun _ => rfl) (G9 E5))) rfl⟩
    exact ⟨_, _, rfl, rfl, by (simp only [List.length_set]; omega), by exact b1l hsH ⟨hsk.1, hsk.2⟩, hc5, hc21⟩
   refine A4 <| A0 <| H8 rfl rfl <| A5 rfl rfl rfl <| xN [4,5,6,25,41] [4,5] rfl ?_
   refine A7 rfl ?_ ?_ <;> intro hc <;> try simp only [SL] at hc
   ·refine A0 <| A3 rfl rfl <| A3 rfl rfl <| A3 rfl rfl <| C8 (es := List.map tV [[115, 111, 114, 116], [97, 100, 100], [120], [97]]) rfl rfl (dT rfl) rfl rfl (fun _ => B3 (A6 fun _ => rfl)) (fun _ => rfl) ?_
    intro g46
    obtain ⟨_, _, ⟨w, rfl, rfl, hw⟩, hC5⟩ := a8g (bs.take 2000) (q + 1 + 1 + 1) hbs2 hl2 (by omega) [[115, 111, 114, 116], [97, 100, 100], [120], [97]] (by decide)
    have hwb : w.length ≤ 4 := by have hall : ∀ x ∈ ([[115, 111, 114, 116], [97, 100, 100], [120], [97]] : List W8), x.length ≤ 4 := (by decide); exact hall _ hw
    apply xC rfl
    ·apply A9
     ·exact I3 rfl (by decide) rfl
     apply A9
     ·exact I9 rfl rfl (by (simp; done)) (fun _ => rfl)
     exact C6
    ·exact hC5
    refine ⟨⟨rfl, rfl, rfl, dT rfl, rfl⟩, .inl rfl, F3 rfl rfl rfl B9, C1 rfl, fun _ => rfl, fun g47 => ?_⟩
    refine D8 rfl rfl rfl rfl (by omega) (by (simp; done)) rfl <| B0 rfl rfl (dT rfl) rfl rfl <| a3m (y := ((sharesT s).getD k default).sOp (bA w)) rfl rfl rfl (by omega) rfl ⟨rfl, dT rfl, dT rfl, rfl⟩ (by decide) rfl (by exact B3 (A6 fun _ => rfl)) <| xN [4,5] [4,5] rfl <| A4 <| A0 <| A3 rfl rfl <| A3 rfl rfl ?_
    obtain ⟨_, _, ⟨cs, q9, rfl, rfl, hc5, hc21⟩, hC9⟩ := R8 (bs.take 2000) (q + 1 + 1 + 1 + 1) hbs2 hl2 (by omega)
    apply xC rfl
    ·apply A9
     ·exact I3 rfl (by decide) rfl
     exact C6
    ·exact hC9
    refine ⟨⟨rfl, rfl, rfl, dT rfl, rfl⟩, .inl rfl, F3 rfl rfl rfl B9, J7, fun _ => rfl, fun g61 => ?_⟩
    simp only [List.length_map]
    (refine B6 rfl rfl (by (simp; done)) rfl (fun _ => (B3 (by exact A6 fun _ => rfl))) (fun _ => rfl) ?_; intro g2)
    (refine B6 rfl rfl (by (simp; done)) rfl (fun _ => (B3 (by exact A6 fun _ => rfl))) (fun _ => rfl) ?_; intro g3)
    refine xN [2,3] [2,3] rfl <| C2 ?_
    refine ⟨_, _, ?_, F7 (H4 rfl rfl (by simp) (by exact A6 fun _ => rfl) (H4 rfl rfl (by simp) (by exact A6 fun _ => rfl) (G9 E5))) rfl⟩
    exact ⟨_, _, rfl, rfl, by (simp only [List.length_set]; omega), by exact b1l hsH ⟨by show w.length ≤ 10; omega, hsk.2⟩, hc5, hc21⟩
   refine A4 <| A0 <| H8 rfl rfl <| A5 rfl rfl rfl <| xN [4,5,6,50] [4,5] rfl ?_
   refine A7 rfl ?_ ?_ <;> intro hc <;> try simp only [SL] at hc
   ·refine A0 <| A3 rfl rfl <| A3 rfl rfl <| A3 rfl rfl <| C8 (es := List.map iV [0, -1]) rfl rfl (dT rfl) rfl rfl (fun _ => B3 (A6 fun _ => rfl)) (fun _ => rfl) ?_
    intro g55
    obtain ⟨_, _, ⟨v, rfl, rfl, hv⟩, hC5⟩ := a8e (bs.take 2000) (q + 1 + 1 + 1) hbs2 hl2 (by omega) [0, -1] (by decide)
    apply xC rfl
    ·apply A9
     ·exact I3 rfl (by decide) rfl
     apply A9
     ·exact I9 rfl rfl (by (simp; done)) (fun _ => rfl)
     exact C6
    ·exact hC5
    refine ⟨⟨rfl, rfl, rfl, dT rfl, rfl⟩, .inl rfl, F3 rfl rfl rfl B9, C1 rfl, fun _ => rfl, fun g56 => ?_⟩
    refine D8 rfl rfl rfl rfl (by omega) (by (simp; done)) rfl <| B0 rfl rfl (dT rfl) rfl rfl <| a3m (y := ((sharesT s).getD k default).sB v) rfl rfl rfl (by omega) rfl ⟨rfl, dT rfl, dT rfl, rfl⟩ (by decide) rfl (by exact B3 (A6 fun _ => rfl)) <| xN [4,5] [4,5] rfl <| A4 <| A0 <| A3 rfl rfl <| A3 rfl rfl ?_
    obtain ⟨_, _, ⟨cs, q9, rfl, rfl, hc5, hc21⟩, hC9⟩ := R8 (bs.take 2000) (q + 1 + 1 + 1 + 1) hbs2 hl2 (by omega)
    apply xC rfl
    ·apply A9
     ·exact I3 rfl (by decide) rfl
     exact C6
    ·exact hC9
    refine ⟨⟨rfl, rfl, rfl, dT rfl, rfl⟩, .inl rfl, F3 rfl rfl rfl B9, J7, fun _ => rfl, fun g61 => ?_⟩
    simp only [List.length_map]
    (refine B6 rfl rfl (by (simp; done)) rfl (fun _ => (B3 (by exact A6 fun _ => rfl))) (fun _ => rfl) ?_; intro g2)
    (refine B6 rfl rfl (by (simp; done)) rfl (fun _ => (B3 (by exact A6 fun _ => rfl))) (fun _ => rfl) ?_; intro g3)
    refine xN [2,3] [2,3] rfl <| C2 ?_
    refine ⟨_, _, ?_, F7 (H4 rfl rfl (by simp) (by exact A6 fun _ => rfl) (H4 rfl rfl (by simp) (by exact A6 fun _ => rfl) (G9 E5))) rfl⟩
    exact ⟨_, _, rfl, rfl, by (simp only [List.length_set]; omega), by exact b1l hsH ⟨hsk.1, hsk.2⟩, hc5, hc21⟩
   refine A0 <| A3 rfl rfl <| A3 rfl rfl <| C8 (es := List.map iV [1]) rfl rfl (dT rfl) rfl rfl (fun _ => B3 (A6 fun _ => rfl)) (fun _ => rfl) ?_
   intro g28
   refine D8 rfl rfl rfl rfl (by omega) (by (simp; done)) rfl <| B0 rfl rfl (dT rfl) rfl rfl ?_
   refine b6m (φ := iV) (xs := [1]) (j := 3) rfl rfl rfl (getElem?_map_getD (by omega)) rfl rfl (by simp) (fun _ => rfl) rfl rfl (Nat.le_refl 4) (by rw [c4i]; exact B3 (A6 fun _ => rfl)) ?_
   rw [c4i]
   refine xN [4,5] [4,5] rfl <| A4 <| A0 <| A3 rfl rfl <| A3 rfl rfl ?_
   obtain ⟨_, _, ⟨cs, q9, rfl, rfl, hc5, hc21⟩, hC9⟩ := R8 (bs.take 2000) (q + 1 + 1 + 1) hbs2 hl2 (by omega)
   apply xC rfl
   ·apply A9
    ·exact I3 rfl (by decide) rfl
    exact C6
   ·exact hC9
   refine ⟨⟨rfl, rfl, rfl, dT rfl, rfl⟩, .inl rfl, F3 rfl rfl rfl B9, J7, fun _ => rfl, fun g61 => ?_⟩
   simp only [List.length_map]
   (refine B6 rfl rfl (by (simp; done)) rfl (fun _ => (B3 (by exact A6 fun _ => rfl))) (fun _ => rfl) ?_; intro g2)
   (refine B6 rfl rfl (by (simp; done)) rfl (fun _ => (B3 (by exact A6 fun _ => rfl))) (fun _ => rfl) ?_; intro g3)
   refine xN [2,3] [2,3] rfl <| C2 ?_
   refine ⟨_, _, ?_, F7 (H4 rfl rfl (by simp) (by exact A6 fun _ => rfl) (H4 rfl rfl (by simp) (by exact A6 fun _ => rfl) (G9 E5))) rfl⟩
   exact ⟨_, _, rfl, rfl, by (simp only [List.length_set]; omega), by exact b1l hsH ⟨hsk.1, by show ([1] : List Int).length ≤ 10; decide⟩, hc5, hc21⟩
  refine B7 <| A4 <| A0 <| A3 rfl rfl <| A3 rfl rfl ?_
  obtain ⟨_, _, ⟨cs, q9, rfl, rfl, hc5, hc21⟩, hC9⟩ := R8 (bs.take 2000) (q + 1) hbs2 hl2 (by omega)
  apply xC rfl
  ·apply A9
   ·exact I3 rfl (by decide) rfl
   exact C6
  ·exact hC9
  refine ⟨⟨rfl, rfl, rfl, dT rfl, rfl⟩, .inl rfl, F3 rfl rfl rfl B9, J7, fun _ => rfl, fun g61 => ?_⟩
  simp only [List.length_map]
  (refine B6 rfl rfl (by (simp; done)) rfl (fun _ => (B3 (by exact A6 fun _ => rfl))) (fun _ => rfl) ?_; intro g2)
  (refine B6 rfl rfl (by (simp; done)) rfl (fun _ => (B3 (by exact A6 fun _ => rfl))) (fun _ => rfl) ?_; intro g3)
  refine xN [2,3] [2,3] rfl <| C2 ?_
  refine ⟨_, _, ?_, F7 (H4 rfl rfl (by simp) (by exact A6 fun _ => rfl) (H4 rfl rfl (by simp) (by exact A6 fun _ => rfl) (G9 E5))) rfl⟩
  exact ⟨_, _, rfl, rfl, by omega, by exact hsH, hc5, hc21⟩
 refine gF rfl rfl <| gF rfl rfl <| B5 rfl (by assumption) rfl rfl <| xN [4,5,19] [4,5] rfl ?_
 refine A7 rfl (fun hc => absurd hc (by decide)) (fun hc => ?_)
 refine B7 <| A4 <| A0 <| A3 rfl rfl <| A3 rfl rfl ?_
 obtain ⟨_, _, ⟨cs, q9, rfl, rfl, hc5, hc21⟩, hC9⟩ := R8 (bs.take 2000) (q) hbs2 hl2 (by omega)
 apply xC rfl
 ·apply A9
  ·exact I3 rfl (by decide) rfl
  exact C6
 ·exact hC9
 refine ⟨⟨rfl, rfl, rfl, dT rfl, rfl⟩, .inl rfl, F3 rfl rfl rfl B9, J7, fun _ => rfl, fun g61 => ?_⟩
 simp only [List.length_map]
 (refine B6 rfl rfl (by (simp; done)) rfl (fun _ => (B3 (by exact A6 fun _ => rfl))) (fun _ => rfl) ?_; intro g2)
 (refine B6 rfl rfl (by (simp; done)) rfl (fun _ => (B3 (by exact A6 fun _ => rfl))) (fun _ => rfl) ?_; intro g3)
 refine xN [2,3] [2,3] rfl <| C2 ?_
 refine ⟨_, _, ?_, F7 (H4 rfl rfl (by simp) (by exact A6 fun _ => rfl) (H4 rfl rfl (by simp) (by exact A6 fun _ => rfl) (G9 E5))) rfl⟩
 exact ⟨_, _, rfl, rfl, by omega, by exact hsH, hc5, hc21⟩

theorem keep_s_FnRunShared : G8 Try.f4 = [0, 2, 14, 4, 3, 6, 8, 7, 5, 44, 9, 10, 11] := by kernel_rfl
set_option maxHeartbeats 20000000 in
theorem b4j (bs : List Int) (hbs : a1i bs) : CW cxT 4 [.list (bs.map uV)] = some (bV true, []) := by
 refine H0 rfl Try.func4 rfl ⟨by kernel_rfl, rfl, dT rfl, dT rfl, by decide⟩ keep_s_FnRunShared <| A4 <| A0 <| A5 rfl rfl rfl <| xN [0] [] rfl <| A4 <| A4 <| A0 <| A3 rfl rfl <| D9 rfl rfl <| N0 rfl rfl <| xN [0,14] [] rfl ?_
 refine A7 rfl ?_ ?_ <;> intro hc <;> try simp only [SL] at hc
 ·refine A4 <| A0 <| A5 rfl rfl rfl <| xN [2] [] rfl <| C2 <| C4 rfl rfl trivial ?_
  rfl
 refine B7 <| A4 <| A0 <| A3 rfl rfl ?_
 have hl2 : bs.length ≤ 1048576 := by omega
 obtain ⟨_, _, ⟨ss, cols, rfl, rfl, hs16, hsh, hc5, hc21⟩, hC1⟩ := b0l bs hbs hl2
 apply xC rfl
 ·apply A9
  ·exact B2 rfl
  exact C6
 ·exact hC1
 refine ⟨⟨rfl, rfl, rfl, dT rfl, rfl⟩, .inl rfl, B9, K3 (P8 fun _ => P8 fun _ => Q7), fun _ => E7 (B3 (A6 fun _ => rfl)) (E7 (B3 (A6 fun _ => rfl)) (by rfl)), fun g17 => ?_⟩
 simp only [List.length_map]
 refine A3 rfl rfl <| E8 rfl rfl rfl <| E8 rfl rfl rfl ?_
 (refine B6 rfl rfl (by (simp; done)) rfl (fun _ => (B3 (by exact A6 fun _ => rfl))) (fun _ => rfl) ?_; intro g3)
 (refine B6 rfl rfl (by (simp; done)) rfl (fun _ => (B3 (by exact A6 fun _ => rfl))) (fun _ => rfl) ?_; intro g4)
 refine xN [3,4] [3,4] rfl <| A4 <| A0 <| A3 rfl rfl <| A3 rfl rfl ?_
 apply xC rfl
 ·apply A9
  ·exact H3 rfl rfl rfl (by (simp; done)) (fun _ => rfl)
  apply A9
  ·exact H3 rfl rfl rfl (by (simp; done)) (fun _ => rfl)
  exact C6
 ·exact a7u ss ⟨by omega, c7j hsh hs16⟩ cols (by omega) (fun c hc => by have := hc21 c hc; omega)
 refine ⟨⟨rfl, rfl, rfl, dT rfl, rfl⟩, .inr ⟨M4 _ _, rfl⟩, B9, K3 (P8 fun _ => P0 rfl Q7), fun _ => rfl, fun g23 => ?_⟩
 simp only [List.length_map]
 refine A3 rfl rfl <| E8 rfl rfl rfl <| E8 rfl rfl rfl ?_
 (refine B6 rfl rfl (by (simp; done)) rfl (fun _ => (B3 (by exact A6 fun _ => rfl))) (fun _ => rfl) ?_; intro g5)
 refine A5 rfl rfl rfl <| xN [3,4,5,6] [3,4,5] rfl <| A4 <| A0 <| A3 rfl rfl <| A3 rfl rfl ?_
 apply xC rfl
 ·apply A9
  ·exact H3 rfl rfl rfl (by (simp; done)) (fun _ => rfl)
  apply A9
  ·exact H3 rfl rfl rfl (by (simp; done)) (fun _ => rfl)
  exact C6
 ·exact b6s ss ⟨by omega, c7j hsh hs16⟩ cols (by omega) (fun c hc => by have := hc21 c hc; omega)
 refine ⟨⟨rfl, rfl, rfl, dT rfl, rfl⟩, .inr ⟨M4 _ _, rfl⟩, B9, K3 (P8 fun _ => P0 rfl Q7), fun _ => rfl, fun g29 => ?_⟩
 simp only [List.length_map]
 refine A3 rfl rfl <| E8 rfl rfl rfl <| E8 rfl rfl rfl ?_
 (refine B6 rfl rfl (by (simp; done)) rfl (fun _ => (B3 (by exact A6 fun _ => rfl))) (fun _ => rfl) ?_; intro g7)
 refine A5 rfl rfl rfl <| xN [3,4,5,6,7,8] [3,4,5,7] rfl <| A4 <| A4 <| A0 <| A3 rfl rfl <| A3 rfl rfl ?_
 apply xC rfl
 ·apply A9
  ·exact H3 rfl rfl rfl (by (simp; done)) (fun _ => rfl)
  apply A9
  ·exact H3 rfl rfl rfl (by (simp; done)) (fun _ => rfl)
  exact C6
 ·exact a0k ((rsF cols ss).getD []) (by have := b6p cols ss; omega)
 refine ⟨⟨rfl, rfl, rfl, dT rfl, rfl⟩, .inr ⟨rfl, rfl⟩, B9, C1 rfl, fun _ => rfl, fun g34 => ?_⟩
 refine H7 rfl <| A3 rfl rfl <| C0 rfl rfl rfl <| A3 rfl rfl <| C0 rfl rfl rfl <| A3 rfl rfl <| C0 rfl rfl rfl <| d2w rfl rfl rfl <| B5 rfl rfl rfl rfl <| A3 rfl rfl ?_
 refine B1 rfl rfl ?_ ?_ <;> intro hg0 <;> have hg := hg0 <;> try simp only [SG] at hg
 ·refine A3 rfl rfl <| gT rfl rfl <| H7 rfl <| B5 rfl (by assumption) rfl rfl <| xN [3,4,5,6,7,8,44] [3,4,5,7] rfl ?_
  refine A7 rfl ?_ ?_ <;> intro hc <;> try simp only [SL] at hc
  ·refine A4 <| A0 <| A3 rfl rfl <| A3 rfl rfl ?_
   apply xC rfl
   ·apply A9
    ·exact H3 rfl rfl rfl (by (simp; done)) (fun _ => rfl)
    apply A9
    ·exact H3 rfl rfl rfl (by (simp; done)) (fun _ => rfl)
    exact C6
   ·exact a0k ((rsF cols ss).getD []) (by have := b6p cols ss; omega)
   refine ⟨⟨rfl, rfl, rfl, dT rfl, rfl⟩, .inr ⟨rfl, rfl⟩, B9, C1 rfl, fun _ => rfl, fun g47 => ?_⟩
   refine A3 rfl rfl <| C0 rfl rfl rfl <| A3 rfl rfl <| C0 rfl rfl rfl <| A3 rfl rfl <| C0 rfl rfl rfl <| d1i rfl rfl rfl <| B8 rfl rfl rfl rfl <| A5 rfl rfl rfl <| xN [2] [] rfl <| C2 <| C4 rfl rfl trivial ?_
   (simp; done)
  have hsome : (rsF cols ss).isSome = true := by simp_all
  obtain ⟨hrl, hrm⟩ := c8w hsome
  refine B7 <| A4 <| A0 <| C8 (es := List.map lF []) rfl rfl (dT rfl) rfl rfl (fun _ => B3 (A6 fun _ => rfl)) (fun _ => rfl) ?_
  intro g53
  refine A3 rfl rfl <| N4 rfl rfl rfl rfl (by decide) rfl (by (simp; done)) (by omega) rfl rfl rfl (dT rfl) (fun _ => ⟨rfl, rfl, rfl⟩) (by simp only [H6]; (simp only [List.length_nil, List.length_cons, List.length_append, Nat.zero_add, List.length_map]; omega)) (fun _ => rfl) ?_
  intro g55
  refine C8 (es := List.map iV []) rfl rfl (dT rfl) rfl rfl (fun _ => B3 (A6 fun _ => rfl)) (fun _ => rfl) ?_
  intro g56
  refine a3u (φ := iV) (xs := []) rfl rfl (by simp) (fun _ => rfl) rfl rfl rfl rfl (fun _ => rfl) ?_
  intro g57
  rw [show ([.list (List.map iV [])] : List AV) = List.map lF [[]] from rfl]
  refine E4 rfl rfl rfl rfl (by (simp; done)) (by simp) (by decide) rfl rfl rfl rfl (dT rfl) (fun _ => ⟨rfl, rfl⟩) (by simp only [H6]; (simp; omega)) (fun _ => rfl) ?_
  intro g58
  (refine B6 rfl rfl (by (simp; done)) rfl (fun _ => (B3 (by exact A6 fun _ => rfl))) (fun _ => rfl) ?_; intro g9)
  refine xN [3,5,9] [3,5,9] rfl <| A4 <| A0 <| A3 rfl rfl <| A3 rfl rfl ?_
  simp only [List.drop_zero, List.take_length, List.nil_append]
  apply xC rfl
  ·apply A9
   ·exact H3 rfl rfl rfl (by (simp; done)) (fun _ => rfl)
   apply A9
   ·exact H3 rfl rfl rfl (by (simp; done)) (fun _ => rfl)
   exact C6
  ·exact a7u ss ⟨by omega, c7j hsh hs16⟩ (cols ++ [[]]) (by simp; omega) (fun c hc => by rcases List.mem_append.1 hc with hc | hc; (· have := hc21 c hc; omega); (· rw [List.mem_singleton.1 hc]; decide))
  refine ⟨⟨rfl, rfl, rfl, dT rfl, rfl⟩, .inr ⟨M4 _ _, rfl⟩, B9, K3 (P8 fun _ => P0 rfl Q7), fun _ => rfl, fun g62 => ?_⟩
  simp only [List.length_map]
  refine A3 rfl rfl <| E8 rfl rfl rfl <| E8 rfl rfl rfl ?_
  (refine B6 rfl rfl (by (simp; done)) rfl (fun _ => (B3 (by exact A6 fun _ => rfl))) (fun _ => rfl) ?_; intro g10)
  refine A5 rfl rfl rfl <| xN [5,9,10,11] [5,9,10] rfl <| A4 <| A0 <| A3 rfl rfl <| I4 rfl rfl <| a6k rfl rfl <| A3 rfl rfl ?_
  refine B1 rfl rfl ?_ ?_ <;> intro hg0 <;> have hg := hg0 <;> try simp only [SG] at hg
  ·refine A3 rfl rfl <| gT rfl rfl <| I4 rfl rfl <| gT rfl rfl <| N0 rfl rfl <| gT rfl rfl <| A3 rfl rfl ?_
   refine B1 rfl rfl ?_ ?_ <;> intro hg0 <;> have hg := hg0 <;> try simp only [SG] at hg
   ·refine A3 rfl rfl <| gT rfl rfl <| A3 rfl rfl ?_
    refine B1 rfl rfl ?_ ?_ <;> intro hg0 <;> have hg := hg0 <;> try simp only [SG] at hg
    ·refine A3 rfl rfl <| gT rfl rfl <| A3 rfl rfl <| gT rfl rfl ?_
     rw [hrm (by simp only [List.length_append, List.length_cons, List.length_nil] at *; omega)]
     apply xC rfl
     ·apply A9
      ·exact H3 rfl rfl rfl (by (simp; done)) (fun _ => rfl)
      apply A9
      ·exact H3 rfl rfl rfl (by (simp; done)) (fun _ => rfl)
      exact C6
     ·exact a0k ((rsF cols ss).getD []) (by have := b6p cols ss; omega)
     refine ⟨⟨rfl, rfl, rfl, dT rfl, rfl⟩, .inr ⟨rfl, rfl⟩, B9, C1 rfl, fun _ => rfl, fun g77 => ?_⟩
     refine gT rfl rfl <| B8 rfl (by assumption) rfl rfl <| gT rfl rfl <| B5 rfl (by assumption) rfl rfl <| B8 rfl (by assumption) rfl rfl <| A5 rfl rfl rfl <| xN [2] [] rfl <| C2 <| C4 rfl rfl trivial ?_
     rfl
    refine gF rfl rfl <| gF rfl rfl <| gT rfl rfl <| B5 rfl (by assumption) rfl rfl <| gT rfl rfl <| B5 rfl (by assumption) rfl rfl <| B8 rfl (by assumption) rfl rfl <| A5 rfl rfl rfl <| xN [2] [] rfl <| C2 <| C4 rfl rfl trivial ?_
    (exfalso; have h9 := hrm (by simp only [List.length_append, List.length_cons, List.length_nil, List.length_map] at *; omega); rw [h9, hsome] at hg; cases hg; done)
   refine gF rfl rfl <| D4 rfl rfl <| D4 rfl rfl <| D4 rfl rfl <| gF rfl rfl <| gT rfl rfl <| B8 rfl (by assumption) rfl rfl <| B8 rfl (by assumption) rfl rfl <| A5 rfl rfl rfl <| xN [2] [] rfl <| C2 <| C4 rfl rfl trivial ?_
   rfl
  refine gF rfl rfl <| gF rfl rfl <| gF rfl rfl ?_
  iterate 6 refine D4 rfl rfl ?_
  refine gF rfl rfl <| B5 rfl (by assumption) rfl rfl <| A5 rfl rfl rfl <| xN [2] [] rfl <| C2 <| C4 rfl rfl trivial ?_
  (exfalso; omega)
 refine gF rfl rfl <| B8 rfl (by assumption) rfl rfl <| xN [3,4,5,6,7,8,44] [3,4,5,7] rfl ?_
 refine A7 rfl (fun hc => ?_) (fun hc => absurd hc (by decide))
 refine A4 <| A0 <| A3 rfl rfl <| A3 rfl rfl ?_
 apply xC rfl
 ·apply A9
  ·exact H3 rfl rfl rfl (by (simp; done)) (fun _ => rfl)
  apply A9
  ·exact H3 rfl rfl rfl (by (simp; done)) (fun _ => rfl)
  exact C6
 ·exact a0k ((rsF cols ss).getD []) (by have := b6p cols ss; omega)
 refine ⟨⟨rfl, rfl, rfl, dT rfl, rfl⟩, .inr ⟨rfl, rfl⟩, B9, C1 rfl, fun _ => rfl, fun g47 => ?_⟩
 refine A3 rfl rfl <| C0 rfl rfl rfl <| A3 rfl rfl <| C0 rfl rfl rfl <| A3 rfl rfl <| C0 rfl rfl rfl <| d1i rfl rfl rfl <| B8 rfl rfl rfl rfl <| A5 rfl rfl rfl <| xN [2] [] rfl <| C2 <| C4 rfl rfl trivial ?_
 (simp; done)
end Go.Proofs.Ytpjgdgnaeohmeaa
