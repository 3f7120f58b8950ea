/- What each function of the program gives on the abstract machine, part 2 of 2. Conditions: those in front of each theorem. -/
import Derived.Test.YtcpmbhfnapijaaaGreatDoorSa
import Derived.KernelRfl

set_option linter.unusedVariables false
set_option linter.unusedSimpArgs false
namespace Go.Proofs.YtcpmbhfnapijaaaGreatDoor
open Go Go.Mv Go.Proofs
set_option maxRecDepth 100000
set_option maxHeartbeats 20000000
variable {oG : Option Nat} {rG : Nat}

theorem c0e : F4 Tryz.f88 = [0, 1, 2, 6, 7, 16, 17, 21, 25, 9, 30, 8, 41, 10, 46, 62, 11, 67, 71, 91, 13, 96, 12, 109, 113, 120, 126, 14, 130, 145] := by kernel_rfl
theorem c9b (op : ByteArray) (h1 : 1 ≤ nd op) (x y : List Int) (hx : vl x = true) (hy : vl y = true) : CW (cxT oG) 88 [sV op, L x, L y] = some (.tup [.own 1 ((raR op x y).map iV), bV (mkR op x y).isSome], []) := by
 have hx40 := (Q3.1 hx).1
 have hy40 := (Q3.1 hy).1
 have hgx := a0h hx
 have hgy := a0h hy
 have hsx := a3f x
 refine E4 rfl Tryz.func88 rfl ⟨by kernel_rfl, rfl, dT rfl, dT rfl, by decide⟩ c0e <| A3 <| A0 ?_
 (refine B0 rfl rfl (fun _ => rfl) ?_; intro g6)
 refine y_S rfl <| xN [0,1,2] [] rfl <| A3 <| A0 <| B6 (es := List.map iV []) rfl rfl (dT rfl) rfl rfl (fun _ => B1 (A6 fun _ => rfl)) (fun _ => rfl) ?_
 intro g15
 (refine xO rfl rfl (by simp) rfl (fun _ => rfl) (fun _ => rfl) ?_; intro g8)
 refine xN [0,1,2,8] [8] rfl <| c3c <| A3 <| A0 <| y_M rfl <| xN [1,2,8,16] [8] rfl ?_
 refine d6b (β := List Int × Nat × Nat) [] trivial (fun (z : List Int × Nat × Nat) => match z with | (r, n, g) => [(.h 8, .obj g 0 1 (r.map iV)), (.t 8, .sl 8 g none 0 n)]) (fun (z : List Int × Nat × Nat) => match z with | (r, n, g) => T5 op x y = some r ∧ n = r.length ∧ r.length ≤ 80) ?_ ?_
 ·skip
  refine A9 <| A3 <| A0 <| I1 rfl rfl <| y_S rfl <| xN [1,2,8,16,17] [8] rfl ?_
  refine A5 rfl ?_ ?_ <;> intro hc <;> try simp only [SL] at hc
  ·try simp at hc
   refine A0 <| y_M rfl ?_
   apply xC rfl
   ·apply B4
    ·exact B9 rfl
    exact D8
   ·exact d2c x (by omega)
   refine ⟨⟨rfl, rfl, rfl, dT rfl, rfl⟩, .inl rfl, B7, J1, fun _ => rfl, fun g20 => ?_⟩
   simp only [List.length_map]
   (refine xO rfl rfl (by simp) rfl (fun _ => rfl) (fun _ => rfl) ?_; intro g8)
   refine xN [8] [8] rfl ?_
   refine ⟨(_, _, _), ?_, ⟨rfl, rfl, trivial⟩⟩
   exact ⟨(by (simp [T5, *]; done)), (by (simp; done)), (by (simp; omega))⟩
  try simp at hc
  refine A3 <| A0 <| I1 rfl rfl <| y_S rfl <| xN [1,2,8,16,21] [8] rfl ?_
  refine A5 rfl ?_ ?_ <;> intro hc <;> try simp only [SL] at hc
  ·try simp at hc
   refine A0 <| y_M rfl ?_
   apply xC rfl
   ·apply B4
    ·exact B9 rfl
    exact D8
   ·exact d1f x (by omega)
   refine ⟨⟨rfl, rfl, rfl, dT rfl, rfl⟩, .inl rfl, B7, J1, fun _ => rfl, fun g24 => ?_⟩
   simp only [List.length_map]
   (refine xO rfl rfl (by simp) rfl (fun _ => rfl) (fun _ => rfl) ?_; intro g8)
   refine xN [8] [8] rfl ?_
   refine ⟨(_, _, _), ?_, ⟨rfl, rfl, trivial⟩⟩
   exact ⟨(by (simp [T5, *]; done)), (by (simp; done)), (by (simp; omega))⟩
  try simp at hc
  refine A3 <| A0 <| I1 rfl rfl <| y_S rfl <| xN [1,2,8,16,25] [8] rfl ?_
  refine A5 rfl ?_ ?_ <;> intro hc <;> try simp only [SL] at hc
  ·try simp at hc
   refine A3 <| A0 <| y_S rfl <| xN [1,8,9] [8] rfl <| A9 <| F6 (β := Nat × List Int × Nat) [(.t 1, _)] (fun (z : Nat × List Int × Nat) => match z with | (i, l, g) => [(.t 9, iV i), (.h 8, .obj g 0 1 (l.map iV)), (.t 8, .sl 8 g none 0 l.length)]) (fun (z : Nat × List Int × Nat) => match z with | (i, l, g) => i ≤ x.length ∧ l = (List.range i).map (fun i => -(H2 x i))) (fun (z : Nat × List Int × Nat) => match z with | (i, l, g) => x.length - i) (0, [], _) ⟨rfl, rfl, rfl, rfl, trivial⟩ ⟨Nat.zero_le _, rfl⟩ ?_
   intro z hb
   obtain ⟨i, l, g⟩ := z
   try dsimp only at hb
   obtain ⟨hi1, hl⟩ := hb
   have hll : l.length = i := by rw [hl]; simp
   have hgi : -100000 ≤ x.getD i default ∧ x.getD i default ≤ 100000 := hgx i
   have hgyi : -100000 ≤ y.getD i default ∧ y.getD i default ≤ 100000 := hgy i
   refine A3 <| A3 <| A0 <| y_M rfl <| y_M rfl <| C2 rfl rfl <| G1 rfl rfl <| xN [1,8,9,30] [8] rfl ?_
   refine A5 rfl ?_ ?_ <;> intro hc <;> try simp only [SL] at hc
   ·refine A7 <| A3 <| A9 <| A0 <| y_M rfl <| y_M rfl <| y_M rfl <| B8 rfl rfl rfl (fun _ => rfl) (by omega) <| y_I rfl <| b8j rfl (D4 (by omega)) <| B6 (es := List.map iV [_]) rfl rfl (dT rfl) rfl rfl (fun _ => B1 (A6 fun _ => rfl)) (fun _ => rfl) ?_
    intro g39
    refine xA rfl rfl rfl rfl (by simp) (by simp) rfl rfl rfl rfl rfl (fun _ => rfl) (by simp only [LN]; omega) (fun _ => rfl) ?_
    intro g40
    (refine xO rfl rfl (by simp) rfl (fun _ => rfl) (fun _ => rfl) ?_; intro g8)
    refine xN [1,8,9] [8] rfl <| A0 <| y_M rfl <| F3 rfl rfl (D4 (by omega)) <| y_S rfl <| xN [1,8,9] [8] rfl ?_
    refine ⟨(i + 1, l ++ [-(x.getD i default)], _), ?_, (by simp only; omega), ⟨rfl, rfl, rfl, rfl, trivial⟩⟩
    exact ⟨by omega, by rw [hl, U6]; rfl⟩
   refine E6 ?_
   refine ⟨(_, _, _), ?_, ⟨rfl, rfl, trivial⟩⟩
   exact ⟨apF (show l = x.map (fun v => -v) by rw [hl, show i = x.length by omega]; exact a7r x fun v => -v) (by simp [T5, *]), by omega, by omega⟩
  try simp at hc
  refine A3 <| A0 <| I1 rfl rfl <| y_S rfl <| xN [1,2,8,16,41] [8] rfl ?_
  refine A5 rfl ?_ ?_ <;> intro hc <;> try simp only [SL] at hc
  ·try simp at hc
   refine A3 <| A0 <| y_S rfl <| xN [1,8,10] [8] rfl <| A9 <| F6 (β := Nat × List Int × Nat) [(.t 1, _)] (fun (z : Nat × List Int × Nat) => match z with | (i, l, g) => [(.t 10, iV i), (.h 8, .obj g 0 1 (l.map iV)), (.t 8, .sl 8 g none 0 l.length)]) (fun (z : Nat × List Int × Nat) => match z with | (i, l, g) => i ≤ x.length ∧ l = (List.range i).map (fun i => max (H2 x i) (-(H2 x i)))) (fun (z : Nat × List Int × Nat) => match z with | (i, l, g) => x.length - i) (0, [], _) ⟨rfl, rfl, rfl, rfl, trivial⟩ ⟨Nat.zero_le _, rfl⟩ ?_
   intro z hb
   obtain ⟨i, l, g⟩ := z
   try dsimp only at hb
   obtain ⟨hi1, hl⟩ := hb
   have hll : l.length = i := by rw [hl]; simp
   have hgi : -100000 ≤ x.getD i default ∧ x.getD i default ≤ 100000 := hgx i
   have hgyi : -100000 ≤ y.getD i default ∧ y.getD i default ≤ 100000 := hgy i
   refine A3 <| A3 <| A0 <| y_M rfl <| y_M rfl <| C2 rfl rfl <| G1 rfl rfl <| xN [1,8,10,46] [8] rfl ?_
   refine A5 rfl ?_ ?_ <;> intro hc <;> try simp only [SL] at hc
   ·refine A7 <| A3 <| A9 <| A0 <| y_M rfl <| y_M rfl <| y_M rfl <| B8 rfl rfl rfl (fun _ => rfl) (by omega) <| y_I rfl <| y_M rfl <| y_M rfl <| B8 rfl rfl rfl (fun _ => rfl) (by omega) <| y_I rfl <| b8j rfl (D4 (by omega)) <| d8g rfl rfl <| B6 (es := List.map iV [_]) rfl rfl (dT rfl) rfl rfl (fun _ => B1 (A6 fun _ => rfl)) (fun _ => rfl) ?_
    intro g60
    refine xA rfl rfl rfl rfl (by simp) (by simp) rfl rfl rfl rfl rfl (fun _ => rfl) (by simp only [LN]; omega) (fun _ => rfl) ?_
    intro g61
    (refine xO rfl rfl (by simp) rfl (fun _ => rfl) (fun _ => rfl) ?_; intro g8)
    refine J6 ⟨fun _ => ⟨by decide +kernel, by decide +kernel⟩, [(.t 1, _), (.t 8, _), (.t 10, _), (.h 8, _)], ⟨rfl, rfl, rfl, rfl, rfl, rfl, rfl, rfl, trivial⟩, ?_⟩
    refine A0 <| y_M rfl <| F3 rfl rfl (D4 (by omega)) <| y_S rfl <| xN [1,8,10] [8] rfl ?_
    refine ⟨(i + 1, l ++ [max (x.getD i default) (-(x.getD i default))], _), ?_, (by simp only; omega), ⟨rfl, rfl, rfl, rfl, trivial⟩⟩
    exact ⟨by omega, by rw [hl, U6]; rfl⟩
   refine E6 ?_
   refine ⟨(_, _, _), ?_, ⟨rfl, rfl, trivial⟩⟩
   exact ⟨apF (show l = x.map (fun v => max v (-v)) by rw [hl, show i = x.length by omega]; exact a7r x fun v => max v (-v)) (by simp [T5, *]), by omega, by omega⟩
  try simp at hc
  refine A3 <| A0 <| I1 rfl rfl <| y_S rfl <| xN [1,2,8,16,62] [8] rfl ?_
  refine A5 rfl ?_ ?_ <;> intro hc <;> try simp only [SL] at hc
  ·try simp at hc
   refine A3 <| A0 <| y_S rfl <| xN [1,8,11] [8] rfl <| A9 <| F6 (β := Nat × List Int × Nat) [(.t 1, _)] (fun (z : Nat × List Int × Nat) => match z with | (i, l, g) => [(.t 11, iV i), (.h 8, .obj g 0 1 (l.map iV)), (.t 8, .sl 8 g none 0 l.length)]) (fun (z : Nat × List Int × Nat) => match z with | (i, l, g) => i ≤ x.length ∧ l = (List.range i).map (fun i => if i = 0 then H2 x 0 else H2 x i - H2 x (i - 1))) (fun (z : Nat × List Int × Nat) => match z with | (i, l, g) => x.length - i) (0, [], _) ⟨rfl, rfl, rfl, rfl, trivial⟩ ⟨Nat.zero_le _, rfl⟩ ?_
   intro z hb
   obtain ⟨i, l, g⟩ := z
   try dsimp only at hb
   obtain ⟨hi1, hl⟩ := hb
   have hll : l.length = i := by rw [hl]; simp
   have hgi : -100000 ≤ x.getD i default ∧ x.getD i default ≤ 100000 := hgx i
   have hgyi : -100000 ≤ y.getD i default ∧ y.getD i default ≤ 100000 := hgy i
   refine A3 <| A3 <| A0 <| y_M rfl <| y_M rfl <| C2 rfl rfl <| G1 rfl rfl <| xN [1,8,11,67] [8] rfl ?_
   refine A5 rfl ?_ ?_ <;> intro hc <;> try simp only [SL] at hc
   ·refine A7 <| A3 <| A9 <| A3 <| A0 <| y_M rfl <| S7 rfl rfl <| xN [1,8,11,71] [8] rfl ?_
    refine A5 rfl ?_ ?_ <;> intro hc <;> try simp only [SL] at hc
    ·refine A0 <| y_M rfl <| y_M rfl <| B8 rfl rfl rfl (fun _ => rfl) (by (change 0 < _; omega)) <| y_I rfl <| B6 (es := List.map iV [_]) rfl rfl (dT rfl) rfl rfl (fun _ => B1 (A6 fun _ => rfl)) (fun _ => rfl) ?_
     intro g76
     refine xA rfl rfl rfl rfl (by simp) (by simp) rfl rfl rfl rfl rfl (fun _ => rfl) (by simp only [LN]; omega) (fun _ => rfl) ?_
     intro g77
     (refine xO rfl rfl (by simp) rfl (fun _ => rfl) (fun _ => rfl) ?_; intro g8)
     refine xN [1,8,11] [8] rfl <| A0 <| y_M rfl <| F3 rfl rfl (D4 (by omega)) <| y_S rfl <| xN [1,8,11] [8] rfl ?_
     refine ⟨(i + 1, l ++ [x.getD 0 default], _), ?_, (by simp only; omega), ⟨rfl, rfl, rfl, rfl, trivial⟩⟩
     exact ⟨by omega, by rw [hl, U6, if_pos (by omega)]; rfl⟩
    refine A0 <| y_M rfl <| y_M rfl <| y_M rfl <| B8 rfl rfl rfl (fun _ => rfl) (by omega) <| y_I rfl <| y_M rfl <| y_M rfl <| V2 rfl rfl (D4 (by omega)) ?_
    rw [show ((i : Int) - 1) = ((i - 1 : Nat) : Int) by omega]
    have hgi2 : -100000 ≤ x.getD (i - 1) default ∧ x.getD (i - 1) default ≤ 100000 := hgx (i - 1)
    refine B8 rfl rfl rfl (fun _ => rfl) (by omega) <| y_I rfl <| V2 rfl rfl (D4 (by omega)) <| B6 (es := List.map iV [_]) rfl rfl (dT rfl) rfl rfl (fun _ => B1 (A6 fun _ => rfl)) (fun _ => rfl) ?_
    intro g89
    refine xA rfl rfl rfl rfl (by simp) (by simp) rfl rfl rfl rfl rfl (fun _ => rfl) (by simp only [LN]; omega) (fun _ => rfl) ?_
    intro g90
    (refine xO rfl rfl (by simp) rfl (fun _ => rfl) (fun _ => rfl) ?_; intro g8)
    refine J6 ⟨fun _ => ⟨by decide +kernel, by decide +kernel⟩, [(.t 1, _), (.t 8, _), (.t 11, _), (.h 8, _)], ⟨rfl, rfl, rfl, rfl, rfl, rfl, rfl, rfl, trivial⟩, ?_⟩
    refine A0 <| y_M rfl <| F3 rfl rfl (D4 (by omega)) <| y_S rfl <| xN [1,8,11] [8] rfl ?_
    refine ⟨(i + 1, l ++ [x.getD i default - x.getD (i - 1) default], _), ?_, (by simp only; omega), ⟨rfl, rfl, rfl, rfl, trivial⟩⟩
    exact ⟨by omega, by rw [hl, U6, if_neg (by omega)]; rfl⟩
   refine E6 ?_
   refine ⟨(_, _, _), ?_, ⟨rfl, rfl, trivial⟩⟩
   exact ⟨apF (show l = dfI x by rw [hl, show i = x.length by omega]; rfl) (by simp [T5, *]), by omega, by omega⟩
  try simp at hc
  refine A3 <| A0 <| I1 rfl rfl <| y_S rfl <| xN [1,2,8,16,91] [8] rfl ?_
  refine A5 rfl ?_ ?_ <;> intro hc <;> try simp only [SL] at hc
  ·try simp at hc
   refine A3 <| A0 <| y_S rfl <| xN [1,8,12] [8] rfl <| A3 <| A0 <| y_S rfl <| xN [1,8,12,13] [8] rfl <| A9 <| F6 (β := Nat × Int × List Int × Nat) [(.t 1, _)] (fun (z : Nat × Int × List Int × Nat) => match z with | (i, s, l, g) => [(.t 13, iV i), (.t 12, iV s), (.h 8, .obj g 0 1 (l.map iV)), (.t 8, .sl 8 g none 0 l.length)]) (fun (z : Nat × Int × List Int × Nat) => match z with | (i, s, l, g) => i ≤ x.length ∧ s = prS (H2 x) i ∧ l = (List.range i).map fun i => prS (H2 x) (i + 1)) (fun (z : Nat × Int × List Int × Nat) => match z with | (i, s, l, g) => x.length - i) (0, 0, [], _) ⟨rfl, rfl, rfl, rfl, rfl, trivial⟩ ⟨Nat.zero_le _, rfl, rfl⟩ ?_
   intro z hb
   obtain ⟨i, s, l, g⟩ := z
   try dsimp only at hb
   obtain ⟨hi1, hs, hl⟩ := hb
   have hll : l.length = i := by rw [hl]; simp
   have hgi : -100000 ≤ x.getD i default ∧ x.getD i default ≤ 100000 := hgx i
   have hsb := c5j hx i
   rw [← hs] at hsb
   refine A3 <| A3 <| A0 <| y_M rfl <| y_M rfl <| C2 rfl rfl <| G1 rfl rfl <| xN [1,8,12,13,96] [8] rfl ?_
   refine A5 rfl ?_ ?_ <;> intro hc <;> try simp only [SL] at hc
   ·refine A7 <| A3 <| A9 <| A3 <| A0 <| y_M rfl <| y_M rfl <| y_M rfl <| B8 rfl rfl rfl (fun _ => rfl) (by omega) <| y_I rfl <| F3 rfl rfl (D4 (by omega)) <| y_S rfl <| xN [1,8,12,13] [8] rfl <| A0 <| y_M rfl <| y_M rfl <| B6 (es := List.map iV [_]) rfl rfl (dT rfl) rfl rfl (fun _ => B1 (A6 fun _ => rfl)) (fun _ => rfl) ?_
    intro g107
    refine xA rfl rfl rfl rfl (by simp) (by simp) rfl rfl rfl rfl rfl (fun _ => rfl) (by simp only [LN]; omega) (fun _ => rfl) ?_
    intro g108
    (refine xO rfl rfl (by simp) rfl (fun _ => rfl) (fun _ => rfl) ?_; intro g8)
    refine xN [1,8,12,13] [8] rfl <| A0 <| y_M rfl <| F3 rfl rfl (D4 (by omega)) <| y_S rfl <| xN [1,8,12,13] [8] rfl ?_
    refine ⟨(i + 1, s + x.getD i default, l ++ [s + x.getD i default], _), ?_, (by simp only; omega), ⟨rfl, rfl, rfl, rfl, rfl, trivial⟩⟩
    exact ⟨by omega, by rw [prS, hs]; rfl, by rw [hl, U6, prS, hs]; rfl⟩
   refine E6 ?_
   refine ⟨(_, _, _), ?_, ⟨rfl, rfl, trivial⟩⟩
   exact ⟨apF (show l = smI x by rw [hl, show i = x.length by omega]; rfl) (by simp [T5, *]), by omega, by omega⟩
  try simp at hc
  refine A3 <| A0 <| I1 rfl rfl <| y_S rfl <| xN [1,2,8,16,109] [8] rfl ?_
  refine A5 rfl ?_ ?_ <;> intro hc <;> try simp only [SL] at hc
  ·try simp at hc
   refine A0 <| y_M rfl ?_
   apply xC rfl
   ·apply B4
    ·exact B9 rfl
    exact D8
   ·exact d4m x hx
   refine ⟨⟨rfl, rfl, rfl, dT rfl, rfl⟩, .inl rfl, B7, J1, fun _ => rfl, fun g112 => ?_⟩
   simp only [List.length_map]
   (refine xO rfl rfl (by simp) rfl (fun _ => rfl) (fun _ => rfl) ?_; intro g8)
   refine xN [8] [8] rfl ?_
   refine ⟨(_, _, _), ?_, ⟨rfl, rfl, trivial⟩⟩
   exact ⟨(by (simp [T5, rkI, *]; done)), (by (simp [dfI, smI, rkI, adI]; done)), (by (simp; omega))⟩
  try simp at hc
  refine A3 <| A0 <| I1 rfl rfl <| y_S rfl <| xN [1,2,8,16,113] [8] rfl ?_
  refine A5 rfl ?_ ?_ <;> intro hc <;> try simp only [SL] at hc
  ·try simp at hc
   refine A0 <| y_M rfl <| y_M rfl ?_
   refine xC1 rfl rfl (d8t x hx) ⟨rfl, rfl, rfl⟩ rfl rfl fun g117 => ?_
   refine B6 (es := List.map iV [_]) rfl rfl (dT rfl) rfl rfl (fun _ => B1 (A6 fun _ => rfl)) (fun _ => rfl) ?_
   intro g118
   refine xA rfl rfl rfl rfl (by simp) (by simp) rfl rfl rfl rfl rfl (fun _ => rfl) (by simp only [LN]; omega) (fun _ => rfl) ?_
   intro g119
   (refine xO rfl rfl (by simp) rfl (fun _ => rfl) (fun _ => rfl) ?_; intro g8)
   refine xN [8] [8] rfl ?_
   refine ⟨(_, _, _), ?_, ⟨rfl, rfl, trivial⟩⟩
   exact ⟨(by (simp [T5, *]; done)), (by (simp; done)), (by (simp; done))⟩
  try simp at hc
  refine A3 <| A0 <| I1 rfl rfl <| y_S rfl <| xN [1,2,8,16,120] [8] rfl ?_
  refine A5 rfl ?_ ?_ <;> intro hc <;> try simp only [SL] at hc
  ·try simp at hc
   refine A3 <| A3 <| A0 <| y_M rfl <| C2 rfl rfl <| y_M rfl <| C2 rfl rfl <| b8v rfl rfl <| xN [1,2,8,126] [8] rfl ?_
   refine A5 rfl ?_ ?_ <;> intro hc <;> try simp only [SL] at hc
   ·refine A3 <| A0 ?_
    (refine B0 rfl rfl (fun _ => rfl) ?_; intro g6)
    refine y_S rfl <| xN [6,7] [6] rfl <| A8 <| B5 (G2 rfl rfl (by simp) (by rfl) (C7 rfl rfl (C3 B2))) ?_
    have hne : ¬ x.length = y.length := by omega
    rw [show mkR op x y = none from by simp [mkR, T5, *], show raR op x y = [] from by simp [raR, T5, *]]
    rfl
   refine A7 <| A3 <| A0 <| y_S rfl <| xN [1,2,8,14] [8] rfl <| A9 <| F6 (β := Nat × List Int × Nat) [(.t 1, _), (.t 2, _)] (fun (z : Nat × List Int × Nat) => match z with | (i, l, g) => [(.t 14, iV i), (.h 8, .obj g 0 1 (l.map iV)), (.t 8, .sl 8 g none 0 l.length)]) (fun (z : Nat × List Int × Nat) => match z with | (i, l, g) => i ≤ x.length ∧ l = (List.range i).map (fun i => H2 x i + H2 y i)) (fun (z : Nat × List Int × Nat) => match z with | (i, l, g) => x.length - i) (0, [], _) ⟨rfl, rfl, rfl, rfl, rfl, trivial⟩ ⟨Nat.zero_le _, rfl⟩ ?_
   intro z hb
   obtain ⟨i, l, g⟩ := z
   try dsimp only at hb
   obtain ⟨hi1, hl⟩ := hb
   have hll : l.length = i := by rw [hl]; simp
   have hgi : -100000 ≤ x.getD i default ∧ x.getD i default ≤ 100000 := hgx i
   have hgyi : -100000 ≤ y.getD i default ∧ y.getD i default ≤ 100000 := hgy i
   refine A3 <| A3 <| A0 <| y_M rfl <| y_M rfl <| C2 rfl rfl <| G1 rfl rfl <| xN [1,2,8,14,130] [8] rfl ?_
   refine A5 rfl ?_ ?_ <;> intro hc <;> try simp only [SL] at hc
   ·refine A7 <| A3 <| A9 <| A0 <| y_M rfl <| y_M rfl <| y_M rfl <| B8 rfl rfl rfl (fun _ => rfl) (by omega) <| y_I rfl <| y_M rfl <| y_M rfl <| B8 rfl rfl rfl (fun _ => rfl) (by omega) <| y_I rfl <| F3 rfl rfl (D4 (by omega)) <| B6 (es := List.map iV [_]) rfl rfl (dT rfl) rfl rfl (fun _ => B1 (A6 fun _ => rfl)) (fun _ => rfl) ?_
    intro g143
    refine xA rfl rfl rfl rfl (by simp) (by simp) rfl rfl rfl rfl rfl (fun _ => rfl) (by simp only [LN]; omega) (fun _ => rfl) ?_
    intro g144
    (refine xO rfl rfl (by simp) rfl (fun _ => rfl) (fun _ => rfl) ?_; intro g8)
    refine J6 ⟨fun _ => ⟨by decide +kernel, by decide +kernel⟩, [(.t 1, _), (.t 2, _), (.t 8, _), (.t 14, _), (.h 8, _)], ⟨rfl, rfl, rfl, rfl, rfl, rfl, rfl, rfl, rfl, rfl, trivial⟩, ?_⟩
    refine A0 <| y_M rfl <| F3 rfl rfl (D4 (by omega)) <| y_S rfl <| xN [1,2,8,14] [8] rfl ?_
    refine ⟨(i + 1, l ++ [x.getD i default + y.getD i default], _), ?_, (by simp only; omega), ⟨rfl, rfl, rfl, rfl, rfl, trivial⟩⟩
    exact ⟨by omega, by rw [hl, U6]; rfl⟩
   refine E6 ?_
   refine ⟨(_, _, _), ?_, ⟨rfl, rfl, trivial⟩⟩
   exact ⟨adF (by assumption) (by omega) (by rw [hl, show i = x.length by omega]; rfl) rfl, by omega, by omega⟩
  try simp at hc
  refine A3 <| A0 <| I1 rfl rfl <| y_S rfl <| xN [1,2,8,145] [8] rfl ?_
  refine A5 rfl ?_ ?_ <;> intro hc <;> try simp only [SL] at hc
  ·try simp at hc
   refine A0 <| y_M rfl <| y_M rfl <| Q8 rfl rfl rfl (by (simp; done)) rfl rfl rfl (dT rfl) (fun _ => ⟨rfl, rfl, rfl⟩) (by simp only [H4]; (simp only [List.length_nil, List.length_cons, List.length_append, Nat.zero_add, List.length_map]; omega)) (fun _ => rfl) ?_
   intro g149
   refine y_M rfl <| Q8 rfl rfl rfl (by (simp; done)) rfl rfl rfl (dT rfl) (fun _ => ⟨rfl, rfl, rfl⟩) (by simp only [H4]; (simp only [List.length_nil, List.length_cons, List.length_append, Nat.zero_add, List.length_map]; omega)) (fun _ => rfl) ?_
   intro g151
   (refine xO rfl rfl (by simp) rfl (fun _ => rfl) (fun _ => rfl) ?_; intro g8)
   refine xN [8] [8] rfl ?_
   refine ⟨(_, _, _), ?_, ⟨rfl, rfl, trivial⟩⟩
   exact ⟨(by (simp [T5, *]; done)), (by (simp; done)), (by (simp; omega))⟩
  try simp at hc
  refine A7 ?_
  refine ⟨(_, _, _), ?_, ⟨rfl, rfl, trivial⟩⟩
  exact absurd (d3i h1) (by simp [*])
 intro z hb
 obtain ⟨r, n, g⟩ := z
 try dsimp only at hb
 obtain ⟨hraw, hn, hr80⟩ := hb
 subst hn
 refine A3 <| A0 <| y_M rfl <| y_M rfl ?_
 apply xC rfl
 ·apply B4
  ·exact J4 rfl rfl rfl (by (simp; done)) (fun _ => rfl)
  exact D8
 ·exact c5g r (by omega)
 refine ⟨⟨rfl, rfl, rfl, dT rfl, rfl⟩, .inr ⟨rfl, rfl⟩, B7, H6 rfl, fun _ => rfl, fun g154 => ?_⟩
 (refine xO rfl rfl (by simp) rfl (fun _ => rfl) (fun _ => rfl) ?_; intro g6)
 refine y_S rfl <| xN [6,7] [6] rfl <| A8 <| B5 (G2 rfl rfl (by simp) (by exact A6 fun _ => rfl) (C7 rfl rfl (C3 B2))) ?_
 rw [raR, mkR, hraw, Option.bind_some, Option.getD_some]
 cases hvr : vl r <;> rfl

theorem c2h : F4 Tryz.f59 = [0, 1, 4, 5, 2, 14, 24, 23, 25, 22, 8, 10, 35, 9, 6] := by kernel_rfl
theorem d4q (t : Pl) (hgd : t.good) (hwf : t.wf) (cols : List (List Int)) (hvc : vcs cols = true) (hc4 : cols.length ≤ 1048576) (hcb : ∀ c ∈ cols, c.length ≤ 1048576) : CW (cxT oG) 59 [trK t, M cols] = some (.tup [.own 1 (((a2b cols t).getD []).map iV), bV (a2b cols t).isSome], []) := by
 obtain ⟨kk, hkk⟩ : ∃ kk : Nat, t.sz < kk := ⟨_, Nat.lt_succ_self _⟩
 revert t
 induction kk with
 | zero => intro t hgd hwf hkk; exact absurd hkk (Nat.not_lt_zero _)
 | succ kk ih =>
  intro t hgd hwf hkk
  refine E4 rfl Tryz.func59 rfl ⟨by kernel_rfl, rfl, dT rfl, dT rfl, by decide⟩ c2h <| A3 <| A0 ?_
  rcases t with ns | w | ⟨w, p⟩ | ⟨w, p, q⟩
  ·rw [c0a]
   have hvl := a9h (show vd ns = true from hgd)
   refine a1d rfl rfl rfl (fun _ => M4 rfl) (fun _ => rfl) ?_
   intro g2
   (refine B0 rfl rfl (fun _ => rfl) ?_; intro g4)
   refine y_S rfl <| xN [1,2] [2] rfl <| A3 <| A3 <| A0 <| y_F rfl <| y_L rfl <| C2 rfl rfl <| S7 rfl rfl <| xN [1,2,14] [2] rfl ?_
   refine A5 rfl (fun hc => ?_) (fun hc => absurd hc (by decide))
   refine A3 <| A0 <| y_F rfl <| y_L rfl <| y_F rfl <| y_L rfl <| y_M rfl ?_
   apply xC rfl
   ·apply B4
    ·exact B9 rfl
    apply B4
    ·exact B9 rfl
    apply B4
    ·exact B9 rfl
    exact D8
   ·exact d0l ns (by omega) cols
   refine ⟨⟨rfl, rfl, rfl, dT rfl, rfl⟩, .inl rfl, B7, J1, fun _ => rfl, fun g20 => ?_⟩
   simp only [List.length_map]
   (refine xO rfl rfl (by simp) rfl (fun _ => rfl) (fun _ => rfl) ?_; intro g4)
   refine y_S rfl <| xN [4,5] [4] rfl <| A8 <| B5 (G2 rfl rfl (by simp) (by exact A6 fun _ => rfl) (C7 rfl rfl (C3 B2))) ?_
   rfl
  ·rw [b9h]
   have hwl : rch (bA w) = 0 := hwf
   obtain ⟨⟨k, hk, ek⟩, -⟩ := d6v hwl
   have hci := d7c hk
   refine a1d rfl rfl rfl (fun _ => M4 rfl) (fun _ => rfl) ?_
   intro g2
   (refine B0 rfl rfl (fun _ => rfl) ?_; intro g4)
   refine y_S rfl <| xN [1,2] [2] rfl <| A3 <| A3 <| A0 <| y_F rfl <| y_L rfl <| C2 rfl rfl <| S7 rfl rfl <| xN [1,2,14] [2] rfl ?_
   refine A5 rfl (fun hc => ?_) (fun hc => absurd hc (by decide))
   refine A3 <| A0 <| y_F rfl <| y_L rfl <| y_F rfl <| y_L rfl <| y_M rfl ?_
   apply xC rfl
   ·apply B4
    ·exact B9 rfl
    apply B4
    ·exact B9 rfl
    apply B4
    ·exact B9 rfl
    exact D8
   ·exact (by have hi := d2v (oG := oG) k hk [] cols hc4 hcb; rw [← ek] at hi; exact hi)
   refine ⟨⟨rfl, rfl, rfl, dT rfl, rfl⟩, .inl rfl, B7, J1, fun _ => rfl, fun g20 => ?_⟩
   simp only [List.length_map]
   (refine xO rfl rfl (by simp) rfl (fun _ => rfl) (fun _ => rfl) ?_; intro g4)
   refine y_S rfl <| xN [4,5] [4] rfl <| A8 <| B5 (G2 rfl rfl (by simp) (by exact A6 fun _ => rfl) (C7 rfl rfl (C3 B2))) ?_
   rw [a2b, ek, hci]
   rfl
  ·rw [c7c]
   have hsz1 : (Pl.un w p).sz = p.sz + 1 := rfl
   have hn : nd (bA w) = 1 := (S3 (by have h := hwf.1; omega)).trans hwf.1
   refine a1d rfl rfl rfl (fun _ => M4 rfl) (fun _ => rfl) ?_
   intro g2
   (refine B0 rfl rfl (fun _ => rfl) ?_; intro g4)
   refine y_S rfl <| xN [1,2] [2] rfl <| A3 <| A3 <| A0 <| y_F rfl <| y_L rfl <| C2 rfl rfl <| S7 rfl rfl <| xN [1,2,14] [2] rfl ?_
   refine A5 rfl (fun hc => absurd hc (by exact fun h => Bool.noConfusion (show false = true from h))) (fun hc => ?_)
   refine A7 <| A3 <| A0 ?_
   (refine B0 rfl rfl (fun _ => rfl) ?_; intro g6)
   refine xN [1,2,6] [2,6] rfl <| A3 <| A3 <| A0 <| y_F rfl <| y_L rfl <| C2 rfl rfl <| y_M rfl <| xN [1,2,6,22,23,24] [2,6] rfl <| A9 <| F8 <| A3 <| A0 <| G1 rfl rfl <| xN [1,2,6,22,23,24,25] [2,6] rfl <| A3 ?_
   refine A5 rfl (fun hc => ?_) (fun hc => absurd hc (by exact fun h => Bool.noConfusion (show true = false from h)))
   refine A7 <| A3 <| A9 <| A3 <| A0 <| I4 rfl rfl rfl (fun _ => rfl) (by show (0 : Int) ≤ 0 ∧ (0 : Int) < ((1 : Nat) : Int); omega) <| y_I rfl <| y_A rfl (fun _ => rfl) ?_
   intro g8
   refine xB rfl rfl rfl rfl rfl rfl rfl rfl rfl <| xN [1,2,6,8,22,23,24] [2,6,8] rfl <| A3 <| A0 <| y_B rfl <| y_M rfl ?_
   apply xC rfl
   ·apply B4
    ·exact B9 rfl
    apply B4
    ·exact B9 rfl
    exact D8
   ·exact (by have hi := ih p hgd.2.2 hwf.2 (by omega); rw [← N3] at hi; exact hi)
   refine ⟨⟨rfl, rfl, rfl, dT rfl, rfl⟩, .inr ⟨J7 _ _, rfl⟩, B7, H1 (M1 fun _ => H9 rfl M0), fun _ => rfl, fun g31 => ?_⟩
   simp only [List.length_map]
   refine y_M rfl <| y_E rfl <| y_E rfl ?_
   (refine xO rfl rfl (by simp) rfl (fun _ => rfl) (fun _ => rfl) ?_; intro g9)
   refine y_S rfl <| xN [1,2,6,9,10,22,23,24] [2,6,9] rfl <| A3 <| A3 <| A0 <| y_M rfl <| I8 rfl <| xN [1,2,6,9,22,23,24,35] [2,6,9] rfl ?_
   refine A5 rfl ?_ ?_ <;> intro hc <;> try simp only [SL] at hc
   ·refine A3 <| A0 ?_
    (refine B0 rfl rfl (fun _ => rfl) ?_; intro g4)
    refine y_S rfl <| xN [4,5] [4] rfl <| A8 <| B5 (G2 rfl rfl (by simp) (by rfl) (C7 rfl rfl (C3 B2))) ?_
    have hno : a2b cols p = none := by simpa using hc
    show AV.tup [.own 1 [], bV false] = _
    rw [a2b, hno]
    rfl
   obtain ⟨x, hx⟩ := Option.isSome_iff_exists.1 (show (a2b cols p).isSome = true by assumption)
   rw [hx]
   have hvx := c6s hvc (hgd.2.2) hx
   simp only [Option.getD_some]
   refine A7 <| A0 <| y_M rfl <| y_M rfl <| a5g rfl rfl (by simp) rfl rfl rfl (fun _ => rfl) ?_
   intro g38
   refine O9 (f := oI) (xs := []) (ys := [x]) rfl rfl rfl rfl (by simp) (by simp) (by decide) rfl rfl rfl rfl (dT rfl) (fun a => ⟨rfl, a8a a⟩) (by simp only [H4]; simp) (fun _ => rfl) ?_
   intro g39
   (refine xO rfl rfl (by simp) rfl (fun _ => rfl) (fun _ => rfl) ?_; intro g6)
   refine xN [1,2,6,22,23,24] [2,6] rfl <| A0 <| F3 rfl rfl (D4 (by omega)) <| y_M rfl <| xN [1,2,6,22,23,24] [2,6] rfl <| F8 <| A3 <| A0 <| G1 rfl rfl <| xN [1,2,6,22,23,24,25] [2,6] rfl <| A3 ?_
   refine A5 rfl (fun hc => absurd hc (by exact fun h => Bool.noConfusion (show false = true from h))) (fun hc => ?_)
   refine E6 <| A3 <| A0 <| y_F rfl <| y_L rfl <| y_M rfl ?_
   apply xC rfl
   ·apply B4
    ·exact B9 rfl
    apply B4
    ·exact a8h rfl rfl rfl (by (simp; done))
    exact D8
   ·exact c5w (bA w) (by omega) x [] hvx d5m [x] (by simp) (by (intro h; omega)) rfl (by (intro _; rfl))
   refine ⟨⟨rfl, rfl, rfl, dT rfl, rfl⟩, .inr ⟨J7 _ _, rfl⟩, B7, H1 (M1 fun _ => H9 rfl M0), fun _ => rfl, fun g44 => ?_⟩
   simp only [List.length_map]
   refine y_E rfl <| y_E rfl ?_
   (refine xO rfl rfl (by simp) rfl (fun _ => rfl) (fun _ => rfl) ?_; intro g4)
   refine y_S rfl <| xN [4,5] [4] rfl <| A8 <| B5 (G2 rfl rfl (by simp) (by exact A6 fun _ => rfl) (C7 rfl rfl (C3 B2))) ?_
   rw [a2b, hx, Option.bind_some]
   rfl
  rw [c1c]
  have hsz1 : (Pl.bin w p q).sz = p.sz + q.sz + 1 := rfl
  have hn : nd (bA w) = 2 := (S3 (by have h := hwf.1; omega)).trans hwf.1
  refine a1d rfl rfl rfl (fun _ => M4 rfl) (fun _ => rfl) ?_
  intro g2
  (refine B0 rfl rfl (fun _ => rfl) ?_; intro g4)
  refine y_S rfl <| xN [1,2] [2] rfl <| A3 <| A3 <| A0 <| y_F rfl <| y_L rfl <| C2 rfl rfl <| S7 rfl rfl <| xN [1,2,14] [2] rfl ?_
  refine A5 rfl (fun hc => absurd hc (by exact fun h => Bool.noConfusion (show false = true from h))) (fun hc => ?_)
  refine A7 <| A3 <| A0 ?_
  (refine B0 rfl rfl (fun _ => rfl) ?_; intro g6)
  refine xN [1,2,6] [2,6] rfl <| A3 <| A3 <| A0 <| y_F rfl <| y_L rfl <| C2 rfl rfl <| y_M rfl <| xN [1,2,6,22,23,24] [2,6] rfl <| A9 <| F8 <| A3 <| A0 <| G1 rfl rfl <| xN [1,2,6,22,23,24,25] [2,6] rfl <| A3 ?_
  refine A5 rfl (fun hc => ?_) (fun hc => absurd hc (by exact fun h => Bool.noConfusion (show true = false from h)))
  refine A7 <| A3 <| A9 <| A3 <| A0 <| I4 rfl rfl rfl (fun _ => rfl) (by show (0 : Int) ≤ 0 ∧ (0 : Int) < ((2 : Nat) : Int); omega) <| y_I rfl <| y_A rfl (fun _ => rfl) ?_
  intro g8
  refine xB rfl rfl rfl rfl rfl rfl rfl rfl rfl <| xN [1,2,6,8,22,23,24] [2,6,8] rfl <| A3 <| A0 <| y_B rfl <| y_M rfl ?_
  apply xC rfl
  ·apply B4
   ·exact B9 rfl
   apply B4
   ·exact B9 rfl
   exact D8
  ·exact (by have hi := ih p hgd.2.2.1 hwf.2.1 (by omega); rw [← N3] at hi; exact hi)
  refine ⟨⟨rfl, rfl, rfl, dT rfl, rfl⟩, .inr ⟨J7 _ _, rfl⟩, B7, H1 (M1 fun _ => H9 rfl M0), fun _ => rfl, fun g31 => ?_⟩
  simp only [List.length_map]
  refine y_M rfl <| y_E rfl <| y_E rfl ?_
  (refine xO rfl rfl (by simp) rfl (fun _ => rfl) (fun _ => rfl) ?_; intro g9)
  refine y_S rfl <| xN [1,2,6,9,10,22,23,24] [2,6,9] rfl <| A3 <| A3 <| A0 <| y_M rfl <| I8 rfl <| xN [1,2,6,9,22,23,24,35] [2,6,9] rfl ?_
  refine A5 rfl ?_ ?_ <;> intro hc <;> try simp only [SL] at hc
  ·refine A3 <| A0 ?_
   (refine B0 rfl rfl (fun _ => rfl) ?_; intro g4)
   refine y_S rfl <| xN [4,5] [4] rfl <| A8 <| B5 (G2 rfl rfl (by simp) (by rfl) (C7 rfl rfl (C3 B2))) ?_
   have hno : a2b cols p = none := by simpa using hc
   show AV.tup [.own 1 [], bV false] = _
   rw [a2b, hno]
   rfl
  obtain ⟨x, hx⟩ := Option.isSome_iff_exists.1 (show (a2b cols p).isSome = true by assumption)
  rw [hx]
  have hvx := c6s hvc (hgd.2.2.1) hx
  simp only [Option.getD_some]
  refine A7 <| A0 <| y_M rfl <| y_M rfl <| a5g rfl rfl (by simp) rfl rfl rfl (fun _ => rfl) ?_
  intro g38
  refine O9 (f := oI) (xs := []) (ys := [x]) rfl rfl rfl rfl (by simp) (by simp) (by decide) rfl rfl rfl rfl (dT rfl) (fun a => ⟨rfl, a8a a⟩) (by simp only [H4]; simp) (fun _ => rfl) ?_
  intro g39
  (refine xO rfl rfl (by simp) rfl (fun _ => rfl) (fun _ => rfl) ?_; intro g6)
  refine xN [1,2,6,22,23,24] [2,6] rfl <| A0 <| F3 rfl rfl (D4 (by omega)) <| y_M rfl <| xN [1,2,6,22,23,24] [2,6] rfl <| F8 <| A3 <| A0 <| G1 rfl rfl <| xN [1,2,6,22,23,24,25] [2,6] rfl <| A3 ?_
  refine A5 rfl (fun hc => ?_) (fun hc => absurd hc (by exact fun h => Bool.noConfusion (show true = false from h)))
  refine A7 <| A3 <| A9 <| A3 <| A0 <| I4 rfl rfl rfl (fun _ => rfl) (by show (0 : Int) ≤ 1 ∧ (1 : Int) < ((2 : Nat) : Int); omega) <| y_I rfl <| y_A rfl (fun _ => rfl) ?_
  intro g8
  refine xB rfl rfl rfl rfl rfl rfl rfl rfl rfl <| xN [1,2,6,8,22,23,24] [2,6,8] rfl <| A3 <| A0 <| y_B rfl <| y_M rfl ?_
  apply xC rfl
  ·apply B4
   ·exact B9 rfl
   apply B4
   ·exact B9 rfl
   exact D8
  ·exact (by have hi := ih q hgd.2.2.2 hwf.2.2 (by omega); rw [← N3] at hi; exact hi)
  refine ⟨⟨rfl, rfl, rfl, dT rfl, rfl⟩, .inr ⟨J7 _ _, rfl⟩, B7, H1 (M1 fun _ => H9 rfl M0), fun _ => rfl, fun g31 => ?_⟩
  simp only [List.length_map]
  refine y_M rfl <| y_E rfl <| y_E rfl ?_
  (refine xO rfl rfl (by simp) rfl (fun _ => rfl) (fun _ => rfl) ?_; intro g9)
  refine y_S rfl <| xN [1,2,6,9,10,22,23,24] [2,6,9] rfl <| A3 <| A3 <| A0 <| y_M rfl <| I8 rfl <| xN [1,2,6,9,22,23,24,35] [2,6,9] rfl ?_
  refine A5 rfl ?_ ?_ <;> intro hc <;> try simp only [SL] at hc
  ·refine A3 <| A0 ?_
   (refine B0 rfl rfl (fun _ => rfl) ?_; intro g4)
   refine y_S rfl <| xN [4,5] [4] rfl <| A8 <| B5 (G2 rfl rfl (by simp) (by rfl) (C7 rfl rfl (C3 B2))) ?_
   have hno : a2b cols q = none := by simpa using hc
   show AV.tup [.own 1 [], bV false] = _
   rw [a2b, hx, Option.bind_some, hno]
   rfl
  obtain ⟨y, hy⟩ := Option.isSome_iff_exists.1 (show (a2b cols q).isSome = true by assumption)
  rw [hy]
  have hvy := c6s hvc (hgd.2.2.2) hy
  simp only [Option.getD_some]
  refine A7 <| A0 <| y_M rfl <| y_M rfl <| a5g rfl rfl (by simp) rfl rfl rfl (fun _ => rfl) ?_
  intro g38
  refine O9 (f := oI) (xs := [x]) (ys := [y]) rfl rfl rfl rfl (by simp) (by simp) (by decide) rfl rfl rfl rfl (dT rfl) (fun a => ⟨rfl, a8a a⟩) (by simp only [H4]; simp) (fun _ => rfl) ?_
  intro g39
  (refine xO rfl rfl (by simp) rfl (fun _ => rfl) (fun _ => rfl) ?_; intro g6)
  refine xN [1,2,6,22,23,24] [2,6] rfl <| A0 <| F3 rfl rfl (D4 (by omega)) <| y_M rfl <| xN [1,2,6,22,23,24] [2,6] rfl <| F8 <| A3 <| A0 <| G1 rfl rfl <| xN [1,2,6,22,23,24,25] [2,6] rfl <| A3 ?_
  refine A5 rfl (fun hc => absurd hc (by exact fun h => Bool.noConfusion (show false = true from h))) (fun hc => ?_)
  refine E6 <| A3 <| A0 <| y_F rfl <| y_L rfl <| y_M rfl ?_
  apply xC rfl
  ·apply B4
   ·exact B9 rfl
   apply B4
   ·exact a8h rfl rfl rfl (by (simp; done))
   exact D8
  ·exact c5w (bA w) (by omega) x y hvx hvy [x, y] (by simp) (by (intro h; simp; done)) rfl (by (intro _; rfl))
  refine ⟨⟨rfl, rfl, rfl, dT rfl, rfl⟩, .inr ⟨J7 _ _, rfl⟩, B7, H1 (M1 fun _ => H9 rfl M0), fun _ => rfl, fun g44 => ?_⟩
  simp only [List.length_map]
  refine y_E rfl <| y_E rfl ?_
  (refine xO rfl rfl (by simp) rfl (fun _ => rfl) (fun _ => rfl) ?_; intro g4)
  refine y_S rfl <| xN [4,5] [4] rfl <| A8 <| B5 (G2 rfl rfl (by simp) (by exact A6 fun _ => rfl) (C7 rfl rfl (C3 B2))) ?_
  rw [a2b, hx, Option.bind_some, hy, Option.bind_some]
  rfl

theorem b9o : F4 Tryz.f82 = [0, 2, 1, 5, 20, 6, 4, 3, 46, 7, 51, 8, 9, 10, 73, 28] := by kernel_rfl
theorem d6i (t : Pl) (hgd : t.good) (hwf : t.wf) (hsz : t.sz ≤ 1000) : CW (cxT oG) 82 [trK t] = some (trV (foldP t), []) := by
 obtain ⟨kk, hkk⟩ : ∃ kk : Nat, t.sz < kk := ⟨_, Nat.lt_succ_self _⟩
 revert t
 induction kk with
 | zero => intro t hgd hwf hsz hkk; exact absurd hkk (Nat.not_lt_zero _)
 | succ kk ih =>
  intro t hgd hwf hsz hkk
  refine E4 rfl Tryz.func82 rfl ⟨by kernel_rfl, rfl, dT rfl, dT rfl, by decide⟩ b9o <| A3 <| A0 <| a1d rfl rfl rfl (fun _ => M4 rfl) (fun _ => rfl) ?_
  intro g1
  rcases t with ns | w | ⟨w, p⟩ | ⟨w, p, q⟩
  ·rw [c0a]
    
   refine y_A rfl (fun _ => rfl) ?_
   intro g2
   refine xN [1,2] [1,2] rfl <| A3 <| A0 <| B6 (es := List.map trV []) rfl rfl (dT rfl) rfl rfl (fun _ => B1 (A6 fun _ => rfl)) (fun _ => rfl) ?_
   intro g11
   (refine xO rfl rfl (by simp) rfl (fun _ => rfl) (fun _ => rfl) ?_; intro g3)
   refine xN [1,2,3] [1,2,3] rfl <| A3 <| A0 <| y_F rfl <| y_L rfl <| C2 rfl rfl <| O6 rfl rfl <| y_S rfl <| xN [1,2,3,4] [1,2,3] rfl <| A3 <| A3 <| A0 <| y_S rfl <| xN [1,2,3,4,5] [1,2,3] rfl <| A9 <| F8 <| A3 <| A3 <| A0 <| y_M rfl <| y_F rfl <| y_L rfl <| C2 rfl rfl <| G1 rfl rfl <| xN [1,2,3,4,5,20] [1,2,3] rfl ?_
   refine A5 rfl (fun hc => absurd hc (by decide)) (fun hc => ?_)
   refine E6 <| A3 <| A0 <| y_F rfl <| y_L rfl <| y_F rfl <| y_L rfl <| y_M rfl <| H0 (fs := [_, _, _]) rfl rfl rfl rfl rfl <| y_A rfl (fun _ => rfl) ?_
   intro g7
   refine E3 rfl rfl rfl rfl (E8 rfl (E8 rfl (L1 (by decide) I0))) (fun _ => rfl) ⟨by decide, rfl, dT rfl, Nat.le_refl _⟩ (fun _ => rfl) (fun _ => rfl) (fun _ => (by rfl)) ?_
   intro z
   simp only [H7, List.cons_append, List.nil_append]
   refine xN [1,2,3,4,7] [1,2,3,7] rfl <| A3 <| A3 <| A0 <| y_M rfl <| I8 rfl <| xN [1,2,3,7,46] [1,2,3,7] rfl ?_
   refine A5 rfl (fun hc => ?_) (fun hc => absurd hc (by decide))
   refine A3 <| A0 <| y_B rfl <| E3 rfl rfl rfl rfl (E8 rfl (E8 rfl (L1 (by decide) I0))) (fun _ => rfl) ⟨by decide, rfl, dT rfl, Nat.le_refl _⟩ (fun _ => rfl) (fun _ => rfl) (fun _ => (by rfl)) ?_
   intro z
   simp only [H7, List.cons_append, List.nil_append]
   refine xN [2] [2,3] rfl <| A8 <| B5 (C8 rfl rfl rfl rfl (C1 rfl (C1 rfl (I9 rfl rfl (by simp) (fun _ => rfl) F5))) (C3 B2)) ?_
   rfl
  ·rw [b9h]
    
   refine y_A rfl (fun _ => rfl) ?_
   intro g2
   refine xN [1,2] [1,2] rfl <| A3 <| A0 <| B6 (es := List.map trV []) rfl rfl (dT rfl) rfl rfl (fun _ => B1 (A6 fun _ => rfl)) (fun _ => rfl) ?_
   intro g11
   (refine xO rfl rfl (by simp) rfl (fun _ => rfl) (fun _ => rfl) ?_; intro g3)
   refine xN [1,2,3] [1,2,3] rfl <| A3 <| A0 <| y_F rfl <| y_L rfl <| C2 rfl rfl <| O6 rfl rfl <| y_S rfl <| xN [1,2,3,4] [1,2,3] rfl <| A3 <| A3 <| A0 <| y_S rfl <| xN [1,2,3,4,5] [1,2,3] rfl <| A9 <| F8 <| A3 <| A3 <| A0 <| y_M rfl <| y_F rfl <| y_L rfl <| C2 rfl rfl <| G1 rfl rfl <| xN [1,2,3,4,5,20] [1,2,3] rfl ?_
   refine A5 rfl (fun hc => absurd hc (by decide)) (fun hc => ?_)
   refine E6 <| A3 <| A0 <| y_F rfl <| y_L rfl <| y_F rfl <| y_L rfl <| y_M rfl <| H0 (fs := [_, _, _]) rfl rfl rfl rfl rfl <| y_A rfl (fun _ => rfl) ?_
   intro g7
   refine E3 rfl rfl rfl rfl (E8 rfl (E8 rfl (L1 (by decide) I0))) (fun _ => rfl) ⟨by decide, rfl, dT rfl, Nat.le_refl _⟩ (fun _ => rfl) (fun _ => rfl) (fun _ => (by rfl)) ?_
   intro z
   simp only [H7, List.cons_append, List.nil_append]
   refine xN [1,2,3,4,7] [1,2,3,7] rfl <| A3 <| A3 <| A0 <| y_M rfl <| I8 rfl <| xN [1,2,3,7,46] [1,2,3,7] rfl ?_
   refine A5 rfl (fun hc => ?_) (fun hc => absurd hc (by decide))
   refine A3 <| A0 <| y_B rfl <| E3 rfl rfl rfl rfl (E8 rfl (E8 rfl (L1 (by decide) I0))) (fun _ => rfl) ⟨by decide, rfl, dT rfl, Nat.le_refl _⟩ (fun _ => rfl) (fun _ => rfl) (fun _ => (by rfl)) ?_
   intro z
   simp only [H7, List.cons_append, List.nil_append]
   refine xN [2] [2,3] rfl <| A8 <| B5 (C8 rfl rfl rfl rfl (C1 rfl (C1 rfl (I9 rfl rfl (by simp) (fun _ => rfl) F5))) (C3 B2)) ?_
   rfl
  ·rw [c7c]
   have hsz1 : (Pl.un w p).sz = p.sz + 1 := rfl
   have hn : nd (bA w) = 1 := (S3 (by have h := hwf.1; omega)).trans hwf.1
   refine y_A rfl (fun _ => rfl) ?_
   intro g2
   refine xN [1,2] [1,2] rfl <| A3 <| A0 <| B6 (es := List.map trV []) rfl rfl (dT rfl) rfl rfl (fun _ => B1 (A6 fun _ => rfl)) (fun _ => rfl) ?_
   intro g11
   (refine xO rfl rfl (by simp) rfl (fun _ => rfl) (fun _ => rfl) ?_; intro g3)
   refine xN [1,2,3] [1,2,3] rfl <| A3 <| A0 <| y_F rfl <| y_L rfl <| C2 rfl rfl <| O6 rfl rfl <| y_S rfl <| xN [1,2,3,4] [1,2,3] rfl <| A3 <| A3 <| A0 <| y_S rfl <| xN [1,2,3,4,5] [1,2,3] rfl <| A9 <| F8 <| A3 <| A3 <| A0 <| y_M rfl <| y_F rfl <| y_L rfl <| C2 rfl rfl <| G1 rfl rfl <| xN [1,2,3,4,5,20] [1,2,3] rfl ?_
   refine A5 rfl (fun hc => ?_) (fun hc => absurd hc (by exact fun h => Bool.noConfusion (show true = false from h)))
   refine A7 <| A3 <| A9 <| A3 <| A0 <| y_F rfl <| y_L rfl <| y_M rfl <| I4 rfl rfl rfl (fun _ => rfl) (by show (0 : Int) ≤ 0 ∧ (0 : Int) < ((1 : Nat) : Int); omega) <| y_I rfl ?_
   refine xC1 rfl rfl ((by have hi := ih p hgd.2.2 hwf.2 (by omega) (by omega); rw [← N3] at hi; exact hi)) ⟨rfl, rfl, rfl⟩ rfl rfl fun g28 => ?_
   refine y_A rfl (fun _ => rfl) ?_
   intro g6
   refine xB rfl rfl rfl rfl rfl rfl rfl rfl rfl <| xN [1,2,3,4,5,6] [1,2,3,6] rfl <| A3 <| A0 <| y_M rfl <| y_M rfl <| G7 rfl rfl rfl <| y_F rfl <| G7 rfl rfl rfl <| y_L rfl <| G7 rfl rfl rfl <| P4 rfl rfl <| E9 rfl rfl rfl rfl <| y_S rfl <| xN [1,2,3,4,5,6] [1,2,3,6] rfl <| A0 <| y_M rfl <| y_B rfl <| B6 (es := List.map trV [_]) rfl rfl (dT rfl) rfl rfl (fun _ => B1 (A6 fun _ => rfl)) (fun _ => rfl) ?_
   intro g37
   refine xA rfl rfl rfl rfl (by simp) (by simp) rfl rfl rfl rfl rfl (fun _ => rfl) (by simp only [LN]; omega) (fun _ => rfl) ?_
   intro g38
   (refine xO rfl rfl (by simp) rfl (fun _ => rfl) (fun _ => rfl) ?_; intro g3)
   refine xN [1,2,3,4,5] [1,2,3] rfl <| A0 <| y_M rfl <| F3 rfl rfl (D4 (by omega)) <| y_S rfl <| xN [1,2,3,4,5] [1,2,3] rfl <| F8 <| A3 <| A3 <| A0 <| y_M rfl <| y_F rfl <| y_L rfl <| C2 rfl rfl <| G1 rfl rfl <| xN [1,2,3,4,5,20] [1,2,3] rfl ?_
   refine A5 rfl (fun hc => absurd hc (by exact fun h => Bool.noConfusion (show false = true from h))) (fun hc => ?_)
   refine E6 <| A3 <| A0 <| y_F rfl <| y_L rfl <| y_F rfl <| y_L rfl <| y_M rfl <| H0 (fs := [_, _, _]) rfl rfl rfl rfl rfl <| y_A rfl (fun _ => rfl) ?_
   intro g7
   refine E3 rfl rfl rfl rfl (E8 rfl (E8 rfl (L1 (by decide) I0))) (fun _ => rfl) ⟨by decide, rfl, dT rfl, Nat.le_refl _⟩ (fun _ => rfl) (fun _ => rfl) (fun _ => (by rfl)) ?_
   intro z
   simp only [H7, List.cons_append, List.nil_append]
   refine xN [1,2,3,4,7] [1,2,3,7] rfl <| A3 <| A3 <| A0 <| y_M rfl <| I8 rfl <| xN [1,2,3,7,46] [1,2,3,7] rfl ?_
   refine A5 rfl ?_ ?_ <;> intro hc <;> try simp only [SL] at hc
   ·have hnl : ∀ ns, foldP p ≠ .lst ns := fun ns e => hc (by rw [e]; rfl)
    refine A3 <| A0 <| y_B rfl <| E3 rfl rfl rfl rfl (E8 rfl (E8 rfl (L1 (by decide) I0))) (fun _ => rfl) ⟨by decide, rfl, dT rfl, Nat.le_refl _⟩ (fun _ => rfl) (fun _ => rfl) (fun _ => (by rfl)) ?_
    intro z
    simp only [H7, List.cons_append, List.nil_append]
    refine xN [2] [2,3] rfl <| A8 <| B5 (C8 rfl rfl rfl rfl (C1 rfl (C1 rfl (I9 rfl rfl (by simp) (fun _ => rfl) F5))) (C3 B2)) ?_
    rw [b8w hnl]
    show _ = AV.agg [tV w, .list [], .list [trV (foldP p)]]
    rfl
   obtain ⟨ms, hp, hvp⟩ := V1 (O4 _ hgd.2.2) (show (foldP p).op = lW by assumption)
   rw [hp]
   refine A7 <| A3 <| A0 <| B6 (es := List.map iV []) rfl rfl (dT rfl) rfl rfl (fun _ => B1 (A6 fun _ => rfl)) (fun _ => rfl) ?_
   intro g48
   (refine xO rfl rfl (by simp) rfl (fun _ => rfl) (fun _ => rfl) ?_; intro g8)
   refine xN [1,2,3,7,8] [1,2,3,7,8] rfl <| A3 <| A3 <| A0 <| y_M rfl <| I5 rfl rfl <| S7 rfl rfl <| xN [1,2,3,7,8,51] [1,2,3,7,8] rfl ?_
   refine A5 rfl (fun hc => absurd hc (by exact fun h => Bool.noConfusion (show false = true from h))) (fun hc => ?_)
   refine A7 <| A3 <| A0 <| y_F rfl <| y_L rfl <| y_M rfl <| D6 rfl rfl rfl rfl (by (simp; done)) (by (simp; done)) rfl <| y_F rfl <| a1b rfl rfl (by (simp; done)) (fun _ => rfl) rfl rfl <| y_M rfl ?_
   apply xC rfl
   ·apply B4
    ·exact B9 rfl
    apply B4
    ·exact B9 rfl
    apply B4
    ·exact J4 rfl rfl rfl (by (simp; done)) (fun _ => rfl)
    exact D8
   ·exact c9b (bA w) (by omega) ms [] (c4o hvp) d5m
   refine ⟨⟨rfl, rfl, rfl, dT rfl, rfl⟩, .inr ⟨J7 _ _, rfl⟩, B7, H1 (M1 fun _ => H9 rfl M0), fun _ => rfl, fun g64 => ?_⟩
   simp only [List.length_map]
   refine y_M rfl <| y_E rfl <| y_E rfl ?_
   (refine xO rfl rfl (by simp) rfl (fun _ => rfl) (fun _ => rfl) ?_; intro g9)
   refine y_S rfl ?_
   refine J6 ⟨fun _ => ⟨by (simp only [Z6, List.nil_append, List.append_nil, List.map_cons, List.map_nil, List.cons_append]; decide +kernel), by decide +kernel⟩, [(.t 2, _), (.t 7, _), (.t 9, _), (.t 10, _), (.h 2, _), (.h 7, _), (.h 3, _), (.h 9, _)], ⟨rfl, rfl, rfl, rfl, rfl, rfl, rfl, rfl, rfl, rfl, rfl, rfl, rfl, rfl, rfl, rfl, trivial⟩, ?_⟩
   refine A3 <| A3 <| A0 <| y_M rfl <| I8 rfl <| y_M rfl ?_
   refine C5 rfl rfl ?_ ?_ <;> intro hg0 <;> have hg := hg0 <;> try simp only [SG] at hg
   ·refine y_M rfl <| gT rfl rfl ?_
    obtain ⟨r, hr⟩ := Option.isSome_iff_exists.1 (show (mkR (bA w) ms []).isSome = true by assumption)
    have hraw := c8q hr
    have hrl := (Q3.1 (a9f hr)).1
    rw [hraw]
    apply xC rfl
    ·apply B4
     ·exact J4 rfl rfl rfl (by (simp; done)) (fun _ => rfl)
     exact D8
    ·exact a4u r (by omega)
    refine ⟨⟨rfl, rfl, rfl, dT rfl, rfl⟩, .inr ⟨rfl, rfl⟩, B7, H6 rfl, fun _ => rfl, fun g71 => ?_⟩
    refine gT rfl rfl <| I8 rfl <| F7 rfl (by assumption) rfl rfl <| xN [2,7,9,73] [2,7,3,9] rfl ?_
    refine A5 rfl ?_ ?_ <;> intro hc <;> try simp only [SL] at hc
    ·refine A3 <| A0 <| y_B rfl <| E3 rfl rfl rfl rfl (E8 rfl (E8 rfl (L1 (by decide) I0))) (fun _ => rfl) ⟨by decide, rfl, dT rfl, Nat.le_refl _⟩ (fun _ => rfl) (fun _ => rfl) (fun _ => (by rfl)) ?_
     intro z
     simp only [H7, List.cons_append, List.nil_append]
     refine xN [2] [2,3] rfl <| A8 <| B5 (C8 rfl rfl rfl rfl (C1 rfl (C1 rfl (I9 rfl rfl (by simp) (fun _ => rfl) F5))) (C3 B2)) ?_
     have hx : mkR (bA w) ms [] = none ∨ ∃ r, mkR (bA w) ms [] = some r ∧ vd r = false := by exact .inr ⟨r, hr, by simpa using hc⟩
     rw [a6a hp hx]
     rfl
    refine A7 <| A3 <| A0 <| y_M rfl <| H0 (fs := [_, _, _]) rfl rfl rfl rfl rfl <| E3 rfl rfl rfl rfl (E8 rfl (L1 (by decide) (E8 rfl I0))) (fun _ => rfl) ⟨by decide, rfl, dT rfl, Nat.le_refl _⟩ (fun _ => rfl) (fun _ => rfl) (fun _ => (by rfl)) ?_
    intro z
    simp only [H7, List.cons_append, List.nil_append]
    refine xN [2] [2,9] rfl <| A8 <| B5 (C8 rfl rfl rfl rfl (C1 rfl (I9 rfl rfl (by simp) (fun _ => rfl) (G6 rfl F5))) (C3 B2)) ?_
    rw [b7x hp hr (by simpa using hc)]
    rfl
   refine gF rfl rfl <| gF rfl rfl <| E9 rfl (by assumption) rfl rfl <| xN [2,7,9,73] [2,7,3,9] rfl ?_
   refine A5 rfl (fun hc => ?_) (fun hc => absurd hc (by decide))
   refine A3 <| A0 <| y_B rfl <| E3 rfl rfl rfl rfl (E8 rfl (E8 rfl (L1 (by decide) I0))) (fun _ => rfl) ⟨by decide, rfl, dT rfl, Nat.le_refl _⟩ (fun _ => rfl) (fun _ => rfl) (fun _ => (by rfl)) ?_
   intro z
   simp only [H7, List.cons_append, List.nil_append]
   refine xN [2] [2,3] rfl <| A8 <| B5 (C8 rfl rfl rfl rfl (C1 rfl (C1 rfl (I9 rfl rfl (by simp) (fun _ => rfl) F5))) (C3 B2)) ?_
   have hx : mkR (bA w) ms [] = none ∨ ∃ r, mkR (bA w) ms [] = some r ∧ vd r = false := by exact .inl (by simpa using hg)
   rw [a6a hp hx]
   rfl
  rw [c1c]
  have hsz1 : (Pl.bin w p q).sz = p.sz + q.sz + 1 := rfl
  have hn : nd (bA w) = 2 := (S3 (by have h := hwf.1; omega)).trans hwf.1
  refine y_A rfl (fun _ => rfl) ?_
  intro g2
  refine xN [1,2] [1,2] rfl <| A3 <| A0 <| B6 (es := List.map trV []) rfl rfl (dT rfl) rfl rfl (fun _ => B1 (A6 fun _ => rfl)) (fun _ => rfl) ?_
  intro g11
  (refine xO rfl rfl (by simp) rfl (fun _ => rfl) (fun _ => rfl) ?_; intro g3)
  refine xN [1,2,3] [1,2,3] rfl <| A3 <| A0 <| y_F rfl <| y_L rfl <| C2 rfl rfl <| O6 rfl rfl <| y_S rfl <| xN [1,2,3,4] [1,2,3] rfl <| A3 <| A3 <| A0 <| y_S rfl <| xN [1,2,3,4,5] [1,2,3] rfl <| A9 <| F8 <| A3 <| A3 <| A0 <| y_M rfl <| y_F rfl <| y_L rfl <| C2 rfl rfl <| G1 rfl rfl <| xN [1,2,3,4,5,20] [1,2,3] rfl ?_
  refine A5 rfl (fun hc => ?_) (fun hc => absurd hc (by exact fun h => Bool.noConfusion (show true = false from h)))
  refine A7 <| A3 <| A9 <| A3 <| A0 <| y_F rfl <| y_L rfl <| y_M rfl <| I4 rfl rfl rfl (fun _ => rfl) (by show (0 : Int) ≤ 0 ∧ (0 : Int) < ((2 : Nat) : Int); omega) <| y_I rfl ?_
  refine xC1 rfl rfl ((by have hi := ih p hgd.2.2.1 hwf.2.1 (by omega) (by omega); rw [← N3] at hi; exact hi)) ⟨rfl, rfl, rfl⟩ rfl rfl fun g28 => ?_
  refine y_A rfl (fun _ => rfl) ?_
  intro g6
  refine xB rfl rfl rfl rfl rfl rfl rfl rfl rfl <| xN [1,2,3,4,5,6] [1,2,3,6] rfl <| A3 <| A0 <| y_M rfl <| y_M rfl <| G7 rfl rfl rfl <| y_F rfl <| G7 rfl rfl rfl <| y_L rfl <| G7 rfl rfl rfl <| P4 rfl rfl <| E9 rfl rfl rfl rfl <| y_S rfl <| xN [1,2,3,4,5,6] [1,2,3,6] rfl <| A0 <| y_M rfl <| y_B rfl <| B6 (es := List.map trV [_]) rfl rfl (dT rfl) rfl rfl (fun _ => B1 (A6 fun _ => rfl)) (fun _ => rfl) ?_
  intro g37
  refine xA rfl rfl rfl rfl (by simp) (by simp) rfl rfl rfl rfl rfl (fun _ => rfl) (by simp only [LN]; omega) (fun _ => rfl) ?_
  intro g38
  (refine xO rfl rfl (by simp) rfl (fun _ => rfl) (fun _ => rfl) ?_; intro g3)
  refine xN [1,2,3,4,5] [1,2,3] rfl <| A0 <| y_M rfl <| F3 rfl rfl (D4 (by omega)) <| y_S rfl <| xN [1,2,3,4,5] [1,2,3] rfl <| F8 <| A3 <| A3 <| A0 <| y_M rfl <| y_F rfl <| y_L rfl <| C2 rfl rfl <| G1 rfl rfl <| xN [1,2,3,4,5,20] [1,2,3] rfl ?_
  refine A5 rfl (fun hc => ?_) (fun hc => absurd hc (by exact fun h => Bool.noConfusion (show true = false from h)))
  refine A7 <| A3 <| A9 <| A3 <| A0 <| y_F rfl <| y_L rfl <| y_M rfl <| I4 rfl rfl rfl (fun _ => rfl) (by show (0 : Int) ≤ 1 ∧ (1 : Int) < ((2 : Nat) : Int); omega) <| y_I rfl ?_
  refine xC1 rfl rfl ((by have hi := ih q hgd.2.2.2 hwf.2.2 (by omega) (by omega); rw [← N3] at hi; exact hi)) ⟨rfl, rfl, rfl⟩ rfl rfl fun g28 => ?_
  refine y_A rfl (fun _ => rfl) ?_
  intro g6
  refine xB rfl rfl rfl rfl rfl rfl rfl rfl rfl <| xN [1,2,3,4,5,6] [1,2,3,6] rfl <| A3 <| A0 <| y_M rfl <| y_M rfl ?_
  refine C5 rfl rfl ?_ ?_ <;> intro hg0 <;> have hg := hg0 <;> try simp only [SG] at hg
  ·refine y_F rfl <| gT rfl rfl <| y_L rfl <| gT rfl rfl <| P4 rfl rfl <| E9 rfl (by assumption) rfl rfl <| y_S rfl <| xN [1,2,3,4,5,6] [1,2,3,6] rfl <| A0 <| y_M rfl <| y_B rfl <| B6 (es := List.map trV [_]) rfl rfl (dT rfl) rfl rfl (fun _ => B1 (A6 fun _ => rfl)) (fun _ => rfl) ?_
   intro g37
   refine xA rfl rfl rfl rfl (by simp) (by simp) rfl rfl rfl rfl rfl (fun _ => rfl) (by simp only [LN]; omega) (fun _ => rfl) ?_
   intro g38
   (refine xO rfl rfl (by simp) rfl (fun _ => rfl) (fun _ => rfl) ?_; intro g3)
   refine xN [1,2,3,4,5] [1,2,3] rfl <| A0 <| y_M rfl <| F3 rfl rfl (D4 (by omega)) <| y_S rfl <| xN [1,2,3,4,5] [1,2,3] rfl <| F8 <| A3 <| A3 <| A0 <| y_M rfl <| y_F rfl <| y_L rfl <| C2 rfl rfl <| G1 rfl rfl <| xN [1,2,3,4,5,20] [1,2,3] rfl ?_
   refine A5 rfl (fun hc => absurd hc (by exact fun h => Bool.noConfusion (show false = true from h))) (fun hc => ?_)
   refine E6 <| A3 <| A0 <| y_F rfl <| y_L rfl <| y_F rfl <| y_L rfl <| y_M rfl <| H0 (fs := [_, _, _]) rfl rfl rfl rfl rfl <| y_A rfl (fun _ => rfl) ?_
   intro g7
   refine E3 rfl rfl rfl rfl (E8 rfl (E8 rfl (L1 (by decide) I0))) (fun _ => rfl) ⟨by decide, rfl, dT rfl, Nat.le_refl _⟩ (fun _ => rfl) (fun _ => rfl) (fun _ => (by rfl)) ?_
   intro z
   simp only [H7, List.cons_append, List.nil_append]
   refine xN [1,2,3,4,7] [1,2,3,7] rfl <| A3 <| A3 <| A0 <| y_M rfl <| I8 rfl <| xN [1,2,3,7,46] [1,2,3,7] rfl ?_
   refine A5 rfl ?_ ?_ <;> intro hc <;> try simp only [SL] at hc
   ·have hnl : (∀ ns, foldP p ≠ .lst ns) ∨ ∀ ns, foldP q ≠ .lst ns := .inr fun ns e => hc (by rw [e]; rfl)
    refine A3 <| A0 <| y_B rfl <| E3 rfl rfl rfl rfl (E8 rfl (E8 rfl (L1 (by decide) I0))) (fun _ => rfl) ⟨by decide, rfl, dT rfl, Nat.le_refl _⟩ (fun _ => rfl) (fun _ => rfl) (fun _ => (by rfl)) ?_
    intro z
    simp only [H7, List.cons_append, List.nil_append]
    refine xN [2] [2,3] rfl <| A8 <| B5 (C8 rfl rfl rfl rfl (C1 rfl (C1 rfl (I9 rfl rfl (by simp) (fun _ => rfl) F5))) (C3 B2)) ?_
    rw [a3e hnl]
    show _ = AV.agg [tV w, .list [], .list [trV (foldP p), trV (foldP q)]]
    rfl
   obtain ⟨ms, hp, hvp⟩ := V1 (O4 _ hgd.2.2.1) (show (foldP p).op = lW by assumption)
   rw [hp]
   obtain ⟨ls, hq, hvq⟩ := V1 (O4 _ hgd.2.2.2) (show (foldP q).op = lW by assumption)
   rw [hq]
   refine A7 <| A3 <| A0 <| B6 (es := List.map iV []) rfl rfl (dT rfl) rfl rfl (fun _ => B1 (A6 fun _ => rfl)) (fun _ => rfl) ?_
   intro g48
   (refine xO rfl rfl (by simp) rfl (fun _ => rfl) (fun _ => rfl) ?_; intro g8)
   refine xN [1,2,3,7,8] [1,2,3,7,8] rfl <| A3 <| A3 <| A0 <| y_M rfl <| I5 rfl rfl <| S7 rfl rfl <| xN [1,2,3,7,8,51] [1,2,3,7,8] rfl ?_
   refine A5 rfl (fun hc => ?_) (fun hc => absurd hc (by exact fun h => Bool.noConfusion (show true = false from h)))
   refine A0 <| y_M rfl <| D6 rfl rfl rfl rfl (by (simp; done)) (by (simp; done)) rfl <| y_F rfl <| a1b rfl rfl (by (simp; done)) (fun _ => rfl) rfl rfl <| y_S rfl <| xN [1,2,3,7,8] [1,2,3,7,8] rfl <| A3 <| A0 <| y_F rfl <| y_L rfl <| y_M rfl <| D6 rfl rfl rfl rfl (by (simp; done)) (by (simp; done)) rfl <| y_F rfl <| a1b rfl rfl (by (simp; done)) (fun _ => rfl) rfl rfl <| y_M rfl ?_
   apply xC rfl
   ·apply B4
    ·exact B9 rfl
    apply B4
    ·exact B9 rfl
    apply B4
    ·exact B9 rfl
    exact D8
   ·exact c9b (bA w) (by omega) ms ls (c4o hvp) (c4o hvq)
   refine ⟨⟨rfl, rfl, rfl, dT rfl, rfl⟩, .inr ⟨J7 _ _, rfl⟩, B7, H1 (M1 fun _ => H9 rfl M0), fun _ => rfl, fun g64 => ?_⟩
   simp only [List.length_map]
   refine y_M rfl <| y_E rfl <| y_E rfl ?_
   (refine xO rfl rfl (by simp) rfl (fun _ => rfl) (fun _ => rfl) ?_; intro g9)
   refine y_S rfl ?_
   refine J6 ⟨fun _ => ⟨by (simp only [Z6, List.nil_append, List.append_nil, List.map_cons, List.map_nil, List.cons_append]; decide +kernel), by decide +kernel⟩, [(.t 2, _), (.t 7, _), (.t 9, _), (.t 10, _), (.h 2, _), (.h 7, _), (.h 3, _), (.h 9, _)], ⟨rfl, rfl, rfl, rfl, rfl, rfl, rfl, rfl, rfl, rfl, rfl, rfl, rfl, rfl, rfl, rfl, trivial⟩, ?_⟩
   refine A3 <| A3 <| A0 <| y_M rfl <| I8 rfl <| y_M rfl ?_
   refine C5 rfl rfl ?_ ?_ <;> intro hg0 <;> have hg := hg0 <;> try simp only [SG] at hg
   ·refine y_M rfl <| gT rfl rfl ?_
    obtain ⟨r, hr⟩ := Option.isSome_iff_exists.1 (show (mkR (bA w) ms ls).isSome = true by assumption)
    have hraw := c8q hr
    have hrl := (Q3.1 (a9f hr)).1
    rw [hraw]
    apply xC rfl
    ·apply B4
     ·exact J4 rfl rfl rfl (by (simp; done)) (fun _ => rfl)
     exact D8
    ·exact a4u r (by omega)
    refine ⟨⟨rfl, rfl, rfl, dT rfl, rfl⟩, .inr ⟨rfl, rfl⟩, B7, H6 rfl, fun _ => rfl, fun g71 => ?_⟩
    refine gT rfl rfl <| I8 rfl <| F7 rfl (by assumption) rfl rfl <| xN [2,7,9,73] [2,7,3,9] rfl ?_
    refine A5 rfl ?_ ?_ <;> intro hc <;> try simp only [SL] at hc
    ·refine A3 <| A0 <| y_B rfl <| E3 rfl rfl rfl rfl (E8 rfl (E8 rfl (L1 (by decide) I0))) (fun _ => rfl) ⟨by decide, rfl, dT rfl, Nat.le_refl _⟩ (fun _ => rfl) (fun _ => rfl) (fun _ => (by rfl)) ?_
     intro z
     simp only [H7, List.cons_append, List.nil_append]
     refine xN [2] [2,3] rfl <| A8 <| B5 (C8 rfl rfl rfl rfl (C1 rfl (C1 rfl (I9 rfl rfl (by simp) (fun _ => rfl) F5))) (C3 B2)) ?_
     have hx : mkR (bA w) ms ls = none ∨ ∃ r, mkR (bA w) ms ls = some r ∧ vd r = false := by exact .inr ⟨r, hr, by simpa using hc⟩
     rw [a2u hp hq hx]
     rfl
    refine A7 <| A3 <| A0 <| y_M rfl <| H0 (fs := [_, _, _]) rfl rfl rfl rfl rfl <| E3 rfl rfl rfl rfl (E8 rfl (L1 (by decide) (E8 rfl I0))) (fun _ => rfl) ⟨by decide, rfl, dT rfl, Nat.le_refl _⟩ (fun _ => rfl) (fun _ => rfl) (fun _ => (by rfl)) ?_
    intro z
    simp only [H7, List.cons_append, List.nil_append]
    refine xN [2] [2,9] rfl <| A8 <| B5 (C8 rfl rfl rfl rfl (C1 rfl (I9 rfl rfl (by simp) (fun _ => rfl) (G6 rfl F5))) (C3 B2)) ?_
    rw [b5r hp hq hr (by simpa using hc)]
    rfl
   refine gF rfl rfl <| gF rfl rfl <| E9 rfl (by assumption) rfl rfl <| xN [2,7,9,73] [2,7,3,9] rfl ?_
   refine A5 rfl (fun hc => ?_) (fun hc => absurd hc (by decide))
   refine A3 <| A0 <| y_B rfl <| E3 rfl rfl rfl rfl (E8 rfl (E8 rfl (L1 (by decide) I0))) (fun _ => rfl) ⟨by decide, rfl, dT rfl, Nat.le_refl _⟩ (fun _ => rfl) (fun _ => rfl) (fun _ => (by rfl)) ?_
   intro z
   simp only [H7, List.cons_append, List.nil_append]
   refine xN [2] [2,3] rfl <| A8 <| B5 (C8 rfl rfl rfl rfl (C1 rfl (C1 rfl (I9 rfl rfl (by simp) (fun _ => rfl) F5))) (C3 B2)) ?_
   have hx : mkR (bA w) ms ls = none ∨ ∃ r, mkR (bA w) ms ls = some r ∧ vd r = false := by exact .inl (by simpa using hg)
   rw [a2u hp hq hx]
   rfl
  refine gF rfl rfl <| gF rfl rfl <| F7 rfl (by assumption) rfl rfl <| y_S rfl <| xN [1,2,3,4,5,6] [1,2,3,6] rfl <| A0 <| y_M rfl <| y_B rfl <| B6 (es := List.map trV [_]) rfl rfl (dT rfl) rfl rfl (fun _ => B1 (A6 fun _ => rfl)) (fun _ => rfl) ?_
  intro g37
  refine xA rfl rfl rfl rfl (by simp) (by simp) rfl rfl rfl rfl rfl (fun _ => rfl) (by simp only [LN]; omega) (fun _ => rfl) ?_
  intro g38
  (refine xO rfl rfl (by simp) rfl (fun _ => rfl) (fun _ => rfl) ?_; intro g3)
  refine xN [1,2,3,4,5] [1,2,3] rfl <| A0 <| y_M rfl <| F3 rfl rfl (D4 (by omega)) <| y_S rfl <| xN [1,2,3,4,5] [1,2,3] rfl <| F8 <| A3 <| A3 <| A0 <| y_M rfl <| y_F rfl <| y_L rfl <| C2 rfl rfl <| G1 rfl rfl <| xN [1,2,3,4,5,20] [1,2,3] rfl ?_
  refine A5 rfl (fun hc => absurd hc (by exact fun h => Bool.noConfusion (show false = true from h))) (fun hc => ?_)
  refine E6 <| A3 <| A0 <| y_F rfl <| y_L rfl <| y_F rfl <| y_L rfl <| y_M rfl <| H0 (fs := [_, _, _]) rfl rfl rfl rfl rfl <| y_A rfl (fun _ => rfl) ?_
  intro g7
  refine E3 rfl rfl rfl rfl (E8 rfl (E8 rfl (L1 (by decide) I0))) (fun _ => rfl) ⟨by decide, rfl, dT rfl, Nat.le_refl _⟩ (fun _ => rfl) (fun _ => rfl) (fun _ => (by rfl)) ?_
  intro z
  simp only [H7, List.cons_append, List.nil_append]
  refine xN [1,2,3,4,7] [1,2,3,7] rfl <| A3 <| A3 <| A0 <| y_M rfl <| I8 rfl <| xN [1,2,3,7,46] [1,2,3,7] rfl ?_
  refine A5 rfl (fun hc => ?_) (fun hc => absurd hc (by decide))
  refine A3 <| A0 <| y_B rfl <| E3 rfl rfl rfl rfl (E8 rfl (E8 rfl (L1 (by decide) I0))) (fun _ => rfl) ⟨by decide, rfl, dT rfl, Nat.le_refl _⟩ (fun _ => rfl) (fun _ => rfl) (fun _ => (by rfl)) ?_
  intro z
  simp only [H7, List.cons_append, List.nil_append]
  refine xN [2] [2,3] rfl <| A8 <| B5 (C8 rfl rfl rfl rfl (C1 rfl (C1 rfl (I9 rfl rfl (by simp) (fun _ => rfl) F5))) (C3 B2)) ?_
  rw [a3e (.inl fun ns e => hg (by rw [e]; rfl))]
  show _ = AV.agg [tV w, .list [], .list [trV (foldP p), trV (foldP q)]]
  rfl

theorem c0z : F4 Tryz.f118 = [0, 2, 1, 22, 21, 23, 20, 6, 7, 4, 3, 41, 8, 9, 51, 27, 38, 50] := by kernel_rfl
theorem d6n (t : Pl) (hgd : t.good) (hwf : t.wf) (hsz : t.sz ≤ 1000) : CW (cxT oG) 118 [trK t] = some (trV (foldP t), []) := by
 obtain ⟨kk, hkk⟩ : ∃ kk : Nat, t.sz < kk := ⟨_, Nat.lt_succ_self _⟩
 revert t
 induction kk with
 | zero => intro t hgd hwf hsz hkk; exact absurd hkk (Nat.not_lt_zero _)
 | succ kk ih =>
  intro t hgd hwf hsz hkk
  refine E4 rfl Tryz.func118 rfl ⟨by kernel_rfl, rfl, dT rfl, dT rfl, by decide⟩ c0z <| A3 <| A0 <| a1d rfl rfl rfl (fun _ => M4 rfl) (fun _ => rfl) ?_
  intro g1
  rcases t with ns | w | ⟨w, p⟩ | ⟨w, p, q⟩
  ·rw [c0a]
    
   refine y_A rfl (fun _ => rfl) ?_
   intro g2
   refine xN [1,2] [1,2] rfl <| A3 <| A0 <| y_F rfl <| y_L rfl <| y_F rfl <| y_L rfl <| H0 (fs := [_, _, _]) rfl rfl rfl rfl rfl <| y_A rfl (fun _ => rfl) ?_
   intro g3
   refine xB rfl rfl rfl rfl rfl rfl rfl rfl rfl <| xN [1,2,3] [1,2,3] rfl <| A3 <| A0 <| y_F rfl <| y_L rfl <| C2 rfl rfl <| O6 rfl rfl <| y_S rfl <| xN [1,2,3,4] [1,2,3] rfl <| A3 <| A3 <| A0 <| y_F rfl <| y_L rfl <| C2 rfl rfl <| y_M rfl <| xN [2,3,4,20,21,22] [2,3] rfl <| A9 <| F8 <| A3 <| A0 <| G1 rfl rfl <| xN [2,3,4,20,21,22,23] [2,3] rfl <| A3 ?_
   refine A5 rfl (fun hc => absurd hc (by decide)) (fun hc => ?_)
   refine E6 <| A3 <| A3 <| A0 <| y_M rfl <| xN [2,3,41] [2,3] rfl ?_
   refine A5 rfl (fun hc => absurd hc (by decide)) (fun hc => ?_)
   refine A7 <| A3 <| A0 <| y_B rfl <| xB rfl rfl rfl rfl rfl rfl rfl rfl rfl <| xN [2] [2] rfl <| A8 <| B5 (C8 rfl rfl rfl rfl (C1 rfl (C1 rfl (G6 rfl F5))) (C3 B2)) ?_
   rfl
  ·rw [b9h]
    
   refine y_A rfl (fun _ => rfl) ?_
   intro g2
   refine xN [1,2] [1,2] rfl <| A3 <| A0 <| y_F rfl <| y_L rfl <| y_F rfl <| y_L rfl <| H0 (fs := [_, _, _]) rfl rfl rfl rfl rfl <| y_A rfl (fun _ => rfl) ?_
   intro g3
   refine xB rfl rfl rfl rfl rfl rfl rfl rfl rfl <| xN [1,2,3] [1,2,3] rfl <| A3 <| A0 <| y_F rfl <| y_L rfl <| C2 rfl rfl <| O6 rfl rfl <| y_S rfl <| xN [1,2,3,4] [1,2,3] rfl <| A3 <| A3 <| A0 <| y_F rfl <| y_L rfl <| C2 rfl rfl <| y_M rfl <| xN [2,3,4,20,21,22] [2,3] rfl <| A9 <| F8 <| A3 <| A0 <| G1 rfl rfl <| xN [2,3,4,20,21,22,23] [2,3] rfl <| A3 ?_
   refine A5 rfl (fun hc => absurd hc (by decide)) (fun hc => ?_)
   refine E6 <| A3 <| A3 <| A0 <| y_M rfl <| xN [2,3,41] [2,3] rfl ?_
   refine A5 rfl (fun hc => absurd hc (by decide)) (fun hc => ?_)
   refine A7 <| A3 <| A0 <| y_B rfl <| xB rfl rfl rfl rfl rfl rfl rfl rfl rfl <| xN [2] [2] rfl <| A8 <| B5 (C8 rfl rfl rfl rfl (C1 rfl (C1 rfl (G6 rfl F5))) (C3 B2)) ?_
   rfl
  ·rw [c7c]
   have hsz1 : (Pl.un w p).sz = p.sz + 1 := rfl
   have hn : nd (bA w) = 1 := (S3 (by have h := hwf.1; omega)).trans hwf.1
   refine y_A rfl (fun _ => rfl) ?_
   intro g2
   refine xN [1,2] [1,2] rfl <| A3 <| A0 <| y_F rfl <| y_L rfl <| y_F rfl <| y_L rfl <| H0 (fs := [_, _, _]) rfl rfl rfl rfl rfl <| y_A rfl (fun _ => rfl) ?_
   intro g3
   refine xB rfl rfl rfl rfl rfl rfl rfl rfl rfl <| xN [1,2,3] [1,2,3] rfl <| A3 <| A0 <| y_F rfl <| y_L rfl <| C2 rfl rfl <| O6 rfl rfl <| y_S rfl <| xN [1,2,3,4] [1,2,3] rfl <| A3 <| A3 <| A0 <| y_F rfl <| y_L rfl <| C2 rfl rfl <| y_M rfl <| xN [2,3,4,20,21,22] [2,3] rfl <| A9 <| F8 <| A3 <| A0 <| G1 rfl rfl <| xN [2,3,4,20,21,22,23] [2,3] rfl <| A3 ?_
   refine A5 rfl (fun hc => ?_) (fun hc => absurd hc (by exact fun h => Bool.noConfusion (show true = false from h)))
   refine A7 <| A3 <| A9 <| A3 <| A0 <| I4 rfl rfl rfl (fun _ => rfl) (by show (0 : Int) ≤ 0 ∧ (0 : Int) < ((1 : Nat) : Int); omega) <| y_I rfl <| y_A rfl (fun _ => rfl) ?_
   intro g6
   refine xB rfl rfl rfl rfl rfl rfl rfl rfl rfl <| xN [2,3,4,6,20,21,22] [2,3,6] rfl <| A3 <| A0 <| y_B rfl ?_
   refine xC1 rfl rfl ((by have hi := ih p hgd.2.2 hwf.2 (by omega) (by omega); rw [← N3] at hi; exact hi)) ⟨rfl, rfl, rfl⟩ rfl rfl fun g27 => ?_
   refine y_A rfl (fun _ => rfl) ?_
   intro g7
   refine xB rfl rfl rfl rfl rfl rfl rfl rfl rfl <| xN [2,3,4,7,20,21,22] [2,3,7] rfl <| A3 <| A0 <| y_M rfl <| y_M rfl <| G7 rfl rfl rfl <| y_F rfl <| G7 rfl rfl rfl <| y_L rfl <| G7 rfl rfl rfl <| P4 rfl rfl <| E9 rfl rfl rfl rfl <| y_S rfl <| xN [2,3,4,7,20,21,22] [2,3,7] rfl <| A0 <| y_F rfl <| y_L rfl <| y_B rfl <| B6 (es := List.map trV [_]) rfl rfl (dT rfl) rfl rfl (fun _ => B1 (A6 fun _ => rfl)) (fun _ => rfl) ?_
   intro g37
   refine P6 rfl rfl rfl (by simp) (by decide) rfl rfl rfl (dT rfl) (fun _ => ⟨rfl, rfl⟩) (by simp only [H4]; (simp only [List.length_nil, List.length_cons, List.length_append, Nat.zero_add, List.length_map]; omega)) (fun _ => rfl) ?_
   intro g38
   refine y_F rfl <| L4 rfl rfl rfl rfl rfl (Nat.le_refl _) rfl <| xN [2,3,4,20,21,22] [2,3,1000038] rfl <| A0 <| F3 rfl rfl (D4 (by omega)) <| y_M rfl <| xN [2,3,4,20,21,22] [2,3,1000038] rfl <| F8 <| A3 <| A0 <| G1 rfl rfl <| xN [2,3,4,20,21,22,23] [2,3,1000038] rfl <| A3 ?_
   refine A5 rfl (fun hc => absurd hc (by exact fun h => Bool.noConfusion (show false = true from h))) (fun hc => ?_)
   refine E6 <| A3 <| A3 <| A0 <| y_M rfl <| xN [2,3,41] [2,3,1000038] rfl ?_
   refine A5 rfl ?_ ?_ <;> intro hc <;> try simp only [SL] at hc
   ·obtain ⟨ms, hp, hvp⟩ := V1 (O4 _ hgd.2.2) (show (foldP p).op = lW by assumption)
    rw [hp]
    refine A3 <| A0 <| y_B rfl ?_
    apply xC rfl
    ·apply B4
     ·exact d5l (dT rfl) (d3b (d0e (d5e rfl rfl (by simp) (fun _ => rfl) d5y)))
     apply B4
     ·exact c9y (dT rfl)
     exact D8
    ·exact (by have hi := d4q (oG := oG) (.un w (.lst ms)) ⟨hgd.1, hgd.2.1, hvp⟩ ⟨hwf.1, trivial⟩ [] rfl (by simp) (by simp); exact hi)
    refine ⟨⟨rfl, rfl, rfl, dT rfl, rfl⟩, .inr ⟨J7 _ _, rfl⟩, B7, H1 (M1 fun _ => H9 rfl M0), fun _ => rfl, fun g44 => ?_⟩
    simp only [List.length_map]
    rw [show a2b [] (.un w (.lst ms)) = mkR (bA w) ms [] from rfl]
    refine y_M rfl <| y_E rfl <| y_E rfl ?_
    (refine xO rfl rfl (by simp) rfl (fun _ => rfl) (fun _ => rfl) ?_; intro g8)
    refine y_S rfl <| xN [2,3,8,9] [2,3,1000038,8] rfl <| A3 <| A0 <| y_M rfl <| y_M rfl ?_
    refine C5 rfl rfl ?_ ?_ <;> intro hg0 <;> have hg := hg0 <;> try simp only [SG] at hg
    ·refine y_M rfl <| gT rfl rfl ?_
     obtain ⟨r, hr⟩ := Option.isSome_iff_exists.1 (show (mkR (bA w) ms []).isSome = true by assumption)
     have hrl := (Q3.1 (a9f hr)).1
     rw [hr, Option.getD_some]
     apply xC rfl
     ·apply B4
      ·exact J4 rfl rfl rfl (by (simp; done)) (fun _ => rfl)
      exact D8
     ·exact a0b r (by omega)
     refine ⟨⟨rfl, rfl, rfl, dT rfl, rfl⟩, .inr ⟨rfl, rfl⟩, B7, H6 rfl, fun _ => rfl, fun g50 => ?_⟩
     refine E9 rfl rfl rfl rfl <| xN [2,3,8,51] [2,3,1000038,8] rfl ?_
     refine A5 rfl ?_ ?_ <;> intro hc <;> try simp only [SL] at hc
     ·refine A3 <| A0 <| y_M rfl <| H0 (fs := [_, _, _]) rfl rfl rfl rfl rfl <| E3 rfl rfl rfl rfl (E8 rfl (L1 (by decide) (E8 rfl I0))) (fun _ => rfl) ⟨by decide, rfl, dT rfl, Nat.le_refl _⟩ (fun _ => rfl) (fun _ => rfl) (fun _ => (by rfl)) ?_
      intro z
      simp only [H7, List.cons_append, List.nil_append]
      refine xN [2] [2,8] rfl <| A8 <| B5 (C8 rfl rfl rfl rfl (C1 rfl (I9 rfl rfl (by simp) (fun _ => rfl) (G6 rfl F5))) (C3 B2)) ?_
      rw [b7x hp hr (by simpa using hc)]
      rfl
     refine A7 <| A3 <| A0 <| y_B rfl <| E3 rfl rfl rfl rfl (E8 rfl (E8 rfl (V6 (by decide) (by decide) rfl (by simp) fun _ => I0))) (fun _ => rfl) ⟨by decide, rfl, dT rfl, Nat.le_refl _⟩ (fun _ => rfl) (fun _ => rfl) (fun _ => C0 (by rfl) (C0 (B1 (A6 fun _ => rfl)) (by rfl))) ?_
     intro z
     simp only [H7, List.cons_append, List.nil_append]
     refine xN [2] [2,300002] rfl <| A8 <| B5 (C8 rfl rfl rfl rfl (C1 rfl (C1 rfl (I9 rfl rfl (by simp) (fun _ => rfl) F5))) (C3 B2)) ?_
     (have hx : mkR (bA w) ms [] = none ∨ ∃ r, mkR (bA w) ms [] = some r ∧ vd r = false := (by exact .inr ⟨r, hr, by simpa using hc⟩); rw [a6a hp hx]; rfl)
    refine gF rfl rfl <| F7 rfl (by assumption) rfl rfl <| xN [2,3,8,51] [2,3,1000038,8] rfl ?_
    refine A5 rfl (fun hc => absurd hc (by decide)) (fun hc => ?_)
    refine A7 <| A3 <| A0 <| y_B rfl <| E3 rfl rfl rfl rfl (E8 rfl (E8 rfl (V6 (by decide) (by decide) rfl (by simp) fun _ => I0))) (fun _ => rfl) ⟨by decide, rfl, dT rfl, Nat.le_refl _⟩ (fun _ => rfl) (fun _ => rfl) (fun _ => C0 (by rfl) (C0 (B1 (A6 fun _ => rfl)) (by rfl))) ?_
    intro z
    simp only [H7, List.cons_append, List.nil_append]
    refine xN [2] [2,300002] rfl <| A8 <| B5 (C8 rfl rfl rfl rfl (C1 rfl (C1 rfl (I9 rfl rfl (by simp) (fun _ => rfl) F5))) (C3 B2)) ?_
    (have hx : mkR (bA w) ms [] = none ∨ ∃ r, mkR (bA w) ms [] = some r ∧ vd r = false := (by exact .inl (by simpa using hg)); rw [a6a hp hx]; rfl)
   have hnl : ∀ ns, foldP p ≠ .lst ns := fun ns e => hc (by rw [e]; rfl)
   refine A7 <| A3 <| A0 <| y_B rfl <| E3 rfl rfl rfl rfl (E8 rfl (E8 rfl (V6 (by decide) (by decide) rfl (by simp) fun _ => I0))) (fun _ => rfl) ⟨by decide, rfl, dT rfl, Nat.le_refl _⟩ (fun _ => rfl) (fun _ => rfl) (fun _ => C0 (by rfl) (C0 (B1 (A6 fun _ => rfl)) (by rfl))) ?_
   intro z
   simp only [H7, List.cons_append, List.nil_append]
   refine xN [2] [2,300002] rfl <| A8 <| B5 (C8 rfl rfl rfl rfl (C1 rfl (C1 rfl (I9 rfl rfl (by simp) (fun _ => rfl) F5))) (C3 B2)) ?_
   (rw [b8w hnl]; show _ = AV.agg [tV w, .list [], .list [trV (foldP p)]]; rfl)
  rw [c1c]
  have hsz1 : (Pl.bin w p q).sz = p.sz + q.sz + 1 := rfl
  have hn : nd (bA w) = 2 := (S3 (by have h := hwf.1; omega)).trans hwf.1
  refine y_A rfl (fun _ => rfl) ?_
  intro g2
  refine xN [1,2] [1,2] rfl <| A3 <| A0 <| y_F rfl <| y_L rfl <| y_F rfl <| y_L rfl <| H0 (fs := [_, _, _]) rfl rfl rfl rfl rfl <| y_A rfl (fun _ => rfl) ?_
  intro g3
  refine xB rfl rfl rfl rfl rfl rfl rfl rfl rfl <| xN [1,2,3] [1,2,3] rfl <| A3 <| A0 <| y_F rfl <| y_L rfl <| C2 rfl rfl <| O6 rfl rfl <| y_S rfl <| xN [1,2,3,4] [1,2,3] rfl <| A3 <| A3 <| A0 <| y_F rfl <| y_L rfl <| C2 rfl rfl <| y_M rfl <| xN [2,3,4,20,21,22] [2,3] rfl <| A9 <| F8 <| A3 <| A0 <| G1 rfl rfl <| xN [2,3,4,20,21,22,23] [2,3] rfl <| A3 ?_
  refine A5 rfl (fun hc => ?_) (fun hc => absurd hc (by exact fun h => Bool.noConfusion (show true = false from h)))
  refine A7 <| A3 <| A9 <| A3 <| A0 <| I4 rfl rfl rfl (fun _ => rfl) (by show (0 : Int) ≤ 0 ∧ (0 : Int) < ((2 : Nat) : Int); omega) <| y_I rfl <| y_A rfl (fun _ => rfl) ?_
  intro g6
  refine xB rfl rfl rfl rfl rfl rfl rfl rfl rfl <| xN [2,3,4,6,20,21,22] [2,3,6] rfl <| A3 <| A0 <| y_B rfl ?_
  refine xC1 rfl rfl ((by have hi := ih p hgd.2.2.1 hwf.2.1 (by omega) (by omega); rw [← N3] at hi; exact hi)) ⟨rfl, rfl, rfl⟩ rfl rfl fun g27 => ?_
  refine y_A rfl (fun _ => rfl) ?_
  intro g7
  refine xB rfl rfl rfl rfl rfl rfl rfl rfl rfl <| xN [2,3,4,7,20,21,22] [2,3,7] rfl <| A3 <| A0 <| y_M rfl <| y_M rfl <| G7 rfl rfl rfl <| y_F rfl <| G7 rfl rfl rfl <| y_L rfl <| G7 rfl rfl rfl <| P4 rfl rfl <| E9 rfl rfl rfl rfl <| y_S rfl <| xN [2,3,4,7,20,21,22] [2,3,7] rfl <| A0 <| y_F rfl <| y_L rfl <| y_B rfl <| B6 (es := List.map trV [_]) rfl rfl (dT rfl) rfl rfl (fun _ => B1 (A6 fun _ => rfl)) (fun _ => rfl) ?_
  intro g37
  refine P6 rfl rfl rfl (by simp) (by decide) rfl rfl rfl (dT rfl) (fun _ => ⟨rfl, rfl⟩) (by simp only [H4]; (simp only [List.length_nil, List.length_cons, List.length_append, Nat.zero_add, List.length_map]; omega)) (fun _ => rfl) ?_
  intro g38
  refine y_F rfl <| L4 rfl rfl rfl rfl rfl (Nat.le_refl _) rfl <| xN [2,3,4,20,21,22] [2,3,1000038] rfl <| A0 <| F3 rfl rfl (D4 (by omega)) <| y_M rfl <| xN [2,3,4,20,21,22] [2,3,1000038] rfl <| F8 <| A3 <| A0 <| G1 rfl rfl <| xN [2,3,4,20,21,22,23] [2,3,1000038] rfl <| A3 ?_
  refine A5 rfl (fun hc => ?_) (fun hc => absurd hc (by exact fun h => Bool.noConfusion (show true = false from h)))
  refine A7 <| A3 <| A9 <| A3 <| A0 <| I4 rfl rfl rfl (fun _ => rfl) (by show (0 : Int) ≤ 1 ∧ (1 : Int) < ((2 : Nat) : Int); omega) <| y_I rfl <| y_A rfl (fun _ => rfl) ?_
  intro g6
  refine xB rfl rfl rfl rfl rfl rfl rfl rfl rfl <| xN [2,3,4,6,20,21,22] [2,3,1000038,6] rfl <| A3 <| A0 <| y_B rfl ?_
  refine xC1 rfl rfl ((by have hi := ih q hgd.2.2.2 hwf.2.2 (by omega) (by omega); rw [← N3] at hi; exact hi)) ⟨rfl, rfl, rfl⟩ rfl rfl fun g27 => ?_
  refine y_A rfl (fun _ => rfl) ?_
  intro g7
  refine xB rfl rfl rfl rfl rfl rfl rfl rfl rfl <| xN [2,3,4,7,20,21,22] [2,3,1000038,7] rfl <| A3 <| A0 <| y_M rfl <| y_M rfl ?_
  refine C5 rfl rfl ?_ ?_ <;> intro hg0 <;> have hg := hg0 <;> try simp only [SG] at hg
  ·refine y_F rfl <| gT rfl rfl <| y_L rfl <| gT rfl rfl <| P4 rfl rfl <| E9 rfl (by assumption) rfl rfl <| y_S rfl <| xN [2,3,4,7,20,21,22] [2,3,1000038,7] rfl <| A0 <| y_F rfl <| y_L rfl <| y_B rfl <| B6 (es := List.map trV [_]) rfl rfl (dT rfl) rfl rfl (fun _ => B1 (A6 fun _ => rfl)) (fun _ => rfl) ?_
   intro g37
   refine xA rfl rfl rfl rfl (by simp) (by simp) rfl rfl rfl rfl rfl (fun _ => rfl) (by simp only [LN]; omega) (fun _ => rfl) ?_
   intro g38
   refine y_F rfl <| L4 rfl rfl rfl rfl rfl (Nat.le_refl _) rfl <| xN [2,3,4,20,21,22] [2,3,1000038] rfl <| A0 <| F3 rfl rfl (D4 (by omega)) <| y_M rfl <| xN [2,3,4,20,21,22] [2,3,1000038] rfl <| F8 <| A3 <| A0 <| G1 rfl rfl <| xN [2,3,4,20,21,22,23] [2,3,1000038] rfl <| A3 ?_
   refine A5 rfl (fun hc => absurd hc (by exact fun h => Bool.noConfusion (show false = true from h))) (fun hc => ?_)
   refine E6 <| A3 <| A3 <| A0 <| y_M rfl <| xN [2,3,41] [2,3,1000038] rfl ?_
   refine A5 rfl ?_ ?_ <;> intro hc <;> try simp only [SL] at hc
   ·obtain ⟨ms, hp, hvp⟩ := V1 (O4 _ hgd.2.2.1) (show (foldP p).op = lW by assumption)
    rw [hp]
    obtain ⟨ls, hq, hvq⟩ := V1 (O4 _ hgd.2.2.2) (show (foldP q).op = lW by assumption)
    rw [hq]
    refine A3 <| A0 <| y_B rfl ?_
    apply xC rfl
    ·apply B4
     ·exact d5l (dT rfl) (d3b (d0e (d5e rfl rfl (by simp) (fun _ => rfl) d5y)))
     apply B4
     ·exact c9y (dT rfl)
     exact D8
    ·exact (by have hi := d4q (oG := oG) (.bin w (.lst ms) (.lst ls)) ⟨hgd.1, hgd.2.1, hvp, hvq⟩ ⟨hwf.1, trivial, trivial⟩ [] rfl (by simp) (by simp); exact hi)
    refine ⟨⟨rfl, rfl, rfl, dT rfl, rfl⟩, .inr ⟨J7 _ _, rfl⟩, B7, H1 (M1 fun _ => H9 rfl M0), fun _ => rfl, fun g44 => ?_⟩
    simp only [List.length_map]
    rw [show a2b [] (.bin w (.lst ms) (.lst ls)) = mkR (bA w) ms ls from rfl]
    refine y_M rfl <| y_E rfl <| y_E rfl ?_
    (refine xO rfl rfl (by simp) rfl (fun _ => rfl) (fun _ => rfl) ?_; intro g8)
    refine y_S rfl <| xN [2,3,8,9] [2,3,1000038,8] rfl <| A3 <| A0 <| y_M rfl <| y_M rfl ?_
    refine C5 rfl rfl ?_ ?_ <;> intro hg0 <;> have hg := hg0 <;> try simp only [SG] at hg
    ·refine y_M rfl <| gT rfl rfl ?_
     obtain ⟨r, hr⟩ := Option.isSome_iff_exists.1 (show (mkR (bA w) ms ls).isSome = true by assumption)
     have hrl := (Q3.1 (a9f hr)).1
     rw [hr, Option.getD_some]
     apply xC rfl
     ·apply B4
      ·exact J4 rfl rfl rfl (by (simp; done)) (fun _ => rfl)
      exact D8
     ·exact a0b r (by omega)
     refine ⟨⟨rfl, rfl, rfl, dT rfl, rfl⟩, .inr ⟨rfl, rfl⟩, B7, H6 rfl, fun _ => rfl, fun g50 => ?_⟩
     refine E9 rfl rfl rfl rfl <| xN [2,3,8,51] [2,3,1000038,8] rfl ?_
     refine A5 rfl ?_ ?_ <;> intro hc <;> try simp only [SL] at hc
     ·refine A3 <| A0 <| y_M rfl <| H0 (fs := [_, _, _]) rfl rfl rfl rfl rfl <| E3 rfl rfl rfl rfl (E8 rfl (L1 (by decide) (E8 rfl I0))) (fun _ => rfl) ⟨by decide, rfl, dT rfl, Nat.le_refl _⟩ (fun _ => rfl) (fun _ => rfl) (fun _ => (by rfl)) ?_
      intro z
      simp only [H7, List.cons_append, List.nil_append]
      refine xN [2] [2,8] rfl <| A8 <| B5 (C8 rfl rfl rfl rfl (C1 rfl (I9 rfl rfl (by simp) (fun _ => rfl) (G6 rfl F5))) (C3 B2)) ?_
      rw [b5r hp hq hr (by simpa using hc)]
      rfl
     refine A7 <| A3 <| A0 <| y_B rfl <| E3 rfl rfl rfl rfl (E8 rfl (E8 rfl (V6 (by decide) (by decide) rfl (by simp) fun _ => I0))) (fun _ => rfl) ⟨by decide, rfl, dT rfl, Nat.le_refl _⟩ (fun _ => rfl) (fun _ => rfl) (fun _ => C0 (by rfl) (C0 (B1 (A6 fun _ => rfl)) (by rfl))) ?_
     intro z
     simp only [H7, List.cons_append, List.nil_append]
     refine xN [2] [2,300002] rfl <| A8 <| B5 (C8 rfl rfl rfl rfl (C1 rfl (C1 rfl (I9 rfl rfl (by simp) (fun _ => rfl) F5))) (C3 B2)) ?_
     (have hx : mkR (bA w) ms ls = none ∨ ∃ r, mkR (bA w) ms ls = some r ∧ vd r = false := (by exact .inr ⟨r, hr, by simpa using hc⟩); rw [a2u hp hq hx]; rfl)
    refine gF rfl rfl <| F7 rfl (by assumption) rfl rfl <| xN [2,3,8,51] [2,3,1000038,8] rfl ?_
    refine A5 rfl (fun hc => absurd hc (by decide)) (fun hc => ?_)
    refine A7 <| A3 <| A0 <| y_B rfl <| E3 rfl rfl rfl rfl (E8 rfl (E8 rfl (V6 (by decide) (by decide) rfl (by simp) fun _ => I0))) (fun _ => rfl) ⟨by decide, rfl, dT rfl, Nat.le_refl _⟩ (fun _ => rfl) (fun _ => rfl) (fun _ => C0 (by rfl) (C0 (B1 (A6 fun _ => rfl)) (by rfl))) ?_
    intro z
    simp only [H7, List.cons_append, List.nil_append]
    refine xN [2] [2,300002] rfl <| A8 <| B5 (C8 rfl rfl rfl rfl (C1 rfl (C1 rfl (I9 rfl rfl (by simp) (fun _ => rfl) F5))) (C3 B2)) ?_
    (have hx : mkR (bA w) ms ls = none ∨ ∃ r, mkR (bA w) ms ls = some r ∧ vd r = false := (by exact .inl (by simpa using hg)); rw [a2u hp hq hx]; rfl)
   have hnl : (∀ ns, foldP p ≠ .lst ns) ∨ ∀ ns, foldP q ≠ .lst ns := .inr fun ns e => hc (by rw [e]; rfl)
   refine A7 <| A3 <| A0 <| y_B rfl <| E3 rfl rfl rfl rfl (E8 rfl (E8 rfl (V6 (by decide) (by decide) rfl (by simp) fun _ => I0))) (fun _ => rfl) ⟨by decide, rfl, dT rfl, Nat.le_refl _⟩ (fun _ => rfl) (fun _ => rfl) (fun _ => C0 (by rfl) (C0 (B1 (A6 fun _ => rfl)) (by rfl))) ?_
   intro z
   simp only [H7, List.cons_append, List.nil_append]
   refine xN [2] [2,300002] rfl <| A8 <| B5 (C8 rfl rfl rfl rfl (C1 rfl (C1 rfl (I9 rfl rfl (by simp) (fun _ => rfl) F5))) (C3 B2)) ?_
   ((rw [a3e hnl]); show _ = AV.agg [tV w, .list [], .list [trV (foldP p), trV (foldP q)]]; rfl)
  refine gF rfl rfl <| gF rfl rfl <| F7 rfl (by assumption) rfl rfl <| y_S rfl <| xN [2,3,4,7,20,21,22] [2,3,1000038,7] rfl <| A0 <| y_F rfl <| y_L rfl <| y_B rfl <| B6 (es := List.map trV [_]) rfl rfl (dT rfl) rfl rfl (fun _ => B1 (A6 fun _ => rfl)) (fun _ => rfl) ?_
  intro g37
  refine xA rfl rfl rfl rfl (by simp) (by simp) rfl rfl rfl rfl rfl (fun _ => rfl) (by simp only [LN]; omega) (fun _ => rfl) ?_
  intro g38
  refine y_F rfl <| L4 rfl rfl rfl rfl rfl (Nat.le_refl _) rfl <| xN [2,3,4,20,21,22] [2,3,1000038] rfl <| A0 <| F3 rfl rfl (D4 (by omega)) <| y_M rfl <| xN [2,3,4,20,21,22] [2,3,1000038] rfl <| F8 <| A3 <| A0 <| G1 rfl rfl <| xN [2,3,4,20,21,22,23] [2,3,1000038] rfl <| A3 ?_
  refine A5 rfl (fun hc => absurd hc (by exact fun h => Bool.noConfusion (show false = true from h))) (fun hc => ?_)
  refine E6 <| A3 <| A3 <| A0 <| y_M rfl <| xN [2,3,41] [2,3,1000038] rfl ?_
  refine A5 rfl (fun hc => absurd hc (by decide)) (fun hc => ?_)
  refine A7 <| A3 <| A0 <| y_B rfl <| E3 rfl rfl rfl rfl (E8 rfl (E8 rfl (V6 (by decide) (by decide) rfl (by simp) fun _ => I0))) (fun _ => rfl) ⟨by decide, rfl, dT rfl, Nat.le_refl _⟩ (fun _ => rfl) (fun _ => rfl) (fun _ => C0 (by rfl) (C0 (B1 (A6 fun _ => rfl)) (by rfl))) ?_
  intro z
  simp only [H7, List.cons_append, List.nil_append]
  refine xN [2] [2,300002] rfl <| A8 <| B5 (C8 rfl rfl rfl rfl (C1 rfl (C1 rfl (I9 rfl rfl (by simp) (fun _ => rfl) F5))) (C3 B2)) ?_
  ((rw [a3e (.inl fun ns e => hg (by rw [e]; rfl))]); show _ = AV.agg [tV w, .list [], .list [trV (foldP p), trV (foldP q)]]; rfl)

theorem b1q : F4 Tryz.f73 = [0, 2, 4, 11, 3, 7] := by kernel_rfl
theorem c7w (t : Pl) (hgd : t.good) (hwf : t.wf) (hsz : t.sz ≤ 16) : CW (cxT oG) 73 [tV (showP t)] = some (tV (showP (foldP t)), []) := by
 have hfg := O4 t hgd
 have hfw := a8q t hwf
 have hfs := b8y t
 have hln := T2 hwf hgd
 have hlf := T2 hfw hfg
 obtain ⟨hi1, hi2⟩ := d6z hwf hgd hsz
 refine E4 rfl Tryz.func73 rfl ⟨by kernel_rfl, rfl, dT rfl, dT rfl, by decide⟩ b1q <| A3 <| A0 <| y_S rfl <| xN [0] [] rfl <| A3 <| A0 <| y_M rfl ?_
 apply xC rfl
 ·apply B4
  ·exact B9 rfl
  exact D8
 ·exact (by have hi := b0m (oG := oG) (showP t) (by omega); rw [hi1, hi2] at hi; exact hi)
 refine ⟨⟨rfl, rfl, rfl, dT rfl, rfl⟩, .inl rfl, B7, K2 rfl, fun _ => rfl, fun g7 => ?_⟩
 refine y_M rfl <| y_E rfl <| y_E rfl <| y_A rfl (fun _ => rfl) ?_
 intro g3
 refine xB rfl rfl rfl rfl rfl rfl rfl rfl rfl <| y_S rfl <| xN [0,3,4] [3] rfl <| A3 <| A3 <| A0 <| y_M rfl <| I8 rfl <| xN [0,3,11] [3] rfl ?_
 refine A5 rfl (fun hc => absurd hc (by decide)) (fun hc => ?_)
 refine A7 <| A3 <| A0 <| y_B rfl ?_
 refine xC1 rfl rfl ((by have hi := d6n (oG := oG) t hgd hwf (by omega); rw [← N3] at hi; exact hi)) ⟨rfl, rfl, rfl⟩ rfl rfl fun g14 => ?_
 refine xC1 rfl rfl ((by have hi := d8r (oG := oG) (foldP t) (by omega) hfg; rw [← N3] at hi; exact hi)) ⟨rfl, rfl, rfl⟩ rfl rfl fun g15 => ?_
 refine y_S rfl <| xN [2] [] rfl <| A8 <| C6 rfl rfl trivial ?_
 rfl

theorem b4i : F4 Tryz.f89 = [0, 2, 1, 3, 11, 6] := by kernel_rfl
theorem d2o (t : Pl) (hgd : t.good) (hwf : t.wf) (hsz : t.sz ≤ 16) : CW (cxT oG) 89 [trK t] = some (trV (a6c t), []) := by
 refine E4 rfl Tryz.func89 rfl ⟨by kernel_rfl, rfl, dT rfl, dT rfl, by decide⟩ b4i <| A3 <| A0 <| a1d rfl rfl rfl (fun _ => M4 rfl) (fun _ => rfl) ?_
 intro g1
 refine y_A rfl (fun _ => rfl) ?_
 intro g2
 refine xN [1,2] [1,2] rfl <| A9 ?_
 rw [← N3]
 refine F6 (β := Pl) [(.t 1, _), (.t 2, _), (.h 2, _)] (fun (u : Pl) => [(.h 1, .obj g1 3 3 [trV u])]) (fun (u : Pl) => u.sz ≤ t.sz ∧ u.good ∧ u.wf ∧ a6c u = a6c t) (fun (u : Pl) => u.sz) t ⟨rfl, rfl, rfl, rfl, trivial⟩ ⟨Nat.le_refl _, hgd, hwf, rfl⟩ ?_
 intro u hb
 obtain ⟨hus, hug, huw, hun⟩ := hb
 refine A9 <| A3 <| A0 <| y_B rfl ?_
 have hnw := b9z huw
 have hng := b0d huw hug
 have hns : (normP u).sz ≤ u.sz := by rcases b4m huw with h | h; (· omega); (· rw [h]; exact Nat.le_refl _)
 have hfw := a5a huw
 have hfg := a7a huw hug
 have hfs := b8y (normP u)
 have hl1 := T2 huw hug
 have hl2 := T2 hfw hfg
 have hsb : stepB u = foldP (normP u) := rfl
 refine xC1 rfl rfl ((by have hi := d0q (oG := oG) u (by omega) hug huw; rw [← N3] at hi; exact hi)) ⟨rfl, rfl, rfl⟩ rfl rfl fun g5 => ?_
 refine xC1 rfl rfl ((by have hi := d6i (oG := oG) (normP u) hng hnw (by omega); rw [← N3] at hi; exact hi)) ⟨rfl, rfl, rfl⟩ rfl rfl fun g6 => ?_
 refine y_A rfl (fun _ => rfl) ?_
 intro g3
 refine xB rfl rfl rfl rfl rfl rfl rfl rfl rfl <| xN [1,2,3] [1,2,3] rfl <| A3 <| A3 <| A0 <| y_B rfl ?_
 refine xC1 rfl rfl ((by have hi := a6z (oG := oG) (foldP (normP u)) (by rw [← hsb]; rw [← hsb] at hfs; omega) hfg; rw [← N3] at hi; exact hi)) ⟨rfl, rfl, rfl⟩ rfl rfl fun g8 => ?_
 refine y_B rfl ?_
 refine xC1 rfl rfl ((by have hi := a6z (oG := oG) u (by omega) hug; rw [← N3] at hi; exact hi)) ⟨rfl, rfl, rfl⟩ rfl rfl fun g10 => ?_
 refine P4 rfl rfl ?_
 refine J6 ⟨fun _ => ⟨by (simp only [Z6, List.nil_append, List.append_nil, List.map_cons, List.map_nil, List.cons_append]; decide +kernel), by decide +kernel⟩, [(.t 1, _), (.t 2, _), (.t 3, _), (.t 11, _), (.h 1, _), (.h 2, _), (.h 3, _)], ⟨rfl, rfl, rfl, rfl, rfl, rfl, rfl, rfl, rfl, rfl, rfl, rfl, rfl, rfl, trivial⟩, ?_⟩
 refine A5 rfl ?_ ?_ <;> intro hc <;> try simp only [SL] at hc
 ·refine A3 <| A0 <| y_B rfl <| xB rfl rfl rfl rfl rfl rfl rfl rfl rfl <| xN [2] [2] rfl <| A8 <| B5 (C8 rfl rfl rfl rfl (C1 rfl (C1 rfl (C1 rfl F5))) (C3 B2)) ?_
  rw [← hun, c8v (c1y hfw hfg huw hug hc)]
  rfl
 have hne : stepB u ≠ u := fun e => hc (by rw [← hsb, e])
 have hlt : (stepB u).sz < u.sz := (a4k huw).resolve_right fun e => hne (a5d e)
 refine A7 <| A0 <| y_B rfl <| xB rfl rfl rfl rfl rfl rfl rfl rfl rfl <| xN [1,2] [1,2] rfl ?_
 refine ⟨(stepB u), ⟨by omega, hfg, hfw, by rw [← hun]; exact (c2x huw hne).symm⟩, (by omega), ⟨rfl, rfl, rfl, rfl, trivial⟩⟩

theorem a7b : F4 Tryz.f49 = [0, 2, 4, 11, 3, 7] := by kernel_rfl
theorem b6q (s : List UInt8) (hs : s.length ≤ 1048576) : CW (cxT oG) 49 [tV s] = some (tV (d1o s), []) := by
 refine E4 rfl Tryz.func49 rfl ⟨by kernel_rfl, rfl, dT rfl, dT rfl, by decide⟩ a7b <| A3 <| A0 <| y_S rfl <| xN [0] [] rfl <| A3 <| A0 <| y_M rfl ?_
 apply xC rfl
 ·apply B4
  ·exact B9 rfl
  exact D8
 ·exact c6d s hs
 refine ⟨⟨rfl, rfl, rfl, dT rfl, rfl⟩, .inl rfl, B7, K2 rfl, fun _ => rfl, fun g7 => ?_⟩
 refine y_M rfl <| y_E rfl <| y_E rfl <| y_A rfl (fun _ => rfl) ?_
 intro g3
 refine xB rfl rfl rfl rfl rfl rfl rfl rfl rfl <| y_S rfl <| xN [3,4] [3] rfl <| A3 <| A3 <| A0 <| y_M rfl <| I8 rfl <| xN [3,11] [3] rfl ?_
 refine A5 rfl ?_ ?_ <;> intro hc <;> try simp only [SL] at hc
 ·refine A3 <| A0 <| y_S rfl <| xN [2] [] rfl <| A8 <| C6 rfl rfl trivial ?_
  rw [b8z hc]
  rfl
 refine A7 <| A3 <| A0 <| y_B rfl ?_
 obtain ⟨t, ht1, ht2, ht3⟩ := b4h hc
 obtain ⟨hst, hwf, hgd, hsl, hsz⟩ := b3i ht1
 have hbg := d4k hwf hgd
 have hbw := d8y hwf
 have hbs := d8v hwf
 have hln := T2 hwf hgd
 have hlf := T2 hbw hbg
 rw [ht2, b8p ht1]
 refine xC1 rfl rfl ((by have hi := d2o (oG := oG) t hgd hwf (by omega); rw [← N3] at hi; exact hi)) ⟨rfl, rfl, rfl⟩ rfl rfl fun g13 => ?_
 refine xC1 rfl rfl ((by have hi := a6z (oG := oG) (a6c t) (by omega) hbg; rw [← N3] at hi; exact hi)) ⟨rfl, rfl, rfl⟩ rfl rfl fun g14 => ?_
 refine y_S rfl <| xN [2] [] rfl <| A8 <| C6 rfl rfl trivial ?_
 rfl

theorem a6o : F4 Tryz.f22 = [0, 2, 6, 3, 12] := by kernel_rfl
theorem b7b (s : List UInt8) (hs : s.length ≤ 1048576) : CW (cxT (some rG)) 22 [tV s] = some (tV (d1o s), []) := by
 refine E4 rfl Tryz.func22 rfl ⟨by kernel_rfl, rfl, dT rfl, dT rfl, by decide⟩ a6o <| A3 <| A0 <| y_S rfl <| xN [0] [] rfl <| A3 <| A3 <| A0 <| y_M rfl ?_
 refine xC1 rfl rfl (c1b s hs) ⟨rfl, rfl, rfl⟩ rfl rfl fun g5 => ?_
 refine I8 rfl <| xN [0,6] [] rfl ?_
 refine A5 rfl ?_ ?_ <;> intro hc <;> try simp only [SL] at hc
 ·refine A3 <| A0 <| y_S rfl <| xN [2] [] rfl <| A8 <| C6 rfl rfl trivial ?_
  rw [b8z hc]
  rfl
 obtain ⟨t, ht1, ht2, ht3⟩ := b4h hc
 obtain ⟨hst, hwf, hgd, hsl, hsz⟩ := b3i ht1
 rw [b8p ht1]
 refine A7 <| A9 ?_
 subst hst
 refine c1p (β := Pl) (fun (u : Pl) => [(.t 0, tV (showP u))]) (fun (u : Pl) => u.sz ≤ t.sz ∧ u.good ∧ u.wf ∧ a6c u = a6c t) (fun (u : Pl) => u.sz) t ⟨rfl, trivial⟩ ⟨Nat.le_refl _, hgd, hwf, rfl⟩ ?_
 intro u hb
 obtain ⟨hus, hug, huw, hun⟩ := hb
 refine A9 <| A3 <| A0 <| y_M rfl ?_
 have hnw := b9z huw
 have hng := b0d huw hug
 have hns : (normP u).sz ≤ u.sz := by rcases b4m huw with h | h; (· omega); (· rw [h]; exact Nat.le_refl _)
 have hfw := a5a huw
 have hfg := a7a huw hug
 have hl1 := T2 huw hug
 have hsb : stepB u = foldP (normP u) := rfl
 refine xC1 rfl rfl (d2h u huw (by omega) (by omega)) ⟨rfl, rfl, rfl⟩ rfl rfl fun g8 => ?_
 refine xC1 rfl rfl (c7w (normP u) hng hnw (by omega)) ⟨rfl, rfl, rfl⟩ rfl rfl fun g9 => ?_
 refine y_S rfl <| xN [0,3] [] rfl <| A3 <| A3 <| A0 <| y_M rfl <| y_M rfl <| P4 rfl rfl <| xN [0,3,12] [] rfl ?_
 refine A5 rfl ?_ ?_ <;> intro hc <;> try simp only [SL] at hc
 ·refine A3 <| A0 <| y_M rfl <| y_S rfl <| xN [2] [] rfl <| A8 <| C6 rfl rfl trivial ?_
  rw [← hun, c8v (c1y hfw hfg huw hug hc)]
 have hne : stepB u ≠ u := fun e => hc (by rw [← hsb, e])
 have hlt : (stepB u).sz < u.sz := (a4k huw).resolve_right fun e => hne (a5d e)
 refine A7 <| A0 <| y_M rfl <| y_S rfl <| xN [0] [] rfl ?_
 refine ⟨(stepB u), ⟨by omega, hfg, hfw, by rw [← hun]; exact (c2x huw hne).symm⟩, (by omega), ⟨rfl, trivial⟩⟩

theorem a1q : F4 Tryz.f10 = [0, 2, 7, 3, 4, 14] := by kernel_rfl
theorem a6d (s : List UInt8) : CW (cxT (some rG)) 10 [tV s] = some (bV true, []) := by
 refine E4 rfl Tryz.func10 rfl ⟨by kernel_rfl, rfl, dT rfl, dT rfl, by decide⟩ a1q <| A3 <| A0 <| y_S rfl <| xN [0] [] rfl <| A3 <| A3 <| A0 <| y_M rfl <| a4e rfl rfl <| O6 rfl rfl <| xN [0,7] [] rfl ?_
 refine A5 rfl ?_ ?_ <;> intro hc <;> try simp only [SL] at hc
 ·refine A3 <| A0 <| y_S rfl <| xN [2] [] rfl <| A8 <| C6 rfl rfl trivial ?_
  rfl
 refine A7 <| A3 <| A0 <| y_M rfl ?_
 refine xC1 rfl rfl (b6q s (by omega)) ⟨rfl, rfl, rfl⟩ rfl rfl fun g9 => ?_
 refine y_S rfl <| xN [0,3] [] rfl <| A3 <| A0 <| y_M rfl ?_
 refine xC1 rfl rfl (b7b s (by omega)) ⟨rfl, rfl, rfl⟩ rfl rfl fun g11 => ?_
 refine y_S rfl <| xN [3,4] [] rfl <| A3 <| A3 <| A0 <| y_M rfl <| y_M rfl <| b2z rfl rfl <| xN [14] [] rfl ?_
 refine A5 rfl ?_ ?_ <;> intro hc <;> try simp only [SL] at hc
 ·refine A3 <| A0 <| y_S rfl <| xN [2] [] rfl <| A8 <| C6 rfl rfl trivial ?_
  (simp_all; done)
 refine A7 <| A3 <| A0 <| y_S rfl <| xN [2] [] rfl <| A8 <| C6 rfl rfl trivial ?_
 rfl
end Go.Proofs.YtcpmbhfnapijaaaGreatDoor
