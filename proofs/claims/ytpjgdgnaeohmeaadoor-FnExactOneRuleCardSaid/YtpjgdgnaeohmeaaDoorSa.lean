/- What each function of the program gives on the abstract machine, part 1 of 1. Conditions: those in front of each theorem. -/
import Derived.Test.YtpjgdgnaeohmeaaDoorMd
import Derived.Test.YtpjgdgnaeohmeaaDoorChecked
import Derived.KernelRfl

set_option linter.unusedVariables false
set_option linter.unusedSimpArgs false
namespace Go.Proofs.YtpjgdgnaeohmeaaDoor
open Go Go.Mv Go.Proofs
set_option maxRecDepth 100000

theorem SD : (∀ {p : Prop} [Decidable p], (decide p = true) = p) ∧ (∀ {p : Prop} {_ : Decidable p}, decide p = false ↔ ¬p) ∧ (∀ (b : Bool), ((!b) = true) = (b = false)) ∧ (∀ (b : Bool), ((!b) = false) = (b = true)) ∧ (∀ {α : Type} [BEq α] [LawfulBEq α] {a b : α}, (a != b) = true ↔ a ≠ b) ∧
    (∀ {α : Type} [BEq α] [LawfulBEq α] {a b : α}, (a == b) = true ↔ a = b) ∧ (∀ {α : Type} (a b : α), (a ≠ b) = ¬a = b) ∧ (!true) = false ∧ (!false) = true ∧ (∀ {α : Type} [BEq α] [LawfulBEq α] {a b : α}, (a == b) = false ↔ a ≠ b) ∧ (∀ {α : Type} [BEq α] [LawfulBEq α] {a b : α}, (a != b) = false ↔ a = b) ∧
    (∀ {p : Prop} [Decidable p], ¬¬p ↔ p) ∧ (∀ {a b : Int}, ¬a < b ↔ b ≤ a) ∧ (∀ {a b : Int}, ¬a ≤ b ↔ b < a) :=
  ⟨@decide_eq_true_eq, @decide_eq_false_iff_not, @Bool.not_eq_true', @Bool.not_eq_false', @bne_iff_ne, @beq_iff_eq, @ne_eq, @Bool.not_true, @Bool.not_false, @beq_eq_false_iff_ne, @bne_eq_false_iff_eq, @Decidable.not_not, @Int.not_lt, @Int.not_le⟩
theorem SG : ((∀ {p : Prop} [Decidable p], (decide p = true) = p) ∧ (∀ {p : Prop} {_ : Decidable p}, decide p = false ↔ ¬p) ∧ (∀ (b : Bool), ((!b) = true) = (b = false)) ∧ (∀ (b : Bool), ((!b) = false) = (b = true)) ∧ (∀ {α : Type} [BEq α] [LawfulBEq α] {a b : α}, (a != b) = true ↔ a ≠ b) ∧
    (∀ {α : Type} [BEq α] [LawfulBEq α] {a b : α}, (a == b) = true ↔ a = b) ∧ (∀ {α : Type} (a b : α), (a ≠ b) = ¬a = b) ∧ (!true) = false ∧ (!false) = true ∧ (∀ {α : Type} [BEq α] [LawfulBEq α] {a b : α}, (a == b) = false ↔ a ≠ b) ∧ (∀ {α : Type} [BEq α] [LawfulBEq α] {a b : α}, (a != b) = false ↔ a = b) ∧
    (∀ {p : Prop} [Decidable p], ¬¬p ↔ p) ∧ (∀ {a b : Int}, ¬a < b ↔ b ≤ a) ∧ (∀ {a b : Int}, ¬a ≤ b ↔ b < a)) ∧
    (∀ (a b : Bool), ((a && b) = true) = (a = true ∧ b = true)) ∧ (∀ {x y : Bool}, (x && y) = false ↔ x = false ∨ y = false) ∧ (∀ (a b : Bool), ((a || b) = true) = (a = true ∨ b = true)) ∧ (∀ {x y : Bool}, (x || y) = false ↔ x = false ∧ y = false) :=
  ⟨SD, @Bool.and_eq_true, @Bool.and_eq_false_iff, @Bool.or_eq_true, @Bool.or_eq_false_iff⟩
def d1c (keep : List Nat) (A : Asr) : List Mv.Loc → Asr → Option Asr
  | l :: ls, B => match keepLoc keep l, Mv.look A l with
    | true, some a => d1c keep A ls ((l, a) :: B)
    | _, _ => none
  | [], B => some B
theorem c5w {keep : List Nat} {A : Asr} : ∀ (ls : List Mv.Loc) {B C : Asr}, KeepL keep A B → d1c keep A ls B = some C → KeepL keep A C
  | [], B, C, h, e => by simp only [d1c, Option.some.injEq] at e; rw [← e]; exact h
  | l :: ls, B, C, h, e => by
    simp only [d1c] at e
    split at e
    · exact c5w ls (show KeepL keep A ((l, _) :: B) from ⟨by assumption, by assumption, h⟩) e
    · cases e
theorem kS (ts hs : List Nat) {keep : List Nat} {A B : Asr} (h : d1c keep A (ts.map .t ++ hs.map .h) [] = some B) : KeepL keep A B := c5w _ (show KeepL keep A [] from trivial) h
section
variable {cx : Cx} {keep : List Nat} {ops0 : Array Oper} {r : List Oper} {A : Asr} {Q : Asr → List Log → Prop}
variable {d ty : Nat} {pos : String} {aft : Array Edge}
theorem gT {op : Op} {dst : Option Nat} {g dg : Nat} {want b : Bool} (hd : (ops0[g]?).bind (·.dst) = some dg) (hb : Mv.look A (.t dg) = some (.val (.bool b)))
    (h : XR cx keep ops0 (⟨dst, op, ty, pos, aft, none⟩ :: r) A fun A' lg => Q A' (c5o (.t dg) lg)) (hw : b = want := by assumption) : XR cx keep ops0 (⟨dst, op, ty, pos, aft, some (g, want)⟩ :: r) A Q := K0 hd hb hw h
theorem gF {op : Op} {g dg : Nat} {want b : Bool} (hd : (ops0[g]?).bind (·.dst) = some dg) (hb : Mv.look A (.t dg) = some (.val (.bool b)))
    (h : XR cx keep ops0 r ((.t d, .val (.tuple #[])) :: A) fun A' lg => Q A' (([.t dg], [.t d]) :: lg)) (hw : b = !want := by assumption) : XR cx keep ops0 (⟨some d, op, ty, pos, aft, some (g, want)⟩ :: r) A Q := H5 hd hb hw h
end

def mdT : List (Nat × List Nat) := [(16, [1]), (23, [3, 3, 3, 3]), (24, [3, 3, 3, 3]), (28, [2]), (32, [3, 3, 3, 3]), (34, [3, 3, 3, 3]), (35, [3, 3, 3, 3]), (36, [3, 3, 3, 3]), (39, [3, 3, 3, 3]), (40, [3, 3, 3, 3]), (44, [3, 3, 3, 3]), (45, [3, 3, 3, 3]), (46, [3, 3, 3, 3]), (47, [3, 3, 3, 3]), (48, [3, 3, 3, 3]), (53, [3, 3, 3, 3]), (56, [3, 3, 3, 3])]
noncomputable def d5s : List (Nat × (List AV → Option (AV × List (List AV)))) := [(49, b1j), (50, b8b), (65, b0u), (80, b6j), (81, b7m), (82, b7l)]
variable {rG : Nat}
noncomputable def cxT (rG : Nat) : Cx := { P := Tryd.prog, md := d6f mdT, ext := c5s d5s, it := fun _ => none, fz := fun k => [23, 24, 32, 39, 40, 48, 53].contains k, fzB := fun T d => [(33, 58)].contains (T, d), gl := fun g => if g = 0 then some (.val (.map (some rG))) else none, mp := fun k => if k = rG then some goneTb else none }
noncomputable def cxE : Cx := { P := Tryd.prog, md := d6f mdT, ext := fun _ => none, fz := fun k => [23, 24, 32, 39, 40, 48, 53].contains k }
theorem b6p (l : List UInt8) (b : UInt8) (hl : l.length < 4294967281) : CW (cxT rG) 49 [tV l, tV [b]] = some (.own 1 ((splitB b l).map tV), []) := a8l (cxT rG) rfl (by show (if l.length < 4294967281 then some ((AV.own 1 ((splitB b l).map tV), []) : AV × List (List AV)) else none) = _; rw [if_pos hl])
theorem d0j (ps : List (List UInt8)) (b : UInt8) (h1 : ps.length ≤ H3) (h2 : (joinB b ps).length ≤ H3) : CW (cxT rG) 50 [.list (ps.map tV), tV [b]] = some (tV (joinB b ps), []) := a8l (cxT rG) rfl (by show ((unT (ps.map tV)).bind fun ps => if ps.length ≤ H3 ∧ (joinB b ps).length ≤ H3 then some ((tV (joinB b ps), []) : AV × List (List AV)) else none) = _; rw [d3o, Option.bind_some, if_pos ⟨h1, h2⟩])
theorem d5t (n : Int) (h : -9223372036854775808 ≤ n ∧ n ≤ 9223372036854775807) : CW (cxT rG) 65 [iV n] = some (tV (dec n), []) := a8l (cxT rG) rfl (by simp [b0u, h])
theorem d4s (l : List UInt8) (b : UInt8) : CW (cxT rG) 80 [tV l, tV [b]] = some (.tup [tV (a2o b l), bV (decide (l.head? = some b))], []) := a8l (cxT rG) rfl rfl
theorem d5h (l : List UInt8) (b : UInt8) (hl : l.length < 4294967281) : CW (cxT rG) 81 [tV l, tV [b]] = some (.tup [tV (b4n b l), bV (decide (l.getLast? = some b))], []) := a8l (cxT rG) rfl (by show (if l.length < 4294967281 then some ((AV.tup [tV (b4n b l), bV (decide (l.getLast? = some b))], []) : AV × List (List AV)) else none) = _; rw [if_pos hl])
theorem c4g (l : List UInt8) (hl : l.length < 4294967281) : CW (cxT rG) 82 [tV l] = some (atR l, []) := a8l (cxT rG) rfl (by show (if l.length < 4294967281 then some ((atR l, []) : AV × List (List AV)) else none) = _; rw [if_pos hl])

theorem keep_s_inRange : G7 Tryd.f71 = [0, 1, 2, 6] := by kernel_rfl
set_option maxHeartbeats 20000000 in
theorem c6p (n lo hi : Int) : CW (cxT rG) 71 [iV n, iV lo, iV hi] = some (bV (decide (lo ≤ n) && decide (n ≤ hi)), []) := by
 refine F8 rfl Tryd.func71 rfl ⟨by kernel_rfl, rfl, of_decide_eq_true rfl, of_decide_eq_true rfl, by decide⟩ keep_s_inRange <| A3 <| A0 <| A4 rfl rfl rfl ?_
 refine A5 ⟨nofun, _, kS [0,1,2] [] rfl, ?_⟩
 refine A3 <| A0 <| A6 rfl rfl <| A6 rfl rfl <| a9l rfl rfl <| A6 rfl rfl ?_
 refine E4 rfl rfl (fun hg0 => ?_) (fun hg0 => ?_)
 ·have hg := hg0; try simp only [SG] at hg
  refine A6 rfl rfl <| gT rfl rfl <| A6 rfl rfl <| gT rfl rfl <| a9l rfl rfl <| G1 rfl (by assumption) rfl rfl <| A4 rfl rfl rfl ?_
  refine A5 ⟨nofun, _, kS [6] [] rfl, ?_⟩
  refine B4 <| C7 rfl rfl trivial ?_
  simp_all [ofConst]; try omega
 have hg := hg0; try simp only [SG] at hg
 refine gF rfl rfl <| gF rfl rfl <| G0 rfl (by assumption) rfl rfl <| A4 rfl rfl rfl ?_
 refine A5 ⟨nofun, _, kS [6] [] rfl, ?_⟩
 refine B4 <| C7 rfl rfl trivial ?_
 simp_all [ofConst]; try omega

theorem keep_s_in : G7 Tryd.f110 = [0, 1, 2, 6] := by kernel_rfl
set_option maxHeartbeats 20000000 in
theorem d6o (n lo hi : Int) : CW (cxT rG) 110 [iV n, iV lo, iV hi] = some (bV (decide (lo ≤ n) && decide (n ≤ hi)), []) := by
 refine F8 rfl Tryd.func110 rfl ⟨by kernel_rfl, rfl, of_decide_eq_true rfl, of_decide_eq_true rfl, by decide⟩ keep_s_in <| A3 <| A0 <| A4 rfl rfl rfl ?_
 refine A5 ⟨nofun, _, kS [0,1,2] [] rfl, ?_⟩
 refine A3 <| A0 <| A6 rfl rfl <| A6 rfl rfl <| d1w rfl rfl <| A6 rfl rfl ?_
 refine E4 rfl rfl (fun hg0 => ?_) (fun hg0 => ?_)
 ·have hg := hg0; try simp only [SG] at hg
  refine A6 rfl rfl <| gT rfl rfl <| A6 rfl rfl <| gT rfl rfl <| a9l rfl rfl <| G1 rfl (by assumption) rfl rfl <| A4 rfl rfl rfl ?_
  refine A5 ⟨nofun, _, kS [6] [] rfl, ?_⟩
  refine B4 <| C7 rfl rfl trivial ?_
  simp_all [ofConst]; try omega
 have hg := hg0; try simp only [SG] at hg
 refine gF rfl rfl <| gF rfl rfl <| G0 rfl (by assumption) rfl rfl <| A4 rfl rfl rfl ?_
 refine A5 ⟨nofun, _, kS [6] [] rfl, ?_⟩
 refine B4 <| C7 rfl rfl trivial ?_
 simp_all [ofConst]; try omega

theorem keep_s_IndexFunc2 : G7 Tryd.f119 = [0, 1, 4, 8, 7, 9, 5, 16] := by kernel_rfl
set_option maxHeartbeats 20000000 in
theorem b7r (xs : List Int) (hl : xs.length ≤ 1000) (k : Nat) (a b : AV) (q : Int → Bool) (hq : ∀ x, CW (cxT rG) k [iV x, .ipt a 0, .ipt b 0] = some (bV (q x), [])) : ∃ res outs, (fun res outs => ∃ r : Int, res = iV r ∧ outs = [] ∧ decide (0 ≤ r) = xs.any q) res outs ∧ CW (cxT rG) 119 [L xs, .clo k [.ipt a 0, .ipt b 0]] = some (res, outs) := by
 refine b6e rfl Tryd.func119 rfl ⟨by kernel_rfl, rfl, of_decide_eq_true rfl, of_decide_eq_true rfl, by decide⟩ keep_s_IndexFunc2 <| A3 <| A0 <| A4 rfl rfl rfl ?_
 refine A5 ⟨nofun, _, kS [0,1] [] rfl, ?_⟩
 refine A3 <| A3 <| A0 <| A6 rfl rfl <| I1 rfl rfl <| A6 rfl rfl ?_
 refine A5 ⟨nofun, _, kS [0,1,7,8] [] rfl, ?_⟩
 refine D3 <| I5 (β := Nat) [(.t 0, _), (.t 1, _), (.t 7, _)] (fun (i : Nat) => [(.t 8, iV i)]) (fun (i : Nat) => i ≤ xs.length ∧ ∀ j, j < i → q (xs.getD j default) = false) (fun (i : Nat) => xs.length - i) 0 ⟨rfl, rfl, rfl, rfl, trivial⟩ ⟨Nat.zero_le _, fun j h => by omega⟩ ?_
 intro i hb
 obtain ⟨hi1, hi2⟩ := hb
 refine A3 <| A0 <| J7 rfl rfl ?_
 refine A5 ⟨nofun, _, kS [0,1,7,8,9] [] rfl, ?_⟩
 refine A3 ?_
 refine A8 rfl (fun hc => ?_) (fun hc => ?_)
 ·try simp only [SG, List.length_map] at hc
  refine B3 <| A3 <| D3 <| A3 <| A0 <| A6 rfl rfl <| A4 rfl rfl rfl ?_
  refine A5 ⟨nofun, _, kS [0,1,5,7,8] [] rfl, ?_⟩
  refine A3 <| A0 <| A6 rfl rfl <| A6 rfl rfl <| A6 rfl rfl <| G5 rfl rfl rfl (fun _ => rfl) (by omega) <| G2 rfl rfl rfl ?_
  apply d2u rfl rfl
  ·apply B7
   ·exact B8 rfl
   apply B7
   ·exact B8 rfl
   apply B7
   ·exact B8 rfl
   exact D6
  ·exact hq (xs.getD i default)
  ·exact ⟨rfl, rfl, rfl, of_decide_eq_true rfl, rfl⟩
  ·exact .inl rfl
  ·exact C1
  ·exact E3 rfl
  ·exact fun _ => rfl
  intro g16
  refine A5 ⟨nofun, _, kS [0,1,5,7,8,16] [] rfl, ?_⟩
  refine A8 rfl (fun hc => ?_) (fun hc => ?_)
  ·try simp only [SG, List.length_map] at hc
   refine A3 <| A0 <| A6 rfl rfl <| A4 rfl rfl rfl ?_
   refine A5 ⟨nofun, _, kS [4] [] rfl, ?_⟩
   refine B4 ?_
   refine ⟨_, _, ?_, b1d rfl rfl C3⟩
   exact ⟨_, rfl, rfl, d2y (by omega) hc⟩
  try simp only [SG, List.length_map] at hc
  refine B3 <| A0 <| I0 rfl rfl (G9 (by omega)) <| A6 rfl rfl ?_
  refine A5 ⟨nofun, _, kS [0,1,7,8] [] rfl, ?_⟩
  refine ⟨i + 1, ⟨by omega, fun a ha => by rcases Nat.lt_succ_iff_lt_or_eq.1 ha with h | h; exact hi2 a h; subst h; exact hc⟩, (by omega), ⟨rfl, rfl, rfl, rfl, trivial⟩⟩
 try simp only [SG, List.length_map] at hc
 refine H6 <| A3 <| A0 <| A4 rfl rfl rfl ?_
 refine A5 ⟨nofun, _, kS [4] [] rfl, ?_⟩
 refine B4 ?_
 refine ⟨_, _, ?_, b1d rfl rfl C3⟩
 exact ⟨-1, rfl, rfl, d0e fun j hj => hi2 j (by omega)⟩

theorem keep_s_ContainsFunc2 : G7 Tryd.f108 = [0, 1, 4] := by kernel_rfl
set_option maxHeartbeats 20000000 in
theorem b0e (xs : List Int) (hl : xs.length ≤ 1000) (k : Nat) (a b : AV) (q : Int → Bool) (hq : ∀ x, CW (cxT rG) k [iV x, .ipt a 0, .ipt b 0] = some (bV (q x), [])) : CW (cxT rG) 108 [L xs, .clo k [.ipt a 0, .ipt b 0]] = some (bV (xs.any q), []) := by
 obtain ⟨_, _, ⟨r, rfl, rfl, hr⟩, hC⟩ := b7r xs hl k a b q hq
 refine F8 rfl Tryd.func108 rfl ⟨by kernel_rfl, rfl, of_decide_eq_true rfl, of_decide_eq_true rfl, by decide⟩ keep_s_ContainsFunc2 <| A3 <| A0 <| A4 rfl rfl rfl ?_
 refine A5 ⟨nofun, _, kS [0,1] [] rfl, ?_⟩
 refine A3 <| A0 <| A6 rfl rfl <| A6 rfl rfl ?_
 apply D7 rfl
 ·apply B7
  ·exact B8 rfl
  apply B7
  ·exact d1d rfl (d2d (d2d d0o))
  exact D6
 ·exact hC
 ·exact ⟨rfl, rfl, rfl, of_decide_eq_true rfl, rfl⟩
 ·exact .inl rfl
 ·exact C1
 ·exact E3 rfl
 ·exact fun _ => rfl
 intro g7
 refine d1w rfl rfl <| A4 rfl rfl rfl ?_
 refine A5 ⟨nofun, _, kS [4] [] rfl, ?_⟩
 refine B4 <| C7 rfl rfl trivial ?_
 rw [← hr]

theorem keep_s_allIn1 : G7 Tryd.f109 = [0, 1, 2, 4] := by kernel_rfl
set_option maxHeartbeats 20000000 in
theorem d0f (x lo hi : Int) : CW (cxT rG) 109 [iV x, .ipt (iV lo) 0, .ipt (iV hi) 0] = some (bV (!(decide (lo ≤ x) && decide (x ≤ hi))), []) := by
 refine F8 rfl Tryd.func109 rfl ⟨by kernel_rfl, rfl, of_decide_eq_true rfl, of_decide_eq_true rfl, by decide⟩ keep_s_allIn1 <| A3 <| A0 <| A4 rfl rfl rfl ?_
 refine A5 ⟨nofun, _, kS [0,1,2] [] rfl, ?_⟩
 refine A3 <| A0 <| A6 rfl rfl <| G2 rfl rfl rfl <| G2 rfl rfl rfl ?_
 apply D7 rfl
 ·apply B7
  ·exact B8 rfl
  apply B7
  ·exact B8 rfl
  apply B7
  ·exact B8 rfl
  exact D6
 ·exact d6o _ _ _
 ·exact ⟨rfl, rfl, rfl, of_decide_eq_true rfl, rfl⟩
 ·exact .inl rfl
 ·exact C1
 ·exact E3 rfl
 ·exact fun _ => rfl
 intro g8
 refine L3 rfl <| A4 rfl rfl rfl ?_
 refine A5 ⟨nofun, _, kS [4] [] rfl, ?_⟩
 refine B4 <| C7 rfl rfl trivial ?_
 rfl

theorem keep_s_allIn : G7 Tryd.f94 = [0, 1, 2, 6, 4, 5] := by kernel_rfl
set_option maxHeartbeats 20000000 in
theorem d2h (xs : List Int) (hl : xs.length ≤ 1000) (lo hi : Int) : CW (cxT rG) 94 [L xs, iV lo, iV hi] = some (bV (a4t lo hi xs), []) := by
 refine F8 rfl Tryd.func94 rfl ⟨by kernel_rfl, rfl, of_decide_eq_true rfl, of_decide_eq_true rfl, by decide⟩ keep_s_allIn <| A3 <| A0 <| c0e rfl rfl rfl (fun _ => B5 rfl) (fun _ => rfl) ?_
 intro g4
 refine c0e rfl rfl rfl (fun _ => B5 rfl) (fun _ => rfl) ?_
 intro g5
 refine A4 rfl rfl rfl ?_
 refine A5 ⟨nofun, _, kS [0,4,5] [4,5] rfl, ?_⟩
 refine A3 <| A0 <| A6 rfl rfl <| c3z rfl rfl ?_
 apply D7 rfl
 ·apply B7
  ·exact B8 rfl
  apply B7
  ·exact d1d rfl (d0g rfl rfl (d0g rfl rfl d0o))
  exact D6
 ·exact b0e xs hl 109 (iV lo) (iV hi) _ (fun x => d0f x lo hi)
 ·exact ⟨rfl, rfl, rfl, of_decide_eq_true rfl, rfl⟩
 ·exact .inr ⟨rfl, rfl⟩
 ·exact C1
 ·exact E3 rfl
 ·exact fun _ => rfl
 intro g9
 refine L3 rfl <| A4 rfl rfl rfl ?_
 refine A5 ⟨nofun, _, kS [6] [] rfl, ?_⟩
 refine B4 <| C7 rfl rfl trivial ?_
 exact congrArg bV (d0q lo hi xs)

theorem keep_s_validData : G7 Tryd.f62 = [0, 2, 3, 7, 15] := by kernel_rfl
set_option maxHeartbeats 20000000 in
theorem c0z (xs : List Int) (hl : xs.length ≤ 1048576) : CW (cxT rG) 62 [L xs] = some (bV (vd xs), []) := by
 refine F8 rfl Tryd.func62 rfl ⟨by kernel_rfl, rfl, of_decide_eq_true rfl, of_decide_eq_true rfl, by decide⟩ keep_s_validData <| A3 <| A0 <| A4 rfl rfl rfl ?_
 refine A5 ⟨nofun, _, kS [0] [] rfl, ?_⟩
 refine A3 <| A3 <| A0 <| A4 rfl rfl rfl ?_
 refine A5 ⟨nofun, _, kS [0,3] [] rfl, ?_⟩
 refine D3 <| I5 (β := Nat) [(.t 0, _)] (fun (i : Nat) => [(.t 3, iV i)]) (fun (i : Nat) => i ≤ xs.length ∧ ∀ j, j < i → -200 ≤ xs.getD j default ∧ xs.getD j default ≤ 200) (fun (i : Nat) => xs.length - i) 0 ⟨rfl, rfl, trivial⟩ ⟨Nat.zero_le _, fun j h => by omega⟩ ?_
 intro i hb
 obtain ⟨hi1, hi2⟩ := hb
 refine A3 <| A3 <| A0 <| A6 rfl rfl <| A6 rfl rfl <| I1 rfl rfl <| J7 rfl rfl ?_
 refine A5 ⟨nofun, _, kS [0,3,7] [] rfl, ?_⟩
 refine A8 rfl (fun hc => ?_) (fun hc => ?_)
 ·try simp only [SG, List.length_map] at hc
  refine B3 <| A3 <| D3 <| A3 <| A0 <| A6 rfl rfl <| A6 rfl rfl <| G5 rfl rfl rfl (fun _ => rfl) (by omega) <| G2 rfl rfl rfl ?_
  apply D7 rfl
  ·apply B7
   ·exact B8 rfl
   apply B7
   ·exact B8 rfl
   apply B7
   ·exact B8 rfl
   exact D6
  ·exact c6p _ _ _
  ·exact ⟨rfl, rfl, rfl, of_decide_eq_true rfl, rfl⟩
  ·exact .inl rfl
  ·exact C1
  ·exact E3 rfl
  ·exact fun _ => rfl
  intro g14
  refine L3 rfl ?_
  refine A5 ⟨nofun, _, kS [0,3,15] [] rfl, ?_⟩
  refine A8 rfl (fun hc => ?_) (fun hc => ?_)
  ·try simp only [SG, List.length_map] at hc
   refine A3 <| A0 <| A4 rfl rfl rfl ?_
   refine A5 ⟨nofun, _, kS [2] [] rfl, ?_⟩
   refine B4 <| C7 rfl rfl trivial ?_
   rw [vd, d1v (show i < xs.length by omega) (by (simp_all; omega)), Bool.and_false]
   rfl
  try simp only [SG, List.length_map] at hc
  refine B3 <| A0 <| A6 rfl rfl <| I0 rfl rfl (G9 (by omega)) <| A4 rfl rfl rfl ?_
  refine A5 ⟨nofun, _, kS [0,3] [] rfl, ?_⟩
  refine ⟨i + 1, ⟨by omega, fun j hj => by rcases Nat.lt_succ_iff_lt_or_eq.1 hj with h | h; (· exact hi2 j h); (· subst h; assumption)⟩, (by omega), ⟨rfl, rfl, trivial⟩⟩
 try simp only [SG, List.length_map] at hc
 refine H6 <| A3 <| A0 <| A6 rfl rfl <| I1 rfl rfl <| a9l rfl rfl <| A4 rfl rfl rfl ?_
 refine A5 ⟨nofun, _, kS [2] [] rfl, ?_⟩
 refine B4 <| C7 rfl rfl trivial ?_
 rw [vd, d2t fun j hj => hi2 j (by omega), Bool.and_true]
 exact congrArg bV (decide_eq_decide.2 (by omega))

theorem keep_s_validDataI : G7 Tryd.f83 = [0, 2] := by kernel_rfl
set_option maxHeartbeats 20000000 in
theorem a6r (xs : List Int) (hl : xs.length ≤ 1048576) : CW (cxT rG) 83 [L xs] = some (bV (vd xs), []) := by
 refine F8 rfl Tryd.func83 rfl ⟨by kernel_rfl, rfl, of_decide_eq_true rfl, of_decide_eq_true rfl, by decide⟩ keep_s_validDataI <| A3 <| A0 <| A4 rfl rfl rfl ?_
 refine A5 ⟨nofun, _, kS [0] [] rfl, ?_⟩
 refine A3 <| A0 <| A6 rfl rfl <| I1 rfl rfl <| a9l rfl rfl <| A6 rfl rfl ?_
 refine E4 rfl rfl (fun hg0 => ?_) (fun hg0 => ?_)
 ·have hg := hg0; try simp only [SG] at hg
  refine A6 rfl rfl <| gT rfl rfl ?_
  apply D7 rfl
  ·apply B7
   ·exact B8 rfl
   apply B7
   ·exact B8 rfl
   apply B7
   ·exact B8 rfl
   exact D6
  ·exact d2h xs (by omega) (-200) 200
  ·exact ⟨rfl, rfl, rfl, of_decide_eq_true rfl, rfl⟩
  ·exact .inl rfl
  ·exact C1
  ·exact E3 rfl
  ·exact fun _ => rfl
  intro g8
  refine G1 rfl (by assumption) rfl rfl <| A4 rfl rfl rfl ?_
  refine A5 ⟨nofun, _, kS [2] [] rfl, ?_⟩
  refine B4 <| C7 rfl rfl trivial ?_
  cases hb : a4t (-200) 200 xs <;> simp_all [vd, ofConst] <;> omega
 have hg := hg0; try simp only [SG] at hg
 refine gF rfl rfl <| G0 rfl (by assumption) rfl rfl <| A4 rfl rfl rfl ?_
 refine A5 ⟨nofun, _, kS [2] [] rfl, ?_⟩
 refine B4 <| C7 rfl rfl trivial ?_
 cases hb : a4t (-200) 200 xs <;> simp_all [vd, ofConst] <;> omega

theorem keep_s_needs : G7 Tryd.f64 = [0, 2, 3, 4, 10, 19] := by kernel_rfl
set_option maxHeartbeats 20000000 in
theorem a7b (w : ByteArray) : CW (cxT rG) 64 [sV w] = some (iV (nd w), []) := by
 refine F8 rfl Tryd.func64 rfl ⟨by kernel_rfl, rfl, of_decide_eq_true rfl, of_decide_eq_true rfl, by decide⟩ keep_s_needs <| A3 <| A0 <| A4 rfl rfl rfl ?_
 refine A5 ⟨nofun, _, kS [0] [] rfl, ?_⟩
 refine A3 <| A3 <| A0 <| A6 rfl rfl ?_
 refine A5 ⟨nofun, _, kS [3] [] rfl, ?_⟩
 refine D3 <| A3 <| A3 <| A0 <| M2 rfl rfl <| A4 rfl rfl rfl ?_
 refine A5 ⟨nofun, _, kS [3,4] [] rfl, ?_⟩
 refine A8 rfl (fun hc => ?_) (fun hc => ?_)
 ·try simp only [SG, List.length_map] at hc
  refine B3 ?_
  refine A8 rfl (fun hc => ?_) (fun hc => absurd hc (by simp_all))
  refine A3 <| A0 <| A4 rfl rfl rfl ?_
  refine A5 ⟨nofun, _, kS [2] [] rfl, ?_⟩
  refine B4 <| C7 rfl rfl trivial <| congrArg iV ?_
  simp_all [nd]
 try simp only [SG, List.length_map] at hc
 refine A3 <| A0 <| M2 rfl rfl <| A4 rfl rfl rfl ?_
 refine A5 ⟨nofun, _, kS [3,4] [] rfl, ?_⟩
 refine A8 rfl (fun hc => ?_) (fun hc => ?_)
 ·try simp only [SG, List.length_map] at hc
  refine B3 ?_
  refine A8 rfl (fun hc => ?_) (fun hc => absurd hc (by simp_all))
  refine A3 <| A0 <| A4 rfl rfl rfl ?_
  refine A5 ⟨nofun, _, kS [2] [] rfl, ?_⟩
  refine B4 <| C7 rfl rfl trivial <| congrArg iV ?_
  simp_all [nd]
 try simp only [SG, List.length_map] at hc
 refine A3 <| A0 <| M2 rfl rfl <| A4 rfl rfl rfl ?_
 refine A5 ⟨nofun, _, kS [3,4] [] rfl, ?_⟩
 refine A8 rfl (fun hc => ?_) (fun hc => ?_)
 ·try simp only [SG, List.length_map] at hc
  refine B3 ?_
  refine A8 rfl (fun hc => ?_) (fun hc => absurd hc (by simp_all))
  refine A3 <| A0 <| A4 rfl rfl rfl ?_
  refine A5 ⟨nofun, _, kS [2] [] rfl, ?_⟩
  refine B4 <| C7 rfl rfl trivial <| congrArg iV ?_
  simp_all [nd]
 try simp only [SG, List.length_map] at hc
 refine A3 <| A0 <| M2 rfl rfl <| A4 rfl rfl rfl ?_
 refine A5 ⟨nofun, _, kS [3,4] [] rfl, ?_⟩
 refine A8 rfl (fun hc => ?_) (fun hc => ?_)
 ·try simp only [SG, List.length_map] at hc
  refine B3 ?_
  refine A8 rfl (fun hc => ?_) (fun hc => absurd hc (by simp_all))
  refine A3 <| A0 <| A4 rfl rfl rfl ?_
  refine A5 ⟨nofun, _, kS [2] [] rfl, ?_⟩
  refine B4 <| C7 rfl rfl trivial <| congrArg iV ?_
  simp_all [nd]
 try simp only [SG, List.length_map] at hc
 refine A0 <| M2 rfl rfl <| A4 rfl rfl rfl ?_
 refine A5 ⟨nofun, _, kS [3,4] [] rfl, ?_⟩
 refine A8 rfl (fun hc => ?_) (fun hc => ?_)
 ·try simp only [SG, List.length_map] at hc
  refine A3 <| A0 <| A4 rfl rfl rfl ?_
  refine A5 ⟨nofun, _, kS [2] [] rfl, ?_⟩
  refine B4 <| C7 rfl rfl trivial <| congrArg iV ?_
  simp_all [nd]
 try simp only [SG, List.length_map] at hc
 refine A3 <| A3 <| A0 <| M2 rfl rfl <| A4 rfl rfl rfl ?_
 refine A5 ⟨nofun, _, kS [3,10] [] rfl, ?_⟩
 refine A8 rfl (fun hc => ?_) (fun hc => ?_)
 ·try simp only [SG, List.length_map] at hc
  refine B3 ?_
  refine A8 rfl (fun hc => ?_) (fun hc => absurd hc (by simp_all))
  refine A3 <| A0 <| A4 rfl rfl rfl ?_
  refine A5 ⟨nofun, _, kS [2] [] rfl, ?_⟩
  refine B4 <| C7 rfl rfl trivial <| congrArg iV ?_
  simp_all [nd]
 try simp only [SG, List.length_map] at hc
 refine A3 <| A0 <| M2 rfl rfl <| A4 rfl rfl rfl ?_
 refine A5 ⟨nofun, _, kS [3,10] [] rfl, ?_⟩
 refine A8 rfl (fun hc => ?_) (fun hc => ?_)
 ·try simp only [SG, List.length_map] at hc
  refine B3 ?_
  refine A8 rfl (fun hc => ?_) (fun hc => absurd hc (by simp_all))
  refine A3 <| A0 <| A4 rfl rfl rfl ?_
  refine A5 ⟨nofun, _, kS [2] [] rfl, ?_⟩
  refine B4 <| C7 rfl rfl trivial <| congrArg iV ?_
  simp_all [nd]
 try simp only [SG, List.length_map] at hc
 refine A3 <| A0 <| M2 rfl rfl <| A4 rfl rfl rfl ?_
 refine A5 ⟨nofun, _, kS [3,10] [] rfl, ?_⟩
 refine A8 rfl (fun hc => ?_) (fun hc => ?_)
 ·try simp only [SG, List.length_map] at hc
  refine B3 ?_
  refine A8 rfl (fun hc => ?_) (fun hc => absurd hc (by simp_all))
  refine A3 <| A0 <| A4 rfl rfl rfl ?_
  refine A5 ⟨nofun, _, kS [2] [] rfl, ?_⟩
  refine B4 <| C7 rfl rfl trivial <| congrArg iV ?_
  simp_all [nd]
 try simp only [SG, List.length_map] at hc
 refine A3 <| A0 <| M2 rfl rfl <| A4 rfl rfl rfl ?_
 refine A5 ⟨nofun, _, kS [3,10] [] rfl, ?_⟩
 refine A8 rfl (fun hc => ?_) (fun hc => ?_)
 ·try simp only [SG, List.length_map] at hc
  refine B3 ?_
  refine A8 rfl (fun hc => ?_) (fun hc => absurd hc (by simp_all))
  refine A3 <| A0 <| A4 rfl rfl rfl ?_
  refine A5 ⟨nofun, _, kS [2] [] rfl, ?_⟩
  refine B4 <| C7 rfl rfl trivial <| congrArg iV ?_
  simp_all [nd]
 try simp only [SG, List.length_map] at hc
 refine A3 <| A0 <| M2 rfl rfl <| A4 rfl rfl rfl ?_
 refine A5 ⟨nofun, _, kS [3,10] [] rfl, ?_⟩
 refine A8 rfl (fun hc => ?_) (fun hc => ?_)
 ·try simp only [SG, List.length_map] at hc
  refine B3 ?_
  refine A8 rfl (fun hc => ?_) (fun hc => absurd hc (by simp_all))
  refine A3 <| A0 <| A4 rfl rfl rfl ?_
  refine A5 ⟨nofun, _, kS [2] [] rfl, ?_⟩
  refine B4 <| C7 rfl rfl trivial <| congrArg iV ?_
  simp_all [nd]
 try simp only [SG, List.length_map] at hc
 refine A3 <| A0 <| M2 rfl rfl <| A4 rfl rfl rfl ?_
 refine A5 ⟨nofun, _, kS [3,10] [] rfl, ?_⟩
 refine A8 rfl (fun hc => ?_) (fun hc => ?_)
 ·try simp only [SG, List.length_map] at hc
  refine B3 ?_
  refine A8 rfl (fun hc => ?_) (fun hc => absurd hc (by simp_all))
  refine A3 <| A0 <| A4 rfl rfl rfl ?_
  refine A5 ⟨nofun, _, kS [2] [] rfl, ?_⟩
  refine B4 <| C7 rfl rfl trivial <| congrArg iV ?_
  simp_all [nd]
 try simp only [SG, List.length_map] at hc
 refine A3 <| A0 <| M2 rfl rfl <| A4 rfl rfl rfl ?_
 refine A5 ⟨nofun, _, kS [3,10] [] rfl, ?_⟩
 refine A8 rfl (fun hc => ?_) (fun hc => ?_)
 ·try simp only [SG, List.length_map] at hc
  refine B3 ?_
  refine A8 rfl (fun hc => ?_) (fun hc => absurd hc (by simp_all))
  refine A3 <| A0 <| A4 rfl rfl rfl ?_
  refine A5 ⟨nofun, _, kS [2] [] rfl, ?_⟩
  refine B4 <| C7 rfl rfl trivial <| congrArg iV ?_
  simp_all [nd]
 try simp only [SG, List.length_map] at hc
 refine A0 <| M2 rfl rfl <| A4 rfl rfl rfl ?_
 refine A5 ⟨nofun, _, kS [3,10] [] rfl, ?_⟩
 refine A8 rfl (fun hc => ?_) (fun hc => ?_)
 ·try simp only [SG, List.length_map] at hc
  refine A3 <| A0 <| A4 rfl rfl rfl ?_
  refine A5 ⟨nofun, _, kS [2] [] rfl, ?_⟩
  refine B4 <| C7 rfl rfl trivial <| congrArg iV ?_
  simp_all [nd]
 try simp only [SG, List.length_map] at hc
 refine A3 <| A3 <| A0 <| M2 rfl rfl <| A4 rfl rfl rfl ?_
 refine A5 ⟨nofun, _, kS [3,19] [] rfl, ?_⟩
 refine A8 rfl (fun hc => ?_) (fun hc => ?_)
 ·try simp only [SG, List.length_map] at hc
  refine B3 ?_
  refine A8 rfl (fun hc => ?_) (fun hc => absurd hc (by simp_all))
  refine A3 <| A0 <| A4 rfl rfl rfl ?_
  refine A5 ⟨nofun, _, kS [2] [] rfl, ?_⟩
  refine B4 <| C7 rfl rfl trivial <| congrArg iV ?_
  simp_all [nd]
 try simp only [SG, List.length_map] at hc
 refine A0 <| M2 rfl rfl <| A4 rfl rfl rfl ?_
 refine A5 ⟨nofun, _, kS [19] [] rfl, ?_⟩
 refine A8 rfl (fun hc => ?_) (fun hc => ?_)
 ·try simp only [SG, List.length_map] at hc
  refine A3 <| A0 <| A4 rfl rfl rfl ?_
  refine A5 ⟨nofun, _, kS [2] [] rfl, ?_⟩
  refine B4 <| C7 rfl rfl trivial <| congrArg iV ?_
  simp_all [nd]
 try simp only [SG, List.length_map] at hc
 refine B3 <| A3 <| A0 <| A4 rfl rfl rfl ?_
 refine A5 ⟨nofun, _, kS [2] [] rfl, ?_⟩
 refine B4 <| C7 rfl rfl trivial <| congrArg iV ?_
 simp_all [nd]

theorem keep_s_reachOf : G7 Tryd.f52 = [0, 2, 3, 4, 13, 16] := by kernel_rfl
set_option maxHeartbeats 20000000 in
theorem c7l (w : ByteArray) : CW (cxT rG) 52 [sV w] = some (iV (rch w), []) := by
 refine F8 rfl Tryd.func52 rfl ⟨by kernel_rfl, rfl, of_decide_eq_true rfl, of_decide_eq_true rfl, by decide⟩ keep_s_reachOf <| A3 <| A0 <| A4 rfl rfl rfl ?_
 refine A5 ⟨nofun, _, kS [0] [] rfl, ?_⟩
 refine A3 <| A3 <| A0 <| A6 rfl rfl ?_
 refine A5 ⟨nofun, _, kS [3] [] rfl, ?_⟩
 refine D3 <| A3 <| A3 <| A0 <| M2 rfl rfl <| A4 rfl rfl rfl ?_
 refine A5 ⟨nofun, _, kS [3,4] [] rfl, ?_⟩
 refine A8 rfl (fun hc => ?_) (fun hc => ?_)
 ·try simp only [SG, List.length_map] at hc
  refine B3 ?_
  refine A8 rfl (fun hc => ?_) (fun hc => absurd hc (by simp_all))
  refine A3 <| A0 <| A4 rfl rfl rfl ?_
  refine A5 ⟨nofun, _, kS [2] [] rfl, ?_⟩
  refine B4 <| C7 rfl rfl trivial <| congrArg iV ?_
  simp_all [rch]
 try simp only [SG, List.length_map] at hc
 refine A3 <| A0 <| M2 rfl rfl <| A4 rfl rfl rfl ?_
 refine A5 ⟨nofun, _, kS [3,4] [] rfl, ?_⟩
 refine A8 rfl (fun hc => ?_) (fun hc => ?_)
 ·try simp only [SG, List.length_map] at hc
  refine B3 ?_
  refine A8 rfl (fun hc => ?_) (fun hc => absurd hc (by simp_all))
  refine A3 <| A0 <| A4 rfl rfl rfl ?_
  refine A5 ⟨nofun, _, kS [2] [] rfl, ?_⟩
  refine B4 <| C7 rfl rfl trivial <| congrArg iV ?_
  simp_all [rch]
 try simp only [SG, List.length_map] at hc
 refine A3 <| A0 <| M2 rfl rfl <| A4 rfl rfl rfl ?_
 refine A5 ⟨nofun, _, kS [3,4] [] rfl, ?_⟩
 refine A8 rfl (fun hc => ?_) (fun hc => ?_)
 ·try simp only [SG, List.length_map] at hc
  refine B3 ?_
  refine A8 rfl (fun hc => ?_) (fun hc => absurd hc (by simp_all))
  refine A3 <| A0 <| A4 rfl rfl rfl ?_
  refine A5 ⟨nofun, _, kS [2] [] rfl, ?_⟩
  refine B4 <| C7 rfl rfl trivial <| congrArg iV ?_
  simp_all [rch]
 try simp only [SG, List.length_map] at hc
 refine A3 <| A0 <| M2 rfl rfl <| A4 rfl rfl rfl ?_
 refine A5 ⟨nofun, _, kS [3,4] [] rfl, ?_⟩
 refine A8 rfl (fun hc => ?_) (fun hc => ?_)
 ·try simp only [SG, List.length_map] at hc
  refine B3 ?_
  refine A8 rfl (fun hc => ?_) (fun hc => absurd hc (by simp_all))
  refine A3 <| A0 <| A4 rfl rfl rfl ?_
  refine A5 ⟨nofun, _, kS [2] [] rfl, ?_⟩
  refine B4 <| C7 rfl rfl trivial <| congrArg iV ?_
  simp_all [rch]
 try simp only [SG, List.length_map] at hc
 refine A3 <| A0 <| M2 rfl rfl <| A4 rfl rfl rfl ?_
 refine A5 ⟨nofun, _, kS [3,4] [] rfl, ?_⟩
 refine A8 rfl (fun hc => ?_) (fun hc => ?_)
 ·try simp only [SG, List.length_map] at hc
  refine B3 ?_
  refine A8 rfl (fun hc => ?_) (fun hc => absurd hc (by simp_all))
  refine A3 <| A0 <| A4 rfl rfl rfl ?_
  refine A5 ⟨nofun, _, kS [2] [] rfl, ?_⟩
  refine B4 <| C7 rfl rfl trivial <| congrArg iV ?_
  simp_all [rch]
 try simp only [SG, List.length_map] at hc
 refine A3 <| A0 <| M2 rfl rfl <| A4 rfl rfl rfl ?_
 refine A5 ⟨nofun, _, kS [3,4] [] rfl, ?_⟩
 refine A8 rfl (fun hc => ?_) (fun hc => ?_)
 ·try simp only [SG, List.length_map] at hc
  refine B3 ?_
  refine A8 rfl (fun hc => ?_) (fun hc => absurd hc (by simp_all))
  refine A3 <| A0 <| A4 rfl rfl rfl ?_
  refine A5 ⟨nofun, _, kS [2] [] rfl, ?_⟩
  refine B4 <| C7 rfl rfl trivial <| congrArg iV ?_
  simp_all [rch]
 try simp only [SG, List.length_map] at hc
 refine A3 <| A0 <| M2 rfl rfl <| A4 rfl rfl rfl ?_
 refine A5 ⟨nofun, _, kS [3,4] [] rfl, ?_⟩
 refine A8 rfl (fun hc => ?_) (fun hc => ?_)
 ·try simp only [SG, List.length_map] at hc
  refine B3 ?_
  refine A8 rfl (fun hc => ?_) (fun hc => absurd hc (by simp_all))
  refine A3 <| A0 <| A4 rfl rfl rfl ?_
  refine A5 ⟨nofun, _, kS [2] [] rfl, ?_⟩
  refine B4 <| C7 rfl rfl trivial <| congrArg iV ?_
  simp_all [rch]
 try simp only [SG, List.length_map] at hc
 refine A0 <| M2 rfl rfl <| A4 rfl rfl rfl ?_
 refine A5 ⟨nofun, _, kS [3,4] [] rfl, ?_⟩
 refine A8 rfl (fun hc => ?_) (fun hc => ?_)
 ·try simp only [SG, List.length_map] at hc
  refine A3 <| A0 <| A4 rfl rfl rfl ?_
  refine A5 ⟨nofun, _, kS [2] [] rfl, ?_⟩
  refine B4 <| C7 rfl rfl trivial <| congrArg iV ?_
  simp_all [rch]
 try simp only [SG, List.length_map] at hc
 refine A3 <| A3 <| A0 <| M2 rfl rfl <| A4 rfl rfl rfl ?_
 refine A5 ⟨nofun, _, kS [3,13] [] rfl, ?_⟩
 refine A8 rfl (fun hc => ?_) (fun hc => ?_)
 ·try simp only [SG, List.length_map] at hc
  refine B3 ?_
  refine A8 rfl (fun hc => ?_) (fun hc => absurd hc (by simp_all))
  refine A3 <| A0 <| A4 rfl rfl rfl ?_
  refine A5 ⟨nofun, _, kS [2] [] rfl, ?_⟩
  refine B4 <| C7 rfl rfl trivial <| congrArg iV ?_
  simp_all [rch]
 try simp only [SG, List.length_map] at hc
 refine A0 <| M2 rfl rfl <| A4 rfl rfl rfl ?_
 refine A5 ⟨nofun, _, kS [3,13] [] rfl, ?_⟩
 refine A8 rfl (fun hc => ?_) (fun hc => ?_)
 ·try simp only [SG, List.length_map] at hc
  refine A3 <| A0 <| A4 rfl rfl rfl ?_
  refine A5 ⟨nofun, _, kS [2] [] rfl, ?_⟩
  refine B4 <| C7 rfl rfl trivial <| congrArg iV ?_
  simp_all [rch]
 try simp only [SG, List.length_map] at hc
 refine A3 <| A3 <| A0 <| M2 rfl rfl <| A4 rfl rfl rfl ?_
 refine A5 ⟨nofun, _, kS [3,16] [] rfl, ?_⟩
 refine A8 rfl (fun hc => ?_) (fun hc => ?_)
 ·try simp only [SG, List.length_map] at hc
  refine B3 ?_
  refine A8 rfl (fun hc => ?_) (fun hc => absurd hc (by simp_all))
  refine A3 <| A0 <| A4 rfl rfl rfl ?_
  refine A5 ⟨nofun, _, kS [2] [] rfl, ?_⟩
  refine B4 <| C7 rfl rfl trivial <| congrArg iV ?_
  simp_all [rch]
 try simp only [SG, List.length_map] at hc
 refine A3 <| A0 <| M2 rfl rfl <| A4 rfl rfl rfl ?_
 refine A5 ⟨nofun, _, kS [3,16] [] rfl, ?_⟩
 refine A8 rfl (fun hc => ?_) (fun hc => ?_)
 ·try simp only [SG, List.length_map] at hc
  refine B3 ?_
  refine A8 rfl (fun hc => ?_) (fun hc => absurd hc (by simp_all))
  refine A3 <| A0 <| A4 rfl rfl rfl ?_
  refine A5 ⟨nofun, _, kS [2] [] rfl, ?_⟩
  refine B4 <| C7 rfl rfl trivial <| congrArg iV ?_
  simp_all [rch]
 try simp only [SG, List.length_map] at hc
 refine A3 <| A0 <| M2 rfl rfl <| A4 rfl rfl rfl ?_
 refine A5 ⟨nofun, _, kS [3,16] [] rfl, ?_⟩
 refine A8 rfl (fun hc => ?_) (fun hc => ?_)
 ·try simp only [SG, List.length_map] at hc
  refine B3 ?_
  refine A8 rfl (fun hc => ?_) (fun hc => absurd hc (by simp_all))
  refine A3 <| A0 <| A4 rfl rfl rfl ?_
  refine A5 ⟨nofun, _, kS [2] [] rfl, ?_⟩
  refine B4 <| C7 rfl rfl trivial <| congrArg iV ?_
  simp_all [rch]
 try simp only [SG, List.length_map] at hc
 refine A0 <| M2 rfl rfl <| A4 rfl rfl rfl ?_
 refine A5 ⟨nofun, _, kS [16] [] rfl, ?_⟩
 refine A8 rfl (fun hc => ?_) (fun hc => ?_)
 ·try simp only [SG, List.length_map] at hc
  refine A3 <| A0 <| A4 rfl rfl rfl ?_
  refine A5 ⟨nofun, _, kS [2] [] rfl, ?_⟩
  refine B4 <| C7 rfl rfl trivial <| congrArg iV ?_
  simp_all [rch]
 try simp only [SG, List.length_map] at hc
 refine B3 <| A3 <| A0 <| A4 rfl rfl rfl ?_
 refine A5 ⟨nofun, _, kS [2] [] rfl, ?_⟩
 refine B4 <| C7 rfl rfl trivial <| congrArg iV ?_
 simp_all [rch]

theorem keep_s_number : G7 Tryd.f55 = [0, 2, 4, 10] := by kernel_rfl
set_option maxHeartbeats 20000000 in
theorem a3i (n : Int) (hn : -1000000 ≤ n ∧ n ≤ 1000000) : CW (cxT rG) 55 [iV n] = some (tV (dec n), []) := by
 obtain ⟨kk, hkk⟩ : ∃ kk : Nat, 2 * n.natAbs + (if n < 0 then 1 else 0) < kk := ⟨_, Nat.lt_succ_self _⟩
 revert n
 induction kk with
 | zero => intro n hn hkk; exact absurd hkk (Nat.not_lt_zero _)
 | succ kk ih =>
  intro n hn hkk
  refine F8 rfl Tryd.func55 rfl ⟨by kernel_rfl, rfl, of_decide_eq_true rfl, of_decide_eq_true rfl, by decide⟩ keep_s_number <| A3 <| A0 <| A4 rfl rfl rfl ?_
  refine A5 ⟨nofun, _, kS [0] [] rfl, ?_⟩
  refine A3 <| A3 <| A0 <| A6 rfl rfl <| J7 rfl rfl ?_
  refine A5 ⟨nofun, _, kS [0,4] [] rfl, ?_⟩
  refine A8 rfl (fun hc => ?_) (fun hc => ?_)
  ·try simp only [SG, List.length_map] at hc
   refine A3 <| A0 <| A6 rfl rfl <| d4f rfl (G9 (by omega)) ?_
   have hdl := S6 (m := -n) (by omega)
   apply D7 rfl
   ·apply B7
    ·exact B8 rfl
    exact D6
   ·exact ih (-n) (by omega) (by split at hkk <;> split <;> omega)
   ·exact ⟨rfl, rfl, rfl, of_decide_eq_true rfl, rfl⟩
   ·exact .inl rfl
   ·exact C1
   ·exact E3 rfl
   ·exact fun _ => rfl
   intro g7
   refine Q3 rfl rfl (by simp only [H3, List.length_append, List.length_cons, List.length_nil]; omega) <| A4 rfl rfl rfl ?_
   refine A5 ⟨nofun, _, kS [2] [] rfl, ?_⟩
   refine B4 <| C7 rfl rfl trivial ?_
   exact congrArg tV (d2x (by assumption)).symm
  try simp only [SG, List.length_map] at hc
  refine B3 <| A3 <| A3 <| A0 <| A6 rfl rfl <| J7 rfl rfl ?_
  refine A5 ⟨nofun, _, kS [0,10] [] rfl, ?_⟩
  refine A8 rfl (fun hc => ?_) (fun hc => ?_)
  ·try simp only [SG, List.length_map] at hc
   refine A3 <| A0 <| A6 rfl rfl <| A6 rfl rfl <| I0 rfl rfl (G9 (by omega)) <| a3w rfl rfl (a3d rfl (by omega)) (a3d rfl (by omega)) (by (simp; omega)) <| A4 rfl rfl rfl ?_
   refine A5 ⟨nofun, _, kS [2] [] rfl, ?_⟩
   refine B4 <| C7 rfl rfl trivial ?_
   rw [d3g (by omega)]
  try simp only [SG, List.length_map] at hc
  refine B3 <| A3 <| A0 <| A6 rfl rfl ?_
  have hd10 : n.tdiv 10 = n / 10 := Int.tdiv_eq_ediv_of_nonneg (by omega)
  refine d4c rfl rfl ⟨by omega, G9 (by omega)⟩ ?_
  have hd10 : n.tdiv 10 = n / 10 := Int.tdiv_eq_ediv_of_nonneg (by omega)
  have hdl0 := S6 (m := n.tdiv 10) (by omega)
  apply D7 rfl
  ·apply B7
   ·exact B8 rfl
   exact D6
  ·exact ih (n.tdiv 10) (by omega) (by split at hkk <;> split <;> omega)
  ·exact ⟨rfl, rfl, rfl, of_decide_eq_true rfl, rfl⟩
  ·exact .inl rfl
  ·exact C1
  ·exact E3 rfl
  ·exact fun _ => rfl
  intro g17
  refine A6 rfl rfl <| d4b rfl rfl (by omega) ?_
  have hm10 : n.tmod 10 = n % 10 := Int.tmod_eq_emod_of_nonneg (by omega)
  have hdl1 := S6 (m := n.tmod 10) (by omega)
  apply D7 rfl
  ·apply B7
   ·exact B8 rfl
   exact D6
  ·exact ih (n.tmod 10) (by omega) (by split at hkk <;> split <;> omega)
  ·exact ⟨rfl, rfl, rfl, of_decide_eq_true rfl, rfl⟩
  ·exact .inl rfl
  ·exact C1
  ·exact E3 rfl
  ·exact fun _ => rfl
  intro g20
  refine Q3 rfl rfl (by simp only [H3, List.length_append, List.length_cons, List.length_nil]; omega) <| A4 rfl rfl rfl ?_
  refine A5 ⟨nofun, _, kS [2] [] rfl, ?_⟩
  refine B4 <| C7 rfl rfl trivial ?_
  rw [← d5i (by omega)]

theorem keep_s_listText : G7 Tryd.f43 = [0, 2, 4, 8, 12, 3] := by kernel_rfl
set_option maxHeartbeats 20000000 in
theorem c4n (ns : List Int) (hl : ns.length ≤ 1000000) (hnb : ∀ n ∈ ns, -1000000 ≤ n ∧ n ≤ 1000000) : CW (cxT rG) 43 [L ns] = some (tV (N6 ns), []) := by
 have hg := fun (i : Nat) (h : i < ns.length) => hnb _ (a2t h)
 refine F8 rfl Tryd.func43 rfl ⟨by kernel_rfl, rfl, of_decide_eq_true rfl, of_decide_eq_true rfl, by decide⟩ keep_s_listText <| A3 <| A0 <| A4 rfl rfl rfl ?_
 refine A5 ⟨nofun, _, kS [0] [] rfl, ?_⟩
 refine A3 <| A0 <| A4 rfl rfl rfl ?_
 refine A5 ⟨nofun, _, kS [0,3] [] rfl, ?_⟩
 refine A3 <| A3 <| A0 <| A4 rfl rfl rfl ?_
 refine A5 ⟨nofun, _, kS [0,3,4] [] rfl, ?_⟩
 refine D3 <| I5 (β := Nat) [(.t 0, _)] (fun (i : Nat) => [(.t 4, iV i), (.t 3, tV (N6 (ns.take i)))]) (fun (i : Nat) => i ≤ ns.length) (fun (i : Nat) => ns.length - i) 0 ⟨rfl, rfl, rfl, trivial⟩ (Nat.zero_le _) ?_
 intro i hb
 have hi1 := hb
 have hll := a4g (ns := ns.take i) (fun n hn => hnb n (List.mem_of_mem_take hn))
 rw [List.length_take] at hll
 refine A3 <| A3 <| A0 <| A6 rfl rfl <| A6 rfl rfl <| I1 rfl rfl <| J7 rfl rfl ?_
 refine A5 ⟨nofun, _, kS [0,3,4,8] [] rfl, ?_⟩
 refine A8 rfl (fun hc => ?_) (fun hc => ?_)
 ·try simp only [SG, List.length_map] at hc
  refine B3 <| A3 <| D3 <| A3 <| A3 <| A0 <| A6 rfl rfl <| X6 rfl rfl ?_
  refine A5 ⟨nofun, _, kS [0,3,4,12] [] rfl, ?_⟩
  refine A8 rfl (fun hc => ?_) (fun hc => ?_)
  ·try simp only [SG, List.length_map] at hc
   have hi0 : 0 < i := by omega
   refine A0 <| A6 rfl rfl <| Q3 rfl rfl (by simp only [H3, List.length_append, List.length_cons, List.length_nil]; omega) <| A4 rfl rfl rfl ?_
   refine A5 ⟨nofun, _, kS [0,3,4] [] rfl, ?_⟩
   refine A0 <| A6 rfl rfl <| A6 rfl rfl <| A6 rfl rfl <| G5 rfl rfl rfl (fun _ => rfl) (by omega) <| G2 rfl rfl rfl ?_
   have hgi := hg i (by omega)
   have hdl := S6 hgi
   apply D7 rfl
   ·apply B7
    ·exact B8 rfl
    exact D6
   ·exact a3i (ns.getD i default) hgi
   ·exact ⟨rfl, rfl, rfl, of_decide_eq_true rfl, rfl⟩
   ·exact .inl rfl
   ·exact C1
   ·exact E3 rfl
   ·exact fun _ => rfl
   intro g20
   refine Q3 rfl rfl (by simp only [H3, List.length_append, List.length_cons, List.length_nil]; omega) <| A4 rfl rfl rfl ?_
   refine A5 ⟨nofun, _, kS [0,3,4] [] rfl, ?_⟩
   refine A0 <| A6 rfl rfl <| I0 rfl rfl (G9 (by omega)) <| A4 rfl rfl rfl ?_
   refine A5 ⟨nofun, _, kS [0,3,4] [] rfl, ?_⟩
   rw [← c0x (by omega) hi0]
   refine ⟨i + 1, ?_, (by omega), ⟨rfl, rfl, rfl, trivial⟩⟩
   omega
  try simp only [SG, List.length_map] at hc
  have hi0 : i = 0 := by omega
  refine B3 <| A0 <| A6 rfl rfl <| A6 rfl rfl <| A6 rfl rfl <| G5 rfl rfl rfl (fun _ => rfl) (by omega) <| G2 rfl rfl rfl ?_
  have hgi := hg i (by omega)
  have hdl := S6 hgi
  apply D7 rfl
  ·apply B7
   ·exact B8 rfl
   exact D6
  ·exact a3i (ns.getD i default) hgi
  ·exact ⟨rfl, rfl, rfl, of_decide_eq_true rfl, rfl⟩
  ·exact .inl rfl
  ·exact C1
  ·exact E3 rfl
  ·exact fun _ => rfl
  intro g20
  refine Q3 rfl rfl (by simp only [H3, List.length_append, List.length_cons, List.length_nil]; omega) <| A4 rfl rfl rfl ?_
  refine A5 ⟨nofun, _, kS [0,3,4] [] rfl, ?_⟩
  refine A0 <| A6 rfl rfl <| I0 rfl rfl (G9 (by omega)) <| A4 rfl rfl rfl ?_
  refine A5 ⟨nofun, _, kS [0,3,4] [] rfl, ?_⟩
  rw [← c1j (by omega) hi0]
  refine ⟨i + 1, ?_, (by omega), ⟨rfl, rfl, rfl, trivial⟩⟩
  omega
 try simp only [SG, List.length_map] at hc
 refine H6 <| A3 <| A0 <| A6 rfl rfl <| A4 rfl rfl rfl ?_
 refine A5 ⟨nofun, _, kS [2] [] rfl, ?_⟩
 refine B4 <| C7 rfl rfl trivial ?_
 rw [List.take_of_length_le (by omega)]

theorem keep_s_splitAt : G7 Tryd.f38 = [0, 1, 4, 7, 12, 19, 6, 5] := by kernel_rfl
set_option maxHeartbeats 20000000 in
theorem b6f (s : List UInt8) (hs : s.length ≤ 1048576) (c : UInt8) : CW (cxT rG) 38 [tV s, uV c.toNat] = some (.own 1 ((splitB c s).map tV), []) := by
 refine F8 rfl Tryd.func38 rfl ⟨by kernel_rfl, rfl, of_decide_eq_true rfl, of_decide_eq_true rfl, by decide⟩ keep_s_splitAt <| A3 <| A0 ?_
 (refine B9 rfl rfl (fun _ => rfl) ?_; intro g4)
 refine A5 ⟨nofun, _, kS [0,1] [] rfl, ?_⟩
 refine A3 <| A0 <| E7 (es := List.map tV []) rfl rfl (of_decide_eq_true rfl) rfl rfl (fun _ => B0 (A9 fun _ => rfl)) (fun _ => rfl) ?_
 intro g8
 (refine B2 rfl rfl (by (simp; done)) rfl (fun _ => (B0 (by exact A9 fun _ => rfl))) (fun _ => rfl) ?_; intro g5)
 refine A5 ⟨nofun, _, kS [0,1,5] [5] rfl, ?_⟩
 refine A3 <| A0 <| A4 rfl rfl rfl ?_
 refine A5 ⟨nofun, _, kS [0,1,5,6] [5] rfl, ?_⟩
 refine A3 <| A3 <| A0 <| A4 rfl rfl rfl ?_
 refine A5 ⟨nofun, _, kS [0,1,5,6,7] [5] rfl, ?_⟩
 refine D3 <| I5 (β := Nat × Nat × List (List UInt8) × Nat) [(.t 0, _), (.t 1, _)] (fun (z : Nat × Nat × List (List UInt8) × Nat) => match z with | (i, fr, out, g) => [(.t 7, iV i), (.t 6, iV fr), (.t 5, .sl 5 g none 0 out.length), (.h 5, .obj g 0 1 (out.map tV))]) (fun (z : Nat × Nat × List (List UInt8) × Nat) => match z with | (i, fr, out, g) => i ≤ s.length ∧ fr ≤ i ∧ out.length ≤ i ∧ splitB c s = out ++ T2 ((s.drop fr).take (i - fr)) (splitB c (s.drop i))) (fun (z : Nat × Nat × List (List UInt8) × Nat) => match z with | (i, fr, out, g) => s.length - i) (0, 0, [], _) ⟨rfl, rfl, rfl, rfl, rfl, rfl, trivial⟩ ⟨Nat.zero_le _, Nat.le_refl _, Nat.le_refl _, by simp [b5q]⟩ ?_
 intro z hb
 obtain ⟨i, fr, out, g⟩ := z
 try dsimp only at hb
 obtain ⟨hi1, hfr, hol, hsp⟩ := hb
 refine A3 <| A3 <| A0 <| A6 rfl rfl <| A6 rfl rfl <| a3r rfl rfl <| J7 rfl rfl ?_
 refine A5 ⟨nofun, _, kS [0,1,5,6,7,12] [5] rfl, ?_⟩
 refine A8 rfl (fun hc => ?_) (fun hc => ?_)
 ·try simp only [SG, List.length_map] at hc
  refine B3 <| A3 <| D3 <| A3 <| A0 <| A6 rfl rfl <| A6 rfl rfl <| N7 rfl rfl rfl (by omega) <| A6 rfl rfl <| a4w rfl rfl ?_
  refine A5 ⟨nofun, _, kS [0,1,5,6,7,19] [5] rfl, ?_⟩
  refine A8 rfl (fun hc => ?_) (fun hc => ?_)
  ·try simp only [SG, List.length_map] at hc
   have hcb : s.getD i 0 = c := UInt8.toNat_inj.1 (by omega)
   refine A3 <| A0 <| A6 rfl rfl <| A6 rfl rfl <| A6 rfl rfl <| A6 rfl rfl <| a3w rfl rfl (H8 rfl) (H8 rfl) (by omega) <| E7 (es := List.map tV [_]) rfl rfl (of_decide_eq_true rfl) rfl rfl (fun _ => B0 (A9 fun _ => rfl)) (fun _ => rfl) ?_
   intro g25
   refine G8 rfl rfl rfl rfl (by (simp; done)) (by simp) (by decide) rfl rfl rfl rfl (of_decide_eq_true rfl) (fun _ => ⟨rfl, rfl⟩) (by simp only [H3]; (simp only [List.length_nil, List.length_cons, List.length_append, Nat.zero_add, List.length_map]; omega)) (fun _ => rfl) ?_
   intro g26
   (refine B2 rfl rfl (by (simp; done)) rfl (fun _ => (B0 (by exact A9 fun _ => rfl))) (fun _ => rfl) ?_; intro g5)
   refine A5 ⟨nofun, _, kS [0,1,5,7] [5] rfl, ?_⟩
   refine A0 <| A6 rfl rfl <| I0 rfl rfl (G9 (by omega)) <| A4 rfl rfl rfl ?_
   refine A5 ⟨nofun, _, kS [0,1,5,6,7] [5] rfl, ?_⟩
   refine A0 <| A6 rfl rfl <| I0 rfl rfl (G9 (by omega)) <| A4 rfl rfl rfl ?_
   refine A5 ⟨nofun, _, kS [0,1,5,6,7] [5] rfl, ?_⟩
   refine ⟨(i + 1, i + 1, out ++ [(s.drop fr).take (i - fr)], _), ?_, (by simp only; omega), ⟨rfl, rfl, rfl, rfl, rfl, rfl, trivial⟩⟩
   have hst := b3i (by omega) hfr hsp
   exact ⟨by omega, by omega, by simp; omega, hst.1 hcb⟩
  try simp only [SG, List.length_map] at hc
  have hcb : s.getD i 0 ≠ c := fun e => hc (by rw [e])
  refine B3 <| A0 <| A6 rfl rfl <| I0 rfl rfl (G9 (by omega)) <| A4 rfl rfl rfl ?_
  refine A5 ⟨nofun, _, kS [0,1,5,6,7] [5] rfl, ?_⟩
  refine ⟨(i + 1, fr, out, _), ?_, (by simp only; omega), ⟨rfl, rfl, rfl, rfl, rfl, rfl, trivial⟩⟩
  have hst := b3i (by omega) hfr hsp
  exact ⟨by omega, by omega, by omega, hst.2 hcb⟩
 try simp only [SG, List.length_map] at hc
 refine H6 <| A3 <| A0 <| A6 rfl rfl <| A6 rfl rfl <| A6 rfl rfl <| a3w rfl rfl L5 (H8 rfl) (by omega) <| E7 (es := List.map tV [_]) rfl rfl (of_decide_eq_true rfl) rfl rfl (fun _ => B0 (A9 fun _ => rfl)) (fun _ => rfl) ?_
 intro g33
 refine G8 rfl rfl rfl rfl (by (simp; done)) (by simp) (by decide) rfl rfl rfl rfl (of_decide_eq_true rfl) (fun _ => ⟨rfl, rfl⟩) (by simp only [H3]; (simp only [List.length_nil, List.length_cons, List.length_append, Nat.zero_add, List.length_map]; omega)) (fun _ => rfl) ?_
 intro g34
 (refine B2 rfl rfl (by (simp; done)) rfl (fun _ => (B0 (by exact A9 fun _ => rfl))) (fun _ => rfl) ?_; intro g4)
 refine A5 ⟨nofun, _, kS [4] [4] rfl, ?_⟩
 refine B4 <| S1 rfl rfl (by simp) (by exact A9 fun _ => rfl) trivial ?_
 have hil : i = s.length := by omega
 rw [hsp, hil, List.drop_length, splitB, T2, List.append_nil]

theorem keep_s_readList : G7 Tryd.f61 = [0, 2, 3, 5, 6, 17, 7, 8, 31, 10, 37, 9, 53, 62, 75, 4] := by kernel_rfl
set_option maxHeartbeats 20000000 in
theorem c3x (s : List UInt8) (hs : s.length ≤ 1048576) : CW (cxT rG) 61 [tV s] = some (.tup [.own 1 (((rdL s).getD []).map iV), bV (rdL s).isSome], []) := by
 obtain ⟨ps, hps⟩ : ∃ ps, ps = splitB 44 s := ⟨_, rfl⟩
 have hpl := S2 44 s
 rw [← hps] at hpl
 have hpp := T3 44 s
 rw [← hps] at hpp
 refine F8 rfl Tryd.func61 rfl ⟨by kernel_rfl, rfl, of_decide_eq_true rfl, of_decide_eq_true rfl, by decide⟩ keep_s_readList <| A3 <| A0 ?_
 (refine B9 rfl rfl (fun _ => rfl) ?_; intro g2)
 refine A4 rfl rfl rfl ?_
 refine A5 ⟨nofun, _, kS [0] [] rfl, ?_⟩
 refine A3 <| A0 <| E7 (es := List.map iV []) rfl rfl (of_decide_eq_true rfl) rfl rfl (fun _ => B0 (A9 fun _ => rfl)) (fun _ => rfl) ?_
 intro g11
 (refine B2 rfl rfl (by (simp; done)) rfl (fun _ => (B0 (by exact A9 fun _ => rfl))) (fun _ => rfl) ?_; intro g4)
 refine A5 ⟨nofun, _, kS [0,4] [4] rfl, ?_⟩
 refine A3 <| A0 <| A6 rfl rfl ?_
 apply D7 rfl
 ·apply B7
  ·exact B8 rfl
  apply B7
  ·exact B8 rfl
  exact D6
 ·exact b6f s hs 44
 ·exact ⟨rfl, rfl, rfl, of_decide_eq_true rfl, rfl⟩
 ·exact .inl rfl
 ·exact C1
 ·exact N9
 ·exact fun _ => rfl
 intro g13
 rw [← hps]
 try simp only [List.length_map]
 (refine B2 rfl rfl (by (simp; done)) rfl (fun _ => (B0 (by exact A9 fun _ => rfl))) (fun _ => rfl) ?_; intro g5)
 refine A5 ⟨nofun, _, kS [4,5] [4,5] rfl, ?_⟩
 refine A3 <| A3 <| A0 <| A4 rfl rfl rfl ?_
 refine A5 ⟨nofun, _, kS [4,5,6] [4,5] rfl, ?_⟩
 refine D3 <| I5 (β := Nat × List Int × Nat) [(.t 5, _), (.h 5, _)] (fun (z : Nat × List Int × Nat) => match z with | (i, ns, g) => [(.t 6, iV i), (.t 4, .sl 4 g none 0 ns.length), (.h 4, .obj g 0 1 (ns.map iV))]) (fun (z : Nat × List Int × Nat) => match z with | (i, ns, g) => i ≤ ps.length ∧ a0b (ps.take i) = some ns) (fun (z : Nat × List Int × Nat) => match z with | (i, ns, g) => ps.length - i) (0, [], _) ⟨rfl, rfl, rfl, rfl, rfl, trivial⟩ ⟨Nat.zero_le _, rfl⟩ ?_
 intro z hb
 obtain ⟨i, ns, g⟩ := z
 try dsimp only at hb
 obtain ⟨hi1, hrd⟩ := hb
 have hnl := a8x hrd
 rw [List.length_take] at hnl
 have hpi := fun h : i < ps.length => hpp _ (W0 h)
 refine A3 <| A3 <| A0 <| A6 rfl rfl <| A6 rfl rfl <| O9 rfl rfl <| J7 rfl rfl ?_
 refine A5 ⟨nofun, _, kS [4,5,6,17] [4,5] rfl, ?_⟩
 refine A8 rfl (fun hc => ?_) (fun hc => ?_)
 ·try simp only [SG, List.length_map] at hc
  refine B3 <| A3 <| D3 <| A3 <| A0 <| A6 rfl rfl <| A6 rfl rfl <| I3 rfl rfl rfl rfl (by omega) (by (simp; done)) rfl <| K3 rfl rfl (by omega) (fun _ => rfl) (fun _ => rfl) rfl <| A4 rfl rfl rfl ?_
  refine A5 ⟨nofun, _, kS [4,5,6,7] [4,5] rfl, ?_⟩
  refine A3 <| A0 <| A6 rfl rfl <| a9f rfl rfl <| A6 rfl rfl ?_
  refine E4 rfl rfl (fun hg0 => ?_) (fun hg0 => ?_)
  ·have hg := hg0; try simp only [SG] at hg
   refine A6 rfl rfl <| gT rfl rfl ?_
   have hp0 : 0 < (ps.getD i default).length := List.length_pos_iff.2 (by assumption)
   refine N7 (n := 0) rfl rfl rfl hp0 <| gT rfl rfl <| a4w rfl rfl <| G1 rfl (by assumption) rfl rfl <| A4 rfl rfl rfl ?_
   refine A5 ⟨nofun, _, kS [4,5,6,7,8] [4,5] rfl, ?_⟩
   refine A3 <| A3 <| A0 <| A6 rfl rfl ?_
   refine A5 ⟨nofun, _, kS [4,5,6,7,8,31] [4,5] rfl, ?_⟩
   refine A8 rfl (fun hc => ?_) (fun hc => ?_)
   ·try simp only [SG, List.length_map] at hc
    obtain ⟨hng, hup⟩ := d6m (p := (ps.getD i default)) (by assumption) (by omega)
    have hul := b7c (ps.getD i default)
    rw [hup] at hul
    refine A0 <| A6 rfl rfl <| a3w rfl rfl L5 (H8 (n := 1) rfl) (by omega) <| A4 rfl rfl rfl ?_
    refine A5 ⟨nofun, _, kS [4,5,6,7,8] [4,5] rfl, ?_⟩
    refine A3 <| A0 <| A4 rfl rfl rfl ?_
    refine A5 ⟨nofun, _, kS [4,5,6,7,8,9] [4,5] rfl, ?_⟩
    refine A3 <| A3 <| A0 <| A4 rfl rfl rfl ?_
    refine A5 ⟨nofun, _, kS [4,5,6,7,8,9,10] [4,5] rfl, ?_⟩
    refine D3 ?_
    have hup0 := hup
    refine I5 (β := Nat × Int) [(.t 4, _), (.t 5, _), (.t 6, _), (.t 7, _), (.t 8, _), (.h 4, _), (.h 5, _)] (fun (z : Nat × Int) => match z with | (k, a) => [(.t 10, iV k), (.t 9, iV a)]) (fun (z : Nat × Int) => match z with | (k, a) => k ≤ (unS (ps.getD i default)).length ∧ 0 ≤ a ∧ T4 0 ((unS (ps.getD i default)).take k) = some a.toNat) (fun (z : Nat × Int) => match z with | (k, a) => (unS (ps.getD i default)).length - k) (0, 0) ⟨rfl, rfl, rfl, rfl, rfl, rfl, rfl, rfl, rfl, trivial⟩ ⟨Nat.zero_le _, by decide, rfl⟩ ?_
    intro z hb
    obtain ⟨k, a⟩ := z
    try dsimp only at hb
    obtain ⟨hk1, ha0, hdg⟩ := hb
    have hab := b1b (by decide) hdg
    rw [hup] at hk1 hdg
    refine A3 <| A3 <| A0 <| A6 rfl rfl <| A6 rfl rfl <| a3r rfl rfl <| J7 rfl rfl ?_
    refine A5 ⟨nofun, _, kS [4,5,6,7,8,9,10,37] [4,5] rfl, ?_⟩
    refine A8 rfl (fun hc => ?_) (fun hc => ?_)
    ·try simp only [SG, List.length_map] at hc
     refine B3 <| A3 <| D3 <| A3 <| A3 <| A0 <| A6 rfl rfl <| A6 rfl rfl <| N7 rfl rfl rfl (by omega) <| J7 rfl rfl <| A6 rfl rfl ?_
     refine E4 rfl rfl (fun hg0 => ?_) (fun hg0 => ?_)
     ·have hg := hg0; try simp only [SG] at hg
      refine A6 rfl rfl <| gT rfl rfl <| A6 rfl rfl <| gT rfl rfl <| N7 rfl rfl rfl (by omega) <| gT rfl rfl <| X6 rfl rfl <| G0 rfl (by assumption) rfl rfl <| A6 rfl rfl ?_
      refine E4 rfl rfl (fun hg0 => ?_) (fun hg0 => ?_)
      ·have hg := hg0; try simp only [SG] at hg
       refine A6 rfl rfl <| gT rfl rfl <| X6 rfl rfl <| G0 rfl (by assumption) rfl rfl ?_
       refine A5 ⟨nofun, _, kS [4,5,6,7,8,9,10,53] [4,5] rfl, ?_⟩
       refine A8 rfl (fun hc => ?_) (fun hc => ?_)
       ·try simp only [SG, List.length_map] at hc
        refine A3 <| A0 ?_
        (refine B9 rfl rfl (fun _ => rfl) ?_; intro g2)
        refine A4 rfl rfl rfl ?_
        refine A5 ⟨nofun, _, kS [2,3] [2] rfl, ?_⟩
        refine B4 <| C9 (H1 rfl rfl (by simp) (by rfl) (D9 rfl rfl (E6 C3))) ?_
        rw [rdL, ← hps, J9 (show i < ps.length by omega) (T6 (by rw [hup]; exact Q6 (by omega) hdg (by omega)))]
        rfl
       try simp only [SG, List.length_map] at hc
       refine B3 <| A0 <| A6 rfl rfl <| d1n rfl rfl (G9 (by omega)) <| A6 rfl rfl <| A6 rfl rfl <| N7 rfl rfl rfl (by omega) <| a8y rfl rfl (d4u (by omega)) <| b6n rfl rfl rfl (G9 (by omega)) <| I0 rfl rfl (G9 (by omega)) <| A4 rfl rfl rfl ?_
       refine A5 ⟨nofun, _, kS [4,5,6,7,8,9,10] [4,5] rfl, ?_⟩
       refine A0 <| A6 rfl rfl <| I0 rfl rfl (G9 (by omega)) <| A4 rfl rfl rfl ?_
       refine A5 ⟨nofun, _, kS [4,5,6,7,8,9,10] [4,5] rfl, ?_⟩
       refine ⟨(k + 1, _), ?_, (by simp only [hup]; omega), ⟨rfl, rfl, rfl, rfl, rfl, rfl, rfl, rfl, rfl, trivial⟩⟩
       rw [hup]
       have hds := a7r (by omega) hdg (by omega)
       exact ⟨by omega, by omega, hds.trans (congrArg some (by omega))⟩
      have hg := hg0; try simp only [SG] at hg
      refine gF rfl rfl <| G1 rfl (by assumption) rfl rfl ?_
      refine A5 ⟨nofun, _, kS [4,5,6,7,8,9,10,53] [4,5] rfl, ?_⟩
      refine A8 rfl (fun hc => ?_) (fun hc => absurd hc (by decide))
      refine A3 <| A0 ?_
      (refine B9 rfl rfl (fun _ => rfl) ?_; intro g2)
      refine A4 rfl rfl rfl ?_
      refine A5 ⟨nofun, _, kS [2,3] [2] rfl, ?_⟩
      refine B4 <| C9 (H1 rfl rfl (by simp) (by rfl) (D9 rfl rfl (E6 C3))) ?_
      rw [rdL, ← hps, J9 (show i < ps.length by omega) (T6 (by rw [hup]; exact Q6 (by omega) hdg (by omega)))]
      rfl
     have hg := hg0; try simp only [SG] at hg
     refine gF rfl rfl <| gF rfl rfl <| gF rfl rfl <| G1 rfl (by assumption) rfl rfl <| A6 rfl rfl <| H5 rfl rfl rfl <| H5 rfl rfl rfl <| G1 rfl rfl rfl rfl ?_
     refine A5 ⟨nofun, _, kS [4,5,6,7,8,9,10,53] [4,5] rfl, ?_⟩
     refine A8 rfl (fun hc => ?_) (fun hc => absurd hc (by decide))
     refine A3 <| A0 ?_
     (refine B9 rfl rfl (fun _ => rfl) ?_; intro g2)
     refine A4 rfl rfl rfl ?_
     refine A5 ⟨nofun, _, kS [2,3] [2] rfl, ?_⟩
     refine B4 <| C9 (H1 rfl rfl (by simp) (by rfl) (D9 rfl rfl (E6 C3))) ?_
     rw [rdL, ← hps, J9 (show i < ps.length by omega) (T6 (by rw [hup]; exact Q6 (by omega) hdg (by omega)))]
     rfl
    try simp only [SG, List.length_map] at hc
    have hdU : T4 0 (unS (ps.getD i default)) = some a.toNat := by rw [hup]; rw [List.take_of_length_le (by omega)] at hdg; exact hdg
    refine H6 <| A3 <| A3 <| A0 <| A6 rfl rfl ?_
    refine A5 ⟨nofun, _, kS [4,5,6,7,9,62] [4,5] rfl, ?_⟩
    refine A8 rfl (fun hc => ?_) (fun hc => absurd hc (by simp_all))
    refine A0 <| A6 rfl rfl <| d4f rfl (G9 (by omega)) <| A4 rfl rfl rfl ?_
    refine A5 ⟨nofun, _, kS [4,5,6,7,9] [4,5] rfl, ?_⟩
    refine A3 <| A3 <| A0 <| A6 rfl rfl <| Y5 rfl rfl <| A6 rfl rfl ?_
    refine E4 rfl rfl (fun hg0 => ?_) (fun hg0 => ?_)
    ·have hg := hg0; try simp only [SG] at hg
     refine A6 rfl rfl <| gT rfl rfl ?_
     have hdl1 := S6 (m := -a) (by omega)
     have hdl2 := S6 (m := a) (by omega)
     apply D7 rfl
     ·apply B7
      ·exact B8 rfl
      exact D6
     ·exact a3i (-a) (by omega)
     ·exact ⟨rfl, rfl, rfl, of_decide_eq_true rfl, rfl⟩
     ·exact .inl rfl
     ·exact C1
     ·exact E3 rfl
     ·exact fun _ => rfl
     intro g69
     refine gT rfl rfl <| A6 rfl rfl <| gT rfl rfl <| A6 rfl rfl <| gT rfl rfl <| I3 rfl rfl rfl rfl (by omega) (by (simp; done)) rfl <| gT rfl rfl <| K3 rfl rfl (by omega) (fun _ => rfl) (fun _ => rfl) rfl <| gT rfl rfl <| a9f rfl rfl <| G0 rfl (by assumption) rfl rfl ?_
     refine A5 ⟨fun _ => ⟨by (simp only [a1z, List.nil_append, List.append_nil, List.map_cons, List.map_nil, List.cons_append]; decide +kernel), by decide +kernel⟩, [(.t 4, _), (.t 5, _), (.t 6, _), (.t 9, _), (.t 75, _), (.h 4, _), (.h 5, _)], ⟨rfl, rfl, rfl, rfl, rfl, rfl, rfl, rfl, rfl, rfl, rfl, rfl, rfl, rfl, trivial⟩, ?_⟩
     refine A8 rfl (fun hc => ?_) (fun hc => ?_)
     ·try simp only [SG, List.length_map] at hc
      refine A3 <| A0 ?_
      (refine B9 rfl rfl (fun _ => rfl) ?_; intro g2)
      refine A4 rfl rfl rfl ?_
      refine A5 ⟨nofun, _, kS [2,3] [2] rfl, ?_⟩
      refine B4 <| C9 (H1 rfl rfl (by simp) (by rfl) (D9 rfl rfl (E6 C3))) ?_
      have hno : rdI (ps.getD i default) = none := by exact a7w (m := -a) hdU (by (rw [hng, if_pos rfl]; omega)) (by exact .inr (by assumption))
      rw [rdL, ← hps, J9 (show i < ps.length by omega) hno]
      rfl
     try simp only [SG, List.length_map] at hc
     have hri := c4f (m := -a) hdU (by (rw [hng, if_pos rfl]; omega)) (by rw [hup]; assumption) (by assumption)
     refine B3 <| A0 <| A6 rfl rfl <| A6 rfl rfl <| E7 (es := List.map iV [_]) rfl rfl (of_decide_eq_true rfl) rfl rfl (fun _ => B0 (A9 fun _ => rfl)) (fun _ => rfl) ?_
     intro g78
     refine G8 rfl rfl rfl rfl (by (simp; done)) (by simp) (by decide) rfl rfl rfl rfl (of_decide_eq_true rfl) (fun _ => ⟨rfl, rfl⟩) (by simp only [H3]; (simp only [List.length_nil, List.length_cons, List.length_append, Nat.zero_add, List.length_map]; omega)) (fun _ => rfl) ?_
     intro g79
     (refine B2 rfl rfl (by (simp; done)) rfl (fun _ => (B0 (by exact A9 fun _ => rfl))) (fun _ => rfl) ?_; intro g4)
     refine A5 ⟨nofun, _, kS [4,5,6] [4,5] rfl, ?_⟩
     refine A0 <| A6 rfl rfl <| I0 rfl rfl (G9 (by omega)) <| A4 rfl rfl rfl ?_
     refine A5 ⟨nofun, _, kS [4,5,6] [4,5] rfl, ?_⟩
     refine ⟨(i + 1, ns ++ [-a], _), ?_, (by simp only; omega), ⟨rfl, rfl, rfl, rfl, rfl, trivial⟩⟩
     exact ⟨by omega, a8d (by omega) hrd hri⟩
    have hg := hg0; try simp only [SG] at hg
    refine gF rfl rfl <| gF rfl rfl <| gF rfl rfl <| gF rfl rfl <| gF rfl rfl <| gF rfl rfl <| G1 rfl (by assumption) rfl rfl ?_
    refine A5 ⟨fun _ => ⟨by decide +kernel, by decide +kernel⟩, [(.t 4, _), (.t 5, _), (.t 6, _), (.t 9, _), (.t 75, _), (.h 4, _), (.h 5, _)], ⟨rfl, rfl, rfl, rfl, rfl, rfl, rfl, rfl, rfl, rfl, rfl, rfl, rfl, rfl, trivial⟩, ?_⟩
    refine A8 rfl (fun hc => ?_) (fun hc => absurd hc (by decide))
    refine A3 <| A0 ?_
    (refine B9 rfl rfl (fun _ => rfl) ?_; intro g2)
    refine A4 rfl rfl rfl ?_
    refine A5 ⟨nofun, _, kS [2,3] [2] rfl, ?_⟩
    refine B4 <| C9 (H1 rfl rfl (by simp) (by rfl) (D9 rfl rfl (E6 C3))) ?_
    have hno : rdI (ps.getD i default) = none := by exact a7w (m := -a) hdU (by (rw [hng, if_pos rfl]; omega)) (by exact .inl (by rw [hup]; assumption))
    rw [rdL, ← hps, J9 (show i < ps.length by omega) hno]
    rfl
   try simp only [SG, List.length_map] at hc
   obtain ⟨hng, hup⟩ := d4g (p := (ps.getD i default)) (by exact .inr (by omega))
   have hul := b7c (ps.getD i default)
   rw [hup] at hul
   refine B3 <| A3 <| A0 <| A4 rfl rfl rfl ?_
   refine A5 ⟨nofun, _, kS [4,5,6,7,8,9] [4,5] rfl, ?_⟩
   refine A3 <| A3 <| A0 <| A4 rfl rfl rfl ?_
   refine A5 ⟨nofun, _, kS [4,5,6,7,8,9,10] [4,5] rfl, ?_⟩
   refine D3 ?_
   have hup0 := hup
   refine I5 (β := Nat × Int) [(.t 4, _), (.t 5, _), (.t 6, _), (.t 7, _), (.t 8, _), (.h 4, _), (.h 5, _)] (fun (z : Nat × Int) => match z with | (k, a) => [(.t 10, iV k), (.t 9, iV a)]) (fun (z : Nat × Int) => match z with | (k, a) => k ≤ (unS (ps.getD i default)).length ∧ 0 ≤ a ∧ T4 0 ((unS (ps.getD i default)).take k) = some a.toNat) (fun (z : Nat × Int) => match z with | (k, a) => (unS (ps.getD i default)).length - k) (0, 0) ⟨rfl, rfl, rfl, rfl, rfl, rfl, rfl, rfl, rfl, trivial⟩ ⟨Nat.zero_le _, by decide, rfl⟩ ?_
   intro z hb
   obtain ⟨k, a⟩ := z
   try dsimp only at hb
   obtain ⟨hk1, ha0, hdg⟩ := hb
   have hab := b1b (by decide) hdg
   rw [hup] at hk1 hdg
   refine A3 <| A3 <| A0 <| A6 rfl rfl <| A6 rfl rfl <| a3r rfl rfl <| J7 rfl rfl ?_
   refine A5 ⟨nofun, _, kS [4,5,6,7,8,9,10,37] [4,5] rfl, ?_⟩
   refine A8 rfl (fun hc => ?_) (fun hc => ?_)
   ·try simp only [SG, List.length_map] at hc
    refine B3 <| A3 <| D3 <| A3 <| A3 <| A0 <| A6 rfl rfl <| A6 rfl rfl <| N7 rfl rfl rfl (by omega) <| J7 rfl rfl <| A6 rfl rfl ?_
    refine E4 rfl rfl (fun hg0 => ?_) (fun hg0 => ?_)
    ·have hg := hg0; try simp only [SG] at hg
     refine A6 rfl rfl <| gT rfl rfl <| A6 rfl rfl <| gT rfl rfl <| N7 rfl rfl rfl (by omega) <| gT rfl rfl <| X6 rfl rfl <| G0 rfl (by assumption) rfl rfl <| A6 rfl rfl ?_
     refine E4 rfl rfl (fun hg0 => ?_) (fun hg0 => ?_)
     ·have hg := hg0; try simp only [SG] at hg
      refine A6 rfl rfl <| gT rfl rfl <| X6 rfl rfl <| G0 rfl (by assumption) rfl rfl ?_
      refine A5 ⟨nofun, _, kS [4,5,6,7,8,9,10,53] [4,5] rfl, ?_⟩
      refine A8 rfl (fun hc => ?_) (fun hc => ?_)
      ·try simp only [SG, List.length_map] at hc
       refine A3 <| A0 ?_
       (refine B9 rfl rfl (fun _ => rfl) ?_; intro g2)
       refine A4 rfl rfl rfl ?_
       refine A5 ⟨nofun, _, kS [2,3] [2] rfl, ?_⟩
       refine B4 <| C9 (H1 rfl rfl (by simp) (by rfl) (D9 rfl rfl (E6 C3))) ?_
       rw [rdL, ← hps, J9 (show i < ps.length by omega) (T6 (by rw [hup]; exact Q6 (by omega) hdg (by omega)))]
       rfl
      try simp only [SG, List.length_map] at hc
      refine B3 <| A0 <| A6 rfl rfl <| d1n rfl rfl (G9 (by omega)) <| A6 rfl rfl <| A6 rfl rfl <| N7 rfl rfl rfl (by omega) <| a8y rfl rfl (d4u (by omega)) <| b6n rfl rfl rfl (G9 (by omega)) <| I0 rfl rfl (G9 (by omega)) <| A4 rfl rfl rfl ?_
      refine A5 ⟨nofun, _, kS [4,5,6,7,8,9,10] [4,5] rfl, ?_⟩
      refine A0 <| A6 rfl rfl <| I0 rfl rfl (G9 (by omega)) <| A4 rfl rfl rfl ?_
      refine A5 ⟨nofun, _, kS [4,5,6,7,8,9,10] [4,5] rfl, ?_⟩
      refine ⟨(k + 1, _), ?_, (by simp only [hup]; omega), ⟨rfl, rfl, rfl, rfl, rfl, rfl, rfl, rfl, rfl, trivial⟩⟩
      rw [hup]
      have hds := a7r (by omega) hdg (by omega)
      exact ⟨by omega, by omega, hds.trans (congrArg some (by omega))⟩
     have hg := hg0; try simp only [SG] at hg
     refine gF rfl rfl <| G1 rfl (by assumption) rfl rfl ?_
     refine A5 ⟨nofun, _, kS [4,5,6,7,8,9,10,53] [4,5] rfl, ?_⟩
     refine A8 rfl (fun hc => ?_) (fun hc => absurd hc (by decide))
     refine A3 <| A0 ?_
     (refine B9 rfl rfl (fun _ => rfl) ?_; intro g2)
     refine A4 rfl rfl rfl ?_
     refine A5 ⟨nofun, _, kS [2,3] [2] rfl, ?_⟩
     refine B4 <| C9 (H1 rfl rfl (by simp) (by rfl) (D9 rfl rfl (E6 C3))) ?_
     rw [rdL, ← hps, J9 (show i < ps.length by omega) (T6 (by rw [hup]; exact Q6 (by omega) hdg (by omega)))]
     rfl
    have hg := hg0; try simp only [SG] at hg
    refine gF rfl rfl <| gF rfl rfl <| gF rfl rfl <| G1 rfl (by assumption) rfl rfl <| A6 rfl rfl <| H5 rfl rfl rfl <| H5 rfl rfl rfl <| G1 rfl rfl rfl rfl ?_
    refine A5 ⟨nofun, _, kS [4,5,6,7,8,9,10,53] [4,5] rfl, ?_⟩
    refine A8 rfl (fun hc => ?_) (fun hc => absurd hc (by decide))
    refine A3 <| A0 ?_
    (refine B9 rfl rfl (fun _ => rfl) ?_; intro g2)
    refine A4 rfl rfl rfl ?_
    refine A5 ⟨nofun, _, kS [2,3] [2] rfl, ?_⟩
    refine B4 <| C9 (H1 rfl rfl (by simp) (by rfl) (D9 rfl rfl (E6 C3))) ?_
    rw [rdL, ← hps, J9 (show i < ps.length by omega) (T6 (by rw [hup]; exact Q6 (by omega) hdg (by omega)))]
    rfl
   try simp only [SG, List.length_map] at hc
   have hdU : T4 0 (unS (ps.getD i default)) = some a.toNat := by rw [hup]; rw [List.take_of_length_le (by omega)] at hdg; exact hdg
   refine H6 <| A3 <| A3 <| A0 <| A6 rfl rfl ?_
   refine A5 ⟨nofun, _, kS [4,5,6,7,9,62] [4,5] rfl, ?_⟩
   refine A8 rfl (fun hc => absurd hc (by simp_all)) (fun hc => ?_)
   refine B3 <| A3 <| A3 <| A0 <| A6 rfl rfl <| Y5 rfl rfl <| A6 rfl rfl ?_
   refine E4 rfl rfl (fun hg0 => ?_) (fun hg0 => ?_)
   ·have hg := hg0; try simp only [SG] at hg
    refine A6 rfl rfl <| gT rfl rfl ?_
    have hdl1 := S6 (m := -a) (by omega)
    have hdl2 := S6 (m := a) (by omega)
    apply D7 rfl
    ·apply B7
     ·exact B8 rfl
     exact D6
    ·exact a3i a (by omega)
    ·exact ⟨rfl, rfl, rfl, of_decide_eq_true rfl, rfl⟩
    ·exact .inl rfl
    ·exact C1
    ·exact E3 rfl
    ·exact fun _ => rfl
    intro g69
    refine gT rfl rfl <| A6 rfl rfl <| gT rfl rfl <| A6 rfl rfl <| gT rfl rfl <| I3 rfl rfl rfl rfl (by omega) (by (simp; done)) rfl <| gT rfl rfl <| K3 rfl rfl (by omega) (fun _ => rfl) (fun _ => rfl) rfl <| gT rfl rfl <| a9f rfl rfl <| G0 rfl (by assumption) rfl rfl ?_
    refine A5 ⟨fun _ => ⟨by (simp only [a1z, List.nil_append, List.append_nil, List.map_cons, List.map_nil, List.cons_append]; decide +kernel), by decide +kernel⟩, [(.t 4, _), (.t 5, _), (.t 6, _), (.t 9, _), (.t 75, _), (.h 4, _), (.h 5, _)], ⟨rfl, rfl, rfl, rfl, rfl, rfl, rfl, rfl, rfl, rfl, rfl, rfl, rfl, rfl, trivial⟩, ?_⟩
    refine A8 rfl (fun hc => ?_) (fun hc => ?_)
    ·try simp only [SG, List.length_map] at hc
     refine A3 <| A0 ?_
     (refine B9 rfl rfl (fun _ => rfl) ?_; intro g2)
     refine A4 rfl rfl rfl ?_
     refine A5 ⟨nofun, _, kS [2,3] [2] rfl, ?_⟩
     refine B4 <| C9 (H1 rfl rfl (by simp) (by rfl) (D9 rfl rfl (E6 C3))) ?_
     have hno : rdI (ps.getD i default) = none := by exact a7w (m := a) hdU (by (rw [hng, if_neg (by decide)]; omega)) (by exact .inr (by assumption))
     rw [rdL, ← hps, J9 (show i < ps.length by omega) hno]
     rfl
    try simp only [SG, List.length_map] at hc
    have hri := c4f (m := a) hdU (by (rw [hng, if_neg (by decide)]; omega)) (by rw [hup]; assumption) (by assumption)
    refine B3 <| A0 <| A6 rfl rfl <| A6 rfl rfl <| E7 (es := List.map iV [_]) rfl rfl (of_decide_eq_true rfl) rfl rfl (fun _ => B0 (A9 fun _ => rfl)) (fun _ => rfl) ?_
    intro g78
    refine G8 rfl rfl rfl rfl (by (simp; done)) (by simp) (by decide) rfl rfl rfl rfl (of_decide_eq_true rfl) (fun _ => ⟨rfl, rfl⟩) (by simp only [H3]; (simp only [List.length_nil, List.length_cons, List.length_append, Nat.zero_add, List.length_map]; omega)) (fun _ => rfl) ?_
    intro g79
    (refine B2 rfl rfl (by (simp; done)) rfl (fun _ => (B0 (by exact A9 fun _ => rfl))) (fun _ => rfl) ?_; intro g4)
    refine A5 ⟨nofun, _, kS [4,5,6] [4,5] rfl, ?_⟩
    refine A0 <| A6 rfl rfl <| I0 rfl rfl (G9 (by omega)) <| A4 rfl rfl rfl ?_
    refine A5 ⟨nofun, _, kS [4,5,6] [4,5] rfl, ?_⟩
    refine ⟨(i + 1, ns ++ [a], _), ?_, (by simp only; omega), ⟨rfl, rfl, rfl, rfl, rfl, trivial⟩⟩
    exact ⟨by omega, a8d (by omega) hrd hri⟩
   have hg := hg0; try simp only [SG] at hg
   refine gF rfl rfl <| gF rfl rfl <| gF rfl rfl <| gF rfl rfl <| gF rfl rfl <| gF rfl rfl <| G1 rfl (by assumption) rfl rfl ?_
   refine A5 ⟨fun _ => ⟨by decide +kernel, by decide +kernel⟩, [(.t 4, _), (.t 5, _), (.t 6, _), (.t 9, _), (.t 75, _), (.h 4, _), (.h 5, _)], ⟨rfl, rfl, rfl, rfl, rfl, rfl, rfl, rfl, rfl, rfl, rfl, rfl, rfl, rfl, trivial⟩, ?_⟩
   refine A8 rfl (fun hc => ?_) (fun hc => absurd hc (by decide))
   refine A3 <| A0 ?_
   (refine B9 rfl rfl (fun _ => rfl) ?_; intro g2)
   refine A4 rfl rfl rfl ?_
   refine A5 ⟨nofun, _, kS [2,3] [2] rfl, ?_⟩
   refine B4 <| C9 (H1 rfl rfl (by simp) (by rfl) (D9 rfl rfl (E6 C3))) ?_
   have hno : rdI (ps.getD i default) = none := by exact a7w (m := a) hdU (by (rw [hng, if_neg (by decide)]; omega)) (by exact .inl (by rw [hup]; assumption))
   rw [rdL, ← hps, J9 (show i < ps.length by omega) hno]
   rfl
  have hg := hg0; try simp only [SG] at hg
  refine gF rfl rfl <| gF rfl rfl <| G0 rfl (by assumption) rfl rfl <| A4 rfl rfl rfl ?_
  refine A5 ⟨nofun, _, kS [4,5,6,7,8] [4,5] rfl, ?_⟩
  refine A3 <| A3 <| A0 <| A6 rfl rfl ?_
  refine A5 ⟨nofun, _, kS [4,5,6,7,8,31] [4,5] rfl, ?_⟩
  refine A8 rfl (fun hc => absurd hc (by decide)) (fun hc => ?_)
  refine B3 <| A3 <| A0 <| A4 rfl rfl rfl ?_
  refine A5 ⟨nofun, _, kS [4,5,6,7,8,9] [4,5] rfl, ?_⟩
  refine A3 <| A3 <| A0 <| A4 rfl rfl rfl ?_
  refine A5 ⟨nofun, _, kS [4,5,6,7,8,9,10] [4,5] rfl, ?_⟩
  refine D3 ?_
  (obtain ⟨hng, hup⟩ := d4g (p := (ps.getD i default)) (.inl (by assumption)); have hul := b7c (ps.getD i default); rw [hup] at hul)
  refine I5 (β := Nat × Int) [(.t 4, _), (.t 5, _), (.t 6, _), (.t 7, _), (.t 8, _), (.h 4, _), (.h 5, _)] (fun (z : Nat × Int) => match z with | (k, a) => [(.t 10, iV k), (.t 9, iV a)]) (fun (z : Nat × Int) => match z with | (k, a) => k ≤ (unS (ps.getD i default)).length ∧ 0 ≤ a ∧ T4 0 ((unS (ps.getD i default)).take k) = some a.toNat) (fun (z : Nat × Int) => match z with | (k, a) => (unS (ps.getD i default)).length - k) (0, 0) ⟨rfl, rfl, rfl, rfl, rfl, rfl, rfl, rfl, rfl, trivial⟩ ⟨Nat.zero_le _, by decide, rfl⟩ ?_
  intro z hb
  obtain ⟨k, a⟩ := z
  try dsimp only at hb
  obtain ⟨hk1, ha0, hdg⟩ := hb
  have hab := b1b (by decide) hdg
  rw [hup] at hk1 hdg
  refine A3 <| A3 <| A0 <| A6 rfl rfl <| A6 rfl rfl <| a3r rfl rfl <| J7 rfl rfl ?_
  refine A5 ⟨nofun, _, kS [4,5,6,7,8,9,10,37] [4,5] rfl, ?_⟩
  refine A8 rfl (fun hc => ?_) (fun hc => ?_)
  ·try simp only [SG, List.length_map] at hc
   refine B3 <| A3 <| D3 <| A3 <| A3 <| A0 <| A6 rfl rfl <| A6 rfl rfl <| N7 rfl rfl rfl (by omega) <| J7 rfl rfl <| A6 rfl rfl ?_
   refine E4 rfl rfl (fun hg0 => ?_) (fun hg0 => ?_)
   ·have hg := hg0; try simp only [SG] at hg
    refine A6 rfl rfl <| gT rfl rfl <| A6 rfl rfl <| gT rfl rfl <| N7 rfl rfl rfl (by omega) <| gT rfl rfl <| X6 rfl rfl <| G0 rfl (by assumption) rfl rfl <| A6 rfl rfl ?_
    refine E4 rfl rfl (fun hg0 => ?_) (fun hg0 => ?_)
    ·have hg := hg0; try simp only [SG] at hg
     refine A6 rfl rfl <| gT rfl rfl <| X6 rfl rfl <| G0 rfl (by assumption) rfl rfl ?_
     refine A5 ⟨nofun, _, kS [4,5,6,7,8,9,10,53] [4,5] rfl, ?_⟩
     refine A8 rfl (fun hc => ?_) (fun hc => ?_)
     ·try simp only [SG, List.length_map] at hc
      refine A3 <| A0 ?_
      (refine B9 rfl rfl (fun _ => rfl) ?_; intro g2)
      refine A4 rfl rfl rfl ?_
      refine A5 ⟨nofun, _, kS [2,3] [2] rfl, ?_⟩
      refine B4 <| C9 (H1 rfl rfl (by simp) (by rfl) (D9 rfl rfl (E6 C3))) ?_
      rw [rdL, ← hps, J9 (show i < ps.length by omega) (T6 (by rw [hup]; exact Q6 (by omega) hdg (by omega)))]
      rfl
     try simp only [SG, List.length_map] at hc
     refine B3 <| A0 <| A6 rfl rfl <| d1n rfl rfl (G9 (by omega)) <| A6 rfl rfl <| A6 rfl rfl <| N7 rfl rfl rfl (by omega) <| a8y rfl rfl (d4u (by omega)) <| b6n rfl rfl rfl (G9 (by omega)) <| I0 rfl rfl (G9 (by omega)) <| A4 rfl rfl rfl ?_
     refine A5 ⟨nofun, _, kS [4,5,6,7,8,9,10] [4,5] rfl, ?_⟩
     refine A0 <| A6 rfl rfl <| I0 rfl rfl (G9 (by omega)) <| A4 rfl rfl rfl ?_
     refine A5 ⟨nofun, _, kS [4,5,6,7,8,9,10] [4,5] rfl, ?_⟩
     refine ⟨(k + 1, _), ?_, (by simp only [hup]; omega), ⟨rfl, rfl, rfl, rfl, rfl, rfl, rfl, rfl, rfl, trivial⟩⟩
     rw [hup]
     have hds := a7r (by omega) hdg (by omega)
     exact ⟨by omega, by omega, hds.trans (congrArg some (by omega))⟩
    have hg := hg0; try simp only [SG] at hg
    refine gF rfl rfl <| G1 rfl (by assumption) rfl rfl ?_
    refine A5 ⟨nofun, _, kS [4,5,6,7,8,9,10,53] [4,5] rfl, ?_⟩
    refine A8 rfl (fun hc => ?_) (fun hc => absurd hc (by decide))
    refine A3 <| A0 ?_
    (refine B9 rfl rfl (fun _ => rfl) ?_; intro g2)
    refine A4 rfl rfl rfl ?_
    refine A5 ⟨nofun, _, kS [2,3] [2] rfl, ?_⟩
    refine B4 <| C9 (H1 rfl rfl (by simp) (by rfl) (D9 rfl rfl (E6 C3))) ?_
    rw [rdL, ← hps, J9 (show i < ps.length by omega) (T6 (by rw [hup]; exact Q6 (by omega) hdg (by omega)))]
    rfl
   have hg := hg0; try simp only [SG] at hg
   refine gF rfl rfl <| gF rfl rfl <| gF rfl rfl <| G1 rfl (by assumption) rfl rfl <| A6 rfl rfl <| H5 rfl rfl rfl <| H5 rfl rfl rfl <| G1 rfl rfl rfl rfl ?_
   refine A5 ⟨nofun, _, kS [4,5,6,7,8,9,10,53] [4,5] rfl, ?_⟩
   refine A8 rfl (fun hc => ?_) (fun hc => absurd hc (by decide))
   refine A3 <| A0 ?_
   (refine B9 rfl rfl (fun _ => rfl) ?_; intro g2)
   refine A4 rfl rfl rfl ?_
   refine A5 ⟨nofun, _, kS [2,3] [2] rfl, ?_⟩
   refine B4 <| C9 (H1 rfl rfl (by simp) (by rfl) (D9 rfl rfl (E6 C3))) ?_
   rw [rdL, ← hps, J9 (show i < ps.length by omega) (T6 (by rw [hup]; exact Q6 (by omega) hdg (by omega)))]
   rfl
  try simp only [SG, List.length_map] at hc
  have hdU : T4 0 (unS (ps.getD i default)) = some a.toNat := by rw [hup]; rw [List.take_of_length_le (by omega)] at hdg; exact hdg
  refine H6 <| A3 <| A3 <| A0 <| A6 rfl rfl ?_
  refine A5 ⟨nofun, _, kS [4,5,6,7,9,62] [4,5] rfl, ?_⟩
  refine A8 rfl (fun hc => absurd hc (by decide)) (fun hc => ?_)
  refine B3 <| A3 <| A3 <| A0 <| A6 rfl rfl <| Y5 rfl rfl <| A6 rfl rfl ?_
  refine E4 rfl rfl (fun hg0 => ?_) (fun hg0 => ?_)
  ·have hg := hg0; try simp only [SG] at hg
   refine A6 rfl rfl <| gT rfl rfl ?_
   have hdl1 := S6 (m := -a) (by omega)
   have hdl2 := S6 (m := a) (by omega)
   apply D7 rfl
   ·apply B7
    ·exact B8 rfl
    exact D6
   ·exact a3i a (by omega)
   ·exact ⟨rfl, rfl, rfl, of_decide_eq_true rfl, rfl⟩
   ·exact .inl rfl
   ·exact C1
   ·exact E3 rfl
   ·exact fun _ => rfl
   intro g69
   refine gT rfl rfl <| A6 rfl rfl <| gT rfl rfl <| A6 rfl rfl <| gT rfl rfl <| I3 rfl rfl rfl rfl (by omega) (by (simp; done)) rfl <| gT rfl rfl <| K3 rfl rfl (by omega) (fun _ => rfl) (fun _ => rfl) rfl <| gT rfl rfl <| a9f rfl rfl <| G0 rfl (by assumption) rfl rfl ?_
   refine A5 ⟨fun _ => ⟨by (simp only [a1z, List.nil_append, List.append_nil, List.map_cons, List.map_nil, List.cons_append]; decide +kernel), by decide +kernel⟩, [(.t 4, _), (.t 5, _), (.t 6, _), (.t 9, _), (.t 75, _), (.h 4, _), (.h 5, _)], ⟨rfl, rfl, rfl, rfl, rfl, rfl, rfl, rfl, rfl, rfl, rfl, rfl, rfl, rfl, trivial⟩, ?_⟩
   refine A8 rfl (fun hc => ?_) (fun hc => ?_)
   ·try simp only [SG, List.length_map] at hc
    refine A3 <| A0 ?_
    (refine B9 rfl rfl (fun _ => rfl) ?_; intro g2)
    refine A4 rfl rfl rfl ?_
    refine A5 ⟨nofun, _, kS [2,3] [2] rfl, ?_⟩
    refine B4 <| C9 (H1 rfl rfl (by simp) (by rfl) (D9 rfl rfl (E6 C3))) ?_
    have hno : rdI (ps.getD i default) = none := by exact a7w (m := a) hdU (by (rw [hng, if_neg (by decide)]; omega)) (by exact .inl (by rw [hup]; assumption))
    rw [rdL, ← hps, J9 (show i < ps.length by omega) hno]
    rfl
   try simp only [SG, List.length_map] at hc
   have hri := c4f (m := a) hdU (by (rw [hng, if_neg (by decide)]; omega)) (by rw [hup]; assumption) (by assumption)
   refine B3 <| A0 <| A6 rfl rfl <| A6 rfl rfl <| E7 (es := List.map iV [_]) rfl rfl (of_decide_eq_true rfl) rfl rfl (fun _ => B0 (A9 fun _ => rfl)) (fun _ => rfl) ?_
   intro g78
   refine G8 rfl rfl rfl rfl (by (simp; done)) (by simp) (by decide) rfl rfl rfl rfl (of_decide_eq_true rfl) (fun _ => ⟨rfl, rfl⟩) (by simp only [H3]; (simp only [List.length_nil, List.length_cons, List.length_append, Nat.zero_add, List.length_map]; omega)) (fun _ => rfl) ?_
   intro g79
   (refine B2 rfl rfl (by (simp; done)) rfl (fun _ => (B0 (by exact A9 fun _ => rfl))) (fun _ => rfl) ?_; intro g4)
   refine A5 ⟨nofun, _, kS [4,5,6] [4,5] rfl, ?_⟩
   refine A0 <| A6 rfl rfl <| I0 rfl rfl (G9 (by omega)) <| A4 rfl rfl rfl ?_
   refine A5 ⟨nofun, _, kS [4,5,6] [4,5] rfl, ?_⟩
   refine ⟨(i + 1, ns ++ [a], _), ?_, (by simp only; omega), ⟨rfl, rfl, rfl, rfl, rfl, trivial⟩⟩
   exact ⟨by omega, a8d (by omega) hrd hri⟩
  have hg := hg0; try simp only [SG] at hg
  refine gF rfl rfl <| gF rfl rfl <| gF rfl rfl <| gF rfl rfl <| gF rfl rfl <| gF rfl rfl <| G1 rfl (by assumption) rfl rfl ?_
  refine A5 ⟨fun _ => ⟨by decide +kernel, by decide +kernel⟩, [(.t 4, _), (.t 5, _), (.t 6, _), (.t 9, _), (.t 75, _), (.h 4, _), (.h 5, _)], ⟨rfl, rfl, rfl, rfl, rfl, rfl, rfl, rfl, rfl, rfl, rfl, rfl, rfl, rfl, trivial⟩, ?_⟩
  refine A8 rfl (fun hc => ?_) (fun hc => absurd hc (by decide))
  refine A3 <| A0 ?_
  (refine B9 rfl rfl (fun _ => rfl) ?_; intro g2)
  refine A4 rfl rfl rfl ?_
  refine A5 ⟨nofun, _, kS [2,3] [2] rfl, ?_⟩
  refine B4 <| C9 (H1 rfl rfl (by simp) (by rfl) (D9 rfl rfl (E6 C3))) ?_
  have hno : rdI (ps.getD i default) = none := by exact a7w (m := a) hdU (by (rw [hng, if_neg (by decide)]; omega)) (by exact .inl (by rw [hup]; assumption))
  rw [rdL, ← hps, J9 (show i < ps.length by omega) hno]
  rfl
 try simp only [SG, List.length_map] at hc
 refine H6 <| A3 <| A0 <| A6 rfl rfl ?_
 (refine B2 rfl rfl (by (simp; done)) rfl (fun _ => (B0 (by exact A9 fun _ => rfl))) (fun _ => rfl) ?_; intro g2)
 refine A4 rfl rfl rfl ?_
 refine A5 ⟨nofun, _, kS [2,3] [2] rfl, ?_⟩
 refine B4 <| C9 (H1 rfl rfl (by simp) (by exact A9 fun _ => rfl) (D9 rfl rfl (E6 C3))) ?_
 have hil : i = ps.length := by omega
 rw [hil, List.take_length] at hrd
 rw [rdL, ← hps, hrd]
 rfl

theorem keep_s_readNums : G7 Tryd.f51 = [0, 2, 3, 4, 22, 24, 5, 6] := by kernel_rfl
set_option maxHeartbeats 20000000 in
theorem c4y (s : List UInt8) (hs : s.length ≤ 1048576) : CW (cxT rG) 51 [tV s] = some (.tup [.own 1 ((c1b s).map iV), bV (numsOf s).isSome], []) := by
 refine F8 rfl Tryd.func51 rfl ⟨by kernel_rfl, rfl, of_decide_eq_true rfl, of_decide_eq_true rfl, by decide⟩ keep_s_readNums <| A3 <| A0 ?_
 (refine B9 rfl rfl (fun _ => rfl) ?_; intro g2)
 refine A4 rfl rfl rfl ?_
 refine A5 ⟨nofun, _, kS [0] [] rfl, ?_⟩
 refine A3 <| A0 <| A6 rfl rfl <| a3r rfl rfl <| A4 rfl rfl rfl ?_
 refine A5 ⟨nofun, _, kS [0,4] [] rfl, ?_⟩
 refine A3 <| A3 <| A0 <| A6 rfl rfl <| J7 rfl rfl <| A6 rfl rfl ?_
 refine E4 rfl rfl (fun hg0 => ?_) (fun hg0 => ?_)
 ·have hg := hg0; try simp only [SG] at hg
  refine A6 rfl rfl <| gT rfl rfl <| N7 (n := 0) rfl rfl rfl (by omega) <| gT rfl rfl <| b3u rfl rfl <| G0 rfl (by assumption) rfl rfl <| A6 rfl rfl ?_
  refine E4 rfl rfl (fun hg0 => ?_) (fun hg0 => ?_)
  ·have hg := hg0; try simp only [SG] at hg
   refine A6 rfl rfl <| gT rfl rfl <| A6 rfl rfl <| gT rfl rfl <| a8y rfl rfl (G9 (by omega)) <| gT rfl rfl ?_
   rw [show ((s.length : Int) - 1) = ((s.length - 1 : Nat) : Int) by omega]
   refine N7 rfl rfl rfl (by omega) <| gT rfl rfl <| b3u rfl rfl <| G0 rfl (by assumption) rfl rfl ?_
   refine A5 ⟨nofun, _, kS [0,4,22] [] rfl, ?_⟩
   refine A8 rfl (fun hc => ?_) (fun hc => ?_)
   ·try simp only [SG, List.length_map] at hc
    refine A3 <| A0 ?_
    (refine B9 rfl rfl (fun _ => rfl) ?_; intro g2)
    refine A4 rfl rfl rfl ?_
    refine A5 ⟨nofun, _, kS [2,3] [2] rfl, ?_⟩
    refine B4 <| C9 (H1 rfl rfl (by simp) (by rfl) (D9 rfl rfl (E6 C3))) ?_
    obtain ⟨hn1, hn2⟩ := a4d (s := s) (by exact .inr (.inr (by omega)))
    rw [hn1, hn2]
    rfl
   try simp only [SG, List.length_map] at hc
   have hin := c8d (s := s) (by omega) (by omega) (by omega)
   refine B3 <| A3 <| A3 <| A0 <| A6 rfl rfl <| a4w rfl rfl ?_
   refine A5 ⟨nofun, _, kS [0,4,24] [] rfl, ?_⟩
   refine A8 rfl (fun hc => ?_) (fun hc => ?_)
   ·try simp only [SG, List.length_map] at hc
    refine A3 <| A0 <| E7 (es := List.map iV []) rfl rfl (of_decide_eq_true rfl) rfl rfl (fun _ => B0 (A9 fun _ => rfl)) (fun _ => rfl) ?_
    intro g25
    (refine B2 rfl rfl (by (simp; done)) rfl (fun _ => (B0 (by exact A9 fun _ => rfl))) (fun _ => rfl) ?_; intro g2)
    refine A4 rfl rfl rfl ?_
    refine A5 ⟨nofun, _, kS [2,3] [2] rfl, ?_⟩
    refine B4 <| C9 (H1 rfl rfl (by simp) (by rfl) (D9 rfl rfl (E6 C3))) ?_
    obtain ⟨hn1, hn2⟩ := hin.1 (by omega)
    rw [hn1, hn2]
    rfl
   try simp only [SG, List.length_map] at hc
   refine B3 <| A3 <| A0 <| A6 rfl rfl <| A6 rfl rfl <| a8y rfl rfl (G9 (by omega)) ?_
   rw [show ((s.length : Int) - 1) = ((s.length - 1 : Nat) : Int) by omega]
   have hrl := d3a ((s.drop 1).take (s.length - 1 - 1))
   have hin2 : ((s.drop 1).take (s.length - 1 - 1)).length ≤ s.length - 2 := by simp only [List.length_take, List.length_drop]; omega
   refine a3w rfl rfl (H8 rfl) (H8 (n := 1) rfl) (by omega) ?_
   apply D7 rfl
   ·apply B7
    ·exact B8 rfl
    exact D6
   ·exact c3x ((s.drop 1).take (s.length - 1 - 1)) (by omega)
   ·exact ⟨rfl, rfl, rfl, of_decide_eq_true rfl, rfl⟩
   ·exact .inr ⟨a1q _ _, rfl⟩
   ·exact C1
   ·exact J5 (R9 fun _ => J3 rfl R8)
   ·exact fun _ => rfl
   intro g31
   simp only [List.length_map]
   refine A6 rfl rfl <| B1 rfl rfl rfl <| B1 rfl rfl rfl ?_
   (refine B2 rfl rfl (by (simp; done)) rfl (fun _ => (B0 (by exact A9 fun _ => rfl))) (fun _ => rfl) ?_; intro g5)
   refine A4 rfl rfl rfl ?_
   refine A5 ⟨nofun, _, kS [5,6] [5] rfl, ?_⟩
   refine A3 <| A0 <| A6 rfl rfl <| A6 rfl rfl <| A6 rfl rfl ?_
   refine E4 rfl rfl (fun hg0 => ?_) (fun hg0 => ?_)
   ·have hg := hg0; try simp only [SG] at hg
    refine A6 rfl rfl <| gT rfl rfl ?_
    apply D7 rfl
    ·apply B7
     ·exact K9 rfl rfl rfl (by (simp; done)) (fun _ => rfl)
     exact D6
    ·exact c0z ((rdL ((s.drop 1).take (s.length - 1 - 1))).getD []) (by omega)
    ·exact ⟨rfl, rfl, rfl, of_decide_eq_true rfl, rfl⟩
    ·exact .inr ⟨rfl, rfl⟩
    ·exact C1
    ·exact E3 rfl
    ·exact fun _ => rfl
    intro g38
    refine G1 rfl (by assumption) rfl rfl ?_
    (refine B2 rfl rfl (by (simp; done)) rfl (fun _ => (B0 (by exact A9 fun _ => rfl))) (fun _ => rfl) ?_; intro g2)
    refine A4 rfl rfl rfl ?_
    refine A5 ⟨nofun, _, kS [2,3] [2] rfl, ?_⟩
    refine B4 <| C9 (H1 rfl rfl (by simp) (by exact A9 fun _ => rfl) (D9 rfl rfl (E6 C3))) ?_
    obtain ⟨hn1, hn2⟩ := hin.2 (by omega)
    rw [hn2, b3m hn1]
    simp_all
    try rfl
   have hg := hg0; try simp only [SG] at hg
   refine gF rfl rfl <| G0 rfl (by assumption) rfl rfl ?_
   (refine B2 rfl rfl (by (simp; done)) rfl (fun _ => (B0 (by exact A9 fun _ => rfl))) (fun _ => rfl) ?_; intro g2)
   refine A4 rfl rfl rfl ?_
   refine A5 ⟨nofun, _, kS [2,3] [2] rfl, ?_⟩
   refine B4 <| C9 (H1 rfl rfl (by simp) (by exact A9 fun _ => rfl) (D9 rfl rfl (E6 C3))) ?_
   obtain ⟨hn1, hn2⟩ := hin.2 (by omega)
   rw [hn2, b3m hn1]
   simp_all
   try rfl
  have hg := hg0; try simp only [SG] at hg
  refine gF rfl rfl <| gF rfl rfl <| gF rfl rfl <| gF rfl rfl <| G1 rfl (by assumption) rfl rfl ?_
  refine A5 ⟨nofun, _, kS [0,4,22] [] rfl, ?_⟩
  refine A8 rfl (fun hc => ?_) (fun hc => absurd hc (by decide))
  refine A3 <| A0 ?_
  (refine B9 rfl rfl (fun _ => rfl) ?_; intro g2)
  refine A4 rfl rfl rfl ?_
  refine A5 ⟨nofun, _, kS [2,3] [2] rfl, ?_⟩
  refine B4 <| C9 (H1 rfl rfl (by simp) (by rfl) (D9 rfl rfl (E6 C3))) ?_
  obtain ⟨hn1, hn2⟩ := a4d (s := s) (by exact .inr (.inl (by omega)))
  rw [hn1, hn2]
  rfl
 have hg := hg0; try simp only [SG] at hg
 refine gF rfl rfl <| gF rfl rfl <| G1 rfl (by assumption) rfl rfl <| A6 rfl rfl <| H5 rfl rfl rfl <| H5 rfl rfl rfl <| H5 rfl rfl rfl <| H5 rfl rfl rfl <| H5 rfl rfl rfl <| G1 rfl rfl rfl rfl ?_
 refine A5 ⟨nofun, _, kS [0,4,22] [] rfl, ?_⟩
 refine A8 rfl (fun hc => ?_) (fun hc => absurd hc (by decide))
 refine A3 <| A0 ?_
 (refine B9 rfl rfl (fun _ => rfl) ?_; intro g2)
 refine A4 rfl rfl rfl ?_
 refine A5 ⟨nofun, _, kS [2,3] [2] rfl, ?_⟩
 refine B4 <| C9 (H1 rfl rfl (by simp) (by rfl) (D9 rfl rfl (E6 C3))) ?_
 obtain ⟨hn1, hn2⟩ := a4d (s := s) (by exact .inl (by omega))
 rw [hn1, hn2]
 rfl

theorem keep_s_readTree : G7 Tryd.f39 = [0, 2, 3, 4, 15, 6, 24, 5, 7, 34, 43, 9, 12, 53, 8, 10, 11, 48, 59] := by kernel_rfl
set_option maxHeartbeats 20000000 in
theorem b1v (ws : List W8) (hws : ws.length ≤ 1048600 ∧ ∀ w ∈ ws, w.length ≤ 1048576) : CW (cxT rG) 39 [.list (ws.map tV)] = some (rtR (rdT ws), []) := by
 obtain ⟨kk, hkk⟩ : ∃ kk : Nat, ws.length < kk := ⟨_, Nat.lt_succ_self _⟩
 revert ws
 induction kk with
 | zero => intro ws hws hkk; exact absurd hkk (Nat.not_lt_zero _)
 | succ kk ih =>
  intro ws hws hkk
  refine F8 rfl Tryd.func39 rfl ⟨by kernel_rfl, rfl, of_decide_eq_true rfl, of_decide_eq_true rfl, by decide⟩ keep_s_readTree <| A3 <| A0 <| H2 rfl (fun _ => B5 rfl) (fun _ => rfl) ?_
  intro g2
  (refine B9 rfl rfl (fun _ => rfl) ?_; intro g3)
  refine A4 rfl rfl rfl ?_
  refine A5 ⟨nofun, _, kS [0,2] [2] rfl, ?_⟩
  refine A3 <| A3 <| A0 <| A6 rfl rfl <| I1 rfl rfl <| a4w rfl rfl ?_
  refine A5 ⟨nofun, _, kS [0,2,15] [2] rfl, ?_⟩
  refine A8 rfl (fun hc => ?_) (fun hc => ?_)
  ·try simp only [SG, List.length_map] at hc
   have hw0 : ws = [] := List.length_eq_zero_iff.1 (by simpa using hc)
   subst hw0
   refine A3 <| A0 <| J2 (fs := [_, _, _]) rfl rfl rfl rfl rfl <| B6 rfl rfl rfl rfl ⟨by decide, rfl, of_decide_eq_true rfl, of_decide_eq_true rfl, rfl⟩ rfl (by exact B5 rfl) ?_
   (refine B9 rfl rfl (fun _ => rfl) ?_; intro g3)
   refine A4 rfl rfl rfl ?_
   refine A5 ⟨nofun, _, kS [2,3,4] [2,3] rfl, ?_⟩
   refine B4 <| C9 (F5 rfl rfl rfl rfl (E5 rfl (H0 rfl (H0 rfl H4))) (H1 rfl rfl (by simp) (by rfl) (D9 rfl rfl (E6 C3)))) ?_
   rfl
  try simp only [SG, List.length_map] at hc
  obtain ⟨w, ws1, rfl⟩ : ∃ w ws1, ws = w :: ws1 := List.exists_cons_of_ne_nil (fun e => by subst e; simp at hc)
  have hw := hws.2 w (by simp)
  refine B3 <| A3 <| A0 <| A6 rfl rfl <| G5 rfl rfl rfl (fun _ => rfl) (by (change 0 < _; omega)) <| G2 rfl rfl rfl ?_
  apply D7 rfl
  ·apply B7
   ·exact B8 rfl
   exact D6
  ·exact c4y w (by omega)
  ·exact ⟨rfl, rfl, rfl, of_decide_eq_true rfl, rfl⟩
  ·exact .inr ⟨a1q _ _, rfl⟩
  ·exact C1
  ·exact J5 (R9 fun _ => J3 rfl R8)
  ·exact fun _ => rfl
  intro g21
  simp only [List.length_map]
  refine A6 rfl rfl <| B1 rfl rfl rfl <| B1 rfl rfl rfl ?_
  (refine B2 rfl rfl (by (simp; done)) rfl (fun _ => (B0 (by exact A9 fun _ => rfl))) (fun _ => rfl) ?_; intro g5)
  refine A4 rfl rfl rfl ?_
  refine A5 ⟨nofun, _, kS [0,2,5,6] [2,5] rfl, ?_⟩
  refine A3 <| A3 <| A0 <| A6 rfl rfl ?_
  refine A5 ⟨nofun, _, kS [0,2,5,24] [2,5] rfl, ?_⟩
  refine A8 rfl (fun hc => ?_) (fun hc => ?_)
  ·try simp only [SG, List.length_map] at hc
   obtain ⟨ns, hns⟩ := Option.isSome_iff_exists.1 hc
   have hraw := d2l hns
   refine A3 <| A0 <| A6 rfl rfl <| J2 (fs := [_, _, _]) rfl rfl rfl rfl rfl <| A6 rfl rfl <| M4 rfl rfl rfl (Mv.sized_map fun _ => rfl) L5 (H8 (n := 1) rfl) (by simp) ?_
   rw [show ((List.map tV (w :: ws1)).drop 1).take ((List.map tV (w :: ws1)).length - 1) = ws1.map tV from by rw [List.map_cons, List.drop_succ_cons, List.drop_zero, List.take_of_length_le (by simp)]]
   refine K8 rfl rfl rfl rfl (L4 rfl (a1l (by decide) (L4 rfl V7))) (fun _ => rfl) ⟨by decide, rfl, of_decide_eq_true rfl, Nat.le_refl _⟩ (fun _ => rfl) (fun _ => rfl) (fun _ => (by rfl)) ?_
   intro z
   simp only [P2, List.cons_append, List.nil_append]
   refine A4 rfl rfl rfl <| A4 rfl rfl rfl ?_
   refine A5 ⟨fun _ => ⟨by (simp only [a1z, List.nil_append, List.append_nil, List.map_cons, List.map_nil, List.cons_append]; decide +kernel), by decide +kernel⟩, [(.t 2, _), (.t 3, _), (.t 4, _), (.h 2, _), (.h 5, _)], ⟨rfl, rfl, rfl, rfl, rfl, rfl, rfl, rfl, rfl, rfl, trivial⟩, ?_⟩
   refine B4 <| C9 (F5 rfl rfl rfl rfl (E5 rfl (a2c rfl rfl (by simp) (fun _ => rfl) (H0 rfl H4))) (D9 rfl rfl (D9 rfl rfl (E6 C3)))) ?_
   rw [c2a hns, hraw]
   rfl
  try simp only [SG, List.length_map] at hc
  have hnn : numsOf w = none := by simpa using hc
  refine B3 <| A3 <| A0 <| A6 rfl rfl <| G5 rfl rfl rfl (fun _ => rfl) (by (change 0 < _; omega)) <| G2 rfl rfl rfl ?_
  apply D7 rfl
  ·apply B7
   ·exact B8 rfl
   exact D6
  ·exact c7l (bA w)
  ·exact ⟨rfl, rfl, rfl, of_decide_eq_true rfl, rfl⟩
  ·exact .inl rfl
  ·exact C1
  ·exact E3 rfl
  ·exact fun _ => rfl
  intro g32
  refine A4 rfl rfl rfl ?_
  refine A5 ⟨nofun, _, kS [0,2,7] [2] rfl, ?_⟩
  refine A3 <| A3 <| A0 <| A6 rfl rfl <| J7 rfl rfl ?_
  refine A5 ⟨nofun, _, kS [0,2,7,34] [2] rfl, ?_⟩
  refine A8 rfl (fun hc => ?_) (fun hc => ?_)
  ·try simp only [SG, List.length_map] at hc
   refine A3 <| A0 <| J2 (fs := [_, _, _]) rfl rfl rfl rfl rfl <| B6 rfl rfl rfl rfl ⟨by decide, rfl, of_decide_eq_true rfl, of_decide_eq_true rfl, rfl⟩ rfl (by exact B5 rfl) ?_
   (refine B9 rfl rfl (fun _ => rfl) ?_; intro g3)
   refine A4 rfl rfl rfl ?_
   refine A5 ⟨nofun, _, kS [2,3,4] [2,3] rfl, ?_⟩
   refine B4 <| C9 (F5 rfl rfl rfl rfl (E5 rfl (H0 rfl (H0 rfl H4))) (H1 rfl rfl (by simp) (by rfl) (D9 rfl rfl (E6 C3)))) ?_
   rw [c5i hnn (by omega)]
   rfl
  try simp only [SG, List.length_map] at hc
  refine B3 <| A3 <| A0 <| A6 rfl rfl <| G5 rfl rfl rfl (fun _ => rfl) (by (change 0 < _; omega)) <| G2 rfl rfl rfl <| J2 (fs := [_, _, _]) rfl rfl rfl rfl rfl <| H2 rfl (fun _ => B5 rfl) (fun _ => rfl) ?_
  intro g8
  refine B6 rfl rfl rfl rfl ⟨by decide, rfl, of_decide_eq_true rfl, of_decide_eq_true rfl, rfl⟩ rfl (by exact B5 rfl) ?_
  refine A5 ⟨nofun, _, kS [0,2,7,8] [2,8] rfl, ?_⟩
  refine A3 <| A0 ?_
  rcases b6b (w := bA w) (by omega) with hn | hn | hn
  ·rw [hn]
   refine A6 rfl rfl <| M4 rfl rfl rfl (Mv.sized_map fun _ => rfl) L5 (H8 (n := 1) rfl) (by simp) ?_
   rw [show ((List.map tV (w :: ws1)).drop 1).take ((List.map tV (w :: ws1)).length - 1) = ws1.map tV from by rw [List.map_cons, List.drop_succ_cons, List.drop_zero, List.take_of_length_le (by simp)]]
   refine A4 rfl rfl rfl ?_
   refine A5 ⟨nofun, _, kS [2,7,8,9] [2,8] rfl, ?_⟩
   refine A3 <| D3 <| L7 <| A3 <| A3 <| A0 <| A6 rfl rfl <| X6 rfl rfl ?_
   refine A5 ⟨nofun, _, kS [2,7,8,9,43] [2,8] rfl, ?_⟩
   refine A8 rfl (fun hc => absurd hc (by decide)) (fun hc => ?_)
   refine H6 <| A3 <| A0 <| F6 rfl rfl rfl rfl rfl <| A6 rfl rfl <| B6 rfl rfl rfl rfl ⟨by decide, rfl, of_decide_eq_true rfl, of_decide_eq_true rfl, rfl⟩ rfl (by exact B5 rfl) <| A4 rfl rfl rfl <| A4 rfl rfl rfl ?_
   refine A5 ⟨nofun, _, kS [2,3,4] [2] rfl, ?_⟩
   refine B4 <| C9 (F5 rfl rfl rfl rfl (E5 rfl (H0 rfl (H0 rfl H4))) (D9 rfl rfl (D9 rfl rfl (E6 C3)))) ?_
   rw [c5x hnn hn]
   rfl
  ·rw [hn]
   refine A6 rfl rfl <| M4 rfl rfl rfl (Mv.sized_map fun _ => rfl) L5 (H8 (n := 1) rfl) (by simp) ?_
   rw [show ((List.map tV (w :: ws1)).drop 1).take ((List.map tV (w :: ws1)).length - 1) = ws1.map tV from by rw [List.map_cons, List.drop_succ_cons, List.drop_zero, List.take_of_length_le (by simp)]]
   refine A4 rfl rfl rfl ?_
   refine A5 ⟨nofun, _, kS [2,7,8,9] [2,8] rfl, ?_⟩
   refine A3 <| D3 <| L7 <| A3 <| A3 <| A0 <| A6 rfl rfl <| X6 rfl rfl ?_
   refine A5 ⟨nofun, _, kS [2,7,8,9,43] [2,8] rfl, ?_⟩
   refine A8 rfl (fun hc => ?_) (fun hc => absurd hc (by decide))
   refine B3 <| A3 <| D3 <| A3 <| A0 <| A6 rfl rfl ?_
   rcases hr1 : rdT ws1 with _ | ⟨k1, r1⟩
   ·skip
    apply D7 rfl
    ·apply B7
     ·exact B8 rfl
     exact D6
    ·exact (by have hi := ih ws1 ⟨by simp only [List.length_cons] at hws; omega, fun x hx => hws.2 x (List.mem_cons_of_mem _ hx)⟩ (by simp only [List.length_cons] at hkk; omega); rw [hr1] at hi; exact hi)
    ·exact ⟨rfl, rfl, rfl, of_decide_eq_true rfl, rfl⟩
    ·exact .inl rfl
    ·exact C1
    ·exact J5 (J3 rfl (R9 fun _ => J3 rfl R8))
    ·exact fun _ => D8 (B0 rfl) (by rfl)
    intro g48
    refine A6 rfl rfl <| B1 rfl rfl rfl <| B1 rfl rfl rfl <| B1 rfl rfl rfl <| H2 rfl (fun _ => B5 rfl) (fun _ => rfl) ?_
    intro g10
    refine B6 rfl rfl rfl rfl ⟨by decide, rfl, of_decide_eq_true rfl, of_decide_eq_true rfl, rfl⟩ rfl (by exact B5 rfl) ?_
    (refine B2 rfl rfl (by (simp; done)) rfl (fun _ => (B0 (by rfl))) (fun _ => rfl) ?_; intro g11)
    refine A4 rfl rfl rfl ?_
    refine A5 ⟨nofun, _, kS [2,7,8,10,11,12] [2,8,10] rfl, ?_⟩
    refine A3 <| A3 <| A0 <| A6 rfl rfl <| L3 rfl ?_
    refine A5 ⟨nofun, _, kS [2,7,8,10,11,53] [2,8,10] rfl, ?_⟩
    refine A8 rfl (fun hc => ?_) (fun hc => absurd hc (by decide))
    refine A3 <| A0 <| J2 (fs := [_, _, _]) rfl rfl rfl rfl rfl <| B6 rfl rfl rfl rfl ⟨by decide, rfl, of_decide_eq_true rfl, of_decide_eq_true rfl, rfl⟩ rfl (by exact B5 rfl) ?_
    (refine B9 rfl rfl (fun _ => rfl) ?_; intro g3)
    refine A4 rfl rfl rfl ?_
    refine A5 ⟨nofun, _, kS [2,3,4] [2,3] rfl, ?_⟩
    refine B4 <| C9 (F5 rfl rfl rfl rfl (E5 rfl (H0 rfl (H0 rfl H4))) (H1 rfl rfl (by simp) (by rfl) (D9 rfl rfl (E6 C3)))) ?_
    rw [b6t hnn hn, hr1]
    rfl
   skip
   apply D7 rfl
   ·apply B7
    ·exact B8 rfl
    exact D6
   ·exact (by have hi := ih ws1 ⟨by simp only [List.length_cons] at hws; omega, fun x hx => hws.2 x (List.mem_cons_of_mem _ hx)⟩ (by simp only [List.length_cons] at hkk; omega); rw [hr1] at hi; exact hi)
   ·exact ⟨rfl, rfl, rfl, of_decide_eq_true rfl, rfl⟩
   ·exact .inl rfl
   ·exact C1
   ·exact K5 rfl
   ·exact fun _ => rfl
   intro g48
   refine A6 rfl rfl <| B1 rfl rfl rfl <| B1 rfl rfl rfl <| B1 rfl rfl rfl <| H2 rfl (fun _ => B5 rfl) (fun _ => rfl) ?_
   intro g10
   refine B6 rfl rfl rfl rfl ⟨by decide, rfl, of_decide_eq_true rfl, of_decide_eq_true rfl, rfl⟩ rfl (by exact B5 rfl) <| A4 rfl rfl rfl <| A4 rfl rfl rfl ?_
   refine A5 ⟨nofun, _, kS [2,7,8,10,11,12] [2,8,10] rfl, ?_⟩
   refine A3 <| A3 <| A0 <| A6 rfl rfl <| L3 rfl ?_
   refine A5 ⟨nofun, _, kS [2,7,8,10,11,53] [2,8,10] rfl, ?_⟩
   refine A8 rfl (fun hc => absurd hc (by decide)) (fun hc => ?_)
   refine B3 <| A3 <| A0 <| C4 rfl rfl (of_decide_eq_true rfl) rfl rfl <| C5 rfl rfl rfl rfl rfl rfl <| F6 rfl rfl rfl rfl rfl <| E7 (es := List.map trV [_]) rfl rfl (of_decide_eq_true rfl) rfl rfl (fun _ => B0 (A9 fun _ => rfl)) (fun _ => rfl) ?_
   intro g58
   refine W3 rfl rfl rfl (by simp) (by decide) rfl rfl rfl (of_decide_eq_true rfl) (fun _ => ⟨rfl, rfl⟩) (by simp only [H3]; (simp only [List.length_nil, List.length_cons, List.length_append, Nat.zero_add, List.length_map]; omega)) (fun _ => rfl) ?_
   intro g59
   refine C4 rfl rfl (of_decide_eq_true rfl) rfl rfl <| Q7 rfl rfl rfl rfl rfl (Nat.le_refl _) rfl ?_
   refine A5 ⟨nofun, _, kS [2,7,8,11] [2,8,1000059] rfl, ?_⟩
   refine A0 <| A6 rfl rfl <| A4 rfl rfl rfl ?_
   refine A5 ⟨nofun, _, kS [2,7,8,9] [2,8,1000059] rfl, ?_⟩
   refine A0 <| A6 rfl rfl <| a8y rfl rfl (G9 (by omega)) <| A4 rfl rfl rfl ?_
   refine A5 ⟨nofun, _, kS [2,7,8,9] [2,8,1000059] rfl, ?_⟩
   refine L7 <| A3 <| A3 <| A0 <| A6 rfl rfl <| X6 rfl rfl ?_
   refine A5 ⟨nofun, _, kS [2,7,8,9,43] [2,8,1000059] rfl, ?_⟩
   refine A8 rfl (fun hc => absurd hc (by decide)) (fun hc => ?_)
   refine H6 <| A3 <| A0 <| F6 rfl rfl rfl rfl rfl <| A6 rfl rfl <| K8 rfl rfl rfl rfl (L4 rfl (L4 rfl (b0o (by decide) (by decide) rfl (by simp) fun _ => V7))) (fun _ => rfl) ⟨by decide, rfl, of_decide_eq_true rfl, Nat.le_refl _⟩ (fun _ => rfl) (fun _ => rfl) (fun _ => D8 (by rfl) (D8 (B0 (A9 fun _ => rfl)) (by rfl))) ?_
   intro z
   simp only [P2, List.cons_append, List.nil_append]
   refine A4 rfl rfl rfl <| A4 rfl rfl rfl ?_
   refine A5 ⟨nofun, _, kS [2,3,4] [2,300002] rfl, ?_⟩
   refine B4 <| C9 (F5 rfl rfl rfl rfl (E5 rfl (H0 rfl (a2c rfl rfl (by simp) (fun _ => rfl) H4))) (D9 rfl rfl (D9 rfl rfl (E6 C3)))) ?_
   rw [b6t hnn hn, hr1]
   rfl
  rw [hn]
  refine A6 rfl rfl <| M4 rfl rfl rfl (Mv.sized_map fun _ => rfl) L5 (H8 (n := 1) rfl) (by simp) ?_
  rw [show ((List.map tV (w :: ws1)).drop 1).take ((List.map tV (w :: ws1)).length - 1) = ws1.map tV from by rw [List.map_cons, List.drop_succ_cons, List.drop_zero, List.take_of_length_le (by simp)]]
  refine A4 rfl rfl rfl ?_
  refine A5 ⟨nofun, _, kS [2,7,8,9] [2,8] rfl, ?_⟩
  refine A3 <| D3 <| L7 <| A3 <| A3 <| A0 <| A6 rfl rfl <| X6 rfl rfl ?_
  refine A5 ⟨nofun, _, kS [2,7,8,9,43] [2,8] rfl, ?_⟩
  refine A8 rfl (fun hc => ?_) (fun hc => absurd hc (by decide))
  refine B3 <| A3 <| D3 <| A3 <| A0 <| A6 rfl rfl ?_
  rcases hr1 : rdT ws1 with _ | ⟨k1, r1⟩
  ·skip
   apply D7 rfl
   ·apply B7
    ·exact B8 rfl
    exact D6
   ·exact (by have hi := ih ws1 ⟨by simp only [List.length_cons] at hws; omega, fun x hx => hws.2 x (List.mem_cons_of_mem _ hx)⟩ (by simp only [List.length_cons] at hkk; omega); rw [hr1] at hi; exact hi)
   ·exact ⟨rfl, rfl, rfl, of_decide_eq_true rfl, rfl⟩
   ·exact .inl rfl
   ·exact C1
   ·exact J5 (J3 rfl (R9 fun _ => J3 rfl R8))
   ·exact fun _ => D8 (B0 rfl) (by rfl)
   intro g48
   refine A6 rfl rfl <| B1 rfl rfl rfl <| B1 rfl rfl rfl <| B1 rfl rfl rfl <| H2 rfl (fun _ => B5 rfl) (fun _ => rfl) ?_
   intro g10
   refine B6 rfl rfl rfl rfl ⟨by decide, rfl, of_decide_eq_true rfl, of_decide_eq_true rfl, rfl⟩ rfl (by exact B5 rfl) ?_
   (refine B2 rfl rfl (by (simp; done)) rfl (fun _ => (B0 (by rfl))) (fun _ => rfl) ?_; intro g11)
   refine A4 rfl rfl rfl ?_
   refine A5 ⟨nofun, _, kS [2,7,8,10,11,12] [2,8,10] rfl, ?_⟩
   refine A3 <| A3 <| A0 <| A6 rfl rfl <| L3 rfl ?_
   refine A5 ⟨nofun, _, kS [2,7,8,10,11,53] [2,8,10] rfl, ?_⟩
   refine A8 rfl (fun hc => ?_) (fun hc => absurd hc (by decide))
   refine A3 <| A0 <| J2 (fs := [_, _, _]) rfl rfl rfl rfl rfl <| B6 rfl rfl rfl rfl ⟨by decide, rfl, of_decide_eq_true rfl, of_decide_eq_true rfl, rfl⟩ rfl (by exact B5 rfl) ?_
   (refine B9 rfl rfl (fun _ => rfl) ?_; intro g3)
   refine A4 rfl rfl rfl ?_
   refine A5 ⟨nofun, _, kS [2,3,4] [2,3] rfl, ?_⟩
   refine B4 <| C9 (F5 rfl rfl rfl rfl (E5 rfl (H0 rfl (H0 rfl H4))) (H1 rfl rfl (by simp) (by rfl) (D9 rfl rfl (E6 C3)))) ?_
   rw [a4j hnn hn, hr1]
   rfl
  skip
  apply D7 rfl
  ·apply B7
   ·exact B8 rfl
   exact D6
  ·exact (by have hi := ih ws1 ⟨by simp only [List.length_cons] at hws; omega, fun x hx => hws.2 x (List.mem_cons_of_mem _ hx)⟩ (by simp only [List.length_cons] at hkk; omega); rw [hr1] at hi; exact hi)
  ·exact ⟨rfl, rfl, rfl, of_decide_eq_true rfl, rfl⟩
  ·exact .inl rfl
  ·exact C1
  ·exact K5 rfl
  ·exact fun _ => rfl
  intro g48
  refine A6 rfl rfl <| B1 rfl rfl rfl <| B1 rfl rfl rfl <| B1 rfl rfl rfl <| H2 rfl (fun _ => B5 rfl) (fun _ => rfl) ?_
  intro g10
  refine B6 rfl rfl rfl rfl ⟨by decide, rfl, of_decide_eq_true rfl, of_decide_eq_true rfl, rfl⟩ rfl (by exact B5 rfl) <| A4 rfl rfl rfl <| A4 rfl rfl rfl ?_
  refine A5 ⟨nofun, _, kS [2,7,8,10,11,12] [2,8,10] rfl, ?_⟩
  refine A3 <| A3 <| A0 <| A6 rfl rfl <| L3 rfl ?_
  refine A5 ⟨nofun, _, kS [2,7,8,10,11,53] [2,8,10] rfl, ?_⟩
  refine A8 rfl (fun hc => absurd hc (by decide)) (fun hc => ?_)
  refine B3 <| A3 <| A0 <| C4 rfl rfl (of_decide_eq_true rfl) rfl rfl <| C5 rfl rfl rfl rfl rfl rfl <| F6 rfl rfl rfl rfl rfl <| E7 (es := List.map trV [_]) rfl rfl (of_decide_eq_true rfl) rfl rfl (fun _ => B0 (A9 fun _ => rfl)) (fun _ => rfl) ?_
  intro g58
  refine W3 rfl rfl rfl (by simp) (by decide) rfl rfl rfl (of_decide_eq_true rfl) (fun _ => ⟨rfl, rfl⟩) (by simp only [H3]; (simp only [List.length_nil, List.length_cons, List.length_append, Nat.zero_add, List.length_map]; omega)) (fun _ => rfl) ?_
  intro g59
  refine C4 rfl rfl (of_decide_eq_true rfl) rfl rfl <| Q7 rfl rfl rfl rfl rfl (Nat.le_refl _) rfl ?_
  refine A5 ⟨nofun, _, kS [2,7,8,11] [2,8,1000059] rfl, ?_⟩
  refine A0 <| A6 rfl rfl <| A4 rfl rfl rfl ?_
  refine A5 ⟨nofun, _, kS [2,7,8,9] [2,8,1000059] rfl, ?_⟩
  refine A0 <| A6 rfl rfl <| a8y rfl rfl (G9 (by omega)) <| A4 rfl rfl rfl ?_
  refine A5 ⟨nofun, _, kS [2,7,8,9] [2,8,1000059] rfl, ?_⟩
  refine L7 <| A3 <| A3 <| A0 <| A6 rfl rfl <| X6 rfl rfl ?_
  refine A5 ⟨nofun, _, kS [2,7,8,9,43] [2,8,1000059] rfl, ?_⟩
  refine A8 rfl (fun hc => ?_) (fun hc => absurd hc (by decide))
  refine B3 <| A3 <| D3 <| A3 <| A0 <| A6 rfl rfl ?_
  rcases hr2 : rdT r1 with _ | ⟨k2, r2⟩
  ·skip
   apply D7 rfl
   ·apply B7
    ·exact B8 rfl
    exact D6
   ·exact (by have hi := ih r1 ⟨by have := X7 hr1; simp only [List.length_cons] at hws; omega, fun x hx => hws.2 x (List.mem_cons_of_mem _ (b1c hr1 x hx))⟩ (by have := X7 hr1; simp only [List.length_cons] at hkk; omega); rw [hr2] at hi; exact hi)
   ·exact ⟨rfl, rfl, rfl, of_decide_eq_true rfl, rfl⟩
   ·exact .inl rfl
   ·exact C1
   ·exact J5 (J3 rfl (R9 fun _ => J3 rfl R8))
   ·exact fun _ => D8 (B0 rfl) (by rfl)
   intro g48
   refine A6 rfl rfl <| B1 rfl rfl rfl <| B1 rfl rfl rfl <| B1 rfl rfl rfl <| H2 rfl (fun _ => B5 rfl) (fun _ => rfl) ?_
   intro g10
   refine B6 rfl rfl rfl rfl ⟨by decide, rfl, of_decide_eq_true rfl, of_decide_eq_true rfl, rfl⟩ rfl (by exact B5 rfl) ?_
   (refine B2 rfl rfl (by (simp; done)) rfl (fun _ => (B0 (by rfl))) (fun _ => rfl) ?_; intro g11)
   refine A4 rfl rfl rfl ?_
   refine A5 ⟨nofun, _, kS [2,7,8,10,11,12] [2,8,1000059,10] rfl, ?_⟩
   refine A3 <| A3 <| A0 <| A6 rfl rfl <| L3 rfl ?_
   refine A5 ⟨nofun, _, kS [2,7,8,10,11,53] [2,8,1000059,10] rfl, ?_⟩
   refine A8 rfl (fun hc => ?_) (fun hc => absurd hc (by decide))
   refine A3 <| A0 <| J2 (fs := [_, _, _]) rfl rfl rfl rfl rfl <| B6 rfl rfl rfl rfl ⟨by decide, rfl, of_decide_eq_true rfl, of_decide_eq_true rfl, rfl⟩ rfl (by exact B5 rfl) ?_
   (refine B9 rfl rfl (fun _ => rfl) ?_; intro g3)
   refine A4 rfl rfl rfl ?_
   refine A5 ⟨nofun, _, kS [2,3,4] [2,3] rfl, ?_⟩
   refine B4 <| C9 (F5 rfl rfl rfl rfl (E5 rfl (H0 rfl (H0 rfl H4))) (H1 rfl rfl (by simp) (by rfl) (D9 rfl rfl (E6 C3)))) ?_
   rw [a4j hnn hn, hr1, Option.bind_some, hr2]
   rfl
  skip
  apply D7 rfl
  ·apply B7
   ·exact B8 rfl
   exact D6
  ·exact (by have hi := ih r1 ⟨by have := X7 hr1; simp only [List.length_cons] at hws; omega, fun x hx => hws.2 x (List.mem_cons_of_mem _ (b1c hr1 x hx))⟩ (by have := X7 hr1; simp only [List.length_cons] at hkk; omega); rw [hr2] at hi; exact hi)
  ·exact ⟨rfl, rfl, rfl, of_decide_eq_true rfl, rfl⟩
  ·exact .inl rfl
  ·exact C1
  ·exact K5 rfl
  ·exact fun _ => rfl
  intro g48
  refine A6 rfl rfl <| B1 rfl rfl rfl <| B1 rfl rfl rfl <| B1 rfl rfl rfl <| H2 rfl (fun _ => B5 rfl) (fun _ => rfl) ?_
  intro g10
  refine B6 rfl rfl rfl rfl ⟨by decide, rfl, of_decide_eq_true rfl, of_decide_eq_true rfl, rfl⟩ rfl (by exact B5 rfl) <| A4 rfl rfl rfl <| A4 rfl rfl rfl ?_
  refine A5 ⟨nofun, _, kS [2,7,8,10,11,12] [2,8,1000059,10] rfl, ?_⟩
  refine A3 <| A3 <| A0 <| A6 rfl rfl <| L3 rfl ?_
  refine A5 ⟨nofun, _, kS [2,7,8,10,11,53] [2,8,1000059,10] rfl, ?_⟩
  refine A8 rfl (fun hc => absurd hc (by decide)) (fun hc => ?_)
  refine B3 <| A3 <| A0 <| C4 rfl rfl (of_decide_eq_true rfl) rfl rfl <| C5 rfl rfl rfl rfl rfl rfl <| F6 rfl rfl rfl rfl rfl <| E7 (es := List.map trV [_]) rfl rfl (of_decide_eq_true rfl) rfl rfl (fun _ => B0 (A9 fun _ => rfl)) (fun _ => rfl) ?_
  intro g58
  refine G8 rfl rfl rfl rfl (by (simp; done)) (by simp) (by decide) rfl rfl rfl rfl (of_decide_eq_true rfl) (fun _ => ⟨rfl, rfl⟩) (by simp only [H3]; (simp only [List.length_nil, List.length_cons, List.length_append, Nat.zero_add, List.length_map]; omega)) (fun _ => rfl) ?_
  intro g59
  refine C4 rfl rfl (of_decide_eq_true rfl) rfl rfl <| Q7 rfl rfl rfl rfl rfl (Nat.le_refl _) rfl ?_
  refine A5 ⟨nofun, _, kS [2,7,8,11] [2,8,1000059] rfl, ?_⟩
  refine A0 <| A6 rfl rfl <| A4 rfl rfl rfl ?_
  refine A5 ⟨nofun, _, kS [2,7,8,9] [2,8,1000059] rfl, ?_⟩
  refine A0 <| A6 rfl rfl <| a8y rfl rfl (G9 (by omega)) <| A4 rfl rfl rfl ?_
  refine A5 ⟨nofun, _, kS [2,7,8,9] [2,8,1000059] rfl, ?_⟩
  refine L7 <| A3 <| A3 <| A0 <| A6 rfl rfl <| X6 rfl rfl ?_
  refine A5 ⟨nofun, _, kS [2,7,8,9,43] [2,8,1000059] rfl, ?_⟩
  refine A8 rfl (fun hc => absurd hc (by decide)) (fun hc => ?_)
  refine H6 <| A3 <| A0 <| F6 rfl rfl rfl rfl rfl <| A6 rfl rfl <| K8 rfl rfl rfl rfl (L4 rfl (L4 rfl (b0o (by decide) (by decide) rfl (by simp) fun _ => V7))) (fun _ => rfl) ⟨by decide, rfl, of_decide_eq_true rfl, Nat.le_refl _⟩ (fun _ => rfl) (fun _ => rfl) (fun _ => D8 (by rfl) (D8 (B0 (A9 fun _ => rfl)) (by rfl))) ?_
  intro z
  simp only [P2, List.cons_append, List.nil_append]
  refine A4 rfl rfl rfl <| A4 rfl rfl rfl ?_
  refine A5 ⟨nofun, _, kS [2,3,4] [2,300002] rfl, ?_⟩
  refine B4 <| C9 (F5 rfl rfl rfl rfl (E5 rfl (H0 rfl (a2c rfl rfl (by simp) (fun _ => rfl) H4))) (D9 rfl rfl (D9 rfl rfl (E6 C3)))) ?_
  rw [a4j hnn hn, hr1, Option.bind_some, hr2]
  rfl

theorem keep_s_readPlan : G7 Tryd.f23 = [0, 2, 3, 4, 17, 6, 7, 5, 21] := by kernel_rfl
set_option maxHeartbeats 20000000 in
theorem c2r (s : List UInt8) (hs : s.length ≤ 1048576) : CW (cxT rG) 23 [tV s] = some (.tup [trV (rpT s), bV (rdPlan s).isSome], []) := by
 obtain ⟨ws, hws⟩ : ∃ ws, ws = splitB 32 s := ⟨_, rfl⟩
 have hwl := S2 32 s
 have hwp := T3 32 s
 rw [← hws] at hwl hwp
 refine F8 rfl Tryd.func23 rfl ⟨by kernel_rfl, rfl, of_decide_eq_true rfl, of_decide_eq_true rfl, by decide⟩ keep_s_readPlan <| A3 <| A0 <| H2 rfl (fun _ => B5 rfl) (fun _ => rfl) ?_
 intro g2
 refine A4 rfl rfl rfl ?_
 refine A5 ⟨nofun, _, kS [0,2] [2] rfl, ?_⟩
 refine A3 <| A0 <| A6 rfl rfl ?_
 apply D7 rfl
 ·apply B7
  ·exact B8 rfl
  apply B7
  ·exact B8 rfl
  exact D6
 ·exact b6f s (by omega) 32
 ·exact ⟨rfl, rfl, rfl, of_decide_eq_true rfl, rfl⟩
 ·exact .inl rfl
 ·exact C1
 ·exact N9
 ·exact fun _ => rfl
 intro g9
 rw [← hws]
 try simp only [List.length_map]
 (refine B2 rfl rfl (by (simp; done)) rfl (fun _ => (B0 (by exact A9 fun _ => rfl))) (fun _ => rfl) ?_; intro g4)
 refine A5 ⟨nofun, _, kS [0,2,4] [2,4] rfl, ?_⟩
 refine A3 <| A3 <| A0 <| A6 rfl rfl <| a3r rfl rfl <| X6 rfl rfl <| A6 rfl rfl ?_
 refine E4 rfl rfl (fun hg0 => ?_) (fun hg0 => ?_)
 ·have hg := hg0; try simp only [SG] at hg
  refine A6 rfl rfl <| gT rfl rfl <| O9 rfl rfl <| gT rfl rfl <| X6 rfl rfl <| G0 rfl (by assumption) rfl rfl ?_
  refine A5 ⟨nofun, _, kS [2,4,17] [2,4] rfl, ?_⟩
  refine A8 rfl (fun hc => ?_) (fun hc => ?_)
  ·try simp only [SG, List.length_map] at hc
   refine A3 <| A0 <| J2 (fs := [_, _, _]) rfl rfl rfl rfl rfl <| B6 rfl rfl rfl rfl ⟨by decide, rfl, of_decide_eq_true rfl, of_decide_eq_true rfl, rfl⟩ rfl (by exact B5 rfl) <| A4 rfl rfl rfl ?_
   refine A5 ⟨nofun, _, kS [2,3] [2] rfl, ?_⟩
   refine B4 <| C9 (F5 rfl rfl rfl rfl (E5 rfl (H0 rfl (H0 rfl H4))) (D9 rfl rfl (E6 C3))) ?_
   obtain ⟨h1, h2⟩ := b1q (s := s) (by rw [hws] at *; omega)
   rw [h1, h2]
   rfl
  try simp only [SG, List.length_map] at hc
  have hin := c8g hws (by omega)
  refine B3 <| A3 <| A0 <| A6 rfl rfl ?_
  rcases hr : rdT ws with _ | ⟨t, r⟩
  ·skip
   apply D7 rfl
   ·apply B7
    ·exact a0j rfl rfl (by (simp; done)) (fun _ => rfl)
    exact D6
   ·exact (by have hi := b1v (rG := rG) ws ⟨by omega, fun w hw => by have := hwp w hw; omega⟩; rw [hr] at hi; exact hi)
   ·exact ⟨rfl, rfl, rfl, of_decide_eq_true rfl, rfl⟩
   ·exact .inl rfl
   ·exact C1
   ·exact J5 (J3 rfl (R9 fun _ => J3 rfl R8))
   ·exact fun _ => D8 (Z3 (A9 fun _ => rfl) (by decide)) (by rfl)
   intro g21
   refine A6 rfl rfl <| B1 rfl rfl rfl <| B1 rfl rfl rfl <| B1 rfl rfl rfl <| H2 rfl (fun _ => B5 rfl) (fun _ => rfl) ?_
   intro g5
   refine B6 rfl rfl rfl rfl ⟨by decide, rfl, of_decide_eq_true rfl, of_decide_eq_true rfl, rfl⟩ rfl (by exact B5 rfl) ?_
   (refine B2 rfl rfl (by (simp; done)) rfl (fun _ => (B0 (by rfl))) (fun _ => rfl) ?_; intro g6)
   refine A4 rfl rfl rfl ?_
   refine A5 ⟨nofun, _, kS [2,5,6,7] [2,5] rfl, ?_⟩
   refine A3 <| A0 <| F6 rfl rfl rfl rfl rfl <| A6 rfl rfl <| A6 rfl rfl <| H5 rfl rfl rfl <| H5 rfl rfl rfl <| H5 rfl rfl rfl <| G0 rfl rfl rfl rfl <| B6 rfl rfl rfl rfl ⟨by decide, rfl, of_decide_eq_true rfl, of_decide_eq_true rfl, rfl⟩ rfl (by exact B5 rfl) <| A4 rfl rfl rfl ?_
   refine A5 ⟨nofun, _, kS [2,3] [2] rfl, ?_⟩
   refine B4 <| C9 (F5 rfl rfl rfl rfl (E5 rfl (E5 rfl (E5 rfl H4))) (D9 rfl rfl (E6 C3))) ?_
   obtain ⟨h1, h2⟩ := hin.1 hr
   rw [h1, h2]
   rfl
  skip
  apply D7 rfl
  ·apply B7
   ·exact a0j rfl rfl (by (simp; done)) (fun _ => rfl)
   exact D6
  ·exact (by have hi := b1v (rG := rG) ws ⟨by omega, fun w hw => by have := hwp w hw; omega⟩; rw [hr] at hi; exact hi)
  ·exact ⟨rfl, rfl, rfl, of_decide_eq_true rfl, rfl⟩
  ·exact .inl rfl
  ·exact C1
  ·exact K5 rfl
  ·exact fun _ => D8 (Z3 (A9 fun _ => rfl) (by decide)) (by rfl)
  intro g21
  refine A6 rfl rfl <| B1 rfl rfl rfl <| B1 rfl rfl rfl <| B1 rfl rfl rfl <| H2 rfl (fun _ => B5 rfl) (fun _ => rfl) ?_
  intro g5
  refine B6 rfl rfl rfl rfl ⟨by decide, rfl, of_decide_eq_true rfl, of_decide_eq_true rfl, rfl⟩ rfl (by exact B5 rfl) <| A4 rfl rfl rfl <| A4 rfl rfl rfl ?_
  refine A5 ⟨nofun, _, kS [2,5,6,7] [2,5] rfl, ?_⟩
  refine A3 <| A0 <| F6 rfl rfl rfl rfl rfl <| A6 rfl rfl <| A6 rfl rfl <| K0 rfl rfl rfl <| A6 rfl rfl <| K0 rfl rfl rfl <| I1 rfl rfl <| K0 rfl rfl rfl <| a4w rfl rfl <| G1 rfl rfl rfl rfl <| B6 rfl rfl rfl rfl ⟨by decide, rfl, of_decide_eq_true rfl, of_decide_eq_true rfl, rfl⟩ rfl (by exact B5 rfl) <| A4 rfl rfl rfl ?_
  refine A5 ⟨nofun, _, kS [2,3] [2] rfl, ?_⟩
  refine B4 <| C9 (F5 rfl rfl rfl rfl (E5 rfl (E5 rfl (E5 rfl H4))) (D9 rfl rfl (E6 C3))) ?_
  obtain ⟨h1, h2⟩ := hin.2 t r hr
  rw [h1, h2]
  rfl
 have hg := hg0; try simp only [SG] at hg
 refine gF rfl rfl <| gF rfl rfl <| G1 rfl (by assumption) rfl rfl ?_
 refine A5 ⟨nofun, _, kS [2,4,17] [2,4] rfl, ?_⟩
 refine A8 rfl (fun hc => ?_) (fun hc => absurd hc (by decide))
 refine A3 <| A0 <| J2 (fs := [_, _, _]) rfl rfl rfl rfl rfl <| B6 rfl rfl rfl rfl ⟨by decide, rfl, of_decide_eq_true rfl, of_decide_eq_true rfl, rfl⟩ rfl (by exact B5 rfl) <| A4 rfl rfl rfl ?_
 refine A5 ⟨nofun, _, kS [2,3] [2] rfl, ?_⟩
 refine B4 <| C9 (F5 rfl rfl rfl rfl (E5 rfl (H0 rfl (H0 rfl H4))) (D9 rfl rfl (E6 C3))) ?_
 obtain ⟨h1, h2⟩ := b1q (s := s) (by rw [hws] at *; omega)
 rw [h1, h2]
 rfl

theorem keep_s_numbers : G7 Tryd.f54 = [0, 2, 8, 7, 9, 6, 5, 3] := by kernel_rfl
set_option maxHeartbeats 20000000 in
theorem c6k (ns : List Int) (hl : ns.length ≤ 1000000) (hnb : ∀ n ∈ ns, -1000000 ≤ n ∧ n ≤ 1000000) : CW (cxT rG) 54 [L ns] = some (tV (N6 ns), []) := by
 have hg := fun (i : Nat) (h : i < ns.length) => hnb _ (a2t h)
 have hll := a4g (ns := ns) hnb
 refine F8 rfl Tryd.func54 rfl ⟨by kernel_rfl, rfl, of_decide_eq_true rfl, of_decide_eq_true rfl, by decide⟩ keep_s_numbers <| A3 <| A0 <| A4 rfl rfl rfl ?_
 refine A5 ⟨nofun, _, kS [0] [] rfl, ?_⟩
 refine A3 <| A0 ?_
 (refine B9 rfl rfl (fun _ => rfl) ?_; intro g3)
 refine A5 ⟨nofun, _, kS [0,3] [3] rfl, ?_⟩
 refine A3 <| A3 <| A0 <| A6 rfl rfl <| I1 rfl rfl <| A6 rfl rfl ?_
 refine A5 ⟨nofun, _, kS [3,6,7,8] [3] rfl, ?_⟩
 refine D3 <| I5 (β := Nat × List (List UInt8) × Nat) [(.t 6, _), (.t 7, _)] (fun (z : Nat × List (List UInt8) × Nat) => match z with | (i, ps, g) => [(.t 8, iV i), (.t 3, .sl 3 g none 0 ps.length), (.h 3, .obj g 0 1 (ps.map tV))]) (fun (z : Nat × List (List UInt8) × Nat) => match z with | (i, ps, g) => i ≤ ns.length ∧ ps = (ns.take i).map dec) (fun (z : Nat × List (List UInt8) × Nat) => match z with | (i, ps, g) => ns.length - i) (0, [], _) ⟨rfl, rfl, rfl, rfl, rfl, trivial⟩ ⟨Nat.zero_le _, rfl⟩ ?_
 intro z hb
 obtain ⟨i, ps, g⟩ := z
 try dsimp only at hb
 obtain ⟨hi1, hps⟩ := hb
 have hpl : ps.length = i := by rw [hps]; simp; omega
 refine A3 <| A0 <| J7 rfl rfl ?_
 refine A5 ⟨nofun, _, kS [3,6,7,8,9] [3] rfl, ?_⟩
 refine A3 ?_
 refine A8 rfl (fun hc => ?_) (fun hc => ?_)
 ·try simp only [SG, List.length_map] at hc
  refine B3 <| A3 <| D3 <| A3 <| A0 <| G5 rfl rfl rfl (fun _ => rfl) (by omega) <| G2 rfl rfl rfl <| A4 rfl rfl rfl ?_
  refine A5 ⟨nofun, _, kS [3,5,6,7,8] [3] rfl, ?_⟩
  refine A0 <| A6 rfl rfl <| A6 rfl rfl ?_
  have hgi := hg i (by omega)
  apply D7 rfl
  ·apply B7
   ·exact B8 rfl
   exact D6
  ·exact d5t (ns.getD i default) (by omega)
  ·exact ⟨rfl, rfl, rfl, of_decide_eq_true rfl, rfl⟩
  ·exact .inl rfl
  ·exact C1
  ·exact E3 rfl
  ·exact fun _ => rfl
  intro g14
  refine E7 (es := List.map tV [_]) rfl rfl (of_decide_eq_true rfl) rfl rfl (fun _ => B0 (A9 fun _ => rfl)) (fun _ => rfl) ?_
  intro g15
  refine G8 rfl rfl rfl rfl (by (simp; done)) (by simp) (by decide) rfl rfl rfl rfl (of_decide_eq_true rfl) (fun _ => ⟨rfl, rfl⟩) (by simp only [H3]; (simp only [List.length_nil, List.length_cons, List.length_append, Nat.zero_add, List.length_map]; omega)) (fun _ => rfl) ?_
  intro g16
  (refine B2 rfl rfl (by (simp; done)) rfl (fun _ => (B0 (by exact A9 fun _ => rfl))) (fun _ => rfl) ?_; intro g3)
  refine A5 ⟨nofun, _, kS [3,6,7,8] [3] rfl, ?_⟩
  refine A0 <| I0 rfl rfl (G9 (by omega)) <| A6 rfl rfl ?_
  refine A5 ⟨nofun, _, kS [3,6,7,8] [3] rfl, ?_⟩
  refine ⟨(i + 1, ps ++ [dec (ns.getD i default)], _), ?_, (by simp only; omega), ⟨rfl, rfl, rfl, rfl, rfl, trivial⟩⟩
  exact ⟨by omega, by rw [hps, ← b4q (by omega)]⟩
 try simp only [SG, List.length_map] at hc
 refine H6 <| A3 <| A0 <| A6 rfl rfl ?_
 have hpe : ps = ns.map dec := by rw [hps, List.take_of_length_le (by omega)]
 have hje : joinB 44 ps = N6 ns := by rw [hpe]; rfl
 apply D7 rfl
 ·apply B7
  ·exact K9 rfl rfl rfl (by (simp; done)) (fun _ => rfl)
  apply B7
  ·exact B8 rfl
  exact D6
 ·exact d0j ps 44 (by simp only [H3]; omega) (by rw [hje]; simp only [H3]; omega)
 ·exact ⟨rfl, rfl, rfl, of_decide_eq_true rfl, rfl⟩
 ·exact .inr ⟨rfl, rfl⟩
 ·exact C1
 ·exact E3 rfl
 ·exact fun _ => rfl
 intro g19
 refine A4 rfl rfl rfl ?_
 refine A5 ⟨nofun, _, kS [2] [] rfl, ?_⟩
 refine B4 <| C7 rfl rfl trivial ?_
 rw [hje]

theorem keep_s_listTextI : G7 Tryd.f42 = [0, 2] := by kernel_rfl
set_option maxHeartbeats 20000000 in
theorem a9r (ns : List Int) (hl : ns.length ≤ 1000000) (hnb : ∀ n ∈ ns, -1000000 ≤ n ∧ n ≤ 1000000) : CW (cxT rG) 42 [L ns] = some (tV (R6 ns), []) := by
 have hll := a4g (ns := ns) hnb
 refine F8 rfl Tryd.func42 rfl ⟨by kernel_rfl, rfl, of_decide_eq_true rfl, of_decide_eq_true rfl, by decide⟩ keep_s_listTextI <| A3 <| A0 <| A4 rfl rfl rfl ?_
 refine A5 ⟨nofun, _, kS [0] [] rfl, ?_⟩
 refine A3 <| A0 <| A6 rfl rfl ?_
 apply D7 rfl
 ·apply B7
  ·exact B8 rfl
  exact D6
 ·exact c6k ns hl hnb
 ·exact ⟨rfl, rfl, rfl, of_decide_eq_true rfl, rfl⟩
 ·exact .inl rfl
 ·exact C1
 ·exact E3 rfl
 ·exact fun _ => rfl
 intro g4
 refine Q3 rfl rfl (by simp only [H3, List.length_append, List.length_cons, List.length_nil]; omega) <| Q3 rfl rfl (by simp only [H3, List.length_append, List.length_cons, List.length_nil]; omega) <| A4 rfl rfl rfl ?_
 refine A5 ⟨nofun, _, kS [2] [] rfl, ?_⟩
 refine B4 <| C7 rfl rfl trivial ?_
 rfl

theorem keep_s_readListI : G7 Tryd.f72 = [0, 2, 3, 4, 6, 5, 27, 29, 33, 32, 34, 31, 9, 11, 43, 10, 7] := by kernel_rfl
set_option maxHeartbeats 20000000 in
theorem c0d (w : List UInt8) (hs : w.length ≤ 1048576) : CW (cxT rG) 72 [tV w] = some (.tup [.own 1 ((rlX w).map iV), bV (okI w)], []) := by
 have hc1 := c9p 91 w
 have hc2 := d1m 93 (a2o 91 w)
 refine F8 rfl Tryd.func72 rfl ⟨by kernel_rfl, rfl, of_decide_eq_true rfl, of_decide_eq_true rfl, by decide⟩ keep_s_readListI <| A3 <| A0 ?_
 (refine B9 rfl rfl (fun _ => rfl) ?_; intro g2)
 refine A4 rfl rfl rfl ?_
 refine A5 ⟨nofun, _, kS [0] [] rfl, ?_⟩
 refine A3 <| A0 <| A6 rfl rfl ?_
 apply D7 rfl
 ·apply B7
  ·exact B8 rfl
  apply B7
  ·exact B8 rfl
  exact D6
 ·exact d4s w 91
 ·exact ⟨rfl, rfl, rfl, of_decide_eq_true rfl, rfl⟩
 ·exact .inl rfl
 ·exact C1
 ·exact K5 rfl
 ·exact fun _ => rfl
 intro g14
 refine A6 rfl rfl <| B1 rfl rfl rfl <| B1 rfl rfl rfl <| A4 rfl rfl rfl <| A4 rfl rfl rfl ?_
 refine A5 ⟨nofun, _, kS [0,4,5] [] rfl, ?_⟩
 refine A3 <| A0 <| A6 rfl rfl ?_
 apply D7 rfl
 ·apply B7
  ·exact B8 rfl
  apply B7
  ·exact B8 rfl
  exact D6
 ·exact d5h (a2o 91 w) 93 (by omega)
 ·exact ⟨rfl, rfl, rfl, of_decide_eq_true rfl, rfl⟩
 ·exact .inl rfl
 ·exact C1
 ·exact K5 rfl
 ·exact fun _ => rfl
 intro g19
 refine A6 rfl rfl <| B1 rfl rfl rfl <| B1 rfl rfl rfl <| A4 rfl rfl rfl <| A4 rfl rfl rfl ?_
 refine A5 ⟨nofun, _, kS [0,4,5,6] [] rfl, ?_⟩
 refine A3 <| A3 <| A0 <| A6 rfl rfl <| L3 rfl <| A6 rfl rfl ?_
 refine E4 rfl rfl (fun hg0 => ?_) (fun hg0 => ?_)
 ·have hg := hg0; try simp only [SG] at hg
  refine A6 rfl rfl <| gT rfl rfl <| L3 rfl <| G0 rfl (by assumption) rfl rfl ?_
  refine A5 ⟨nofun, _, kS [0,4,27] [] rfl, ?_⟩
  refine A8 rfl (fun hc => ?_) (fun hc => ?_)
  ·try simp only [SG, List.length_map] at hc
   refine A3 <| A0 ?_
   (refine B9 rfl rfl (fun _ => rfl) ?_; intro g2)
   refine A4 rfl rfl rfl ?_
   refine A5 ⟨nofun, _, kS [2,3] [2] rfl, ?_⟩
   refine B4 <| C9 (H1 rfl rfl (by simp) (by rfl) (D9 rfl rfl (E6 C3))) ?_
   obtain ⟨h1, h2⟩ := b6m (b9p (w := w) (by simp_all [okB]))
   rw [h1, h2]
   rfl
  try simp only [SG, List.length_map] at hc
  have hok : okB w = true := by simp [okB]; constructor <;> assumption
  obtain ⟨ps, hps0⟩ : ∃ ps, ps = splitB 44 (a4c w) := ⟨_, rfl⟩
  have hpl := S2 44 (a4c w)
  have hpp := T3 44 (a4c w)
  rw [← hps0] at hpl hpp
  have hil := c9z hok
  refine B3 <| A3 <| A0 ?_
  (refine B9 rfl rfl (fun _ => rfl) ?_; intro g7)
  refine A5 ⟨nofun, _, kS [0,4,7] [7] rfl, ?_⟩
  refine A3 <| A3 <| A0 <| A6 rfl rfl <| a9f rfl rfl ?_
  refine A5 ⟨nofun, _, kS [0,4,7,29] [7] rfl, ?_⟩
  refine A8 rfl (fun hc => ?_) (fun hc => ?_)
  ·try simp only [SG, List.length_map] at hc
   have hin : a4c w ≠ [] := hc
   refine A3 <| A0 <| A6 rfl rfl ?_
   have hps := hps0
   apply D7 rfl
   ·apply B7
    ·exact B8 rfl
    apply B7
    ·exact B8 rfl
    exact D6
   ·exact b6p (a4c w) 44 (by unfold a4c; omega)
   ·exact ⟨rfl, rfl, rfl, of_decide_eq_true rfl, rfl⟩
   ·exact .inl rfl
   ·exact C1
   ·exact N9
   ·(intro _; exact D8 (B0 (A9 fun _ => rfl)) rfl)
   intro g31
   rw [← hps]
   try simp only [List.length_map]
   refine O9 rfl rfl <| A6 rfl rfl ?_
   refine A5 ⟨nofun, _, kS [0,7,31,32,33] [7,1000031] rfl, ?_⟩
   refine D3 <| I5 (β := Nat × List Int × Nat) [(.t 0, _), (.t 31, _), (.t 32, _), (.h 1000031, _)] (fun (z : Nat × List Int × Nat) => match z with | (i, ns, g) => [(.t 33, iV i), (.t 7, .sl 7 g none 0 ns.length), (.h 7, .obj g 0 1 (ns.map iV))]) (fun (z : Nat × List Int × Nat) => match z with | (i, ns, g) => i ≤ ps.length ∧ rdA (ps.take i) = some ns) (fun (z : Nat × List Int × Nat) => match z with | (i, ns, g) => ps.length - i) (0, [], _) ⟨rfl, rfl, rfl, rfl, rfl, rfl, rfl, trivial⟩ ⟨Nat.zero_le _, rfl⟩ ?_
   intro z hb
   obtain ⟨i, ns, g⟩ := z
   try dsimp only at hb
   obtain ⟨hi1, hrd⟩ := hb
   have hpi := fun h : i < ps.length => hpp _ (W0 h)
   have hnl := b1t hrd
   rw [List.length_take] at hnl
   refine A3 <| A0 <| J7 rfl rfl ?_
   refine A5 ⟨nofun, _, kS [0,7,31,32,33,34] [7,1000031] rfl, ?_⟩
   refine A3 ?_
   refine A8 rfl (fun hc => ?_) (fun hc => ?_)
   ·try simp only [SG, List.length_map] at hc
    refine B3 <| A3 <| D3 <| A3 <| A0 <| I3 rfl rfl rfl rfl (by omega) (by (simp; done)) rfl <| K3 rfl rfl (by omega) (fun _ => rfl) (fun _ => rfl) rfl <| A4 rfl rfl rfl ?_
    refine A5 ⟨nofun, _, kS [0,7,9,31,32,33] [7,1000031] rfl, ?_⟩
    refine A3 <| A0 <| A6 rfl rfl ?_
    rcases hat : Lib.atoiAll (ps.getD i default) with v | _ | _
    ·skip
     apply D7 rfl
     ·apply B7
      ·exact B8 rfl
      exact D6
     ·exact (by have hi := c4g (rG := rG) (ps.getD i default) (by omega); unfold atR at hi; rw [hat] at hi; exact hi)
     ·exact ⟨rfl, rfl, rfl, of_decide_eq_true rfl, rfl⟩
     ·exact .inl rfl
     ·exact C1
     ·exact K5 rfl
     ·exact fun _ => rfl
     intro g39
     refine A6 rfl rfl <| B1 rfl rfl rfl <| B1 rfl rfl rfl <| A4 rfl rfl rfl <| A4 rfl rfl rfl ?_
     refine A5 ⟨nofun, _, kS [0,7,10,11,31,32,33] [7,1000031] rfl, ?_⟩
     refine A3 <| A3 <| A0 <| A6 rfl rfl <| d2b rfl rfl rfl rfl ?_
     refine A5 ⟨nofun, _, kS [0,7,10,31,32,33,43] [7,1000031] rfl, ?_⟩
     refine A8 rfl (fun hc => absurd hc (by decide)) (fun hc => ?_)
     refine B3 <| A0 <| A6 rfl rfl <| A6 rfl rfl <| E7 (es := List.map iV [_]) rfl rfl (of_decide_eq_true rfl) rfl rfl (fun _ => B0 (A9 fun _ => rfl)) (fun _ => rfl) ?_
     intro g46
     refine G8 rfl rfl rfl rfl (by (simp; done)) (by simp) (by decide) rfl rfl rfl rfl (of_decide_eq_true rfl) (fun _ => ⟨rfl, rfl⟩) (by simp only [H3]; (simp only [List.length_nil, List.length_cons, List.length_append, Nat.zero_add, List.length_map]; omega)) (fun _ => rfl) ?_
     intro g47
     (refine B2 rfl rfl (by (simp; done)) rfl (fun _ => (B0 (by exact A9 fun _ => rfl))) (fun _ => rfl) ?_; intro g7)
     refine A5 ⟨nofun, _, kS [0,7,31,32,33] [7,1000031] rfl, ?_⟩
     refine A0 <| I0 rfl rfl (G9 (by omega)) <| A6 rfl rfl ?_
     refine A5 ⟨nofun, _, kS [0,7,31,32,33] [7,1000031] rfl, ?_⟩
     refine ⟨(i + 1, ns ++ [v], _), ?_, (by simp only; omega), ⟨rfl, rfl, rfl, rfl, rfl, rfl, rfl, trivial⟩⟩
     exact ⟨by omega, d0l (by omega) hrd hat⟩
    ·skip
     apply D7 rfl
     ·apply B7
      ·exact B8 rfl
      exact D6
     ·exact (by have hi := c4g (rG := rG) (ps.getD i default) (by omega); unfold atR at hi; rw [hat] at hi; exact hi)
     ·exact ⟨rfl, rfl, rfl, of_decide_eq_true rfl, rfl⟩
     ·exact .inl rfl
     ·exact C1
     ·exact K5 rfl
     ·exact fun _ => rfl
     intro g39
     refine A6 rfl rfl <| B1 rfl rfl rfl <| B1 rfl rfl rfl <| A4 rfl rfl rfl <| A4 rfl rfl rfl ?_
     refine A5 ⟨nofun, _, kS [0,7,10,11,31,32,33] [7,1000031] rfl, ?_⟩
     refine A3 <| A3 <| A0 <| A6 rfl rfl <| c1m rfl rfl rfl ?_
     refine A5 ⟨nofun, _, kS [0,7,10,31,32,33,43] [7,1000031] rfl, ?_⟩
     refine A8 rfl (fun hc => ?_) (fun hc => absurd hc (by decide))
     refine A3 <| A0 ?_
     (refine B9 rfl rfl (fun _ => rfl) ?_; intro g2)
     refine A4 rfl rfl rfl ?_
     refine A5 ⟨nofun, _, kS [2,3] [2] rfl, ?_⟩
     refine B4 <| C9 (H1 rfl rfl (by simp) (by rfl) (D9 rfl rfl (E6 C3))) ?_
     obtain ⟨h1, h2⟩ := b6m (w := w) (by rw [b1e hok hin, ← hps0]; exact c1n (i := i) (by omega) (by intro v hv; rw [hat] at hv; cases hv))
     rw [h1, h2]
     rfl
    skip
    apply D7 rfl
    ·apply B7
     ·exact B8 rfl
     exact D6
    ·exact (by have hi := c4g (rG := rG) (ps.getD i default) (by omega); unfold atR at hi; rw [hat] at hi; exact hi)
    ·exact ⟨rfl, rfl, rfl, of_decide_eq_true rfl, rfl⟩
    ·exact .inl rfl
    ·exact C1
    ·exact K5 rfl
    ·exact fun _ => rfl
    intro g39
    refine A6 rfl rfl <| B1 rfl rfl rfl <| B1 rfl rfl rfl <| A4 rfl rfl rfl <| A4 rfl rfl rfl ?_
    refine A5 ⟨nofun, _, kS [0,7,10,11,31,32,33] [7,1000031] rfl, ?_⟩
    refine A3 <| A3 <| A0 <| A6 rfl rfl <| c1m rfl rfl rfl ?_
    refine A5 ⟨nofun, _, kS [0,7,10,31,32,33,43] [7,1000031] rfl, ?_⟩
    refine A8 rfl (fun hc => ?_) (fun hc => absurd hc (by decide))
    refine A3 <| A0 ?_
    (refine B9 rfl rfl (fun _ => rfl) ?_; intro g2)
    refine A4 rfl rfl rfl ?_
    refine A5 ⟨nofun, _, kS [2,3] [2] rfl, ?_⟩
    refine B4 <| C9 (H1 rfl rfl (by simp) (by rfl) (D9 rfl rfl (E6 C3))) ?_
    obtain ⟨h1, h2⟩ := b6m (w := w) (by rw [b1e hok hin, ← hps0]; exact c1n (i := i) (by omega) (by intro v hv; rw [hat] at hv; cases hv))
    rw [h1, h2]
    rfl
   try simp only [SG, List.length_map] at hc
   refine H6 <| A3 <| A0 <| A6 rfl rfl <| A6 rfl rfl ?_
   apply D7 rfl
   ·apply B7
    ·exact K9 rfl rfl rfl (by (simp; done)) (fun _ => rfl)
    exact D6
   ·exact a6r ns (by omega)
   ·exact ⟨rfl, rfl, rfl, of_decide_eq_true rfl, rfl⟩
   ·exact .inr ⟨rfl, rfl⟩
   ·exact C1
   ·exact E3 rfl
   ·exact fun _ => rfl
   intro g51
   refine A6 rfl rfl ?_
   refine E4 rfl rfl (fun hg0 => ?_) (fun hg0 => ?_)
   ·have hg := hg0; try simp only [SG] at hg
    refine A6 rfl rfl <| gT rfl rfl ?_
    (have hnb := d4i (ns := ns) (by assumption); have hvl := c9f (show vd ns = true by assumption))
    apply D7 rfl
    ·apply B7
     ·exact K9 rfl rfl rfl (by (simp; done)) (fun _ => rfl)
     exact D6
    ·exact a9r ns (by omega) hnb
    ·exact ⟨rfl, rfl, rfl, of_decide_eq_true rfl, rfl⟩
    ·exact .inr ⟨rfl, rfl⟩
    ·exact C1
    ·exact E3 rfl
    ·exact fun _ => rfl
    intro g54
    refine gT rfl rfl <| A6 rfl rfl <| gT rfl rfl <| Y5 rfl rfl <| G1 rfl (by assumption) rfl rfl ?_
    (refine B2 rfl rfl (by (simp; done)) rfl (fun _ => (B0 (by exact A9 fun _ => rfl))) (fun _ => rfl) ?_; intro g2)
    refine A4 rfl rfl rfl ?_
    refine A5 ⟨nofun, _, kS [2,3] [2] rfl, ?_⟩
    refine B4 <| C9 (H1 rfl rfl (by simp) (by exact A9 fun _ => rfl) (D9 rfl rfl (E6 C3))) ?_
    (have hx := hin; obtain ⟨h1, h2⟩ := a6p (ns := ns) (w := w) (by rw [b1e hok hx, ← hps0]; rw [List.take_of_length_le (by omega)] at hrd; exact hrd))
    (rw [h1, h2, hg, Bool.true_and]; rfl)
   have hg := hg0; try simp only [SG] at hg
   refine gF rfl rfl <| gF rfl rfl <| gF rfl rfl <| G0 rfl (by assumption) rfl rfl ?_
   (refine B2 rfl rfl (by (simp; done)) rfl (fun _ => (B0 (by exact A9 fun _ => rfl))) (fun _ => rfl) ?_; intro g2)
   refine A4 rfl rfl rfl ?_
   refine A5 ⟨nofun, _, kS [2,3] [2] rfl, ?_⟩
   refine B4 <| C9 (H1 rfl rfl (by simp) (by exact A9 fun _ => rfl) (D9 rfl rfl (E6 C3))) ?_
   (have hx := hin; obtain ⟨h1, h2⟩ := a6p (ns := ns) (w := w) (by rw [b1e hok hx, ← hps0]; rw [List.take_of_length_le (by omega)] at hrd; exact hrd))
   (rw [h1, h2, hg, Bool.false_and]; rfl)
  try simp only [SG, List.length_map] at hc
  have hie : a4c w = [] := hc
  refine B3 <| A3 <| A0 <| A6 rfl rfl <| A6 rfl rfl ?_
  apply D7 rfl
  ·apply B7
   ·exact b7v rfl rfl rfl rfl rfl
   exact D6
  ·exact a6r [] (by decide)
  ·exact ⟨rfl, rfl, rfl, of_decide_eq_true rfl, rfl⟩
  ·exact .inr ⟨rfl, rfl⟩
  ·exact C1
  ·exact E3 rfl
  ·exact fun _ => rfl
  intro g51
  refine A6 rfl rfl ?_
  refine E4 rfl rfl (fun hg0 => ?_) (fun hg0 => ?_)
  ·have hg := hg0; try simp only [SG] at hg
   refine A6 rfl rfl <| gT rfl rfl ?_
   skip
   apply D7 rfl
   ·apply B7
    ·exact b7v rfl rfl rfl rfl rfl
    exact D6
   ·exact a9r [] (by decide) (by simp)
   ·exact ⟨rfl, rfl, rfl, of_decide_eq_true rfl, rfl⟩
   ·exact .inr ⟨rfl, rfl⟩
   ·exact C1
   ·exact E3 rfl
   ·exact fun _ => rfl
   intro g54
   refine gT rfl rfl <| A6 rfl rfl <| gT rfl rfl <| Y5 rfl rfl <| G1 rfl rfl rfl rfl ?_
   (refine B2 rfl rfl (by (simp; done)) rfl (fun _ => (B0 (by rfl))) (fun _ => rfl) ?_; intro g2)
   refine A4 rfl rfl rfl ?_
   refine A5 ⟨nofun, _, kS [2,3] [2] rfl, ?_⟩
   refine B4 <| C9 (H1 rfl rfl (by simp) (by rfl) (D9 rfl rfl (E6 C3))) ?_
   obtain ⟨h1, h2⟩ := a6p (ns := []) (w := w) (c5g hok hie)
   (rw [h1, h2, hg, Bool.true_and]; rfl)
  have hg := hg0; try simp only [SG] at hg
  refine gF rfl rfl <| gF rfl rfl <| gF rfl rfl <| G0 rfl (by assumption) rfl rfl ?_
  (refine B2 rfl rfl (by (simp; done)) rfl (fun _ => (B0 (by rfl))) (fun _ => rfl) ?_; intro g2)
  refine A4 rfl rfl rfl ?_
  refine A5 ⟨nofun, _, kS [2,3] [2] rfl, ?_⟩
  refine B4 <| C9 (H1 rfl rfl (by simp) (by rfl) (D9 rfl rfl (E6 C3))) ?_
  obtain ⟨h1, h2⟩ := a6p (ns := []) (w := w) (c5g hok hie)
  (rw [h1, h2, hg, Bool.false_and]; rfl)
 have hg := hg0; try simp only [SG] at hg
 refine gF rfl rfl <| G1 rfl (by assumption) rfl rfl ?_
 refine A5 ⟨nofun, _, kS [0,4,27] [] rfl, ?_⟩
 refine A8 rfl (fun hc => ?_) (fun hc => absurd hc (by decide))
 refine A3 <| A0 ?_
 (refine B9 rfl rfl (fun _ => rfl) ?_; intro g2)
 refine A4 rfl rfl rfl ?_
 refine A5 ⟨nofun, _, kS [2,3] [2] rfl, ?_⟩
 refine B4 <| C9 (H1 rfl rfl (by simp) (by rfl) (D9 rfl rfl (E6 C3))) ?_
 obtain ⟨h1, h2⟩ := b6m (b9p (w := w) (by simp_all [okB]))
 rw [h1, h2]
 rfl

theorem keep_s_readWord : G7 Tryd.f63 = [0, 2, 3, 4, 6, 12, 5] := by kernel_rfl
set_option maxHeartbeats 20000000 in
theorem Z9 (w : List UInt8) (hs : w.length ≤ 1048576) : CW (cxT rG) 63 [tV w] = some (.tup [tV (if (numsOf w).isSome = true then lW else w), .own 1 (((numsOf w).getD []).map iV), bV ((numsOf w).isSome || decide (0 ≤ rch (bA w)))], []) := by
 refine F8 rfl Tryd.func63 rfl ⟨by kernel_rfl, rfl, of_decide_eq_true rfl, of_decide_eq_true rfl, by decide⟩ keep_s_readWord <| A3 <| A0 <| A4 rfl rfl rfl ?_
 (refine B9 rfl rfl (fun _ => rfl) ?_; intro g3)
 refine A4 rfl rfl rfl ?_
 refine A5 ⟨nofun, _, kS [0] [] rfl, ?_⟩
 refine A3 <| A3 <| A0 <| A6 rfl rfl ?_
 apply D7 rfl
 ·apply B7
  ·exact B8 rfl
  exact D6
 ·exact (by have hi := c0d (rG := rG) w hs; rw [d5j] at hi; exact hi)
 ·exact ⟨rfl, rfl, rfl, of_decide_eq_true rfl, rfl⟩
 ·exact .inr ⟨a1q _ _, rfl⟩
 ·exact C1
 ·exact J5 (R9 fun _ => J3 rfl R8)
 ·exact fun _ => rfl
 intro g9
 simp only [List.length_map]
 refine A6 rfl rfl <| B1 rfl rfl rfl <| B1 rfl rfl rfl ?_
 (refine B2 rfl rfl (by (simp; done)) rfl (fun _ => (B0 (by exact A9 fun _ => rfl))) (fun _ => rfl) ?_; intro g5)
 refine A4 rfl rfl rfl ?_
 refine A5 ⟨nofun, _, kS [0,5,6] [5] rfl, ?_⟩
 refine A3 <| A0 <| A6 rfl rfl ?_
 refine A5 ⟨nofun, _, kS [0,5,12] [5] rfl, ?_⟩
 refine A8 rfl (fun hc => ?_) (fun hc => ?_)
 ·try simp only [SG, List.length_map] at hc
  obtain ⟨ns, hns⟩ := Option.isSome_iff_exists.1 hc
  have hraw := d4x hns
  refine A3 <| A0 <| A6 rfl rfl <| A4 rfl rfl rfl ?_
  (refine B2 rfl rfl (by (simp; done)) rfl (fun _ => (B0 (by exact A9 fun _ => rfl))) (fun _ => rfl) ?_; intro g3)
  refine A4 rfl rfl rfl ?_
  refine A5 ⟨nofun, _, kS [2,3,4] [3] rfl, ?_⟩
  refine B4 <| C9 (D9 rfl rfl (H1 rfl rfl (by simp) (by exact A9 fun _ => rfl) (D9 rfl rfl (E6 C3)))) ?_
  rw [hns, hraw]
  rfl
 try simp only [SG, List.length_map] at hc
 have hnn : numsOf w = none := by simpa using hc
 have hwo := d2v w
 refine B3 <| A3 <| A0 <| A6 rfl rfl <| A6 rfl rfl <| a9f rfl rfl <| A6 rfl rfl ?_
 refine E4 rfl rfl (fun hg0 => ?_) (fun hg0 => ?_)
 ·have hg := hg0; try simp only [SG] at hg
  refine A6 rfl rfl <| gT rfl rfl ?_
  apply D7 rfl
  ·apply B7
   ·exact B8 rfl
   exact D6
  ·exact a7b (bA w)
  ·exact ⟨rfl, rfl, rfl, of_decide_eq_true rfl, rfl⟩
  ·exact .inl rfl
  ·exact C1
  ·exact E3 rfl
  ·exact fun _ => rfl
  intro g19
  refine gT rfl rfl <| d1w rfl rfl <| G1 rfl (by assumption) rfl rfl <| A4 rfl rfl rfl ?_
  (refine B9 rfl rfl (fun _ => rfl) ?_; intro g3)
  refine A4 rfl rfl rfl ?_
  refine A5 ⟨nofun, _, kS [2,3,4] [3] rfl, ?_⟩
  refine B4 <| C9 (D9 rfl rfl (H1 rfl rfl (by simp) (by rfl) (D9 rfl rfl (E6 C3)))) ?_
  rw [hnn, ← hwo]
  simp_all
  try rfl
 have hg := hg0; try simp only [SG] at hg
 refine gF rfl rfl <| gF rfl rfl <| G0 rfl (by assumption) rfl rfl <| A4 rfl rfl rfl ?_
 (refine B9 rfl rfl (fun _ => rfl) ?_; intro g3)
 refine A4 rfl rfl rfl ?_
 refine A5 ⟨nofun, _, kS [2,3,4] [3] rfl, ?_⟩
 refine B4 <| C9 (D9 rfl rfl (H1 rfl rfl (by simp) (by rfl) (D9 rfl rfl (E6 C3)))) ?_
 rw [hnn, ← hwo]
 simp_all
 try rfl

theorem keep_s_readWords : G7 Tryd.f53 = [0, 2, 3, 4, 15, 7, 26, 6, 5, 35, 34, 36, 9, 12, 44, 8, 10, 11, 39, 50] := by kernel_rfl
set_option maxHeartbeats 20000000 in
theorem a9x (ws : List W8) (hws : ws.length ≤ 1048600 ∧ ∀ w ∈ ws, w.length ≤ 1048576) : CW (cxT rG) 53 [.list (ws.map tV)] = some (rtR (rdT ws), []) := by
 obtain ⟨kk, hkk⟩ : ∃ kk : Nat, ws.length < kk := ⟨_, Nat.lt_succ_self _⟩
 revert ws
 induction kk with
 | zero => intro ws hws hkk; exact absurd hkk (Nat.not_lt_zero _)
 | succ kk ih =>
  intro ws hws hkk
  refine F8 rfl Tryd.func53 rfl ⟨by kernel_rfl, rfl, of_decide_eq_true rfl, of_decide_eq_true rfl, by decide⟩ keep_s_readWords <| A3 <| A0 <| H2 rfl (fun _ => B5 rfl) (fun _ => rfl) ?_
  intro g2
  (refine B9 rfl rfl (fun _ => rfl) ?_; intro g3)
  refine A4 rfl rfl rfl ?_
  refine A5 ⟨nofun, _, kS [0,2] [2] rfl, ?_⟩
  refine A3 <| A3 <| A0 <| A6 rfl rfl <| I1 rfl rfl <| a4w rfl rfl ?_
  refine A5 ⟨nofun, _, kS [0,2,15] [2] rfl, ?_⟩
  refine A8 rfl (fun hc => ?_) (fun hc => ?_)
  ·try simp only [SG, List.length_map] at hc
   have hw0 : ws = [] := List.length_eq_zero_iff.1 (by simpa using hc)
   subst hw0
   refine A3 <| A0 <| J2 (fs := [_, _, _]) rfl rfl rfl rfl rfl <| B6 rfl rfl rfl rfl ⟨by decide, rfl, of_decide_eq_true rfl, of_decide_eq_true rfl, rfl⟩ rfl (by exact B5 rfl) ?_
   (refine B9 rfl rfl (fun _ => rfl) ?_; intro g3)
   refine A4 rfl rfl rfl ?_
   refine A5 ⟨nofun, _, kS [2,3,4] [2,3] rfl, ?_⟩
   refine B4 <| C9 (F5 rfl rfl rfl rfl (E5 rfl (H0 rfl (H0 rfl H4))) (H1 rfl rfl (by simp) (by rfl) (D9 rfl rfl (E6 C3)))) ?_
   rfl
  try simp only [SG, List.length_map] at hc
  obtain ⟨w, ws1, rfl⟩ : ∃ w ws1, ws = w :: ws1 := List.exists_cons_of_ne_nil (fun e => by subst e; simp at hc)
  have hw := hws.2 w (by simp)
  refine B3 <| A3 <| A0 <| A6 rfl rfl <| G5 rfl rfl rfl (fun _ => rfl) (by (change 0 < _; omega)) <| G2 rfl rfl rfl ?_
  rcases d0n w with ⟨ns, hns⟩ | ⟨hnn, hn⟩ | ⟨hnn, hn⟩ | ⟨hnn, hn⟩ | ⟨hnn, hn⟩
  ·skip
   apply D7 rfl
   ·apply B7
    ·exact B8 rfl
    exact D6
   ·exact (show CW (cxT rG) 63 [tV w] = some (.tup [tV lW, .own 1 (ns.map iV), bV true], []) from by have hi := Z9 (rG := rG) w (by omega); rw [hns] at hi; exact hi)
   ·exact ⟨rfl, rfl, rfl, of_decide_eq_true rfl, rfl⟩
   ·exact .inr ⟨by simp [hasList, F4], rfl⟩
   ·exact C1
   ·exact J5 (J3 rfl (R9 fun _ => J3 rfl R8))
   ·exact fun _ => D8 (B0 (A9 fun _ => rfl)) (by rfl)
   intro g21
   try simp only [List.length_map]
   refine A6 rfl rfl <| B1 rfl rfl rfl <| B1 rfl rfl rfl <| B1 rfl rfl rfl <| A4 rfl rfl rfl ?_
   (refine B2 rfl rfl (by (simp; done)) rfl (fun _ => (B0 (by exact A9 fun _ => rfl))) (fun _ => rfl) ?_; intro g6)
   refine A4 rfl rfl rfl ?_
   refine A5 ⟨nofun, _, kS [0,2,5,6,7] [2,6] rfl, ?_⟩
   refine A3 <| A3 <| A0 <| A6 rfl rfl <| L3 rfl ?_
   refine A5 ⟨nofun, _, kS [0,2,5,6,26] [2,6] rfl, ?_⟩
   refine A8 rfl (fun hc => absurd hc (by decide)) (fun hc => ?_)
   refine B3 <| A3 <| A0 <| A6 rfl rfl <| A6 rfl rfl <| J2 (fs := [_, _, _]) rfl rfl rfl rfl rfl <| A6 rfl rfl <| M4 rfl rfl rfl (Mv.sized_map fun _ => rfl) L5 (H8 (n := 1) rfl) (by simp) ?_
   rw [show ((List.map tV (w :: ws1)).drop 1).take ((List.map tV (w :: ws1)).length - 1) = ws1.map tV from by rw [List.map_cons, List.drop_succ_cons, List.drop_zero, List.take_of_length_le (by simp)]]
   refine H2 rfl (fun _ => B5 rfl) (fun _ => rfl) ?_
   intro g8
   refine K8 rfl rfl rfl rfl (L4 rfl (a1l (by decide) (L4 rfl V7))) (fun _ => rfl) ⟨by decide, rfl, of_decide_eq_true rfl, Nat.le_refl _⟩ (fun _ => rfl) (fun _ => rfl) (fun _ => (by rfl)) ?_
   intro z
   simp only [P2, List.cons_append, List.nil_append]
   refine A4 rfl rfl rfl ?_
   refine A5 ⟨fun _ => ⟨by (simp only [a1z, List.nil_append, List.append_nil, List.map_cons, List.map_nil, List.cons_append]; decide +kernel), by decide +kernel⟩, [(.t 2, _), (.t 5, _), (.t 8, _), (.t 9, _), (.h 2, _), (.h 8, _), (.h 6, _)], ⟨rfl, rfl, rfl, rfl, rfl, rfl, rfl, rfl, rfl, rfl, rfl, rfl, rfl, rfl, trivial⟩, ?_⟩
   refine A3 <| A3 <| A0 <| A6 rfl rfl ?_
   apply D7 rfl
   ·apply B7
    ·exact B8 rfl
    exact D6
   ·exact a7b (bA lW)
   ·exact ⟨rfl, rfl, rfl, of_decide_eq_true rfl, rfl⟩
   ·exact .inl rfl
   ·exact C1
   ·exact E3 rfl
   ·exact fun _ => rfl
   intro g34
   rw [show nd (bA lW) = 0 from d3k rfl]
   refine A6 rfl rfl ?_
   refine A5 ⟨nofun, _, kS [2,8,9,34,35] [2,8,6] rfl, ?_⟩
   refine D3 <| L7 <| A3 <| A0 <| J7 rfl rfl ?_
   refine A5 ⟨nofun, _, kS [2,8,9,34,35,36] [2,8,6] rfl, ?_⟩
   refine A3 ?_
   refine A8 rfl (fun hc => absurd hc (by decide)) (fun hc => ?_)
   refine H6 <| A3 <| A0 <| F6 rfl rfl rfl rfl rfl <| A6 rfl rfl <| K8 rfl rfl rfl rfl (L4 rfl (a1l (by decide) (L4 rfl V7))) (fun _ => rfl) ⟨by decide, rfl, of_decide_eq_true rfl, Nat.le_refl _⟩ (fun _ => rfl) (fun _ => rfl) (fun _ => (by rfl)) ?_
   intro z
   simp only [P2, List.cons_append, List.nil_append]
   refine A4 rfl rfl rfl <| A4 rfl rfl rfl ?_
   refine A5 ⟨nofun, _, kS [2,3,4] [2,6] rfl, ?_⟩
   refine B4 <| C9 (F5 rfl rfl rfl rfl (E5 rfl (a2c rfl rfl (by simp) (fun _ => rfl) (H0 rfl H4))) (D9 rfl rfl (D9 rfl rfl (E6 C3)))) ?_
   rw [c2a hns]
   rfl
  ·skip
   apply D7 rfl
   ·apply B7
    ·exact B8 rfl
    exact D6
   ·exact (show CW (cxT rG) 63 [tV w] = some (.tup [tV w, .own 1 [], bV true], []) from by have hi := Z9 (rG := rG) w (by omega); rw [hnn] at hi; rw [show decide (0 ≤ rch (bA w)) = true from decide_eq_true (by omega)] at hi; exact hi)
   ·exact ⟨rfl, rfl, rfl, of_decide_eq_true rfl, rfl⟩
   ·exact .inr ⟨rfl, rfl⟩
   ·exact C1
   ·exact J5 (J3 rfl (R9 fun _ => J3 rfl R8))
   ·exact fun _ => D8 (B0 rfl) (by rfl)
   intro g21
   try simp only [List.length_map]
   refine A6 rfl rfl <| B1 rfl rfl rfl <| B1 rfl rfl rfl <| B1 rfl rfl rfl <| A4 rfl rfl rfl ?_
   (refine B2 rfl rfl (by (simp; done)) rfl (fun _ => (B0 (by rfl))) (fun _ => rfl) ?_; intro g6)
   refine A4 rfl rfl rfl ?_
   refine A5 ⟨nofun, _, kS [0,2,5,6,7] [2,6] rfl, ?_⟩
   refine A3 <| A3 <| A0 <| A6 rfl rfl <| L3 rfl ?_
   refine A5 ⟨nofun, _, kS [0,2,5,6,26] [2,6] rfl, ?_⟩
   refine A8 rfl (fun hc => absurd hc (by decide)) (fun hc => ?_)
   refine B3 <| A3 <| A0 <| A6 rfl rfl <| A6 rfl rfl <| J2 (fs := [_, _, _]) rfl rfl rfl rfl rfl <| A6 rfl rfl <| M4 rfl rfl rfl (Mv.sized_map fun _ => rfl) L5 (H8 (n := 1) rfl) (by simp) ?_
   rw [show ((List.map tV (w :: ws1)).drop 1).take ((List.map tV (w :: ws1)).length - 1) = ws1.map tV from by rw [List.map_cons, List.drop_succ_cons, List.drop_zero, List.take_of_length_le (by simp)]]
   refine H2 rfl (fun _ => B5 rfl) (fun _ => rfl) ?_
   intro g8
   refine K8 rfl rfl rfl rfl (L4 rfl (a1l (by decide) (L4 rfl V7))) (fun _ => rfl) ⟨by decide, rfl, of_decide_eq_true rfl, Nat.le_refl _⟩ (fun _ => rfl) (fun _ => rfl) (fun _ => (by rfl)) ?_
   intro z
   simp only [P2, List.cons_append, List.nil_append]
   refine A4 rfl rfl rfl ?_
   refine A5 ⟨fun _ => ⟨by (simp only [a1z, List.nil_append, List.append_nil, List.map_cons, List.map_nil, List.cons_append]; decide +kernel), by decide +kernel⟩, [(.t 2, _), (.t 5, _), (.t 8, _), (.t 9, _), (.h 2, _), (.h 8, _), (.h 6, _)], ⟨rfl, rfl, rfl, rfl, rfl, rfl, rfl, rfl, rfl, rfl, rfl, rfl, rfl, rfl, trivial⟩, ?_⟩
   refine A3 <| A3 <| A0 <| A6 rfl rfl ?_
   apply D7 rfl
   ·apply B7
    ·exact B8 rfl
    exact D6
   ·exact a7b (bA w)
   ·exact ⟨rfl, rfl, rfl, of_decide_eq_true rfl, rfl⟩
   ·exact .inl rfl
   ·exact C1
   ·exact E3 rfl
   ·exact fun _ => rfl
   intro g34
   rw [show nd (bA w) = 0 from (a7v (by omega)).trans hn]
   refine A6 rfl rfl ?_
   refine A5 ⟨nofun, _, kS [2,8,9,34,35] [2,8,6] rfl, ?_⟩
   refine D3 <| L7 <| A3 <| A0 <| J7 rfl rfl ?_
   refine A5 ⟨nofun, _, kS [2,8,9,34,35,36] [2,8,6] rfl, ?_⟩
   refine A3 ?_
   refine A8 rfl (fun hc => absurd hc (by decide)) (fun hc => ?_)
   refine H6 <| A3 <| A0 <| F6 rfl rfl rfl rfl rfl <| A6 rfl rfl <| K8 rfl rfl rfl rfl (L4 rfl (a1l (by decide) (L4 rfl V7))) (fun _ => rfl) ⟨by decide, rfl, of_decide_eq_true rfl, Nat.le_refl _⟩ (fun _ => rfl) (fun _ => rfl) (fun _ => (by rfl)) ?_
   intro z
   simp only [P2, List.cons_append, List.nil_append]
   refine A4 rfl rfl rfl <| A4 rfl rfl rfl ?_
   refine A5 ⟨nofun, _, kS [2,3,4] [2,6] rfl, ?_⟩
   refine B4 <| C9 (F5 rfl rfl rfl rfl (E5 rfl (b6h rfl rfl rfl (H0 rfl H4))) (D9 rfl rfl (D9 rfl rfl (E6 C3)))) ?_
   rw [c5x hnn hn]
   rfl
  ·skip
   apply D7 rfl
   ·apply B7
    ·exact B8 rfl
    exact D6
   ·exact (show CW (cxT rG) 63 [tV w] = some (.tup [tV w, .own 1 [], bV true], []) from by have hi := Z9 (rG := rG) w (by omega); rw [hnn] at hi; rw [show decide (0 ≤ rch (bA w)) = true from decide_eq_true (by omega)] at hi; exact hi)
   ·exact ⟨rfl, rfl, rfl, of_decide_eq_true rfl, rfl⟩
   ·exact .inr ⟨rfl, rfl⟩
   ·exact C1
   ·exact J5 (J3 rfl (R9 fun _ => J3 rfl R8))
   ·exact fun _ => D8 (B0 rfl) (by rfl)
   intro g21
   try simp only [List.length_map]
   refine A6 rfl rfl <| B1 rfl rfl rfl <| B1 rfl rfl rfl <| B1 rfl rfl rfl <| A4 rfl rfl rfl ?_
   (refine B2 rfl rfl (by (simp; done)) rfl (fun _ => (B0 (by rfl))) (fun _ => rfl) ?_; intro g6)
   refine A4 rfl rfl rfl ?_
   refine A5 ⟨nofun, _, kS [0,2,5,6,7] [2,6] rfl, ?_⟩
   refine A3 <| A3 <| A0 <| A6 rfl rfl <| L3 rfl ?_
   refine A5 ⟨nofun, _, kS [0,2,5,6,26] [2,6] rfl, ?_⟩
   refine A8 rfl (fun hc => absurd hc (by decide)) (fun hc => ?_)
   refine B3 <| A3 <| A0 <| A6 rfl rfl <| A6 rfl rfl <| J2 (fs := [_, _, _]) rfl rfl rfl rfl rfl <| A6 rfl rfl <| M4 rfl rfl rfl (Mv.sized_map fun _ => rfl) L5 (H8 (n := 1) rfl) (by simp) ?_
   rw [show ((List.map tV (w :: ws1)).drop 1).take ((List.map tV (w :: ws1)).length - 1) = ws1.map tV from by rw [List.map_cons, List.drop_succ_cons, List.drop_zero, List.take_of_length_le (by simp)]]
   refine H2 rfl (fun _ => B5 rfl) (fun _ => rfl) ?_
   intro g8
   refine K8 rfl rfl rfl rfl (L4 rfl (a1l (by decide) (L4 rfl V7))) (fun _ => rfl) ⟨by decide, rfl, of_decide_eq_true rfl, Nat.le_refl _⟩ (fun _ => rfl) (fun _ => rfl) (fun _ => (by rfl)) ?_
   intro z
   simp only [P2, List.cons_append, List.nil_append]
   refine A4 rfl rfl rfl ?_
   refine A5 ⟨fun _ => ⟨by (simp only [a1z, List.nil_append, List.append_nil, List.map_cons, List.map_nil, List.cons_append]; decide +kernel), by decide +kernel⟩, [(.t 2, _), (.t 5, _), (.t 8, _), (.t 9, _), (.h 2, _), (.h 8, _), (.h 6, _)], ⟨rfl, rfl, rfl, rfl, rfl, rfl, rfl, rfl, rfl, rfl, rfl, rfl, rfl, rfl, trivial⟩, ?_⟩
   refine A3 <| A3 <| A0 <| A6 rfl rfl ?_
   apply D7 rfl
   ·apply B7
    ·exact B8 rfl
    exact D6
   ·exact a7b (bA w)
   ·exact ⟨rfl, rfl, rfl, of_decide_eq_true rfl, rfl⟩
   ·exact .inl rfl
   ·exact C1
   ·exact E3 rfl
   ·exact fun _ => rfl
   intro g34
   rw [show nd (bA w) = 1 from (a7v (by omega)).trans hn]
   refine A6 rfl rfl ?_
   refine A5 ⟨nofun, _, kS [2,8,9,34,35] [2,8,6] rfl, ?_⟩
   refine D3 <| L7 <| A3 <| A0 <| J7 rfl rfl ?_
   refine A5 ⟨nofun, _, kS [2,8,9,34,35,36] [2,8,6] rfl, ?_⟩
   refine A3 ?_
   refine A8 rfl (fun hc => ?_) (fun hc => absurd hc (by decide))
   refine B3 <| A3 <| D3 <| A3 <| A0 <| A6 rfl rfl ?_
   rcases hr1 : rdT ws1 with _ | ⟨k1, r1⟩
   ·skip
    apply D7 rfl
    ·apply B7
     ·exact B8 rfl
     exact D6
    ·exact (by have hi := ih ws1 ⟨by simp only [List.length_cons] at hws; omega, fun x hx => hws.2 x (List.mem_cons_of_mem _ hx)⟩ (by simp only [List.length_cons] at hkk; omega); rw [hr1] at hi; exact hi)
    ·exact ⟨rfl, rfl, rfl, of_decide_eq_true rfl, rfl⟩
    ·exact .inl rfl
    ·exact C1
    ·exact J5 (J3 rfl (R9 fun _ => J3 rfl R8))
    ·exact fun _ => D8 (B0 rfl) (by rfl)
    intro g39
    refine A6 rfl rfl <| B1 rfl rfl rfl <| B1 rfl rfl rfl <| B1 rfl rfl rfl <| H2 rfl (fun _ => B5 rfl) (fun _ => rfl) ?_
    intro g10
    refine B6 rfl rfl rfl rfl ⟨by decide, rfl, of_decide_eq_true rfl, of_decide_eq_true rfl, rfl⟩ rfl (by exact B5 rfl) ?_
    (refine B2 rfl rfl (by (simp; done)) rfl (fun _ => (B0 (by rfl))) (fun _ => rfl) ?_; intro g11)
    refine A4 rfl rfl rfl ?_
    refine A5 ⟨nofun, _, kS [2,8,10,11,12,34,35] [2,8,6,10] rfl, ?_⟩
    refine A3 <| A3 <| A0 <| A6 rfl rfl <| L3 rfl ?_
    refine A5 ⟨nofun, _, kS [2,8,10,11,34,35,44] [2,8,6,10] rfl, ?_⟩
    refine A8 rfl (fun hc => ?_) (fun hc => absurd hc (by decide))
    refine A3 <| A0 <| J2 (fs := [_, _, _]) rfl rfl rfl rfl rfl <| B6 rfl rfl rfl rfl ⟨by decide, rfl, of_decide_eq_true rfl, of_decide_eq_true rfl, rfl⟩ rfl (by exact B5 rfl) ?_
    (refine B9 rfl rfl (fun _ => rfl) ?_; intro g3)
    refine A4 rfl rfl rfl ?_
    refine A5 ⟨nofun, _, kS [2,3,4] [2,3] rfl, ?_⟩
    refine B4 <| C9 (F5 rfl rfl rfl rfl (E5 rfl (H0 rfl (H0 rfl H4))) (H1 rfl rfl (by simp) (by rfl) (D9 rfl rfl (E6 C3)))) ?_
    rw [b6t hnn hn, hr1]
    rfl
   skip
   apply D7 rfl
   ·apply B7
    ·exact B8 rfl
    exact D6
   ·exact (by have hi := ih ws1 ⟨by simp only [List.length_cons] at hws; omega, fun x hx => hws.2 x (List.mem_cons_of_mem _ hx)⟩ (by simp only [List.length_cons] at hkk; omega); rw [hr1] at hi; exact hi)
   ·exact ⟨rfl, rfl, rfl, of_decide_eq_true rfl, rfl⟩
   ·exact .inl rfl
   ·exact C1
   ·exact K5 rfl
   ·exact fun _ => rfl
   intro g39
   refine A6 rfl rfl <| B1 rfl rfl rfl <| B1 rfl rfl rfl <| B1 rfl rfl rfl <| H2 rfl (fun _ => B5 rfl) (fun _ => rfl) ?_
   intro g10
   refine B6 rfl rfl rfl rfl ⟨by decide, rfl, of_decide_eq_true rfl, of_decide_eq_true rfl, rfl⟩ rfl (by exact B5 rfl) <| A4 rfl rfl rfl <| A4 rfl rfl rfl ?_
   refine A5 ⟨nofun, _, kS [2,8,10,11,12,34,35] [2,8,6,10] rfl, ?_⟩
   refine A3 <| A3 <| A0 <| A6 rfl rfl <| L3 rfl ?_
   refine A5 ⟨nofun, _, kS [2,8,10,11,34,35,44] [2,8,6,10] rfl, ?_⟩
   refine A8 rfl (fun hc => absurd hc (by decide)) (fun hc => ?_)
   refine B3 <| A3 <| A0 <| C4 rfl rfl (of_decide_eq_true rfl) rfl rfl <| C5 rfl rfl rfl rfl rfl rfl <| F6 rfl rfl rfl rfl rfl <| E7 (es := List.map trV [_]) rfl rfl (of_decide_eq_true rfl) rfl rfl (fun _ => B0 (A9 fun _ => rfl)) (fun _ => rfl) ?_
   intro g49
   refine W3 rfl rfl rfl (by simp) (by decide) rfl rfl rfl (of_decide_eq_true rfl) (fun _ => ⟨rfl, rfl⟩) (by simp only [H3]; (simp only [List.length_nil, List.length_cons, List.length_append, Nat.zero_add, List.length_map]; omega)) (fun _ => rfl) ?_
   intro g50
   refine C4 rfl rfl (of_decide_eq_true rfl) rfl rfl <| Q7 rfl rfl rfl rfl rfl (Nat.le_refl _) rfl ?_
   refine A5 ⟨nofun, _, kS [2,8,11,34,35] [2,8,6,1000050] rfl, ?_⟩
   refine A0 <| A6 rfl rfl <| A4 rfl rfl rfl ?_
   refine A5 ⟨nofun, _, kS [2,8,9,34,35] [2,8,6,1000050] rfl, ?_⟩
   refine A0 <| I0 rfl rfl (G9 (by omega)) <| A6 rfl rfl ?_
   refine A5 ⟨nofun, _, kS [2,8,9,34,35] [2,8,6,1000050] rfl, ?_⟩
   refine L7 <| A3 <| A0 <| J7 rfl rfl ?_
   refine A5 ⟨nofun, _, kS [2,8,9,34,35,36] [2,8,6,1000050] rfl, ?_⟩
   refine A3 ?_
   refine A8 rfl (fun hc => absurd hc (by decide)) (fun hc => ?_)
   refine H6 <| A3 <| A0 <| F6 rfl rfl rfl rfl rfl <| A6 rfl rfl <| K8 rfl rfl rfl rfl (L4 rfl (a1l (by decide) (b0o (by decide) (by decide) rfl (by simp) fun _ => V7))) (fun _ => rfl) ⟨by decide, rfl, of_decide_eq_true rfl, Nat.le_refl _⟩ (fun _ => rfl) (fun _ => rfl) (fun _ => D8 (by rfl) (D8 (B0 (A9 fun _ => rfl)) (by rfl))) ?_
   intro z
   simp only [P2, List.cons_append, List.nil_append]
   refine A4 rfl rfl rfl <| A4 rfl rfl rfl ?_
   refine A5 ⟨nofun, _, kS [2,3,4] [2,6,300002] rfl, ?_⟩
   refine B4 <| C9 (F5 rfl rfl rfl rfl (E5 rfl (b6h rfl rfl rfl (a2c rfl rfl (by simp) (fun _ => rfl) H4))) (D9 rfl rfl (D9 rfl rfl (E6 C3)))) ?_
   rw [b6t hnn hn, hr1]
   rfl
  ·skip
   apply D7 rfl
   ·apply B7
    ·exact B8 rfl
    exact D6
   ·exact (show CW (cxT rG) 63 [tV w] = some (.tup [tV w, .own 1 [], bV true], []) from by have hi := Z9 (rG := rG) w (by omega); rw [hnn] at hi; rw [show decide (0 ≤ rch (bA w)) = true from decide_eq_true (by omega)] at hi; exact hi)
   ·exact ⟨rfl, rfl, rfl, of_decide_eq_true rfl, rfl⟩
   ·exact .inr ⟨rfl, rfl⟩
   ·exact C1
   ·exact J5 (J3 rfl (R9 fun _ => J3 rfl R8))
   ·exact fun _ => D8 (B0 rfl) (by rfl)
   intro g21
   try simp only [List.length_map]
   refine A6 rfl rfl <| B1 rfl rfl rfl <| B1 rfl rfl rfl <| B1 rfl rfl rfl <| A4 rfl rfl rfl ?_
   (refine B2 rfl rfl (by (simp; done)) rfl (fun _ => (B0 (by rfl))) (fun _ => rfl) ?_; intro g6)
   refine A4 rfl rfl rfl ?_
   refine A5 ⟨nofun, _, kS [0,2,5,6,7] [2,6] rfl, ?_⟩
   refine A3 <| A3 <| A0 <| A6 rfl rfl <| L3 rfl ?_
   refine A5 ⟨nofun, _, kS [0,2,5,6,26] [2,6] rfl, ?_⟩
   refine A8 rfl (fun hc => absurd hc (by decide)) (fun hc => ?_)
   refine B3 <| A3 <| A0 <| A6 rfl rfl <| A6 rfl rfl <| J2 (fs := [_, _, _]) rfl rfl rfl rfl rfl <| A6 rfl rfl <| M4 rfl rfl rfl (Mv.sized_map fun _ => rfl) L5 (H8 (n := 1) rfl) (by simp) ?_
   rw [show ((List.map tV (w :: ws1)).drop 1).take ((List.map tV (w :: ws1)).length - 1) = ws1.map tV from by rw [List.map_cons, List.drop_succ_cons, List.drop_zero, List.take_of_length_le (by simp)]]
   refine H2 rfl (fun _ => B5 rfl) (fun _ => rfl) ?_
   intro g8
   refine K8 rfl rfl rfl rfl (L4 rfl (a1l (by decide) (L4 rfl V7))) (fun _ => rfl) ⟨by decide, rfl, of_decide_eq_true rfl, Nat.le_refl _⟩ (fun _ => rfl) (fun _ => rfl) (fun _ => (by rfl)) ?_
   intro z
   simp only [P2, List.cons_append, List.nil_append]
   refine A4 rfl rfl rfl ?_
   refine A5 ⟨fun _ => ⟨by (simp only [a1z, List.nil_append, List.append_nil, List.map_cons, List.map_nil, List.cons_append]; decide +kernel), by decide +kernel⟩, [(.t 2, _), (.t 5, _), (.t 8, _), (.t 9, _), (.h 2, _), (.h 8, _), (.h 6, _)], ⟨rfl, rfl, rfl, rfl, rfl, rfl, rfl, rfl, rfl, rfl, rfl, rfl, rfl, rfl, trivial⟩, ?_⟩
   refine A3 <| A3 <| A0 <| A6 rfl rfl ?_
   apply D7 rfl
   ·apply B7
    ·exact B8 rfl
    exact D6
   ·exact a7b (bA w)
   ·exact ⟨rfl, rfl, rfl, of_decide_eq_true rfl, rfl⟩
   ·exact .inl rfl
   ·exact C1
   ·exact E3 rfl
   ·exact fun _ => rfl
   intro g34
   rw [show nd (bA w) = 2 from (a7v (by omega)).trans hn]
   refine A6 rfl rfl ?_
   refine A5 ⟨nofun, _, kS [2,8,9,34,35] [2,8,6] rfl, ?_⟩
   refine D3 <| L7 <| A3 <| A0 <| J7 rfl rfl ?_
   refine A5 ⟨nofun, _, kS [2,8,9,34,35,36] [2,8,6] rfl, ?_⟩
   refine A3 ?_
   refine A8 rfl (fun hc => ?_) (fun hc => absurd hc (by decide))
   refine B3 <| A3 <| D3 <| A3 <| A0 <| A6 rfl rfl ?_
   rcases hr1 : rdT ws1 with _ | ⟨k1, r1⟩
   ·skip
    apply D7 rfl
    ·apply B7
     ·exact B8 rfl
     exact D6
    ·exact (by have hi := ih ws1 ⟨by simp only [List.length_cons] at hws; omega, fun x hx => hws.2 x (List.mem_cons_of_mem _ hx)⟩ (by simp only [List.length_cons] at hkk; omega); rw [hr1] at hi; exact hi)
    ·exact ⟨rfl, rfl, rfl, of_decide_eq_true rfl, rfl⟩
    ·exact .inl rfl
    ·exact C1
    ·exact J5 (J3 rfl (R9 fun _ => J3 rfl R8))
    ·exact fun _ => D8 (B0 rfl) (by rfl)
    intro g39
    refine A6 rfl rfl <| B1 rfl rfl rfl <| B1 rfl rfl rfl <| B1 rfl rfl rfl <| H2 rfl (fun _ => B5 rfl) (fun _ => rfl) ?_
    intro g10
    refine B6 rfl rfl rfl rfl ⟨by decide, rfl, of_decide_eq_true rfl, of_decide_eq_true rfl, rfl⟩ rfl (by exact B5 rfl) ?_
    (refine B2 rfl rfl (by (simp; done)) rfl (fun _ => (B0 (by rfl))) (fun _ => rfl) ?_; intro g11)
    refine A4 rfl rfl rfl ?_
    refine A5 ⟨nofun, _, kS [2,8,10,11,12,34,35] [2,8,6,10] rfl, ?_⟩
    refine A3 <| A3 <| A0 <| A6 rfl rfl <| L3 rfl ?_
    refine A5 ⟨nofun, _, kS [2,8,10,11,34,35,44] [2,8,6,10] rfl, ?_⟩
    refine A8 rfl (fun hc => ?_) (fun hc => absurd hc (by decide))
    refine A3 <| A0 <| J2 (fs := [_, _, _]) rfl rfl rfl rfl rfl <| B6 rfl rfl rfl rfl ⟨by decide, rfl, of_decide_eq_true rfl, of_decide_eq_true rfl, rfl⟩ rfl (by exact B5 rfl) ?_
    (refine B9 rfl rfl (fun _ => rfl) ?_; intro g3)
    refine A4 rfl rfl rfl ?_
    refine A5 ⟨nofun, _, kS [2,3,4] [2,3] rfl, ?_⟩
    refine B4 <| C9 (F5 rfl rfl rfl rfl (E5 rfl (H0 rfl (H0 rfl H4))) (H1 rfl rfl (by simp) (by rfl) (D9 rfl rfl (E6 C3)))) ?_
    rw [a4j hnn hn, hr1]
    rfl
   skip
   apply D7 rfl
   ·apply B7
    ·exact B8 rfl
    exact D6
   ·exact (by have hi := ih ws1 ⟨by simp only [List.length_cons] at hws; omega, fun x hx => hws.2 x (List.mem_cons_of_mem _ hx)⟩ (by simp only [List.length_cons] at hkk; omega); rw [hr1] at hi; exact hi)
   ·exact ⟨rfl, rfl, rfl, of_decide_eq_true rfl, rfl⟩
   ·exact .inl rfl
   ·exact C1
   ·exact K5 rfl
   ·exact fun _ => rfl
   intro g39
   refine A6 rfl rfl <| B1 rfl rfl rfl <| B1 rfl rfl rfl <| B1 rfl rfl rfl <| H2 rfl (fun _ => B5 rfl) (fun _ => rfl) ?_
   intro g10
   refine B6 rfl rfl rfl rfl ⟨by decide, rfl, of_decide_eq_true rfl, of_decide_eq_true rfl, rfl⟩ rfl (by exact B5 rfl) <| A4 rfl rfl rfl <| A4 rfl rfl rfl ?_
   refine A5 ⟨nofun, _, kS [2,8,10,11,12,34,35] [2,8,6,10] rfl, ?_⟩
   refine A3 <| A3 <| A0 <| A6 rfl rfl <| L3 rfl ?_
   refine A5 ⟨nofun, _, kS [2,8,10,11,34,35,44] [2,8,6,10] rfl, ?_⟩
   refine A8 rfl (fun hc => absurd hc (by decide)) (fun hc => ?_)
   refine B3 <| A3 <| A0 <| C4 rfl rfl (of_decide_eq_true rfl) rfl rfl <| C5 rfl rfl rfl rfl rfl rfl <| F6 rfl rfl rfl rfl rfl <| E7 (es := List.map trV [_]) rfl rfl (of_decide_eq_true rfl) rfl rfl (fun _ => B0 (A9 fun _ => rfl)) (fun _ => rfl) ?_
   intro g49
   refine W3 rfl rfl rfl (by simp) (by decide) rfl rfl rfl (of_decide_eq_true rfl) (fun _ => ⟨rfl, rfl⟩) (by simp only [H3]; (simp only [List.length_nil, List.length_cons, List.length_append, Nat.zero_add, List.length_map]; omega)) (fun _ => rfl) ?_
   intro g50
   refine C4 rfl rfl (of_decide_eq_true rfl) rfl rfl <| Q7 rfl rfl rfl rfl rfl (Nat.le_refl _) rfl ?_
   refine A5 ⟨nofun, _, kS [2,8,11,34,35] [2,8,6,1000050] rfl, ?_⟩
   refine A0 <| A6 rfl rfl <| A4 rfl rfl rfl ?_
   refine A5 ⟨nofun, _, kS [2,8,9,34,35] [2,8,6,1000050] rfl, ?_⟩
   refine A0 <| I0 rfl rfl (G9 (by omega)) <| A6 rfl rfl ?_
   refine A5 ⟨nofun, _, kS [2,8,9,34,35] [2,8,6,1000050] rfl, ?_⟩
   refine L7 <| A3 <| A0 <| J7 rfl rfl ?_
   refine A5 ⟨nofun, _, kS [2,8,9,34,35,36] [2,8,6,1000050] rfl, ?_⟩
   refine A3 ?_
   refine A8 rfl (fun hc => ?_) (fun hc => absurd hc (by decide))
   refine B3 <| A3 <| D3 <| A3 <| A0 <| A6 rfl rfl ?_
   rcases hr2 : rdT r1 with _ | ⟨k2, r2⟩
   ·skip
    apply D7 rfl
    ·apply B7
     ·exact B8 rfl
     exact D6
    ·exact (by have hi := ih r1 ⟨by have := X7 hr1; simp only [List.length_cons] at hws; omega, fun x hx => hws.2 x (List.mem_cons_of_mem _ (b1c hr1 x hx))⟩ (by have := X7 hr1; simp only [List.length_cons] at hkk; omega); rw [hr2] at hi; exact hi)
    ·exact ⟨rfl, rfl, rfl, of_decide_eq_true rfl, rfl⟩
    ·exact .inl rfl
    ·exact C1
    ·exact J5 (J3 rfl (R9 fun _ => J3 rfl R8))
    ·exact fun _ => D8 (B0 rfl) (by rfl)
    intro g39
    refine A6 rfl rfl <| B1 rfl rfl rfl <| B1 rfl rfl rfl <| B1 rfl rfl rfl <| H2 rfl (fun _ => B5 rfl) (fun _ => rfl) ?_
    intro g10
    refine B6 rfl rfl rfl rfl ⟨by decide, rfl, of_decide_eq_true rfl, of_decide_eq_true rfl, rfl⟩ rfl (by exact B5 rfl) ?_
    (refine B2 rfl rfl (by (simp; done)) rfl (fun _ => (B0 (by rfl))) (fun _ => rfl) ?_; intro g11)
    refine A4 rfl rfl rfl ?_
    refine A5 ⟨nofun, _, kS [2,8,10,11,12,34,35] [2,8,6,1000050,10] rfl, ?_⟩
    refine A3 <| A3 <| A0 <| A6 rfl rfl <| L3 rfl ?_
    refine A5 ⟨nofun, _, kS [2,8,10,11,34,35,44] [2,8,6,1000050,10] rfl, ?_⟩
    refine A8 rfl (fun hc => ?_) (fun hc => absurd hc (by decide))
    refine A3 <| A0 <| J2 (fs := [_, _, _]) rfl rfl rfl rfl rfl <| B6 rfl rfl rfl rfl ⟨by decide, rfl, of_decide_eq_true rfl, of_decide_eq_true rfl, rfl⟩ rfl (by exact B5 rfl) ?_
    (refine B9 rfl rfl (fun _ => rfl) ?_; intro g3)
    refine A4 rfl rfl rfl ?_
    refine A5 ⟨nofun, _, kS [2,3,4] [2,3] rfl, ?_⟩
    refine B4 <| C9 (F5 rfl rfl rfl rfl (E5 rfl (H0 rfl (H0 rfl H4))) (H1 rfl rfl (by simp) (by rfl) (D9 rfl rfl (E6 C3)))) ?_
    rw [a4j hnn hn, hr1, Option.bind_some, hr2]
    rfl
   skip
   apply D7 rfl
   ·apply B7
    ·exact B8 rfl
    exact D6
   ·exact (by have hi := ih r1 ⟨by have := X7 hr1; simp only [List.length_cons] at hws; omega, fun x hx => hws.2 x (List.mem_cons_of_mem _ (b1c hr1 x hx))⟩ (by have := X7 hr1; simp only [List.length_cons] at hkk; omega); rw [hr2] at hi; exact hi)
   ·exact ⟨rfl, rfl, rfl, of_decide_eq_true rfl, rfl⟩
   ·exact .inl rfl
   ·exact C1
   ·exact K5 rfl
   ·exact fun _ => rfl
   intro g39
   refine A6 rfl rfl <| B1 rfl rfl rfl <| B1 rfl rfl rfl <| B1 rfl rfl rfl <| H2 rfl (fun _ => B5 rfl) (fun _ => rfl) ?_
   intro g10
   refine B6 rfl rfl rfl rfl ⟨by decide, rfl, of_decide_eq_true rfl, of_decide_eq_true rfl, rfl⟩ rfl (by exact B5 rfl) <| A4 rfl rfl rfl <| A4 rfl rfl rfl ?_
   refine A5 ⟨nofun, _, kS [2,8,10,11,12,34,35] [2,8,6,1000050,10] rfl, ?_⟩
   refine A3 <| A3 <| A0 <| A6 rfl rfl <| L3 rfl ?_
   refine A5 ⟨nofun, _, kS [2,8,10,11,34,35,44] [2,8,6,1000050,10] rfl, ?_⟩
   refine A8 rfl (fun hc => absurd hc (by decide)) (fun hc => ?_)
   refine B3 <| A3 <| A0 <| C4 rfl rfl (of_decide_eq_true rfl) rfl rfl <| C5 rfl rfl rfl rfl rfl rfl <| F6 rfl rfl rfl rfl rfl <| E7 (es := List.map trV [_]) rfl rfl (of_decide_eq_true rfl) rfl rfl (fun _ => B0 (A9 fun _ => rfl)) (fun _ => rfl) ?_
   intro g49
   refine G8 rfl rfl rfl rfl (by (simp; done)) (by simp) (by decide) rfl rfl rfl rfl (of_decide_eq_true rfl) (fun _ => ⟨rfl, rfl⟩) (by simp only [H3]; (simp only [List.length_nil, List.length_cons, List.length_append, Nat.zero_add, List.length_map]; omega)) (fun _ => rfl) ?_
   intro g50
   refine C4 rfl rfl (of_decide_eq_true rfl) rfl rfl <| Q7 rfl rfl rfl rfl rfl (Nat.le_refl _) rfl ?_
   refine A5 ⟨nofun, _, kS [2,8,11,34,35] [2,8,6,1000050] rfl, ?_⟩
   refine A0 <| A6 rfl rfl <| A4 rfl rfl rfl ?_
   refine A5 ⟨nofun, _, kS [2,8,9,34,35] [2,8,6,1000050] rfl, ?_⟩
   refine A0 <| I0 rfl rfl (G9 (by omega)) <| A6 rfl rfl ?_
   refine A5 ⟨nofun, _, kS [2,8,9,34,35] [2,8,6,1000050] rfl, ?_⟩
   refine L7 <| A3 <| A0 <| J7 rfl rfl ?_
   refine A5 ⟨nofun, _, kS [2,8,9,34,35,36] [2,8,6,1000050] rfl, ?_⟩
   refine A3 ?_
   refine A8 rfl (fun hc => absurd hc (by decide)) (fun hc => ?_)
   refine H6 <| A3 <| A0 <| F6 rfl rfl rfl rfl rfl <| A6 rfl rfl <| K8 rfl rfl rfl rfl (L4 rfl (a1l (by decide) (b0o (by decide) (by decide) rfl (by simp) fun _ => V7))) (fun _ => rfl) ⟨by decide, rfl, of_decide_eq_true rfl, Nat.le_refl _⟩ (fun _ => rfl) (fun _ => rfl) (fun _ => D8 (by rfl) (D8 (B0 (A9 fun _ => rfl)) (by rfl))) ?_
   intro z
   simp only [P2, List.cons_append, List.nil_append]
   refine A4 rfl rfl rfl <| A4 rfl rfl rfl ?_
   refine A5 ⟨nofun, _, kS [2,3,4] [2,6,300002] rfl, ?_⟩
   refine B4 <| C9 (F5 rfl rfl rfl rfl (E5 rfl (b6h rfl rfl rfl (a2c rfl rfl (by simp) (fun _ => rfl) H4))) (D9 rfl rfl (D9 rfl rfl (E6 C3)))) ?_
   rw [a4j hnn hn, hr1, Option.bind_some, hr2]
   rfl
  skip
  apply D7 rfl
  ·apply B7
   ·exact B8 rfl
   exact D6
  ·exact (show CW (cxT rG) 63 [tV w] = some (.tup [tV w, .own 1 [], bV false], []) from by have hi := Z9 (rG := rG) w (by omega); rw [hnn] at hi; rw [show decide (0 ≤ rch (bA w)) = false from decide_eq_false (by omega)] at hi; exact hi)
  ·exact ⟨rfl, rfl, rfl, of_decide_eq_true rfl, rfl⟩
  ·exact .inr ⟨rfl, rfl⟩
  ·exact C1
  ·exact J5 (J3 rfl (R9 fun _ => J3 rfl R8))
  ·exact fun _ => D8 (B0 rfl) (by rfl)
  intro g21
  try simp only [List.length_map]
  refine A6 rfl rfl <| B1 rfl rfl rfl <| B1 rfl rfl rfl <| B1 rfl rfl rfl <| A4 rfl rfl rfl ?_
  (refine B2 rfl rfl (by (simp; done)) rfl (fun _ => (B0 (by rfl))) (fun _ => rfl) ?_; intro g6)
  refine A4 rfl rfl rfl ?_
  refine A5 ⟨nofun, _, kS [0,2,5,6,7] [2,6] rfl, ?_⟩
  refine A3 <| A3 <| A0 <| A6 rfl rfl <| L3 rfl ?_
  refine A5 ⟨nofun, _, kS [0,2,5,6,26] [2,6] rfl, ?_⟩
  refine A8 rfl (fun hc => ?_) (fun hc => absurd hc (by decide))
  refine A3 <| A0 <| J2 (fs := [_, _, _]) rfl rfl rfl rfl rfl <| B6 rfl rfl rfl rfl ⟨by decide, rfl, of_decide_eq_true rfl, of_decide_eq_true rfl, rfl⟩ rfl (by exact B5 rfl) ?_
  (refine B9 rfl rfl (fun _ => rfl) ?_; intro g3)
  refine A4 rfl rfl rfl ?_
  refine A5 ⟨nofun, _, kS [2,3,4] [2,3] rfl, ?_⟩
  refine B4 <| C9 (F5 rfl rfl rfl rfl (E5 rfl (H0 rfl (H0 rfl H4))) (H1 rfl rfl (by simp) (by rfl) (D9 rfl rfl (E6 C3)))) ?_
  rw [c5i hnn hn]
  rfl

theorem keep_s_readPlanI : G7 Tryd.f40 = [0, 2, 3, 4, 6, 7, 5, 12] := by kernel_rfl
set_option maxHeartbeats 20000000 in
theorem c1z (s : List UInt8) (hs : s.length ≤ 1048576) : CW (cxT rG) 40 [tV s] = some (.tup [trV (ipT s), bV (c4t s)], []) := by
 obtain ⟨ws, hws⟩ : ∃ ws, ws = splitB 32 s := ⟨_, rfl⟩
 have hwl := S2 32 s
 have hwp := T3 32 s
 rw [← hws] at hwl hwp
 refine F8 rfl Tryd.func40 rfl ⟨by kernel_rfl, rfl, of_decide_eq_true rfl, of_decide_eq_true rfl, by decide⟩ keep_s_readPlanI <| A3 <| A0 <| H2 rfl (fun _ => B5 rfl) (fun _ => rfl) ?_
 intro g2
 refine A4 rfl rfl rfl ?_
 refine A5 ⟨nofun, _, kS [0,2] [2] rfl, ?_⟩
 refine A3 <| A0 <| A6 rfl rfl ?_
 apply D7 rfl
 ·apply B7
  ·exact B8 rfl
  apply B7
  ·exact B8 rfl
  exact D6
 ·exact b6p s 32 (by omega)
 ·exact ⟨rfl, rfl, rfl, of_decide_eq_true rfl, rfl⟩
 ·exact .inl rfl
 ·exact C1
 ·exact N9
 ·exact fun _ => rfl
 intro g9
 rw [← hws]
 try simp only [List.length_map]
 (refine B2 rfl rfl (by (simp; done)) rfl (fun _ => (B0 (by exact A9 fun _ => rfl))) (fun _ => rfl) ?_; intro g4)
 refine A5 ⟨nofun, _, kS [2,4] [2,4] rfl, ?_⟩
 refine A3 <| A0 <| A6 rfl rfl ?_
 rcases hr : rdT ws with _ | ⟨t, r⟩
 ·skip
  apply D7 rfl
  ·apply B7
   ·exact a0j rfl rfl (by (simp; done)) (fun _ => rfl)
   exact D6
  ·exact (by have hi := a9x (rG := rG) ws ⟨by omega, fun w hw => by have := hwp w hw; omega⟩; rw [hr] at hi; exact hi)
  ·exact ⟨rfl, rfl, rfl, of_decide_eq_true rfl, rfl⟩
  ·exact .inl rfl
  ·exact C1
  ·exact J5 (J3 rfl (R9 fun _ => J3 rfl R8))
  ·exact fun _ => D8 (Z3 (A9 fun _ => rfl) (by decide)) (by rfl)
  intro g12
  refine A6 rfl rfl <| B1 rfl rfl rfl <| B1 rfl rfl rfl <| B1 rfl rfl rfl <| H2 rfl (fun _ => B5 rfl) (fun _ => rfl) ?_
  intro g5
  refine B6 rfl rfl rfl rfl ⟨by decide, rfl, of_decide_eq_true rfl, of_decide_eq_true rfl, rfl⟩ rfl (by exact B5 rfl) ?_
  (refine B2 rfl rfl (by (simp; done)) rfl (fun _ => (B0 (by rfl))) (fun _ => rfl) ?_; intro g6)
  refine A4 rfl rfl rfl ?_
  refine A5 ⟨nofun, _, kS [2,4,5,6,7] [2,4,5] rfl, ?_⟩
  refine A3 <| A0 <| F6 rfl rfl rfl rfl rfl <| A6 rfl rfl <| A6 rfl rfl <| H5 rfl rfl rfl <| H5 rfl rfl rfl <| H5 rfl rfl rfl <| G0 rfl rfl rfl rfl <| A6 rfl rfl <| H5 rfl rfl rfl <| H5 rfl rfl rfl <| H5 rfl rfl rfl <| G0 rfl rfl rfl rfl <| B6 rfl rfl rfl rfl ⟨by decide, rfl, of_decide_eq_true rfl, of_decide_eq_true rfl, rfl⟩ rfl (by exact B5 rfl) <| A4 rfl rfl rfl ?_
  refine A5 ⟨nofun, _, kS [2,3] [2] rfl, ?_⟩
  refine B4 <| C9 (F5 rfl rfl rfl rfl (E5 rfl (E5 rfl (E5 rfl H4))) (D9 rfl rfl (E6 C3))) ?_
  obtain ⟨h1, h2⟩ := d3b hws hr
  rw [h1, h2]
  rfl
 skip
 apply D7 rfl
 ·apply B7
  ·exact a0j rfl rfl (by (simp; done)) (fun _ => rfl)
  exact D6
 ·exact (by have hi := a9x (rG := rG) ws ⟨by omega, fun w hw => by have := hwp w hw; omega⟩; rw [hr] at hi; exact hi)
 ·exact ⟨rfl, rfl, rfl, of_decide_eq_true rfl, rfl⟩
 ·exact .inl rfl
 ·exact C1
 ·exact K5 rfl
 ·exact fun _ => D8 (Z3 (A9 fun _ => rfl) (by decide)) (by rfl)
 intro g12
 refine A6 rfl rfl <| B1 rfl rfl rfl <| B1 rfl rfl rfl <| B1 rfl rfl rfl <| H2 rfl (fun _ => B5 rfl) (fun _ => rfl) ?_
 intro g5
 refine B6 rfl rfl rfl rfl ⟨by decide, rfl, of_decide_eq_true rfl, of_decide_eq_true rfl, rfl⟩ rfl (by exact B5 rfl) <| A4 rfl rfl rfl <| A4 rfl rfl rfl ?_
 refine A5 ⟨nofun, _, kS [2,4,5,6,7] [2,4,5] rfl, ?_⟩
 refine A3 <| A0 <| F6 rfl rfl rfl rfl rfl <| A6 rfl rfl <| A6 rfl rfl <| K0 rfl rfl rfl <| A6 rfl rfl <| K0 rfl rfl rfl <| I1 rfl rfl <| K0 rfl rfl rfl <| a4w rfl rfl <| G1 rfl rfl rfl rfl <| A6 rfl rfl ?_
 refine E4 rfl rfl (fun hg0 => ?_) (fun hg0 => ?_)
 ·have hg := hg0; try simp only [SG] at hg
  refine A6 rfl rfl <| gT rfl rfl <| O9 rfl rfl <| gT rfl rfl <| a9l rfl rfl <| G1 rfl (by assumption) rfl rfl <| B6 rfl rfl rfl rfl ⟨by decide, rfl, of_decide_eq_true rfl, of_decide_eq_true rfl, rfl⟩ rfl (by exact B5 rfl) <| A4 rfl rfl rfl ?_
  refine A5 ⟨nofun, _, kS [2,3] [2] rfl, ?_⟩
  refine B4 <| C9 (F5 rfl rfl rfl rfl (E5 rfl (E5 rfl (E5 rfl H4))) (D9 rfl rfl (E6 C3))) ?_
  obtain ⟨h1, h2⟩ := c5h hws hr
  rw [h1, h2]
  simp_all
  try rfl
 have hg := hg0; try simp only [SG] at hg
 refine gF rfl rfl <| gF rfl rfl <| G0 rfl (by assumption) rfl rfl <| B6 rfl rfl rfl rfl ⟨by decide, rfl, of_decide_eq_true rfl, of_decide_eq_true rfl, rfl⟩ rfl (by exact B5 rfl) <| A4 rfl rfl rfl ?_
 refine A5 ⟨nofun, _, kS [2,3] [2] rfl, ?_⟩
 refine B4 <| C9 (F5 rfl rfl rfl rfl (E5 rfl (E5 rfl (E5 rfl H4))) (D9 rfl rfl (E6 C3))) ?_
 obtain ⟨h1, h2⟩ := c5h hws hr
 rw [h1, h2]
 simp_all
 try rfl

theorem keep_s_validPlan : G7 Tryd.f24 = [0, 2, 3, 5, 4, 8] := by kernel_rfl
set_option maxHeartbeats 20000000 in
theorem b9t (s : List UInt8) (hs : s.length ≤ 1048576) : CW (cxT rG) 24 [tV s] = some (.tup [trV (ipT s), bV (rdPlan s).isSome], []) := by
 have hip := d6l s
 refine F8 rfl Tryd.func24 rfl ⟨by kernel_rfl, rfl, of_decide_eq_true rfl, of_decide_eq_true rfl, by decide⟩ keep_s_validPlan <| A3 <| A0 <| H2 rfl (fun _ => B5 rfl) (fun _ => rfl) ?_
 intro g2
 refine A4 rfl rfl rfl ?_
 refine A5 ⟨nofun, _, kS [0,2] [2] rfl, ?_⟩
 refine A3 <| A0 <| A6 rfl rfl ?_
 apply D7 rfl
 ·apply B7
  ·exact B8 rfl
  exact D6
 ·exact c1z s hs
 ·exact ⟨rfl, rfl, rfl, of_decide_eq_true rfl, rfl⟩
 ·exact .inl rfl
 ·exact C1
 ·exact K5 rfl
 ·exact fun _ => rfl
 intro g8
 refine A6 rfl rfl <| B1 rfl rfl rfl <| B1 rfl rfl rfl <| H2 rfl (fun _ => B5 rfl) (fun _ => rfl) ?_
 intro g4
 refine B6 rfl rfl rfl rfl ⟨by decide, rfl, of_decide_eq_true rfl, of_decide_eq_true rfl, rfl⟩ rfl (by exact B5 rfl) <| A4 rfl rfl rfl ?_
 refine A5 ⟨nofun, _, kS [0,2,4,5] [2,4] rfl, ?_⟩
 refine A3 <| A0 <| F6 rfl rfl rfl rfl rfl <| A6 rfl rfl <| A6 rfl rfl ?_
 refine E4 rfl rfl (fun hg0 => ?_) (fun hg0 => ?_)
 ·have hg := hg0; try simp only [SG] at hg
  refine A6 rfl rfl <| gT rfl rfl <| a3r rfl rfl <| gT rfl rfl <| a9l rfl rfl <| G1 rfl (by assumption) rfl rfl <| B6 rfl rfl rfl rfl ⟨by decide, rfl, of_decide_eq_true rfl, of_decide_eq_true rfl, rfl⟩ rfl (by exact B5 rfl) <| A4 rfl rfl rfl ?_
  refine A5 ⟨nofun, _, kS [2,3] [2] rfl, ?_⟩
  refine B4 <| C9 (F5 rfl rfl rfl rfl (E5 rfl (E5 rfl (E5 rfl H4))) (D9 rfl rfl (E6 C3))) ?_
  rw [← hip]
  simp_all
  try rfl
 have hg := hg0; try simp only [SG] at hg
 refine gF rfl rfl <| gF rfl rfl <| G0 rfl (by assumption) rfl rfl <| B6 rfl rfl rfl rfl ⟨by decide, rfl, of_decide_eq_true rfl, of_decide_eq_true rfl, rfl⟩ rfl (by exact B5 rfl) <| A4 rfl rfl rfl ?_
 refine A5 ⟨nofun, _, kS [2,3] [2] rfl, ?_⟩
 refine B4 <| C9 (F5 rfl rfl rfl rfl (E5 rfl (E5 rfl (E5 rfl H4))) (D9 rfl rfl (E6 C3))) ?_
 rw [← hip]
 simp_all
 try rfl

theorem keep_s_ValidPlanI : G7 Tryd.f10 = [0, 2, 4, 7] := by kernel_rfl
set_option maxHeartbeats 20000000 in
theorem b8c (s : List UInt8) (hs : s.length ≤ 1048576) : CW (cxT rG) 10 [tV s] = some (bV (rdPlan s).isSome, []) := by
 refine F8 rfl Tryd.func10 rfl ⟨by kernel_rfl, rfl, of_decide_eq_true rfl, of_decide_eq_true rfl, by decide⟩ keep_s_ValidPlanI <| A3 <| A0 <| A4 rfl rfl rfl ?_
 refine A5 ⟨nofun, _, kS [0] [] rfl, ?_⟩
 refine A3 <| A0 <| A6 rfl rfl ?_
 apply D7 rfl
 ·apply B7
  ·exact B8 rfl
  exact D6
 ·exact b9t s hs
 ·exact ⟨rfl, rfl, rfl, of_decide_eq_true rfl, rfl⟩
 ·exact .inl rfl
 ·exact C1
 ·exact K5 rfl
 ·exact fun _ => rfl
 intro g7
 refine A6 rfl rfl <| B1 rfl rfl rfl <| B1 rfl rfl rfl <| H2 rfl (fun _ => B5 rfl) (fun _ => rfl) ?_
 intro g3
 refine B6 rfl rfl rfl rfl ⟨by decide, rfl, of_decide_eq_true rfl, of_decide_eq_true rfl, rfl⟩ rfl (by exact B5 rfl) <| A4 rfl rfl rfl ?_
 refine A5 ⟨nofun, _, kS [4] [] rfl, ?_⟩
 refine A3 <| A0 <| A6 rfl rfl <| A4 rfl rfl rfl ?_
 refine A5 ⟨nofun, _, kS [2] [] rfl, ?_⟩
 refine B4 <| C7 rfl rfl trivial ?_
 rfl

theorem keep_s_ClipT : G7 Tryd.f28 = [0, 2] := by kernel_rfl
set_option maxHeartbeats 20000000 in
theorem d3e (xs : List W8) (hx : xs.length ≤ H3) : CW (cxT rG) 28 [.own 1 (xs.map tV)] = some (.own 1 (xs.map tV), []) := by
 refine F8 rfl Tryd.func28 rfl ⟨by kernel_rfl, rfl, of_decide_eq_true rfl, of_decide_eq_true rfl, by decide⟩ keep_s_ClipT <| A3 <| A0 ?_
 (refine B9 rfl rfl (fun _ => rfl) ?_; intro g2)
 refine A5 ⟨nofun, _, kS [0] [0] rfl, ?_⟩
 refine A3 <| A0 <| A6 rfl rfl <| A6 rfl rfl <| O9 rfl rfl <| A6 rfl rfl <| O9 rfl rfl ?_
 refine d5u rfl rfl rfl rfl rfl rfl (fun hz => ?_) (fun hz => ?_)
 ·skip
  (refine B9 rfl rfl (fun _ => rfl) ?_; intro g2)
  refine A5 ⟨nofun, _, kS [2] [0,2] rfl, ?_⟩
  refine B4 <| S1 rfl rfl (by (simp; done)) (by rfl) trivial ?_
  (have h0 : xs = [] := (by simpa using hz); subst h0; rfl)
 skip
 (refine B2 rfl rfl (by (simp; done)) rfl (fun _ => (B0 (by exact A9 fun _ => rfl))) (fun _ => rfl) ?_; intro g2)
 refine A5 ⟨nofun, _, kS [2] [0,2] rfl, ?_⟩
 refine B4 <| S1 rfl rfl (by (simp; done)) (by exact A9 fun _ => rfl) trivial ?_
 rfl

theorem keep_s_markTextT : G7 Tryd.f30 = [0, 2, 5, 7, 3] := by kernel_rfl
set_option maxHeartbeats 20000000 in
theorem a9c (k : Int) (hk : k ≤ 1000000) : CW (cxT rG) 30 [iV k] = some (tV (mT k), []) := by
 refine F8 rfl Tryd.func30 rfl ⟨by kernel_rfl, rfl, of_decide_eq_true rfl, of_decide_eq_true rfl, by decide⟩ keep_s_markTextT <| A3 <| A0 <| A4 rfl rfl rfl ?_
 refine A5 ⟨nofun, _, kS [0] [] rfl, ?_⟩
 refine A3 <| A3 <| A0 <| A6 rfl rfl <| a9l rfl rfl ?_
 refine A5 ⟨nofun, _, kS [0,5] [] rfl, ?_⟩
 refine A8 rfl (fun hc => ?_) (fun hc => ?_)
 ·try simp only [SG, List.length_map] at hc
  refine A3 <| A0 <| A4 rfl rfl rfl ?_
  refine A5 ⟨nofun, _, kS [2] [] rfl, ?_⟩
  refine B4 <| C7 rfl rfl trivial ?_
  rw [mT, if_pos (by omega)]
  rfl
 try simp only [SG, List.length_map] at hc
 refine B3 <| A3 <| A0 <| A4 rfl rfl rfl ?_
 refine A5 ⟨nofun, _, kS [0,3] [] rfl, ?_⟩
 refine A3 <| D3 <| c5z (β := Int × List UInt8) (fun (z : Int × List UInt8) => match z with | (q, s) => [(.t 0, iV q), (.t 3, tV s)]) (fun (z : Int × List UInt8) => match z with | (q, s) => 0 ≤ q ∧ q + s.length ≤ 1000001 ∧ mkS k q s) (fun (z : Int × List UInt8) => match z with | (q, s) => q.toNat) (k, []) ⟨rfl, rfl, trivial⟩ ⟨by omega, by show k + ((0 : Nat) : Int) ≤ _; omega, by rw [mkS, if_neg (by omega), List.append_nil]⟩ ?_
 intro z hb
 obtain ⟨q, s⟩ := z
 try dsimp only at hb
 obtain ⟨hq0, hq, hmk⟩ := hb
 refine A3 <| A3 <| A0 <| A6 rfl rfl <| X6 rfl rfl ?_
 refine A5 ⟨nofun, _, kS [0,3,7] [] rfl, ?_⟩
 refine A8 rfl (fun hc => ?_) (fun hc => ?_)
 ·try simp only [SG, List.length_map] at hc
  refine B3 <| D3 <| A3 <| A0 <| A6 rfl rfl ?_
  have hm1 : 0 ≤ q.tmod 10 ∧ q.tmod 10 < 10 := ⟨Int.tmod_nonneg _ (by omega), Int.tmod_lt_of_pos _ (by decide)⟩
  have hd1 : q.tdiv 10 = q / 10 := Int.tdiv_eq_ediv_of_nonneg (by omega)
  refine d4b rfl rfl (by omega) <| I0 rfl rfl (G9 (by omega)) ?_
  refine b6n rfl rfl rfl (by constructor <;> simp [IntKind.min, IntKind.max, IntKind.signed, IntKind.bits] <;> omega) ?_
  refine E7 (es := List.map uV [_]) rfl rfl (of_decide_eq_true rfl) rfl rfl (fun _ => B0 (A9 fun _ => rfl)) (fun _ => rfl) ?_
  intro g12
  refine d2m rfl rfl rfl rfl rfl rfl (by simp) (d5f (by omega)) <| A6 rfl rfl <| Q3 rfl rfl (by simp only [H3, List.length_append, List.length_cons, List.length_nil]; omega) <| A4 rfl rfl rfl ?_
  refine A5 ⟨nofun, _, kS [0,3] [] rfl, ?_⟩
  refine A0 <| A6 rfl rfl <| d4c rfl rfl ⟨by omega, G9 (by omega)⟩ <| A4 rfl rfl rfl ?_
  refine A5 ⟨nofun, _, kS [0,3] [] rfl, ?_⟩
  refine ⟨(q.tdiv 10, _), ⟨by omega, by simp only [List.length_append, List.length_cons, List.length_nil]; omega, d1s hmk (by omega)⟩, (by simp only; omega), ⟨rfl, rfl, trivial⟩⟩
 try simp only [SG, List.length_map] at hc
 refine H6 <| A3 <| A0 <| A6 rfl rfl <| Q3 rfl rfl (by simp only [H3, List.length_append, List.length_cons, List.length_nil]; omega) <| A4 rfl rfl rfl ?_
 refine A5 ⟨nofun, _, kS [2] [] rfl, ?_⟩
 refine B4 <| C7 rfl rfl trivial ?_
 rw [← d2j hmk (by omega) (by omega)]
 rfl

theorem keep_s_eqStringS : G7 Tryd.f15 = [0, 1, 4, 10, 5, 14, 25] := by kernel_rfl
set_option maxHeartbeats 20000000 in
theorem a9u (cs : List W8) (hl : cs.length ≤ 100) : CW (cxT rG) 15 [.list (cs.map tV), .list (cs.map tV)] = some (bV true, []) := by
 refine F8 rfl Tryd.func15 rfl ⟨by kernel_rfl, rfl, of_decide_eq_true rfl, of_decide_eq_true rfl, by decide⟩ keep_s_eqStringS <| A3 <| A0 <| A4 rfl rfl rfl ?_
 refine A5 ⟨nofun, _, kS [0,1] [] rfl, ?_⟩
 refine A3 <| A3 <| A0 <| A6 rfl rfl <| I1 rfl rfl <| A6 rfl rfl <| I1 rfl rfl <| b3u rfl rfl ?_
 refine A5 ⟨nofun, _, kS [0,1,10] [] rfl, ?_⟩
 refine A8 rfl (fun hc => ?_) (fun hc => ?_)
 ·try simp only [SD] at hc
  exact absurd trivial hc
 try simp only [SG, List.length_map] at hc
 refine B3 <| A3 <| A3 <| A0 <| A4 rfl rfl rfl ?_
 refine A5 ⟨nofun, _, kS [0,1,5] [] rfl, ?_⟩
 refine D3 <| I5 (β := Nat) [(.t 0, _), (.t 1, _)] (fun (i : Nat) => [(.t 5, iV i)]) (fun (i : Nat) => i ≤ cs.length) (fun (i : Nat) => cs.length - i) 0 ⟨rfl, rfl, rfl, trivial⟩ (Nat.zero_le _) ?_
 intro i hb
 have hi1 := hb
 refine A3 <| A3 <| A0 <| A6 rfl rfl <| A6 rfl rfl <| I1 rfl rfl <| J7 rfl rfl ?_
 refine A5 ⟨nofun, _, kS [0,1,5,14] [] rfl, ?_⟩
 refine A8 rfl (fun hc => ?_) (fun hc => ?_)
 ·try simp only [SG, List.length_map] at hc
  refine B3 <| A3 <| D3 <| A3 <| A0 <| A6 rfl rfl <| A6 rfl rfl <| G5 rfl rfl rfl (fun _ => rfl) (by omega) <| G2 rfl rfl rfl <| A6 rfl rfl <| A6 rfl rfl <| G5 rfl rfl rfl (fun _ => rfl) (by omega) <| G2 rfl rfl rfl <| a9f rfl rfl ?_
  refine A5 ⟨fun _ => ⟨by decide +kernel, by decide +kernel⟩, [(.t 0, _), (.t 1, _), (.t 5, _), (.t 25, _)], ⟨rfl, rfl, rfl, rfl, rfl, rfl, rfl, rfl, trivial⟩, ?_⟩
  refine A8 rfl (fun hc => ?_) (fun hc => ?_)
  ·try simp only [SD] at hc
   exact absurd trivial hc
  try simp only [SG, List.length_map] at hc
  refine B3 <| A0 <| A6 rfl rfl <| I0 rfl rfl (G9 (by omega)) <| A4 rfl rfl rfl ?_
  refine A5 ⟨nofun, _, kS [0,1,5] [] rfl, ?_⟩
  refine ⟨i + 1, (by omega), (by omega), ⟨rfl, rfl, rfl, trivial⟩⟩
 try simp only [SG, List.length_map] at hc
 refine H6 <| A3 <| A0 <| A4 rfl rfl rfl ?_
 refine A5 ⟨nofun, _, kS [4] [] rfl, ?_⟩
 refine B4 <| C7 rfl rfl trivial ?_
 rfl

theorem keep_s_markStringS : G7 Tryd.f16 = [0, 1, 4, 5, 9, 15] := by kernel_rfl
set_option maxHeartbeats 20000000 in
theorem b4i (cs : List W8) (hl : cs.length ≤ 100) (k : Int) (hk : 0 ≤ k ∧ k ≤ 1000) : ∃ res outs, (fun res outs => res = iV (k + cs.length) ∧ outs = [(mkT k cs.length).map tV]) res outs ∧ CW (cxT rG) 16 [.own 1 (cs.map tV), iV k] = some (res, outs) := by
 refine b6e rfl Tryd.func16 rfl ⟨by kernel_rfl, rfl, of_decide_eq_true rfl, of_decide_eq_true rfl, by decide⟩ keep_s_markStringS <| A3 <| A0 <| A4 rfl rfl rfl ?_
 refine A5 ⟨nofun, _, kS [0,1] [0] rfl, ?_⟩
 refine A3 <| A3 <| A0 <| A4 rfl rfl rfl ?_
 refine A5 ⟨nofun, _, kS [0,1,5] [0] rfl, ?_⟩
 refine D3 <| I5 (β := Nat × List W8 × Int) [(.t 0, _)] (fun (z : Nat × List W8 × Int) => match z with | (i, ys, q) => [(.t 5, iV i), (.t 1, iV q), (.h 0, .obj 1 1 1 (ys.map tV))]) (fun (z : Nat × List W8 × Int) => match z with | (i, ys, q) => i ≤ cs.length ∧ ys.length = cs.length ∧ q = k + i ∧ ∀ j, j < i → ys.getD j default = mT (k + j)) (fun (z : Nat × List W8 × Int) => match z with | (i, ys, q) => cs.length - i) (0, cs, k) ⟨rfl, rfl, rfl, rfl, trivial⟩ ⟨Nat.zero_le _, rfl, by simp, fun j h => by omega⟩ ?_
 intro z hb
 obtain ⟨i, ys, q⟩ := z
 try dsimp only at hb
 obtain ⟨hi1, hi2, hq, hi3⟩ := hb
 refine A3 <| A3 <| A0 <| A6 rfl rfl <| A6 rfl rfl <| O9 rfl rfl <| J7 rfl rfl ?_
 refine A5 ⟨nofun, _, kS [0,1,5,9] [0] rfl, ?_⟩
 refine A8 rfl (fun hc => ?_) (fun hc => ?_)
 ·try simp only [SG, List.length_map] at hc
  refine B3 <| A3 <| D3 <| A3 <| A0 <| A6 rfl rfl <| A6 rfl rfl <| A6 rfl rfl ?_
  apply D7 rfl
  ·apply B7
   ·exact B8 rfl
   exact D6
  ·exact a9c q (by omega)
  ·exact ⟨rfl, rfl, rfl, of_decide_eq_true rfl, rfl⟩
  ·exact .inl rfl
  ·exact C1
  ·exact E3 rfl
  ·exact fun _ => rfl
  intro g15
  refine I3 rfl rfl rfl rfl (by (simp; omega)) (by (simp; omega)) rfl <| a1t rfl rfl rfl (by omega) (fun _ _ => ⟨rfl, rfl, of_decide_eq_true rfl, of_decide_eq_true rfl, rfl, rfl⟩) (by decide) (by exact c6l (A9 fun _ => rfl)) ?_
  refine A5 ⟨nofun, _, kS [0,1,5] [0] rfl, ?_⟩
  refine A0 <| A6 rfl rfl <| I0 rfl rfl (G9 (by omega)) <| A4 rfl rfl rfl ?_
  refine A5 ⟨nofun, _, kS [0,1,5] [0] rfl, ?_⟩
  refine A0 <| A6 rfl rfl <| I0 rfl rfl (G9 (by omega)) <| A4 rfl rfl rfl ?_
  refine A5 ⟨nofun, _, kS [0,1,5] [0] rfl, ?_⟩
  refine ⟨(i + 1, ys.set i (mT q), q + 1), ⟨by omega, by simp [hi2], by omega, fun j hj => by rw [c7e (by omega)]; by_cases e : j = i; (· rw [if_pos e, e, hq]); (· rw [if_neg e]; exact hi3 j (by omega))⟩, (by simp only; omega), ⟨rfl, rfl, rfl, rfl, trivial⟩⟩
 try simp only [SG, List.length_map] at hc
 refine H6 <| A3 <| A0 <| A6 rfl rfl <| A4 rfl rfl rfl ?_
 refine A5 ⟨nofun, _, kS [4] [0] rfl, ?_⟩
 refine B4 ?_
 refine ⟨_, _, ?_, b1d rfl rfl (d1p rfl (a5y fun _ => rfl))⟩
 exact ⟨by rw [show q = k + (cs.length : Int) by omega], by rw [c6n (xs := ys) (ys := mkT k cs.length) (by simp [hi2, a5r]) fun j hj => by rw [hi3 j (by omega), c1o (by omega)]]⟩

theorem keep_s_heldStringS : G7 Tryd.f17 = [0, 1, 4, 5, 9, 18] := by kernel_rfl
set_option maxHeartbeats 20000000 in
theorem a5a (n : Nat) (hl : n ≤ 100) (k : Int) (hk : 0 ≤ k ∧ k ≤ 1000) : CW (cxT rG) 17 [.list ((mkT k n).map tV), iV k] = some (iV (k + n), []) := by
 have hml := a5r k n
 refine F8 rfl Tryd.func17 rfl ⟨by kernel_rfl, rfl, of_decide_eq_true rfl, of_decide_eq_true rfl, by decide⟩ keep_s_heldStringS <| A3 <| A0 <| A4 rfl rfl rfl ?_
 refine A5 ⟨nofun, _, kS [0,1] [] rfl, ?_⟩
 refine A3 <| A3 <| A0 <| A4 rfl rfl rfl ?_
 refine A5 ⟨nofun, _, kS [0,1,5] [] rfl, ?_⟩
 refine D3 <| I5 (β := Nat × Int) [(.t 0, _)] (fun (z : Nat × Int) => match z with | (i, q) => [(.t 5, iV i), (.t 1, iV q)]) (fun (z : Nat × Int) => match z with | (i, q) => i ≤ n ∧ q = k + i) (fun (z : Nat × Int) => match z with | (i, q) => n - i) (0, k) ⟨rfl, rfl, rfl, trivial⟩ ⟨Nat.zero_le _, by simp⟩ ?_
 intro z hb
 obtain ⟨i, q⟩ := z
 try dsimp only at hb
 obtain ⟨hi1, hq⟩ := hb
 have hgi : i < n → (mkT k n).getD i default = mT q := fun h => by rw [hq]; exact c1o (k := k) h
 refine A3 <| A3 <| A0 <| A6 rfl rfl <| A6 rfl rfl <| I1 rfl rfl <| J7 rfl rfl ?_
 refine A5 ⟨nofun, _, kS [0,1,5,9] [] rfl, ?_⟩
 refine A8 rfl (fun hc => ?_) (fun hc => ?_)
 ·try simp only [SG, List.length_map] at hc
  refine B3 <| A3 <| D3 <| A3 <| A3 <| A0 <| A6 rfl rfl <| A6 rfl rfl <| G5 rfl rfl rfl (fun _ => rfl) (by omega) <| G2 rfl rfl rfl <| A6 rfl rfl ?_
  apply D7 rfl
  ·apply B7
   ·exact B8 rfl
   exact D6
  ·exact a9c q (by omega)
  ·exact ⟨rfl, rfl, rfl, of_decide_eq_true rfl, rfl⟩
  ·exact .inl rfl
  ·exact C1
  ·exact E3 rfl
  ·exact fun _ => rfl
  intro g17
  refine a9f rfl rfl ?_
  refine A5 ⟨fun _ => ⟨by (simp only [a1z, List.nil_append, List.append_nil, List.map_cons, List.map_nil, List.cons_append]; decide +kernel), by decide +kernel⟩, [(.t 0, _), (.t 1, _), (.t 5, _), (.t 18, _)], ⟨rfl, rfl, rfl, rfl, rfl, rfl, rfl, rfl, trivial⟩, ?_⟩
  refine A8 rfl (fun hc => ?_) (fun hc => ?_)
  ·try simp only [SD] at hc
   exact absurd (by (rw [hgi (by omega)]; done)) hc
  try simp only [SG, List.length_map] at hc
  refine B3 <| A0 <| A6 rfl rfl <| I0 rfl rfl (G9 (by omega)) <| A4 rfl rfl rfl ?_
  refine A5 ⟨nofun, _, kS [0,1,5] [] rfl, ?_⟩
  refine A0 <| A6 rfl rfl <| I0 rfl rfl (G9 (by omega)) <| A4 rfl rfl rfl ?_
  refine A5 ⟨nofun, _, kS [0,1,5] [] rfl, ?_⟩
  refine ⟨(i + 1, q + 1), ⟨by omega, by omega⟩, (by simp only; omega), ⟨rfl, rfl, rfl, trivial⟩⟩
 try simp only [SG, List.length_map] at hc
 refine H6 <| A3 <| A0 <| A6 rfl rfl <| A4 rfl rfl rfl ?_
 refine A5 ⟨nofun, _, kS [4] [] rfl, ?_⟩
 refine B4 <| C7 rfl rfl trivial ?_
 rw [show q = k + (n : Int) by omega]

theorem keep_s_showTree : G7 Tryd.f31 = [0, 2, 1, 7, 4, 19, 3] := by kernel_rfl
set_option maxHeartbeats 20000000 in
theorem c3m (t : Pl) (hln : (showP t).length ≤ 1048576) (hgd : t.good) : CW (cxT rG) 31 [trK t] = some (tV (showP t), []) := by
 obtain ⟨kk, hkk⟩ : ∃ kk : Nat, t.sz < kk := ⟨_, Nat.lt_succ_self _⟩
 revert t
 induction kk with
 | zero => intro t hln hgd hkk; exact absurd hkk (Nat.not_lt_zero _)
 | succ kk ih =>
  intro t hln hgd hkk
  have hkl := b3h t
  have hkz := fun i => c4a (t := t) (i := i)
  have hkg := fun i => a6z hgd (i := i)
  have hst := fun i h => c2t (t := t) h (i := i)
  have hall := fun h => b5o (t := t) h
  refine F8 rfl Tryd.func31 rfl ⟨by kernel_rfl, rfl, of_decide_eq_true rfl, of_decide_eq_true rfl, by decide⟩ keep_s_showTree <| A3 <| A0 <| c0e rfl rfl rfl (fun _ => B5 rfl) (fun _ => rfl) ?_
  intro g1
  refine A4 rfl rfl rfl ?_
  refine A5 ⟨nofun, _, kS [1] [1] rfl, ?_⟩
  refine A3 <| A3 <| A0 <| C4 rfl rfl (of_decide_eq_true rfl) rfl rfl <| C5 rfl rfl rfl rfl rfl rfl <| Y5 rfl rfl ?_
  refine A5 ⟨nofun, _, kS [1,7] [1] rfl, ?_⟩
  refine A8 rfl (fun hc => ?_) (fun hc => ?_)
  ·try simp only [SG, List.length_map] at hc
   obtain ⟨ns, rfl, hv⟩ := c7o hgd (by assumption)
   have hl := c9f hv
   have hnb := d4i hv
   have hll := a4g hnb
   refine A3 <| A0 <| C4 rfl rfl (of_decide_eq_true rfl) rfl rfl <| C5 rfl rfl rfl rfl rfl rfl ?_
   apply D7 rfl
   ·apply B7
    ·exact B8 rfl
    exact D6
   ·exact c4n ns (by omega) hnb
   ·exact ⟨rfl, rfl, rfl, of_decide_eq_true rfl, rfl⟩
   ·exact .inl rfl
   ·exact C1
   ·exact E3 rfl
   ·exact fun _ => rfl
   intro g10
   refine Q3 rfl rfl (by simp only [H3, List.length_append, List.length_cons, List.length_nil]; omega) <| Q3 rfl rfl (by simp only [H3, List.length_append, List.length_cons, List.length_nil]; omega) <| A4 rfl rfl rfl ?_
   refine A5 ⟨nofun, _, kS [2] [] rfl, ?_⟩
   refine B4 <| C7 rfl rfl trivial ?_
   rfl
  try simp only [SG, List.length_map] at hc
  have hop : t.op ≠ lW := by assumption
  refine B3 <| A3 <| A0 <| C4 rfl rfl (of_decide_eq_true rfl) rfl rfl <| C5 rfl rfl rfl rfl rfl rfl <| A4 rfl rfl rfl ?_
  refine A5 ⟨nofun, _, kS [1,3] [1] rfl, ?_⟩
  refine A3 <| A3 <| A0 <| A4 rfl rfl rfl ?_
  refine A5 ⟨nofun, _, kS [1,3,4] [1] rfl, ?_⟩
  refine D3 <| I5 (β := Nat × W8) [(.t 1, _), (.h 1, _)] (fun (z : Nat × W8) => match z with | (i, a) => [(.t 4, iV i), (.t 3, tV a)]) (fun (z : Nat × W8) => match z with | (i, a) => i ≤ t.kids.length ∧ a = a5d t i) (fun (z : Nat × W8) => match z with | (i, a) => t.kids.length - i) (0, _) ⟨rfl, rfl, rfl, rfl, trivial⟩ ⟨Nat.zero_le _, rfl⟩ ?_
  intro z hb
  obtain ⟨i, a⟩ := z
  try dsimp only at hb
  obtain ⟨hi1, ha⟩ := hb
  have hst1 := fun h => hst i hop h
  rw [← ha] at hst1
  refine A3 <| A3 <| A0 <| A6 rfl rfl <| C4 rfl rfl (of_decide_eq_true rfl) rfl rfl <| C5 rfl rfl rfl rfl rfl rfl <| I1 rfl rfl <| J7 rfl rfl ?_
  refine A5 ⟨nofun, _, kS [1,3,4,19] [1] rfl, ?_⟩
  refine A8 rfl (fun hc => ?_) (fun hc => ?_)
  ·try simp only [SG, List.length_map] at hc
   refine B3 <| A3 <| D3 <| A0 <| A6 rfl rfl <| Q3 rfl rfl (by simp only [H3, List.length_append, List.length_cons, List.length_nil]; omega) <| C4 rfl rfl (of_decide_eq_true rfl) rfl rfl <| C5 rfl rfl rfl rfl rfl rfl <| A6 rfl rfl <| G5 rfl rfl rfl (fun _ => rfl) (by omega) <| G2 rfl rfl rfl ?_
   have h1 := hst i hop (by omega)
   have h2 := hkz i (by omega)
   apply D7 rfl
   ·apply B7
    ·exact B8 rfl
    exact D6
   ·exact (by have hi := ih (t.kids.getD i default) (by have := d3r (t := t) (i := i) (by omega); omega) (hkg i (by omega)) (by omega); rw [← a9d] at hi; exact hi)
   ·exact ⟨rfl, rfl, rfl, of_decide_eq_true rfl, rfl⟩
   ·exact .inl rfl
   ·exact C1
   ·exact E3 rfl
   ·exact fun _ => rfl
   intro g29
   refine Q3 rfl rfl (by simp only [H3, List.length_append, List.length_cons, List.length_nil]; omega) <| A4 rfl rfl rfl ?_
   refine A5 ⟨nofun, _, kS [1,3,4] [1] rfl, ?_⟩
   refine A0 <| A6 rfl rfl <| I0 rfl rfl (G9 (by omega)) <| A4 rfl rfl rfl ?_
   refine A5 ⟨nofun, _, kS [1,3,4] [1] rfl, ?_⟩
   refine ⟨(i + 1, _), ⟨by omega, by rw [a5d, ← ha]⟩, (by simp only; omega), ⟨rfl, rfl, rfl, rfl, trivial⟩⟩
  try simp only [SG, List.length_map] at hc
  refine H6 <| A3 <| A0 <| A6 rfl rfl <| A4 rfl rfl rfl ?_
  refine A5 ⟨nofun, _, kS [2] [] rfl, ?_⟩
  refine B4 <| C7 rfl rfl trivial ?_
  rw [ha, show i = t.kids.length by omega, hall hop]

theorem keep_s_rule : G7 Tryd.f48 = [0, 2, 3, 1, 17, 4, 28, 29, 38, 42] := by kernel_rfl
set_option maxHeartbeats 20000000 in
theorem d5v (t : Pl) (hgd : t.good) : CW (cxT rG) 48 [trK t] = some (.tup [trV ((X4 t).getD t), bV (X4 t).isSome], []) := by
 have hkl := b3h t
 have hol := c5k hgd
 have hkg := fun h => c5k (a6z hgd (i := 0) h)
 refine F8 rfl Tryd.func48 rfl ⟨by kernel_rfl, rfl, of_decide_eq_true rfl, of_decide_eq_true rfl, by decide⟩ keep_s_rule <| A3 <| A0 <| c0e rfl rfl rfl (fun _ => B5 rfl) (fun _ => rfl) ?_
 intro g1
 refine H2 rfl (fun _ => B5 rfl) (fun _ => rfl) ?_
 intro g2
 refine A4 rfl rfl rfl ?_
 refine A5 ⟨nofun, _, kS [1,2] [1,2] rfl, ?_⟩
 refine A3 <| A3 <| A0 <| C4 rfl rfl (of_decide_eq_true rfl) rfl rfl <| C5 rfl rfl rfl rfl rfl rfl <| I1 rfl rfl <| b3u rfl rfl <| A6 rfl rfl ?_
 refine E4 rfl rfl (fun hg0 => ?_) (fun hg0 => ?_)
 ·have hg := hg0; try simp only [SG] at hg
  refine C4 rfl rfl (of_decide_eq_true rfl) rfl rfl <| gT rfl rfl <| C5 rfl rfl rfl rfl rfl rfl <| gT rfl rfl <| G5 rfl rfl rfl (fun _ => rfl) (by (change 0 < _; omega)) <| gT rfl rfl <| C4 rfl rfl (of_decide_eq_true rfl) rfl rfl <| gT rfl rfl <| b3f rfl rfl rfl <| gT rfl rfl ?_
  rw [a0z]
  refine I1 rfl rfl <| gT rfl rfl <| b3u rfl rfl <| G0 rfl (by assumption) rfl rfl ?_
  refine A5 ⟨nofun, _, kS [1,2,17] [1,2] rfl, ?_⟩
  refine A8 rfl (fun hc => ?_) (fun hc => ?_)
  ·try simp only [SG, List.length_map] at hc
   refine A3 <| A0 <| F6 rfl rfl rfl rfl rfl <| B6 rfl rfl rfl rfl ⟨by decide, rfl, of_decide_eq_true rfl, of_decide_eq_true rfl, rfl⟩ rfl (by exact B5 rfl) <| A4 rfl rfl rfl ?_
   refine A5 ⟨nofun, _, kS [2,3] [2] rfl, ?_⟩
   refine B4 <| C9 (F5 rfl rfl rfl rfl (E5 rfl (E5 rfl (E5 rfl H4))) (D9 rfl rfl (E6 C3))) ?_
   (rw [b5u (by omega)]; show AV.tup [trK t, bV false] = AV.tup [trV t, bV false]; rw [a9d])
  try simp only [SG, List.length_map] at hc
  refine B3 <| A3 <| A0 <| C4 rfl rfl (of_decide_eq_true rfl) rfl rfl <| C5 rfl rfl rfl rfl rfl rfl <| G5 rfl rfl rfl (fun _ => rfl) (by (change 0 < _; omega)) <| G2 rfl rfl rfl <| H2 rfl (fun _ => B5 rfl) (fun _ => rfl) ?_
  intro g4
  refine B6 rfl rfl rfl rfl ⟨by decide, rfl, of_decide_eq_true rfl, of_decide_eq_true rfl, rfl⟩ rfl (by exact B5 rfl) ?_
  refine A5 ⟨nofun, _, kS [1,2,4] [1,2,4] rfl, ?_⟩
  refine A3 <| A3 <| A0 <| C4 rfl rfl (of_decide_eq_true rfl) rfl rfl <| C5 rfl rfl rfl rfl rfl rfl <| Q3 rfl rfl (by simp only [H3, List.length_append, List.length_cons, List.length_nil]; omega) <| C4 rfl rfl (of_decide_eq_true rfl) rfl rfl <| C5 rfl rfl rfl rfl rfl rfl <| Q3 rfl rfl (by simp only [H3, List.length_append, List.length_cons, List.length_nil]; omega) ?_
  refine A5 ⟨nofun, _, kS [1,2,4,28] [1,2,4] rfl, ?_⟩
  refine D3 <| A3 <| A3 <| A0 <| Y5 rfl rfl <| A4 rfl rfl rfl ?_
  refine A5 ⟨nofun, _, kS [1,2,4,28,29] [1,2,4] rfl, ?_⟩
  refine A8 rfl (fun hc => ?_) (fun hc => ?_)
  ·try simp only [SG, List.length_map] at hc
   refine B3 ?_
   refine A8 rfl (fun hc => ?_) (fun hc => absurd hc (by simp_all))
   refine A3 <| A0 <| C4 rfl rfl (of_decide_eq_true rfl) rfl rfl <| C5 rfl rfl rfl rfl rfl rfl ?_
   rw [a0z]
   refine U1 rfl rfl rfl (fun _ => rfl) (by show (0 : Int) ≤ 0 ∧ (0 : Int) < ((t.kids.getD 0 default).kids.length : Int); omega) <| G2 rfl rfl rfl <| B6 rfl rfl rfl rfl ⟨by decide, rfl, of_decide_eq_true rfl, of_decide_eq_true rfl, rfl⟩ rfl (by exact B5 rfl) <| A4 rfl rfl rfl ?_
   refine A5 ⟨nofun, _, kS [2,3] [2] rfl, ?_⟩
   refine B4 <| C9 (F5 rfl rfl rfl rfl (E5 rfl (E5 rfl (E5 rfl H4))) (D9 rfl rfl (E6 C3))) ?_
   (rw [b8k (t := t) (k := [114, 101, 118, 32, 114, 101, 118]) (by omega) (by omega) (by assumption) (by decide)]; rfl)
  try simp only [SG, List.length_map] at hc
  refine A3 <| A0 <| Y5 rfl rfl <| A4 rfl rfl rfl ?_
  refine A5 ⟨nofun, _, kS [1,2,4,28,29] [1,2,4] rfl, ?_⟩
  refine A8 rfl (fun hc => ?_) (fun hc => ?_)
  ·try simp only [SG, List.length_map] at hc
   refine B3 ?_
   refine A8 rfl (fun hc => ?_) (fun hc => absurd hc (by simp_all))
   refine A3 <| A0 <| C4 rfl rfl (of_decide_eq_true rfl) rfl rfl <| C5 rfl rfl rfl rfl rfl rfl ?_
   rw [a0z]
   refine U1 rfl rfl rfl (fun _ => rfl) (by show (0 : Int) ≤ 0 ∧ (0 : Int) < ((t.kids.getD 0 default).kids.length : Int); omega) <| G2 rfl rfl rfl <| B6 rfl rfl rfl rfl ⟨by decide, rfl, of_decide_eq_true rfl, of_decide_eq_true rfl, rfl⟩ rfl (by exact B5 rfl) <| A4 rfl rfl rfl ?_
   refine A5 ⟨nofun, _, kS [2,3] [2] rfl, ?_⟩
   refine B4 <| C9 (F5 rfl rfl rfl rfl (E5 rfl (E5 rfl (E5 rfl H4))) (D9 rfl rfl (E6 C3))) ?_
   (rw [b8k (t := t) (k := [110, 101, 103, 32, 110, 101, 103]) (by omega) (by omega) (by assumption) (by decide)]; rfl)
  try simp only [SG, List.length_map] at hc
  refine A3 <| A0 <| Y5 rfl rfl <| A4 rfl rfl rfl ?_
  refine A5 ⟨nofun, _, kS [1,2,4,28,29] [1,2,4] rfl, ?_⟩
  refine A8 rfl (fun hc => ?_) (fun hc => ?_)
  ·try simp only [SG, List.length_map] at hc
   refine B3 ?_
   refine A8 rfl (fun hc => ?_) (fun hc => absurd hc (by simp_all))
   refine A3 <| A0 <| C4 rfl rfl (of_decide_eq_true rfl) rfl rfl <| C5 rfl rfl rfl rfl rfl rfl ?_
   rw [a0z]
   refine U1 rfl rfl rfl (fun _ => rfl) (by show (0 : Int) ≤ 0 ∧ (0 : Int) < ((t.kids.getD 0 default).kids.length : Int); omega) <| G2 rfl rfl rfl <| B6 rfl rfl rfl rfl ⟨by decide, rfl, of_decide_eq_true rfl, of_decide_eq_true rfl, rfl⟩ rfl (by exact B5 rfl) <| A4 rfl rfl rfl ?_
   refine A5 ⟨nofun, _, kS [2,3] [2] rfl, ?_⟩
   refine B4 <| C9 (F5 rfl rfl rfl rfl (E5 rfl (E5 rfl (E5 rfl H4))) (D9 rfl rfl (E6 C3))) ?_
   (rw [b8k (t := t) (k := [100, 105, 102, 102, 32, 115, 117, 109, 115]) (by omega) (by omega) (by assumption) (by decide)]; rfl)
  try simp only [SG, List.length_map] at hc
  refine A0 <| Y5 rfl rfl <| A4 rfl rfl rfl ?_
  refine A5 ⟨nofun, _, kS [1,2,4,28,29] [1,2,4] rfl, ?_⟩
  refine A8 rfl (fun hc => ?_) (fun hc => ?_)
  ·try simp only [SG, List.length_map] at hc
   refine A3 <| A0 <| C4 rfl rfl (of_decide_eq_true rfl) rfl rfl <| C5 rfl rfl rfl rfl rfl rfl ?_
   rw [a0z]
   refine U1 rfl rfl rfl (fun _ => rfl) (by show (0 : Int) ≤ 0 ∧ (0 : Int) < ((t.kids.getD 0 default).kids.length : Int); omega) <| G2 rfl rfl rfl <| B6 rfl rfl rfl rfl ⟨by decide, rfl, of_decide_eq_true rfl, of_decide_eq_true rfl, rfl⟩ rfl (by exact B5 rfl) <| A4 rfl rfl rfl ?_
   refine A5 ⟨nofun, _, kS [2,3] [2] rfl, ?_⟩
   refine B4 <| C9 (F5 rfl rfl rfl rfl (E5 rfl (E5 rfl (E5 rfl H4))) (D9 rfl rfl (E6 C3))) ?_
   (rw [b8k (t := t) (k := [115, 117, 109, 115, 32, 100, 105, 102, 102]) (by omega) (by omega) (by assumption) (by decide)]; rfl)
  try simp only [SG, List.length_map] at hc
  refine A3 <| A3 <| A0 <| Y5 rfl rfl <| A4 rfl rfl rfl ?_
  refine A5 ⟨nofun, _, kS [1,2,4,28,38] [1,2,4] rfl, ?_⟩
  refine A8 rfl (fun hc => ?_) (fun hc => ?_)
  ·try simp only [SG, List.length_map] at hc
   refine B3 ?_
   refine A8 rfl (fun hc => ?_) (fun hc => absurd hc (by simp_all))
   refine A3 <| A0 <| F6 rfl rfl rfl rfl rfl <| B6 rfl rfl rfl rfl ⟨by decide, rfl, of_decide_eq_true rfl, of_decide_eq_true rfl, rfl⟩ rfl (by exact B5 rfl) <| A4 rfl rfl rfl ?_
   refine A5 ⟨nofun, _, kS [2,3] [2] rfl, ?_⟩
   refine B4 <| C9 (F5 rfl rfl rfl rfl (E5 rfl (E5 rfl (E5 rfl H4))) (D9 rfl rfl (E6 C3))) ?_
   (rw [d1t (t := t) (k := [115, 111, 114, 116, 32, 115, 111, 114, 116]) (by omega) (by omega) (by assumption) (by decide)]; rfl)
  try simp only [SG, List.length_map] at hc
  refine A0 <| Y5 rfl rfl <| A4 rfl rfl rfl ?_
  refine A5 ⟨nofun, _, kS [1,2,4,28,38] [1,2,4] rfl, ?_⟩
  refine A8 rfl (fun hc => ?_) (fun hc => ?_)
  ·try simp only [SG, List.length_map] at hc
   refine A3 <| A0 <| F6 rfl rfl rfl rfl rfl <| B6 rfl rfl rfl rfl ⟨by decide, rfl, of_decide_eq_true rfl, of_decide_eq_true rfl, rfl⟩ rfl (by exact B5 rfl) <| A4 rfl rfl rfl ?_
   refine A5 ⟨nofun, _, kS [2,3] [2] rfl, ?_⟩
   refine B4 <| C9 (F5 rfl rfl rfl rfl (E5 rfl (E5 rfl (E5 rfl H4))) (D9 rfl rfl (E6 C3))) ?_
   (rw [d1t (t := t) (k := [97, 98, 115, 32, 97, 98, 115]) (by omega) (by omega) (by assumption) (by decide)]; rfl)
  try simp only [SG, List.length_map] at hc
  refine A3 <| A3 <| A0 <| Y5 rfl rfl <| A4 rfl rfl rfl ?_
  refine A5 ⟨nofun, _, kS [1,2,4,28,42] [1,2,4] rfl, ?_⟩
  refine A8 rfl (fun hc => ?_) (fun hc => ?_)
  ·try simp only [SG, List.length_map] at hc
   refine B3 ?_
   refine A8 rfl (fun hc => ?_) (fun hc => absurd hc (by simp_all))
   refine A3 <| A0 <| C4 rfl rfl (of_decide_eq_true rfl) rfl rfl <| C5 rfl rfl rfl rfl rfl rfl <| C4 rfl rfl (of_decide_eq_true rfl) rfl rfl <| C5 rfl rfl rfl rfl rfl rfl <| J2 (fs := [_, _, _]) rfl rfl rfl rfl rfl <| B6 rfl rfl rfl rfl ⟨by decide, rfl, of_decide_eq_true rfl, of_decide_eq_true rfl, rfl⟩ rfl (by exact B5 rfl) <| A4 rfl rfl rfl ?_
   refine A5 ⟨nofun, _, kS [2,3] [2] rfl, ?_⟩
   refine B4 <| C9 (F5 rfl rfl rfl rfl (E5 rfl (H0 rfl (E5 rfl H4))) (D9 rfl rfl (E6 C3))) ?_
   (rw [b7a (t := t) (k := [115, 111, 114, 116, 32, 114, 101, 118]) (by omega) (by omega) (by assumption) (by decide)]; show AV.tup [AV.agg [tV t.op, AV.list [], AV.list (a3p (t.kids.getD 0 default))], bV true] = AV.tup [trV (.un t.op ((t.kids.getD 0 default).kids.getD 0 default)), bV true]; rw [b0w (w := t.op) (t := t.kids.getD 0 default) (by omega)]; rfl)
  try simp only [SG, List.length_map] at hc
  refine A3 <| A0 <| Y5 rfl rfl <| A4 rfl rfl rfl ?_
  refine A5 ⟨nofun, _, kS [1,2,4,28,42] [1,2,4] rfl, ?_⟩
  refine A8 rfl (fun hc => ?_) (fun hc => ?_)
  ·try simp only [SG, List.length_map] at hc
   refine B3 ?_
   refine A8 rfl (fun hc => ?_) (fun hc => absurd hc (by simp_all))
   refine A3 <| A0 <| C4 rfl rfl (of_decide_eq_true rfl) rfl rfl <| C5 rfl rfl rfl rfl rfl rfl <| C4 rfl rfl (of_decide_eq_true rfl) rfl rfl <| C5 rfl rfl rfl rfl rfl rfl <| J2 (fs := [_, _, _]) rfl rfl rfl rfl rfl <| B6 rfl rfl rfl rfl ⟨by decide, rfl, of_decide_eq_true rfl, of_decide_eq_true rfl, rfl⟩ rfl (by exact B5 rfl) <| A4 rfl rfl rfl ?_
   refine A5 ⟨nofun, _, kS [2,3] [2] rfl, ?_⟩
   refine B4 <| C9 (F5 rfl rfl rfl rfl (E5 rfl (H0 rfl (E5 rfl H4))) (D9 rfl rfl (E6 C3))) ?_
   (rw [b7a (t := t) (k := [97, 98, 115, 32, 110, 101, 103]) (by omega) (by omega) (by assumption) (by decide)]; show AV.tup [AV.agg [tV t.op, AV.list [], AV.list (a3p (t.kids.getD 0 default))], bV true] = AV.tup [trV (.un t.op ((t.kids.getD 0 default).kids.getD 0 default)), bV true]; rw [b0w (w := t.op) (t := t.kids.getD 0 default) (by omega)]; rfl)
  try simp only [SG, List.length_map] at hc
  refine A3 <| A0 <| Y5 rfl rfl <| A4 rfl rfl rfl ?_
  refine A5 ⟨nofun, _, kS [1,2,4,28,42] [1,2,4] rfl, ?_⟩
  refine A8 rfl (fun hc => ?_) (fun hc => ?_)
  ·try simp only [SG, List.length_map] at hc
   refine B3 ?_
   refine A8 rfl (fun hc => ?_) (fun hc => absurd hc (by simp_all))
   refine A3 <| A0 <| C4 rfl rfl (of_decide_eq_true rfl) rfl rfl <| C5 rfl rfl rfl rfl rfl rfl <| C4 rfl rfl (of_decide_eq_true rfl) rfl rfl <| C5 rfl rfl rfl rfl rfl rfl <| J2 (fs := [_, _, _]) rfl rfl rfl rfl rfl <| B6 rfl rfl rfl rfl ⟨by decide, rfl, of_decide_eq_true rfl, of_decide_eq_true rfl, rfl⟩ rfl (by exact B5 rfl) <| A4 rfl rfl rfl ?_
   refine A5 ⟨nofun, _, kS [2,3] [2] rfl, ?_⟩
   refine B4 <| C9 (F5 rfl rfl rfl rfl (E5 rfl (H0 rfl (E5 rfl H4))) (D9 rfl rfl (E6 C3))) ?_
   (rw [b7a (t := t) (k := [116, 111, 116, 97, 108, 32, 115, 111, 114, 116]) (by omega) (by omega) (by assumption) (by decide)]; show AV.tup [AV.agg [tV t.op, AV.list [], AV.list (a3p (t.kids.getD 0 default))], bV true] = AV.tup [trV (.un t.op ((t.kids.getD 0 default).kids.getD 0 default)), bV true]; rw [b0w (w := t.op) (t := t.kids.getD 0 default) (by omega)]; rfl)
  try simp only [SG, List.length_map] at hc
  refine A0 <| Y5 rfl rfl <| A4 rfl rfl rfl ?_
  refine A5 ⟨nofun, _, kS [1,2,4,42] [1,2,4] rfl, ?_⟩
  refine A8 rfl (fun hc => ?_) (fun hc => ?_)
  ·try simp only [SG, List.length_map] at hc
   refine A3 <| A0 <| C4 rfl rfl (of_decide_eq_true rfl) rfl rfl <| C5 rfl rfl rfl rfl rfl rfl <| C4 rfl rfl (of_decide_eq_true rfl) rfl rfl <| C5 rfl rfl rfl rfl rfl rfl <| J2 (fs := [_, _, _]) rfl rfl rfl rfl rfl <| B6 rfl rfl rfl rfl ⟨by decide, rfl, of_decide_eq_true rfl, of_decide_eq_true rfl, rfl⟩ rfl (by exact B5 rfl) <| A4 rfl rfl rfl ?_
   refine A5 ⟨nofun, _, kS [2,3] [2] rfl, ?_⟩
   refine B4 <| C9 (F5 rfl rfl rfl rfl (E5 rfl (H0 rfl (E5 rfl H4))) (D9 rfl rfl (E6 C3))) ?_
   (rw [b7a (t := t) (k := [116, 111, 116, 97, 108, 32, 114, 101, 118]) (by omega) (by omega) (by assumption) (by decide)]; show AV.tup [AV.agg [tV t.op, AV.list [], AV.list (a3p (t.kids.getD 0 default))], bV true] = AV.tup [trV (.un t.op ((t.kids.getD 0 default).kids.getD 0 default)), bV true]; rw [b0w (w := t.op) (t := t.kids.getD 0 default) (by omega)]; rfl)
  try simp only [SG, List.length_map] at hc
  refine B3 <| A3 <| A0 <| F6 rfl rfl rfl rfl rfl <| B6 rfl rfl rfl rfl ⟨by decide, rfl, of_decide_eq_true rfl, of_decide_eq_true rfl, rfl⟩ rfl (by exact B5 rfl) <| A4 rfl rfl rfl ?_
  refine A5 ⟨nofun, _, kS [2,3] [2] rfl, ?_⟩
  refine B4 <| C9 (F5 rfl rfl rfl rfl (E5 rfl (E5 rfl (E5 rfl H4))) (D9 rfl rfl (E6 C3))) ?_
  (rw [b9k (by omega) (by omega), d3m (by simp only [goneL, List.mem_cons, List.not_mem_nil, or_false]; rintro x (rfl | rfl | rfl | rfl | rfl | rfl | rfl | rfl | rfl | rfl) <;> assumption)]; show AV.tup [trK t, bV false] = AV.tup [trV t, bV false]; rw [a9d])
 have hg := hg0; try simp only [SG] at hg
 refine gF rfl rfl <| gF rfl rfl <| gF rfl rfl <| gF rfl rfl <| gF rfl rfl <| gF rfl rfl <| G1 rfl (by assumption) rfl rfl ?_
 refine A5 ⟨nofun, _, kS [1,2,17] [1,2] rfl, ?_⟩
 refine A8 rfl (fun hc => ?_) (fun hc => absurd hc (by decide))
 refine A3 <| A0 <| F6 rfl rfl rfl rfl rfl <| B6 rfl rfl rfl rfl ⟨by decide, rfl, of_decide_eq_true rfl, of_decide_eq_true rfl, rfl⟩ rfl (by exact B5 rfl) <| A4 rfl rfl rfl ?_
 refine A5 ⟨nofun, _, kS [2,3] [2] rfl, ?_⟩
 refine B4 <| C9 (F5 rfl rfl rfl rfl (E5 rfl (E5 rfl (E5 rfl H4))) (D9 rfl rfl (E6 C3))) ?_
 (rw [b5u (by omega)]; show AV.tup [trK t, bV false] = AV.tup [trV t, bV false]; rw [a9d])

theorem keep_s_oneRule : G7 Tryd.f36 = [0, 2, 1, 5, 16, 4, 3, 6, 25, 7, 8, 37, 9, 13] := by kernel_rfl
set_option maxHeartbeats 20000000 in
theorem c7j (t : Pl) (hsz : t.sz ≤ 1000) (hgd : t.good) : CW (cxT rG) 36 [trK t] = some (.own 3 ((oneP t).map trV), []) := by
 obtain ⟨kk, hkk⟩ : ∃ kk : Nat, t.sz < kk := ⟨_, Nat.lt_succ_self _⟩
 revert t
 induction kk with
 | zero => intro t hsz hgd hkk; exact absurd hkk (Nat.not_lt_zero _)
 | succ kk ih =>
  intro t hsz hgd hkk
  have hkl := b3h t
  have hhl := fun i (h : i ≤ t.kids.length) => c0h (t := t) h
  have hjl := fun i j (h : i < t.kids.length) => c8x (t := t) (j := j) h
  refine F8 rfl Tryd.func36 rfl ⟨by kernel_rfl, rfl, of_decide_eq_true rfl, of_decide_eq_true rfl, by decide⟩ keep_s_oneRule <| A3 <| A0 <| c0e rfl rfl rfl (fun _ => B5 rfl) (fun _ => rfl) ?_
  intro g1
  (refine B9 rfl rfl (fun _ => rfl) ?_; intro g2)
  refine A5 ⟨nofun, _, kS [1] [1] rfl, ?_⟩
  refine A3 <| A0 <| E7 (es := List.map trV []) rfl rfl (of_decide_eq_true rfl) rfl rfl (fun _ => B0 (A9 fun _ => rfl)) (fun _ => rfl) ?_
  intro g10
  (refine B2 rfl rfl (by (simp; done)) rfl (fun _ => (B0 (by exact A9 fun _ => rfl))) (fun _ => rfl) ?_; intro g3)
  refine A5 ⟨nofun, _, kS [1,3] [1,3] rfl, ?_⟩
  refine A3 <| A0 <| F6 rfl rfl rfl rfl rfl ?_
  apply D7 rfl
  ·apply B7
   ·exact B8 rfl
   exact D6
  ·exact d5v t hgd
  ·exact ⟨rfl, rfl, rfl, of_decide_eq_true rfl, rfl⟩
  ·exact .inl rfl
  ·exact C1
  ·exact K5 rfl
  ·exact fun _ => rfl
  intro g13
  refine A6 rfl rfl <| B1 rfl rfl rfl <| B1 rfl rfl rfl <| H2 rfl (fun _ => B5 rfl) (fun _ => rfl) ?_
  intro g4
  refine B6 rfl rfl rfl rfl ⟨by decide, rfl, of_decide_eq_true rfl, of_decide_eq_true rfl, rfl⟩ rfl (by exact B5 rfl) <| A4 rfl rfl rfl ?_
  refine A5 ⟨nofun, _, kS [1,3,4,5] [1,3,4] rfl, ?_⟩
  refine A3 <| A3 <| A0 <| A6 rfl rfl ?_
  refine A5 ⟨nofun, _, kS [1,3,4,16] [1,3,4] rfl, ?_⟩
  refine A8 rfl (fun hc => ?_) (fun hc => ?_)
  ·try simp only [SG, List.length_map] at hc
   refine A0 <| A6 rfl rfl <| F6 rfl rfl rfl rfl rfl <| E7 (es := List.map trV [_]) rfl rfl (of_decide_eq_true rfl) rfl rfl (fun _ => B0 (A9 fun _ => rfl)) (fun _ => rfl) ?_
   intro g19
   refine G8 rfl rfl rfl rfl (by (simp; done)) (by simp) (by decide) rfl rfl rfl rfl (of_decide_eq_true rfl) (fun _ => ⟨rfl, rfl⟩) (by simp only [H3]; (simp only [List.length_nil, List.length_cons, List.length_append, Nat.zero_add, List.length_map]; omega)) (fun _ => rfl) ?_
   intro g20
   (refine B2 rfl rfl (by (simp; done)) rfl (fun _ => (B0 (by exact A9 fun _ => rfl))) (fun _ => rfl) ?_; intro g3)
   refine A5 ⟨nofun, _, kS [1,3] [1,3] rfl, ?_⟩
   refine A3 <| A3 <| A0 <| A4 rfl rfl rfl ?_
   refine A5 ⟨nofun, _, kS [1,3,6] [1,3] rfl, ?_⟩
   refine D3 <| I5 (β := Nat × List Pl × Nat) [(.t 1, _), (.h 1, _)] (fun (z : Nat × List Pl × Nat) => match z with | (i, us, g) => [(.t 6, iV i), (.h 3, .obj g 0 3 (us.map trV)), (.t 3, .sl 3 g none 0 us.length)]) (fun (z : Nat × List Pl × Nat) => match z with | (i, us, g) => i ≤ t.kids.length ∧ us = a7h t i) (fun (z : Nat × List Pl × Nat) => match z with | (i, us, g) => t.kids.length - i) (0, _, _) ⟨rfl, rfl, rfl, rfl, rfl, trivial⟩ ⟨Nat.zero_le _, by (rw [a7h, Option.isSome_iff_exists.1 hc |>.choose_spec]; rfl)⟩ ?_
   intro z hb
   obtain ⟨i, us, g⟩ := z
   try dsimp only at hb
   obtain ⟨hi1, hus⟩ := hb
   have hul := hhl i hi1
   rw [← hus] at hul
   refine A3 <| A3 <| A0 <| A6 rfl rfl <| C4 rfl rfl (of_decide_eq_true rfl) rfl rfl <| C5 rfl rfl rfl rfl rfl rfl <| I1 rfl rfl <| J7 rfl rfl ?_
   refine A5 ⟨nofun, _, kS [1,3,6,25] [1,3] rfl, ?_⟩
   refine A8 rfl (fun hc => ?_) (fun hc => ?_)
   ·try simp only [SG, List.length_map] at hc
    refine B3 <| A3 <| D3 <| A3 <| A0 <| C4 rfl rfl (of_decide_eq_true rfl) rfl rfl <| C5 rfl rfl rfl rfl rfl rfl <| A6 rfl rfl <| G5 rfl rfl rfl (fun _ => rfl) (by omega) <| G2 rfl rfl rfl ?_
    have hks := c4a (t := t) (i := i) (by omega)
    have hol := a0f (t.kids.getD i default)
    apply D7 rfl
    ·apply B7
     ·exact B8 rfl
     exact D6
    ·exact (by have hi := ih (t.kids.getD i default) (by omega) (a6z hgd (by omega)) (by omega); rw [← a9d] at hi; exact hi)
    ·exact ⟨rfl, rfl, rfl, of_decide_eq_true rfl, rfl⟩
    ·exact .inl rfl
    ·exact C1
    ·exact N9
    ·exact fun _ => rfl
    intro g33
    simp only [List.length_map]
    (refine B2 rfl rfl (by (simp; done)) rfl (fun _ => (B0 (by exact A9 fun _ => rfl))) (fun _ => rfl) ?_; intro g7)
    refine A5 ⟨nofun, _, kS [1,3,6,7] [1,3,7] rfl, ?_⟩
    refine A3 <| A0 <| A4 rfl rfl rfl ?_
    refine A5 ⟨nofun, _, kS [1,3,6,7,8] [1,3,7] rfl, ?_⟩
    refine D3 <| I5 (β := Nat × List Pl × Nat) [(.t 1, _), (.t 6, _), (.t 7, _), (.h 1, _), (.h 7, _)] (fun (z : Nat × List Pl × Nat) => match z with | (j, vs, g1) => [(.t 8, iV j), (.h 3, .obj g1 0 3 (vs.map trV)), (.t 3, .sl 3 g1 none 0 vs.length)]) (fun (z : Nat × List Pl × Nat) => match z with | (j, vs, g1) => j ≤ (oneP (t.kids.getD i default)).length ∧ vs = b0b t i j) (fun (z : Nat × List Pl × Nat) => match z with | (j, vs, g1) => (oneP (t.kids.getD i default)).length - j) (0, _, _) ⟨rfl, rfl, rfl, rfl, rfl, rfl, rfl, rfl, trivial⟩ ⟨Nat.zero_le _, by rw [hus, b5w]⟩ ?_
    intro z hb
    obtain ⟨j, vs, g1⟩ := z
    try dsimp only at hb
    obtain ⟨hj1, hvs⟩ := hb
    have hvl := hjl i j (by omega)
    rw [← hvs] at hvl
    refine A3 <| A3 <| A0 <| A6 rfl rfl <| A6 rfl rfl <| O9 rfl rfl <| J7 rfl rfl ?_
    refine A5 ⟨nofun, _, kS [1,3,6,7,8,37] [1,3,7] rfl, ?_⟩
    refine A8 rfl (fun hc => ?_) (fun hc => ?_)
    ·try simp only [SG, List.length_map] at hc
     refine B3 <| A3 <| D3 <| A3 <| A0 <| E7 (es := List.map trV []) rfl rfl (of_decide_eq_true rfl) rfl rfl (fun _ => B0 (A9 fun _ => rfl)) (fun _ => rfl) ?_
     intro g40
     refine C4 rfl rfl (of_decide_eq_true rfl) rfl rfl <| C5 rfl rfl rfl rfl rfl rfl <| a3n rfl rfl rfl (by (simp; done)) rfl rfl rfl (of_decide_eq_true rfl) (fun _ => ⟨rfl, rfl, rfl⟩) (by simp only [H3]; (simp only [List.length_nil, List.length_cons, List.length_append, Nat.zero_add, List.length_map]; omega)) (fun _ => rfl) ?_
     intro g43
     (refine B2 rfl rfl (by (simp; done)) rfl (fun _ => (B0 (by exact A9 fun _ => rfl))) (fun _ => rfl) ?_; intro g9)
     refine A5 ⟨nofun, _, kS [1,3,6,7,8,9] [1,3,7,9] rfl, ?_⟩
     refine A3 <| A0 <| A6 rfl rfl <| A6 rfl rfl <| A6 rfl rfl <| A6 rfl rfl <| I3 rfl rfl rfl rfl (by omega) (by (simp; done)) rfl <| K3 rfl rfl (by omega) (fun _ => rfl) (fun _ => rfl) rfl <| I3 rfl rfl rfl rfl (by (simp; omega)) (by (simp; done)) rfl <| a1t rfl rfl rfl (by (simp; omega)) (fun _ _ => ⟨rfl, rfl, of_decide_eq_true rfl, of_decide_eq_true rfl, rfl, rfl⟩) (by decide) (by exact B0 (A9 fun _ => rfl)) ?_
     refine A5 ⟨nofun, _, kS [1,3,6,7,8,9] [1,3,7,9] rfl, ?_⟩
     refine A0 <| A6 rfl rfl <| C4 rfl rfl (of_decide_eq_true rfl) rfl rfl <| C5 rfl rfl rfl rfl rfl rfl <| C4 rfl rfl (of_decide_eq_true rfl) rfl rfl <| C5 rfl rfl rfl rfl rfl rfl <| A6 rfl rfl <| J2 (fs := [_, _, _]) rfl rfl rfl rfl rfl <| a9b (fs := [_, _, _]) rfl rfl rfl (of_decide_eq_true rfl) rfl rfl (L4 rfl (L4 rfl (d1u rfl (by simp) (fun _ => rfl) V7))) (fun _ _ => D8 (Z3 (A9 fun _ => rfl) (by decide)) (D8 (B0 rfl) (J0 rfl))) ?_
     intro z58 g58
     simp only [P2, List.cons_append, List.nil_append]
     rw [c9j (by omega)]
     refine G8 rfl rfl rfl rfl (by (simp; done)) (by simp) (by decide) rfl rfl rfl rfl (of_decide_eq_true rfl) (fun _ => ⟨rfl, rfl⟩) (by simp only [H3]; (simp only [List.length_nil, List.length_cons, List.length_append, Nat.zero_add, List.length_map]; omega)) (fun _ => rfl) ?_
     intro g59
     (refine B2 rfl rfl (by (simp; done)) rfl (fun _ => (B0 (by exact A9 fun _ => rfl))) (fun _ => rfl) ?_; intro g3)
     refine A5 ⟨nofun, _, kS [1,3,6,7,8] [1,3,7] rfl, ?_⟩
     refine A0 <| A6 rfl rfl <| I0 rfl rfl (G9 (by omega)) <| A4 rfl rfl rfl ?_
     refine A5 ⟨nofun, _, kS [1,3,6,7,8] [1,3,7] rfl, ?_⟩
     refine ⟨(j + 1, _, _), ⟨by omega, by rw [hvs]; exact b5e (by omega)⟩, (by simp only; omega), ⟨rfl, rfl, rfl, rfl, rfl, rfl, rfl, rfl, trivial⟩⟩
    try simp only [SG, List.length_map] at hc
    refine H6 <| A0 <| A6 rfl rfl <| I0 rfl rfl (G9 (by omega)) <| A4 rfl rfl rfl ?_
    refine A5 ⟨nofun, _, kS [1,3,6] [1,3] rfl, ?_⟩
    refine ⟨(i + 1, _, _), ⟨by omega, by rw [hvs]; exact c2g (by omega)⟩, (by simp only; omega), ⟨rfl, rfl, rfl, rfl, rfl, trivial⟩⟩
   try simp only [SG, List.length_map] at hc
   refine H6 <| A3 <| A0 <| A6 rfl rfl ?_
   (refine B2 rfl rfl (by (simp; done)) rfl (fun _ => (B0 (by exact A9 fun _ => rfl))) (fun _ => rfl) ?_; intro g2)
   refine A5 ⟨nofun, _, kS [2] [2] rfl, ?_⟩
   refine B4 <| S1 rfl rfl (by simp) (by exact A9 fun _ => rfl) trivial ?_
   rw [hus, show i = t.kids.length by omega, b2j]
  try simp only [SG, List.length_map] at hc
  refine B3 <| A3 <| A3 <| A0 <| A4 rfl rfl rfl ?_
  refine A5 ⟨nofun, _, kS [1,3,6] [1,3] rfl, ?_⟩
  refine D3 <| I5 (β := Nat × List Pl × Nat) [(.t 1, _), (.h 1, _)] (fun (z : Nat × List Pl × Nat) => match z with | (i, us, g) => [(.t 6, iV i), (.h 3, .obj g 0 3 (us.map trV)), (.t 3, .sl 3 g none 0 us.length)]) (fun (z : Nat × List Pl × Nat) => match z with | (i, us, g) => i ≤ t.kids.length ∧ us = a7h t i) (fun (z : Nat × List Pl × Nat) => match z with | (i, us, g) => t.kids.length - i) (0, _, _) ⟨rfl, rfl, rfl, rfl, rfl, trivial⟩ ⟨Nat.zero_le _, by (rw [a7h]; simp_all)⟩ ?_
  intro z hb
  obtain ⟨i, us, g⟩ := z
  try dsimp only at hb
  obtain ⟨hi1, hus⟩ := hb
  have hul := hhl i hi1
  rw [← hus] at hul
  refine A3 <| A3 <| A0 <| A6 rfl rfl <| C4 rfl rfl (of_decide_eq_true rfl) rfl rfl <| C5 rfl rfl rfl rfl rfl rfl <| I1 rfl rfl <| J7 rfl rfl ?_
  refine A5 ⟨nofun, _, kS [1,3,6,25] [1,3] rfl, ?_⟩
  refine A8 rfl (fun hc => ?_) (fun hc => ?_)
  ·try simp only [SG, List.length_map] at hc
   refine B3 <| A3 <| D3 <| A3 <| A0 <| C4 rfl rfl (of_decide_eq_true rfl) rfl rfl <| C5 rfl rfl rfl rfl rfl rfl <| A6 rfl rfl <| G5 rfl rfl rfl (fun _ => rfl) (by omega) <| G2 rfl rfl rfl ?_
   have hks := c4a (t := t) (i := i) (by omega)
   have hol := a0f (t.kids.getD i default)
   apply D7 rfl
   ·apply B7
    ·exact B8 rfl
    exact D6
   ·exact (by have hi := ih (t.kids.getD i default) (by omega) (a6z hgd (by omega)) (by omega); rw [← a9d] at hi; exact hi)
   ·exact ⟨rfl, rfl, rfl, of_decide_eq_true rfl, rfl⟩
   ·exact .inl rfl
   ·exact C1
   ·exact N9
   ·exact fun _ => rfl
   intro g33
   simp only [List.length_map]
   (refine B2 rfl rfl (by (simp; done)) rfl (fun _ => (B0 (by exact A9 fun _ => rfl))) (fun _ => rfl) ?_; intro g7)
   refine A5 ⟨nofun, _, kS [1,3,6,7] [1,3,7] rfl, ?_⟩
   refine A3 <| A0 <| A4 rfl rfl rfl ?_
   refine A5 ⟨nofun, _, kS [1,3,6,7,8] [1,3,7] rfl, ?_⟩
   refine D3 <| I5 (β := Nat × List Pl × Nat) [(.t 1, _), (.t 6, _), (.t 7, _), (.h 1, _), (.h 7, _)] (fun (z : Nat × List Pl × Nat) => match z with | (j, vs, g1) => [(.t 8, iV j), (.h 3, .obj g1 0 3 (vs.map trV)), (.t 3, .sl 3 g1 none 0 vs.length)]) (fun (z : Nat × List Pl × Nat) => match z with | (j, vs, g1) => j ≤ (oneP (t.kids.getD i default)).length ∧ vs = b0b t i j) (fun (z : Nat × List Pl × Nat) => match z with | (j, vs, g1) => (oneP (t.kids.getD i default)).length - j) (0, _, _) ⟨rfl, rfl, rfl, rfl, rfl, rfl, rfl, rfl, trivial⟩ ⟨Nat.zero_le _, by rw [hus, b5w]⟩ ?_
   intro z hb
   obtain ⟨j, vs, g1⟩ := z
   try dsimp only at hb
   obtain ⟨hj1, hvs⟩ := hb
   have hvl := hjl i j (by omega)
   rw [← hvs] at hvl
   refine A3 <| A3 <| A0 <| A6 rfl rfl <| A6 rfl rfl <| O9 rfl rfl <| J7 rfl rfl ?_
   refine A5 ⟨nofun, _, kS [1,3,6,7,8,37] [1,3,7] rfl, ?_⟩
   refine A8 rfl (fun hc => ?_) (fun hc => ?_)
   ·try simp only [SG, List.length_map] at hc
    refine B3 <| A3 <| D3 <| A3 <| A0 <| E7 (es := List.map trV []) rfl rfl (of_decide_eq_true rfl) rfl rfl (fun _ => B0 (A9 fun _ => rfl)) (fun _ => rfl) ?_
    intro g40
    refine C4 rfl rfl (of_decide_eq_true rfl) rfl rfl <| C5 rfl rfl rfl rfl rfl rfl <| a3n rfl rfl rfl (by (simp; done)) rfl rfl rfl (of_decide_eq_true rfl) (fun _ => ⟨rfl, rfl, rfl⟩) (by simp only [H3]; (simp only [List.length_nil, List.length_cons, List.length_append, Nat.zero_add, List.length_map]; omega)) (fun _ => rfl) ?_
    intro g43
    (refine B2 rfl rfl (by (simp; done)) rfl (fun _ => (B0 (by exact A9 fun _ => rfl))) (fun _ => rfl) ?_; intro g9)
    refine A5 ⟨nofun, _, kS [1,3,6,7,8,9] [1,3,7,9] rfl, ?_⟩
    refine A3 <| A0 <| A6 rfl rfl <| A6 rfl rfl <| A6 rfl rfl <| A6 rfl rfl <| I3 rfl rfl rfl rfl (by omega) (by (simp; done)) rfl <| K3 rfl rfl (by omega) (fun _ => rfl) (fun _ => rfl) rfl <| I3 rfl rfl rfl rfl (by (simp; omega)) (by (simp; done)) rfl <| a1t rfl rfl rfl (by (simp; omega)) (fun _ _ => ⟨rfl, rfl, of_decide_eq_true rfl, of_decide_eq_true rfl, rfl, rfl⟩) (by decide) (by exact B0 (A9 fun _ => rfl)) ?_
    refine A5 ⟨nofun, _, kS [1,3,6,7,8,9] [1,3,7,9] rfl, ?_⟩
    refine A0 <| A6 rfl rfl <| C4 rfl rfl (of_decide_eq_true rfl) rfl rfl <| C5 rfl rfl rfl rfl rfl rfl <| C4 rfl rfl (of_decide_eq_true rfl) rfl rfl <| C5 rfl rfl rfl rfl rfl rfl <| A6 rfl rfl <| J2 (fs := [_, _, _]) rfl rfl rfl rfl rfl <| a9b (fs := [_, _, _]) rfl rfl rfl (of_decide_eq_true rfl) rfl rfl (L4 rfl (L4 rfl (d1u rfl (by simp) (fun _ => rfl) V7))) (fun _ _ => D8 (Z3 (A9 fun _ => rfl) (by decide)) (D8 (B0 rfl) (J0 rfl))) ?_
    intro z58 g58
    simp only [P2, List.cons_append, List.nil_append]
    rw [c9j (by omega)]
    refine G8 rfl rfl rfl rfl (by (simp; done)) (by simp) (by decide) rfl rfl rfl rfl (of_decide_eq_true rfl) (fun _ => ⟨rfl, rfl⟩) (by simp only [H3]; (simp only [List.length_nil, List.length_cons, List.length_append, Nat.zero_add, List.length_map]; omega)) (fun _ => rfl) ?_
    intro g59
    (refine B2 rfl rfl (by (simp; done)) rfl (fun _ => (B0 (by exact A9 fun _ => rfl))) (fun _ => rfl) ?_; intro g3)
    refine A5 ⟨nofun, _, kS [1,3,6,7,8] [1,3,7] rfl, ?_⟩
    refine A0 <| A6 rfl rfl <| I0 rfl rfl (G9 (by omega)) <| A4 rfl rfl rfl ?_
    refine A5 ⟨nofun, _, kS [1,3,6,7,8] [1,3,7] rfl, ?_⟩
    refine ⟨(j + 1, _, _), ⟨by omega, by rw [hvs]; exact b5e (by omega)⟩, (by simp only; omega), ⟨rfl, rfl, rfl, rfl, rfl, rfl, rfl, rfl, trivial⟩⟩
   try simp only [SG, List.length_map] at hc
   refine H6 <| A0 <| A6 rfl rfl <| I0 rfl rfl (G9 (by omega)) <| A4 rfl rfl rfl ?_
   refine A5 ⟨nofun, _, kS [1,3,6] [1,3] rfl, ?_⟩
   refine ⟨(i + 1, _, _), ⟨by omega, by rw [hvs]; exact c2g (by omega)⟩, (by simp only; omega), ⟨rfl, rfl, rfl, rfl, rfl, trivial⟩⟩
  try simp only [SG, List.length_map] at hc
  refine H6 <| A3 <| A0 <| A6 rfl rfl ?_
  (refine B2 rfl rfl (by (simp; done)) rfl (fun _ => (B0 (by exact A9 fun _ => rfl))) (fun _ => rfl) ?_; intro g2)
  refine A5 ⟨nofun, _, kS [2] [2] rfl, ?_⟩
  refine B4 <| S1 rfl rfl (by simp) (by exact A9 fun _ => rfl) trivial ?_
  rw [hus, show i = t.kids.length by omega, b2j]

theorem keep_s_rules : G7 Tryd.f37 = [0, 2, 3, 5, 17, 7, 37, 40, 39, 41, 38, 6, 9, 62, 10, 8, 4] := by kernel_rfl
set_option maxHeartbeats 20000000 in
theorem d3q (s : List UInt8) (hs : s.length ≤ 1048576) (hw : (splitB 32 s).length ≤ 1000) : CW (cxT rG) 37 [tV s] = some (.own 1 (((M0 (splitB 32 s)).map (joinB 32)).map tV), []) := by
 obtain ⟨ws, hws⟩ : ∃ ws, ws = splitB 32 s := ⟨_, rfl⟩
 rw [← hws]
 have hwl : ws.length ≤ 1000 := by rw [hws]; exact hw
 have hwp : ∀ w ∈ ws, w.length ≤ 1048576 := fun w h => by rw [hws] at h; have := T3 32 s w h; omega
 have hpi := fun (i : Nat) (h : i < ws.length) => hwp _ (W0 h)
 have hjl : (joinB 32 ws).length ≤ 1048576 := by rw [hws, a5v]; exact hs
 have hne : 1 ≤ ws.length := by rw [hws]; have := a8g 32 s; cases h : splitB 32 s with | nil => exact absurd h this | cons a b => simp
 refine F8 rfl Tryd.func37 rfl ⟨by kernel_rfl, rfl, of_decide_eq_true rfl, of_decide_eq_true rfl, by decide⟩ keep_s_rules <| A3 <| A0 ?_
 (refine B9 rfl rfl (fun _ => rfl) ?_; intro g2)
 refine A5 ⟨nofun, _, kS [0] [] rfl, ?_⟩
 refine A3 <| A0 <| A6 rfl rfl ?_
 apply D7 rfl
 ·apply B7
  ·exact B8 rfl
  apply B7
  ·exact B8 rfl
  exact D6
 ·exact b6p s 32 (by omega)
 ·exact ⟨rfl, rfl, rfl, of_decide_eq_true rfl, rfl⟩
 ·exact .inl rfl
 ·exact C1
 ·exact N9
 ·exact fun _ => rfl
 intro g12
 rw [← hws]
 try simp only [List.length_map]
 (refine B2 rfl rfl (by (simp; done)) rfl (fun _ => (B0 (by exact A9 fun _ => rfl))) (fun _ => rfl) ?_; intro g3)
 refine A5 ⟨nofun, _, kS [3] [3] rfl, ?_⟩
 refine A3 <| A0 ?_
 (refine B9 rfl rfl (fun _ => rfl) ?_; intro g4)
 refine A5 ⟨nofun, _, kS [3,4] [3,4] rfl, ?_⟩
 refine A3 <| A3 <| A0 <| A4 rfl rfl rfl ?_
 refine A5 ⟨nofun, _, kS [3,4,5] [3,4] rfl, ?_⟩
 refine D3 <| I5 (β := Nat × List W8 × Nat) [(.t 3, _), (.h 3, _)] (fun (z : Nat × List W8 × Nat) => match z with | (i, us, g) => [(.t 5, iV i), (.h 4, .obj g 0 1 (us.map tV)), (.t 4, .sl 4 g none 0 us.length)]) (fun (z : Nat × List W8 × Nat) => match z with | (i, us, g) => i + 1 ≤ ws.length ∧ us = (hitsN ws i).map (joinB 32)) (fun (z : Nat × List W8 × Nat) => match z with | (i, us, g) => ws.length - i) (0, [], _) ⟨rfl, rfl, rfl, rfl, rfl, trivial⟩ ⟨by omega, rfl⟩ ?_
 intro z hb
 obtain ⟨i, us, g⟩ := z
 try dsimp only at hb
 obtain ⟨hi1, hus⟩ := hb
 have hul : us.length ≤ i := by rw [hus, List.length_map]; exact b5n ws i
 refine A3 <| A3 <| A0 <| A6 rfl rfl <| I0 rfl rfl (G9 (by omega)) <| A6 rfl rfl <| O9 rfl rfl <| J7 rfl rfl ?_
 refine A5 ⟨nofun, _, kS [3,4,5,17] [3,4] rfl, ?_⟩
 refine A8 rfl (fun hc => ?_) (fun hc => ?_)
 ·try simp only [SG, List.length_map] at hc
  refine B3 <| A3 <| D3 <| A3 <| A0 <| c1l rfl rfl rfl <| A6 rfl rfl <| A6 rfl rfl <| I3 rfl rfl rfl rfl (by omega) (by (simp; done)) rfl <| K3 rfl rfl (by omega) (fun _ => rfl) (fun _ => rfl) rfl ?_
  have hp1 := hpi i (by omega)
  refine Q3 rfl rfl (by simp only [H3, List.length_append, List.length_cons, List.length_nil]; omega) <| A6 rfl rfl <| A6 rfl rfl <| I0 rfl rfl (G9 (by omega)) <| I3 rfl rfl rfl rfl (by (simp; omega)) (by (simp; done)) rfl <| K3 rfl rfl (by (simp; omega)) (fun _ => rfl) (fun _ => rfl) rfl ?_
  have hp2 := hpi (i + 1) (by omega)
  refine Q3 rfl rfl (by simp only [H3, List.length_append, List.length_cons, List.length_nil]; omega) ?_
  rcases hkey : keyG ((ws.getD i default ++ [32]) ++ ws.getD (i + 1) default) with _ | ⟨x, y⟩
  ·skip
   refine b9x (u := .undef) (b := false) (v := .agg [bV false, bV false]) rfl rfl (show (cxT rG).mp rG = some goneTb from if_pos rfl) rfl ⟨rfl, rfl⟩ (by rw [b1l, hkey]; rfl) rfl <| A6 rfl rfl <| B1 rfl rfl rfl <| B1 rfl rfl rfl <| H2 rfl (fun _ => B5 rfl) (fun _ => rfl) ?_
   intro g6
   refine B6 rfl rfl rfl rfl ⟨by decide, rfl, of_decide_eq_true rfl, of_decide_eq_true rfl, rfl⟩ rfl (by exact B5 rfl) <| A4 rfl rfl rfl ?_
   refine A5 ⟨fun _ => ⟨by decide +kernel, by decide +kernel⟩, [(.t 3, _), (.t 4, _), (.t 5, _), (.t 6, _), (.t 7, _), (.h 3, _), (.h 4, _), (.h 6, _)], ⟨rfl, rfl, rfl, rfl, rfl, rfl, rfl, rfl, rfl, rfl, rfl, rfl, rfl, rfl, rfl, rfl, trivial⟩, ?_⟩
   refine A3 <| A3 <| A0 <| A6 rfl rfl <| L3 rfl ?_
   refine A5 ⟨nofun, _, kS [3,4,5,6,37] [3,4,6] rfl, ?_⟩
   refine A8 rfl (fun hc => ?_) (fun hc => absurd hc (by decide))
   refine H6 <| A0 <| A6 rfl rfl <| I0 rfl rfl (G9 (by omega)) <| A4 rfl rfl rfl ?_
   refine A5 ⟨nofun, _, kS [3,4,5] [3,4] rfl, ?_⟩
   refine ⟨(i + 1, _, _), ⟨by omega, by rw [hitsN, List.map_append, hus, b1u, hkey]; simp⟩, (by simp only; omega), ⟨rfl, rfl, rfl, rfl, rfl, trivial⟩⟩
  skip
  refine b9x (u := .undef) (b := true) (v := .agg [bV x, bV y]) rfl rfl (show (cxT rG).mp rG = some goneTb from if_pos rfl) rfl ⟨rfl, rfl⟩ (by rw [b1l, hkey]; rfl) rfl <| A6 rfl rfl <| B1 rfl rfl rfl <| B1 rfl rfl rfl <| H2 rfl (fun _ => B5 rfl) (fun _ => rfl) ?_
  intro g6
  refine B6 rfl rfl rfl rfl ⟨by decide, rfl, of_decide_eq_true rfl, of_decide_eq_true rfl, rfl⟩ rfl (by exact B5 rfl) <| A4 rfl rfl rfl ?_
  refine A5 ⟨fun _ => ⟨by decide +kernel, by decide +kernel⟩, [(.t 3, _), (.t 4, _), (.t 5, _), (.t 6, _), (.t 7, _), (.h 3, _), (.h 4, _), (.h 6, _)], ⟨rfl, rfl, rfl, rfl, rfl, rfl, rfl, rfl, rfl, rfl, rfl, rfl, rfl, rfl, rfl, rfl, trivial⟩, ?_⟩
  refine A3 <| A3 <| A0 <| A6 rfl rfl <| L3 rfl ?_
  refine A5 ⟨nofun, _, kS [3,4,5,6,37] [3,4,6] rfl, ?_⟩
  refine A8 rfl (fun hc => absurd hc (by decide)) (fun hc => ?_)
  refine B3 <| A3 <| A0 ?_
  (refine B9 rfl rfl (fun _ => rfl) ?_; intro g8)
  refine A5 ⟨nofun, _, kS [3,4,5,6,8] [3,4,6,8] rfl, ?_⟩
  refine A3 <| A3 <| A0 <| A6 rfl rfl <| O9 rfl rfl <| A6 rfl rfl ?_
  refine A5 ⟨nofun, _, kS [3,4,5,6,8,38,39,40] [3,4,6,8] rfl, ?_⟩
  refine D3 <| I5 (β := Nat × List W8 × Nat) [(.t 3, _), (.t 4, _), (.t 5, _), (.t 6, _), (.t 38, _), (.t 39, _), (.h 3, _), (.h 4, _), (.h 6, _)] (fun (z : Nat × List W8 × Nat) => match z with | (k, ls, g1) => [(.t 40, iV k), (.h 8, .obj g1 0 1 (ls.map tV)), (.t 8, .sl 8 g1 none 0 ls.length)]) (fun (z : Nat × List W8 × Nat) => match z with | (k, ls, g1) => k ≤ ws.length ∧ ls = leftN ws i x y k) (fun (z : Nat × List W8 × Nat) => match z with | (k, ls, g1) => ws.length - k) (0, [], _) ⟨rfl, rfl, rfl, rfl, rfl, rfl, rfl, rfl, rfl, rfl, rfl, rfl, trivial⟩ ⟨Nat.zero_le _, rfl⟩ ?_
  intro z hb
  obtain ⟨k, ls, g1⟩ := z
  try dsimp only at hb
  obtain ⟨hk1, hls⟩ := hb
  have hll : ls.length ≤ k := by rw [hls]; exact b5m ws i x y k
  refine A3 <| A0 <| J7 rfl rfl ?_
  refine A5 ⟨nofun, _, kS [3,4,5,6,8,38,39,40,41] [3,4,6,8] rfl, ?_⟩
  refine A3 ?_
  refine A8 rfl (fun hc => ?_) (fun hc => ?_)
  ·try simp only [SG, List.length_map] at hc
   refine B3 <| A3 <| D3 <| A3 <| A0 <| A6 rfl rfl <| I3 rfl rfl rfl rfl (by omega) (by (simp; done)) rfl <| K3 rfl rfl (by omega) (fun _ => rfl) (fun _ => rfl) rfl <| A4 rfl rfl rfl <| A4 rfl rfl rfl ?_
   refine A5 ⟨nofun, _, kS [3,4,5,6,8,9,10,38,39,40] [3,4,6,8] rfl, ?_⟩
   refine A3 <| A0 <| A6 rfl rfl <| A6 rfl rfl <| a4w rfl rfl <| A6 rfl rfl ?_
   refine E4 rfl rfl (fun hg0 => ?_) (fun hg0 => ?_)
   ·have hg := hg0; try simp only [SG] at hg
    refine a2w rfl rfl rfl rfl rfl (by omega) rfl <| gT rfl rfl <| C5 rfl rfl rfl rfl rfl rfl <| G1 rfl (by assumption) rfl rfl <| A6 rfl rfl ?_
    refine E4 rfl rfl (fun hg0 => ?_) (fun hg0 => ?_)
    ·have hg := hg0; try simp only [SG] at hg
     refine A6 rfl rfl <| gT rfl rfl <| A6 rfl rfl <| gT rfl rfl <| I0 rfl rfl (G9 (by omega)) <| gT rfl rfl <| a4w rfl rfl <| gT rfl rfl <| A6 rfl rfl ?_
     refine E4 rfl rfl (fun hg0 => ?_) (fun hg0 => ?_)
     ·have hg := hg0; try simp only [SG] at hg
      refine a2w rfl rfl rfl rfl rfl (by omega) rfl <| gT rfl rfl <| C5 rfl rfl rfl rfl rfl rfl <| gT rfl rfl <| G1 rfl (by assumption) rfl rfl <| G0 rfl (by assumption) rfl rfl <| L3 rfl ?_
      refine A5 ⟨nofun, _, kS [3,4,5,6,8,10,38,39,40,62] [3,4,6,8] rfl, ?_⟩
      refine A8 rfl (fun hc => ?_) (fun hc => ?_)
      ·try simp only [SG, List.length_map] at hc
       refine A0 <| A6 rfl rfl <| A6 rfl rfl <| E7 (es := List.map tV [_]) rfl rfl (of_decide_eq_true rfl) rfl rfl (fun _ => B0 (A9 fun _ => rfl)) (fun _ => rfl) ?_
       intro g65
       refine G8 rfl rfl rfl rfl (by (simp; done)) (by simp) (by decide) rfl rfl rfl rfl (of_decide_eq_true rfl) (fun _ => ⟨rfl, rfl⟩) (by simp only [H3]; omega) (fun _ => rfl) ?_
       intro g66
       (refine B2 rfl rfl (by (simp; done)) rfl (fun _ => (B0 (by exact A9 fun _ => rfl))) (fun _ => rfl) ?_; intro g8)
       refine A5 ⟨nofun, _, kS [3,4,5,6,8,38,39,40] [3,4,6,8] rfl, ?_⟩
       refine A0 <| I0 rfl rfl (G9 (by omega)) <| A6 rfl rfl ?_
       refine A5 ⟨nofun, _, kS [3,4,5,6,8,38,39,40] [3,4,6,8] rfl, ?_⟩
       refine ⟨(k + 1, _, _), ⟨by omega, by (exfalso; omega)⟩, (by simp only; omega), ⟨rfl, rfl, rfl, rfl, rfl, rfl, rfl, rfl, rfl, rfl, rfl, rfl, trivial⟩⟩
      try simp only [SG, List.length_map] at hc
      refine B3 <| A0 <| I0 rfl rfl (G9 (by omega)) <| A6 rfl rfl ?_
      refine A5 ⟨nofun, _, kS [3,4,5,6,8,38,39,40] [3,4,6,8] rfl, ?_⟩
      refine ⟨(k + 1, _, _), ⟨by omega, by (exfalso; omega)⟩, (by simp only; omega), ⟨rfl, rfl, rfl, rfl, rfl, rfl, rfl, rfl, rfl, rfl, rfl, rfl, trivial⟩⟩
     have hg := hg0; try simp only [SG] at hg
     refine gF rfl rfl <| gT rfl rfl <| G0 rfl (by assumption) rfl rfl <| G0 rfl (by assumption) rfl rfl <| L3 rfl ?_
     refine A5 ⟨nofun, _, kS [3,4,5,6,8,10,38,39,40,62] [3,4,6,8] rfl, ?_⟩
     refine A8 rfl (fun hc => ?_) (fun hc => absurd hc (by decide))
     refine A0 <| A6 rfl rfl <| A6 rfl rfl <| E7 (es := List.map tV [_]) rfl rfl (of_decide_eq_true rfl) rfl rfl (fun _ => B0 (A9 fun _ => rfl)) (fun _ => rfl) ?_
     intro g65
     refine G8 rfl rfl rfl rfl (by (simp; done)) (by simp) (by decide) rfl rfl rfl rfl (of_decide_eq_true rfl) (fun _ => ⟨rfl, rfl⟩) (by simp only [H3]; (simp only [List.length_nil, List.length_cons, List.length_append, Nat.zero_add, List.length_map]; omega)) (fun _ => rfl) ?_
     intro g66
     (refine B2 rfl rfl (by (simp; done)) rfl (fun _ => (B0 (by exact A9 fun _ => rfl))) (fun _ => rfl) ?_; intro g8)
     refine A5 ⟨nofun, _, kS [3,4,5,6,8,38,39,40] [3,4,6,8] rfl, ?_⟩
     refine A0 <| I0 rfl rfl (G9 (by omega)) <| A6 rfl rfl ?_
     refine A5 ⟨nofun, _, kS [3,4,5,6,8,38,39,40] [3,4,6,8] rfl, ?_⟩
     refine ⟨(k + 1, _, _), ⟨by omega, by exact b3a hls (by rintro (⟨h1, h2⟩ | ⟨h1, h2⟩) <;> first | omega | exact Bool.noConfusion (h2.symm.trans (show x = false by assumption)))⟩, (by simp only; omega), ⟨rfl, rfl, rfl, rfl, rfl, rfl, rfl, rfl, rfl, rfl, rfl, rfl, trivial⟩⟩
    have hg := hg0; try simp only [SG] at hg
    refine gF rfl rfl <| gF rfl rfl <| gF rfl rfl <| gF rfl rfl <| b5c rfl rfl <| b5c rfl rfl <| gF rfl rfl <| G1 rfl (by assumption) rfl rfl <| L3 rfl ?_
    refine A5 ⟨nofun, _, kS [3,4,5,6,8,10,38,39,40,62] [3,4,6,8] rfl, ?_⟩
    refine A8 rfl (fun hc => absurd hc (by decide)) (fun hc => ?_)
    refine B3 <| A0 <| I0 rfl rfl (G9 (by omega)) <| A6 rfl rfl ?_
    refine A5 ⟨nofun, _, kS [3,4,5,6,8,38,39,40] [3,4,6,8] rfl, ?_⟩
    refine ⟨(k + 1, _, _), ⟨by omega, by exact b5g hls (.inl ⟨by omega, by assumption⟩)⟩, (by simp only; omega), ⟨rfl, rfl, rfl, rfl, rfl, rfl, rfl, rfl, rfl, rfl, rfl, rfl, trivial⟩⟩
   have hg := hg0; try simp only [SG] at hg
   refine gF rfl rfl <| G0 rfl (by assumption) rfl rfl <| A6 rfl rfl <| K0 rfl rfl rfl <| A6 rfl rfl <| K0 rfl rfl rfl <| A6 rfl rfl <| K0 rfl rfl rfl <| I0 rfl rfl (G9 (by omega)) <| K0 rfl rfl rfl <| a4w rfl rfl <| K0 rfl rfl rfl <| A6 rfl rfl ?_
   refine E4 rfl rfl (fun hg0 => ?_) (fun hg0 => ?_)
   ·have hg := hg0; try simp only [SG] at hg
    refine a2w rfl rfl rfl rfl rfl (by omega) rfl <| gT rfl rfl <| C5 rfl rfl rfl rfl rfl rfl <| K0 rfl rfl rfl <| G1 rfl (by assumption) rfl rfl <| G0 rfl rfl rfl rfl <| L3 rfl ?_
    refine A5 ⟨nofun, _, kS [3,4,5,6,8,10,38,39,40,62] [3,4,6,8] rfl, ?_⟩
    refine A8 rfl (fun hc => ?_) (fun hc => ?_)
    ·try simp only [SG, List.length_map] at hc
     refine A0 <| A6 rfl rfl <| A6 rfl rfl <| E7 (es := List.map tV [_]) rfl rfl (of_decide_eq_true rfl) rfl rfl (fun _ => B0 (A9 fun _ => rfl)) (fun _ => rfl) ?_
     intro g65
     refine G8 rfl rfl rfl rfl (by (simp; done)) (by simp) (by decide) rfl rfl rfl rfl (of_decide_eq_true rfl) (fun _ => ⟨rfl, rfl⟩) (by simp only [H3]; (simp only [List.length_nil, List.length_cons, List.length_append, Nat.zero_add, List.length_map]; omega)) (fun _ => rfl) ?_
     intro g66
     (refine B2 rfl rfl (by (simp; done)) rfl (fun _ => (B0 (by exact A9 fun _ => rfl))) (fun _ => rfl) ?_; intro g8)
     refine A5 ⟨nofun, _, kS [3,4,5,6,8,38,39,40] [3,4,6,8] rfl, ?_⟩
     refine A0 <| I0 rfl rfl (G9 (by omega)) <| A6 rfl rfl ?_
     refine A5 ⟨nofun, _, kS [3,4,5,6,8,38,39,40] [3,4,6,8] rfl, ?_⟩
     refine ⟨(k + 1, _, _), ⟨by omega, by exact b3a hls (by rintro (⟨h1, h2⟩ | ⟨h1, h2⟩) <;> first | omega | exact Bool.noConfusion (h2.symm.trans (show y = false by assumption)))⟩, (by simp only; omega), ⟨rfl, rfl, rfl, rfl, rfl, rfl, rfl, rfl, rfl, rfl, rfl, rfl, trivial⟩⟩
    try simp only [SG, List.length_map] at hc
    refine B3 <| A0 <| I0 rfl rfl (G9 (by omega)) <| A6 rfl rfl ?_
    refine A5 ⟨nofun, _, kS [3,4,5,6,8,38,39,40] [3,4,6,8] rfl, ?_⟩
    refine ⟨(k + 1, _, _), ⟨by omega, by exact b5g hls (.inr ⟨by omega, by assumption⟩)⟩, (by simp only; omega), ⟨rfl, rfl, rfl, rfl, rfl, rfl, rfl, rfl, rfl, rfl, rfl, rfl, trivial⟩⟩
   have hg := hg0; try simp only [SG] at hg
   refine gF rfl rfl <| K0 rfl rfl rfl <| G0 rfl (by assumption) rfl rfl <| G0 rfl rfl rfl rfl <| L3 rfl ?_
   refine A5 ⟨nofun, _, kS [3,4,5,6,8,10,38,39,40,62] [3,4,6,8] rfl, ?_⟩
   refine A8 rfl (fun hc => ?_) (fun hc => absurd hc (by decide))
   refine A0 <| A6 rfl rfl <| A6 rfl rfl <| E7 (es := List.map tV [_]) rfl rfl (of_decide_eq_true rfl) rfl rfl (fun _ => B0 (A9 fun _ => rfl)) (fun _ => rfl) ?_
   intro g65
   refine G8 rfl rfl rfl rfl (by (simp; done)) (by simp) (by decide) rfl rfl rfl rfl (of_decide_eq_true rfl) (fun _ => ⟨rfl, rfl⟩) (by simp only [H3]; (simp only [List.length_nil, List.length_cons, List.length_append, Nat.zero_add, List.length_map]; omega)) (fun _ => rfl) ?_
   intro g66
   (refine B2 rfl rfl (by (simp; done)) rfl (fun _ => (B0 (by exact A9 fun _ => rfl))) (fun _ => rfl) ?_; intro g8)
   refine A5 ⟨nofun, _, kS [3,4,5,6,8,38,39,40] [3,4,6,8] rfl, ?_⟩
   refine A0 <| I0 rfl rfl (G9 (by omega)) <| A6 rfl rfl ?_
   refine A5 ⟨nofun, _, kS [3,4,5,6,8,38,39,40] [3,4,6,8] rfl, ?_⟩
   refine ⟨(k + 1, _, _), ⟨by omega, by exact b3a hls (by rintro (⟨h1, h2⟩ | ⟨h1, h2⟩) <;> omega)⟩, (by simp only; omega), ⟨rfl, rfl, rfl, rfl, rfl, rfl, rfl, rfl, rfl, rfl, rfl, rfl, trivial⟩⟩
  try simp only [SG, List.length_map] at hc
  refine H6 <| A0 <| A6 rfl rfl <| A6 rfl rfl ?_
  apply D7 rfl
  ·apply B7
   ·exact K9 rfl rfl rfl (by (simp; done)) (fun _ => rfl)
   apply B7
   ·exact B8 rfl
   exact D6
  ·exact d0j ls 32 (by simp only [H3]; omega) (by rw [hls]; have := c7h (i := i) (x := x) (y := y) hjl (show k = ws.length by omega); simp only [H3]; omega)
  ·exact ⟨rfl, rfl, rfl, of_decide_eq_true rfl, rfl⟩
  ·exact .inr ⟨rfl, rfl⟩
  ·exact C1
  ·exact E3 rfl
  ·exact fun _ => rfl
  intro g70
  refine E7 (es := List.map tV [_]) rfl rfl (of_decide_eq_true rfl) rfl rfl (fun _ => B0 (A9 fun _ => rfl)) (fun _ => rfl) ?_
  intro g71
  refine G8 rfl rfl rfl rfl (by (simp; done)) (by simp) (by decide) rfl rfl rfl rfl (of_decide_eq_true rfl) (fun _ => ⟨rfl, rfl⟩) (by simp only [H3]; (simp only [List.length_nil, List.length_cons, List.length_append, Nat.zero_add, List.length_map]; omega)) (fun _ => rfl) ?_
  intro g72
  (refine B2 rfl rfl (by (simp; done)) rfl (fun _ => (B0 (by exact A9 fun _ => rfl))) (fun _ => rfl) ?_; intro g4)
  refine A5 ⟨nofun, _, kS [3,4,5] [3,4] rfl, ?_⟩
  refine A0 <| A6 rfl rfl <| I0 rfl rfl (G9 (by omega)) <| A4 rfl rfl rfl ?_
  refine A5 ⟨nofun, _, kS [3,4,5] [3,4] rfl, ?_⟩
  refine ⟨(i + 1, _, _), ⟨by omega, by rw [hitsN, List.map_append, hus, b1u, hkey]; (rw [hls, show k = ws.length by omega]; rfl)⟩, (by simp only; omega), ⟨rfl, rfl, rfl, rfl, rfl, trivial⟩⟩
 try simp only [SG, List.length_map] at hc
 refine H6 <| A3 <| A0 <| A6 rfl rfl ?_
 apply D7 rfl
 ·apply B7
  ·exact d3u rfl rfl (by (simp; done)) (A9 fun _ => rfl)
  exact D6
 ·exact d3e us (by simp only [H3]; omega)
 ·exact ⟨rfl, rfl, rfl, of_decide_eq_true rfl, rfl⟩
 ·exact .inl rfl
 ·exact C1
 ·exact N9
 ·exact fun _ => rfl
 intro g74
 simp only [List.length_map]
 (refine B2 rfl rfl (by (simp; done)) rfl (fun _ => (B0 (by exact A9 fun _ => rfl))) (fun _ => rfl) ?_; intro g2)
 refine A5 ⟨nofun, _, kS [2] [2] rfl, ?_⟩
 refine B4 <| S1 rfl rfl (by simp) (by exact A9 fun _ => rfl) trivial ?_
 rw [hus, show i = ws.length - 1 by omega, b3q]

theorem keep_s_OneRuleS : G7 Tryd.f21 = [0, 2, 4, 14, 3, 5, 7, 21, 6, 10] := by kernel_rfl
set_option maxHeartbeats 20000000 in
theorem c4e (s : List UInt8) (hs : s.length ≤ 1048576) : CW (cxT rG) 21 [tV s] = some (.own 1 ((a7f s).map tV), []) := by
 refine F8 rfl Tryd.func21 rfl ⟨by kernel_rfl, rfl, of_decide_eq_true rfl, of_decide_eq_true rfl, by decide⟩ keep_s_OneRuleS <| A3 <| A0 ?_
 (refine B9 rfl rfl (fun _ => rfl) ?_; intro g2)
 refine A5 ⟨nofun, _, kS [0] [] rfl, ?_⟩
 refine A3 <| A0 <| A6 rfl rfl ?_
 apply D7 rfl
 ·apply B7
  ·exact B8 rfl
  exact D6
 ·exact c2r s hs
 ·exact ⟨rfl, rfl, rfl, of_decide_eq_true rfl, rfl⟩
 ·exact .inl rfl
 ·exact C1
 ·exact K5 rfl
 ·exact fun _ => rfl
 intro g10
 refine A6 rfl rfl <| B1 rfl rfl rfl <| B1 rfl rfl rfl <| H2 rfl (fun _ => B5 rfl) (fun _ => rfl) ?_
 intro g3
 refine B6 rfl rfl rfl rfl ⟨by decide, rfl, of_decide_eq_true rfl, of_decide_eq_true rfl, rfl⟩ rfl (by exact B5 rfl) <| A4 rfl rfl rfl ?_
 refine A5 ⟨nofun, _, kS [3,4] [3] rfl, ?_⟩
 refine A3 <| A3 <| A0 <| A6 rfl rfl <| L3 rfl ?_
 refine A5 ⟨nofun, _, kS [3,14] [3] rfl, ?_⟩
 refine A8 rfl (fun hc => ?_) (fun hc => ?_)
 ·try simp only [SG, List.length_map] at hc
  refine A3 <| A0 ?_
  (refine B9 rfl rfl (fun _ => rfl) ?_; intro g2)
  refine A5 ⟨nofun, _, kS [2] [2] rfl, ?_⟩
  refine B4 <| S1 rfl rfl (by simp) (by rfl) trivial ?_
  rw [b5h hc]
  rfl
 try simp only [SG, List.length_map] at hc
 refine B3 <| A3 <| A0 <| F6 rfl rfl rfl rfl rfl ?_
 obtain ⟨t, ht1, ht2, ht3⟩ := b2e hc
 obtain ⟨hst, hwf, hgd, hsl, hsz⟩ := b2i ht1
 rw [ht2, a9d]
 have hol := a0f t
 apply D7 rfl
 ·apply B7
  ·exact B8 rfl
  exact D6
 ·exact c7j t (by omega) hgd
 ·exact ⟨rfl, rfl, rfl, of_decide_eq_true rfl, rfl⟩
 ·exact .inl rfl
 ·exact C1
 ·exact N9
 ·exact fun _ => rfl
 intro g16
 simp only [List.length_map]
 (refine B2 rfl rfl (by (simp; done)) rfl (fun _ => (B0 (by exact A9 fun _ => rfl))) (fun _ => rfl) ?_; intro g5)
 refine A5 ⟨nofun, _, kS [5] [5] rfl, ?_⟩
 refine A3 <| A0 <| E7 (es := List.map tV []) rfl rfl (of_decide_eq_true rfl) rfl rfl (fun _ => B0 (A9 fun _ => rfl)) (fun _ => rfl) ?_
 intro g17
 (refine B2 rfl rfl (by (simp; done)) rfl (fun _ => (B0 (by exact A9 fun _ => rfl))) (fun _ => rfl) ?_; intro g6)
 refine A5 ⟨nofun, _, kS [5,6] [5,6] rfl, ?_⟩
 refine A3 <| A3 <| A0 <| A4 rfl rfl rfl ?_
 refine A5 ⟨nofun, _, kS [5,6,7] [5,6] rfl, ?_⟩
 refine D3 <| I5 (β := Nat × List W8 × Nat) [(.t 5, _), (.h 5, _)] (fun (z : Nat × List W8 × Nat) => match z with | (i, us, g) => [(.t 7, iV i), (.h 6, .obj g 0 1 (us.map tV)), (.t 6, .sl 6 g none 0 us.length)]) (fun (z : Nat × List W8 × Nat) => match z with | (i, us, g) => i ≤ (oneP t).length ∧ us = ((oneP t).take i).map showP) (fun (z : Nat × List W8 × Nat) => match z with | (i, us, g) => (oneP t).length - i) (0, [], _) ⟨rfl, rfl, rfl, rfl, rfl, trivial⟩ ⟨Nat.zero_le _, rfl⟩ ?_
 intro z hb
 obtain ⟨i, us, g⟩ := z
 try dsimp only at hb
 obtain ⟨hi1, hus⟩ := hb
 have hul : us.length ≤ i := by rw [hus, List.length_map, List.length_take]; omega
 refine A3 <| A3 <| A0 <| A6 rfl rfl <| A6 rfl rfl <| O9 rfl rfl <| J7 rfl rfl ?_
 refine A5 ⟨nofun, _, kS [5,6,7,21] [5,6] rfl, ?_⟩
 refine A8 rfl (fun hc => ?_) (fun hc => ?_)
 ·try simp only [SG, List.length_map] at hc
  refine B3 <| A3 <| D3 <| A0 <| A6 rfl rfl <| A6 rfl rfl <| A6 rfl rfl <| I3 rfl rfl rfl rfl (by omega) (by (simp; done)) rfl <| K3 rfl rfl (by omega) (fun _ => rfl) (fun _ => rfl) rfl ?_
  have hmem : (oneP t).getD i default ∈ oneP t := W0 (by omega)
  have hsw := a6u t _ hmem
  rw [← hst] at hsw
  rw [a9d]
  apply D7 rfl
  ·apply B7
   ·exact B8 rfl
   exact D6
  ·exact c3m ((oneP t).getD i default) (by omega) (a6q t hgd _ hmem)
  ·exact ⟨rfl, rfl, rfl, of_decide_eq_true rfl, rfl⟩
  ·exact .inl rfl
  ·exact C1
  ·exact E3 rfl
  ·exact fun _ => rfl
  intro g29
  refine E7 (es := List.map tV [_]) rfl rfl (of_decide_eq_true rfl) rfl rfl (fun _ => B0 (A9 fun _ => rfl)) (fun _ => rfl) ?_
  intro g30
  refine G8 rfl rfl rfl rfl (by (simp; done)) (by simp) (by decide) rfl rfl rfl rfl (of_decide_eq_true rfl) (fun _ => ⟨rfl, rfl⟩) (by simp only [H3]; (simp only [List.length_nil, List.length_cons, List.length_append, Nat.zero_add, List.length_map]; omega)) (fun _ => rfl) ?_
  intro g31
  (refine B2 rfl rfl (by (simp; done)) rfl (fun _ => (B0 (by exact A9 fun _ => rfl))) (fun _ => rfl) ?_; intro g6)
  refine A5 ⟨nofun, _, kS [5,6,7] [5,6] rfl, ?_⟩
  refine A0 <| A6 rfl rfl <| I0 rfl rfl (G9 (by omega)) <| A4 rfl rfl rfl ?_
  refine A5 ⟨nofun, _, kS [5,6,7] [5,6] rfl, ?_⟩
  refine ⟨(i + 1, _, _), ⟨by omega, by rw [hus, a8b (by omega), List.map_append]; rfl⟩, (by simp only; omega), ⟨rfl, rfl, rfl, rfl, rfl, trivial⟩⟩
 try simp only [SG, List.length_map] at hc
 refine H6 <| A3 <| A0 <| A6 rfl rfl ?_
 (refine B2 rfl rfl (by (simp; done)) rfl (fun _ => (B0 (by exact A9 fun _ => rfl))) (fun _ => rfl) ?_; intro g2)
 refine A5 ⟨nofun, _, kS [2] [2] rfl, ?_⟩
 refine B4 <| S1 rfl rfl (by simp) (by exact A9 fun _ => rfl) trivial ?_
 rw [b5z ht1, hus, List.take_of_length_le (by omega)]

theorem keep_s_OneRuleI : G7 Tryd.f22 = [0, 2, 5] := by kernel_rfl
set_option maxHeartbeats 20000000 in
theorem b1h (s : List UInt8) (hs : s.length ≤ 1048576) : CW (cxT rG) 22 [tV s] = some (.own 1 ((a7f s).map tV), []) := by
 refine F8 rfl Tryd.func22 rfl ⟨by kernel_rfl, rfl, of_decide_eq_true rfl, of_decide_eq_true rfl, by decide⟩ keep_s_OneRuleI <| A3 <| A0 ?_
 (refine B9 rfl rfl (fun _ => rfl) ?_; intro g2)
 refine A5 ⟨nofun, _, kS [0] [] rfl, ?_⟩
 refine A3 <| A3 <| A0 <| A6 rfl rfl ?_
 apply D7 rfl
 ·apply B7
  ·exact B8 rfl
  exact D6
 ·exact b8c s hs
 ·exact ⟨rfl, rfl, rfl, of_decide_eq_true rfl, rfl⟩
 ·exact .inl rfl
 ·exact C1
 ·exact E3 rfl
 ·exact fun _ => rfl
 intro g4
 refine L3 rfl ?_
 refine A5 ⟨nofun, _, kS [0,5] [] rfl, ?_⟩
 refine A8 rfl (fun hc => ?_) (fun hc => ?_)
 ·try simp only [SG, List.length_map] at hc
  refine A3 <| A0 ?_
  (refine B9 rfl rfl (fun _ => rfl) ?_; intro g2)
  refine A5 ⟨nofun, _, kS [2] [2] rfl, ?_⟩
  refine B4 <| S1 rfl rfl (by simp) (by rfl) trivial ?_
  rw [b5h hc]
  rfl
 try simp only [SG, List.length_map] at hc
 refine B3 <| A3 <| A0 <| A6 rfl rfl ?_
 obtain ⟨t, ht1, ht2, ht3⟩ := b2e hc
 obtain ⟨hst, hwf, hgd, hsl, hsz⟩ := b2i ht1
 apply D7 rfl
 ·apply B7
  ·exact B8 rfl
  exact D6
 ·exact (by have hi := d3q (rG := rG) s (by omega) (by rw [hst, b1n hwf]; omega); rw [hst, c2m hwf, ← hst] at hi; exact hi)
 ·exact ⟨rfl, rfl, rfl, of_decide_eq_true rfl, rfl⟩
 ·exact .inl rfl
 ·exact C1
 ·exact N9
 ·exact fun _ => rfl
 intro g7
 simp only [List.length_map]
 (refine B2 rfl rfl (by (simp; done)) rfl (fun _ => (B0 (by exact A9 fun _ => rfl))) (fun _ => rfl) ?_; intro g2)
 refine A5 ⟨nofun, _, kS [2] [2] rfl, ?_⟩
 refine B4 <| S1 rfl rfl (by simp) (by exact A9 fun _ => rfl) trivial ?_
 rw [b5z ht1]

theorem keep_s_FnExactOneRule : G7 Tryd.f8 = [0, 2, 10, 3, 4, 18, 5, 6, 26, 29, 7, 35, 40, 43] := by kernel_rfl
set_option maxHeartbeats 20000000 in
theorem a7t (s : List UInt8) : CW (cxT rG) 8 [tV s] = some (bV true, []) := by
 have hcl := d0x s
 have hml := a5r 1 (a7f s).length
 refine F8 rfl Tryd.func8 rfl ⟨by kernel_rfl, rfl, of_decide_eq_true rfl, of_decide_eq_true rfl, by decide⟩ keep_s_FnExactOneRule <| A3 <| A0 <| A4 rfl rfl rfl ?_
 refine A5 ⟨nofun, _, kS [0] [] rfl, ?_⟩
 refine A3 <| A3 <| A0 <| A6 rfl rfl <| a3r rfl rfl <| X6 rfl rfl ?_
 refine A5 ⟨nofun, _, kS [0,10] [] rfl, ?_⟩
 refine A8 rfl (fun hc => ?_) (fun hc => ?_)
 ·try simp only [SG, List.length_map] at hc
  refine A3 <| A0 <| A4 rfl rfl rfl ?_
  refine A5 ⟨nofun, _, kS [2] [] rfl, ?_⟩
  refine B4 <| C7 rfl rfl trivial ?_
  rfl
 try simp only [SG, List.length_map] at hc
 refine B3 <| A3 <| A0 <| A6 rfl rfl ?_
 apply D7 rfl
 ·apply B7
  ·exact B8 rfl
  exact D6
 ·exact c4e s (by omega)
 ·exact ⟨rfl, rfl, rfl, of_decide_eq_true rfl, rfl⟩
 ·exact .inl rfl
 ·exact C1
 ·exact N9
 ·exact fun _ => rfl
 intro g12
 simp only [List.length_map]
 (refine B2 rfl rfl (by (simp; done)) rfl (fun _ => (B0 (by exact A9 fun _ => rfl))) (fun _ => rfl) ?_; intro g3)
 refine A5 ⟨nofun, _, kS [0,3] [3] rfl, ?_⟩
 refine A3 <| A0 <| A6 rfl rfl ?_
 apply D7 rfl
 ·apply B7
  ·exact B8 rfl
  exact D6
 ·exact b1h s (by omega)
 ·exact ⟨rfl, rfl, rfl, of_decide_eq_true rfl, rfl⟩
 ·exact .inl rfl
 ·exact C1
 ·exact N9
 ·exact fun _ => rfl
 intro g14
 simp only [List.length_map]
 (refine B2 rfl rfl (by (simp; done)) rfl (fun _ => (B0 (by exact A9 fun _ => rfl))) (fun _ => rfl) ?_; intro g4)
 refine A5 ⟨nofun, _, kS [0,3,4] [3,4] rfl, ?_⟩
 refine A3 <| A3 <| A0 <| A6 rfl rfl <| A6 rfl rfl ?_
 apply D7 rfl
 ·apply B7
  ·exact K9 rfl rfl rfl (by (simp; done)) (fun _ => rfl)
  apply B7
  ·exact K9 rfl rfl rfl (by (simp; done)) (fun _ => rfl)
  exact D6
 ·exact a9u (a7f s) (by omega)
 ·exact ⟨rfl, rfl, rfl, of_decide_eq_true rfl, rfl⟩
 ·exact .inr ⟨rfl, rfl⟩
 ·exact C1
 ·exact E3 rfl
 ·exact fun _ => rfl
 intro g17
 refine L3 rfl ?_
 refine A5 ⟨nofun, _, kS [0,3,4,18] [3,4] rfl, ?_⟩
 refine A8 rfl (fun hc => absurd hc (by decide)) (fun hc => ?_)
 refine B3 <| A3 <| A0 <| A4 rfl rfl rfl ?_
 refine A5 ⟨nofun, _, kS [0,3,4,5] [3,4] rfl, ?_⟩
 refine A3 <| A0 <| A6 rfl rfl <| A6 rfl rfl ?_
 obtain ⟨_, _, ⟨rfl, rfl⟩, hM⟩ := b4i (rG := rG) (a7f s) (by omega) 1 (by omega)
 apply D7 rfl
 ·apply B7
  ·exact d0m rfl rfl (by decide) (by (simp; done)) (a5y fun _ => rfl)
  apply B7
  ·exact B8 rfl
  exact D6
 ·exact hM
 ·exact ⟨rfl, rfl, rfl, of_decide_eq_true rfl, rfl⟩
 ·exact .inl rfl
 ·exact c7f rfl (by simp) (c2s (fun _ => rfl) _ _) C1
 ·exact E3 rfl
 ·(intro _; exact D8 (B0 (A9 fun _ => rfl)) rfl)
 intro g21
 refine A4 rfl rfl rfl ?_
 refine A5 ⟨nofun, _, kS [0,3,4,5] [3,4] rfl, ?_⟩
 refine A3 <| A0 <| A4 rfl rfl rfl ?_
 refine A5 ⟨nofun, _, kS [0,3,4,5,6] [3,4] rfl, ?_⟩
 refine A3 <| A0 <| A6 rfl rfl <| A6 rfl rfl ?_
 apply D7 rfl
 ·apply B7
  ·exact K9 rfl rfl rfl (by (simp; done)) (fun _ => rfl)
  apply B7
  ·exact B8 rfl
  exact D6
 ·exact a5a (a7f s).length (by omega) 1 (by omega)
 ·exact ⟨rfl, rfl, rfl, of_decide_eq_true rfl, rfl⟩
 ·exact .inr ⟨rfl, rfl⟩
 ·exact C1
 ·exact E3 rfl
 ·exact fun _ => rfl
 intro g24
 refine A4 rfl rfl rfl ?_
 refine A5 ⟨nofun, _, kS [0,3,4,5,6] [3,4] rfl, ?_⟩
 refine A3 <| A3 <| A0 <| A6 rfl rfl <| J7 rfl rfl ?_
 refine A5 ⟨nofun, _, kS [0,3,4,5,6,26] [3,4] rfl, ?_⟩
 refine A8 rfl (fun hc => ?_) (fun hc => ?_)
 ·try simp only [SG, List.length_map] at hc
  refine A3 <| A0 <| A4 rfl rfl rfl ?_
  refine A5 ⟨nofun, _, kS [2] [] rfl, ?_⟩
  refine B4 <| C7 rfl rfl trivial ?_
  (exfalso; omega)
 try simp only [SG, List.length_map] at hc
 refine B3 <| A3 <| A3 <| A0 <| A6 rfl rfl <| A6 rfl rfl <| b3u rfl rfl ?_
 refine A5 ⟨nofun, _, kS [0,3,4,5,29] [3,4] rfl, ?_⟩
 refine A8 rfl (fun hc => ?_) (fun hc => ?_)
 ·try simp only [SG, List.length_map] at hc
  refine A3 <| A0 <| A4 rfl rfl rfl ?_
  refine A5 ⟨nofun, _, kS [2] [] rfl, ?_⟩
  refine B4 <| C7 rfl rfl trivial ?_
  (simp_all; done)
 try simp only [SG, List.length_map] at hc
 refine B3 <| A3 <| A0 <| A6 rfl rfl ?_
 apply D7 rfl
 ·apply B7
  ·exact B8 rfl
  exact D6
 ·exact b1h s (by omega)
 ·exact ⟨rfl, rfl, rfl, of_decide_eq_true rfl, rfl⟩
 ·exact .inl rfl
 ·exact C1
 ·exact N9
 ·exact fun _ => rfl
 intro g31
 simp only [List.length_map]
 (refine B2 rfl rfl (by (simp; done)) rfl (fun _ => (B0 (by exact A9 fun _ => rfl))) (fun _ => rfl) ?_; intro g7)
 refine A5 ⟨nofun, _, kS [3,4,5,7] [3,4,7] rfl, ?_⟩
 refine A3 <| A3 <| A0 <| A6 rfl rfl <| A6 rfl rfl ?_
 apply D7 rfl
 ·apply B7
  ·exact K9 rfl rfl rfl (by (simp; done)) (fun _ => rfl)
  apply B7
  ·exact K9 rfl rfl rfl (by (simp; done)) (fun _ => rfl)
  exact D6
 ·exact a9u (a7f s) (by omega)
 ·exact ⟨rfl, rfl, rfl, of_decide_eq_true rfl, rfl⟩
 ·exact .inr ⟨rfl, rfl⟩
 ·exact C1
 ·exact E3 rfl
 ·exact fun _ => rfl
 intro g34
 refine L3 rfl ?_
 refine A5 ⟨nofun, _, kS [4,5,35] [4] rfl, ?_⟩
 refine A8 rfl (fun hc => absurd hc (by decide)) (fun hc => ?_)
 refine B3 <| A3 <| A0 <| A4 rfl rfl rfl ?_
 refine A5 ⟨nofun, _, kS [4,5,6] [4] rfl, ?_⟩
 refine A3 <| A0 <| A6 rfl rfl <| A6 rfl rfl ?_
 apply D7 rfl
 ·apply B7
  ·exact K9 rfl rfl rfl (by (simp; done)) (fun _ => rfl)
  apply B7
  ·exact B8 rfl
  exact D6
 ·exact a5a (a7f s).length (by omega) 1 (by omega)
 ·exact ⟨rfl, rfl, rfl, of_decide_eq_true rfl, rfl⟩
 ·exact .inr ⟨rfl, rfl⟩
 ·exact C1
 ·exact E3 rfl
 ·exact fun _ => rfl
 intro g38
 refine A4 rfl rfl rfl ?_
 refine A5 ⟨nofun, _, kS [5,6] [] rfl, ?_⟩
 refine A3 <| A3 <| A0 <| A6 rfl rfl <| J7 rfl rfl ?_
 refine A5 ⟨nofun, _, kS [5,6,40] [] rfl, ?_⟩
 refine A8 rfl (fun hc => ?_) (fun hc => ?_)
 ·try simp only [SG, List.length_map] at hc
  refine A3 <| A0 <| A4 rfl rfl rfl ?_
  refine A5 ⟨nofun, _, kS [2] [] rfl, ?_⟩
  refine B4 <| C7 rfl rfl trivial ?_
  (exfalso; omega)
 try simp only [SG, List.length_map] at hc
 refine B3 <| A3 <| A3 <| A0 <| A6 rfl rfl <| A6 rfl rfl <| b3u rfl rfl ?_
 refine A5 ⟨nofun, _, kS [43] [] rfl, ?_⟩
 refine A8 rfl (fun hc => ?_) (fun hc => ?_)
 ·try simp only [SG, List.length_map] at hc
  refine A3 <| A0 <| A4 rfl rfl rfl ?_
  refine A5 ⟨nofun, _, kS [2] [] rfl, ?_⟩
  refine B4 <| C7 rfl rfl trivial ?_
  (simp_all; done)
 try simp only [SG, List.length_map] at hc
 refine B3 <| A3 <| A0 <| A4 rfl rfl rfl ?_
 refine A5 ⟨nofun, _, kS [2] [] rfl, ?_⟩
 refine B4 <| C7 rfl rfl trivial ?_
 rfl
end Go.Proofs.YtpjgdgnaeohmeaaDoor
