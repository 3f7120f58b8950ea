/- What each function of the program gives on the abstract machine, part 1 of 2. Conditions: those in front of each theorem. -/
import Derived.Test.YtpjgdgnaeohmeaaGreatDoorMd
import Derived.Test.YtpjgdgnaeohmeaaGreatDoorChecked
import Derived.KernelRfl

set_option linter.unusedVariables false
set_option linter.unusedSimpArgs false
namespace Go.Proofs.YtpjgdgnaeohmeaaGreatDoor
open Go Go.Mv Go.Proofs
set_option maxRecDepth 100000

theorem SD : (∀ {p : Prop} [Decidable p], (decide p = true) = p) ∧ (∀ {p : Prop} {_ : Decidable p}, decide p = false ↔ ¬p) ∧ (∀ (b : Bool), ((!b) = true) = (b = false)) ∧ (∀ (b : Bool), ((!b) = false) = (b = true)) ∧ (∀ {α : Type} [BEq α] [LawfulBEq α] {a b : α}, (a != b) = true ↔ a ≠ b) ∧
    (∀ {α : Type} [BEq α] [LawfulBEq α] {a b : α}, (a == b) = true ↔ a = b) ∧ (∀ {α : Type} (a b : α), (a ≠ b) = ¬a = b) ∧ (!true) = false ∧ (!false) = true ∧ (∀ {α : Type} [BEq α] [LawfulBEq α] {a b : α}, (a == b) = false ↔ a ≠ b) ∧ (∀ {α : Type} [BEq α] [LawfulBEq α] {a b : α}, (a != b) = false ↔ a = b) ∧
    (∀ {p : Prop} [Decidable p], ¬¬p ↔ p) ∧ (∀ {a b : Int}, ¬a < b ↔ b ≤ a) ∧ (∀ {a b : Int}, ¬a ≤ b ↔ b < a) :=
  ⟨@decide_eq_true_eq, @decide_eq_false_iff_not, @Bool.not_eq_true', @Bool.not_eq_false', @bne_iff_ne, @beq_iff_eq, @ne_eq, @Bool.not_true, @Bool.not_false, @beq_eq_false_iff_ne, @bne_eq_false_iff_eq, @Decidable.not_not, @Int.not_lt, @Int.not_le⟩
theorem SG : ((∀ {p : Prop} [Decidable p], (decide p = true) = p) ∧ (∀ {p : Prop} {_ : Decidable p}, decide p = false ↔ ¬p) ∧ (∀ (b : Bool), ((!b) = true) = (b = false)) ∧ (∀ (b : Bool), ((!b) = false) = (b = true)) ∧ (∀ {α : Type} [BEq α] [LawfulBEq α] {a b : α}, (a != b) = true ↔ a ≠ b) ∧
    (∀ {α : Type} [BEq α] [LawfulBEq α] {a b : α}, (a == b) = true ↔ a = b) ∧ (∀ {α : Type} (a b : α), (a ≠ b) = ¬a = b) ∧ (!true) = false ∧ (!false) = true ∧ (∀ {α : Type} [BEq α] [LawfulBEq α] {a b : α}, (a == b) = false ↔ a ≠ b) ∧ (∀ {α : Type} [BEq α] [LawfulBEq α] {a b : α}, (a != b) = false ↔ a = b) ∧
    (∀ {p : Prop} [Decidable p], ¬¬p ↔ p) ∧ (∀ {a b : Int}, ¬a < b ↔ b ≤ a) ∧ (∀ {a b : Int}, ¬a ≤ b ↔ b < a)) ∧
    (∀ (a b : Bool), ((a && b) = true) = (a = true ∧ b = true)) ∧ (∀ {x y : Bool}, (x && y) = false ↔ x = false ∨ y = false) ∧ (∀ (a b : Bool), ((a || b) = true) = (a = true ∨ b = true)) ∧ (∀ {x y : Bool}, (x || y) = false ↔ x = false ∧ y = false) :=
  ⟨SD, @Bool.and_eq_true, @Bool.and_eq_false_iff, @Bool.or_eq_true, @Bool.or_eq_false_iff⟩
def d0h (keep : List Nat) (A : Asr) : List Mv.Loc → Asr → Option Asr
  | l :: ls, B => match keepLoc keep l, Mv.look A l with
    | true, some a => d0h keep A ls ((l, a) :: B)
    | _, _ => none
  | [], B => some B
theorem c5x {keep : List Nat} {A : Asr} : ∀ (ls : List Mv.Loc) {B C : Asr}, KeepL keep A B → d0h keep A ls B = some C → KeepL keep A C
  | [], B, C, h, e => by simp only [d0h, Option.some.injEq] at e; rw [← e]; exact h
  | l :: ls, B, C, h, e => by
    simp only [d0h] at e
    split at e
    · exact c5x ls (show KeepL keep A ((l, _) :: B) from ⟨by assumption, by assumption, h⟩) e
    · cases e
theorem kS (ts hs : List Nat) {keep : List Nat} {A B : Asr} (h : d0h keep A (ts.map .t ++ hs.map .h) [] = some B) : KeepL keep A B := c5x _ (show KeepL keep A [] from trivial) h
section
variable {cx : Cx} {keep : List Nat} {ops0 : Array Oper} {r : List Oper} {A : Asr} {Q : Asr → List Log → Prop}
variable {d ty : Nat} {pos : String} {aft : Array Edge}
theorem gT {op : Op} {dst : Option Nat} {g dg : Nat} {want b : Bool} (hd : (ops0[g]?).bind (·.dst) = some dg) (hb : Mv.look A (.t dg) = some (.val (.bool b)))
    (h : XR cx keep ops0 (⟨dst, op, ty, pos, aft, none⟩ :: r) A fun A' lg => Q A' (c5r (.t dg) lg)) (hw : b = want := by assumption) : XR cx keep ops0 (⟨dst, op, ty, pos, aft, some (g, want)⟩ :: r) A Q := W1 hd hb hw h
theorem gF {op : Op} {g dg : Nat} {want b : Bool} (hd : (ops0[g]?).bind (·.dst) = some dg) (hb : Mv.look A (.t dg) = some (.val (.bool b)))
    (h : XR cx keep ops0 r ((.t d, .val (.tuple #[])) :: A) fun A' lg => Q A' (([.t dg], [.t d]) :: lg)) (hw : b = !want := by assumption) : XR cx keep ops0 (⟨some d, op, ty, pos, aft, some (g, want)⟩ :: r) A Q := F0 hd hb hw h
end

def mdT : List (Nat × List Nat) := [(11, [3, 3, 3, 3]), (14, [2]), (23, [3, 3, 3, 3]), (24, [3, 3, 3, 3]), (25, [3, 3, 3, 3]), (26, [2]), (28, [3, 3, 3, 3]), (30, [0, 2]), (31, [0, 2]), (32, [2]), (35, [1]), (40, [3, 3, 3, 3]), (44, [3, 3, 3, 3]), (45, [3, 3, 3, 3]), (46, [3, 3, 3, 3]), (47, [3, 3, 3, 3]), (48, [3, 3, 3, 3]), (51, [3, 3, 3, 3]), (59, [3, 3, 3, 3]), (63, [3, 3, 3, 3]), (64, [3, 3, 3, 3]), (68, [2]), (71, [3, 3, 3, 3])]
noncomputable def d4u : List (Nat × (List AV → Option (AV × List (List AV)))) := [(60, b2x), (61, b7h), (69, a8v), (78, b1o), (95, b7u), (96, b8b), (97, b7m)]
variable {oG : Option Nat} {rG : Nat}
noncomputable def cxT (oG : Option Nat) : Cx := { P := Tryz.prog, md := d6i mdT, ext := c5n d4u, it := fun _ => none, fz := fun k => [25, 28, 40, 48, 51, 64, 71].contains k, fzB := fun T d => [(46, 58), (28, 98)].contains (T, d), gl := fun g => match oG with | some r => if g = 0 then some (.val (.map (some r))) else none | none => none, mp := fun k => match oG with | some r => if k = r then some d1t else none | none => none }
noncomputable def cxE : Cx := { P := Tryz.prog, md := d6i mdT, ext := fun _ => none, fz := fun k => [25, 28, 40, 48, 51, 64, 71].contains k }
theorem c5p (l : List UInt8) (b : UInt8) (hl : l.length < 4294967281) : CW (cxT oG) 60 [tV l, tV [b]] = some (.own 1 ((splitB b l).map tV), []) := a7e (cxT oG) rfl (by show (if l.length < 4294967281 then some ((AV.own 1 ((splitB b l).map tV), []) : AV × List (List AV)) else none) = _; rw [if_pos hl])
theorem d5n (ps : List (List UInt8)) (b : UInt8) (h1 : ps.length ≤ H4) (h2 : (joinB b ps).length ≤ H4) : CW (cxT oG) 61 [.list (ps.map tV), tV [b]] = some (tV (joinB b ps), []) := a7e (cxT oG) rfl (by show ((unT (ps.map tV)).bind fun ps => if ps.length ≤ H4 ∧ (joinB b ps).length ≤ H4 then some ((tV (joinB b ps), []) : AV × List (List AV)) else none) = _; rw [d3o, Option.bind_some, if_pos ⟨h1, h2⟩])
theorem d1x (xs : List Int) (hl : xs.length ≤ H4) : CW (cxT oG) 69 [.list (xs.map iV)] = some (.own 1 (xs.map iV), []) := a7e (cxT oG) rfl (by simp [a8v, d2i, hl])
theorem d4j (n : Int) (h : -9223372036854775808 ≤ n ∧ n ≤ 9223372036854775807) : CW (cxT oG) 78 [iV n] = some (tV (dec n), []) := a7e (cxT oG) rfl (by simp [b1o, h])
theorem d5o (l : List UInt8) (b : UInt8) : CW (cxT oG) 95 [tV l, tV [b]] = some (.tup [tV (a4f b l), bV (decide (l.head? = some b))], []) := a7e (cxT oG) rfl rfl
theorem d5e (l : List UInt8) (b : UInt8) (hl : l.length < 4294967281) : CW (cxT oG) 96 [tV l, tV [b]] = some (.tup [tV (b4y b l), bV (decide (l.getLast? = some b))], []) := a7e (cxT oG) rfl (by show (if l.length < 4294967281 then some ((AV.tup [tV (b4y b l), bV (decide (l.getLast? = some b))], []) : AV × List (List AV)) else none) = _; rw [if_pos hl])
theorem c3w (l : List UInt8) (hl : l.length < 4294967281) : CW (cxT oG) 97 [tV l] = some (atR l, []) := a7e (cxT oG) rfl (by show (if l.length < 4294967281 then some ((atR l, []) : AV × List (List AV)) else none) = _; rw [if_pos hl])

theorem keep_s_inRange : G3 Tryz.f88 = [0, 1, 2, 6] := by kernel_rfl
set_option maxHeartbeats 20000000 in
theorem c6u (n lo hi : Int) : CW (cxT oG) 88 [iV n, iV lo, iV hi] = some (bV (decide (lo ≤ n) && decide (n ≤ hi)), []) := by
 refine G2 rfl Tryz.func88 rfl ⟨by kernel_rfl, rfl, of_decide_eq_true rfl, of_decide_eq_true rfl, by decide⟩ keep_s_inRange <| A3 <| A0 <| A5 rfl rfl rfl ?_
 refine A4 ⟨nofun, _, kS [0,1,2] [] rfl, ?_⟩
 refine A3 <| A0 <| A6 rfl rfl <| A6 rfl rfl <| a8p rfl rfl <| A6 rfl rfl ?_
 refine E3 rfl rfl (fun hg0 => ?_) (fun hg0 => ?_)
 ·have hg := hg0; try simp only [SG] at hg
  refine A6 rfl rfl <| gT rfl rfl <| A6 rfl rfl <| gT rfl rfl <| a8p rfl rfl <| G7 rfl (by assumption) rfl rfl <| A5 rfl rfl rfl ?_
  refine A4 ⟨nofun, _, kS [6] [] rfl, ?_⟩
  refine B3 <| C9 rfl rfl trivial ?_
  simp_all [ofConst]; try omega
 have hg := hg0; try simp only [SG] at hg
 refine gF rfl rfl <| gF rfl rfl <| G6 rfl (by assumption) rfl rfl <| A5 rfl rfl rfl ?_
 refine A4 ⟨nofun, _, kS [6] [] rfl, ?_⟩
 refine B3 <| C9 rfl rfl trivial ?_
 simp_all [ofConst]; try omega

theorem keep_s_in : G3 Tryz.f125 = [0, 1, 2, 6] := by kernel_rfl
set_option maxHeartbeats 20000000 in
theorem d6o (n lo hi : Int) : CW (cxT oG) 125 [iV n, iV lo, iV hi] = some (bV (decide (lo ≤ n) && decide (n ≤ hi)), []) := by
 refine G2 rfl Tryz.func125 rfl ⟨by kernel_rfl, rfl, of_decide_eq_true rfl, of_decide_eq_true rfl, by decide⟩ keep_s_in <| A3 <| A0 <| A5 rfl rfl rfl ?_
 refine A4 ⟨nofun, _, kS [0,1,2] [] rfl, ?_⟩
 refine A3 <| A0 <| A6 rfl rfl <| A6 rfl rfl <| a4a rfl rfl <| A6 rfl rfl ?_
 refine E3 rfl rfl (fun hg0 => ?_) (fun hg0 => ?_)
 ·have hg := hg0; try simp only [SG] at hg
  refine A6 rfl rfl <| gT rfl rfl <| A6 rfl rfl <| gT rfl rfl <| a8p rfl rfl <| G7 rfl (by assumption) rfl rfl <| A5 rfl rfl rfl ?_
  refine A4 ⟨nofun, _, kS [6] [] rfl, ?_⟩
  refine B3 <| C9 rfl rfl trivial ?_
  simp_all [ofConst]; try omega
 have hg := hg0; try simp only [SG] at hg
 refine gF rfl rfl <| gF rfl rfl <| G6 rfl (by assumption) rfl rfl <| A5 rfl rfl rfl ?_
 refine A4 ⟨nofun, _, kS [6] [] rfl, ?_⟩
 refine B3 <| C9 rfl rfl trivial ?_
 simp_all [ofConst]; try omega

theorem keep_s_IndexFunc2 : G3 Tryz.f134 = [0, 1, 4, 8, 7, 9, 5, 16] := by kernel_rfl
set_option maxHeartbeats 20000000 in
theorem b6x (xs : List Int) (hl : xs.length ≤ 1000) (k : Nat) (a b : AV) (q : Int → Bool) (hq : ∀ x, CW (cxT oG) k [iV x, .ipt a 0, .ipt b 0] = some (bV (q x), [])) : ∃ res outs, (fun res outs => ∃ r : Int, res = iV r ∧ outs = [] ∧ decide (0 ≤ r) = xs.any q) res outs ∧ CW (cxT oG) 134 [L xs, .clo k [.ipt a 0, .ipt b 0]] = some (res, outs) := by
 refine T6 rfl Tryz.func134 rfl ⟨by kernel_rfl, rfl, of_decide_eq_true rfl, of_decide_eq_true rfl, by decide⟩ keep_s_IndexFunc2 <| A3 <| A0 <| A5 rfl rfl rfl ?_
 refine A4 ⟨nofun, _, kS [0,1] [] rfl, ?_⟩
 refine A3 <| A3 <| A0 <| A6 rfl rfl <| F4 rfl rfl <| A6 rfl rfl ?_
 refine A4 ⟨nofun, _, kS [0,1,7,8] [] rfl, ?_⟩
 refine D4 <| I8 (β := Nat) [(.t 0, _), (.t 1, _), (.t 7, _)] (fun (i : Nat) => [(.t 8, iV i)]) (fun (i : Nat) => i ≤ xs.length ∧ ∀ j, j < i → q (xs.getD j default) = false) (fun (i : Nat) => xs.length - i) 0 ⟨rfl, rfl, rfl, rfl, trivial⟩ ⟨Nat.zero_le _, fun j h => by omega⟩ ?_
 intro i hb
 obtain ⟨hi1, hi2⟩ := hb
 refine A3 <| A0 <| I0 rfl rfl ?_
 refine A4 ⟨nofun, _, kS [0,1,7,8,9] [] rfl, ?_⟩
 refine A3 ?_
 refine A9 rfl (fun hc => ?_) (fun hc => ?_)
 ·try simp only [SG, List.length_map] at hc
  refine B9 <| A3 <| D4 <| A3 <| A0 <| A6 rfl rfl <| A5 rfl rfl rfl ?_
  refine A4 ⟨nofun, _, kS [0,1,5,7,8] [] rfl, ?_⟩
  refine A3 <| A0 <| A6 rfl rfl <| A6 rfl rfl <| A6 rfl rfl <| G1 rfl rfl rfl (fun _ => rfl) (by omega) <| E6 rfl rfl rfl ?_
  apply c5y rfl rfl
  ·apply B0
   ·exact B6 rfl
   apply B0
   ·exact B6 rfl
   apply B0
   ·exact B6 rfl
   exact C5
  ·exact hq (xs.getD i default)
  ·exact ⟨rfl, rfl, rfl, of_decide_eq_true rfl, rfl⟩
  ·exact .inl rfl
  ·exact B1
  ·exact C0 rfl
  ·exact fun _ => rfl
  intro g16
  refine A4 ⟨nofun, _, kS [0,1,5,7,8,16] [] rfl, ?_⟩
  refine A9 rfl (fun hc => ?_) (fun hc => ?_)
  ·try simp only [SG, List.length_map] at hc
   refine A3 <| A0 <| A6 rfl rfl <| A5 rfl rfl rfl ?_
   refine A4 ⟨nofun, _, kS [4] [] rfl, ?_⟩
   refine B3 ?_
   refine ⟨_, _, ?_, J8 rfl rfl D3⟩
   exact ⟨_, rfl, rfl, d2h (by omega) hc⟩
  try simp only [SG, List.length_map] at hc
  refine B9 <| A0 <| H9 rfl rfl (F9 (by omega)) <| A6 rfl rfl ?_
  refine A4 ⟨nofun, _, kS [0,1,7,8] [] rfl, ?_⟩
  refine ⟨i + 1, ⟨by omega, fun a ha => by rcases Nat.lt_succ_iff_lt_or_eq.1 ha with h | h; exact hi2 a h; subst h; exact hc⟩, (by omega), ⟨rfl, rfl, rfl, rfl, trivial⟩⟩
 try simp only [SG, List.length_map] at hc
 refine H3 <| A3 <| A0 <| A5 rfl rfl rfl ?_
 refine A4 ⟨nofun, _, kS [4] [] rfl, ?_⟩
 refine B3 ?_
 refine ⟨_, _, ?_, J8 rfl rfl D3⟩
 exact ⟨-1, rfl, rfl, c9p fun j hj => hi2 j (by omega)⟩

theorem keep_s_ContainsFunc2 : G3 Tryz.f123 = [0, 1, 4] := by kernel_rfl
set_option maxHeartbeats 20000000 in
theorem b1g (xs : List Int) (hl : xs.length ≤ 1000) (k : Nat) (a b : AV) (q : Int → Bool) (hq : ∀ x, CW (cxT oG) k [iV x, .ipt a 0, .ipt b 0] = some (bV (q x), [])) : CW (cxT oG) 123 [L xs, .clo k [.ipt a 0, .ipt b 0]] = some (bV (xs.any q), []) := by
 obtain ⟨_, _, ⟨r, rfl, rfl, hr⟩, hC⟩ := b6x (oG := oG) xs hl k a b q hq
 refine G2 rfl Tryz.func123 rfl ⟨by kernel_rfl, rfl, of_decide_eq_true rfl, of_decide_eq_true rfl, by decide⟩ keep_s_ContainsFunc2 <| A3 <| A0 <| A5 rfl rfl rfl ?_
 refine A4 ⟨nofun, _, kS [0,1] [] rfl, ?_⟩
 refine A3 <| A0 <| A6 rfl rfl <| A6 rfl rfl ?_
 apply C6 rfl
 ·apply B0
  ·exact B6 rfl
  apply B0
  ·exact a2h rfl (c9e (c9e a2g))
  exact C5
 ·exact hC
 ·exact ⟨rfl, rfl, rfl, of_decide_eq_true rfl, rfl⟩
 ·exact .inl rfl
 ·exact B1
 ·exact C0 rfl
 ·exact fun _ => rfl
 intro g7
 refine a4a rfl rfl <| A5 rfl rfl rfl ?_
 refine A4 ⟨nofun, _, kS [4] [] rfl, ?_⟩
 refine B3 <| C9 rfl rfl trivial ?_
 rw [← hr]

theorem keep_s_allIn1 : G3 Tryz.f124 = [0, 1, 2, 4] := by kernel_rfl
set_option maxHeartbeats 20000000 in
theorem d0w (x lo hi : Int) : CW (cxT oG) 124 [iV x, .ipt (iV lo) 0, .ipt (iV hi) 0] = some (bV (!(decide (lo ≤ x) && decide (x ≤ hi))), []) := by
 refine G2 rfl Tryz.func124 rfl ⟨by kernel_rfl, rfl, of_decide_eq_true rfl, of_decide_eq_true rfl, by decide⟩ keep_s_allIn1 <| A3 <| A0 <| A5 rfl rfl rfl ?_
 refine A4 ⟨nofun, _, kS [0,1,2] [] rfl, ?_⟩
 refine A3 <| A0 <| A6 rfl rfl <| E6 rfl rfl rfl <| E6 rfl rfl rfl ?_
 apply C6 rfl
 ·apply B0
  ·exact B6 rfl
  apply B0
  ·exact B6 rfl
  apply B0
  ·exact B6 rfl
  exact C5
 ·exact d6o _ _ _
 ·exact ⟨rfl, rfl, rfl, of_decide_eq_true rfl, rfl⟩
 ·exact .inl rfl
 ·exact B1
 ·exact C0 rfl
 ·exact fun _ => rfl
 intro g8
 refine Q0 rfl <| A5 rfl rfl rfl ?_
 refine A4 ⟨nofun, _, kS [4] [] rfl, ?_⟩
 refine B3 <| C9 rfl rfl trivial ?_
 rfl

theorem keep_s_allIn : G3 Tryz.f109 = [0, 1, 2, 6, 4, 5] := by kernel_rfl
set_option maxHeartbeats 20000000 in
theorem d3c (xs : List Int) (hl : xs.length ≤ 1000) (lo hi : Int) : CW (cxT oG) 109 [L xs, iV lo, iV hi] = some (bV (a6l lo hi xs), []) := by
 refine G2 rfl Tryz.func109 rfl ⟨by kernel_rfl, rfl, of_decide_eq_true rfl, of_decide_eq_true rfl, by decide⟩ keep_s_allIn <| A3 <| A0 <| a0q rfl rfl rfl (fun _ => B7 rfl) (fun _ => rfl) ?_
 intro g4
 refine a0q rfl rfl rfl (fun _ => B7 rfl) (fun _ => rfl) ?_
 intro g5
 refine A5 rfl rfl rfl ?_
 refine A4 ⟨nofun, _, kS [0,4,5] [4,5] rfl, ?_⟩
 refine A3 <| A0 <| A6 rfl rfl <| Q2 rfl rfl ?_
 apply C6 rfl
 ·apply B0
  ·exact B6 rfl
  apply B0
  ·exact a2h rfl (d0r rfl rfl (d0r rfl rfl a2g))
  exact C5
 ·exact b1g xs hl 124 (iV lo) (iV hi) _ (fun x => d0w x lo hi)
 ·exact ⟨rfl, rfl, rfl, of_decide_eq_true rfl, rfl⟩
 ·exact .inr ⟨rfl, rfl⟩
 ·exact B1
 ·exact C0 rfl
 ·exact fun _ => rfl
 intro g9
 refine Q0 rfl <| A5 rfl rfl rfl ?_
 refine A4 ⟨nofun, _, kS [6] [] rfl, ?_⟩
 refine B3 <| C9 rfl rfl trivial ?_
 exact congrArg bV (c8r lo hi xs)

theorem keep_s_validData : G3 Tryz.f80 = [0, 2, 3, 7, 15] := by kernel_rfl
set_option maxHeartbeats 20000000 in
theorem b9k (xs : List Int) (hl : xs.length ≤ 1048576) : CW (cxT oG) 80 [L xs] = some (bV (vd xs), []) := by
 refine G2 rfl Tryz.func80 rfl ⟨by kernel_rfl, rfl, of_decide_eq_true rfl, of_decide_eq_true rfl, by decide⟩ keep_s_validData <| A3 <| A0 <| A5 rfl rfl rfl ?_
 refine A4 ⟨nofun, _, kS [0] [] rfl, ?_⟩
 refine A3 <| A3 <| A0 <| A5 rfl rfl rfl ?_
 refine A4 ⟨nofun, _, kS [0,3] [] rfl, ?_⟩
 refine D4 <| I8 (β := Nat) [(.t 0, _)] (fun (i : Nat) => [(.t 3, iV i)]) (fun (i : Nat) => i ≤ xs.length ∧ ∀ j, j < i → -200 ≤ xs.getD j default ∧ xs.getD j default ≤ 200) (fun (i : Nat) => xs.length - i) 0 ⟨rfl, rfl, trivial⟩ ⟨Nat.zero_le _, fun j h => by omega⟩ ?_
 intro i hb
 obtain ⟨hi1, hi2⟩ := hb
 refine A3 <| A3 <| A0 <| A6 rfl rfl <| A6 rfl rfl <| F4 rfl rfl <| I0 rfl rfl ?_
 refine A4 ⟨nofun, _, kS [0,3,7] [] rfl, ?_⟩
 refine A9 rfl (fun hc => ?_) (fun hc => ?_)
 ·try simp only [SG, List.length_map] at hc
  refine B9 <| A3 <| D4 <| A3 <| A0 <| A6 rfl rfl <| A6 rfl rfl <| G1 rfl rfl rfl (fun _ => rfl) (by omega) <| E6 rfl rfl rfl ?_
  apply C6 rfl
  ·apply B0
   ·exact B6 rfl
   apply B0
   ·exact B6 rfl
   apply B0
   ·exact B6 rfl
   exact C5
  ·exact c6u _ _ _
  ·exact ⟨rfl, rfl, rfl, of_decide_eq_true rfl, rfl⟩
  ·exact .inl rfl
  ·exact B1
  ·exact C0 rfl
  ·exact fun _ => rfl
  intro g14
  refine Q0 rfl ?_
  refine A4 ⟨nofun, _, kS [0,3,15] [] rfl, ?_⟩
  refine A9 rfl (fun hc => ?_) (fun hc => ?_)
  ·try simp only [SG, List.length_map] at hc
   refine A3 <| A0 <| A5 rfl rfl rfl ?_
   refine A4 ⟨nofun, _, kS [2] [] rfl, ?_⟩
   refine B3 <| C9 rfl rfl trivial ?_
   rw [vd, d0d (show i < xs.length by omega) (by (simp_all; omega)), Bool.and_false]
   rfl
  try simp only [SG, List.length_map] at hc
  refine B9 <| A0 <| A6 rfl rfl <| H9 rfl rfl (F9 (by omega)) <| A5 rfl rfl rfl ?_
  refine A4 ⟨nofun, _, kS [0,3] [] rfl, ?_⟩
  refine ⟨i + 1, ⟨by omega, fun j hj => by rcases Nat.lt_succ_iff_lt_or_eq.1 hj with h | h; (· exact hi2 j h); (· subst h; assumption)⟩, (by omega), ⟨rfl, rfl, trivial⟩⟩
 try simp only [SG, List.length_map] at hc
 refine H3 <| A3 <| A0 <| A6 rfl rfl <| F4 rfl rfl <| a8p rfl rfl <| A5 rfl rfl rfl ?_
 refine A4 ⟨nofun, _, kS [2] [] rfl, ?_⟩
 refine B3 <| C9 rfl rfl trivial ?_
 rw [vd, d3g fun j hj => hi2 j (by omega), Bool.and_true]
 exact congrArg bV (decide_eq_decide.2 (by omega))

theorem keep_s_validDataI : G3 Tryz.f98 = [0, 2] := by kernel_rfl
set_option maxHeartbeats 20000000 in
theorem a7o (xs : List Int) (hl : xs.length ≤ 1048576) : CW (cxT oG) 98 [L xs] = some (bV (vd xs), []) := by
 refine G2 rfl Tryz.func98 rfl ⟨by kernel_rfl, rfl, of_decide_eq_true rfl, of_decide_eq_true rfl, by decide⟩ keep_s_validDataI <| A3 <| A0 <| A5 rfl rfl rfl ?_
 refine A4 ⟨nofun, _, kS [0] [] rfl, ?_⟩
 refine A3 <| A0 <| A6 rfl rfl <| F4 rfl rfl <| a8p rfl rfl <| A6 rfl rfl ?_
 refine E3 rfl rfl (fun hg0 => ?_) (fun hg0 => ?_)
 ·have hg := hg0; try simp only [SG] at hg
  refine A6 rfl rfl <| gT rfl rfl ?_
  apply C6 rfl
  ·apply B0
   ·exact B6 rfl
   apply B0
   ·exact B6 rfl
   apply B0
   ·exact B6 rfl
   exact C5
  ·exact d3c xs (by omega) (-200) 200
  ·exact ⟨rfl, rfl, rfl, of_decide_eq_true rfl, rfl⟩
  ·exact .inl rfl
  ·exact B1
  ·exact C0 rfl
  ·exact fun _ => rfl
  intro g8
  refine G7 rfl (by assumption) rfl rfl <| A5 rfl rfl rfl ?_
  refine A4 ⟨nofun, _, kS [2] [] rfl, ?_⟩
  refine B3 <| C9 rfl rfl trivial ?_
  cases hb : a6l (-200) 200 xs <;> simp_all [vd, ofConst] <;> omega
 have hg := hg0; try simp only [SG] at hg
 refine gF rfl rfl <| G6 rfl (by assumption) rfl rfl <| A5 rfl rfl rfl ?_
 refine A4 ⟨nofun, _, kS [2] [] rfl, ?_⟩
 refine B3 <| C9 rfl rfl trivial ?_
 cases hb : a6l (-200) 200 xs <;> simp_all [vd, ofConst] <;> omega

theorem keep_s_needs : G3 Tryz.f77 = [0, 2, 3, 4, 10, 19] := by kernel_rfl
set_option maxHeartbeats 20000000 in
theorem a7u (w : ByteArray) : CW (cxT oG) 77 [sV w] = some (iV (nd w), []) := by
 refine G2 rfl Tryz.func77 rfl ⟨by kernel_rfl, rfl, of_decide_eq_true rfl, of_decide_eq_true rfl, by decide⟩ keep_s_needs <| A3 <| A0 <| A5 rfl rfl rfl ?_
 refine A4 ⟨nofun, _, kS [0] [] rfl, ?_⟩
 refine A3 <| A3 <| A0 <| A6 rfl rfl ?_
 refine A4 ⟨nofun, _, kS [3] [] rfl, ?_⟩
 refine D4 <| A3 <| A3 <| A0 <| L2 rfl rfl <| A5 rfl rfl rfl ?_
 refine A4 ⟨nofun, _, kS [3,4] [] rfl, ?_⟩
 refine A9 rfl (fun hc => ?_) (fun hc => ?_)
 ·try simp only [SG, List.length_map] at hc
  refine B9 ?_
  refine A9 rfl (fun hc => ?_) (fun hc => absurd hc (by simp_all))
  refine A3 <| A0 <| A5 rfl rfl rfl ?_
  refine A4 ⟨nofun, _, kS [2] [] rfl, ?_⟩
  refine B3 <| C9 rfl rfl trivial <| congrArg iV ?_
  simp_all [nd]
 try simp only [SG, List.length_map] at hc
 refine A3 <| A0 <| L2 rfl rfl <| A5 rfl rfl rfl ?_
 refine A4 ⟨nofun, _, kS [3,4] [] rfl, ?_⟩
 refine A9 rfl (fun hc => ?_) (fun hc => ?_)
 ·try simp only [SG, List.length_map] at hc
  refine B9 ?_
  refine A9 rfl (fun hc => ?_) (fun hc => absurd hc (by simp_all))
  refine A3 <| A0 <| A5 rfl rfl rfl ?_
  refine A4 ⟨nofun, _, kS [2] [] rfl, ?_⟩
  refine B3 <| C9 rfl rfl trivial <| congrArg iV ?_
  simp_all [nd]
 try simp only [SG, List.length_map] at hc
 refine A3 <| A0 <| L2 rfl rfl <| A5 rfl rfl rfl ?_
 refine A4 ⟨nofun, _, kS [3,4] [] rfl, ?_⟩
 refine A9 rfl (fun hc => ?_) (fun hc => ?_)
 ·try simp only [SG, List.length_map] at hc
  refine B9 ?_
  refine A9 rfl (fun hc => ?_) (fun hc => absurd hc (by simp_all))
  refine A3 <| A0 <| A5 rfl rfl rfl ?_
  refine A4 ⟨nofun, _, kS [2] [] rfl, ?_⟩
  refine B3 <| C9 rfl rfl trivial <| congrArg iV ?_
  simp_all [nd]
 try simp only [SG, List.length_map] at hc
 refine A3 <| A0 <| L2 rfl rfl <| A5 rfl rfl rfl ?_
 refine A4 ⟨nofun, _, kS [3,4] [] rfl, ?_⟩
 refine A9 rfl (fun hc => ?_) (fun hc => ?_)
 ·try simp only [SG, List.length_map] at hc
  refine B9 ?_
  refine A9 rfl (fun hc => ?_) (fun hc => absurd hc (by simp_all))
  refine A3 <| A0 <| A5 rfl rfl rfl ?_
  refine A4 ⟨nofun, _, kS [2] [] rfl, ?_⟩
  refine B3 <| C9 rfl rfl trivial <| congrArg iV ?_
  simp_all [nd]
 try simp only [SG, List.length_map] at hc
 refine A0 <| L2 rfl rfl <| A5 rfl rfl rfl ?_
 refine A4 ⟨nofun, _, kS [3,4] [] rfl, ?_⟩
 refine A9 rfl (fun hc => ?_) (fun hc => ?_)
 ·try simp only [SG, List.length_map] at hc
  refine A3 <| A0 <| A5 rfl rfl rfl ?_
  refine A4 ⟨nofun, _, kS [2] [] rfl, ?_⟩
  refine B3 <| C9 rfl rfl trivial <| congrArg iV ?_
  simp_all [nd]
 try simp only [SG, List.length_map] at hc
 refine A3 <| A3 <| A0 <| L2 rfl rfl <| A5 rfl rfl rfl ?_
 refine A4 ⟨nofun, _, kS [3,10] [] rfl, ?_⟩
 refine A9 rfl (fun hc => ?_) (fun hc => ?_)
 ·try simp only [SG, List.length_map] at hc
  refine B9 ?_
  refine A9 rfl (fun hc => ?_) (fun hc => absurd hc (by simp_all))
  refine A3 <| A0 <| A5 rfl rfl rfl ?_
  refine A4 ⟨nofun, _, kS [2] [] rfl, ?_⟩
  refine B3 <| C9 rfl rfl trivial <| congrArg iV ?_
  simp_all [nd]
 try simp only [SG, List.length_map] at hc
 refine A3 <| A0 <| L2 rfl rfl <| A5 rfl rfl rfl ?_
 refine A4 ⟨nofun, _, kS [3,10] [] rfl, ?_⟩
 refine A9 rfl (fun hc => ?_) (fun hc => ?_)
 ·try simp only [SG, List.length_map] at hc
  refine B9 ?_
  refine A9 rfl (fun hc => ?_) (fun hc => absurd hc (by simp_all))
  refine A3 <| A0 <| A5 rfl rfl rfl ?_
  refine A4 ⟨nofun, _, kS [2] [] rfl, ?_⟩
  refine B3 <| C9 rfl rfl trivial <| congrArg iV ?_
  simp_all [nd]
 try simp only [SG, List.length_map] at hc
 refine A3 <| A0 <| L2 rfl rfl <| A5 rfl rfl rfl ?_
 refine A4 ⟨nofun, _, kS [3,10] [] rfl, ?_⟩
 refine A9 rfl (fun hc => ?_) (fun hc => ?_)
 ·try simp only [SG, List.length_map] at hc
  refine B9 ?_
  refine A9 rfl (fun hc => ?_) (fun hc => absurd hc (by simp_all))
  refine A3 <| A0 <| A5 rfl rfl rfl ?_
  refine A4 ⟨nofun, _, kS [2] [] rfl, ?_⟩
  refine B3 <| C9 rfl rfl trivial <| congrArg iV ?_
  simp_all [nd]
 try simp only [SG, List.length_map] at hc
 refine A3 <| A0 <| L2 rfl rfl <| A5 rfl rfl rfl ?_
 refine A4 ⟨nofun, _, kS [3,10] [] rfl, ?_⟩
 refine A9 rfl (fun hc => ?_) (fun hc => ?_)
 ·try simp only [SG, List.length_map] at hc
  refine B9 ?_
  refine A9 rfl (fun hc => ?_) (fun hc => absurd hc (by simp_all))
  refine A3 <| A0 <| A5 rfl rfl rfl ?_
  refine A4 ⟨nofun, _, kS [2] [] rfl, ?_⟩
  refine B3 <| C9 rfl rfl trivial <| congrArg iV ?_
  simp_all [nd]
 try simp only [SG, List.length_map] at hc
 refine A3 <| A0 <| L2 rfl rfl <| A5 rfl rfl rfl ?_
 refine A4 ⟨nofun, _, kS [3,10] [] rfl, ?_⟩
 refine A9 rfl (fun hc => ?_) (fun hc => ?_)
 ·try simp only [SG, List.length_map] at hc
  refine B9 ?_
  refine A9 rfl (fun hc => ?_) (fun hc => absurd hc (by simp_all))
  refine A3 <| A0 <| A5 rfl rfl rfl ?_
  refine A4 ⟨nofun, _, kS [2] [] rfl, ?_⟩
  refine B3 <| C9 rfl rfl trivial <| congrArg iV ?_
  simp_all [nd]
 try simp only [SG, List.length_map] at hc
 refine A3 <| A0 <| L2 rfl rfl <| A5 rfl rfl rfl ?_
 refine A4 ⟨nofun, _, kS [3,10] [] rfl, ?_⟩
 refine A9 rfl (fun hc => ?_) (fun hc => ?_)
 ·try simp only [SG, List.length_map] at hc
  refine B9 ?_
  refine A9 rfl (fun hc => ?_) (fun hc => absurd hc (by simp_all))
  refine A3 <| A0 <| A5 rfl rfl rfl ?_
  refine A4 ⟨nofun, _, kS [2] [] rfl, ?_⟩
  refine B3 <| C9 rfl rfl trivial <| congrArg iV ?_
  simp_all [nd]
 try simp only [SG, List.length_map] at hc
 refine A3 <| A0 <| L2 rfl rfl <| A5 rfl rfl rfl ?_
 refine A4 ⟨nofun, _, kS [3,10] [] rfl, ?_⟩
 refine A9 rfl (fun hc => ?_) (fun hc => ?_)
 ·try simp only [SG, List.length_map] at hc
  refine B9 ?_
  refine A9 rfl (fun hc => ?_) (fun hc => absurd hc (by simp_all))
  refine A3 <| A0 <| A5 rfl rfl rfl ?_
  refine A4 ⟨nofun, _, kS [2] [] rfl, ?_⟩
  refine B3 <| C9 rfl rfl trivial <| congrArg iV ?_
  simp_all [nd]
 try simp only [SG, List.length_map] at hc
 refine A0 <| L2 rfl rfl <| A5 rfl rfl rfl ?_
 refine A4 ⟨nofun, _, kS [3,10] [] rfl, ?_⟩
 refine A9 rfl (fun hc => ?_) (fun hc => ?_)
 ·try simp only [SG, List.length_map] at hc
  refine A3 <| A0 <| A5 rfl rfl rfl ?_
  refine A4 ⟨nofun, _, kS [2] [] rfl, ?_⟩
  refine B3 <| C9 rfl rfl trivial <| congrArg iV ?_
  simp_all [nd]
 try simp only [SG, List.length_map] at hc
 refine A3 <| A3 <| A0 <| L2 rfl rfl <| A5 rfl rfl rfl ?_
 refine A4 ⟨nofun, _, kS [3,19] [] rfl, ?_⟩
 refine A9 rfl (fun hc => ?_) (fun hc => ?_)
 ·try simp only [SG, List.length_map] at hc
  refine B9 ?_
  refine A9 rfl (fun hc => ?_) (fun hc => absurd hc (by simp_all))
  refine A3 <| A0 <| A5 rfl rfl rfl ?_
  refine A4 ⟨nofun, _, kS [2] [] rfl, ?_⟩
  refine B3 <| C9 rfl rfl trivial <| congrArg iV ?_
  simp_all [nd]
 try simp only [SG, List.length_map] at hc
 refine A0 <| L2 rfl rfl <| A5 rfl rfl rfl ?_
 refine A4 ⟨nofun, _, kS [19] [] rfl, ?_⟩
 refine A9 rfl (fun hc => ?_) (fun hc => ?_)
 ·try simp only [SG, List.length_map] at hc
  refine A3 <| A0 <| A5 rfl rfl rfl ?_
  refine A4 ⟨nofun, _, kS [2] [] rfl, ?_⟩
  refine B3 <| C9 rfl rfl trivial <| congrArg iV ?_
  simp_all [nd]
 try simp only [SG, List.length_map] at hc
 refine B9 <| A3 <| A0 <| A5 rfl rfl rfl ?_
 refine A4 ⟨nofun, _, kS [2] [] rfl, ?_⟩
 refine B3 <| C9 rfl rfl trivial <| congrArg iV ?_
 simp_all [nd]

theorem keep_s_reachOf : G3 Tryz.f67 = [0, 2, 3, 4, 13, 16] := by kernel_rfl
set_option maxHeartbeats 20000000 in
theorem c6z (w : ByteArray) : CW (cxT oG) 67 [sV w] = some (iV (rch w), []) := by
 refine G2 rfl Tryz.func67 rfl ⟨by kernel_rfl, rfl, of_decide_eq_true rfl, of_decide_eq_true rfl, by decide⟩ keep_s_reachOf <| A3 <| A0 <| A5 rfl rfl rfl ?_
 refine A4 ⟨nofun, _, kS [0] [] rfl, ?_⟩
 refine A3 <| A3 <| A0 <| A6 rfl rfl ?_
 refine A4 ⟨nofun, _, kS [3] [] rfl, ?_⟩
 refine D4 <| A3 <| A3 <| A0 <| L2 rfl rfl <| A5 rfl rfl rfl ?_
 refine A4 ⟨nofun, _, kS [3,4] [] rfl, ?_⟩
 refine A9 rfl (fun hc => ?_) (fun hc => ?_)
 ·try simp only [SG, List.length_map] at hc
  refine B9 ?_
  refine A9 rfl (fun hc => ?_) (fun hc => absurd hc (by simp_all))
  refine A3 <| A0 <| A5 rfl rfl rfl ?_
  refine A4 ⟨nofun, _, kS [2] [] rfl, ?_⟩
  refine B3 <| C9 rfl rfl trivial <| congrArg iV ?_
  simp_all [rch]
 try simp only [SG, List.length_map] at hc
 refine A3 <| A0 <| L2 rfl rfl <| A5 rfl rfl rfl ?_
 refine A4 ⟨nofun, _, kS [3,4] [] rfl, ?_⟩
 refine A9 rfl (fun hc => ?_) (fun hc => ?_)
 ·try simp only [SG, List.length_map] at hc
  refine B9 ?_
  refine A9 rfl (fun hc => ?_) (fun hc => absurd hc (by simp_all))
  refine A3 <| A0 <| A5 rfl rfl rfl ?_
  refine A4 ⟨nofun, _, kS [2] [] rfl, ?_⟩
  refine B3 <| C9 rfl rfl trivial <| congrArg iV ?_
  simp_all [rch]
 try simp only [SG, List.length_map] at hc
 refine A3 <| A0 <| L2 rfl rfl <| A5 rfl rfl rfl ?_
 refine A4 ⟨nofun, _, kS [3,4] [] rfl, ?_⟩
 refine A9 rfl (fun hc => ?_) (fun hc => ?_)
 ·try simp only [SG, List.length_map] at hc
  refine B9 ?_
  refine A9 rfl (fun hc => ?_) (fun hc => absurd hc (by simp_all))
  refine A3 <| A0 <| A5 rfl rfl rfl ?_
  refine A4 ⟨nofun, _, kS [2] [] rfl, ?_⟩
  refine B3 <| C9 rfl rfl trivial <| congrArg iV ?_
  simp_all [rch]
 try simp only [SG, List.length_map] at hc
 refine A3 <| A0 <| L2 rfl rfl <| A5 rfl rfl rfl ?_
 refine A4 ⟨nofun, _, kS [3,4] [] rfl, ?_⟩
 refine A9 rfl (fun hc => ?_) (fun hc => ?_)
 ·try simp only [SG, List.length_map] at hc
  refine B9 ?_
  refine A9 rfl (fun hc => ?_) (fun hc => absurd hc (by simp_all))
  refine A3 <| A0 <| A5 rfl rfl rfl ?_
  refine A4 ⟨nofun, _, kS [2] [] rfl, ?_⟩
  refine B3 <| C9 rfl rfl trivial <| congrArg iV ?_
  simp_all [rch]
 try simp only [SG, List.length_map] at hc
 refine A3 <| A0 <| L2 rfl rfl <| A5 rfl rfl rfl ?_
 refine A4 ⟨nofun, _, kS [3,4] [] rfl, ?_⟩
 refine A9 rfl (fun hc => ?_) (fun hc => ?_)
 ·try simp only [SG, List.length_map] at hc
  refine B9 ?_
  refine A9 rfl (fun hc => ?_) (fun hc => absurd hc (by simp_all))
  refine A3 <| A0 <| A5 rfl rfl rfl ?_
  refine A4 ⟨nofun, _, kS [2] [] rfl, ?_⟩
  refine B3 <| C9 rfl rfl trivial <| congrArg iV ?_
  simp_all [rch]
 try simp only [SG, List.length_map] at hc
 refine A3 <| A0 <| L2 rfl rfl <| A5 rfl rfl rfl ?_
 refine A4 ⟨nofun, _, kS [3,4] [] rfl, ?_⟩
 refine A9 rfl (fun hc => ?_) (fun hc => ?_)
 ·try simp only [SG, List.length_map] at hc
  refine B9 ?_
  refine A9 rfl (fun hc => ?_) (fun hc => absurd hc (by simp_all))
  refine A3 <| A0 <| A5 rfl rfl rfl ?_
  refine A4 ⟨nofun, _, kS [2] [] rfl, ?_⟩
  refine B3 <| C9 rfl rfl trivial <| congrArg iV ?_
  simp_all [rch]
 try simp only [SG, List.length_map] at hc
 refine A3 <| A0 <| L2 rfl rfl <| A5 rfl rfl rfl ?_
 refine A4 ⟨nofun, _, kS [3,4] [] rfl, ?_⟩
 refine A9 rfl (fun hc => ?_) (fun hc => ?_)
 ·try simp only [SG, List.length_map] at hc
  refine B9 ?_
  refine A9 rfl (fun hc => ?_) (fun hc => absurd hc (by simp_all))
  refine A3 <| A0 <| A5 rfl rfl rfl ?_
  refine A4 ⟨nofun, _, kS [2] [] rfl, ?_⟩
  refine B3 <| C9 rfl rfl trivial <| congrArg iV ?_
  simp_all [rch]
 try simp only [SG, List.length_map] at hc
 refine A0 <| L2 rfl rfl <| A5 rfl rfl rfl ?_
 refine A4 ⟨nofun, _, kS [3,4] [] rfl, ?_⟩
 refine A9 rfl (fun hc => ?_) (fun hc => ?_)
 ·try simp only [SG, List.length_map] at hc
  refine A3 <| A0 <| A5 rfl rfl rfl ?_
  refine A4 ⟨nofun, _, kS [2] [] rfl, ?_⟩
  refine B3 <| C9 rfl rfl trivial <| congrArg iV ?_
  simp_all [rch]
 try simp only [SG, List.length_map] at hc
 refine A3 <| A3 <| A0 <| L2 rfl rfl <| A5 rfl rfl rfl ?_
 refine A4 ⟨nofun, _, kS [3,13] [] rfl, ?_⟩
 refine A9 rfl (fun hc => ?_) (fun hc => ?_)
 ·try simp only [SG, List.length_map] at hc
  refine B9 ?_
  refine A9 rfl (fun hc => ?_) (fun hc => absurd hc (by simp_all))
  refine A3 <| A0 <| A5 rfl rfl rfl ?_
  refine A4 ⟨nofun, _, kS [2] [] rfl, ?_⟩
  refine B3 <| C9 rfl rfl trivial <| congrArg iV ?_
  simp_all [rch]
 try simp only [SG, List.length_map] at hc
 refine A0 <| L2 rfl rfl <| A5 rfl rfl rfl ?_
 refine A4 ⟨nofun, _, kS [3,13] [] rfl, ?_⟩
 refine A9 rfl (fun hc => ?_) (fun hc => ?_)
 ·try simp only [SG, List.length_map] at hc
  refine A3 <| A0 <| A5 rfl rfl rfl ?_
  refine A4 ⟨nofun, _, kS [2] [] rfl, ?_⟩
  refine B3 <| C9 rfl rfl trivial <| congrArg iV ?_
  simp_all [rch]
 try simp only [SG, List.length_map] at hc
 refine A3 <| A3 <| A0 <| L2 rfl rfl <| A5 rfl rfl rfl ?_
 refine A4 ⟨nofun, _, kS [3,16] [] rfl, ?_⟩
 refine A9 rfl (fun hc => ?_) (fun hc => ?_)
 ·try simp only [SG, List.length_map] at hc
  refine B9 ?_
  refine A9 rfl (fun hc => ?_) (fun hc => absurd hc (by simp_all))
  refine A3 <| A0 <| A5 rfl rfl rfl ?_
  refine A4 ⟨nofun, _, kS [2] [] rfl, ?_⟩
  refine B3 <| C9 rfl rfl trivial <| congrArg iV ?_
  simp_all [rch]
 try simp only [SG, List.length_map] at hc
 refine A3 <| A0 <| L2 rfl rfl <| A5 rfl rfl rfl ?_
 refine A4 ⟨nofun, _, kS [3,16] [] rfl, ?_⟩
 refine A9 rfl (fun hc => ?_) (fun hc => ?_)
 ·try simp only [SG, List.length_map] at hc
  refine B9 ?_
  refine A9 rfl (fun hc => ?_) (fun hc => absurd hc (by simp_all))
  refine A3 <| A0 <| A5 rfl rfl rfl ?_
  refine A4 ⟨nofun, _, kS [2] [] rfl, ?_⟩
  refine B3 <| C9 rfl rfl trivial <| congrArg iV ?_
  simp_all [rch]
 try simp only [SG, List.length_map] at hc
 refine A3 <| A0 <| L2 rfl rfl <| A5 rfl rfl rfl ?_
 refine A4 ⟨nofun, _, kS [3,16] [] rfl, ?_⟩
 refine A9 rfl (fun hc => ?_) (fun hc => ?_)
 ·try simp only [SG, List.length_map] at hc
  refine B9 ?_
  refine A9 rfl (fun hc => ?_) (fun hc => absurd hc (by simp_all))
  refine A3 <| A0 <| A5 rfl rfl rfl ?_
  refine A4 ⟨nofun, _, kS [2] [] rfl, ?_⟩
  refine B3 <| C9 rfl rfl trivial <| congrArg iV ?_
  simp_all [rch]
 try simp only [SG, List.length_map] at hc
 refine A0 <| L2 rfl rfl <| A5 rfl rfl rfl ?_
 refine A4 ⟨nofun, _, kS [16] [] rfl, ?_⟩
 refine A9 rfl (fun hc => ?_) (fun hc => ?_)
 ·try simp only [SG, List.length_map] at hc
  refine A3 <| A0 <| A5 rfl rfl rfl ?_
  refine A4 ⟨nofun, _, kS [2] [] rfl, ?_⟩
  refine B3 <| C9 rfl rfl trivial <| congrArg iV ?_
  simp_all [rch]
 try simp only [SG, List.length_map] at hc
 refine B9 <| A3 <| A0 <| A5 rfl rfl rfl ?_
 refine A4 ⟨nofun, _, kS [2] [] rfl, ?_⟩
 refine B3 <| C9 rfl rfl trivial <| congrArg iV ?_
 simp_all [rch]

theorem keep_s_number : G3 Tryz.f70 = [0, 2, 4, 10] := by kernel_rfl
set_option maxHeartbeats 20000000 in
theorem a4t (n : Int) (hn : -1000000 ≤ n ∧ n ≤ 1000000) : CW (cxT oG) 70 [iV n] = some (tV (dec n), []) := by
 obtain ⟨kk, hkk⟩ : ∃ kk : Nat, 2 * n.natAbs + (if n < 0 then 1 else 0) < kk := ⟨_, Nat.lt_succ_self _⟩
 revert n
 induction kk with
 | zero => intro n hn hkk; exact absurd hkk (Nat.not_lt_zero _)
 | succ kk ih =>
  intro n hn hkk
  refine G2 rfl Tryz.func70 rfl ⟨by kernel_rfl, rfl, of_decide_eq_true rfl, of_decide_eq_true rfl, by decide⟩ keep_s_number <| A3 <| A0 <| A5 rfl rfl rfl ?_
  refine A4 ⟨nofun, _, kS [0] [] rfl, ?_⟩
  refine A3 <| A3 <| A0 <| A6 rfl rfl <| I0 rfl rfl ?_
  refine A4 ⟨nofun, _, kS [0,4] [] rfl, ?_⟩
  refine A9 rfl (fun hc => ?_) (fun hc => ?_)
  ·try simp only [SG, List.length_map] at hc
   refine A3 <| A0 <| A6 rfl rfl <| d3q rfl (F9 (by omega)) ?_
   have hdl := V1 (m := -n) (by omega)
   apply C6 rfl
   ·apply B0
    ·exact B6 rfl
    exact C5
   ·exact ih (-n) (by omega) (by split at hkk <;> split <;> omega)
   ·exact ⟨rfl, rfl, rfl, of_decide_eq_true rfl, rfl⟩
   ·exact .inl rfl
   ·exact B1
   ·exact C0 rfl
   ·exact fun _ => rfl
   intro g7
   refine M1 rfl rfl (by simp only [H4, List.length_append, List.length_cons, List.length_nil]; omega) <| A5 rfl rfl rfl ?_
   refine A4 ⟨nofun, _, kS [2] [] rfl, ?_⟩
   refine B3 <| C9 rfl rfl trivial ?_
   exact congrArg tV (d2k (by assumption)).symm
  try simp only [SG, List.length_map] at hc
  refine B9 <| A3 <| A3 <| A0 <| A6 rfl rfl <| I0 rfl rfl ?_
  refine A4 ⟨nofun, _, kS [0,10] [] rfl, ?_⟩
  refine A9 rfl (fun hc => ?_) (fun hc => ?_)
  ·try simp only [SG, List.length_map] at hc
   refine A3 <| A0 <| A6 rfl rfl <| A6 rfl rfl <| H9 rfl rfl (F9 (by omega)) <| V0 rfl rfl (Q1 rfl (by omega)) (Q1 rfl (by omega)) (by (simp; omega)) <| A5 rfl rfl rfl ?_
   refine A4 ⟨nofun, _, kS [2] [] rfl, ?_⟩
   refine B3 <| C9 rfl rfl trivial ?_
   rw [d3p (by omega)]
  try simp only [SG, List.length_map] at hc
  refine B9 <| A3 <| A0 <| A6 rfl rfl ?_
  have hd10 : n.tdiv 10 = n / 10 := Int.tdiv_eq_ediv_of_nonneg (by omega)
  refine d1s rfl rfl ⟨by omega, F9 (by omega)⟩ ?_
  have hd10 : n.tdiv 10 = n / 10 := Int.tdiv_eq_ediv_of_nonneg (by omega)
  have hdl0 := V1 (m := n.tdiv 10) (by omega)
  apply C6 rfl
  ·apply B0
   ·exact B6 rfl
   exact C5
  ·exact ih (n.tdiv 10) (by omega) (by split at hkk <;> split <;> omega)
  ·exact ⟨rfl, rfl, rfl, of_decide_eq_true rfl, rfl⟩
  ·exact .inl rfl
  ·exact B1
  ·exact C0 rfl
  ·exact fun _ => rfl
  intro g17
  refine A6 rfl rfl <| b8w rfl rfl (by omega) ?_
  have hm10 : n.tmod 10 = n % 10 := Int.tmod_eq_emod_of_nonneg (by omega)
  have hdl1 := V1 (m := n.tmod 10) (by omega)
  apply C6 rfl
  ·apply B0
   ·exact B6 rfl
   exact C5
  ·exact ih (n.tmod 10) (by omega) (by split at hkk <;> split <;> omega)
  ·exact ⟨rfl, rfl, rfl, of_decide_eq_true rfl, rfl⟩
  ·exact .inl rfl
  ·exact B1
  ·exact C0 rfl
  ·exact fun _ => rfl
  intro g20
  refine M1 rfl rfl (by simp only [H4, List.length_append, List.length_cons, List.length_nil]; omega) <| A5 rfl rfl rfl ?_
  refine A4 ⟨nofun, _, kS [2] [] rfl, ?_⟩
  refine B3 <| C9 rfl rfl trivial ?_
  rw [← d4w (by omega)]

theorem keep_s_listText : G3 Tryz.f58 = [0, 2, 4, 8, 12, 3] := by kernel_rfl
set_option maxHeartbeats 20000000 in
theorem b3d (ns : List Int) (hl : ns.length ≤ 1000000) (hnb : ∀ n ∈ ns, -1000000 ≤ n ∧ n ≤ 1000000) : CW (cxT oG) 58 [L ns] = some (tV (P5 ns), []) := by
 have hg := fun (i : Nat) (h : i < ns.length) => hnb _ (a2o h)
 refine G2 rfl Tryz.func58 rfl ⟨by kernel_rfl, rfl, of_decide_eq_true rfl, of_decide_eq_true rfl, by decide⟩ keep_s_listText <| A3 <| A0 <| A5 rfl rfl rfl ?_
 refine A4 ⟨nofun, _, kS [0] [] rfl, ?_⟩
 refine A3 <| A0 <| A5 rfl rfl rfl ?_
 refine A4 ⟨nofun, _, kS [0,3] [] rfl, ?_⟩
 refine A3 <| A3 <| A0 <| A5 rfl rfl rfl ?_
 refine A4 ⟨nofun, _, kS [0,3,4] [] rfl, ?_⟩
 refine D4 <| I8 (β := Nat) [(.t 0, _)] (fun (i : Nat) => [(.t 4, iV i), (.t 3, tV (P5 (ns.take i)))]) (fun (i : Nat) => i ≤ ns.length) (fun (i : Nat) => ns.length - i) 0 ⟨rfl, rfl, rfl, trivial⟩ (Nat.zero_le _) ?_
 intro i hb
 have hi1 := hb
 have hll := a0z (ns := ns.take i) (fun n hn => hnb n (List.mem_of_mem_take hn))
 rw [List.length_take] at hll
 refine A3 <| A3 <| A0 <| A6 rfl rfl <| A6 rfl rfl <| F4 rfl rfl <| I0 rfl rfl ?_
 refine A4 ⟨nofun, _, kS [0,3,4,8] [] rfl, ?_⟩
 refine A9 rfl (fun hc => ?_) (fun hc => ?_)
 ·try simp only [SG, List.length_map] at hc
  refine B9 <| A3 <| D4 <| A3 <| A3 <| A0 <| A6 rfl rfl <| a0b rfl rfl ?_
  refine A4 ⟨nofun, _, kS [0,3,4,12] [] rfl, ?_⟩
  refine A9 rfl (fun hc => ?_) (fun hc => ?_)
  ·try simp only [SG, List.length_map] at hc
   have hi0 : 0 < i := by omega
   refine A0 <| A6 rfl rfl <| M1 rfl rfl (by simp only [H4, List.length_append, List.length_cons, List.length_nil]; omega) <| A5 rfl rfl rfl ?_
   refine A4 ⟨nofun, _, kS [0,3,4] [] rfl, ?_⟩
   refine A0 <| A6 rfl rfl <| A6 rfl rfl <| A6 rfl rfl <| G1 rfl rfl rfl (fun _ => rfl) (by omega) <| E6 rfl rfl rfl ?_
   have hgi := hg i (by omega)
   have hdl := V1 hgi
   apply C6 rfl
   ·apply B0
    ·exact B6 rfl
    exact C5
   ·exact a4t (ns.getD i default) hgi
   ·exact ⟨rfl, rfl, rfl, of_decide_eq_true rfl, rfl⟩
   ·exact .inl rfl
   ·exact B1
   ·exact C0 rfl
   ·exact fun _ => rfl
   intro g20
   refine M1 rfl rfl (by simp only [H4, List.length_append, List.length_cons, List.length_nil]; omega) <| A5 rfl rfl rfl ?_
   refine A4 ⟨nofun, _, kS [0,3,4] [] rfl, ?_⟩
   refine A0 <| A6 rfl rfl <| H9 rfl rfl (F9 (by omega)) <| A5 rfl rfl rfl ?_
   refine A4 ⟨nofun, _, kS [0,3,4] [] rfl, ?_⟩
   rw [← b9o (by omega) hi0]
   refine ⟨i + 1, ?_, (by omega), ⟨rfl, rfl, rfl, trivial⟩⟩
   omega
  try simp only [SG, List.length_map] at hc
  have hi0 : i = 0 := by omega
  refine B9 <| A0 <| A6 rfl rfl <| A6 rfl rfl <| A6 rfl rfl <| G1 rfl rfl rfl (fun _ => rfl) (by omega) <| E6 rfl rfl rfl ?_
  have hgi := hg i (by omega)
  have hdl := V1 hgi
  apply C6 rfl
  ·apply B0
   ·exact B6 rfl
   exact C5
  ·exact a4t (ns.getD i default) hgi
  ·exact ⟨rfl, rfl, rfl, of_decide_eq_true rfl, rfl⟩
  ·exact .inl rfl
  ·exact B1
  ·exact C0 rfl
  ·exact fun _ => rfl
  intro g20
  refine M1 rfl rfl (by simp only [H4, List.length_append, List.length_cons, List.length_nil]; omega) <| A5 rfl rfl rfl ?_
  refine A4 ⟨nofun, _, kS [0,3,4] [] rfl, ?_⟩
  refine A0 <| A6 rfl rfl <| H9 rfl rfl (F9 (by omega)) <| A5 rfl rfl rfl ?_
  refine A4 ⟨nofun, _, kS [0,3,4] [] rfl, ?_⟩
  rw [← c0r (by omega) hi0]
  refine ⟨i + 1, ?_, (by omega), ⟨rfl, rfl, rfl, trivial⟩⟩
  omega
 try simp only [SG, List.length_map] at hc
 refine H3 <| A3 <| A0 <| A6 rfl rfl <| A5 rfl rfl rfl ?_
 refine A4 ⟨nofun, _, kS [2] [] rfl, ?_⟩
 refine B3 <| C9 rfl rfl trivial ?_
 rw [List.take_of_length_le (by omega)]

theorem keep_s_splitAt : G3 Tryz.f50 = [0, 1, 4, 7, 12, 19, 6, 5] := by kernel_rfl
set_option maxHeartbeats 20000000 in
theorem b5o (s : List UInt8) (hs : s.length ≤ 1048576) (c : UInt8) : CW (cxT oG) 50 [tV s, uV c.toNat] = some (.own 1 ((splitB c s).map tV), []) := by
 refine G2 rfl Tryz.func50 rfl ⟨by kernel_rfl, rfl, of_decide_eq_true rfl, of_decide_eq_true rfl, by decide⟩ keep_s_splitAt <| A3 <| A0 ?_
 (refine C3 rfl rfl (fun _ => rfl) ?_; intro g4)
 refine A4 ⟨nofun, _, kS [0,1] [] rfl, ?_⟩
 refine A3 <| A0 <| E7 (es := List.map tV []) rfl rfl (of_decide_eq_true rfl) rfl rfl (fun _ => B2 (A8 fun _ => rfl)) (fun _ => rfl) ?_
 intro g8
 (refine B4 rfl rfl (by (simp; done)) rfl (fun _ => (B2 (by exact A8 fun _ => rfl))) (fun _ => rfl) ?_; intro g5)
 refine A4 ⟨nofun, _, kS [0,1,5] [5] rfl, ?_⟩
 refine A3 <| A0 <| A5 rfl rfl rfl ?_
 refine A4 ⟨nofun, _, kS [0,1,5,6] [5] rfl, ?_⟩
 refine A3 <| A3 <| A0 <| A5 rfl rfl rfl ?_
 refine A4 ⟨nofun, _, kS [0,1,5,6,7] [5] rfl, ?_⟩
 refine D4 <| I8 (β := Nat × Nat × List (List UInt8) × Nat) [(.t 0, _), (.t 1, _)] (fun (z : Nat × Nat × List (List UInt8) × Nat) => match z with | (i, fr, out, g) => [(.t 7, iV i), (.t 6, iV fr), (.t 5, .sl 5 g none 0 out.length), (.h 5, .obj g 0 1 (out.map tV))]) (fun (z : Nat × Nat × List (List UInt8) × Nat) => match z with | (i, fr, out, g) => i ≤ s.length ∧ fr ≤ i ∧ out.length ≤ i ∧ splitB c s = out ++ V7 ((s.drop fr).take (i - fr)) (splitB c (s.drop i))) (fun (z : Nat × Nat × List (List UInt8) × Nat) => match z with | (i, fr, out, g) => s.length - i) (0, 0, [], _) ⟨rfl, rfl, rfl, rfl, rfl, rfl, trivial⟩ ⟨Nat.zero_le _, Nat.le_refl _, Nat.le_refl _, by simp [b5u]⟩ ?_
 intro z hb
 obtain ⟨i, fr, out, g⟩ := z
 try dsimp only at hb
 obtain ⟨hi1, hfr, hol, hsp⟩ := hb
 refine A3 <| A3 <| A0 <| A6 rfl rfl <| A6 rfl rfl <| a2j rfl rfl <| I0 rfl rfl ?_
 refine A4 ⟨nofun, _, kS [0,1,5,6,7,12] [5] rfl, ?_⟩
 refine A9 rfl (fun hc => ?_) (fun hc => ?_)
 ·try simp only [SG, List.length_map] at hc
  refine B9 <| A3 <| D4 <| A3 <| A0 <| A6 rfl rfl <| A6 rfl rfl <| P6 rfl rfl rfl (by omega) <| A6 rfl rfl <| S4 rfl rfl ?_
  refine A4 ⟨nofun, _, kS [0,1,5,6,7,19] [5] rfl, ?_⟩
  refine A9 rfl (fun hc => ?_) (fun hc => ?_)
  ·try simp only [SG, List.length_map] at hc
   have hcb : s.getD i 0 = c := UInt8.toNat_inj.1 (by omega)
   refine A3 <| A0 <| A6 rfl rfl <| A6 rfl rfl <| A6 rfl rfl <| A6 rfl rfl <| V0 rfl rfl (I4 rfl) (I4 rfl) (by omega) <| E7 (es := List.map tV [_]) rfl rfl (of_decide_eq_true rfl) rfl rfl (fun _ => B2 (A8 fun _ => rfl)) (fun _ => rfl) ?_
   intro g25
   refine H1 rfl rfl rfl rfl (by (simp; done)) (by simp) (by decide) rfl rfl rfl rfl (of_decide_eq_true rfl) (fun _ => ⟨rfl, rfl⟩) (by simp only [H4]; (simp only [List.length_nil, List.length_cons, List.length_append, Nat.zero_add, List.length_map]; omega)) (fun _ => rfl) ?_
   intro g26
   (refine B4 rfl rfl (by (simp; done)) rfl (fun _ => (B2 (by exact A8 fun _ => rfl))) (fun _ => rfl) ?_; intro g5)
   refine A4 ⟨nofun, _, kS [0,1,5,7] [5] rfl, ?_⟩
   refine A0 <| A6 rfl rfl <| H9 rfl rfl (F9 (by omega)) <| A5 rfl rfl rfl ?_
   refine A4 ⟨nofun, _, kS [0,1,5,6,7] [5] rfl, ?_⟩
   refine A0 <| A6 rfl rfl <| H9 rfl rfl (F9 (by omega)) <| A5 rfl rfl rfl ?_
   refine A4 ⟨nofun, _, kS [0,1,5,6,7] [5] rfl, ?_⟩
   refine ⟨(i + 1, i + 1, out ++ [(s.drop fr).take (i - fr)], _), ?_, (by simp only; omega), ⟨rfl, rfl, rfl, rfl, rfl, rfl, trivial⟩⟩
   have hst := b4d (by omega) hfr hsp
   exact ⟨by omega, by omega, by simp; omega, hst.1 hcb⟩
  try simp only [SG, List.length_map] at hc
  have hcb : s.getD i 0 ≠ c := fun e => hc (by rw [e])
  refine B9 <| A0 <| A6 rfl rfl <| H9 rfl rfl (F9 (by omega)) <| A5 rfl rfl rfl ?_
  refine A4 ⟨nofun, _, kS [0,1,5,6,7] [5] rfl, ?_⟩
  refine ⟨(i + 1, fr, out, _), ?_, (by simp only; omega), ⟨rfl, rfl, rfl, rfl, rfl, rfl, trivial⟩⟩
  have hst := b4d (by omega) hfr hsp
  exact ⟨by omega, by omega, by omega, hst.2 hcb⟩
 try simp only [SG, List.length_map] at hc
 refine H3 <| A3 <| A0 <| A6 rfl rfl <| A6 rfl rfl <| A6 rfl rfl <| V0 rfl rfl I7 (I4 rfl) (by omega) <| E7 (es := List.map tV [_]) rfl rfl (of_decide_eq_true rfl) rfl rfl (fun _ => B2 (A8 fun _ => rfl)) (fun _ => rfl) ?_
 intro g33
 refine H1 rfl rfl rfl rfl (by (simp; done)) (by simp) (by decide) rfl rfl rfl rfl (of_decide_eq_true rfl) (fun _ => ⟨rfl, rfl⟩) (by simp only [H4]; (simp only [List.length_nil, List.length_cons, List.length_append, Nat.zero_add, List.length_map]; omega)) (fun _ => rfl) ?_
 intro g34
 (refine B4 rfl rfl (by (simp; done)) rfl (fun _ => (B2 (by exact A8 fun _ => rfl))) (fun _ => rfl) ?_; intro g4)
 refine A4 ⟨nofun, _, kS [4] [4] rfl, ?_⟩
 refine B3 <| O3 rfl rfl (by simp) (by exact A8 fun _ => rfl) trivial ?_
 have hil : i = s.length := by omega
 rw [hsp, hil, List.drop_length, splitB, V7, List.append_nil]

theorem keep_s_readList : G3 Tryz.f79 = [0, 2, 3, 5, 6, 17, 7, 8, 31, 10, 37, 9, 53, 62, 75, 4] := by kernel_rfl
set_option maxHeartbeats 20000000 in
theorem c2y (s : List UInt8) (hs : s.length ≤ 1048576) : CW (cxT oG) 79 [tV s] = some (.tup [.own 1 (((rdL s).getD []).map iV), bV (rdL s).isSome], []) := by
 obtain ⟨ps, hps⟩ : ∃ ps, ps = splitB 44 s := ⟨_, rfl⟩
 have hpl := U6 44 s
 rw [← hps] at hpl
 have hpp := a0h 44 s
 rw [← hps] at hpp
 refine G2 rfl Tryz.func79 rfl ⟨by kernel_rfl, rfl, of_decide_eq_true rfl, of_decide_eq_true rfl, by decide⟩ keep_s_readList <| A3 <| A0 ?_
 (refine C3 rfl rfl (fun _ => rfl) ?_; intro g2)
 refine A5 rfl rfl rfl ?_
 refine A4 ⟨nofun, _, kS [0] [] rfl, ?_⟩
 refine A3 <| A0 <| E7 (es := List.map iV []) rfl rfl (of_decide_eq_true rfl) rfl rfl (fun _ => B2 (A8 fun _ => rfl)) (fun _ => rfl) ?_
 intro g11
 (refine B4 rfl rfl (by (simp; done)) rfl (fun _ => (B2 (by exact A8 fun _ => rfl))) (fun _ => rfl) ?_; intro g4)
 refine A4 ⟨nofun, _, kS [0,4] [4] rfl, ?_⟩
 refine A3 <| A0 <| A6 rfl rfl ?_
 apply C6 rfl
 ·apply B0
  ·exact B6 rfl
  apply B0
  ·exact B6 rfl
  exact C5
 ·exact b5o s hs 44
 ·exact ⟨rfl, rfl, rfl, of_decide_eq_true rfl, rfl⟩
 ·exact .inl rfl
 ·exact B1
 ·exact K4
 ·exact fun _ => rfl
 intro g13
 rw [← hps]
 try simp only [List.length_map]
 (refine B4 rfl rfl (by (simp; done)) rfl (fun _ => (B2 (by exact A8 fun _ => rfl))) (fun _ => rfl) ?_; intro g5)
 refine A4 ⟨nofun, _, kS [4,5] [4,5] rfl, ?_⟩
 refine A3 <| A3 <| A0 <| A5 rfl rfl rfl ?_
 refine A4 ⟨nofun, _, kS [4,5,6] [4,5] rfl, ?_⟩
 refine D4 <| I8 (β := Nat × List Int × Nat) [(.t 5, _), (.h 5, _)] (fun (z : Nat × List Int × Nat) => match z with | (i, ns, g) => [(.t 6, iV i), (.t 4, .sl 4 g none 0 ns.length), (.h 4, .obj g 0 1 (ns.map iV))]) (fun (z : Nat × List Int × Nat) => match z with | (i, ns, g) => i ≤ ps.length ∧ a1g (ps.take i) = some ns) (fun (z : Nat × List Int × Nat) => match z with | (i, ns, g) => ps.length - i) (0, [], _) ⟨rfl, rfl, rfl, rfl, rfl, trivial⟩ ⟨Nat.zero_le _, rfl⟩ ?_
 intro z hb
 obtain ⟨i, ns, g⟩ := z
 try dsimp only at hb
 obtain ⟨hi1, hrd⟩ := hb
 have hnl := b0k hrd
 rw [List.length_take] at hnl
 have hpi := fun h : i < ps.length => hpp _ (Y2 h)
 refine A3 <| A3 <| A0 <| A6 rfl rfl <| A6 rfl rfl <| K5 rfl rfl <| I0 rfl rfl ?_
 refine A4 ⟨nofun, _, kS [4,5,6,17] [4,5] rfl, ?_⟩
 refine A9 rfl (fun hc => ?_) (fun hc => ?_)
 ·try simp only [SG, List.length_map] at hc
  refine B9 <| A3 <| D4 <| A3 <| A0 <| A6 rfl rfl <| A6 rfl rfl <| M3 rfl rfl rfl rfl (by omega) (by (simp; done)) rfl <| Z9 rfl rfl (by omega) (fun _ => rfl) (fun _ => rfl) rfl <| A5 rfl rfl rfl ?_
  refine A4 ⟨nofun, _, kS [4,5,6,7] [4,5] rfl, ?_⟩
  refine A3 <| A0 <| A6 rfl rfl <| b5m rfl rfl <| A6 rfl rfl ?_
  refine E3 rfl rfl (fun hg0 => ?_) (fun hg0 => ?_)
  ·have hg := hg0; try simp only [SG] at hg
   refine A6 rfl rfl <| gT rfl rfl ?_
   have hp0 : 0 < (ps.getD i default).length := List.length_pos_iff.2 (by assumption)
   refine P6 (n := 0) rfl rfl rfl hp0 <| gT rfl rfl <| S4 rfl rfl <| G7 rfl (by assumption) rfl rfl <| A5 rfl rfl rfl ?_
   refine A4 ⟨nofun, _, kS [4,5,6,7,8] [4,5] rfl, ?_⟩
   refine A3 <| A3 <| A0 <| A6 rfl rfl ?_
   refine A4 ⟨nofun, _, kS [4,5,6,7,8,31] [4,5] rfl, ?_⟩
   refine A9 rfl (fun hc => ?_) (fun hc => ?_)
   ·try simp only [SG, List.length_map] at hc
    obtain ⟨hng, hup⟩ := d5q (p := (ps.getD i default)) (by assumption) (by omega)
    have hul := b8c (ps.getD i default)
    rw [hup] at hul
    refine A0 <| A6 rfl rfl <| V0 rfl rfl I7 (I4 (n := 1) rfl) (by omega) <| A5 rfl rfl rfl ?_
    refine A4 ⟨nofun, _, kS [4,5,6,7,8] [4,5] rfl, ?_⟩
    refine A3 <| A0 <| A5 rfl rfl rfl ?_
    refine A4 ⟨nofun, _, kS [4,5,6,7,8,9] [4,5] rfl, ?_⟩
    refine A3 <| A3 <| A0 <| A5 rfl rfl rfl ?_
    refine A4 ⟨nofun, _, kS [4,5,6,7,8,9,10] [4,5] rfl, ?_⟩
    refine D4 ?_
    have hup0 := hup
    refine I8 (β := Nat × Int) [(.t 4, _), (.t 5, _), (.t 6, _), (.t 7, _), (.t 8, _), (.h 4, _), (.h 5, _)] (fun (z : Nat × Int) => match z with | (k, a) => [(.t 10, iV k), (.t 9, iV a)]) (fun (z : Nat × Int) => match z with | (k, a) => k ≤ (unS (ps.getD i default)).length ∧ 0 ≤ a ∧ W6 0 ((unS (ps.getD i default)).take k) = some a.toNat) (fun (z : Nat × Int) => match z with | (k, a) => (unS (ps.getD i default)).length - k) (0, 0) ⟨rfl, rfl, rfl, rfl, rfl, rfl, rfl, rfl, rfl, trivial⟩ ⟨Nat.zero_le _, by decide, rfl⟩ ?_
    intro z hb
    obtain ⟨k, a⟩ := z
    try dsimp only at hb
    obtain ⟨hk1, ha0, hdg⟩ := hb
    have hab := b1r (by decide) hdg
    rw [hup] at hk1 hdg
    refine A3 <| A3 <| A0 <| A6 rfl rfl <| A6 rfl rfl <| a2j rfl rfl <| I0 rfl rfl ?_
    refine A4 ⟨nofun, _, kS [4,5,6,7,8,9,10,37] [4,5] rfl, ?_⟩
    refine A9 rfl (fun hc => ?_) (fun hc => ?_)
    ·try simp only [SG, List.length_map] at hc
     refine B9 <| A3 <| D4 <| A3 <| A3 <| A0 <| A6 rfl rfl <| A6 rfl rfl <| P6 rfl rfl rfl (by omega) <| I0 rfl rfl <| A6 rfl rfl ?_
     refine E3 rfl rfl (fun hg0 => ?_) (fun hg0 => ?_)
     ·have hg := hg0; try simp only [SG] at hg
      refine A6 rfl rfl <| gT rfl rfl <| A6 rfl rfl <| gT rfl rfl <| P6 rfl rfl rfl (by omega) <| gT rfl rfl <| a0b rfl rfl <| G6 rfl (by assumption) rfl rfl <| A6 rfl rfl ?_
      refine E3 rfl rfl (fun hg0 => ?_) (fun hg0 => ?_)
      ·have hg := hg0; try simp only [SG] at hg
       refine A6 rfl rfl <| gT rfl rfl <| a0b rfl rfl <| G6 rfl (by assumption) rfl rfl ?_
       refine A4 ⟨nofun, _, kS [4,5,6,7,8,9,10,53] [4,5] rfl, ?_⟩
       refine A9 rfl (fun hc => ?_) (fun hc => ?_)
       ·try simp only [SG, List.length_map] at hc
        refine A3 <| A0 ?_
        (refine C3 rfl rfl (fun _ => rfl) ?_; intro g2)
        refine A5 rfl rfl rfl ?_
        refine A4 ⟨nofun, _, kS [2,3] [2] rfl, ?_⟩
        refine B3 <| D6 (G4 rfl rfl (by simp) (by rfl) (E4 rfl rfl (E8 D3))) ?_
        rw [rdL, ← hps, L8 (show i < ps.length by omega) (X4 (by rw [hup]; exact T5 (by omega) hdg (by omega)))]
        rfl
       try simp only [SG, List.length_map] at hc
       refine B9 <| A0 <| A6 rfl rfl <| a8k rfl rfl (F9 (by omega)) <| A6 rfl rfl <| A6 rfl rfl <| P6 rfl rfl rfl (by omega) <| a1z rfl rfl (d4f (by omega)) <| a9n rfl rfl rfl (F9 (by omega)) <| H9 rfl rfl (F9 (by omega)) <| A5 rfl rfl rfl ?_
       refine A4 ⟨nofun, _, kS [4,5,6,7,8,9,10] [4,5] rfl, ?_⟩
       refine A0 <| A6 rfl rfl <| H9 rfl rfl (F9 (by omega)) <| A5 rfl rfl rfl ?_
       refine A4 ⟨nofun, _, kS [4,5,6,7,8,9,10] [4,5] rfl, ?_⟩
       refine ⟨(k + 1, _), ?_, (by simp only [hup]; omega), ⟨rfl, rfl, rfl, rfl, rfl, rfl, rfl, rfl, rfl, trivial⟩⟩
       rw [hup]
       have hds := a9y (by omega) hdg (by omega)
       exact ⟨by omega, by omega, hds.trans (congrArg some (by omega))⟩
      have hg := hg0; try simp only [SG] at hg
      refine gF rfl rfl <| G7 rfl (by assumption) rfl rfl ?_
      refine A4 ⟨nofun, _, kS [4,5,6,7,8,9,10,53] [4,5] rfl, ?_⟩
      refine A9 rfl (fun hc => ?_) (fun hc => absurd hc (by decide))
      refine A3 <| A0 ?_
      (refine C3 rfl rfl (fun _ => rfl) ?_; intro g2)
      refine A5 rfl rfl rfl ?_
      refine A4 ⟨nofun, _, kS [2,3] [2] rfl, ?_⟩
      refine B3 <| D6 (G4 rfl rfl (by simp) (by rfl) (E4 rfl rfl (E8 D3))) ?_
      rw [rdL, ← hps, L8 (show i < ps.length by omega) (X4 (by rw [hup]; exact T5 (by omega) hdg (by omega)))]
      rfl
     have hg := hg0; try simp only [SG] at hg
     refine gF rfl rfl <| gF rfl rfl <| gF rfl rfl <| G7 rfl (by assumption) rfl rfl <| A6 rfl rfl <| F0 rfl rfl rfl <| F0 rfl rfl rfl <| G7 rfl rfl rfl rfl ?_
     refine A4 ⟨nofun, _, kS [4,5,6,7,8,9,10,53] [4,5] rfl, ?_⟩
     refine A9 rfl (fun hc => ?_) (fun hc => absurd hc (by decide))
     refine A3 <| A0 ?_
     (refine C3 rfl rfl (fun _ => rfl) ?_; intro g2)
     refine A5 rfl rfl rfl ?_
     refine A4 ⟨nofun, _, kS [2,3] [2] rfl, ?_⟩
     refine B3 <| D6 (G4 rfl rfl (by simp) (by rfl) (E4 rfl rfl (E8 D3))) ?_
     rw [rdL, ← hps, L8 (show i < ps.length by omega) (X4 (by rw [hup]; exact T5 (by omega) hdg (by omega)))]
     rfl
    try simp only [SG, List.length_map] at hc
    have hdU : W6 0 (unS (ps.getD i default)) = some a.toNat := by rw [hup]; rw [List.take_of_length_le (by omega)] at hdg; exact hdg
    refine H3 <| A3 <| A3 <| A0 <| A6 rfl rfl ?_
    refine A4 ⟨nofun, _, kS [4,5,6,7,9,62] [4,5] rfl, ?_⟩
    refine A9 rfl (fun hc => ?_) (fun hc => absurd hc (by simp_all))
    refine A0 <| A6 rfl rfl <| d3q rfl (F9 (by omega)) <| A5 rfl rfl rfl ?_
    refine A4 ⟨nofun, _, kS [4,5,6,7,9] [4,5] rfl, ?_⟩
    refine A3 <| A3 <| A0 <| A6 rfl rfl <| a1v rfl rfl <| A6 rfl rfl ?_
    refine E3 rfl rfl (fun hg0 => ?_) (fun hg0 => ?_)
    ·have hg := hg0; try simp only [SG] at hg
     refine A6 rfl rfl <| gT rfl rfl ?_
     have hdl1 := V1 (m := -a) (by omega)
     have hdl2 := V1 (m := a) (by omega)
     apply C6 rfl
     ·apply B0
      ·exact B6 rfl
      exact C5
     ·exact a4t (-a) (by omega)
     ·exact ⟨rfl, rfl, rfl, of_decide_eq_true rfl, rfl⟩
     ·exact .inl rfl
     ·exact B1
     ·exact C0 rfl
     ·exact fun _ => rfl
     intro g69
     refine gT rfl rfl <| A6 rfl rfl <| gT rfl rfl <| A6 rfl rfl <| gT rfl rfl <| M3 rfl rfl rfl rfl (by omega) (by (simp; done)) rfl <| gT rfl rfl <| Z9 rfl rfl (by omega) (fun _ => rfl) (fun _ => rfl) rfl <| gT rfl rfl <| b5m rfl rfl <| G6 rfl (by assumption) rfl rfl ?_
     refine A4 ⟨fun _ => ⟨by (simp only [T7, List.nil_append, List.append_nil, List.map_cons, List.map_nil, List.cons_append]; decide +kernel), by decide +kernel⟩, [(.t 4, _), (.t 5, _), (.t 6, _), (.t 9, _), (.t 75, _), (.h 4, _), (.h 5, _)], ⟨rfl, rfl, rfl, rfl, rfl, rfl, rfl, rfl, rfl, rfl, rfl, rfl, rfl, rfl, trivial⟩, ?_⟩
     refine A9 rfl (fun hc => ?_) (fun hc => ?_)
     ·try simp only [SG, List.length_map] at hc
      refine A3 <| A0 ?_
      (refine C3 rfl rfl (fun _ => rfl) ?_; intro g2)
      refine A5 rfl rfl rfl ?_
      refine A4 ⟨nofun, _, kS [2,3] [2] rfl, ?_⟩
      refine B3 <| D6 (G4 rfl rfl (by simp) (by rfl) (E4 rfl rfl (E8 D3))) ?_
      have hno : rdI (ps.getD i default) = none := by exact a9i (m := -a) hdU (by (rw [hng, if_pos rfl]; omega)) (by exact .inr (by assumption))
      rw [rdL, ← hps, L8 (show i < ps.length by omega) hno]
      rfl
     try simp only [SG, List.length_map] at hc
     have hri := c2u (m := -a) hdU (by (rw [hng, if_pos rfl]; omega)) (by rw [hup]; assumption) (by assumption)
     refine B9 <| A0 <| A6 rfl rfl <| A6 rfl rfl <| E7 (es := List.map iV [_]) rfl rfl (of_decide_eq_true rfl) rfl rfl (fun _ => B2 (A8 fun _ => rfl)) (fun _ => rfl) ?_
     intro g78
     refine H1 rfl rfl rfl rfl (by (simp; done)) (by simp) (by decide) rfl rfl rfl rfl (of_decide_eq_true rfl) (fun _ => ⟨rfl, rfl⟩) (by simp only [H4]; (simp only [List.length_nil, List.length_cons, List.length_append, Nat.zero_add, List.length_map]; omega)) (fun _ => rfl) ?_
     intro g79
     (refine B4 rfl rfl (by (simp; done)) rfl (fun _ => (B2 (by exact A8 fun _ => rfl))) (fun _ => rfl) ?_; intro g4)
     refine A4 ⟨nofun, _, kS [4,5,6] [4,5] rfl, ?_⟩
     refine A0 <| A6 rfl rfl <| H9 rfl rfl (F9 (by omega)) <| A5 rfl rfl rfl ?_
     refine A4 ⟨nofun, _, kS [4,5,6] [4,5] rfl, ?_⟩
     refine ⟨(i + 1, ns ++ [-a], _), ?_, (by simp only; omega), ⟨rfl, rfl, rfl, rfl, rfl, trivial⟩⟩
     exact ⟨by omega, a9f (by omega) hrd hri⟩
    have hg := hg0; try simp only [SG] at hg
    refine gF rfl rfl <| gF rfl rfl <| gF rfl rfl <| gF rfl rfl <| gF rfl rfl <| gF rfl rfl <| G7 rfl (by assumption) rfl rfl ?_
    refine A4 ⟨fun _ => ⟨by decide +kernel, by decide +kernel⟩, [(.t 4, _), (.t 5, _), (.t 6, _), (.t 9, _), (.t 75, _), (.h 4, _), (.h 5, _)], ⟨rfl, rfl, rfl, rfl, rfl, rfl, rfl, rfl, rfl, rfl, rfl, rfl, rfl, rfl, trivial⟩, ?_⟩
    refine A9 rfl (fun hc => ?_) (fun hc => absurd hc (by decide))
    refine A3 <| A0 ?_
    (refine C3 rfl rfl (fun _ => rfl) ?_; intro g2)
    refine A5 rfl rfl rfl ?_
    refine A4 ⟨nofun, _, kS [2,3] [2] rfl, ?_⟩
    refine B3 <| D6 (G4 rfl rfl (by simp) (by rfl) (E4 rfl rfl (E8 D3))) ?_
    have hno : rdI (ps.getD i default) = none := by exact a9i (m := -a) hdU (by (rw [hng, if_pos rfl]; omega)) (by exact .inl (by rw [hup]; assumption))
    rw [rdL, ← hps, L8 (show i < ps.length by omega) hno]
    rfl
   try simp only [SG, List.length_map] at hc
   obtain ⟨hng, hup⟩ := d3x (p := (ps.getD i default)) (by exact .inr (by omega))
   have hul := b8c (ps.getD i default)
   rw [hup] at hul
   refine B9 <| A3 <| A0 <| A5 rfl rfl rfl ?_
   refine A4 ⟨nofun, _, kS [4,5,6,7,8,9] [4,5] rfl, ?_⟩
   refine A3 <| A3 <| A0 <| A5 rfl rfl rfl ?_
   refine A4 ⟨nofun, _, kS [4,5,6,7,8,9,10] [4,5] rfl, ?_⟩
   refine D4 ?_
   have hup0 := hup
   refine I8 (β := Nat × Int) [(.t 4, _), (.t 5, _), (.t 6, _), (.t 7, _), (.t 8, _), (.h 4, _), (.h 5, _)] (fun (z : Nat × Int) => match z with | (k, a) => [(.t 10, iV k), (.t 9, iV a)]) (fun (z : Nat × Int) => match z with | (k, a) => k ≤ (unS (ps.getD i default)).length ∧ 0 ≤ a ∧ W6 0 ((unS (ps.getD i default)).take k) = some a.toNat) (fun (z : Nat × Int) => match z with | (k, a) => (unS (ps.getD i default)).length - k) (0, 0) ⟨rfl, rfl, rfl, rfl, rfl, rfl, rfl, rfl, rfl, trivial⟩ ⟨Nat.zero_le _, by decide, rfl⟩ ?_
   intro z hb
   obtain ⟨k, a⟩ := z
   try dsimp only at hb
   obtain ⟨hk1, ha0, hdg⟩ := hb
   have hab := b1r (by decide) hdg
   rw [hup] at hk1 hdg
   refine A3 <| A3 <| A0 <| A6 rfl rfl <| A6 rfl rfl <| a2j rfl rfl <| I0 rfl rfl ?_
   refine A4 ⟨nofun, _, kS [4,5,6,7,8,9,10,37] [4,5] rfl, ?_⟩
   refine A9 rfl (fun hc => ?_) (fun hc => ?_)
   ·try simp only [SG, List.length_map] at hc
    refine B9 <| A3 <| D4 <| A3 <| A3 <| A0 <| A6 rfl rfl <| A6 rfl rfl <| P6 rfl rfl rfl (by omega) <| I0 rfl rfl <| A6 rfl rfl ?_
    refine E3 rfl rfl (fun hg0 => ?_) (fun hg0 => ?_)
    ·have hg := hg0; try simp only [SG] at hg
     refine A6 rfl rfl <| gT rfl rfl <| A6 rfl rfl <| gT rfl rfl <| P6 rfl rfl rfl (by omega) <| gT rfl rfl <| a0b rfl rfl <| G6 rfl (by assumption) rfl rfl <| A6 rfl rfl ?_
     refine E3 rfl rfl (fun hg0 => ?_) (fun hg0 => ?_)
     ·have hg := hg0; try simp only [SG] at hg
      refine A6 rfl rfl <| gT rfl rfl <| a0b rfl rfl <| G6 rfl (by assumption) rfl rfl ?_
      refine A4 ⟨nofun, _, kS [4,5,6,7,8,9,10,53] [4,5] rfl, ?_⟩
      refine A9 rfl (fun hc => ?_) (fun hc => ?_)
      ·try simp only [SG, List.length_map] at hc
       refine A3 <| A0 ?_
       (refine C3 rfl rfl (fun _ => rfl) ?_; intro g2)
       refine A5 rfl rfl rfl ?_
       refine A4 ⟨nofun, _, kS [2,3] [2] rfl, ?_⟩
       refine B3 <| D6 (G4 rfl rfl (by simp) (by rfl) (E4 rfl rfl (E8 D3))) ?_
       rw [rdL, ← hps, L8 (show i < ps.length by omega) (X4 (by rw [hup]; exact T5 (by omega) hdg (by omega)))]
       rfl
      try simp only [SG, List.length_map] at hc
      refine B9 <| A0 <| A6 rfl rfl <| a8k rfl rfl (F9 (by omega)) <| A6 rfl rfl <| A6 rfl rfl <| P6 rfl rfl rfl (by omega) <| a1z rfl rfl (d4f (by omega)) <| a9n rfl rfl rfl (F9 (by omega)) <| H9 rfl rfl (F9 (by omega)) <| A5 rfl rfl rfl ?_
      refine A4 ⟨nofun, _, kS [4,5,6,7,8,9,10] [4,5] rfl, ?_⟩
      refine A0 <| A6 rfl rfl <| H9 rfl rfl (F9 (by omega)) <| A5 rfl rfl rfl ?_
      refine A4 ⟨nofun, _, kS [4,5,6,7,8,9,10] [4,5] rfl, ?_⟩
      refine ⟨(k + 1, _), ?_, (by simp only [hup]; omega), ⟨rfl, rfl, rfl, rfl, rfl, rfl, rfl, rfl, rfl, trivial⟩⟩
      rw [hup]
      have hds := a9y (by omega) hdg (by omega)
      exact ⟨by omega, by omega, hds.trans (congrArg some (by omega))⟩
     have hg := hg0; try simp only [SG] at hg
     refine gF rfl rfl <| G7 rfl (by assumption) rfl rfl ?_
     refine A4 ⟨nofun, _, kS [4,5,6,7,8,9,10,53] [4,5] rfl, ?_⟩
     refine A9 rfl (fun hc => ?_) (fun hc => absurd hc (by decide))
     refine A3 <| A0 ?_
     (refine C3 rfl rfl (fun _ => rfl) ?_; intro g2)
     refine A5 rfl rfl rfl ?_
     refine A4 ⟨nofun, _, kS [2,3] [2] rfl, ?_⟩
     refine B3 <| D6 (G4 rfl rfl (by simp) (by rfl) (E4 rfl rfl (E8 D3))) ?_
     rw [rdL, ← hps, L8 (show i < ps.length by omega) (X4 (by rw [hup]; exact T5 (by omega) hdg (by omega)))]
     rfl
    have hg := hg0; try simp only [SG] at hg
    refine gF rfl rfl <| gF rfl rfl <| gF rfl rfl <| G7 rfl (by assumption) rfl rfl <| A6 rfl rfl <| F0 rfl rfl rfl <| F0 rfl rfl rfl <| G7 rfl rfl rfl rfl ?_
    refine A4 ⟨nofun, _, kS [4,5,6,7,8,9,10,53] [4,5] rfl, ?_⟩
    refine A9 rfl (fun hc => ?_) (fun hc => absurd hc (by decide))
    refine A3 <| A0 ?_
    (refine C3 rfl rfl (fun _ => rfl) ?_; intro g2)
    refine A5 rfl rfl rfl ?_
    refine A4 ⟨nofun, _, kS [2,3] [2] rfl, ?_⟩
    refine B3 <| D6 (G4 rfl rfl (by simp) (by rfl) (E4 rfl rfl (E8 D3))) ?_
    rw [rdL, ← hps, L8 (show i < ps.length by omega) (X4 (by rw [hup]; exact T5 (by omega) hdg (by omega)))]
    rfl
   try simp only [SG, List.length_map] at hc
   have hdU : W6 0 (unS (ps.getD i default)) = some a.toNat := by rw [hup]; rw [List.take_of_length_le (by omega)] at hdg; exact hdg
   refine H3 <| A3 <| A3 <| A0 <| A6 rfl rfl ?_
   refine A4 ⟨nofun, _, kS [4,5,6,7,9,62] [4,5] rfl, ?_⟩
   refine A9 rfl (fun hc => absurd hc (by simp_all)) (fun hc => ?_)
   refine B9 <| A3 <| A3 <| A0 <| A6 rfl rfl <| a1v rfl rfl <| A6 rfl rfl ?_
   refine E3 rfl rfl (fun hg0 => ?_) (fun hg0 => ?_)
   ·have hg := hg0; try simp only [SG] at hg
    refine A6 rfl rfl <| gT rfl rfl ?_
    have hdl1 := V1 (m := -a) (by omega)
    have hdl2 := V1 (m := a) (by omega)
    apply C6 rfl
    ·apply B0
     ·exact B6 rfl
     exact C5
    ·exact a4t a (by omega)
    ·exact ⟨rfl, rfl, rfl, of_decide_eq_true rfl, rfl⟩
    ·exact .inl rfl
    ·exact B1
    ·exact C0 rfl
    ·exact fun _ => rfl
    intro g69
    refine gT rfl rfl <| A6 rfl rfl <| gT rfl rfl <| A6 rfl rfl <| gT rfl rfl <| M3 rfl rfl rfl rfl (by omega) (by (simp; done)) rfl <| gT rfl rfl <| Z9 rfl rfl (by omega) (fun _ => rfl) (fun _ => rfl) rfl <| gT rfl rfl <| b5m rfl rfl <| G6 rfl (by assumption) rfl rfl ?_
    refine A4 ⟨fun _ => ⟨by (simp only [T7, List.nil_append, List.append_nil, List.map_cons, List.map_nil, List.cons_append]; decide +kernel), by decide +kernel⟩, [(.t 4, _), (.t 5, _), (.t 6, _), (.t 9, _), (.t 75, _), (.h 4, _), (.h 5, _)], ⟨rfl, rfl, rfl, rfl, rfl, rfl, rfl, rfl, rfl, rfl, rfl, rfl, rfl, rfl, trivial⟩, ?_⟩
    refine A9 rfl (fun hc => ?_) (fun hc => ?_)
    ·try simp only [SG, List.length_map] at hc
     refine A3 <| A0 ?_
     (refine C3 rfl rfl (fun _ => rfl) ?_; intro g2)
     refine A5 rfl rfl rfl ?_
     refine A4 ⟨nofun, _, kS [2,3] [2] rfl, ?_⟩
     refine B3 <| D6 (G4 rfl rfl (by simp) (by rfl) (E4 rfl rfl (E8 D3))) ?_
     have hno : rdI (ps.getD i default) = none := by exact a9i (m := a) hdU (by (rw [hng, if_neg (by decide)]; omega)) (by exact .inr (by assumption))
     rw [rdL, ← hps, L8 (show i < ps.length by omega) hno]
     rfl
    try simp only [SG, List.length_map] at hc
    have hri := c2u (m := a) hdU (by (rw [hng, if_neg (by decide)]; omega)) (by rw [hup]; assumption) (by assumption)
    refine B9 <| A0 <| A6 rfl rfl <| A6 rfl rfl <| E7 (es := List.map iV [_]) rfl rfl (of_decide_eq_true rfl) rfl rfl (fun _ => B2 (A8 fun _ => rfl)) (fun _ => rfl) ?_
    intro g78
    refine H1 rfl rfl rfl rfl (by (simp; done)) (by simp) (by decide) rfl rfl rfl rfl (of_decide_eq_true rfl) (fun _ => ⟨rfl, rfl⟩) (by simp only [H4]; (simp only [List.length_nil, List.length_cons, List.length_append, Nat.zero_add, List.length_map]; omega)) (fun _ => rfl) ?_
    intro g79
    (refine B4 rfl rfl (by (simp; done)) rfl (fun _ => (B2 (by exact A8 fun _ => rfl))) (fun _ => rfl) ?_; intro g4)
    refine A4 ⟨nofun, _, kS [4,5,6] [4,5] rfl, ?_⟩
    refine A0 <| A6 rfl rfl <| H9 rfl rfl (F9 (by omega)) <| A5 rfl rfl rfl ?_
    refine A4 ⟨nofun, _, kS [4,5,6] [4,5] rfl, ?_⟩
    refine ⟨(i + 1, ns ++ [a], _), ?_, (by simp only; omega), ⟨rfl, rfl, rfl, rfl, rfl, trivial⟩⟩
    exact ⟨by omega, a9f (by omega) hrd hri⟩
   have hg := hg0; try simp only [SG] at hg
   refine gF rfl rfl <| gF rfl rfl <| gF rfl rfl <| gF rfl rfl <| gF rfl rfl <| gF rfl rfl <| G7 rfl (by assumption) rfl rfl ?_
   refine A4 ⟨fun _ => ⟨by decide +kernel, by decide +kernel⟩, [(.t 4, _), (.t 5, _), (.t 6, _), (.t 9, _), (.t 75, _), (.h 4, _), (.h 5, _)], ⟨rfl, rfl, rfl, rfl, rfl, rfl, rfl, rfl, rfl, rfl, rfl, rfl, rfl, rfl, trivial⟩, ?_⟩
   refine A9 rfl (fun hc => ?_) (fun hc => absurd hc (by decide))
   refine A3 <| A0 ?_
   (refine C3 rfl rfl (fun _ => rfl) ?_; intro g2)
   refine A5 rfl rfl rfl ?_
   refine A4 ⟨nofun, _, kS [2,3] [2] rfl, ?_⟩
   refine B3 <| D6 (G4 rfl rfl (by simp) (by rfl) (E4 rfl rfl (E8 D3))) ?_
   have hno : rdI (ps.getD i default) = none := by exact a9i (m := a) hdU (by (rw [hng, if_neg (by decide)]; omega)) (by exact .inl (by rw [hup]; assumption))
   rw [rdL, ← hps, L8 (show i < ps.length by omega) hno]
   rfl
  have hg := hg0; try simp only [SG] at hg
  refine gF rfl rfl <| gF rfl rfl <| G6 rfl (by assumption) rfl rfl <| A5 rfl rfl rfl ?_
  refine A4 ⟨nofun, _, kS [4,5,6,7,8] [4,5] rfl, ?_⟩
  refine A3 <| A3 <| A0 <| A6 rfl rfl ?_
  refine A4 ⟨nofun, _, kS [4,5,6,7,8,31] [4,5] rfl, ?_⟩
  refine A9 rfl (fun hc => absurd hc (by decide)) (fun hc => ?_)
  refine B9 <| A3 <| A0 <| A5 rfl rfl rfl ?_
  refine A4 ⟨nofun, _, kS [4,5,6,7,8,9] [4,5] rfl, ?_⟩
  refine A3 <| A3 <| A0 <| A5 rfl rfl rfl ?_
  refine A4 ⟨nofun, _, kS [4,5,6,7,8,9,10] [4,5] rfl, ?_⟩
  refine D4 ?_
  (obtain ⟨hng, hup⟩ := d3x (p := (ps.getD i default)) (.inl (by assumption)); have hul := b8c (ps.getD i default); rw [hup] at hul)
  refine I8 (β := Nat × Int) [(.t 4, _), (.t 5, _), (.t 6, _), (.t 7, _), (.t 8, _), (.h 4, _), (.h 5, _)] (fun (z : Nat × Int) => match z with | (k, a) => [(.t 10, iV k), (.t 9, iV a)]) (fun (z : Nat × Int) => match z with | (k, a) => k ≤ (unS (ps.getD i default)).length ∧ 0 ≤ a ∧ W6 0 ((unS (ps.getD i default)).take k) = some a.toNat) (fun (z : Nat × Int) => match z with | (k, a) => (unS (ps.getD i default)).length - k) (0, 0) ⟨rfl, rfl, rfl, rfl, rfl, rfl, rfl, rfl, rfl, trivial⟩ ⟨Nat.zero_le _, by decide, rfl⟩ ?_
  intro z hb
  obtain ⟨k, a⟩ := z
  try dsimp only at hb
  obtain ⟨hk1, ha0, hdg⟩ := hb
  have hab := b1r (by decide) hdg
  rw [hup] at hk1 hdg
  refine A3 <| A3 <| A0 <| A6 rfl rfl <| A6 rfl rfl <| a2j rfl rfl <| I0 rfl rfl ?_
  refine A4 ⟨nofun, _, kS [4,5,6,7,8,9,10,37] [4,5] rfl, ?_⟩
  refine A9 rfl (fun hc => ?_) (fun hc => ?_)
  ·try simp only [SG, List.length_map] at hc
   refine B9 <| A3 <| D4 <| A3 <| A3 <| A0 <| A6 rfl rfl <| A6 rfl rfl <| P6 rfl rfl rfl (by omega) <| I0 rfl rfl <| A6 rfl rfl ?_
   refine E3 rfl rfl (fun hg0 => ?_) (fun hg0 => ?_)
   ·have hg := hg0; try simp only [SG] at hg
    refine A6 rfl rfl <| gT rfl rfl <| A6 rfl rfl <| gT rfl rfl <| P6 rfl rfl rfl (by omega) <| gT rfl rfl <| a0b rfl rfl <| G6 rfl (by assumption) rfl rfl <| A6 rfl rfl ?_
    refine E3 rfl rfl (fun hg0 => ?_) (fun hg0 => ?_)
    ·have hg := hg0; try simp only [SG] at hg
     refine A6 rfl rfl <| gT rfl rfl <| a0b rfl rfl <| G6 rfl (by assumption) rfl rfl ?_
     refine A4 ⟨nofun, _, kS [4,5,6,7,8,9,10,53] [4,5] rfl, ?_⟩
     refine A9 rfl (fun hc => ?_) (fun hc => ?_)
     ·try simp only [SG, List.length_map] at hc
      refine A3 <| A0 ?_
      (refine C3 rfl rfl (fun _ => rfl) ?_; intro g2)
      refine A5 rfl rfl rfl ?_
      refine A4 ⟨nofun, _, kS [2,3] [2] rfl, ?_⟩
      refine B3 <| D6 (G4 rfl rfl (by simp) (by rfl) (E4 rfl rfl (E8 D3))) ?_
      rw [rdL, ← hps, L8 (show i < ps.length by omega) (X4 (by rw [hup]; exact T5 (by omega) hdg (by omega)))]
      rfl
     try simp only [SG, List.length_map] at hc
     refine B9 <| A0 <| A6 rfl rfl <| a8k rfl rfl (F9 (by omega)) <| A6 rfl rfl <| A6 rfl rfl <| P6 rfl rfl rfl (by omega) <| a1z rfl rfl (d4f (by omega)) <| a9n rfl rfl rfl (F9 (by omega)) <| H9 rfl rfl (F9 (by omega)) <| A5 rfl rfl rfl ?_
     refine A4 ⟨nofun, _, kS [4,5,6,7,8,9,10] [4,5] rfl, ?_⟩
     refine A0 <| A6 rfl rfl <| H9 rfl rfl (F9 (by omega)) <| A5 rfl rfl rfl ?_
     refine A4 ⟨nofun, _, kS [4,5,6,7,8,9,10] [4,5] rfl, ?_⟩
     refine ⟨(k + 1, _), ?_, (by simp only [hup]; omega), ⟨rfl, rfl, rfl, rfl, rfl, rfl, rfl, rfl, rfl, trivial⟩⟩
     rw [hup]
     have hds := a9y (by omega) hdg (by omega)
     exact ⟨by omega, by omega, hds.trans (congrArg some (by omega))⟩
    have hg := hg0; try simp only [SG] at hg
    refine gF rfl rfl <| G7 rfl (by assumption) rfl rfl ?_
    refine A4 ⟨nofun, _, kS [4,5,6,7,8,9,10,53] [4,5] rfl, ?_⟩
    refine A9 rfl (fun hc => ?_) (fun hc => absurd hc (by decide))
    refine A3 <| A0 ?_
    (refine C3 rfl rfl (fun _ => rfl) ?_; intro g2)
    refine A5 rfl rfl rfl ?_
    refine A4 ⟨nofun, _, kS [2,3] [2] rfl, ?_⟩
    refine B3 <| D6 (G4 rfl rfl (by simp) (by rfl) (E4 rfl rfl (E8 D3))) ?_
    rw [rdL, ← hps, L8 (show i < ps.length by omega) (X4 (by rw [hup]; exact T5 (by omega) hdg (by omega)))]
    rfl
   have hg := hg0; try simp only [SG] at hg
   refine gF rfl rfl <| gF rfl rfl <| gF rfl rfl <| G7 rfl (by assumption) rfl rfl <| A6 rfl rfl <| F0 rfl rfl rfl <| F0 rfl rfl rfl <| G7 rfl rfl rfl rfl ?_
   refine A4 ⟨nofun, _, kS [4,5,6,7,8,9,10,53] [4,5] rfl, ?_⟩
   refine A9 rfl (fun hc => ?_) (fun hc => absurd hc (by decide))
   refine A3 <| A0 ?_
   (refine C3 rfl rfl (fun _ => rfl) ?_; intro g2)
   refine A5 rfl rfl rfl ?_
   refine A4 ⟨nofun, _, kS [2,3] [2] rfl, ?_⟩
   refine B3 <| D6 (G4 rfl rfl (by simp) (by rfl) (E4 rfl rfl (E8 D3))) ?_
   rw [rdL, ← hps, L8 (show i < ps.length by omega) (X4 (by rw [hup]; exact T5 (by omega) hdg (by omega)))]
   rfl
  try simp only [SG, List.length_map] at hc
  have hdU : W6 0 (unS (ps.getD i default)) = some a.toNat := by rw [hup]; rw [List.take_of_length_le (by omega)] at hdg; exact hdg
  refine H3 <| A3 <| A3 <| A0 <| A6 rfl rfl ?_
  refine A4 ⟨nofun, _, kS [4,5,6,7,9,62] [4,5] rfl, ?_⟩
  refine A9 rfl (fun hc => absurd hc (by decide)) (fun hc => ?_)
  refine B9 <| A3 <| A3 <| A0 <| A6 rfl rfl <| a1v rfl rfl <| A6 rfl rfl ?_
  refine E3 rfl rfl (fun hg0 => ?_) (fun hg0 => ?_)
  ·have hg := hg0; try simp only [SG] at hg
   refine A6 rfl rfl <| gT rfl rfl ?_
   have hdl1 := V1 (m := -a) (by omega)
   have hdl2 := V1 (m := a) (by omega)
   apply C6 rfl
   ·apply B0
    ·exact B6 rfl
    exact C5
   ·exact a4t a (by omega)
   ·exact ⟨rfl, rfl, rfl, of_decide_eq_true rfl, rfl⟩
   ·exact .inl rfl
   ·exact B1
   ·exact C0 rfl
   ·exact fun _ => rfl
   intro g69
   refine gT rfl rfl <| A6 rfl rfl <| gT rfl rfl <| A6 rfl rfl <| gT rfl rfl <| M3 rfl rfl rfl rfl (by omega) (by (simp; done)) rfl <| gT rfl rfl <| Z9 rfl rfl (by omega) (fun _ => rfl) (fun _ => rfl) rfl <| gT rfl rfl <| b5m rfl rfl <| G6 rfl (by assumption) rfl rfl ?_
   refine A4 ⟨fun _ => ⟨by (simp only [T7, List.nil_append, List.append_nil, List.map_cons, List.map_nil, List.cons_append]; decide +kernel), by decide +kernel⟩, [(.t 4, _), (.t 5, _), (.t 6, _), (.t 9, _), (.t 75, _), (.h 4, _), (.h 5, _)], ⟨rfl, rfl, rfl, rfl, rfl, rfl, rfl, rfl, rfl, rfl, rfl, rfl, rfl, rfl, trivial⟩, ?_⟩
   refine A9 rfl (fun hc => ?_) (fun hc => ?_)
   ·try simp only [SG, List.length_map] at hc
    refine A3 <| A0 ?_
    (refine C3 rfl rfl (fun _ => rfl) ?_; intro g2)
    refine A5 rfl rfl rfl ?_
    refine A4 ⟨nofun, _, kS [2,3] [2] rfl, ?_⟩
    refine B3 <| D6 (G4 rfl rfl (by simp) (by rfl) (E4 rfl rfl (E8 D3))) ?_
    have hno : rdI (ps.getD i default) = none := by exact a9i (m := a) hdU (by (rw [hng, if_neg (by decide)]; omega)) (by exact .inl (by rw [hup]; assumption))
    rw [rdL, ← hps, L8 (show i < ps.length by omega) hno]
    rfl
   try simp only [SG, List.length_map] at hc
   have hri := c2u (m := a) hdU (by (rw [hng, if_neg (by decide)]; omega)) (by rw [hup]; assumption) (by assumption)
   refine B9 <| A0 <| A6 rfl rfl <| A6 rfl rfl <| E7 (es := List.map iV [_]) rfl rfl (of_decide_eq_true rfl) rfl rfl (fun _ => B2 (A8 fun _ => rfl)) (fun _ => rfl) ?_
   intro g78
   refine H1 rfl rfl rfl rfl (by (simp; done)) (by simp) (by decide) rfl rfl rfl rfl (of_decide_eq_true rfl) (fun _ => ⟨rfl, rfl⟩) (by simp only [H4]; (simp only [List.length_nil, List.length_cons, List.length_append, Nat.zero_add, List.length_map]; omega)) (fun _ => rfl) ?_
   intro g79
   (refine B4 rfl rfl (by (simp; done)) rfl (fun _ => (B2 (by exact A8 fun _ => rfl))) (fun _ => rfl) ?_; intro g4)
   refine A4 ⟨nofun, _, kS [4,5,6] [4,5] rfl, ?_⟩
   refine A0 <| A6 rfl rfl <| H9 rfl rfl (F9 (by omega)) <| A5 rfl rfl rfl ?_
   refine A4 ⟨nofun, _, kS [4,5,6] [4,5] rfl, ?_⟩
   refine ⟨(i + 1, ns ++ [a], _), ?_, (by simp only; omega), ⟨rfl, rfl, rfl, rfl, rfl, trivial⟩⟩
   exact ⟨by omega, a9f (by omega) hrd hri⟩
  have hg := hg0; try simp only [SG] at hg
  refine gF rfl rfl <| gF rfl rfl <| gF rfl rfl <| gF rfl rfl <| gF rfl rfl <| gF rfl rfl <| G7 rfl (by assumption) rfl rfl ?_
  refine A4 ⟨fun _ => ⟨by decide +kernel, by decide +kernel⟩, [(.t 4, _), (.t 5, _), (.t 6, _), (.t 9, _), (.t 75, _), (.h 4, _), (.h 5, _)], ⟨rfl, rfl, rfl, rfl, rfl, rfl, rfl, rfl, rfl, rfl, rfl, rfl, rfl, rfl, trivial⟩, ?_⟩
  refine A9 rfl (fun hc => ?_) (fun hc => absurd hc (by decide))
  refine A3 <| A0 ?_
  (refine C3 rfl rfl (fun _ => rfl) ?_; intro g2)
  refine A5 rfl rfl rfl ?_
  refine A4 ⟨nofun, _, kS [2,3] [2] rfl, ?_⟩
  refine B3 <| D6 (G4 rfl rfl (by simp) (by rfl) (E4 rfl rfl (E8 D3))) ?_
  have hno : rdI (ps.getD i default) = none := by exact a9i (m := a) hdU (by (rw [hng, if_neg (by decide)]; omega)) (by exact .inl (by rw [hup]; assumption))
  rw [rdL, ← hps, L8 (show i < ps.length by omega) hno]
  rfl
 try simp only [SG, List.length_map] at hc
 refine H3 <| A3 <| A0 <| A6 rfl rfl ?_
 (refine B4 rfl rfl (by (simp; done)) rfl (fun _ => (B2 (by exact A8 fun _ => rfl))) (fun _ => rfl) ?_; intro g2)
 refine A5 rfl rfl rfl ?_
 refine A4 ⟨nofun, _, kS [2,3] [2] rfl, ?_⟩
 refine B3 <| D6 (G4 rfl rfl (by simp) (by exact A8 fun _ => rfl) (E4 rfl rfl (E8 D3))) ?_
 have hil : i = ps.length := by omega
 rw [hil, List.take_length] at hrd
 rw [rdL, ← hps, hrd]
 rfl

theorem keep_s_readNums : G3 Tryz.f66 = [0, 2, 3, 4, 22, 24, 5, 6] := by kernel_rfl
set_option maxHeartbeats 20000000 in
theorem c3i (s : List UInt8) (hs : s.length ≤ 1048576) : CW (cxT oG) 66 [tV s] = some (.tup [.own 1 ((c0e s).map iV), bV (numsOf s).isSome], []) := by
 refine G2 rfl Tryz.func66 rfl ⟨by kernel_rfl, rfl, of_decide_eq_true rfl, of_decide_eq_true rfl, by decide⟩ keep_s_readNums <| A3 <| A0 ?_
 (refine C3 rfl rfl (fun _ => rfl) ?_; intro g2)
 refine A5 rfl rfl rfl ?_
 refine A4 ⟨nofun, _, kS [0] [] rfl, ?_⟩
 refine A3 <| A0 <| A6 rfl rfl <| a2j rfl rfl <| A5 rfl rfl rfl ?_
 refine A4 ⟨nofun, _, kS [0,4] [] rfl, ?_⟩
 refine A3 <| A3 <| A0 <| A6 rfl rfl <| I0 rfl rfl <| A6 rfl rfl ?_
 refine E3 rfl rfl (fun hg0 => ?_) (fun hg0 => ?_)
 ·have hg := hg0; try simp only [SG] at hg
  refine A6 rfl rfl <| gT rfl rfl <| P6 (n := 0) rfl rfl rfl (by omega) <| gT rfl rfl <| b9n rfl rfl <| G6 rfl (by assumption) rfl rfl <| A6 rfl rfl ?_
  refine E3 rfl rfl (fun hg0 => ?_) (fun hg0 => ?_)
  ·have hg := hg0; try simp only [SG] at hg
   refine A6 rfl rfl <| gT rfl rfl <| A6 rfl rfl <| gT rfl rfl <| a1z rfl rfl (F9 (by omega)) <| gT rfl rfl ?_
   rw [show ((s.length : Int) - 1) = ((s.length - 1 : Nat) : Int) by omega]
   refine P6 rfl rfl rfl (by omega) <| gT rfl rfl <| b9n rfl rfl <| G6 rfl (by assumption) rfl rfl ?_
   refine A4 ⟨nofun, _, kS [0,4,22] [] rfl, ?_⟩
   refine A9 rfl (fun hc => ?_) (fun hc => ?_)
   ·try simp only [SG, List.length_map] at hc
    refine A3 <| A0 ?_
    (refine C3 rfl rfl (fun _ => rfl) ?_; intro g2)
    refine A5 rfl rfl rfl ?_
    refine A4 ⟨nofun, _, kS [2,3] [2] rfl, ?_⟩
    refine B3 <| D6 (G4 rfl rfl (by simp) (by rfl) (E4 rfl rfl (E8 D3))) ?_
    obtain ⟨hn1, hn2⟩ := a9e (s := s) (by exact .inr (.inr (by omega)))
    rw [hn1, hn2]
    rfl
   try simp only [SG, List.length_map] at hc
   have hin := c7s (s := s) (by omega) (by omega) (by omega)
   refine B9 <| A3 <| A3 <| A0 <| A6 rfl rfl <| S4 rfl rfl ?_
   refine A4 ⟨nofun, _, kS [0,4,24] [] rfl, ?_⟩
   refine A9 rfl (fun hc => ?_) (fun hc => ?_)
   ·try simp only [SG, List.length_map] at hc
    refine A3 <| A0 <| E7 (es := List.map iV []) rfl rfl (of_decide_eq_true rfl) rfl rfl (fun _ => B2 (A8 fun _ => rfl)) (fun _ => rfl) ?_
    intro g25
    (refine B4 rfl rfl (by (simp; done)) rfl (fun _ => (B2 (by exact A8 fun _ => rfl))) (fun _ => rfl) ?_; intro g2)
    refine A5 rfl rfl rfl ?_
    refine A4 ⟨nofun, _, kS [2,3] [2] rfl, ?_⟩
    refine B3 <| D6 (G4 rfl rfl (by simp) (by rfl) (E4 rfl rfl (E8 D3))) ?_
    obtain ⟨hn1, hn2⟩ := hin.1 (by omega)
    rw [hn1, hn2]
    rfl
   try simp only [SG, List.length_map] at hc
   refine B9 <| A3 <| A0 <| A6 rfl rfl <| A6 rfl rfl <| a1z rfl rfl (F9 (by omega)) ?_
   rw [show ((s.length : Int) - 1) = ((s.length - 1 : Nat) : Int) by omega]
   have hrl := d3m ((s.drop 1).take (s.length - 1 - 1))
   have hin2 : ((s.drop 1).take (s.length - 1 - 1)).length ≤ s.length - 2 := by simp only [List.length_take, List.length_drop]; omega
   refine V0 rfl rfl (I4 rfl) (I4 (n := 1) rfl) (by omega) ?_
   apply C6 rfl
   ·apply B0
    ·exact B6 rfl
    exact C5
   ·exact c2y ((s.drop 1).take (s.length - 1 - 1)) (by omega)
   ·exact ⟨rfl, rfl, rfl, of_decide_eq_true rfl, rfl⟩
   ·exact .inr ⟨a3l _ _, rfl⟩
   ·exact B1
   ·exact I1 (N7 fun _ => I9 rfl N6)
   ·exact fun _ => rfl
   intro g31
   simp only [List.length_map]
   refine A6 rfl rfl <| B8 rfl rfl rfl <| B8 rfl rfl rfl ?_
   (refine B4 rfl rfl (by (simp; done)) rfl (fun _ => (B2 (by exact A8 fun _ => rfl))) (fun _ => rfl) ?_; intro g5)
   refine A5 rfl rfl rfl ?_
   refine A4 ⟨nofun, _, kS [5,6] [5] rfl, ?_⟩
   refine A3 <| A0 <| A6 rfl rfl <| A6 rfl rfl <| A6 rfl rfl ?_
   refine E3 rfl rfl (fun hg0 => ?_) (fun hg0 => ?_)
   ·have hg := hg0; try simp only [SG] at hg
    refine A6 rfl rfl <| gT rfl rfl ?_
    apply C6 rfl
    ·apply B0
     ·exact V9 rfl rfl rfl (by (simp; done)) (fun _ => rfl)
     exact C5
    ·exact b9k ((rdL ((s.drop 1).take (s.length - 1 - 1))).getD []) (by omega)
    ·exact ⟨rfl, rfl, rfl, of_decide_eq_true rfl, rfl⟩
    ·exact .inr ⟨rfl, rfl⟩
    ·exact B1
    ·exact C0 rfl
    ·exact fun _ => rfl
    intro g38
    refine G7 rfl (by assumption) rfl rfl ?_
    (refine B4 rfl rfl (by (simp; done)) rfl (fun _ => (B2 (by exact A8 fun _ => rfl))) (fun _ => rfl) ?_; intro g2)
    refine A5 rfl rfl rfl ?_
    refine A4 ⟨nofun, _, kS [2,3] [2] rfl, ?_⟩
    refine B3 <| D6 (G4 rfl rfl (by simp) (by exact A8 fun _ => rfl) (E4 rfl rfl (E8 D3))) ?_
    obtain ⟨hn1, hn2⟩ := hin.2 (by omega)
    rw [hn2, b4i hn1]
    simp_all
    try rfl
   have hg := hg0; try simp only [SG] at hg
   refine gF rfl rfl <| G6 rfl (by assumption) rfl rfl ?_
   (refine B4 rfl rfl (by (simp; done)) rfl (fun _ => (B2 (by exact A8 fun _ => rfl))) (fun _ => rfl) ?_; intro g2)
   refine A5 rfl rfl rfl ?_
   refine A4 ⟨nofun, _, kS [2,3] [2] rfl, ?_⟩
   refine B3 <| D6 (G4 rfl rfl (by simp) (by exact A8 fun _ => rfl) (E4 rfl rfl (E8 D3))) ?_
   obtain ⟨hn1, hn2⟩ := hin.2 (by omega)
   rw [hn2, b4i hn1]
   simp_all
   try rfl
  have hg := hg0; try simp only [SG] at hg
  refine gF rfl rfl <| gF rfl rfl <| gF rfl rfl <| gF rfl rfl <| G7 rfl (by assumption) rfl rfl ?_
  refine A4 ⟨nofun, _, kS [0,4,22] [] rfl, ?_⟩
  refine A9 rfl (fun hc => ?_) (fun hc => absurd hc (by decide))
  refine A3 <| A0 ?_
  (refine C3 rfl rfl (fun _ => rfl) ?_; intro g2)
  refine A5 rfl rfl rfl ?_
  refine A4 ⟨nofun, _, kS [2,3] [2] rfl, ?_⟩
  refine B3 <| D6 (G4 rfl rfl (by simp) (by rfl) (E4 rfl rfl (E8 D3))) ?_
  obtain ⟨hn1, hn2⟩ := a9e (s := s) (by exact .inr (.inl (by omega)))
  rw [hn1, hn2]
  rfl
 have hg := hg0; try simp only [SG] at hg
 refine gF rfl rfl <| gF rfl rfl <| G7 rfl (by assumption) rfl rfl <| A6 rfl rfl <| F0 rfl rfl rfl <| F0 rfl rfl rfl <| F0 rfl rfl rfl <| F0 rfl rfl rfl <| F0 rfl rfl rfl <| G7 rfl rfl rfl rfl ?_
 refine A4 ⟨nofun, _, kS [0,4,22] [] rfl, ?_⟩
 refine A9 rfl (fun hc => ?_) (fun hc => absurd hc (by decide))
 refine A3 <| A0 ?_
 (refine C3 rfl rfl (fun _ => rfl) ?_; intro g2)
 refine A5 rfl rfl rfl ?_
 refine A4 ⟨nofun, _, kS [2,3] [2] rfl, ?_⟩
 refine B3 <| D6 (G4 rfl rfl (by simp) (by rfl) (E4 rfl rfl (E8 D3))) ?_
 obtain ⟨hn1, hn2⟩ := a9e (s := s) (by exact .inl (by omega))
 rw [hn1, hn2]
 rfl

theorem keep_s_readTree : G3 Tryz.f51 = [0, 2, 3, 4, 15, 6, 24, 5, 7, 34, 43, 9, 12, 53, 8, 10, 11, 48, 59] := by kernel_rfl
set_option maxHeartbeats 20000000 in
theorem b2j (ws : List W8) (hws : ws.length ≤ 1048600 ∧ ∀ w ∈ ws, w.length ≤ 1048576) : CW (cxT oG) 51 [.list (ws.map tV)] = some (rtR (rdT ws), []) := by
 obtain ⟨kk, hkk⟩ : ∃ kk : Nat, ws.length < kk := ⟨_, Nat.lt_succ_self _⟩
 revert ws
 induction kk with
 | zero => intro ws hws hkk; exact absurd hkk (Nat.not_lt_zero _)
 | succ kk ih =>
  intro ws hws hkk
  refine G2 rfl Tryz.func51 rfl ⟨by kernel_rfl, rfl, of_decide_eq_true rfl, of_decide_eq_true rfl, by decide⟩ keep_s_readTree <| A3 <| A0 <| F8 rfl (fun _ => B7 rfl) (fun _ => rfl) ?_
  intro g2
  (refine C3 rfl rfl (fun _ => rfl) ?_; intro g3)
  refine A5 rfl rfl rfl ?_
  refine A4 ⟨nofun, _, kS [0,2] [2] rfl, ?_⟩
  refine A3 <| A3 <| A0 <| A6 rfl rfl <| F4 rfl rfl <| S4 rfl rfl ?_
  refine A4 ⟨nofun, _, kS [0,2,15] [2] rfl, ?_⟩
  refine A9 rfl (fun hc => ?_) (fun hc => ?_)
  ·try simp only [SG, List.length_map] at hc
   have hw0 : ws = [] := List.length_eq_zero_iff.1 (by simpa using hc)
   subst hw0
   refine A3 <| A0 <| J0 (fs := [_, _, _]) rfl rfl rfl rfl rfl <| C7 rfl rfl rfl rfl ⟨by decide, rfl, of_decide_eq_true rfl, of_decide_eq_true rfl, rfl⟩ rfl (by exact B7 rfl) ?_
   (refine C3 rfl rfl (fun _ => rfl) ?_; intro g3)
   refine A5 rfl rfl rfl ?_
   refine A4 ⟨nofun, _, kS [2,3,4] [2,3] rfl, ?_⟩
   refine B3 <| D6 (I3 rfl rfl rfl rfl (I2 rfl (I5 rfl (I5 rfl L9))) (G4 rfl rfl (by simp) (by rfl) (E4 rfl rfl (E8 D3)))) ?_
   rfl
  try simp only [SG, List.length_map] at hc
  obtain ⟨w, ws1, rfl⟩ : ∃ w ws1, ws = w :: ws1 := List.exists_cons_of_ne_nil (fun e => by subst e; simp at hc)
  have hw := hws.2 w (by simp)
  refine B9 <| A3 <| A0 <| A6 rfl rfl <| G1 rfl rfl rfl (fun _ => rfl) (by (change 0 < _; omega)) <| E6 rfl rfl rfl ?_
  apply C6 rfl
  ·apply B0
   ·exact B6 rfl
   exact C5
  ·exact c3i w (by omega)
  ·exact ⟨rfl, rfl, rfl, of_decide_eq_true rfl, rfl⟩
  ·exact .inr ⟨a3l _ _, rfl⟩
  ·exact B1
  ·exact I1 (N7 fun _ => I9 rfl N6)
  ·exact fun _ => rfl
  intro g21
  simp only [List.length_map]
  refine A6 rfl rfl <| B8 rfl rfl rfl <| B8 rfl rfl rfl ?_
  (refine B4 rfl rfl (by (simp; done)) rfl (fun _ => (B2 (by exact A8 fun _ => rfl))) (fun _ => rfl) ?_; intro g5)
  refine A5 rfl rfl rfl ?_
  refine A4 ⟨nofun, _, kS [0,2,5,6] [2,5] rfl, ?_⟩
  refine A3 <| A3 <| A0 <| A6 rfl rfl ?_
  refine A4 ⟨nofun, _, kS [0,2,5,24] [2,5] rfl, ?_⟩
  refine A9 rfl (fun hc => ?_) (fun hc => ?_)
  ·try simp only [SG, List.length_map] at hc
   obtain ⟨ns, hns⟩ := Option.isSome_iff_exists.1 hc
   have hraw := d2t hns
   refine A3 <| A0 <| A6 rfl rfl <| J0 (fs := [_, _, _]) rfl rfl rfl rfl rfl <| A6 rfl rfl <| N2 rfl rfl rfl (Mv.sized_map fun _ => rfl) I7 (I4 (n := 1) rfl) (by simp) ?_
   rw [show ((List.map tV (w :: ws1)).drop 1).take ((List.map tV (w :: ws1)).length - 1) = ws1.map tV from by rw [List.map_cons, List.drop_succ_cons, List.drop_zero, List.take_of_length_le (by simp)]]
   refine H7 rfl rfl rfl rfl (F7 rfl (a3r (by decide) (F7 rfl L7))) (fun _ => rfl) ⟨by decide, rfl, of_decide_eq_true rfl, Nat.le_refl _⟩ (fun _ => rfl) (fun _ => rfl) (fun _ => (by rfl)) ?_
   intro z
   simp only [L0, List.cons_append, List.nil_append]
   refine A5 rfl rfl rfl <| A5 rfl rfl rfl ?_
   refine A4 ⟨fun _ => ⟨by (simp only [T7, List.nil_append, List.append_nil, List.map_cons, List.map_nil, List.cons_append]; decide +kernel), by decide +kernel⟩, [(.t 2, _), (.t 3, _), (.t 4, _), (.h 2, _), (.h 5, _)], ⟨rfl, rfl, rfl, rfl, rfl, rfl, rfl, rfl, rfl, rfl, trivial⟩, ?_⟩
   refine B3 <| D6 (I3 rfl rfl rfl rfl (I2 rfl (a3k rfl rfl (by simp) (fun _ => rfl) (I5 rfl L9))) (E4 rfl rfl (E4 rfl rfl (E8 D3)))) ?_
   rw [c0v hns, hraw]
   rfl
  try simp only [SG, List.length_map] at hc
  have hnn : numsOf w = none := by simpa using hc
  refine B9 <| A3 <| A0 <| A6 rfl rfl <| G1 rfl rfl rfl (fun _ => rfl) (by (change 0 < _; omega)) <| E6 rfl rfl rfl ?_
  apply C6 rfl
  ·apply B0
   ·exact B6 rfl
   exact C5
  ·exact c6z (bA w)
  ·exact ⟨rfl, rfl, rfl, of_decide_eq_true rfl, rfl⟩
  ·exact .inl rfl
  ·exact B1
  ·exact C0 rfl
  ·exact fun _ => rfl
  intro g32
  refine A5 rfl rfl rfl ?_
  refine A4 ⟨nofun, _, kS [0,2,7] [2] rfl, ?_⟩
  refine A3 <| A3 <| A0 <| A6 rfl rfl <| I0 rfl rfl ?_
  refine A4 ⟨nofun, _, kS [0,2,7,34] [2] rfl, ?_⟩
  refine A9 rfl (fun hc => ?_) (fun hc => ?_)
  ·try simp only [SG, List.length_map] at hc
   refine A3 <| A0 <| J0 (fs := [_, _, _]) rfl rfl rfl rfl rfl <| C7 rfl rfl rfl rfl ⟨by decide, rfl, of_decide_eq_true rfl, of_decide_eq_true rfl, rfl⟩ rfl (by exact B7 rfl) ?_
   (refine C3 rfl rfl (fun _ => rfl) ?_; intro g3)
   refine A5 rfl rfl rfl ?_
   refine A4 ⟨nofun, _, kS [2,3,4] [2,3] rfl, ?_⟩
   refine B3 <| D6 (I3 rfl rfl rfl rfl (I2 rfl (I5 rfl (I5 rfl L9))) (G4 rfl rfl (by simp) (by rfl) (E4 rfl rfl (E8 D3)))) ?_
   rw [c5w hnn (by omega)]
   rfl
  try simp only [SG, List.length_map] at hc
  refine B9 <| A3 <| A0 <| A6 rfl rfl <| G1 rfl rfl rfl (fun _ => rfl) (by (change 0 < _; omega)) <| E6 rfl rfl rfl <| J0 (fs := [_, _, _]) rfl rfl rfl rfl rfl <| F8 rfl (fun _ => B7 rfl) (fun _ => rfl) ?_
  intro g8
  refine C7 rfl rfl rfl rfl ⟨by decide, rfl, of_decide_eq_true rfl, of_decide_eq_true rfl, rfl⟩ rfl (by exact B7 rfl) ?_
  refine A4 ⟨nofun, _, kS [0,2,7,8] [2,8] rfl, ?_⟩
  refine A3 <| A0 ?_
  rcases b6b (w := bA w) (by omega) with hn | hn | hn
  ·rw [hn]
   refine A6 rfl rfl <| N2 rfl rfl rfl (Mv.sized_map fun _ => rfl) I7 (I4 (n := 1) rfl) (by simp) ?_
   rw [show ((List.map tV (w :: ws1)).drop 1).take ((List.map tV (w :: ws1)).length - 1) = ws1.map tV from by rw [List.map_cons, List.drop_succ_cons, List.drop_zero, List.take_of_length_le (by simp)]]
   refine A5 rfl rfl rfl ?_
   refine A4 ⟨nofun, _, kS [2,7,8,9] [2,8] rfl, ?_⟩
   refine A3 <| D4 <| H5 <| A3 <| A3 <| A0 <| A6 rfl rfl <| a0b rfl rfl ?_
   refine A4 ⟨nofun, _, kS [2,7,8,9,43] [2,8] rfl, ?_⟩
   refine A9 rfl (fun hc => absurd hc (by decide)) (fun hc => ?_)
   refine H3 <| A3 <| A0 <| D5 rfl rfl rfl rfl rfl <| A6 rfl rfl <| C7 rfl rfl rfl rfl ⟨by decide, rfl, of_decide_eq_true rfl, of_decide_eq_true rfl, rfl⟩ rfl (by exact B7 rfl) <| A5 rfl rfl rfl <| A5 rfl rfl rfl ?_
   refine A4 ⟨nofun, _, kS [2,3,4] [2] rfl, ?_⟩
   refine B3 <| D6 (I3 rfl rfl rfl rfl (I2 rfl (I5 rfl (I5 rfl L9))) (E4 rfl rfl (E4 rfl rfl (E8 D3)))) ?_
   rw [c5f hnn hn]
   rfl
  ·rw [hn]
   refine A6 rfl rfl <| N2 rfl rfl rfl (Mv.sized_map fun _ => rfl) I7 (I4 (n := 1) rfl) (by simp) ?_
   rw [show ((List.map tV (w :: ws1)).drop 1).take ((List.map tV (w :: ws1)).length - 1) = ws1.map tV from by rw [List.map_cons, List.drop_succ_cons, List.drop_zero, List.take_of_length_le (by simp)]]
   refine A5 rfl rfl rfl ?_
   refine A4 ⟨nofun, _, kS [2,7,8,9] [2,8] rfl, ?_⟩
   refine A3 <| D4 <| H5 <| A3 <| A3 <| A0 <| A6 rfl rfl <| a0b rfl rfl ?_
   refine A4 ⟨nofun, _, kS [2,7,8,9,43] [2,8] rfl, ?_⟩
   refine A9 rfl (fun hc => ?_) (fun hc => absurd hc (by decide))
   refine B9 <| A3 <| D4 <| A3 <| A0 <| A6 rfl rfl ?_
   rcases hr1 : rdT ws1 with _ | ⟨k1, r1⟩
   ·skip
    apply C6 rfl
    ·apply B0
     ·exact B6 rfl
     exact C5
    ·exact (by have hi := ih ws1 ⟨by simp only [List.length_cons] at hws; omega, fun x hx => hws.2 x (List.mem_cons_of_mem _ hx)⟩ (by simp only [List.length_cons] at hkk; omega); rw [hr1] at hi; exact hi)
    ·exact ⟨rfl, rfl, rfl, of_decide_eq_true rfl, rfl⟩
    ·exact .inl rfl
    ·exact B1
    ·exact I1 (I9 rfl (N7 fun _ => I9 rfl N6))
    ·exact fun _ => C1 (B2 rfl) (by rfl)
    intro g48
    refine A6 rfl rfl <| B8 rfl rfl rfl <| B8 rfl rfl rfl <| B8 rfl rfl rfl <| F8 rfl (fun _ => B7 rfl) (fun _ => rfl) ?_
    intro g10
    refine C7 rfl rfl rfl rfl ⟨by decide, rfl, of_decide_eq_true rfl, of_decide_eq_true rfl, rfl⟩ rfl (by exact B7 rfl) ?_
    (refine B4 rfl rfl (by (simp; done)) rfl (fun _ => (B2 (by rfl))) (fun _ => rfl) ?_; intro g11)
    refine A5 rfl rfl rfl ?_
    refine A4 ⟨nofun, _, kS [2,7,8,10,11,12] [2,8,10] rfl, ?_⟩
    refine A3 <| A3 <| A0 <| A6 rfl rfl <| Q0 rfl ?_
    refine A4 ⟨nofun, _, kS [2,7,8,10,11,53] [2,8,10] rfl, ?_⟩
    refine A9 rfl (fun hc => ?_) (fun hc => absurd hc (by decide))
    refine A3 <| A0 <| J0 (fs := [_, _, _]) rfl rfl rfl rfl rfl <| C7 rfl rfl rfl rfl ⟨by decide, rfl, of_decide_eq_true rfl, of_decide_eq_true rfl, rfl⟩ rfl (by exact B7 rfl) ?_
    (refine C3 rfl rfl (fun _ => rfl) ?_; intro g3)
    refine A5 rfl rfl rfl ?_
    refine A4 ⟨nofun, _, kS [2,3,4] [2,3] rfl, ?_⟩
    refine B3 <| D6 (I3 rfl rfl rfl rfl (I2 rfl (I5 rfl (I5 rfl L9))) (G4 rfl rfl (by simp) (by rfl) (E4 rfl rfl (E8 D3)))) ?_
    rw [b6o hnn hn, hr1]
    rfl
   skip
   apply C6 rfl
   ·apply B0
    ·exact B6 rfl
    exact C5
   ·exact (by have hi := ih ws1 ⟨by simp only [List.length_cons] at hws; omega, fun x hx => hws.2 x (List.mem_cons_of_mem _ hx)⟩ (by simp only [List.length_cons] at hkk; omega); rw [hr1] at hi; exact hi)
   ·exact ⟨rfl, rfl, rfl, of_decide_eq_true rfl, rfl⟩
   ·exact .inl rfl
   ·exact B1
   ·exact L4 rfl
   ·exact fun _ => rfl
   intro g48
   refine A6 rfl rfl <| B8 rfl rfl rfl <| B8 rfl rfl rfl <| B8 rfl rfl rfl <| F8 rfl (fun _ => B7 rfl) (fun _ => rfl) ?_
   intro g10
   refine C7 rfl rfl rfl rfl ⟨by decide, rfl, of_decide_eq_true rfl, of_decide_eq_true rfl, rfl⟩ rfl (by exact B7 rfl) <| A5 rfl rfl rfl <| A5 rfl rfl rfl ?_
   refine A4 ⟨nofun, _, kS [2,7,8,10,11,12] [2,8,10] rfl, ?_⟩
   refine A3 <| A3 <| A0 <| A6 rfl rfl <| Q0 rfl ?_
   refine A4 ⟨nofun, _, kS [2,7,8,10,11,53] [2,8,10] rfl, ?_⟩
   refine A9 rfl (fun hc => absurd hc (by decide)) (fun hc => ?_)
   refine B9 <| A3 <| A0 <| B5 rfl rfl (of_decide_eq_true rfl) rfl rfl <| C8 rfl rfl rfl rfl rfl rfl <| D5 rfl rfl rfl rfl rfl <| a2n (es := List.map trV [_]) rfl rfl (of_decide_eq_true rfl) rfl rfl (fun _ => B2 (A8 fun _ => rfl)) (fun _ => rfl) ?_
   intro g58
   refine Q8 rfl rfl rfl (by simp) (by decide) rfl rfl rfl (of_decide_eq_true rfl) (fun _ => ⟨rfl, rfl⟩) (by simp only [H4]; (simp only [List.length_nil, List.length_cons, List.length_append, Nat.zero_add, List.length_map]; omega)) (fun _ => rfl) ?_
   intro g59
   refine B5 rfl rfl (of_decide_eq_true rfl) rfl rfl <| T4 rfl rfl rfl rfl rfl (Nat.le_refl _) rfl ?_
   refine A4 ⟨nofun, _, kS [2,7,8,11] [2,8,1000059] rfl, ?_⟩
   refine A0 <| A6 rfl rfl <| A5 rfl rfl rfl ?_
   refine A4 ⟨nofun, _, kS [2,7,8,9] [2,8,1000059] rfl, ?_⟩
   refine A0 <| A6 rfl rfl <| a1z rfl rfl (F9 (by omega)) <| A5 rfl rfl rfl ?_
   refine A4 ⟨nofun, _, kS [2,7,8,9] [2,8,1000059] rfl, ?_⟩
   refine H5 <| A3 <| A3 <| A0 <| A6 rfl rfl <| a0b rfl rfl ?_
   refine A4 ⟨nofun, _, kS [2,7,8,9,43] [2,8,1000059] rfl, ?_⟩
   refine A9 rfl (fun hc => absurd hc (by decide)) (fun hc => ?_)
   refine H3 <| A3 <| A0 <| D5 rfl rfl rfl rfl rfl <| A6 rfl rfl <| H7 rfl rfl rfl rfl (F7 rfl (F7 rfl (V2 (by decide) (by decide) rfl (by simp) fun _ => L7))) (fun _ => rfl) ⟨by decide, rfl, of_decide_eq_true rfl, Nat.le_refl _⟩ (fun _ => rfl) (fun _ => rfl) (fun _ => C1 (by rfl) (C1 (B2 (A8 fun _ => rfl)) (by rfl))) ?_
   intro z
   simp only [L0, List.cons_append, List.nil_append]
   refine A5 rfl rfl rfl <| A5 rfl rfl rfl ?_
   refine A4 ⟨nofun, _, kS [2,3,4] [2,300002] rfl, ?_⟩
   refine B3 <| D6 (I3 rfl rfl rfl rfl (I2 rfl (I5 rfl (a3k rfl rfl (by simp) (fun _ => rfl) L9))) (E4 rfl rfl (E4 rfl rfl (E8 D3)))) ?_
   rw [b6o hnn hn, hr1]
   rfl
  rw [hn]
  refine A6 rfl rfl <| N2 rfl rfl rfl (Mv.sized_map fun _ => rfl) I7 (I4 (n := 1) rfl) (by simp) ?_
  rw [show ((List.map tV (w :: ws1)).drop 1).take ((List.map tV (w :: ws1)).length - 1) = ws1.map tV from by rw [List.map_cons, List.drop_succ_cons, List.drop_zero, List.take_of_length_le (by simp)]]
  refine A5 rfl rfl rfl ?_
  refine A4 ⟨nofun, _, kS [2,7,8,9] [2,8] rfl, ?_⟩
  refine A3 <| D4 <| H5 <| A3 <| A3 <| A0 <| A6 rfl rfl <| a0b rfl rfl ?_
  refine A4 ⟨nofun, _, kS [2,7,8,9,43] [2,8] rfl, ?_⟩
  refine A9 rfl (fun hc => ?_) (fun hc => absurd hc (by decide))
  refine B9 <| A3 <| D4 <| A3 <| A0 <| A6 rfl rfl ?_
  rcases hr1 : rdT ws1 with _ | ⟨k1, r1⟩
  ·skip
   apply C6 rfl
   ·apply B0
    ·exact B6 rfl
    exact C5
   ·exact (by have hi := ih ws1 ⟨by simp only [List.length_cons] at hws; omega, fun x hx => hws.2 x (List.mem_cons_of_mem _ hx)⟩ (by simp only [List.length_cons] at hkk; omega); rw [hr1] at hi; exact hi)
   ·exact ⟨rfl, rfl, rfl, of_decide_eq_true rfl, rfl⟩
   ·exact .inl rfl
   ·exact B1
   ·exact I1 (I9 rfl (N7 fun _ => I9 rfl N6))
   ·exact fun _ => C1 (B2 rfl) (by rfl)
   intro g48
   refine A6 rfl rfl <| B8 rfl rfl rfl <| B8 rfl rfl rfl <| B8 rfl rfl rfl <| F8 rfl (fun _ => B7 rfl) (fun _ => rfl) ?_
   intro g10
   refine C7 rfl rfl rfl rfl ⟨by decide, rfl, of_decide_eq_true rfl, of_decide_eq_true rfl, rfl⟩ rfl (by exact B7 rfl) ?_
   (refine B4 rfl rfl (by (simp; done)) rfl (fun _ => (B2 (by rfl))) (fun _ => rfl) ?_; intro g11)
   refine A5 rfl rfl rfl ?_
   refine A4 ⟨nofun, _, kS [2,7,8,10,11,12] [2,8,10] rfl, ?_⟩
   refine A3 <| A3 <| A0 <| A6 rfl rfl <| Q0 rfl ?_
   refine A4 ⟨nofun, _, kS [2,7,8,10,11,53] [2,8,10] rfl, ?_⟩
   refine A9 rfl (fun hc => ?_) (fun hc => absurd hc (by decide))
   refine A3 <| A0 <| J0 (fs := [_, _, _]) rfl rfl rfl rfl rfl <| C7 rfl rfl rfl rfl ⟨by decide, rfl, of_decide_eq_true rfl, of_decide_eq_true rfl, rfl⟩ rfl (by exact B7 rfl) ?_
   (refine C3 rfl rfl (fun _ => rfl) ?_; intro g3)
   refine A5 rfl rfl rfl ?_
   refine A4 ⟨nofun, _, kS [2,3,4] [2,3] rfl, ?_⟩
   refine B3 <| D6 (I3 rfl rfl rfl rfl (I2 rfl (I5 rfl (I5 rfl L9))) (G4 rfl rfl (by simp) (by rfl) (E4 rfl rfl (E8 D3)))) ?_
   rw [a6c hnn hn, hr1]
   rfl
  skip
  apply C6 rfl
  ·apply B0
   ·exact B6 rfl
   exact C5
  ·exact (by have hi := ih ws1 ⟨by simp only [List.length_cons] at hws; omega, fun x hx => hws.2 x (List.mem_cons_of_mem _ hx)⟩ (by simp only [List.length_cons] at hkk; omega); rw [hr1] at hi; exact hi)
  ·exact ⟨rfl, rfl, rfl, of_decide_eq_true rfl, rfl⟩
  ·exact .inl rfl
  ·exact B1
  ·exact L4 rfl
  ·exact fun _ => rfl
  intro g48
  refine A6 rfl rfl <| B8 rfl rfl rfl <| B8 rfl rfl rfl <| B8 rfl rfl rfl <| F8 rfl (fun _ => B7 rfl) (fun _ => rfl) ?_
  intro g10
  refine C7 rfl rfl rfl rfl ⟨by decide, rfl, of_decide_eq_true rfl, of_decide_eq_true rfl, rfl⟩ rfl (by exact B7 rfl) <| A5 rfl rfl rfl <| A5 rfl rfl rfl ?_
  refine A4 ⟨nofun, _, kS [2,7,8,10,11,12] [2,8,10] rfl, ?_⟩
  refine A3 <| A3 <| A0 <| A6 rfl rfl <| Q0 rfl ?_
  refine A4 ⟨nofun, _, kS [2,7,8,10,11,53] [2,8,10] rfl, ?_⟩
  refine A9 rfl (fun hc => absurd hc (by decide)) (fun hc => ?_)
  refine B9 <| A3 <| A0 <| B5 rfl rfl (of_decide_eq_true rfl) rfl rfl <| C8 rfl rfl rfl rfl rfl rfl <| D5 rfl rfl rfl rfl rfl <| a2n (es := List.map trV [_]) rfl rfl (of_decide_eq_true rfl) rfl rfl (fun _ => B2 (A8 fun _ => rfl)) (fun _ => rfl) ?_
  intro g58
  refine Q8 rfl rfl rfl (by simp) (by decide) rfl rfl rfl (of_decide_eq_true rfl) (fun _ => ⟨rfl, rfl⟩) (by simp only [H4]; (simp only [List.length_nil, List.length_cons, List.length_append, Nat.zero_add, List.length_map]; omega)) (fun _ => rfl) ?_
  intro g59
  refine B5 rfl rfl (of_decide_eq_true rfl) rfl rfl <| T4 rfl rfl rfl rfl rfl (Nat.le_refl _) rfl ?_
  refine A4 ⟨nofun, _, kS [2,7,8,11] [2,8,1000059] rfl, ?_⟩
  refine A0 <| A6 rfl rfl <| A5 rfl rfl rfl ?_
  refine A4 ⟨nofun, _, kS [2,7,8,9] [2,8,1000059] rfl, ?_⟩
  refine A0 <| A6 rfl rfl <| a1z rfl rfl (F9 (by omega)) <| A5 rfl rfl rfl ?_
  refine A4 ⟨nofun, _, kS [2,7,8,9] [2,8,1000059] rfl, ?_⟩
  refine H5 <| A3 <| A3 <| A0 <| A6 rfl rfl <| a0b rfl rfl ?_
  refine A4 ⟨nofun, _, kS [2,7,8,9,43] [2,8,1000059] rfl, ?_⟩
  refine A9 rfl (fun hc => ?_) (fun hc => absurd hc (by decide))
  refine B9 <| A3 <| D4 <| A3 <| A0 <| A6 rfl rfl ?_
  rcases hr2 : rdT r1 with _ | ⟨k2, r2⟩
  ·skip
   apply C6 rfl
   ·apply B0
    ·exact B6 rfl
    exact C5
   ·exact (by have hi := ih r1 ⟨by have := a0d hr1; simp only [List.length_cons] at hws; omega, fun x hx => hws.2 x (List.mem_cons_of_mem _ (b2b hr1 x hx))⟩ (by have := a0d hr1; simp only [List.length_cons] at hkk; omega); rw [hr2] at hi; exact hi)
   ·exact ⟨rfl, rfl, rfl, of_decide_eq_true rfl, rfl⟩
   ·exact .inl rfl
   ·exact B1
   ·exact I1 (I9 rfl (N7 fun _ => I9 rfl N6))
   ·exact fun _ => C1 (B2 rfl) (by rfl)
   intro g48
   refine A6 rfl rfl <| B8 rfl rfl rfl <| B8 rfl rfl rfl <| B8 rfl rfl rfl <| F8 rfl (fun _ => B7 rfl) (fun _ => rfl) ?_
   intro g10
   refine C7 rfl rfl rfl rfl ⟨by decide, rfl, of_decide_eq_true rfl, of_decide_eq_true rfl, rfl⟩ rfl (by exact B7 rfl) ?_
   (refine B4 rfl rfl (by (simp; done)) rfl (fun _ => (B2 (by rfl))) (fun _ => rfl) ?_; intro g11)
   refine A5 rfl rfl rfl ?_
   refine A4 ⟨nofun, _, kS [2,7,8,10,11,12] [2,8,1000059,10] rfl, ?_⟩
   refine A3 <| A3 <| A0 <| A6 rfl rfl <| Q0 rfl ?_
   refine A4 ⟨nofun, _, kS [2,7,8,10,11,53] [2,8,1000059,10] rfl, ?_⟩
   refine A9 rfl (fun hc => ?_) (fun hc => absurd hc (by decide))
   refine A3 <| A0 <| J0 (fs := [_, _, _]) rfl rfl rfl rfl rfl <| C7 rfl rfl rfl rfl ⟨by decide, rfl, of_decide_eq_true rfl, of_decide_eq_true rfl, rfl⟩ rfl (by exact B7 rfl) ?_
   (refine C3 rfl rfl (fun _ => rfl) ?_; intro g3)
   refine A5 rfl rfl rfl ?_
   refine A4 ⟨nofun, _, kS [2,3,4] [2,3] rfl, ?_⟩
   refine B3 <| D6 (I3 rfl rfl rfl rfl (I2 rfl (I5 rfl (I5 rfl L9))) (G4 rfl rfl (by simp) (by rfl) (E4 rfl rfl (E8 D3)))) ?_
   rw [a6c hnn hn, hr1, Option.bind_some, hr2]
   rfl
  skip
  apply C6 rfl
  ·apply B0
   ·exact B6 rfl
   exact C5
  ·exact (by have hi := ih r1 ⟨by have := a0d hr1; simp only [List.length_cons] at hws; omega, fun x hx => hws.2 x (List.mem_cons_of_mem _ (b2b hr1 x hx))⟩ (by have := a0d hr1; simp only [List.length_cons] at hkk; omega); rw [hr2] at hi; exact hi)
  ·exact ⟨rfl, rfl, rfl, of_decide_eq_true rfl, rfl⟩
  ·exact .inl rfl
  ·exact B1
  ·exact L4 rfl
  ·exact fun _ => rfl
  intro g48
  refine A6 rfl rfl <| B8 rfl rfl rfl <| B8 rfl rfl rfl <| B8 rfl rfl rfl <| F8 rfl (fun _ => B7 rfl) (fun _ => rfl) ?_
  intro g10
  refine C7 rfl rfl rfl rfl ⟨by decide, rfl, of_decide_eq_true rfl, of_decide_eq_true rfl, rfl⟩ rfl (by exact B7 rfl) <| A5 rfl rfl rfl <| A5 rfl rfl rfl ?_
  refine A4 ⟨nofun, _, kS [2,7,8,10,11,12] [2,8,1000059,10] rfl, ?_⟩
  refine A3 <| A3 <| A0 <| A6 rfl rfl <| Q0 rfl ?_
  refine A4 ⟨nofun, _, kS [2,7,8,10,11,53] [2,8,1000059,10] rfl, ?_⟩
  refine A9 rfl (fun hc => absurd hc (by decide)) (fun hc => ?_)
  refine B9 <| A3 <| A0 <| B5 rfl rfl (of_decide_eq_true rfl) rfl rfl <| C8 rfl rfl rfl rfl rfl rfl <| D5 rfl rfl rfl rfl rfl <| a2n (es := List.map trV [_]) rfl rfl (of_decide_eq_true rfl) rfl rfl (fun _ => B2 (A8 fun _ => rfl)) (fun _ => rfl) ?_
  intro g58
  refine H1 rfl rfl rfl rfl (by (simp; done)) (by simp) (by decide) rfl rfl rfl rfl (of_decide_eq_true rfl) (fun _ => ⟨rfl, rfl⟩) (by simp only [H4]; (simp only [List.length_nil, List.length_cons, List.length_append, Nat.zero_add, List.length_map]; omega)) (fun _ => rfl) ?_
  intro g59
  refine B5 rfl rfl (of_decide_eq_true rfl) rfl rfl <| T4 rfl rfl rfl rfl rfl (Nat.le_refl _) rfl ?_
  refine A4 ⟨nofun, _, kS [2,7,8,11] [2,8,1000059] rfl, ?_⟩
  refine A0 <| A6 rfl rfl <| A5 rfl rfl rfl ?_
  refine A4 ⟨nofun, _, kS [2,7,8,9] [2,8,1000059] rfl, ?_⟩
  refine A0 <| A6 rfl rfl <| a1z rfl rfl (F9 (by omega)) <| A5 rfl rfl rfl ?_
  refine A4 ⟨nofun, _, kS [2,7,8,9] [2,8,1000059] rfl, ?_⟩
  refine H5 <| A3 <| A3 <| A0 <| A6 rfl rfl <| a0b rfl rfl ?_
  refine A4 ⟨nofun, _, kS [2,7,8,9,43] [2,8,1000059] rfl, ?_⟩
  refine A9 rfl (fun hc => absurd hc (by decide)) (fun hc => ?_)
  refine H3 <| A3 <| A0 <| D5 rfl rfl rfl rfl rfl <| A6 rfl rfl <| H7 rfl rfl rfl rfl (F7 rfl (F7 rfl (V2 (by decide) (by decide) rfl (by simp) fun _ => L7))) (fun _ => rfl) ⟨by decide, rfl, of_decide_eq_true rfl, Nat.le_refl _⟩ (fun _ => rfl) (fun _ => rfl) (fun _ => C1 (by rfl) (C1 (B2 (A8 fun _ => rfl)) (by rfl))) ?_
  intro z
  simp only [L0, List.cons_append, List.nil_append]
  refine A5 rfl rfl rfl <| A5 rfl rfl rfl ?_
  refine A4 ⟨nofun, _, kS [2,3,4] [2,300002] rfl, ?_⟩
  refine B3 <| D6 (I3 rfl rfl rfl rfl (I2 rfl (I5 rfl (a3k rfl rfl (by simp) (fun _ => rfl) L9))) (E4 rfl rfl (E4 rfl rfl (E8 D3)))) ?_
  rw [a6c hnn hn, hr1, Option.bind_some, hr2]
  rfl

theorem keep_s_readPlan : G3 Tryz.f28 = [0, 2, 3, 4, 17, 6, 7, 5, 21] := by kernel_rfl
set_option maxHeartbeats 20000000 in
theorem c2p (s : List UInt8) (hs : s.length ≤ 1048576) : CW (cxT oG) 28 [tV s] = some (.tup [trV (rpT s), bV (rdPlan s).isSome], []) := by
 obtain ⟨ws, hws⟩ : ∃ ws, ws = splitB 32 s := ⟨_, rfl⟩
 have hwl := U6 32 s
 have hwp := a0h 32 s
 rw [← hws] at hwl hwp
 refine G2 rfl Tryz.func28 rfl ⟨by kernel_rfl, rfl, of_decide_eq_true rfl, of_decide_eq_true rfl, by decide⟩ keep_s_readPlan <| A3 <| A0 <| F8 rfl (fun _ => B7 rfl) (fun _ => rfl) ?_
 intro g2
 refine A5 rfl rfl rfl ?_
 refine A4 ⟨nofun, _, kS [0,2] [2] rfl, ?_⟩
 refine A3 <| A0 <| A6 rfl rfl ?_
 apply C6 rfl
 ·apply B0
  ·exact B6 rfl
  apply B0
  ·exact B6 rfl
  exact C5
 ·exact b5o s (by omega) 32
 ·exact ⟨rfl, rfl, rfl, of_decide_eq_true rfl, rfl⟩
 ·exact .inl rfl
 ·exact B1
 ·exact K4
 ·exact fun _ => rfl
 intro g9
 rw [← hws]
 try simp only [List.length_map]
 (refine B4 rfl rfl (by (simp; done)) rfl (fun _ => (B2 (by exact A8 fun _ => rfl))) (fun _ => rfl) ?_; intro g4)
 refine A4 ⟨nofun, _, kS [0,2,4] [2,4] rfl, ?_⟩
 refine A3 <| A3 <| A0 <| A6 rfl rfl <| a2j rfl rfl <| a0b rfl rfl <| A6 rfl rfl ?_
 refine E3 rfl rfl (fun hg0 => ?_) (fun hg0 => ?_)
 ·have hg := hg0; try simp only [SG] at hg
  refine A6 rfl rfl <| gT rfl rfl <| K5 rfl rfl <| gT rfl rfl <| a0b rfl rfl <| G6 rfl (by assumption) rfl rfl ?_
  refine A4 ⟨nofun, _, kS [2,4,17] [2,4] rfl, ?_⟩
  refine A9 rfl (fun hc => ?_) (fun hc => ?_)
  ·try simp only [SG, List.length_map] at hc
   refine A3 <| A0 <| J0 (fs := [_, _, _]) rfl rfl rfl rfl rfl <| C7 rfl rfl rfl rfl ⟨by decide, rfl, of_decide_eq_true rfl, of_decide_eq_true rfl, rfl⟩ rfl (by exact B7 rfl) <| A5 rfl rfl rfl ?_
   refine A4 ⟨nofun, _, kS [2,3] [2] rfl, ?_⟩
   refine B3 <| D6 (I3 rfl rfl rfl rfl (I2 rfl (I5 rfl (I5 rfl L9))) (E4 rfl rfl (E8 D3))) ?_
   obtain ⟨h1, h2⟩ := b2k (s := s) (by rw [hws] at *; omega)
   rw [h1, h2]
   rfl
  try simp only [SG, List.length_map] at hc
  have hin := c6v hws (by omega)
  refine B9 <| A3 <| A0 <| A6 rfl rfl ?_
  rcases hr : rdT ws with _ | ⟨t, r⟩
  ·skip
   apply C6 rfl
   ·apply B0
    ·exact J3 rfl rfl (by (simp; done)) (fun _ => rfl)
    exact C5
   ·exact (by have hi := b2j (oG := oG) ws ⟨by omega, fun w hw => by have := hwp w hw; omega⟩; rw [hr] at hi; exact hi)
   ·exact ⟨rfl, rfl, rfl, of_decide_eq_true rfl, rfl⟩
   ·exact .inl rfl
   ·exact B1
   ·exact I1 (I9 rfl (N7 fun _ => I9 rfl N6))
   ·exact fun _ => C1 (a6a (A8 fun _ => rfl) (by decide)) (by rfl)
   intro g21
   refine A6 rfl rfl <| B8 rfl rfl rfl <| B8 rfl rfl rfl <| B8 rfl rfl rfl <| F8 rfl (fun _ => B7 rfl) (fun _ => rfl) ?_
   intro g5
   refine C7 rfl rfl rfl rfl ⟨by decide, rfl, of_decide_eq_true rfl, of_decide_eq_true rfl, rfl⟩ rfl (by exact B7 rfl) ?_
   (refine B4 rfl rfl (by (simp; done)) rfl (fun _ => (B2 (by rfl))) (fun _ => rfl) ?_; intro g6)
   refine A5 rfl rfl rfl ?_
   refine A4 ⟨nofun, _, kS [2,5,6,7] [2,5] rfl, ?_⟩
   refine A3 <| A0 <| D5 rfl rfl rfl rfl rfl <| A6 rfl rfl <| A6 rfl rfl <| F0 rfl rfl rfl <| F0 rfl rfl rfl <| F0 rfl rfl rfl <| G6 rfl rfl rfl rfl <| C7 rfl rfl rfl rfl ⟨by decide, rfl, of_decide_eq_true rfl, of_decide_eq_true rfl, rfl⟩ rfl (by exact B7 rfl) <| A5 rfl rfl rfl ?_
   refine A4 ⟨nofun, _, kS [2,3] [2] rfl, ?_⟩
   refine B3 <| D6 (I3 rfl rfl rfl rfl (I2 rfl (I2 rfl (I2 rfl L9))) (E4 rfl rfl (E8 D3))) ?_
   obtain ⟨h1, h2⟩ := hin.1 hr
   rw [h1, h2]
   rfl
  skip
  apply C6 rfl
  ·apply B0
   ·exact J3 rfl rfl (by (simp; done)) (fun _ => rfl)
   exact C5
  ·exact (by have hi := b2j (oG := oG) ws ⟨by omega, fun w hw => by have := hwp w hw; omega⟩; rw [hr] at hi; exact hi)
  ·exact ⟨rfl, rfl, rfl, of_decide_eq_true rfl, rfl⟩
  ·exact .inl rfl
  ·exact B1
  ·exact L4 rfl
  ·exact fun _ => C1 (a6a (A8 fun _ => rfl) (by decide)) (by rfl)
  intro g21
  refine A6 rfl rfl <| B8 rfl rfl rfl <| B8 rfl rfl rfl <| B8 rfl rfl rfl <| F8 rfl (fun _ => B7 rfl) (fun _ => rfl) ?_
  intro g5
  refine C7 rfl rfl rfl rfl ⟨by decide, rfl, of_decide_eq_true rfl, of_decide_eq_true rfl, rfl⟩ rfl (by exact B7 rfl) <| A5 rfl rfl rfl <| A5 rfl rfl rfl ?_
  refine A4 ⟨nofun, _, kS [2,5,6,7] [2,5] rfl, ?_⟩
  refine A3 <| A0 <| D5 rfl rfl rfl rfl rfl <| A6 rfl rfl <| A6 rfl rfl <| W1 rfl rfl rfl <| A6 rfl rfl <| W1 rfl rfl rfl <| F4 rfl rfl <| W1 rfl rfl rfl <| S4 rfl rfl <| G7 rfl rfl rfl rfl <| C7 rfl rfl rfl rfl ⟨by decide, rfl, of_decide_eq_true rfl, of_decide_eq_true rfl, rfl⟩ rfl (by exact B7 rfl) <| A5 rfl rfl rfl ?_
  refine A4 ⟨nofun, _, kS [2,3] [2] rfl, ?_⟩
  refine B3 <| D6 (I3 rfl rfl rfl rfl (I2 rfl (I2 rfl (I2 rfl L9))) (E4 rfl rfl (E8 D3))) ?_
  obtain ⟨h1, h2⟩ := hin.2 t r hr
  rw [h1, h2]
  rfl
 have hg := hg0; try simp only [SG] at hg
 refine gF rfl rfl <| gF rfl rfl <| G7 rfl (by assumption) rfl rfl ?_
 refine A4 ⟨nofun, _, kS [2,4,17] [2,4] rfl, ?_⟩
 refine A9 rfl (fun hc => ?_) (fun hc => absurd hc (by decide))
 refine A3 <| A0 <| J0 (fs := [_, _, _]) rfl rfl rfl rfl rfl <| C7 rfl rfl rfl rfl ⟨by decide, rfl, of_decide_eq_true rfl, of_decide_eq_true rfl, rfl⟩ rfl (by exact B7 rfl) <| A5 rfl rfl rfl ?_
 refine A4 ⟨nofun, _, kS [2,3] [2] rfl, ?_⟩
 refine B3 <| D6 (I3 rfl rfl rfl rfl (I2 rfl (I5 rfl (I5 rfl L9))) (E4 rfl rfl (E8 D3))) ?_
 obtain ⟨h1, h2⟩ := b2k (s := s) (by rw [hws] at *; omega)
 rw [h1, h2]
 rfl

theorem keep_s_numbers : G3 Tryz.f65 = [0, 2, 8, 7, 9, 6, 5, 3] := by kernel_rfl
set_option maxHeartbeats 20000000 in
theorem c6p (ns : List Int) (hl : ns.length ≤ 1000000) (hnb : ∀ n ∈ ns, -1000000 ≤ n ∧ n ≤ 1000000) : CW (cxT oG) 65 [L ns] = some (tV (P5 ns), []) := by
 have hg := fun (i : Nat) (h : i < ns.length) => hnb _ (a2o h)
 have hll := a0z (ns := ns) hnb
 refine G2 rfl Tryz.func65 rfl ⟨by kernel_rfl, rfl, of_decide_eq_true rfl, of_decide_eq_true rfl, by decide⟩ keep_s_numbers <| A3 <| A0 <| A5 rfl rfl rfl ?_
 refine A4 ⟨nofun, _, kS [0] [] rfl, ?_⟩
 refine A3 <| A0 ?_
 (refine C3 rfl rfl (fun _ => rfl) ?_; intro g3)
 refine A4 ⟨nofun, _, kS [0,3] [3] rfl, ?_⟩
 refine A3 <| A3 <| A0 <| A6 rfl rfl <| F4 rfl rfl <| A6 rfl rfl ?_
 refine A4 ⟨nofun, _, kS [3,6,7,8] [3] rfl, ?_⟩
 refine D4 <| I8 (β := Nat × List (List UInt8) × Nat) [(.t 6, _), (.t 7, _)] (fun (z : Nat × List (List UInt8) × Nat) => match z with | (i, ps, g) => [(.t 8, iV i), (.t 3, .sl 3 g none 0 ps.length), (.h 3, .obj g 0 1 (ps.map tV))]) (fun (z : Nat × List (List UInt8) × Nat) => match z with | (i, ps, g) => i ≤ ns.length ∧ ps = (ns.take i).map dec) (fun (z : Nat × List (List UInt8) × Nat) => match z with | (i, ps, g) => ns.length - i) (0, [], _) ⟨rfl, rfl, rfl, rfl, rfl, trivial⟩ ⟨Nat.zero_le _, rfl⟩ ?_
 intro z hb
 obtain ⟨i, ps, g⟩ := z
 try dsimp only at hb
 obtain ⟨hi1, hps⟩ := hb
 have hpl : ps.length = i := by rw [hps]; simp; omega
 refine A3 <| A0 <| I0 rfl rfl ?_
 refine A4 ⟨nofun, _, kS [3,6,7,8,9] [3] rfl, ?_⟩
 refine A3 ?_
 refine A9 rfl (fun hc => ?_) (fun hc => ?_)
 ·try simp only [SG, List.length_map] at hc
  refine B9 <| A3 <| D4 <| A3 <| A0 <| G1 rfl rfl rfl (fun _ => rfl) (by omega) <| E6 rfl rfl rfl <| A5 rfl rfl rfl ?_
  refine A4 ⟨nofun, _, kS [3,5,6,7,8] [3] rfl, ?_⟩
  refine A0 <| A6 rfl rfl <| A6 rfl rfl ?_
  have hgi := hg i (by omega)
  apply C6 rfl
  ·apply B0
   ·exact B6 rfl
   exact C5
  ·exact d4j (ns.getD i default) (by omega)
  ·exact ⟨rfl, rfl, rfl, of_decide_eq_true rfl, rfl⟩
  ·exact .inl rfl
  ·exact B1
  ·exact C0 rfl
  ·exact fun _ => rfl
  intro g14
  refine E7 (es := List.map tV [_]) rfl rfl (of_decide_eq_true rfl) rfl rfl (fun _ => B2 (A8 fun _ => rfl)) (fun _ => rfl) ?_
  intro g15
  refine H1 rfl rfl rfl rfl (by (simp; done)) (by simp) (by decide) rfl rfl rfl rfl (of_decide_eq_true rfl) (fun _ => ⟨rfl, rfl⟩) (by simp only [H4]; (simp only [List.length_nil, List.length_cons, List.length_append, Nat.zero_add, List.length_map]; omega)) (fun _ => rfl) ?_
  intro g16
  (refine B4 rfl rfl (by (simp; done)) rfl (fun _ => (B2 (by exact A8 fun _ => rfl))) (fun _ => rfl) ?_; intro g3)
  refine A4 ⟨nofun, _, kS [3,6,7,8] [3] rfl, ?_⟩
  refine A0 <| H9 rfl rfl (F9 (by omega)) <| A6 rfl rfl ?_
  refine A4 ⟨nofun, _, kS [3,6,7,8] [3] rfl, ?_⟩
  refine ⟨(i + 1, ps ++ [dec (ns.getD i default)], _), ?_, (by simp only; omega), ⟨rfl, rfl, rfl, rfl, rfl, trivial⟩⟩
  exact ⟨by omega, by rw [hps, ← b4u (by omega)]⟩
 try simp only [SG, List.length_map] at hc
 refine H3 <| A3 <| A0 <| A6 rfl rfl ?_
 have hpe : ps = ns.map dec := by rw [hps, List.take_of_length_le (by omega)]
 have hje : joinB 44 ps = P5 ns := by rw [hpe]; rfl
 apply C6 rfl
 ·apply B0
  ·exact V9 rfl rfl rfl (by (simp; done)) (fun _ => rfl)
  apply B0
  ·exact B6 rfl
  exact C5
 ·exact d5n ps 44 (by simp only [H4]; omega) (by rw [hje]; simp only [H4]; omega)
 ·exact ⟨rfl, rfl, rfl, of_decide_eq_true rfl, rfl⟩
 ·exact .inr ⟨rfl, rfl⟩
 ·exact B1
 ·exact C0 rfl
 ·exact fun _ => rfl
 intro g19
 refine A5 rfl rfl rfl ?_
 refine A4 ⟨nofun, _, kS [2] [] rfl, ?_⟩
 refine B3 <| C9 rfl rfl trivial ?_
 rw [hje]

theorem keep_s_listTextI : G3 Tryz.f49 = [0, 2] := by kernel_rfl
set_option maxHeartbeats 20000000 in
theorem a5h (ns : List Int) (hl : ns.length ≤ 1000000) (hnb : ∀ n ∈ ns, -1000000 ≤ n ∧ n ≤ 1000000) : CW (cxT oG) 49 [L ns] = some (tV (X2 ns), []) := by
 have hll := a0z (ns := ns) hnb
 refine G2 rfl Tryz.func49 rfl ⟨by kernel_rfl, rfl, of_decide_eq_true rfl, of_decide_eq_true rfl, by decide⟩ keep_s_listTextI <| A3 <| A0 <| A5 rfl rfl rfl ?_
 refine A4 ⟨nofun, _, kS [0] [] rfl, ?_⟩
 refine A3 <| A0 <| A6 rfl rfl ?_
 apply C6 rfl
 ·apply B0
  ·exact B6 rfl
  exact C5
 ·exact c6p ns hl hnb
 ·exact ⟨rfl, rfl, rfl, of_decide_eq_true rfl, rfl⟩
 ·exact .inl rfl
 ·exact B1
 ·exact C0 rfl
 ·exact fun _ => rfl
 intro g4
 refine M1 rfl rfl (by simp only [H4, List.length_append, List.length_cons, List.length_nil]; omega) <| M1 rfl rfl (by simp only [H4, List.length_append, List.length_cons, List.length_nil]; omega) <| A5 rfl rfl rfl ?_
 refine A4 ⟨nofun, _, kS [2] [] rfl, ?_⟩
 refine B3 <| C9 rfl rfl trivial ?_
 rfl

theorem keep_s_readListI : G3 Tryz.f86 = [0, 2, 3, 4, 6, 5, 27, 29, 33, 32, 34, 31, 9, 11, 43, 10, 7] := by kernel_rfl
set_option maxHeartbeats 20000000 in
theorem b9d (w : List UInt8) (hs : w.length ≤ 1048576) : CW (cxT oG) 86 [tV w] = some (.tup [.own 1 ((rlX w).map iV), bV (okI w)], []) := by
 have hc1 := c8u 91 w
 have hc2 := d1a 93 (a4f 91 w)
 refine G2 rfl Tryz.func86 rfl ⟨by kernel_rfl, rfl, of_decide_eq_true rfl, of_decide_eq_true rfl, by decide⟩ keep_s_readListI <| A3 <| A0 ?_
 (refine C3 rfl rfl (fun _ => rfl) ?_; intro g2)
 refine A5 rfl rfl rfl ?_
 refine A4 ⟨nofun, _, kS [0] [] rfl, ?_⟩
 refine A3 <| A0 <| A6 rfl rfl ?_
 apply C6 rfl
 ·apply B0
  ·exact B6 rfl
  apply B0
  ·exact B6 rfl
  exact C5
 ·exact d5o w 91
 ·exact ⟨rfl, rfl, rfl, of_decide_eq_true rfl, rfl⟩
 ·exact .inl rfl
 ·exact B1
 ·exact L4 rfl
 ·exact fun _ => rfl
 intro g14
 refine A6 rfl rfl <| B8 rfl rfl rfl <| B8 rfl rfl rfl <| A5 rfl rfl rfl <| A5 rfl rfl rfl ?_
 refine A4 ⟨nofun, _, kS [0,4,5] [] rfl, ?_⟩
 refine A3 <| A0 <| A6 rfl rfl ?_
 apply C6 rfl
 ·apply B0
  ·exact B6 rfl
  apply B0
  ·exact B6 rfl
  exact C5
 ·exact d5e (a4f 91 w) 93 (by omega)
 ·exact ⟨rfl, rfl, rfl, of_decide_eq_true rfl, rfl⟩
 ·exact .inl rfl
 ·exact B1
 ·exact L4 rfl
 ·exact fun _ => rfl
 intro g19
 refine A6 rfl rfl <| B8 rfl rfl rfl <| B8 rfl rfl rfl <| A5 rfl rfl rfl <| A5 rfl rfl rfl ?_
 refine A4 ⟨nofun, _, kS [0,4,5,6] [] rfl, ?_⟩
 refine A3 <| A3 <| A0 <| A6 rfl rfl <| Q0 rfl <| A6 rfl rfl ?_
 refine E3 rfl rfl (fun hg0 => ?_) (fun hg0 => ?_)
 ·have hg := hg0; try simp only [SG] at hg
  refine A6 rfl rfl <| gT rfl rfl <| Q0 rfl <| G6 rfl (by assumption) rfl rfl ?_
  refine A4 ⟨nofun, _, kS [0,4,27] [] rfl, ?_⟩
  refine A9 rfl (fun hc => ?_) (fun hc => ?_)
  ·try simp only [SG, List.length_map] at hc
   refine A3 <| A0 ?_
   (refine C3 rfl rfl (fun _ => rfl) ?_; intro g2)
   refine A5 rfl rfl rfl ?_
   refine A4 ⟨nofun, _, kS [2,3] [2] rfl, ?_⟩
   refine B3 <| D6 (G4 rfl rfl (by simp) (by rfl) (E4 rfl rfl (E8 D3))) ?_
   obtain ⟨h1, h2⟩ := b7f (c1j (w := w) (by simp_all [okB]))
   rw [h1, h2]
   rfl
  try simp only [SG, List.length_map] at hc
  have hok : okB w = true := by simp [okB]; constructor <;> assumption
  obtain ⟨ps, hps0⟩ : ∃ ps, ps = splitB 44 (a5d w) := ⟨_, rfl⟩
  have hpl := U6 44 (a5d w)
  have hpp := a0h 44 (a5d w)
  rw [← hps0] at hpl hpp
  have hil := c9y hok
  refine B9 <| A3 <| A0 ?_
  (refine C3 rfl rfl (fun _ => rfl) ?_; intro g7)
  refine A4 ⟨nofun, _, kS [0,4,7] [7] rfl, ?_⟩
  refine A3 <| A3 <| A0 <| A6 rfl rfl <| b5m rfl rfl ?_
  refine A4 ⟨nofun, _, kS [0,4,7,29] [7] rfl, ?_⟩
  refine A9 rfl (fun hc => ?_) (fun hc => ?_)
  ·try simp only [SG, List.length_map] at hc
   have hin : a5d w ≠ [] := hc
   refine A3 <| A0 <| A6 rfl rfl ?_
   have hps := hps0
   apply C6 rfl
   ·apply B0
    ·exact B6 rfl
    apply B0
    ·exact B6 rfl
    exact C5
   ·exact c5p (a5d w) 44 (by unfold a5d; omega)
   ·exact ⟨rfl, rfl, rfl, of_decide_eq_true rfl, rfl⟩
   ·exact .inl rfl
   ·exact B1
   ·exact K4
   ·(intro _; exact C1 (B2 (A8 fun _ => rfl)) rfl)
   intro g31
   rw [← hps]
   try simp only [List.length_map]
   refine K5 rfl rfl <| A6 rfl rfl ?_
   refine A4 ⟨nofun, _, kS [0,7,31,32,33] [7,1000031] rfl, ?_⟩
   refine D4 <| I8 (β := Nat × List Int × Nat) [(.t 0, _), (.t 31, _), (.t 32, _), (.h 1000031, _)] (fun (z : Nat × List Int × Nat) => match z with | (i, ns, g) => [(.t 33, iV i), (.t 7, .sl 7 g none 0 ns.length), (.h 7, .obj g 0 1 (ns.map iV))]) (fun (z : Nat × List Int × Nat) => match z with | (i, ns, g) => i ≤ ps.length ∧ rdA (ps.take i) = some ns) (fun (z : Nat × List Int × Nat) => match z with | (i, ns, g) => ps.length - i) (0, [], _) ⟨rfl, rfl, rfl, rfl, rfl, rfl, rfl, trivial⟩ ⟨Nat.zero_le _, rfl⟩ ?_
   intro z hb
   obtain ⟨i, ns, g⟩ := z
   try dsimp only at hb
   obtain ⟨hi1, hrd⟩ := hb
   have hpi := fun h : i < ps.length => hpp _ (Y2 h)
   have hnl := b3p hrd
   rw [List.length_take] at hnl
   refine A3 <| A0 <| I0 rfl rfl ?_
   refine A4 ⟨nofun, _, kS [0,7,31,32,33,34] [7,1000031] rfl, ?_⟩
   refine A3 ?_
   refine A9 rfl (fun hc => ?_) (fun hc => ?_)
   ·try simp only [SG, List.length_map] at hc
    refine B9 <| A3 <| D4 <| A3 <| A0 <| M3 rfl rfl rfl rfl (by omega) (by (simp; done)) rfl <| Z9 rfl rfl (by omega) (fun _ => rfl) (fun _ => rfl) rfl <| A5 rfl rfl rfl ?_
    refine A4 ⟨nofun, _, kS [0,7,9,31,32,33] [7,1000031] rfl, ?_⟩
    refine A3 <| A0 <| A6 rfl rfl ?_
    rcases hat : Lib.atoiAll (ps.getD i default) with v | _ | _
    ·skip
     apply C6 rfl
     ·apply B0
      ·exact B6 rfl
      exact C5
     ·exact (by have hi := c3w (oG := oG) (ps.getD i default) (by omega); unfold atR at hi; rw [hat] at hi; exact hi)
     ·exact ⟨rfl, rfl, rfl, of_decide_eq_true rfl, rfl⟩
     ·exact .inl rfl
     ·exact B1
     ·exact L4 rfl
     ·exact fun _ => rfl
     intro g39
     refine A6 rfl rfl <| B8 rfl rfl rfl <| B8 rfl rfl rfl <| A5 rfl rfl rfl <| A5 rfl rfl rfl ?_
     refine A4 ⟨nofun, _, kS [0,7,10,11,31,32,33] [7,1000031] rfl, ?_⟩
     refine A3 <| A3 <| A0 <| A6 rfl rfl <| c9b rfl rfl rfl rfl ?_
     refine A4 ⟨nofun, _, kS [0,7,10,31,32,33,43] [7,1000031] rfl, ?_⟩
     refine A9 rfl (fun hc => absurd hc (by decide)) (fun hc => ?_)
     refine B9 <| A0 <| A6 rfl rfl <| A6 rfl rfl <| E7 (es := List.map iV [_]) rfl rfl (of_decide_eq_true rfl) rfl rfl (fun _ => B2 (A8 fun _ => rfl)) (fun _ => rfl) ?_
     intro g46
     refine H1 rfl rfl rfl rfl (by (simp; done)) (by simp) (by decide) rfl rfl rfl rfl (of_decide_eq_true rfl) (fun _ => ⟨rfl, rfl⟩) (by simp only [H4]; (simp only [List.length_nil, List.length_cons, List.length_append, Nat.zero_add, List.length_map]; omega)) (fun _ => rfl) ?_
     intro g47
     (refine B4 rfl rfl (by (simp; done)) rfl (fun _ => (B2 (by exact A8 fun _ => rfl))) (fun _ => rfl) ?_; intro g7)
     refine A4 ⟨nofun, _, kS [0,7,31,32,33] [7,1000031] rfl, ?_⟩
     refine A0 <| H9 rfl rfl (F9 (by omega)) <| A6 rfl rfl ?_
     refine A4 ⟨nofun, _, kS [0,7,31,32,33] [7,1000031] rfl, ?_⟩
     refine ⟨(i + 1, ns ++ [v], _), ?_, (by simp only; omega), ⟨rfl, rfl, rfl, rfl, rfl, rfl, rfl, trivial⟩⟩
     exact ⟨by omega, d0p (by omega) hrd hat⟩
    ·skip
     apply C6 rfl
     ·apply B0
      ·exact B6 rfl
      exact C5
     ·exact (by have hi := c3w (oG := oG) (ps.getD i default) (by omega); unfold atR at hi; rw [hat] at hi; exact hi)
     ·exact ⟨rfl, rfl, rfl, of_decide_eq_true rfl, rfl⟩
     ·exact .inl rfl
     ·exact B1
     ·exact L4 rfl
     ·exact fun _ => rfl
     intro g39
     refine A6 rfl rfl <| B8 rfl rfl rfl <| B8 rfl rfl rfl <| A5 rfl rfl rfl <| A5 rfl rfl rfl ?_
     refine A4 ⟨nofun, _, kS [0,7,10,11,31,32,33] [7,1000031] rfl, ?_⟩
     refine A3 <| A3 <| A0 <| A6 rfl rfl <| b9x rfl rfl rfl ?_
     refine A4 ⟨nofun, _, kS [0,7,10,31,32,33,43] [7,1000031] rfl, ?_⟩
     refine A9 rfl (fun hc => ?_) (fun hc => absurd hc (by decide))
     refine A3 <| A0 ?_
     (refine C3 rfl rfl (fun _ => rfl) ?_; intro g2)
     refine A5 rfl rfl rfl ?_
     refine A4 ⟨nofun, _, kS [2,3] [2] rfl, ?_⟩
     refine B3 <| D6 (G4 rfl rfl (by simp) (by rfl) (E4 rfl rfl (E8 D3))) ?_
     obtain ⟨h1, h2⟩ := b7f (w := w) (by rw [b1s hok hin, ← hps0]; exact c1r (i := i) (by omega) (by intro v hv; rw [hat] at hv; cases hv))
     rw [h1, h2]
     rfl
    skip
    apply C6 rfl
    ·apply B0
     ·exact B6 rfl
     exact C5
    ·exact (by have hi := c3w (oG := oG) (ps.getD i default) (by omega); unfold atR at hi; rw [hat] at hi; exact hi)
    ·exact ⟨rfl, rfl, rfl, of_decide_eq_true rfl, rfl⟩
    ·exact .inl rfl
    ·exact B1
    ·exact L4 rfl
    ·exact fun _ => rfl
    intro g39
    refine A6 rfl rfl <| B8 rfl rfl rfl <| B8 rfl rfl rfl <| A5 rfl rfl rfl <| A5 rfl rfl rfl ?_
    refine A4 ⟨nofun, _, kS [0,7,10,11,31,32,33] [7,1000031] rfl, ?_⟩
    refine A3 <| A3 <| A0 <| A6 rfl rfl <| b9x rfl rfl rfl ?_
    refine A4 ⟨nofun, _, kS [0,7,10,31,32,33,43] [7,1000031] rfl, ?_⟩
    refine A9 rfl (fun hc => ?_) (fun hc => absurd hc (by decide))
    refine A3 <| A0 ?_
    (refine C3 rfl rfl (fun _ => rfl) ?_; intro g2)
    refine A5 rfl rfl rfl ?_
    refine A4 ⟨nofun, _, kS [2,3] [2] rfl, ?_⟩
    refine B3 <| D6 (G4 rfl rfl (by simp) (by rfl) (E4 rfl rfl (E8 D3))) ?_
    obtain ⟨h1, h2⟩ := b7f (w := w) (by rw [b1s hok hin, ← hps0]; exact c1r (i := i) (by omega) (by intro v hv; rw [hat] at hv; cases hv))
    rw [h1, h2]
    rfl
   try simp only [SG, List.length_map] at hc
   refine H3 <| A3 <| A0 <| A6 rfl rfl <| A6 rfl rfl ?_
   apply C6 rfl
   ·apply B0
    ·exact V9 rfl rfl rfl (by (simp; done)) (fun _ => rfl)
    exact C5
   ·exact a7o ns (by omega)
   ·exact ⟨rfl, rfl, rfl, of_decide_eq_true rfl, rfl⟩
   ·exact .inr ⟨rfl, rfl⟩
   ·exact B1
   ·exact C0 rfl
   ·exact fun _ => rfl
   intro g51
   refine A6 rfl rfl ?_
   refine E3 rfl rfl (fun hg0 => ?_) (fun hg0 => ?_)
   ·have hg := hg0; try simp only [SG] at hg
    refine A6 rfl rfl <| gT rfl rfl ?_
    (have hnb := d3u (ns := ns) (by assumption); have hvl := Y9 (show vd ns = true by assumption))
    apply C6 rfl
    ·apply B0
     ·exact V9 rfl rfl rfl (by (simp; done)) (fun _ => rfl)
     exact C5
    ·exact a5h ns (by omega) hnb
    ·exact ⟨rfl, rfl, rfl, of_decide_eq_true rfl, rfl⟩
    ·exact .inr ⟨rfl, rfl⟩
    ·exact B1
    ·exact C0 rfl
    ·exact fun _ => rfl
    intro g54
    refine gT rfl rfl <| A6 rfl rfl <| gT rfl rfl <| a1v rfl rfl <| G7 rfl (by assumption) rfl rfl ?_
    (refine B4 rfl rfl (by (simp; done)) rfl (fun _ => (B2 (by exact A8 fun _ => rfl))) (fun _ => rfl) ?_; intro g2)
    refine A5 rfl rfl rfl ?_
    refine A4 ⟨nofun, _, kS [2,3] [2] rfl, ?_⟩
    refine B3 <| D6 (G4 rfl rfl (by simp) (by exact A8 fun _ => rfl) (E4 rfl rfl (E8 D3))) ?_
    (have hx := hin; obtain ⟨h1, h2⟩ := a8l (ns := ns) (w := w) (by rw [b1s hok hx, ← hps0]; rw [List.take_of_length_le (by omega)] at hrd; exact hrd))
    (rw [h1, h2, hg, Bool.true_and]; rfl)
   have hg := hg0; try simp only [SG] at hg
   refine gF rfl rfl <| gF rfl rfl <| gF rfl rfl <| G6 rfl (by assumption) rfl rfl ?_
   (refine B4 rfl rfl (by (simp; done)) rfl (fun _ => (B2 (by exact A8 fun _ => rfl))) (fun _ => rfl) ?_; intro g2)
   refine A5 rfl rfl rfl ?_
   refine A4 ⟨nofun, _, kS [2,3] [2] rfl, ?_⟩
   refine B3 <| D6 (G4 rfl rfl (by simp) (by exact A8 fun _ => rfl) (E4 rfl rfl (E8 D3))) ?_
   (have hx := hin; obtain ⟨h1, h2⟩ := a8l (ns := ns) (w := w) (by rw [b1s hok hx, ← hps0]; rw [List.take_of_length_le (by omega)] at hrd; exact hrd))
   (rw [h1, h2, hg, Bool.false_and]; rfl)
  try simp only [SG, List.length_map] at hc
  have hie : a5d w = [] := hc
  refine B9 <| A3 <| A0 <| A6 rfl rfl <| A6 rfl rfl ?_
  apply C6 rfl
  ·apply B0
   ·exact b1z rfl rfl rfl rfl rfl
   exact C5
  ·exact a7o [] (by decide)
  ·exact ⟨rfl, rfl, rfl, of_decide_eq_true rfl, rfl⟩
  ·exact .inr ⟨rfl, rfl⟩
  ·exact B1
  ·exact C0 rfl
  ·exact fun _ => rfl
  intro g51
  refine A6 rfl rfl ?_
  refine E3 rfl rfl (fun hg0 => ?_) (fun hg0 => ?_)
  ·have hg := hg0; try simp only [SG] at hg
   refine A6 rfl rfl <| gT rfl rfl ?_
   skip
   apply C6 rfl
   ·apply B0
    ·exact b1z rfl rfl rfl rfl rfl
    exact C5
   ·exact a5h [] (by decide) (by simp)
   ·exact ⟨rfl, rfl, rfl, of_decide_eq_true rfl, rfl⟩
   ·exact .inr ⟨rfl, rfl⟩
   ·exact B1
   ·exact C0 rfl
   ·exact fun _ => rfl
   intro g54
   refine gT rfl rfl <| A6 rfl rfl <| gT rfl rfl <| a1v rfl rfl <| G7 rfl rfl rfl rfl ?_
   (refine B4 rfl rfl (by (simp; done)) rfl (fun _ => (B2 (by rfl))) (fun _ => rfl) ?_; intro g2)
   refine A5 rfl rfl rfl ?_
   refine A4 ⟨nofun, _, kS [2,3] [2] rfl, ?_⟩
   refine B3 <| D6 (G4 rfl rfl (by simp) (by rfl) (E4 rfl rfl (E8 D3))) ?_
   obtain ⟨h1, h2⟩ := a8l (ns := []) (w := w) (c5m hok hie)
   (rw [h1, h2, hg, Bool.true_and]; rfl)
  have hg := hg0; try simp only [SG] at hg
  refine gF rfl rfl <| gF rfl rfl <| gF rfl rfl <| G6 rfl (by assumption) rfl rfl ?_
  (refine B4 rfl rfl (by (simp; done)) rfl (fun _ => (B2 (by rfl))) (fun _ => rfl) ?_; intro g2)
  refine A5 rfl rfl rfl ?_
  refine A4 ⟨nofun, _, kS [2,3] [2] rfl, ?_⟩
  refine B3 <| D6 (G4 rfl rfl (by simp) (by rfl) (E4 rfl rfl (E8 D3))) ?_
  obtain ⟨h1, h2⟩ := a8l (ns := []) (w := w) (c5m hok hie)
  (rw [h1, h2, hg, Bool.false_and]; rfl)
 have hg := hg0; try simp only [SG] at hg
 refine gF rfl rfl <| G7 rfl (by assumption) rfl rfl ?_
 refine A4 ⟨nofun, _, kS [0,4,27] [] rfl, ?_⟩
 refine A9 rfl (fun hc => ?_) (fun hc => absurd hc (by decide))
 refine A3 <| A0 ?_
 (refine C3 rfl rfl (fun _ => rfl) ?_; intro g2)
 refine A5 rfl rfl rfl ?_
 refine A4 ⟨nofun, _, kS [2,3] [2] rfl, ?_⟩
 refine B3 <| D6 (G4 rfl rfl (by simp) (by rfl) (E4 rfl rfl (E8 D3))) ?_
 obtain ⟨h1, h2⟩ := b7f (c1j (w := w) (by simp_all [okB]))
 rw [h1, h2]
 rfl

theorem keep_s_readWord : G3 Tryz.f76 = [0, 2, 3, 4, 6, 12, 5] := by kernel_rfl
set_option maxHeartbeats 20000000 in
theorem a1k (w : List UInt8) (hs : w.length ≤ 1048576) : CW (cxT oG) 76 [tV w] = some (.tup [tV (if (numsOf w).isSome = true then lW else w), .own 1 (((numsOf w).getD []).map iV), bV ((numsOf w).isSome || decide (0 ≤ rch (bA w)))], []) := by
 refine G2 rfl Tryz.func76 rfl ⟨by kernel_rfl, rfl, of_decide_eq_true rfl, of_decide_eq_true rfl, by decide⟩ keep_s_readWord <| A3 <| A0 <| A5 rfl rfl rfl ?_
 (refine C3 rfl rfl (fun _ => rfl) ?_; intro g3)
 refine A5 rfl rfl rfl ?_
 refine A4 ⟨nofun, _, kS [0] [] rfl, ?_⟩
 refine A3 <| A3 <| A0 <| A6 rfl rfl ?_
 apply C6 rfl
 ·apply B0
  ·exact B6 rfl
  exact C5
 ·exact (by have hi := b9d (oG := oG) w hs; rw [d4q] at hi; exact hi)
 ·exact ⟨rfl, rfl, rfl, of_decide_eq_true rfl, rfl⟩
 ·exact .inr ⟨a3l _ _, rfl⟩
 ·exact B1
 ·exact I1 (N7 fun _ => I9 rfl N6)
 ·exact fun _ => rfl
 intro g9
 simp only [List.length_map]
 refine A6 rfl rfl <| B8 rfl rfl rfl <| B8 rfl rfl rfl ?_
 (refine B4 rfl rfl (by (simp; done)) rfl (fun _ => (B2 (by exact A8 fun _ => rfl))) (fun _ => rfl) ?_; intro g5)
 refine A5 rfl rfl rfl ?_
 refine A4 ⟨nofun, _, kS [0,5,6] [5] rfl, ?_⟩
 refine A3 <| A0 <| A6 rfl rfl ?_
 refine A4 ⟨nofun, _, kS [0,5,12] [5] rfl, ?_⟩
 refine A9 rfl (fun hc => ?_) (fun hc => ?_)
 ·try simp only [SG, List.length_map] at hc
  obtain ⟨ns, hns⟩ := Option.isSome_iff_exists.1 hc
  have hraw := d5a hns
  refine A3 <| A0 <| A6 rfl rfl <| A5 rfl rfl rfl ?_
  (refine B4 rfl rfl (by (simp; done)) rfl (fun _ => (B2 (by exact A8 fun _ => rfl))) (fun _ => rfl) ?_; intro g3)
  refine A5 rfl rfl rfl ?_
  refine A4 ⟨nofun, _, kS [2,3,4] [3] rfl, ?_⟩
  refine B3 <| D6 (E4 rfl rfl (G4 rfl rfl (by simp) (by exact A8 fun _ => rfl) (E4 rfl rfl (E8 D3)))) ?_
  rw [hns, hraw]
  rfl
 try simp only [SG, List.length_map] at hc
 have hnn : numsOf w = none := by simpa using hc
 have hwo := d2y w
 refine B9 <| A3 <| A0 <| A6 rfl rfl <| A6 rfl rfl <| b5m rfl rfl <| A6 rfl rfl ?_
 refine E3 rfl rfl (fun hg0 => ?_) (fun hg0 => ?_)
 ·have hg := hg0; try simp only [SG] at hg
  refine A6 rfl rfl <| gT rfl rfl ?_
  apply C6 rfl
  ·apply B0
   ·exact B6 rfl
   exact C5
  ·exact a7u (bA w)
  ·exact ⟨rfl, rfl, rfl, of_decide_eq_true rfl, rfl⟩
  ·exact .inl rfl
  ·exact B1
  ·exact C0 rfl
  ·exact fun _ => rfl
  intro g19
  refine gT rfl rfl <| a4a rfl rfl <| G7 rfl (by assumption) rfl rfl <| A5 rfl rfl rfl ?_
  (refine C3 rfl rfl (fun _ => rfl) ?_; intro g3)
  refine A5 rfl rfl rfl ?_
  refine A4 ⟨nofun, _, kS [2,3,4] [3] rfl, ?_⟩
  refine B3 <| D6 (E4 rfl rfl (G4 rfl rfl (by simp) (by rfl) (E4 rfl rfl (E8 D3)))) ?_
  rw [hnn, ← hwo]
  simp_all
  try rfl
 have hg := hg0; try simp only [SG] at hg
 refine gF rfl rfl <| gF rfl rfl <| G6 rfl (by assumption) rfl rfl <| A5 rfl rfl rfl ?_
 (refine C3 rfl rfl (fun _ => rfl) ?_; intro g3)
 refine A5 rfl rfl rfl ?_
 refine A4 ⟨nofun, _, kS [2,3,4] [3] rfl, ?_⟩
 refine B3 <| D6 (E4 rfl rfl (G4 rfl rfl (by simp) (by rfl) (E4 rfl rfl (E8 D3)))) ?_
 rw [hnn, ← hwo]
 simp_all
 try rfl

theorem keep_s_readWords : G3 Tryz.f64 = [0, 2, 3, 4, 15, 7, 26, 6, 5, 35, 34, 36, 9, 12, 44, 8, 10, 11, 39, 50] := by kernel_rfl
set_option maxHeartbeats 20000000 in
theorem b0x (ws : List W8) (hws : ws.length ≤ 1048600 ∧ ∀ w ∈ ws, w.length ≤ 1048576) : CW (cxT oG) 64 [.list (ws.map tV)] = some (rtR (rdT ws), []) := by
 obtain ⟨kk, hkk⟩ : ∃ kk : Nat, ws.length < kk := ⟨_, Nat.lt_succ_self _⟩
 revert ws
 induction kk with
 | zero => intro ws hws hkk; exact absurd hkk (Nat.not_lt_zero _)
 | succ kk ih =>
  intro ws hws hkk
  refine G2 rfl Tryz.func64 rfl ⟨by kernel_rfl, rfl, of_decide_eq_true rfl, of_decide_eq_true rfl, by decide⟩ keep_s_readWords <| A3 <| A0 <| F8 rfl (fun _ => B7 rfl) (fun _ => rfl) ?_
  intro g2
  (refine C3 rfl rfl (fun _ => rfl) ?_; intro g3)
  refine A5 rfl rfl rfl ?_
  refine A4 ⟨nofun, _, kS [0,2] [2] rfl, ?_⟩
  refine A3 <| A3 <| A0 <| A6 rfl rfl <| F4 rfl rfl <| S4 rfl rfl ?_
  refine A4 ⟨nofun, _, kS [0,2,15] [2] rfl, ?_⟩
  refine A9 rfl (fun hc => ?_) (fun hc => ?_)
  ·try simp only [SG, List.length_map] at hc
   have hw0 : ws = [] := List.length_eq_zero_iff.1 (by simpa using hc)
   subst hw0
   refine A3 <| A0 <| J0 (fs := [_, _, _]) rfl rfl rfl rfl rfl <| C7 rfl rfl rfl rfl ⟨by decide, rfl, of_decide_eq_true rfl, of_decide_eq_true rfl, rfl⟩ rfl (by exact B7 rfl) ?_
   (refine C3 rfl rfl (fun _ => rfl) ?_; intro g3)
   refine A5 rfl rfl rfl ?_
   refine A4 ⟨nofun, _, kS [2,3,4] [2,3] rfl, ?_⟩
   refine B3 <| D6 (I3 rfl rfl rfl rfl (I2 rfl (I5 rfl (I5 rfl L9))) (G4 rfl rfl (by simp) (by rfl) (E4 rfl rfl (E8 D3)))) ?_
   rfl
  try simp only [SG, List.length_map] at hc
  obtain ⟨w, ws1, rfl⟩ : ∃ w ws1, ws = w :: ws1 := List.exists_cons_of_ne_nil (fun e => by subst e; simp at hc)
  have hw := hws.2 w (by simp)
  refine B9 <| A3 <| A0 <| A6 rfl rfl <| G1 rfl rfl rfl (fun _ => rfl) (by (change 0 < _; omega)) <| E6 rfl rfl rfl ?_
  rcases c9z w with ⟨ns, hns⟩ | ⟨hnn, hn⟩ | ⟨hnn, hn⟩ | ⟨hnn, hn⟩ | ⟨hnn, hn⟩
  ·skip
   apply C6 rfl
   ·apply B0
    ·exact B6 rfl
    exact C5
   ·exact (show CW (cxT oG) 76 [tV w] = some (.tup [tV lW, .own 1 (ns.map iV), bV true], []) from by have hi := a1k (oG := oG) w (by omega); rw [hns] at hi; exact hi)
   ·exact ⟨rfl, rfl, rfl, of_decide_eq_true rfl, rfl⟩
   ·exact .inr ⟨by simp [hasList, G0], rfl⟩
   ·exact B1
   ·exact I1 (I9 rfl (N7 fun _ => I9 rfl N6))
   ·exact fun _ => C1 (B2 (A8 fun _ => rfl)) (by rfl)
   intro g21
   try simp only [List.length_map]
   refine A6 rfl rfl <| B8 rfl rfl rfl <| B8 rfl rfl rfl <| B8 rfl rfl rfl <| A5 rfl rfl rfl ?_
   (refine B4 rfl rfl (by (simp; done)) rfl (fun _ => (B2 (by exact A8 fun _ => rfl))) (fun _ => rfl) ?_; intro g6)
   refine A5 rfl rfl rfl ?_
   refine A4 ⟨nofun, _, kS [0,2,5,6,7] [2,6] rfl, ?_⟩
   refine A3 <| A3 <| A0 <| A6 rfl rfl <| Q0 rfl ?_
   refine A4 ⟨nofun, _, kS [0,2,5,6,26] [2,6] rfl, ?_⟩
   refine A9 rfl (fun hc => absurd hc (by decide)) (fun hc => ?_)
   refine B9 <| A3 <| A0 <| A6 rfl rfl <| A6 rfl rfl <| J0 (fs := [_, _, _]) rfl rfl rfl rfl rfl <| A6 rfl rfl <| N2 rfl rfl rfl (Mv.sized_map fun _ => rfl) I7 (I4 (n := 1) rfl) (by simp) ?_
   rw [show ((List.map tV (w :: ws1)).drop 1).take ((List.map tV (w :: ws1)).length - 1) = ws1.map tV from by rw [List.map_cons, List.drop_succ_cons, List.drop_zero, List.take_of_length_le (by simp)]]
   refine F8 rfl (fun _ => B7 rfl) (fun _ => rfl) ?_
   intro g8
   refine H7 rfl rfl rfl rfl (F7 rfl (a3r (by decide) (F7 rfl L7))) (fun _ => rfl) ⟨by decide, rfl, of_decide_eq_true rfl, Nat.le_refl _⟩ (fun _ => rfl) (fun _ => rfl) (fun _ => (by rfl)) ?_
   intro z
   simp only [L0, List.cons_append, List.nil_append]
   refine A5 rfl rfl rfl ?_
   refine A4 ⟨fun _ => ⟨by (simp only [T7, List.nil_append, List.append_nil, List.map_cons, List.map_nil, List.cons_append]; decide +kernel), by decide +kernel⟩, [(.t 2, _), (.t 5, _), (.t 8, _), (.t 9, _), (.h 2, _), (.h 8, _), (.h 6, _)], ⟨rfl, rfl, rfl, rfl, rfl, rfl, rfl, rfl, rfl, rfl, rfl, rfl, rfl, rfl, trivial⟩, ?_⟩
   refine A3 <| A3 <| A0 <| A6 rfl rfl ?_
   apply C6 rfl
   ·apply B0
    ·exact B6 rfl
    exact C5
   ·exact a7u (bA lW)
   ·exact ⟨rfl, rfl, rfl, of_decide_eq_true rfl, rfl⟩
   ·exact .inl rfl
   ·exact B1
   ·exact C0 rfl
   ·exact fun _ => rfl
   intro g34
   rw [show nd (bA lW) = 0 from d3e rfl]
   refine A6 rfl rfl ?_
   refine A4 ⟨nofun, _, kS [2,8,9,34,35] [2,8,6] rfl, ?_⟩
   refine D4 <| H5 <| A3 <| A0 <| I0 rfl rfl ?_
   refine A4 ⟨nofun, _, kS [2,8,9,34,35,36] [2,8,6] rfl, ?_⟩
   refine A3 ?_
   refine A9 rfl (fun hc => absurd hc (by decide)) (fun hc => ?_)
   refine H3 <| A3 <| A0 <| D5 rfl rfl rfl rfl rfl <| A6 rfl rfl <| H7 rfl rfl rfl rfl (F7 rfl (a3r (by decide) (F7 rfl L7))) (fun _ => rfl) ⟨by decide, rfl, of_decide_eq_true rfl, Nat.le_refl _⟩ (fun _ => rfl) (fun _ => rfl) (fun _ => (by rfl)) ?_
   intro z
   simp only [L0, List.cons_append, List.nil_append]
   refine A5 rfl rfl rfl <| A5 rfl rfl rfl ?_
   refine A4 ⟨nofun, _, kS [2,3,4] [2,6] rfl, ?_⟩
   refine B3 <| D6 (I3 rfl rfl rfl rfl (I2 rfl (a3k rfl rfl (by simp) (fun _ => rfl) (I5 rfl L9))) (E4 rfl rfl (E4 rfl rfl (E8 D3)))) ?_
   rw [c0v hns]
   rfl
  ·skip
   apply C6 rfl
   ·apply B0
    ·exact B6 rfl
    exact C5
   ·exact (show CW (cxT oG) 76 [tV w] = some (.tup [tV w, .own 1 [], bV true], []) from by have hi := a1k (oG := oG) w (by omega); rw [hnn] at hi; rw [show decide (0 ≤ rch (bA w)) = true from decide_eq_true (by omega)] at hi; exact hi)
   ·exact ⟨rfl, rfl, rfl, of_decide_eq_true rfl, rfl⟩
   ·exact .inr ⟨rfl, rfl⟩
   ·exact B1
   ·exact I1 (I9 rfl (N7 fun _ => I9 rfl N6))
   ·exact fun _ => C1 (B2 rfl) (by rfl)
   intro g21
   try simp only [List.length_map]
   refine A6 rfl rfl <| B8 rfl rfl rfl <| B8 rfl rfl rfl <| B8 rfl rfl rfl <| A5 rfl rfl rfl ?_
   (refine B4 rfl rfl (by (simp; done)) rfl (fun _ => (B2 (by rfl))) (fun _ => rfl) ?_; intro g6)
   refine A5 rfl rfl rfl ?_
   refine A4 ⟨nofun, _, kS [0,2,5,6,7] [2,6] rfl, ?_⟩
   refine A3 <| A3 <| A0 <| A6 rfl rfl <| Q0 rfl ?_
   refine A4 ⟨nofun, _, kS [0,2,5,6,26] [2,6] rfl, ?_⟩
   refine A9 rfl (fun hc => absurd hc (by decide)) (fun hc => ?_)
   refine B9 <| A3 <| A0 <| A6 rfl rfl <| A6 rfl rfl <| J0 (fs := [_, _, _]) rfl rfl rfl rfl rfl <| A6 rfl rfl <| N2 rfl rfl rfl (Mv.sized_map fun _ => rfl) I7 (I4 (n := 1) rfl) (by simp) ?_
   rw [show ((List.map tV (w :: ws1)).drop 1).take ((List.map tV (w :: ws1)).length - 1) = ws1.map tV from by rw [List.map_cons, List.drop_succ_cons, List.drop_zero, List.take_of_length_le (by simp)]]
   refine F8 rfl (fun _ => B7 rfl) (fun _ => rfl) ?_
   intro g8
   refine H7 rfl rfl rfl rfl (F7 rfl (a3r (by decide) (F7 rfl L7))) (fun _ => rfl) ⟨by decide, rfl, of_decide_eq_true rfl, Nat.le_refl _⟩ (fun _ => rfl) (fun _ => rfl) (fun _ => (by rfl)) ?_
   intro z
   simp only [L0, List.cons_append, List.nil_append]
   refine A5 rfl rfl rfl ?_
   refine A4 ⟨fun _ => ⟨by (simp only [T7, List.nil_append, List.append_nil, List.map_cons, List.map_nil, List.cons_append]; decide +kernel), by decide +kernel⟩, [(.t 2, _), (.t 5, _), (.t 8, _), (.t 9, _), (.h 2, _), (.h 8, _), (.h 6, _)], ⟨rfl, rfl, rfl, rfl, rfl, rfl, rfl, rfl, rfl, rfl, rfl, rfl, rfl, rfl, trivial⟩, ?_⟩
   refine A3 <| A3 <| A0 <| A6 rfl rfl ?_
   apply C6 rfl
   ·apply B0
    ·exact B6 rfl
    exact C5
   ·exact a7u (bA w)
   ·exact ⟨rfl, rfl, rfl, of_decide_eq_true rfl, rfl⟩
   ·exact .inl rfl
   ·exact B1
   ·exact C0 rfl
   ·exact fun _ => rfl
   intro g34
   rw [show nd (bA w) = 0 from (a9b (by omega)).trans hn]
   refine A6 rfl rfl ?_
   refine A4 ⟨nofun, _, kS [2,8,9,34,35] [2,8,6] rfl, ?_⟩
   refine D4 <| H5 <| A3 <| A0 <| I0 rfl rfl ?_
   refine A4 ⟨nofun, _, kS [2,8,9,34,35,36] [2,8,6] rfl, ?_⟩
   refine A3 ?_
   refine A9 rfl (fun hc => absurd hc (by decide)) (fun hc => ?_)
   refine H3 <| A3 <| A0 <| D5 rfl rfl rfl rfl rfl <| A6 rfl rfl <| H7 rfl rfl rfl rfl (F7 rfl (a3r (by decide) (F7 rfl L7))) (fun _ => rfl) ⟨by decide, rfl, of_decide_eq_true rfl, Nat.le_refl _⟩ (fun _ => rfl) (fun _ => rfl) (fun _ => (by rfl)) ?_
   intro z
   simp only [L0, List.cons_append, List.nil_append]
   refine A5 rfl rfl rfl <| A5 rfl rfl rfl ?_
   refine A4 ⟨nofun, _, kS [2,3,4] [2,6] rfl, ?_⟩
   refine B3 <| D6 (I3 rfl rfl rfl rfl (I2 rfl (b8p rfl rfl rfl (I5 rfl L9))) (E4 rfl rfl (E4 rfl rfl (E8 D3)))) ?_
   rw [c5f hnn hn]
   rfl
  ·skip
   apply C6 rfl
   ·apply B0
    ·exact B6 rfl
    exact C5
   ·exact (show CW (cxT oG) 76 [tV w] = some (.tup [tV w, .own 1 [], bV true], []) from by have hi := a1k (oG := oG) w (by omega); rw [hnn] at hi; rw [show decide (0 ≤ rch (bA w)) = true from decide_eq_true (by omega)] at hi; exact hi)
   ·exact ⟨rfl, rfl, rfl, of_decide_eq_true rfl, rfl⟩
   ·exact .inr ⟨rfl, rfl⟩
   ·exact B1
   ·exact I1 (I9 rfl (N7 fun _ => I9 rfl N6))
   ·exact fun _ => C1 (B2 rfl) (by rfl)
   intro g21
   try simp only [List.length_map]
   refine A6 rfl rfl <| B8 rfl rfl rfl <| B8 rfl rfl rfl <| B8 rfl rfl rfl <| A5 rfl rfl rfl ?_
   (refine B4 rfl rfl (by (simp; done)) rfl (fun _ => (B2 (by rfl))) (fun _ => rfl) ?_; intro g6)
   refine A5 rfl rfl rfl ?_
   refine A4 ⟨nofun, _, kS [0,2,5,6,7] [2,6] rfl, ?_⟩
   refine A3 <| A3 <| A0 <| A6 rfl rfl <| Q0 rfl ?_
   refine A4 ⟨nofun, _, kS [0,2,5,6,26] [2,6] rfl, ?_⟩
   refine A9 rfl (fun hc => absurd hc (by decide)) (fun hc => ?_)
   refine B9 <| A3 <| A0 <| A6 rfl rfl <| A6 rfl rfl <| J0 (fs := [_, _, _]) rfl rfl rfl rfl rfl <| A6 rfl rfl <| N2 rfl rfl rfl (Mv.sized_map fun _ => rfl) I7 (I4 (n := 1) rfl) (by simp) ?_
   rw [show ((List.map tV (w :: ws1)).drop 1).take ((List.map tV (w :: ws1)).length - 1) = ws1.map tV from by rw [List.map_cons, List.drop_succ_cons, List.drop_zero, List.take_of_length_le (by simp)]]
   refine F8 rfl (fun _ => B7 rfl) (fun _ => rfl) ?_
   intro g8
   refine H7 rfl rfl rfl rfl (F7 rfl (a3r (by decide) (F7 rfl L7))) (fun _ => rfl) ⟨by decide, rfl, of_decide_eq_true rfl, Nat.le_refl _⟩ (fun _ => rfl) (fun _ => rfl) (fun _ => (by rfl)) ?_
   intro z
   simp only [L0, List.cons_append, List.nil_append]
   refine A5 rfl rfl rfl ?_
   refine A4 ⟨fun _ => ⟨by (simp only [T7, List.nil_append, List.append_nil, List.map_cons, List.map_nil, List.cons_append]; decide +kernel), by decide +kernel⟩, [(.t 2, _), (.t 5, _), (.t 8, _), (.t 9, _), (.h 2, _), (.h 8, _), (.h 6, _)], ⟨rfl, rfl, rfl, rfl, rfl, rfl, rfl, rfl, rfl, rfl, rfl, rfl, rfl, rfl, trivial⟩, ?_⟩
   refine A3 <| A3 <| A0 <| A6 rfl rfl ?_
   apply C6 rfl
   ·apply B0
    ·exact B6 rfl
    exact C5
   ·exact a7u (bA w)
   ·exact ⟨rfl, rfl, rfl, of_decide_eq_true rfl, rfl⟩
   ·exact .inl rfl
   ·exact B1
   ·exact C0 rfl
   ·exact fun _ => rfl
   intro g34
   rw [show nd (bA w) = 1 from (a9b (by omega)).trans hn]
   refine A6 rfl rfl ?_
   refine A4 ⟨nofun, _, kS [2,8,9,34,35] [2,8,6] rfl, ?_⟩
   refine D4 <| H5 <| A3 <| A0 <| I0 rfl rfl ?_
   refine A4 ⟨nofun, _, kS [2,8,9,34,35,36] [2,8,6] rfl, ?_⟩
   refine A3 ?_
   refine A9 rfl (fun hc => ?_) (fun hc => absurd hc (by decide))
   refine B9 <| A3 <| D4 <| A3 <| A0 <| A6 rfl rfl ?_
   rcases hr1 : rdT ws1 with _ | ⟨k1, r1⟩
   ·skip
    apply C6 rfl
    ·apply B0
     ·exact B6 rfl
     exact C5
    ·exact (by have hi := ih ws1 ⟨by simp only [List.length_cons] at hws; omega, fun x hx => hws.2 x (List.mem_cons_of_mem _ hx)⟩ (by simp only [List.length_cons] at hkk; omega); rw [hr1] at hi; exact hi)
    ·exact ⟨rfl, rfl, rfl, of_decide_eq_true rfl, rfl⟩
    ·exact .inl rfl
    ·exact B1
    ·exact I1 (I9 rfl (N7 fun _ => I9 rfl N6))
    ·exact fun _ => C1 (B2 rfl) (by rfl)
    intro g39
    refine A6 rfl rfl <| B8 rfl rfl rfl <| B8 rfl rfl rfl <| B8 rfl rfl rfl <| F8 rfl (fun _ => B7 rfl) (fun _ => rfl) ?_
    intro g10
    refine C7 rfl rfl rfl rfl ⟨by decide, rfl, of_decide_eq_true rfl, of_decide_eq_true rfl, rfl⟩ rfl (by exact B7 rfl) ?_
    (refine B4 rfl rfl (by (simp; done)) rfl (fun _ => (B2 (by rfl))) (fun _ => rfl) ?_; intro g11)
    refine A5 rfl rfl rfl ?_
    refine A4 ⟨nofun, _, kS [2,8,10,11,12,34,35] [2,8,6,10] rfl, ?_⟩
    refine A3 <| A3 <| A0 <| A6 rfl rfl <| Q0 rfl ?_
    refine A4 ⟨nofun, _, kS [2,8,10,11,34,35,44] [2,8,6,10] rfl, ?_⟩
    refine A9 rfl (fun hc => ?_) (fun hc => absurd hc (by decide))
    refine A3 <| A0 <| J0 (fs := [_, _, _]) rfl rfl rfl rfl rfl <| C7 rfl rfl rfl rfl ⟨by decide, rfl, of_decide_eq_true rfl, of_decide_eq_true rfl, rfl⟩ rfl (by exact B7 rfl) ?_
    (refine C3 rfl rfl (fun _ => rfl) ?_; intro g3)
    refine A5 rfl rfl rfl ?_
    refine A4 ⟨nofun, _, kS [2,3,4] [2,3] rfl, ?_⟩
    refine B3 <| D6 (I3 rfl rfl rfl rfl (I2 rfl (I5 rfl (I5 rfl L9))) (G4 rfl rfl (by simp) (by rfl) (E4 rfl rfl (E8 D3)))) ?_
    rw [b6o hnn hn, hr1]
    rfl
   skip
   apply C6 rfl
   ·apply B0
    ·exact B6 rfl
    exact C5
   ·exact (by have hi := ih ws1 ⟨by simp only [List.length_cons] at hws; omega, fun x hx => hws.2 x (List.mem_cons_of_mem _ hx)⟩ (by simp only [List.length_cons] at hkk; omega); rw [hr1] at hi; exact hi)
   ·exact ⟨rfl, rfl, rfl, of_decide_eq_true rfl, rfl⟩
   ·exact .inl rfl
   ·exact B1
   ·exact L4 rfl
   ·exact fun _ => rfl
   intro g39
   refine A6 rfl rfl <| B8 rfl rfl rfl <| B8 rfl rfl rfl <| B8 rfl rfl rfl <| F8 rfl (fun _ => B7 rfl) (fun _ => rfl) ?_
   intro g10
   refine C7 rfl rfl rfl rfl ⟨by decide, rfl, of_decide_eq_true rfl, of_decide_eq_true rfl, rfl⟩ rfl (by exact B7 rfl) <| A5 rfl rfl rfl <| A5 rfl rfl rfl ?_
   refine A4 ⟨nofun, _, kS [2,8,10,11,12,34,35] [2,8,6,10] rfl, ?_⟩
   refine A3 <| A3 <| A0 <| A6 rfl rfl <| Q0 rfl ?_
   refine A4 ⟨nofun, _, kS [2,8,10,11,34,35,44] [2,8,6,10] rfl, ?_⟩
   refine A9 rfl (fun hc => absurd hc (by decide)) (fun hc => ?_)
   refine B9 <| A3 <| A0 <| B5 rfl rfl (of_decide_eq_true rfl) rfl rfl <| C8 rfl rfl rfl rfl rfl rfl <| D5 rfl rfl rfl rfl rfl <| E7 (es := List.map trV [_]) rfl rfl (of_decide_eq_true rfl) rfl rfl (fun _ => B2 (A8 fun _ => rfl)) (fun _ => rfl) ?_
   intro g49
   refine Q8 rfl rfl rfl (by simp) (by decide) rfl rfl rfl (of_decide_eq_true rfl) (fun _ => ⟨rfl, rfl⟩) (by simp only [H4]; (simp only [List.length_nil, List.length_cons, List.length_append, Nat.zero_add, List.length_map]; omega)) (fun _ => rfl) ?_
   intro g50
   refine B5 rfl rfl (of_decide_eq_true rfl) rfl rfl <| T4 rfl rfl rfl rfl rfl (Nat.le_refl _) rfl ?_
   refine A4 ⟨nofun, _, kS [2,8,11,34,35] [2,8,6,1000050] rfl, ?_⟩
   refine A0 <| A6 rfl rfl <| A5 rfl rfl rfl ?_
   refine A4 ⟨nofun, _, kS [2,8,9,34,35] [2,8,6,1000050] rfl, ?_⟩
   refine A0 <| H9 rfl rfl (F9 (by omega)) <| A6 rfl rfl ?_
   refine A4 ⟨nofun, _, kS [2,8,9,34,35] [2,8,6,1000050] rfl, ?_⟩
   refine H5 <| A3 <| A0 <| I0 rfl rfl ?_
   refine A4 ⟨nofun, _, kS [2,8,9,34,35,36] [2,8,6,1000050] rfl, ?_⟩
   refine A3 ?_
   refine A9 rfl (fun hc => absurd hc (by decide)) (fun hc => ?_)
   refine H3 <| A3 <| A0 <| D5 rfl rfl rfl rfl rfl <| A6 rfl rfl <| H7 rfl rfl rfl rfl (F7 rfl (a3r (by decide) (V2 (by decide) (by decide) rfl (by simp) fun _ => L7))) (fun _ => rfl) ⟨by decide, rfl, of_decide_eq_true rfl, Nat.le_refl _⟩ (fun _ => rfl) (fun _ => rfl) (fun _ => C1 (by rfl) (C1 (B2 (A8 fun _ => rfl)) (by rfl))) ?_
   intro z
   simp only [L0, List.cons_append, List.nil_append]
   refine A5 rfl rfl rfl <| A5 rfl rfl rfl ?_
   refine A4 ⟨nofun, _, kS [2,3,4] [2,6,300002] rfl, ?_⟩
   refine B3 <| D6 (I3 rfl rfl rfl rfl (I2 rfl (b8p rfl rfl rfl (a3k rfl rfl (by simp) (fun _ => rfl) L9))) (E4 rfl rfl (E4 rfl rfl (E8 D3)))) ?_
   rw [b6o hnn hn, hr1]
   rfl
  ·skip
   apply C6 rfl
   ·apply B0
    ·exact B6 rfl
    exact C5
   ·exact (show CW (cxT oG) 76 [tV w] = some (.tup [tV w, .own 1 [], bV true], []) from by have hi := a1k (oG := oG) w (by omega); rw [hnn] at hi; rw [show decide (0 ≤ rch (bA w)) = true from decide_eq_true (by omega)] at hi; exact hi)
   ·exact ⟨rfl, rfl, rfl, of_decide_eq_true rfl, rfl⟩
   ·exact .inr ⟨rfl, rfl⟩
   ·exact B1
   ·exact I1 (I9 rfl (N7 fun _ => I9 rfl N6))
   ·exact fun _ => C1 (B2 rfl) (by rfl)
   intro g21
   try simp only [List.length_map]
   refine A6 rfl rfl <| B8 rfl rfl rfl <| B8 rfl rfl rfl <| B8 rfl rfl rfl <| A5 rfl rfl rfl ?_
   (refine B4 rfl rfl (by (simp; done)) rfl (fun _ => (B2 (by rfl))) (fun _ => rfl) ?_; intro g6)
   refine A5 rfl rfl rfl ?_
   refine A4 ⟨nofun, _, kS [0,2,5,6,7] [2,6] rfl, ?_⟩
   refine A3 <| A3 <| A0 <| A6 rfl rfl <| Q0 rfl ?_
   refine A4 ⟨nofun, _, kS [0,2,5,6,26] [2,6] rfl, ?_⟩
   refine A9 rfl (fun hc => absurd hc (by decide)) (fun hc => ?_)
   refine B9 <| A3 <| A0 <| A6 rfl rfl <| A6 rfl rfl <| J0 (fs := [_, _, _]) rfl rfl rfl rfl rfl <| A6 rfl rfl <| N2 rfl rfl rfl (Mv.sized_map fun _ => rfl) I7 (I4 (n := 1) rfl) (by simp) ?_
   rw [show ((List.map tV (w :: ws1)).drop 1).take ((List.map tV (w :: ws1)).length - 1) = ws1.map tV from by rw [List.map_cons, List.drop_succ_cons, List.drop_zero, List.take_of_length_le (by simp)]]
   refine F8 rfl (fun _ => B7 rfl) (fun _ => rfl) ?_
   intro g8
   refine H7 rfl rfl rfl rfl (F7 rfl (a3r (by decide) (F7 rfl L7))) (fun _ => rfl) ⟨by decide, rfl, of_decide_eq_true rfl, Nat.le_refl _⟩ (fun _ => rfl) (fun _ => rfl) (fun _ => (by rfl)) ?_
   intro z
   simp only [L0, List.cons_append, List.nil_append]
   refine A5 rfl rfl rfl ?_
   refine A4 ⟨fun _ => ⟨by (simp only [T7, List.nil_append, List.append_nil, List.map_cons, List.map_nil, List.cons_append]; decide +kernel), by decide +kernel⟩, [(.t 2, _), (.t 5, _), (.t 8, _), (.t 9, _), (.h 2, _), (.h 8, _), (.h 6, _)], ⟨rfl, rfl, rfl, rfl, rfl, rfl, rfl, rfl, rfl, rfl, rfl, rfl, rfl, rfl, trivial⟩, ?_⟩
   refine A3 <| A3 <| A0 <| A6 rfl rfl ?_
   apply C6 rfl
   ·apply B0
    ·exact B6 rfl
    exact C5
   ·exact a7u (bA w)
   ·exact ⟨rfl, rfl, rfl, of_decide_eq_true rfl, rfl⟩
   ·exact .inl rfl
   ·exact B1
   ·exact C0 rfl
   ·exact fun _ => rfl
   intro g34
   rw [show nd (bA w) = 2 from (a9b (by omega)).trans hn]
   refine A6 rfl rfl ?_
   refine A4 ⟨nofun, _, kS [2,8,9,34,35] [2,8,6] rfl, ?_⟩
   refine D4 <| H5 <| A3 <| A0 <| I0 rfl rfl ?_
   refine A4 ⟨nofun, _, kS [2,8,9,34,35,36] [2,8,6] rfl, ?_⟩
   refine A3 ?_
   refine A9 rfl (fun hc => ?_) (fun hc => absurd hc (by decide))
   refine B9 <| A3 <| D4 <| A3 <| A0 <| A6 rfl rfl ?_
   rcases hr1 : rdT ws1 with _ | ⟨k1, r1⟩
   ·skip
    apply C6 rfl
    ·apply B0
     ·exact B6 rfl
     exact C5
    ·exact (by have hi := ih ws1 ⟨by simp only [List.length_cons] at hws; omega, fun x hx => hws.2 x (List.mem_cons_of_mem _ hx)⟩ (by simp only [List.length_cons] at hkk; omega); rw [hr1] at hi; exact hi)
    ·exact ⟨rfl, rfl, rfl, of_decide_eq_true rfl, rfl⟩
    ·exact .inl rfl
    ·exact B1
    ·exact I1 (I9 rfl (N7 fun _ => I9 rfl N6))
    ·exact fun _ => C1 (B2 rfl) (by rfl)
    intro g39
    refine A6 rfl rfl <| B8 rfl rfl rfl <| B8 rfl rfl rfl <| B8 rfl rfl rfl <| F8 rfl (fun _ => B7 rfl) (fun _ => rfl) ?_
    intro g10
    refine C7 rfl rfl rfl rfl ⟨by decide, rfl, of_decide_eq_true rfl, of_decide_eq_true rfl, rfl⟩ rfl (by exact B7 rfl) ?_
    (refine B4 rfl rfl (by (simp; done)) rfl (fun _ => (B2 (by rfl))) (fun _ => rfl) ?_; intro g11)
    refine A5 rfl rfl rfl ?_
    refine A4 ⟨nofun, _, kS [2,8,10,11,12,34,35] [2,8,6,10] rfl, ?_⟩
    refine A3 <| A3 <| A0 <| A6 rfl rfl <| Q0 rfl ?_
    refine A4 ⟨nofun, _, kS [2,8,10,11,34,35,44] [2,8,6,10] rfl, ?_⟩
    refine A9 rfl (fun hc => ?_) (fun hc => absurd hc (by decide))
    refine A3 <| A0 <| J0 (fs := [_, _, _]) rfl rfl rfl rfl rfl <| C7 rfl rfl rfl rfl ⟨by decide, rfl, of_decide_eq_true rfl, of_decide_eq_true rfl, rfl⟩ rfl (by exact B7 rfl) ?_
    (refine C3 rfl rfl (fun _ => rfl) ?_; intro g3)
    refine A5 rfl rfl rfl ?_
    refine A4 ⟨nofun, _, kS [2,3,4] [2,3] rfl, ?_⟩
    refine B3 <| D6 (I3 rfl rfl rfl rfl (I2 rfl (I5 rfl (I5 rfl L9))) (G4 rfl rfl (by simp) (by rfl) (E4 rfl rfl (E8 D3)))) ?_
    rw [a6c hnn hn, hr1]
    rfl
   skip
   apply C6 rfl
   ·apply B0
    ·exact B6 rfl
    exact C5
   ·exact (by have hi := ih ws1 ⟨by simp only [List.length_cons] at hws; omega, fun x hx => hws.2 x (List.mem_cons_of_mem _ hx)⟩ (by simp only [List.length_cons] at hkk; omega); rw [hr1] at hi; exact hi)
   ·exact ⟨rfl, rfl, rfl, of_decide_eq_true rfl, rfl⟩
   ·exact .inl rfl
   ·exact B1
   ·exact L4 rfl
   ·exact fun _ => rfl
   intro g39
   refine A6 rfl rfl <| B8 rfl rfl rfl <| B8 rfl rfl rfl <| B8 rfl rfl rfl <| F8 rfl (fun _ => B7 rfl) (fun _ => rfl) ?_
   intro g10
   refine C7 rfl rfl rfl rfl ⟨by decide, rfl, of_decide_eq_true rfl, of_decide_eq_true rfl, rfl⟩ rfl (by exact B7 rfl) <| A5 rfl rfl rfl <| A5 rfl rfl rfl ?_
   refine A4 ⟨nofun, _, kS [2,8,10,11,12,34,35] [2,8,6,10] rfl, ?_⟩
   refine A3 <| A3 <| A0 <| A6 rfl rfl <| Q0 rfl ?_
   refine A4 ⟨nofun, _, kS [2,8,10,11,34,35,44] [2,8,6,10] rfl, ?_⟩
   refine A9 rfl (fun hc => absurd hc (by decide)) (fun hc => ?_)
   refine B9 <| A3 <| A0 <| B5 rfl rfl (of_decide_eq_true rfl) rfl rfl <| C8 rfl rfl rfl rfl rfl rfl <| D5 rfl rfl rfl rfl rfl <| E7 (es := List.map trV [_]) rfl rfl (of_decide_eq_true rfl) rfl rfl (fun _ => B2 (A8 fun _ => rfl)) (fun _ => rfl) ?_
   intro g49
   refine Q8 rfl rfl rfl (by simp) (by decide) rfl rfl rfl (of_decide_eq_true rfl) (fun _ => ⟨rfl, rfl⟩) (by simp only [H4]; (simp only [List.length_nil, List.length_cons, List.length_append, Nat.zero_add, List.length_map]; omega)) (fun _ => rfl) ?_
   intro g50
   refine B5 rfl rfl (of_decide_eq_true rfl) rfl rfl <| T4 rfl rfl rfl rfl rfl (Nat.le_refl _) rfl ?_
   refine A4 ⟨nofun, _, kS [2,8,11,34,35] [2,8,6,1000050] rfl, ?_⟩
   refine A0 <| A6 rfl rfl <| A5 rfl rfl rfl ?_
   refine A4 ⟨nofun, _, kS [2,8,9,34,35] [2,8,6,1000050] rfl, ?_⟩
   refine A0 <| H9 rfl rfl (F9 (by omega)) <| A6 rfl rfl ?_
   refine A4 ⟨nofun, _, kS [2,8,9,34,35] [2,8,6,1000050] rfl, ?_⟩
   refine H5 <| A3 <| A0 <| I0 rfl rfl ?_
   refine A4 ⟨nofun, _, kS [2,8,9,34,35,36] [2,8,6,1000050] rfl, ?_⟩
   refine A3 ?_
   refine A9 rfl (fun hc => ?_) (fun hc => absurd hc (by decide))
   refine B9 <| A3 <| D4 <| A3 <| A0 <| A6 rfl rfl ?_
   rcases hr2 : rdT r1 with _ | ⟨k2, r2⟩
   ·skip
    apply C6 rfl
    ·apply B0
     ·exact B6 rfl
     exact C5
    ·exact (by have hi := ih r1 ⟨by have := a0d hr1; simp only [List.length_cons] at hws; omega, fun x hx => hws.2 x (List.mem_cons_of_mem _ (b2b hr1 x hx))⟩ (by have := a0d hr1; simp only [List.length_cons] at hkk; omega); rw [hr2] at hi; exact hi)
    ·exact ⟨rfl, rfl, rfl, of_decide_eq_true rfl, rfl⟩
    ·exact .inl rfl
    ·exact B1
    ·exact I1 (I9 rfl (N7 fun _ => I9 rfl N6))
    ·exact fun _ => C1 (B2 rfl) (by rfl)
    intro g39
    refine A6 rfl rfl <| B8 rfl rfl rfl <| B8 rfl rfl rfl <| B8 rfl rfl rfl <| F8 rfl (fun _ => B7 rfl) (fun _ => rfl) ?_
    intro g10
    refine C7 rfl rfl rfl rfl ⟨by decide, rfl, of_decide_eq_true rfl, of_decide_eq_true rfl, rfl⟩ rfl (by exact B7 rfl) ?_
    (refine B4 rfl rfl (by (simp; done)) rfl (fun _ => (B2 (by rfl))) (fun _ => rfl) ?_; intro g11)
    refine A5 rfl rfl rfl ?_
    refine A4 ⟨nofun, _, kS [2,8,10,11,12,34,35] [2,8,6,1000050,10] rfl, ?_⟩
    refine A3 <| A3 <| A0 <| A6 rfl rfl <| Q0 rfl ?_
    refine A4 ⟨nofun, _, kS [2,8,10,11,34,35,44] [2,8,6,1000050,10] rfl, ?_⟩
    refine A9 rfl (fun hc => ?_) (fun hc => absurd hc (by decide))
    refine A3 <| A0 <| J0 (fs := [_, _, _]) rfl rfl rfl rfl rfl <| C7 rfl rfl rfl rfl ⟨by decide, rfl, of_decide_eq_true rfl, of_decide_eq_true rfl, rfl⟩ rfl (by exact B7 rfl) ?_
    (refine C3 rfl rfl (fun _ => rfl) ?_; intro g3)
    refine A5 rfl rfl rfl ?_
    refine A4 ⟨nofun, _, kS [2,3,4] [2,3] rfl, ?_⟩
    refine B3 <| D6 (I3 rfl rfl rfl rfl (I2 rfl (I5 rfl (I5 rfl L9))) (G4 rfl rfl (by simp) (by rfl) (E4 rfl rfl (E8 D3)))) ?_
    rw [a6c hnn hn, hr1, Option.bind_some, hr2]
    rfl
   skip
   apply C6 rfl
   ·apply B0
    ·exact B6 rfl
    exact C5
   ·exact (by have hi := ih r1 ⟨by have := a0d hr1; simp only [List.length_cons] at hws; omega, fun x hx => hws.2 x (List.mem_cons_of_mem _ (b2b hr1 x hx))⟩ (by have := a0d hr1; simp only [List.length_cons] at hkk; omega); rw [hr2] at hi; exact hi)
   ·exact ⟨rfl, rfl, rfl, of_decide_eq_true rfl, rfl⟩
   ·exact .inl rfl
   ·exact B1
   ·exact L4 rfl
   ·exact fun _ => rfl
   intro g39
   refine A6 rfl rfl <| B8 rfl rfl rfl <| B8 rfl rfl rfl <| B8 rfl rfl rfl <| F8 rfl (fun _ => B7 rfl) (fun _ => rfl) ?_
   intro g10
   refine C7 rfl rfl rfl rfl ⟨by decide, rfl, of_decide_eq_true rfl, of_decide_eq_true rfl, rfl⟩ rfl (by exact B7 rfl) <| A5 rfl rfl rfl <| A5 rfl rfl rfl ?_
   refine A4 ⟨nofun, _, kS [2,8,10,11,12,34,35] [2,8,6,1000050,10] rfl, ?_⟩
   refine A3 <| A3 <| A0 <| A6 rfl rfl <| Q0 rfl ?_
   refine A4 ⟨nofun, _, kS [2,8,10,11,34,35,44] [2,8,6,1000050,10] rfl, ?_⟩
   refine A9 rfl (fun hc => absurd hc (by decide)) (fun hc => ?_)
   refine B9 <| A3 <| A0 <| B5 rfl rfl (of_decide_eq_true rfl) rfl rfl <| C8 rfl rfl rfl rfl rfl rfl <| D5 rfl rfl rfl rfl rfl <| E7 (es := List.map trV [_]) rfl rfl (of_decide_eq_true rfl) rfl rfl (fun _ => B2 (A8 fun _ => rfl)) (fun _ => rfl) ?_
   intro g49
   refine H1 rfl rfl rfl rfl (by (simp; done)) (by simp) (by decide) rfl rfl rfl rfl (of_decide_eq_true rfl) (fun _ => ⟨rfl, rfl⟩) (by simp only [H4]; (simp only [List.length_nil, List.length_cons, List.length_append, Nat.zero_add, List.length_map]; omega)) (fun _ => rfl) ?_
   intro g50
   refine B5 rfl rfl (of_decide_eq_true rfl) rfl rfl <| T4 rfl rfl rfl rfl rfl (Nat.le_refl _) rfl ?_
   refine A4 ⟨nofun, _, kS [2,8,11,34,35] [2,8,6,1000050] rfl, ?_⟩
   refine A0 <| A6 rfl rfl <| A5 rfl rfl rfl ?_
   refine A4 ⟨nofun, _, kS [2,8,9,34,35] [2,8,6,1000050] rfl, ?_⟩
   refine A0 <| H9 rfl rfl (F9 (by omega)) <| A6 rfl rfl ?_
   refine A4 ⟨nofun, _, kS [2,8,9,34,35] [2,8,6,1000050] rfl, ?_⟩
   refine H5 <| A3 <| A0 <| I0 rfl rfl ?_
   refine A4 ⟨nofun, _, kS [2,8,9,34,35,36] [2,8,6,1000050] rfl, ?_⟩
   refine A3 ?_
   refine A9 rfl (fun hc => absurd hc (by decide)) (fun hc => ?_)
   refine H3 <| A3 <| A0 <| D5 rfl rfl rfl rfl rfl <| A6 rfl rfl <| H7 rfl rfl rfl rfl (F7 rfl (a3r (by decide) (V2 (by decide) (by decide) rfl (by simp) fun _ => L7))) (fun _ => rfl) ⟨by decide, rfl, of_decide_eq_true rfl, Nat.le_refl _⟩ (fun _ => rfl) (fun _ => rfl) (fun _ => C1 (by rfl) (C1 (B2 (A8 fun _ => rfl)) (by rfl))) ?_
   intro z
   simp only [L0, List.cons_append, List.nil_append]
   refine A5 rfl rfl rfl <| A5 rfl rfl rfl ?_
   refine A4 ⟨nofun, _, kS [2,3,4] [2,6,300002] rfl, ?_⟩
   refine B3 <| D6 (I3 rfl rfl rfl rfl (I2 rfl (b8p rfl rfl rfl (a3k rfl rfl (by simp) (fun _ => rfl) L9))) (E4 rfl rfl (E4 rfl rfl (E8 D3)))) ?_
   rw [a6c hnn hn, hr1, Option.bind_some, hr2]
   rfl
  skip
  apply C6 rfl
  ·apply B0
   ·exact B6 rfl
   exact C5
  ·exact (show CW (cxT oG) 76 [tV w] = some (.tup [tV w, .own 1 [], bV false], []) from by have hi := a1k (oG := oG) w (by omega); rw [hnn] at hi; rw [show decide (0 ≤ rch (bA w)) = false from decide_eq_false (by omega)] at hi; exact hi)
  ·exact ⟨rfl, rfl, rfl, of_decide_eq_true rfl, rfl⟩
  ·exact .inr ⟨rfl, rfl⟩
  ·exact B1
  ·exact I1 (I9 rfl (N7 fun _ => I9 rfl N6))
  ·exact fun _ => C1 (B2 rfl) (by rfl)
  intro g21
  try simp only [List.length_map]
  refine A6 rfl rfl <| B8 rfl rfl rfl <| B8 rfl rfl rfl <| B8 rfl rfl rfl <| A5 rfl rfl rfl ?_
  (refine B4 rfl rfl (by (simp; done)) rfl (fun _ => (B2 (by rfl))) (fun _ => rfl) ?_; intro g6)
  refine A5 rfl rfl rfl ?_
  refine A4 ⟨nofun, _, kS [0,2,5,6,7] [2,6] rfl, ?_⟩
  refine A3 <| A3 <| A0 <| A6 rfl rfl <| Q0 rfl ?_
  refine A4 ⟨nofun, _, kS [0,2,5,6,26] [2,6] rfl, ?_⟩
  refine A9 rfl (fun hc => ?_) (fun hc => absurd hc (by decide))
  refine A3 <| A0 <| J0 (fs := [_, _, _]) rfl rfl rfl rfl rfl <| C7 rfl rfl rfl rfl ⟨by decide, rfl, of_decide_eq_true rfl, of_decide_eq_true rfl, rfl⟩ rfl (by exact B7 rfl) ?_
  (refine C3 rfl rfl (fun _ => rfl) ?_; intro g3)
  refine A5 rfl rfl rfl ?_
  refine A4 ⟨nofun, _, kS [2,3,4] [2,3] rfl, ?_⟩
  refine B3 <| D6 (I3 rfl rfl rfl rfl (I2 rfl (I5 rfl (I5 rfl L9))) (G4 rfl rfl (by simp) (by rfl) (E4 rfl rfl (E8 D3)))) ?_
  rw [c5w hnn hn]
  rfl

theorem keep_s_readPlanI : G3 Tryz.f48 = [0, 2, 3, 4, 6, 7, 5, 12] := by kernel_rfl
set_option maxHeartbeats 20000000 in
theorem b9i (s : List UInt8) (hs : s.length ≤ 1048576) : CW (cxT oG) 48 [tV s] = some (.tup [trV (ipT s), bV (c3v s)], []) := by
 obtain ⟨ws, hws⟩ : ∃ ws, ws = splitB 32 s := ⟨_, rfl⟩
 have hwl := U6 32 s
 have hwp := a0h 32 s
 rw [← hws] at hwl hwp
 refine G2 rfl Tryz.func48 rfl ⟨by kernel_rfl, rfl, of_decide_eq_true rfl, of_decide_eq_true rfl, by decide⟩ keep_s_readPlanI <| A3 <| A0 <| F8 rfl (fun _ => B7 rfl) (fun _ => rfl) ?_
 intro g2
 refine A5 rfl rfl rfl ?_
 refine A4 ⟨nofun, _, kS [0,2] [2] rfl, ?_⟩
 refine A3 <| A0 <| A6 rfl rfl ?_
 apply C6 rfl
 ·apply B0
  ·exact B6 rfl
  apply B0
  ·exact B6 rfl
  exact C5
 ·exact c5p s 32 (by omega)
 ·exact ⟨rfl, rfl, rfl, of_decide_eq_true rfl, rfl⟩
 ·exact .inl rfl
 ·exact B1
 ·exact K4
 ·exact fun _ => rfl
 intro g9
 rw [← hws]
 try simp only [List.length_map]
 (refine B4 rfl rfl (by (simp; done)) rfl (fun _ => (B2 (by exact A8 fun _ => rfl))) (fun _ => rfl) ?_; intro g4)
 refine A4 ⟨nofun, _, kS [2,4] [2,4] rfl, ?_⟩
 refine A3 <| A0 <| A6 rfl rfl ?_
 rcases hr : rdT ws with _ | ⟨t, r⟩
 ·skip
  apply C6 rfl
  ·apply B0
   ·exact J3 rfl rfl (by (simp; done)) (fun _ => rfl)
   exact C5
  ·exact (by have hi := b0x (oG := oG) ws ⟨by omega, fun w hw => by have := hwp w hw; omega⟩; rw [hr] at hi; exact hi)
  ·exact ⟨rfl, rfl, rfl, of_decide_eq_true rfl, rfl⟩
  ·exact .inl rfl
  ·exact B1
  ·exact I1 (I9 rfl (N7 fun _ => I9 rfl N6))
  ·exact fun _ => C1 (a6a (A8 fun _ => rfl) (by decide)) (by rfl)
  intro g12
  refine A6 rfl rfl <| B8 rfl rfl rfl <| B8 rfl rfl rfl <| B8 rfl rfl rfl <| F8 rfl (fun _ => B7 rfl) (fun _ => rfl) ?_
  intro g5
  refine C7 rfl rfl rfl rfl ⟨by decide, rfl, of_decide_eq_true rfl, of_decide_eq_true rfl, rfl⟩ rfl (by exact B7 rfl) ?_
  (refine B4 rfl rfl (by (simp; done)) rfl (fun _ => (B2 (by rfl))) (fun _ => rfl) ?_; intro g6)
  refine A5 rfl rfl rfl ?_
  refine A4 ⟨nofun, _, kS [2,4,5,6,7] [2,4,5] rfl, ?_⟩
  refine A3 <| A0 <| D5 rfl rfl rfl rfl rfl <| A6 rfl rfl <| A6 rfl rfl <| F0 rfl rfl rfl <| F0 rfl rfl rfl <| F0 rfl rfl rfl <| G6 rfl rfl rfl rfl <| A6 rfl rfl <| F0 rfl rfl rfl <| F0 rfl rfl rfl <| F0 rfl rfl rfl <| G6 rfl rfl rfl rfl <| C7 rfl rfl rfl rfl ⟨by decide, rfl, of_decide_eq_true rfl, of_decide_eq_true rfl, rfl⟩ rfl (by exact B7 rfl) <| A5 rfl rfl rfl ?_
  refine A4 ⟨nofun, _, kS [2,3] [2] rfl, ?_⟩
  refine B3 <| D6 (I3 rfl rfl rfl rfl (I2 rfl (I2 rfl (I2 rfl L9))) (E4 rfl rfl (E8 D3))) ?_
  obtain ⟨h1, h2⟩ := d3i hws hr
  rw [h1, h2]
  rfl
 skip
 apply C6 rfl
 ·apply B0
  ·exact J3 rfl rfl (by (simp; done)) (fun _ => rfl)
  exact C5
 ·exact (by have hi := b0x (oG := oG) ws ⟨by omega, fun w hw => by have := hwp w hw; omega⟩; rw [hr] at hi; exact hi)
 ·exact ⟨rfl, rfl, rfl, of_decide_eq_true rfl, rfl⟩
 ·exact .inl rfl
 ·exact B1
 ·exact L4 rfl
 ·exact fun _ => C1 (a6a (A8 fun _ => rfl) (by decide)) (by rfl)
 intro g12
 refine A6 rfl rfl <| B8 rfl rfl rfl <| B8 rfl rfl rfl <| B8 rfl rfl rfl <| F8 rfl (fun _ => B7 rfl) (fun _ => rfl) ?_
 intro g5
 refine C7 rfl rfl rfl rfl ⟨by decide, rfl, of_decide_eq_true rfl, of_decide_eq_true rfl, rfl⟩ rfl (by exact B7 rfl) <| A5 rfl rfl rfl <| A5 rfl rfl rfl ?_
 refine A4 ⟨nofun, _, kS [2,4,5,6,7] [2,4,5] rfl, ?_⟩
 refine A3 <| A0 <| D5 rfl rfl rfl rfl rfl <| A6 rfl rfl <| A6 rfl rfl <| W1 rfl rfl rfl <| A6 rfl rfl <| W1 rfl rfl rfl <| F4 rfl rfl <| W1 rfl rfl rfl <| S4 rfl rfl <| G7 rfl rfl rfl rfl <| A6 rfl rfl ?_
 refine E3 rfl rfl (fun hg0 => ?_) (fun hg0 => ?_)
 ·have hg := hg0; try simp only [SG] at hg
  refine A6 rfl rfl <| gT rfl rfl <| K5 rfl rfl <| gT rfl rfl <| a8p rfl rfl <| G7 rfl (by assumption) rfl rfl <| C7 rfl rfl rfl rfl ⟨by decide, rfl, of_decide_eq_true rfl, of_decide_eq_true rfl, rfl⟩ rfl (by exact B7 rfl) <| A5 rfl rfl rfl ?_
  refine A4 ⟨nofun, _, kS [2,3] [2] rfl, ?_⟩
  refine B3 <| D6 (I3 rfl rfl rfl rfl (I2 rfl (I2 rfl (I2 rfl L9))) (E4 rfl rfl (E8 D3))) ?_
  obtain ⟨h1, h2⟩ := c5i hws hr
  rw [h1, h2]
  simp_all
  try rfl
 have hg := hg0; try simp only [SG] at hg
 refine gF rfl rfl <| gF rfl rfl <| G6 rfl (by assumption) rfl rfl <| C7 rfl rfl rfl rfl ⟨by decide, rfl, of_decide_eq_true rfl, of_decide_eq_true rfl, rfl⟩ rfl (by exact B7 rfl) <| A5 rfl rfl rfl ?_
 refine A4 ⟨nofun, _, kS [2,3] [2] rfl, ?_⟩
 refine B3 <| D6 (I3 rfl rfl rfl rfl (I2 rfl (I2 rfl (I2 rfl L9))) (E4 rfl rfl (E8 D3))) ?_
 obtain ⟨h1, h2⟩ := c5i hws hr
 rw [h1, h2]
 simp_all
 try rfl

theorem keep_s_validPlan : G3 Tryz.f25 = [0, 2, 3, 5, 4, 8] := by kernel_rfl
set_option maxHeartbeats 20000000 in
theorem a5f (s : List UInt8) (hs : s.length ≤ 1048576) : CW (cxT oG) 25 [tV s] = some (.tup [trV (ipT s), bV (rdPlan s).isSome], []) := by
 have hip := d6j s
 refine G2 rfl Tryz.func25 rfl ⟨by kernel_rfl, rfl, of_decide_eq_true rfl, of_decide_eq_true rfl, by decide⟩ keep_s_validPlan <| A3 <| A0 <| F8 rfl (fun _ => B7 rfl) (fun _ => rfl) ?_
 intro g2
 refine A5 rfl rfl rfl ?_
 refine A4 ⟨nofun, _, kS [0,2] [2] rfl, ?_⟩
 refine A3 <| A0 <| A6 rfl rfl ?_
 apply C6 rfl
 ·apply B0
  ·exact B6 rfl
  exact C5
 ·exact b9i s hs
 ·exact ⟨rfl, rfl, rfl, of_decide_eq_true rfl, rfl⟩
 ·exact .inl rfl
 ·exact B1
 ·exact L4 rfl
 ·exact fun _ => rfl
 intro g8
 refine A6 rfl rfl <| B8 rfl rfl rfl <| B8 rfl rfl rfl <| F8 rfl (fun _ => B7 rfl) (fun _ => rfl) ?_
 intro g4
 refine C7 rfl rfl rfl rfl ⟨by decide, rfl, of_decide_eq_true rfl, of_decide_eq_true rfl, rfl⟩ rfl (by exact B7 rfl) <| A5 rfl rfl rfl ?_
 refine A4 ⟨nofun, _, kS [0,2,4,5] [2,4] rfl, ?_⟩
 refine A3 <| A0 <| D5 rfl rfl rfl rfl rfl <| A6 rfl rfl <| A6 rfl rfl ?_
 refine E3 rfl rfl (fun hg0 => ?_) (fun hg0 => ?_)
 ·have hg := hg0; try simp only [SG] at hg
  refine A6 rfl rfl <| gT rfl rfl <| a2j rfl rfl <| gT rfl rfl <| a8p rfl rfl <| G7 rfl (by assumption) rfl rfl <| C7 rfl rfl rfl rfl ⟨by decide, rfl, of_decide_eq_true rfl, of_decide_eq_true rfl, rfl⟩ rfl (by exact B7 rfl) <| A5 rfl rfl rfl ?_
  refine A4 ⟨nofun, _, kS [2,3] [2] rfl, ?_⟩
  refine B3 <| D6 (I3 rfl rfl rfl rfl (I2 rfl (I2 rfl (I2 rfl L9))) (E4 rfl rfl (E8 D3))) ?_
  rw [← hip]
  simp_all
  try rfl
 have hg := hg0; try simp only [SG] at hg
 refine gF rfl rfl <| gF rfl rfl <| G6 rfl (by assumption) rfl rfl <| C7 rfl rfl rfl rfl ⟨by decide, rfl, of_decide_eq_true rfl, of_decide_eq_true rfl, rfl⟩ rfl (by exact B7 rfl) <| A5 rfl rfl rfl ?_
 refine A4 ⟨nofun, _, kS [2,3] [2] rfl, ?_⟩
 refine B3 <| D6 (I3 rfl rfl rfl rfl (I2 rfl (I2 rfl (I2 rfl L9))) (E4 rfl rfl (E8 D3))) ?_
 rw [← hip]
 simp_all
 try rfl

theorem keep_s_priceOf : G3 Tryz.f62 = [0, 2, 3, 4, 7] := by kernel_rfl
set_option maxHeartbeats 20000000 in
theorem c7z (w : ByteArray) : CW (cxT oG) 62 [sV w] = some (iV (pr w), []) := by
 refine G2 rfl Tryz.func62 rfl ⟨by kernel_rfl, rfl, of_decide_eq_true rfl, of_decide_eq_true rfl, by decide⟩ keep_s_priceOf <| A3 <| A0 <| A5 rfl rfl rfl ?_
 refine A4 ⟨nofun, _, kS [0] [] rfl, ?_⟩
 refine A3 <| A3 <| A0 <| A6 rfl rfl ?_
 refine A4 ⟨nofun, _, kS [3] [] rfl, ?_⟩
 refine D4 <| A3 <| A3 <| A0 <| L2 rfl rfl <| A5 rfl rfl rfl ?_
 refine A4 ⟨nofun, _, kS [3,4] [] rfl, ?_⟩
 refine A9 rfl (fun hc => ?_) (fun hc => ?_)
 ·try simp only [SG, List.length_map] at hc
  refine B9 ?_
  refine A9 rfl (fun hc => ?_) (fun hc => absurd hc (by simp_all))
  refine A3 <| A0 <| A5 rfl rfl rfl ?_
  refine A4 ⟨nofun, _, kS [2] [] rfl, ?_⟩
  refine B3 <| C9 rfl rfl trivial <| congrArg iV ?_
  simp_all [pr]
 try simp only [SG, List.length_map] at hc
 refine A0 <| L2 rfl rfl <| A5 rfl rfl rfl ?_
 refine A4 ⟨nofun, _, kS [3,4] [] rfl, ?_⟩
 refine A9 rfl (fun hc => ?_) (fun hc => ?_)
 ·try simp only [SG, List.length_map] at hc
  refine A3 <| A0 <| A5 rfl rfl rfl ?_
  refine A4 ⟨nofun, _, kS [2] [] rfl, ?_⟩
  refine B3 <| C9 rfl rfl trivial <| congrArg iV ?_
  simp_all [pr]
 try simp only [SG, List.length_map] at hc
 refine A3 <| A3 <| A0 <| L2 rfl rfl <| A5 rfl rfl rfl ?_
 refine A4 ⟨nofun, _, kS [3,7] [] rfl, ?_⟩
 refine A9 rfl (fun hc => ?_) (fun hc => ?_)
 ·try simp only [SG, List.length_map] at hc
  refine B9 ?_
  refine A9 rfl (fun hc => ?_) (fun hc => absurd hc (by simp_all))
  refine A3 <| A0 <| A5 rfl rfl rfl ?_
  refine A4 ⟨nofun, _, kS [2] [] rfl, ?_⟩
  refine B3 <| C9 rfl rfl trivial <| congrArg iV ?_
  simp_all [pr]
 try simp only [SG, List.length_map] at hc
 refine A3 <| A0 <| L2 rfl rfl <| A5 rfl rfl rfl ?_
 refine A4 ⟨nofun, _, kS [3,7] [] rfl, ?_⟩
 refine A9 rfl (fun hc => ?_) (fun hc => ?_)
 ·try simp only [SG, List.length_map] at hc
  refine B9 ?_
  refine A9 rfl (fun hc => ?_) (fun hc => absurd hc (by simp_all))
  refine A3 <| A0 <| A5 rfl rfl rfl ?_
  refine A4 ⟨nofun, _, kS [2] [] rfl, ?_⟩
  refine B3 <| C9 rfl rfl trivial <| congrArg iV ?_
  simp_all [pr]
 try simp only [SG, List.length_map] at hc
 refine A3 <| A0 <| L2 rfl rfl <| A5 rfl rfl rfl ?_
 refine A4 ⟨nofun, _, kS [3,7] [] rfl, ?_⟩
 refine A9 rfl (fun hc => ?_) (fun hc => ?_)
 ·try simp only [SG, List.length_map] at hc
  refine B9 ?_
  refine A9 rfl (fun hc => ?_) (fun hc => absurd hc (by simp_all))
  refine A3 <| A0 <| A5 rfl rfl rfl ?_
  refine A4 ⟨nofun, _, kS [2] [] rfl, ?_⟩
  refine B3 <| C9 rfl rfl trivial <| congrArg iV ?_
  simp_all [pr]
 try simp only [SG, List.length_map] at hc
 refine A3 <| A0 <| L2 rfl rfl <| A5 rfl rfl rfl ?_
 refine A4 ⟨nofun, _, kS [3,7] [] rfl, ?_⟩
 refine A9 rfl (fun hc => ?_) (fun hc => ?_)
 ·try simp only [SG, List.length_map] at hc
  refine B9 ?_
  refine A9 rfl (fun hc => ?_) (fun hc => absurd hc (by simp_all))
  refine A3 <| A0 <| A5 rfl rfl rfl ?_
  refine A4 ⟨nofun, _, kS [2] [] rfl, ?_⟩
  refine B3 <| C9 rfl rfl trivial <| congrArg iV ?_
  simp_all [pr]
 try simp only [SG, List.length_map] at hc
 refine A0 <| L2 rfl rfl <| A5 rfl rfl rfl ?_
 refine A4 ⟨nofun, _, kS [7] [] rfl, ?_⟩
 refine A9 rfl (fun hc => ?_) (fun hc => ?_)
 ·try simp only [SG, List.length_map] at hc
  refine A3 <| A0 <| A5 rfl rfl rfl ?_
  refine A4 ⟨nofun, _, kS [2] [] rfl, ?_⟩
  refine B3 <| C9 rfl rfl trivial <| congrArg iV ?_
  simp_all [pr]
 try simp only [SG, List.length_map] at hc
 refine B9 <| A3 <| A0 <| A5 rfl rfl rfl ?_
 refine A4 ⟨nofun, _, kS [2] [] rfl, ?_⟩
 refine B3 <| C9 rfl rfl trivial <| congrArg iV ?_
 simp_all [pr]

theorem keep_s_costS : G3 Tryz.f43 = [0, 2, 1, 4, 12, 3] := by kernel_rfl
set_option maxHeartbeats 20000000 in
theorem d2g (t : Pl) (ht : t.sz ≤ 1000) : CW (cxT oG) 43 [trK t] = some (iV (U0 t), []) := by
 obtain ⟨kk, hkk⟩ : ∃ kk : Nat, t.sz < kk := ⟨_, Nat.lt_succ_self _⟩
 revert t
 induction kk with
 | zero => intro t ht hkk; exact absurd hkk (Nat.not_lt_zero _)
 | succ kk ih =>
  intro t ht hkk
  have hkl := b3e t
  have hpb := R8 t
  have hprb := a4z (bA t.op)
  have hkb := fun i => R8 (t.kids.getD i default)
  have hkz := fun i => Y6 (t := t) (i := i)
  refine G2 rfl Tryz.func43 rfl ⟨by kernel_rfl, rfl, of_decide_eq_true rfl, of_decide_eq_true rfl, by decide⟩ keep_s_costS <| A3 <| A0 <| a0q rfl rfl rfl (fun _ => B7 rfl) (fun _ => rfl) ?_
  intro g1
  refine A5 rfl rfl rfl ?_
  refine A4 ⟨nofun, _, kS [1] [1] rfl, ?_⟩
  refine A3 <| A0 <| B5 rfl rfl (of_decide_eq_true rfl) rfl rfl <| C8 rfl rfl rfl rfl rfl rfl ?_
  apply C6 rfl
  ·apply B0
   ·exact B6 rfl
   exact C5
  ·exact c7z (bA t.op)
  ·exact ⟨rfl, rfl, rfl, of_decide_eq_true rfl, rfl⟩
  ·exact .inl rfl
  ·exact B1
  ·exact C0 rfl
  ·exact fun _ => rfl
  intro g7
  refine A5 rfl rfl rfl ?_
  refine A4 ⟨nofun, _, kS [1,3] [1] rfl, ?_⟩
  refine A3 <| A3 <| A0 <| A5 rfl rfl rfl ?_
  refine A4 ⟨nofun, _, kS [1,3,4] [1] rfl, ?_⟩
  refine D4 <| I8 (β := Nat × Int) [(.t 1, _), (.h 1, _)] (fun (z : Nat × Int) => match z with | (i, a) => [(.t 4, iV i), (.t 3, iV a)]) (fun (z : Nat × Int) => match z with | (i, a) => i ≤ t.kids.length ∧ a = P2 t i) (fun (z : Nat × Int) => match z with | (i, a) => t.kids.length - i) (0, _) ⟨rfl, rfl, rfl, rfl, trivial⟩ ⟨Nat.zero_le _, rfl⟩ ?_
  intro z hb
  obtain ⟨i, a⟩ := z
  try dsimp only at hb
  obtain ⟨hi1, ha⟩ := hb
  have hnb := W7 hi1
  rw [← ha] at hnb
  refine A3 <| A3 <| A0 <| A6 rfl rfl <| B5 rfl rfl (of_decide_eq_true rfl) rfl rfl <| C8 rfl rfl rfl rfl rfl rfl <| F4 rfl rfl <| I0 rfl rfl ?_
  refine A4 ⟨nofun, _, kS [1,3,4,12] [1] rfl, ?_⟩
  refine A9 rfl (fun hc => ?_) (fun hc => ?_)
  ·try simp only [SG, List.length_map] at hc
   refine B9 <| A3 <| D4 <| A0 <| A6 rfl rfl <| B5 rfl rfl (of_decide_eq_true rfl) rfl rfl <| C8 rfl rfl rfl rfl rfl rfl <| A6 rfl rfl <| G1 rfl rfl rfl (fun _ => rfl) (by omega) <| E6 rfl rfl rfl ?_
   have h1 := hkb i
   have h2 := hkz i (by omega)
   apply C6 rfl
   ·apply B0
    ·exact B6 rfl
    exact C5
   ·exact (by have hk2 := Y6 (t := t) (i := i) (by omega); have hi := ih (t.kids.getD i default) (by omega) (by omega); rw [← W0] at hi; exact hi)
   ·exact ⟨rfl, rfl, rfl, of_decide_eq_true rfl, rfl⟩
   ·exact .inl rfl
   ·exact B1
   ·exact C0 rfl
   ·exact fun _ => rfl
   intro g21
   refine H9 rfl rfl (F9 (by omega)) <| A5 rfl rfl rfl ?_
   refine A4 ⟨nofun, _, kS [1,3,4] [1] rfl, ?_⟩
   refine A0 <| A6 rfl rfl <| H9 rfl rfl (F9 (by omega)) <| A5 rfl rfl rfl ?_
   refine A4 ⟨nofun, _, kS [1,3,4] [1] rfl, ?_⟩
   refine ⟨(i + 1, _), ⟨by omega, by rw [P2, ← ha]⟩, (by simp only; omega), ⟨rfl, rfl, rfl, rfl, trivial⟩⟩
  try simp only [SG, List.length_map] at hc
  refine H3 <| A3 <| A0 <| A6 rfl rfl <| A5 rfl rfl rfl ?_
  refine A4 ⟨nofun, _, kS [2] [] rfl, ?_⟩
  refine B3 <| C9 rfl rfl trivial ?_
  rw [ha, show i = t.kids.length by omega, T9]

theorem keep_s_costI : G3 Tryz.f42 = [0, 2, 1, 7, 8, 11, 20, 19, 21, 18, 5, 3] := by kernel_rfl
set_option maxHeartbeats 20000000 in
theorem d3k (t : Pl) (ht : t.sz ≤ 1000) : CW (cxT oG) 42 [trK t] = some (iV (U0 t), []) := by
 obtain ⟨kk, hkk⟩ : ∃ kk : Nat, t.sz < kk := ⟨_, Nat.lt_succ_self _⟩
 revert t
 induction kk with
 | zero => intro t ht hkk; exact absurd hkk (Nat.not_lt_zero _)
 | succ kk ih =>
  intro t ht hkk
  have hkl := b3e t
  have hpb := R8 t
  have hprb := a4z (bA t.op)
  have hkb := fun i => R8 (t.kids.getD i default)
  have hkz := fun i => Y6 (t := t) (i := i)
  refine G2 rfl Tryz.func42 rfl ⟨by kernel_rfl, rfl, of_decide_eq_true rfl, of_decide_eq_true rfl, by decide⟩ keep_s_costI <| A3 <| A0 <| a0q rfl rfl rfl (fun _ => B7 rfl) (fun _ => rfl) ?_
  intro g1
  refine A5 rfl rfl rfl ?_
  refine A4 ⟨nofun, _, kS [1] [1] rfl, ?_⟩
  refine A3 <| A0 <| A5 rfl rfl rfl ?_
  refine A4 ⟨nofun, _, kS [1,3] [1] rfl, ?_⟩
  refine A3 <| A3 <| A0 <| B5 rfl rfl (of_decide_eq_true rfl) rfl rfl <| C8 rfl rfl rfl rfl rfl rfl ?_
  refine A4 ⟨nofun, _, kS [1,3,7] [1] rfl, ?_⟩
  refine D4 <| A3 <| A3 <| A0 <| a1v rfl rfl <| A5 rfl rfl rfl ?_
  refine A4 ⟨nofun, _, kS [1,3,7,8] [1] rfl, ?_⟩
  refine A9 rfl (fun hc => ?_) (fun hc => ?_)
  ·try simp only [SG, List.length_map] at hc
   refine B9 ?_
   refine A9 rfl (fun hc => ?_) (fun hc => absurd hc (by simp_all))
   refine A0 <| A5 rfl rfl rfl ?_
   refine A4 ⟨nofun, _, kS [1,3] [1] rfl, ?_⟩
   refine A3 <| A3 <| A0 <| B5 rfl rfl (of_decide_eq_true rfl) rfl rfl <| C8 rfl rfl rfl rfl rfl rfl <| F4 rfl rfl <| A6 rfl rfl ?_
   refine A4 ⟨nofun, _, kS [3,18,19,20] [] rfl, ?_⟩
   refine D4 <| I8 (β := Nat × Int) [(.t 18, _), (.t 19, _)] (fun (z : Nat × Int) => match z with | (i, a) => [(.t 20, iV i), (.t 3, iV a)]) (fun (z : Nat × Int) => match z with | (i, a) => i ≤ t.kids.length ∧ a = P2 t i) (fun (z : Nat × Int) => match z with | (i, a) => t.kids.length - i) (0, _) ⟨rfl, rfl, rfl, rfl, trivial⟩ ⟨Nat.zero_le _, by show _ = pr (bA t.op); simp_all [pr]⟩ ?_
   intro z hb
   obtain ⟨i, a⟩ := z
   try dsimp only at hb
   obtain ⟨hi1, ha⟩ := hb
   have hnb := W7 hi1
   rw [← ha] at hnb
   refine A3 <| A0 <| I0 rfl rfl ?_
   refine A4 ⟨nofun, _, kS [3,18,19,20,21] [] rfl, ?_⟩
   refine A3 ?_
   refine A9 rfl (fun hc => ?_) (fun hc => ?_)
   ·try simp only [SG, List.length_map] at hc
    refine B9 <| A3 <| D4 <| A3 <| A0 <| G1 rfl rfl rfl (fun _ => rfl) (by omega) <| E6 rfl rfl rfl <| F8 rfl (fun _ => B7 rfl) (fun _ => rfl) ?_
    intro g5
    refine C7 rfl rfl rfl rfl ⟨by decide, rfl, of_decide_eq_true rfl, of_decide_eq_true rfl, rfl⟩ rfl (by exact B7 rfl) ?_
    refine A4 ⟨nofun, _, kS [3,5,18,19,20] [5] rfl, ?_⟩
    refine A0 <| A6 rfl rfl <| D5 rfl rfl rfl rfl rfl ?_
    have h1 := hkb i
    have h2 := hkz i (by omega)
    apply C6 rfl
    ·apply B0
     ·exact B6 rfl
     exact C5
    ·exact (by have hk2 := Y6 (t := t) (i := i) (by omega); have hi := ih (t.kids.getD i default) (by omega) (by omega); rw [← W0] at hi; exact hi)
    ·exact ⟨rfl, rfl, rfl, of_decide_eq_true rfl, rfl⟩
    ·exact .inl rfl
    ·exact B1
    ·exact C0 rfl
    ·exact fun _ => rfl
    intro g26
    refine H9 rfl rfl (F9 (by omega)) <| A5 rfl rfl rfl ?_
    refine A4 ⟨nofun, _, kS [3,18,19,20] [] rfl, ?_⟩
    refine A0 <| H9 rfl rfl (F9 (by omega)) <| A6 rfl rfl ?_
    refine A4 ⟨nofun, _, kS [3,18,19,20] [] rfl, ?_⟩
    refine ⟨(i + 1, _), ⟨by omega, by rw [P2, ← ha]⟩, (by simp only; omega), ⟨rfl, rfl, rfl, rfl, trivial⟩⟩
   try simp only [SG, List.length_map] at hc
   refine H3 <| A3 <| A0 <| A6 rfl rfl <| A5 rfl rfl rfl ?_
   refine A4 ⟨nofun, _, kS [2] [] rfl, ?_⟩
   refine B3 <| C9 rfl rfl trivial ?_
   rw [ha, show i = t.kids.length by omega, T9]
  try simp only [SG, List.length_map] at hc
  refine A0 <| a1v rfl rfl <| A5 rfl rfl rfl ?_
  refine A4 ⟨nofun, _, kS [1,3,7,8] [1] rfl, ?_⟩
  refine A9 rfl (fun hc => ?_) (fun hc => ?_)
  ·try simp only [SG, List.length_map] at hc
   refine A0 <| A5 rfl rfl rfl ?_
   refine A4 ⟨nofun, _, kS [1,3] [1] rfl, ?_⟩
   refine A3 <| A3 <| A0 <| B5 rfl rfl (of_decide_eq_true rfl) rfl rfl <| C8 rfl rfl rfl rfl rfl rfl <| F4 rfl rfl <| A6 rfl rfl ?_
   refine A4 ⟨nofun, _, kS [3,18,19,20] [] rfl, ?_⟩
   refine D4 <| I8 (β := Nat × Int) [(.t 18, _), (.t 19, _)] (fun (z : Nat × Int) => match z with | (i, a) => [(.t 20, iV i), (.t 3, iV a)]) (fun (z : Nat × Int) => match z with | (i, a) => i ≤ t.kids.length ∧ a = P2 t i) (fun (z : Nat × Int) => match z with | (i, a) => t.kids.length - i) (0, _) ⟨rfl, rfl, rfl, rfl, trivial⟩ ⟨Nat.zero_le _, by show _ = pr (bA t.op); simp_all [pr]⟩ ?_
   intro z hb
   obtain ⟨i, a⟩ := z
   try dsimp only at hb
   obtain ⟨hi1, ha⟩ := hb
   have hnb := W7 hi1
   rw [← ha] at hnb
   refine A3 <| A0 <| I0 rfl rfl ?_
   refine A4 ⟨nofun, _, kS [3,18,19,20,21] [] rfl, ?_⟩
   refine A3 ?_
   refine A9 rfl (fun hc => ?_) (fun hc => ?_)
   ·try simp only [SG, List.length_map] at hc
    refine B9 <| A3 <| D4 <| A3 <| A0 <| G1 rfl rfl rfl (fun _ => rfl) (by omega) <| E6 rfl rfl rfl <| F8 rfl (fun _ => B7 rfl) (fun _ => rfl) ?_
    intro g5
    refine C7 rfl rfl rfl rfl ⟨by decide, rfl, of_decide_eq_true rfl, of_decide_eq_true rfl, rfl⟩ rfl (by exact B7 rfl) ?_
    refine A4 ⟨nofun, _, kS [3,5,18,19,20] [5] rfl, ?_⟩
    refine A0 <| A6 rfl rfl <| D5 rfl rfl rfl rfl rfl ?_
    have h1 := hkb i
    have h2 := hkz i (by omega)
    apply C6 rfl
    ·apply B0
     ·exact B6 rfl
     exact C5
    ·exact (by have hk2 := Y6 (t := t) (i := i) (by omega); have hi := ih (t.kids.getD i default) (by omega) (by omega); rw [← W0] at hi; exact hi)
    ·exact ⟨rfl, rfl, rfl, of_decide_eq_true rfl, rfl⟩
    ·exact .inl rfl
    ·exact B1
    ·exact C0 rfl
    ·exact fun _ => rfl
    intro g26
    refine H9 rfl rfl (F9 (by omega)) <| A5 rfl rfl rfl ?_
    refine A4 ⟨nofun, _, kS [3,18,19,20] [] rfl, ?_⟩
    refine A0 <| H9 rfl rfl (F9 (by omega)) <| A6 rfl rfl ?_
    refine A4 ⟨nofun, _, kS [3,18,19,20] [] rfl, ?_⟩
    refine ⟨(i + 1, _), ⟨by omega, by rw [P2, ← ha]⟩, (by simp only; omega), ⟨rfl, rfl, rfl, rfl, trivial⟩⟩
   try simp only [SG, List.length_map] at hc
   refine H3 <| A3 <| A0 <| A6 rfl rfl <| A5 rfl rfl rfl ?_
   refine A4 ⟨nofun, _, kS [2] [] rfl, ?_⟩
   refine B3 <| C9 rfl rfl trivial ?_
   rw [ha, show i = t.kids.length by omega, T9]
  try simp only [SG, List.length_map] at hc
  refine A3 <| A3 <| A0 <| a1v rfl rfl <| A5 rfl rfl rfl ?_
  refine A4 ⟨nofun, _, kS [1,3,7,11] [1] rfl, ?_⟩
  refine A9 rfl (fun hc => ?_) (fun hc => ?_)
  ·try simp only [SG, List.length_map] at hc
   refine B9 ?_
   refine A9 rfl (fun hc => ?_) (fun hc => absurd hc (by simp_all))
   refine A0 <| A5 rfl rfl rfl ?_
   refine A4 ⟨nofun, _, kS [1,3] [1] rfl, ?_⟩
   refine A3 <| A3 <| A0 <| B5 rfl rfl (of_decide_eq_true rfl) rfl rfl <| C8 rfl rfl rfl rfl rfl rfl <| F4 rfl rfl <| A6 rfl rfl ?_
   refine A4 ⟨nofun, _, kS [3,18,19,20] [] rfl, ?_⟩
   refine D4 <| I8 (β := Nat × Int) [(.t 18, _), (.t 19, _)] (fun (z : Nat × Int) => match z with | (i, a) => [(.t 20, iV i), (.t 3, iV a)]) (fun (z : Nat × Int) => match z with | (i, a) => i ≤ t.kids.length ∧ a = P2 t i) (fun (z : Nat × Int) => match z with | (i, a) => t.kids.length - i) (0, _) ⟨rfl, rfl, rfl, rfl, trivial⟩ ⟨Nat.zero_le _, by show _ = pr (bA t.op); simp_all [pr]⟩ ?_
   intro z hb
   obtain ⟨i, a⟩ := z
   try dsimp only at hb
   obtain ⟨hi1, ha⟩ := hb
   have hnb := W7 hi1
   rw [← ha] at hnb
   refine A3 <| A0 <| I0 rfl rfl ?_
   refine A4 ⟨nofun, _, kS [3,18,19,20,21] [] rfl, ?_⟩
   refine A3 ?_
   refine A9 rfl (fun hc => ?_) (fun hc => ?_)
   ·try simp only [SG, List.length_map] at hc
    refine B9 <| A3 <| D4 <| A3 <| A0 <| G1 rfl rfl rfl (fun _ => rfl) (by omega) <| E6 rfl rfl rfl <| F8 rfl (fun _ => B7 rfl) (fun _ => rfl) ?_
    intro g5
    refine C7 rfl rfl rfl rfl ⟨by decide, rfl, of_decide_eq_true rfl, of_decide_eq_true rfl, rfl⟩ rfl (by exact B7 rfl) ?_
    refine A4 ⟨nofun, _, kS [3,5,18,19,20] [5] rfl, ?_⟩
    refine A0 <| A6 rfl rfl <| D5 rfl rfl rfl rfl rfl ?_
    have h1 := hkb i
    have h2 := hkz i (by omega)
    apply C6 rfl
    ·apply B0
     ·exact B6 rfl
     exact C5
    ·exact (by have hk2 := Y6 (t := t) (i := i) (by omega); have hi := ih (t.kids.getD i default) (by omega) (by omega); rw [← W0] at hi; exact hi)
    ·exact ⟨rfl, rfl, rfl, of_decide_eq_true rfl, rfl⟩
    ·exact .inl rfl
    ·exact B1
    ·exact C0 rfl
    ·exact fun _ => rfl
    intro g26
    refine H9 rfl rfl (F9 (by omega)) <| A5 rfl rfl rfl ?_
    refine A4 ⟨nofun, _, kS [3,18,19,20] [] rfl, ?_⟩
    refine A0 <| H9 rfl rfl (F9 (by omega)) <| A6 rfl rfl ?_
    refine A4 ⟨nofun, _, kS [3,18,19,20] [] rfl, ?_⟩
    refine ⟨(i + 1, _), ⟨by omega, by rw [P2, ← ha]⟩, (by simp only; omega), ⟨rfl, rfl, rfl, rfl, trivial⟩⟩
   try simp only [SG, List.length_map] at hc
   refine H3 <| A3 <| A0 <| A6 rfl rfl <| A5 rfl rfl rfl ?_
   refine A4 ⟨nofun, _, kS [2] [] rfl, ?_⟩
   refine B3 <| C9 rfl rfl trivial ?_
   rw [ha, show i = t.kids.length by omega, T9]
  try simp only [SG, List.length_map] at hc
  refine A3 <| A0 <| a1v rfl rfl <| A5 rfl rfl rfl ?_
  refine A4 ⟨nofun, _, kS [1,3,7,11] [1] rfl, ?_⟩
  refine A9 rfl (fun hc => ?_) (fun hc => ?_)
  ·try simp only [SG, List.length_map] at hc
   refine B9 ?_
   refine A9 rfl (fun hc => ?_) (fun hc => absurd hc (by simp_all))
   refine A0 <| A5 rfl rfl rfl ?_
   refine A4 ⟨nofun, _, kS [1,3] [1] rfl, ?_⟩
   refine A3 <| A3 <| A0 <| B5 rfl rfl (of_decide_eq_true rfl) rfl rfl <| C8 rfl rfl rfl rfl rfl rfl <| F4 rfl rfl <| A6 rfl rfl ?_
   refine A4 ⟨nofun, _, kS [3,18,19,20] [] rfl, ?_⟩
   refine D4 <| I8 (β := Nat × Int) [(.t 18, _), (.t 19, _)] (fun (z : Nat × Int) => match z with | (i, a) => [(.t 20, iV i), (.t 3, iV a)]) (fun (z : Nat × Int) => match z with | (i, a) => i ≤ t.kids.length ∧ a = P2 t i) (fun (z : Nat × Int) => match z with | (i, a) => t.kids.length - i) (0, _) ⟨rfl, rfl, rfl, rfl, trivial⟩ ⟨Nat.zero_le _, by show _ = pr (bA t.op); simp_all [pr]⟩ ?_
   intro z hb
   obtain ⟨i, a⟩ := z
   try dsimp only at hb
   obtain ⟨hi1, ha⟩ := hb
   have hnb := W7 hi1
   rw [← ha] at hnb
   refine A3 <| A0 <| I0 rfl rfl ?_
   refine A4 ⟨nofun, _, kS [3,18,19,20,21] [] rfl, ?_⟩
   refine A3 ?_
   refine A9 rfl (fun hc => ?_) (fun hc => ?_)
   ·try simp only [SG, List.length_map] at hc
    refine B9 <| A3 <| D4 <| A3 <| A0 <| G1 rfl rfl rfl (fun _ => rfl) (by omega) <| E6 rfl rfl rfl <| F8 rfl (fun _ => B7 rfl) (fun _ => rfl) ?_
    intro g5
    refine C7 rfl rfl rfl rfl ⟨by decide, rfl, of_decide_eq_true rfl, of_decide_eq_true rfl, rfl⟩ rfl (by exact B7 rfl) ?_
    refine A4 ⟨nofun, _, kS [3,5,18,19,20] [5] rfl, ?_⟩
    refine A0 <| A6 rfl rfl <| D5 rfl rfl rfl rfl rfl ?_
    have h1 := hkb i
    have h2 := hkz i (by omega)
    apply C6 rfl
    ·apply B0
     ·exact B6 rfl
     exact C5
    ·exact (by have hk2 := Y6 (t := t) (i := i) (by omega); have hi := ih (t.kids.getD i default) (by omega) (by omega); rw [← W0] at hi; exact hi)
    ·exact ⟨rfl, rfl, rfl, of_decide_eq_true rfl, rfl⟩
    ·exact .inl rfl
    ·exact B1
    ·exact C0 rfl
    ·exact fun _ => rfl
    intro g26
    refine H9 rfl rfl (F9 (by omega)) <| A5 rfl rfl rfl ?_
    refine A4 ⟨nofun, _, kS [3,18,19,20] [] rfl, ?_⟩
    refine A0 <| H9 rfl rfl (F9 (by omega)) <| A6 rfl rfl ?_
    refine A4 ⟨nofun, _, kS [3,18,19,20] [] rfl, ?_⟩
    refine ⟨(i + 1, _), ⟨by omega, by rw [P2, ← ha]⟩, (by simp only; omega), ⟨rfl, rfl, rfl, rfl, trivial⟩⟩
   try simp only [SG, List.length_map] at hc
   refine H3 <| A3 <| A0 <| A6 rfl rfl <| A5 rfl rfl rfl ?_
   refine A4 ⟨nofun, _, kS [2] [] rfl, ?_⟩
   refine B3 <| C9 rfl rfl trivial ?_
   rw [ha, show i = t.kids.length by omega, T9]
  try simp only [SG, List.length_map] at hc
  refine A3 <| A0 <| a1v rfl rfl <| A5 rfl rfl rfl ?_
  refine A4 ⟨nofun, _, kS [1,3,7,11] [1] rfl, ?_⟩
  refine A9 rfl (fun hc => ?_) (fun hc => ?_)
  ·try simp only [SG, List.length_map] at hc
   refine B9 ?_
   refine A9 rfl (fun hc => ?_) (fun hc => absurd hc (by simp_all))
   refine A0 <| A5 rfl rfl rfl ?_
   refine A4 ⟨nofun, _, kS [1,3] [1] rfl, ?_⟩
   refine A3 <| A3 <| A0 <| B5 rfl rfl (of_decide_eq_true rfl) rfl rfl <| C8 rfl rfl rfl rfl rfl rfl <| F4 rfl rfl <| A6 rfl rfl ?_
   refine A4 ⟨nofun, _, kS [3,18,19,20] [] rfl, ?_⟩
   refine D4 <| I8 (β := Nat × Int) [(.t 18, _), (.t 19, _)] (fun (z : Nat × Int) => match z with | (i, a) => [(.t 20, iV i), (.t 3, iV a)]) (fun (z : Nat × Int) => match z with | (i, a) => i ≤ t.kids.length ∧ a = P2 t i) (fun (z : Nat × Int) => match z with | (i, a) => t.kids.length - i) (0, _) ⟨rfl, rfl, rfl, rfl, trivial⟩ ⟨Nat.zero_le _, by show _ = pr (bA t.op); simp_all [pr]⟩ ?_
   intro z hb
   obtain ⟨i, a⟩ := z
   try dsimp only at hb
   obtain ⟨hi1, ha⟩ := hb
   have hnb := W7 hi1
   rw [← ha] at hnb
   refine A3 <| A0 <| I0 rfl rfl ?_
   refine A4 ⟨nofun, _, kS [3,18,19,20,21] [] rfl, ?_⟩
   refine A3 ?_
   refine A9 rfl (fun hc => ?_) (fun hc => ?_)
   ·try simp only [SG, List.length_map] at hc
    refine B9 <| A3 <| D4 <| A3 <| A0 <| G1 rfl rfl rfl (fun _ => rfl) (by omega) <| E6 rfl rfl rfl <| F8 rfl (fun _ => B7 rfl) (fun _ => rfl) ?_
    intro g5
    refine C7 rfl rfl rfl rfl ⟨by decide, rfl, of_decide_eq_true rfl, of_decide_eq_true rfl, rfl⟩ rfl (by exact B7 rfl) ?_
    refine A4 ⟨nofun, _, kS [3,5,18,19,20] [5] rfl, ?_⟩
    refine A0 <| A6 rfl rfl <| D5 rfl rfl rfl rfl rfl ?_
    have h1 := hkb i
    have h2 := hkz i (by omega)
    apply C6 rfl
    ·apply B0
     ·exact B6 rfl
     exact C5
    ·exact (by have hk2 := Y6 (t := t) (i := i) (by omega); have hi := ih (t.kids.getD i default) (by omega) (by omega); rw [← W0] at hi; exact hi)
    ·exact ⟨rfl, rfl, rfl, of_decide_eq_true rfl, rfl⟩
    ·exact .inl rfl
    ·exact B1
    ·exact C0 rfl
    ·exact fun _ => rfl
    intro g26
    refine H9 rfl rfl (F9 (by omega)) <| A5 rfl rfl rfl ?_
    refine A4 ⟨nofun, _, kS [3,18,19,20] [] rfl, ?_⟩
    refine A0 <| H9 rfl rfl (F9 (by omega)) <| A6 rfl rfl ?_
    refine A4 ⟨nofun, _, kS [3,18,19,20] [] rfl, ?_⟩
    refine ⟨(i + 1, _), ⟨by omega, by rw [P2, ← ha]⟩, (by simp only; omega), ⟨rfl, rfl, rfl, rfl, trivial⟩⟩
   try simp only [SG, List.length_map] at hc
   refine H3 <| A3 <| A0 <| A6 rfl rfl <| A5 rfl rfl rfl ?_
   refine A4 ⟨nofun, _, kS [2] [] rfl, ?_⟩
   refine B3 <| C9 rfl rfl trivial ?_
   rw [ha, show i = t.kids.length by omega, T9]
  try simp only [SG, List.length_map] at hc
  refine A3 <| A0 <| a1v rfl rfl <| A5 rfl rfl rfl ?_
  refine A4 ⟨nofun, _, kS [1,3,7,11] [1] rfl, ?_⟩
  refine A9 rfl (fun hc => ?_) (fun hc => ?_)
  ·try simp only [SG, List.length_map] at hc
   refine B9 ?_
   refine A9 rfl (fun hc => ?_) (fun hc => absurd hc (by simp_all))
   refine A0 <| A5 rfl rfl rfl ?_
   refine A4 ⟨nofun, _, kS [1,3] [1] rfl, ?_⟩
   refine A3 <| A3 <| A0 <| B5 rfl rfl (of_decide_eq_true rfl) rfl rfl <| C8 rfl rfl rfl rfl rfl rfl <| F4 rfl rfl <| A6 rfl rfl ?_
   refine A4 ⟨nofun, _, kS [3,18,19,20] [] rfl, ?_⟩
   refine D4 <| I8 (β := Nat × Int) [(.t 18, _), (.t 19, _)] (fun (z : Nat × Int) => match z with | (i, a) => [(.t 20, iV i), (.t 3, iV a)]) (fun (z : Nat × Int) => match z with | (i, a) => i ≤ t.kids.length ∧ a = P2 t i) (fun (z : Nat × Int) => match z with | (i, a) => t.kids.length - i) (0, _) ⟨rfl, rfl, rfl, rfl, trivial⟩ ⟨Nat.zero_le _, by show _ = pr (bA t.op); simp_all [pr]⟩ ?_
   intro z hb
   obtain ⟨i, a⟩ := z
   try dsimp only at hb
   obtain ⟨hi1, ha⟩ := hb
   have hnb := W7 hi1
   rw [← ha] at hnb
   refine A3 <| A0 <| I0 rfl rfl ?_
   refine A4 ⟨nofun, _, kS [3,18,19,20,21] [] rfl, ?_⟩
   refine A3 ?_
   refine A9 rfl (fun hc => ?_) (fun hc => ?_)
   ·try simp only [SG, List.length_map] at hc
    refine B9 <| A3 <| D4 <| A3 <| A0 <| G1 rfl rfl rfl (fun _ => rfl) (by omega) <| E6 rfl rfl rfl <| F8 rfl (fun _ => B7 rfl) (fun _ => rfl) ?_
    intro g5
    refine C7 rfl rfl rfl rfl ⟨by decide, rfl, of_decide_eq_true rfl, of_decide_eq_true rfl, rfl⟩ rfl (by exact B7 rfl) ?_
    refine A4 ⟨nofun, _, kS [3,5,18,19,20] [5] rfl, ?_⟩
    refine A0 <| A6 rfl rfl <| D5 rfl rfl rfl rfl rfl ?_
    have h1 := hkb i
    have h2 := hkz i (by omega)
    apply C6 rfl
    ·apply B0
     ·exact B6 rfl
     exact C5
    ·exact (by have hk2 := Y6 (t := t) (i := i) (by omega); have hi := ih (t.kids.getD i default) (by omega) (by omega); rw [← W0] at hi; exact hi)
    ·exact ⟨rfl, rfl, rfl, of_decide_eq_true rfl, rfl⟩
    ·exact .inl rfl
    ·exact B1
    ·exact C0 rfl
    ·exact fun _ => rfl
    intro g26
    refine H9 rfl rfl (F9 (by omega)) <| A5 rfl rfl rfl ?_
    refine A4 ⟨nofun, _, kS [3,18,19,20] [] rfl, ?_⟩
    refine A0 <| H9 rfl rfl (F9 (by omega)) <| A6 rfl rfl ?_
    refine A4 ⟨nofun, _, kS [3,18,19,20] [] rfl, ?_⟩
    refine ⟨(i + 1, _), ⟨by omega, by rw [P2, ← ha]⟩, (by simp only; omega), ⟨rfl, rfl, rfl, rfl, trivial⟩⟩
   try simp only [SG, List.length_map] at hc
   refine H3 <| A3 <| A0 <| A6 rfl rfl <| A5 rfl rfl rfl ?_
   refine A4 ⟨nofun, _, kS [2] [] rfl, ?_⟩
   refine B3 <| C9 rfl rfl trivial ?_
   rw [ha, show i = t.kids.length by omega, T9]
  try simp only [SG, List.length_map] at hc
  refine A0 <| a1v rfl rfl <| A5 rfl rfl rfl ?_
  refine A4 ⟨nofun, _, kS [1,3,11] [1] rfl, ?_⟩
  refine A9 rfl (fun hc => ?_) (fun hc => ?_)
  ·try simp only [SG, List.length_map] at hc
   refine A0 <| A5 rfl rfl rfl ?_
   refine A4 ⟨nofun, _, kS [1,3] [1] rfl, ?_⟩
   refine A3 <| A3 <| A0 <| B5 rfl rfl (of_decide_eq_true rfl) rfl rfl <| C8 rfl rfl rfl rfl rfl rfl <| F4 rfl rfl <| A6 rfl rfl ?_
   refine A4 ⟨nofun, _, kS [3,18,19,20] [] rfl, ?_⟩
   refine D4 <| I8 (β := Nat × Int) [(.t 18, _), (.t 19, _)] (fun (z : Nat × Int) => match z with | (i, a) => [(.t 20, iV i), (.t 3, iV a)]) (fun (z : Nat × Int) => match z with | (i, a) => i ≤ t.kids.length ∧ a = P2 t i) (fun (z : Nat × Int) => match z with | (i, a) => t.kids.length - i) (0, _) ⟨rfl, rfl, rfl, rfl, trivial⟩ ⟨Nat.zero_le _, by show _ = pr (bA t.op); simp_all [pr]⟩ ?_
   intro z hb
   obtain ⟨i, a⟩ := z
   try dsimp only at hb
   obtain ⟨hi1, ha⟩ := hb
   have hnb := W7 hi1
   rw [← ha] at hnb
   refine A3 <| A0 <| I0 rfl rfl ?_
   refine A4 ⟨nofun, _, kS [3,18,19,20,21] [] rfl, ?_⟩
   refine A3 ?_
   refine A9 rfl (fun hc => ?_) (fun hc => ?_)
   ·try simp only [SG, List.length_map] at hc
    refine B9 <| A3 <| D4 <| A3 <| A0 <| G1 rfl rfl rfl (fun _ => rfl) (by omega) <| E6 rfl rfl rfl <| F8 rfl (fun _ => B7 rfl) (fun _ => rfl) ?_
    intro g5
    refine C7 rfl rfl rfl rfl ⟨by decide, rfl, of_decide_eq_true rfl, of_decide_eq_true rfl, rfl⟩ rfl (by exact B7 rfl) ?_
    refine A4 ⟨nofun, _, kS [3,5,18,19,20] [5] rfl, ?_⟩
    refine A0 <| A6 rfl rfl <| D5 rfl rfl rfl rfl rfl ?_
    have h1 := hkb i
    have h2 := hkz i (by omega)
    apply C6 rfl
    ·apply B0
     ·exact B6 rfl
     exact C5
    ·exact (by have hk2 := Y6 (t := t) (i := i) (by omega); have hi := ih (t.kids.getD i default) (by omega) (by omega); rw [← W0] at hi; exact hi)
    ·exact ⟨rfl, rfl, rfl, of_decide_eq_true rfl, rfl⟩
    ·exact .inl rfl
    ·exact B1
    ·exact C0 rfl
    ·exact fun _ => rfl
    intro g26
    refine H9 rfl rfl (F9 (by omega)) <| A5 rfl rfl rfl ?_
    refine A4 ⟨nofun, _, kS [3,18,19,20] [] rfl, ?_⟩
    refine A0 <| H9 rfl rfl (F9 (by omega)) <| A6 rfl rfl ?_
    refine A4 ⟨nofun, _, kS [3,18,19,20] [] rfl, ?_⟩
    refine ⟨(i + 1, _), ⟨by omega, by rw [P2, ← ha]⟩, (by simp only; omega), ⟨rfl, rfl, rfl, rfl, trivial⟩⟩
   try simp only [SG, List.length_map] at hc
   refine H3 <| A3 <| A0 <| A6 rfl rfl <| A5 rfl rfl rfl ?_
   refine A4 ⟨nofun, _, kS [2] [] rfl, ?_⟩
   refine B3 <| C9 rfl rfl trivial ?_
   rw [ha, show i = t.kids.length by omega, T9]
  try simp only [SG, List.length_map] at hc
  refine B9 <| A3 <| A3 <| A0 <| B5 rfl rfl (of_decide_eq_true rfl) rfl rfl <| C8 rfl rfl rfl rfl rfl rfl <| F4 rfl rfl <| A6 rfl rfl ?_
  refine A4 ⟨nofun, _, kS [3,18,19,20] [] rfl, ?_⟩
  refine D4 <| I8 (β := Nat × Int) [(.t 18, _), (.t 19, _)] (fun (z : Nat × Int) => match z with | (i, a) => [(.t 20, iV i), (.t 3, iV a)]) (fun (z : Nat × Int) => match z with | (i, a) => i ≤ t.kids.length ∧ a = P2 t i) (fun (z : Nat × Int) => match z with | (i, a) => t.kids.length - i) (0, _) ⟨rfl, rfl, rfl, rfl, trivial⟩ ⟨Nat.zero_le _, by show _ = pr (bA t.op); simp_all [pr]⟩ ?_
  intro z hb
  obtain ⟨i, a⟩ := z
  try dsimp only at hb
  obtain ⟨hi1, ha⟩ := hb
  have hnb := W7 hi1
  rw [← ha] at hnb
  refine A3 <| A0 <| I0 rfl rfl ?_
  refine A4 ⟨nofun, _, kS [3,18,19,20,21] [] rfl, ?_⟩
  refine A3 ?_
  refine A9 rfl (fun hc => ?_) (fun hc => ?_)
  ·try simp only [SG, List.length_map] at hc
   refine B9 <| A3 <| D4 <| A3 <| A0 <| G1 rfl rfl rfl (fun _ => rfl) (by omega) <| E6 rfl rfl rfl <| F8 rfl (fun _ => B7 rfl) (fun _ => rfl) ?_
   intro g5
   refine C7 rfl rfl rfl rfl ⟨by decide, rfl, of_decide_eq_true rfl, of_decide_eq_true rfl, rfl⟩ rfl (by exact B7 rfl) ?_
   refine A4 ⟨nofun, _, kS [3,5,18,19,20] [5] rfl, ?_⟩
   refine A0 <| A6 rfl rfl <| D5 rfl rfl rfl rfl rfl ?_
   have h1 := hkb i
   have h2 := hkz i (by omega)
   apply C6 rfl
   ·apply B0
    ·exact B6 rfl
    exact C5
   ·exact (by have hk2 := Y6 (t := t) (i := i) (by omega); have hi := ih (t.kids.getD i default) (by omega) (by omega); rw [← W0] at hi; exact hi)
   ·exact ⟨rfl, rfl, rfl, of_decide_eq_true rfl, rfl⟩
   ·exact .inl rfl
   ·exact B1
   ·exact C0 rfl
   ·exact fun _ => rfl
   intro g26
   refine H9 rfl rfl (F9 (by omega)) <| A5 rfl rfl rfl ?_
   refine A4 ⟨nofun, _, kS [3,18,19,20] [] rfl, ?_⟩
   refine A0 <| H9 rfl rfl (F9 (by omega)) <| A6 rfl rfl ?_
   refine A4 ⟨nofun, _, kS [3,18,19,20] [] rfl, ?_⟩
   refine ⟨(i + 1, _), ⟨by omega, by rw [P2, ← ha]⟩, (by simp only; omega), ⟨rfl, rfl, rfl, rfl, trivial⟩⟩
  try simp only [SG, List.length_map] at hc
  refine H3 <| A3 <| A0 <| A6 rfl rfl <| A5 rfl rfl rfl ?_
  refine A4 ⟨nofun, _, kS [2] [] rfl, ?_⟩
  refine B3 <| C9 rfl rfl trivial ?_
  rw [ha, show i = t.kids.length by omega, T9]

theorem keep_s_CostOfS : G3 Tryz.f22 = [0, 2, 4, 11, 3, 7] := by kernel_rfl
set_option maxHeartbeats 20000000 in
theorem a9z (s : List UInt8) (hs : s.length ≤ 1048576) : CW (cxT oG) 22 [tV s] = some (iV (a8g s), []) := by
 refine G2 rfl Tryz.func22 rfl ⟨by kernel_rfl, rfl, of_decide_eq_true rfl, of_decide_eq_true rfl, by decide⟩ keep_s_CostOfS <| A3 <| A0 <| A5 rfl rfl rfl ?_
 refine A4 ⟨nofun, _, kS [0] [] rfl, ?_⟩
 refine A3 <| A0 <| A6 rfl rfl ?_
 apply C6 rfl
 ·apply B0
  ·exact B6 rfl
  exact C5
 ·exact c2p s hs
 ·exact ⟨rfl, rfl, rfl, of_decide_eq_true rfl, rfl⟩
 ·exact .inl rfl
 ·exact B1
 ·exact L4 rfl
 ·exact fun _ => rfl
 intro g7
 refine A6 rfl rfl <| B8 rfl rfl rfl <| B8 rfl rfl rfl <| F8 rfl (fun _ => B7 rfl) (fun _ => rfl) ?_
 intro g3
 refine C7 rfl rfl rfl rfl ⟨by decide, rfl, of_decide_eq_true rfl, of_decide_eq_true rfl, rfl⟩ rfl (by exact B7 rfl) <| A5 rfl rfl rfl ?_
 refine A4 ⟨nofun, _, kS [3,4] [3] rfl, ?_⟩
 refine A3 <| A3 <| A0 <| A6 rfl rfl <| Q0 rfl ?_
 refine A4 ⟨nofun, _, kS [3,11] [3] rfl, ?_⟩
 refine A9 rfl (fun hc => ?_) (fun hc => ?_)
 ·try simp only [SG, List.length_map] at hc
  refine A3 <| A0 <| A5 rfl rfl rfl ?_
  refine A4 ⟨nofun, _, kS [2] [] rfl, ?_⟩
  refine B3 <| C9 rfl rfl trivial ?_
  rw [a7i hc]
  rfl
 try simp only [SG, List.length_map] at hc
 refine B9 <| A3 <| A0 <| D5 rfl rfl rfl rfl rfl ?_
 obtain ⟨t, ht1, ht2, ht3⟩ := a3h hc
 rw [ht2, W0]
 apply C6 rfl
 ·apply B0
  ·exact B6 rfl
  exact C5
 ·exact d2g t (by omega)
 ·exact ⟨rfl, rfl, rfl, of_decide_eq_true rfl, rfl⟩
 ·exact .inl rfl
 ·exact B1
 ·exact C0 rfl
 ·exact fun _ => rfl
 intro g13
 refine A5 rfl rfl rfl ?_
 refine A4 ⟨nofun, _, kS [2] [] rfl, ?_⟩
 refine B3 <| C9 rfl rfl trivial ?_
 rw [a7j ht1]

theorem keep_s_CostOfI : G3 Tryz.f21 = [0, 2, 4, 11, 3, 7] := by kernel_rfl
set_option maxHeartbeats 20000000 in
theorem c7m (s : List UInt8) (hs : s.length ≤ 1048576) : CW (cxT oG) 21 [tV s] = some (iV (a8g s), []) := by
 refine G2 rfl Tryz.func21 rfl ⟨by kernel_rfl, rfl, of_decide_eq_true rfl, of_decide_eq_true rfl, by decide⟩ keep_s_CostOfI <| A3 <| A0 <| A5 rfl rfl rfl ?_
 refine A4 ⟨nofun, _, kS [0] [] rfl, ?_⟩
 refine A3 <| A0 <| A6 rfl rfl ?_
 apply C6 rfl
 ·apply B0
  ·exact B6 rfl
  exact C5
 ·exact a5f s hs
 ·exact ⟨rfl, rfl, rfl, of_decide_eq_true rfl, rfl⟩
 ·exact .inl rfl
 ·exact B1
 ·exact L4 rfl
 ·exact fun _ => rfl
 intro g7
 refine A6 rfl rfl <| B8 rfl rfl rfl <| B8 rfl rfl rfl <| F8 rfl (fun _ => B7 rfl) (fun _ => rfl) ?_
 intro g3
 refine C7 rfl rfl rfl rfl ⟨by decide, rfl, of_decide_eq_true rfl, of_decide_eq_true rfl, rfl⟩ rfl (by exact B7 rfl) <| A5 rfl rfl rfl ?_
 refine A4 ⟨nofun, _, kS [3,4] [3] rfl, ?_⟩
 refine A3 <| A3 <| A0 <| A6 rfl rfl <| Q0 rfl ?_
 refine A4 ⟨nofun, _, kS [3,11] [3] rfl, ?_⟩
 refine A9 rfl (fun hc => ?_) (fun hc => ?_)
 ·try simp only [SG, List.length_map] at hc
  refine A3 <| A0 <| A5 rfl rfl rfl ?_
  refine A4 ⟨nofun, _, kS [2] [] rfl, ?_⟩
  refine B3 <| C9 rfl rfl trivial ?_
  rw [a7i hc]
  rfl
 try simp only [SG, List.length_map] at hc
 refine B9 <| A3 <| A0 <| D5 rfl rfl rfl rfl rfl ?_
 obtain ⟨t, ht1, ht2, ht3⟩ := a3h hc
 rw [c2f ht1, W0]
 apply C6 rfl
 ·apply B0
  ·exact B6 rfl
  exact C5
 ·exact d3k t (by omega)
 ·exact ⟨rfl, rfl, rfl, of_decide_eq_true rfl, rfl⟩
 ·exact .inl rfl
 ·exact B1
 ·exact C0 rfl
 ·exact fun _ => rfl
 intro g13
 refine A5 rfl rfl rfl ?_
 refine A4 ⟨nofun, _, kS [2] [] rfl, ?_⟩
 refine B3 <| C9 rfl rfl trivial ?_
 rw [a7j ht1]

theorem keep_s_codeI : G3 Tryz.f27 = [0, 2, 1, 9, 8, 10, 7, 5, 3, 20] := by kernel_rfl
set_option maxHeartbeats 20000000 in
theorem d2c (t : Pl) (ht : t.sz ≤ 1000) (hgd : t.good) : CW (cxT oG) 27 [trK t] = some (.own 1 ((a3d t).map tV), []) := by
 obtain ⟨kk, hkk⟩ : ∃ kk : Nat, t.sz < kk := ⟨_, Nat.lt_succ_self _⟩
 revert t
 induction kk with
 | zero => intro t ht hgd hkk; exact absurd hkk (Nat.not_lt_zero _)
 | succ kk ih =>
  intro t ht hgd hkk
  have hkl := b3e t
  have hcl := fun i => P1 (t.kids.getD i default)
  have hkz := fun i => Y6 (t := t) (i := i)
  have hkg := fun i => d1q hgd (i := i)
  have hnl := fun i => c5z (t := t) (i := i)
  have hco := fun h => d0u (t := t) h
  refine G2 rfl Tryz.func27 rfl ⟨by kernel_rfl, rfl, of_decide_eq_true rfl, of_decide_eq_true rfl, by decide⟩ keep_s_codeI <| A3 <| A0 <| a0q rfl rfl rfl (fun _ => B7 rfl) (fun _ => rfl) ?_
  intro g1
  (refine C3 rfl rfl (fun _ => rfl) ?_; intro g2)
  refine A4 ⟨nofun, _, kS [1] [1] rfl, ?_⟩
  refine A3 <| A0 ?_
  (refine C3 rfl rfl (fun _ => rfl) ?_; intro g3)
  refine A4 ⟨nofun, _, kS [1,3] [1,3] rfl, ?_⟩
  refine A3 <| A3 <| A0 <| B5 rfl rfl (of_decide_eq_true rfl) rfl rfl <| C8 rfl rfl rfl rfl rfl rfl <| F4 rfl rfl <| A6 rfl rfl ?_
  refine A4 ⟨nofun, _, kS [1,3,7,8,9] [1,3] rfl, ?_⟩
  refine D4 <| I8 (β := Nat × List W8 × Nat) [(.t 1, _), (.t 7, _), (.t 8, _), (.h 1, _)] (fun (z : Nat × List W8 × Nat) => match z with | (i, cs, g) => [(.t 9, iV i), (.h 3, .obj g 0 1 (cs.map tV)), (.t 3, .sl 3 g none 0 cs.length)]) (fun (z : Nat × List W8 × Nat) => match z with | (i, cs, g) => i ≤ t.kids.length ∧ cs = a5l t i) (fun (z : Nat × List W8 × Nat) => match z with | (i, cs, g) => t.kids.length - i) (0, [], _) ⟨rfl, rfl, rfl, rfl, rfl, rfl, rfl, trivial⟩ ⟨Nat.zero_le _, rfl⟩ ?_
  intro z hb
  obtain ⟨i, cs, g⟩ := z
  try dsimp only at hb
  obtain ⟨hi1, ha⟩ := hb
  have hnb := hnl i hi1
  rw [← ha] at hnb
  refine A3 <| A0 <| I0 rfl rfl ?_
  refine A4 ⟨nofun, _, kS [1,3,7,8,9,10] [1,3] rfl, ?_⟩
  refine A3 ?_
  refine A9 rfl (fun hc => ?_) (fun hc => ?_)
  ·try simp only [SG, List.length_map] at hc
   refine B9 <| A3 <| D4 <| A3 <| A0 <| G1 rfl rfl rfl (fun _ => rfl) (by omega) <| E6 rfl rfl rfl <| F8 rfl (fun _ => B7 rfl) (fun _ => rfl) ?_
   intro g5
   refine C7 rfl rfl rfl rfl ⟨by decide, rfl, of_decide_eq_true rfl, of_decide_eq_true rfl, rfl⟩ rfl (by exact B7 rfl) ?_
   refine A4 ⟨nofun, _, kS [1,3,5,7,8,9] [1,3,5] rfl, ?_⟩
   refine A0 <| A6 rfl rfl <| D5 rfl rfl rfl rfl rfl ?_
   have h1 := hcl i
   have h2 := hkz i (by omega)
   apply C6 rfl
   ·apply B0
    ·exact B6 rfl
    exact C5
   ·exact (by have hk2 := Y6 (t := t) (i := i) (by omega); have hi := ih (t.kids.getD i default) (by omega) (hkg i (by omega)) (by omega); rw [← W0] at hi; exact hi)
   ·exact ⟨rfl, rfl, rfl, of_decide_eq_true rfl, rfl⟩
   ·exact .inl rfl
   ·exact B1
   ·exact K4
   ·exact fun _ => rfl
   intro g15
   simp only [List.length_map]
   refine H1 rfl rfl rfl rfl (by (simp; done)) (by simp) (by decide) rfl rfl rfl rfl (of_decide_eq_true rfl) (fun _ => ⟨rfl, rfl⟩) (by simp only [H4]; omega) (fun _ => rfl) ?_
   intro g16
   (refine B4 rfl rfl (by (simp; done)) rfl (fun _ => (B2 (by exact A8 fun _ => rfl))) (fun _ => rfl) ?_; intro g3)
   refine A4 ⟨nofun, _, kS [1,3,7,8,9] [1,3] rfl, ?_⟩
   refine A0 <| H9 rfl rfl (F9 (by omega)) <| A6 rfl rfl ?_
   refine A4 ⟨nofun, _, kS [1,3,7,8,9] [1,3] rfl, ?_⟩
   refine ⟨(i + 1, _, _), ⟨by omega, by rw [a5l, ← ha]⟩, (by simp only; omega), ⟨rfl, rfl, rfl, rfl, rfl, rfl, rfl, trivial⟩⟩
  try simp only [SG, List.length_map] at hc
  refine H3 <| A3 <| A3 <| A0 <| B5 rfl rfl (of_decide_eq_true rfl) rfl rfl <| C8 rfl rfl rfl rfl rfl rfl <| a1v rfl rfl ?_
  refine A4 ⟨nofun, _, kS [1,3,20] [1,3] rfl, ?_⟩
  refine A9 rfl (fun hc => ?_) (fun hc => ?_)
  ·try simp only [SG, List.length_map] at hc
   obtain ⟨ns, rfl, hv⟩ := c6d hgd (by assumption)
   refine A3 <| A0 <| A6 rfl rfl <| B5 rfl rfl (of_decide_eq_true rfl) rfl rfl <| C8 rfl rfl rfl rfl rfl rfl ?_
   have hl := Y9 hv
   have hnb := d3u hv
   have hll := a0z hnb
   apply C6 rfl
   ·apply B0
    ·exact B6 rfl
    exact C5
   ·exact a5h ns (by omega) hnb
   ·exact ⟨rfl, rfl, rfl, of_decide_eq_true rfl, rfl⟩
   ·exact .inl rfl
   ·exact B1
   ·exact C0 rfl
   ·exact fun _ => rfl
   intro g24
   refine E7 (es := List.map tV [_]) rfl rfl (of_decide_eq_true rfl) rfl rfl (fun _ => B2 (A8 fun _ => rfl)) (fun _ => rfl) ?_
   intro g25
   refine H1 rfl rfl rfl rfl (by (simp; done)) (by simp) (by decide) rfl rfl rfl rfl (of_decide_eq_true rfl) (fun _ => ⟨rfl, rfl⟩) (by simp only [H4]; (simp only [List.length_nil, List.length_cons, List.length_append, Nat.zero_add, List.length_map]; omega)) (fun _ => rfl) ?_
   intro g26
   (refine B4 rfl rfl (by (simp; done)) rfl (fun _ => (B2 (by exact A8 fun _ => rfl))) (fun _ => rfl) ?_; intro g2)
   refine A4 ⟨nofun, _, kS [2] [2] rfl, ?_⟩
   refine B3 <| O3 rfl rfl (by simp) (by exact A8 fun _ => rfl) trivial ?_
   rw [ha, c7q ns i hi1]
  try simp only [SG, List.length_map] at hc
  refine B9 <| A3 <| A0 <| A6 rfl rfl <| B5 rfl rfl (of_decide_eq_true rfl) rfl rfl <| C8 rfl rfl rfl rfl rfl rfl <| E7 (es := List.map tV [_]) rfl rfl (of_decide_eq_true rfl) rfl rfl (fun _ => B2 (A8 fun _ => rfl)) (fun _ => rfl) ?_
  intro g30
  refine H1 rfl rfl rfl rfl (by (simp; done)) (by simp) (by decide) rfl rfl rfl rfl (of_decide_eq_true rfl) (fun _ => ⟨rfl, rfl⟩) (by simp only [H4]; (simp only [List.length_nil, List.length_cons, List.length_append, Nat.zero_add, List.length_map]; omega)) (fun _ => rfl) ?_
  intro g31
  (refine B4 rfl rfl (by (simp; done)) rfl (fun _ => (B2 (by exact A8 fun _ => rfl))) (fun _ => rfl) ?_; intro g2)
  refine A4 ⟨nofun, _, kS [2] [2] rfl, ?_⟩
  refine B3 <| O3 rfl rfl (by simp) (by exact A8 fun _ => rfl) trivial ?_
  rw [ha, show i = t.kids.length by omega, hco (by assumption)]

theorem keep_s_ClipT : G3 Tryz.f26 = [0, 2] := by kernel_rfl
set_option maxHeartbeats 20000000 in
theorem d3b (xs : List W8) (hx : xs.length ≤ H4) : CW (cxT oG) 26 [.own 1 (xs.map tV)] = some (.own 1 (xs.map tV), []) := by
 refine G2 rfl Tryz.func26 rfl ⟨by kernel_rfl, rfl, of_decide_eq_true rfl, of_decide_eq_true rfl, by decide⟩ keep_s_ClipT <| A3 <| A0 ?_
 (refine C3 rfl rfl (fun _ => rfl) ?_; intro g2)
 refine A4 ⟨nofun, _, kS [0] [0] rfl, ?_⟩
 refine A3 <| A0 <| A6 rfl rfl <| A6 rfl rfl <| K5 rfl rfl <| A6 rfl rfl <| K5 rfl rfl ?_
 refine c3t rfl rfl rfl rfl rfl rfl (fun hz => ?_) (fun hz => ?_)
 ·skip
  (refine C3 rfl rfl (fun _ => rfl) ?_; intro g2)
  refine A4 ⟨nofun, _, kS [2] [0,2] rfl, ?_⟩
  refine B3 <| O3 rfl rfl (by (simp; done)) (by rfl) trivial ?_
  (have h0 : xs = [] := (by simpa using hz); subst h0; rfl)
 skip
 (refine B4 rfl rfl (by (simp; done)) rfl (fun _ => (B2 (by exact A8 fun _ => rfl))) (fun _ => rfl) ?_; intro g2)
 refine A4 ⟨nofun, _, kS [2] [0,2] rfl, ?_⟩
 refine B3 <| O3 rfl rfl (by (simp; done)) (by exact A8 fun _ => rfl) trivial ?_
 rfl

theorem keep_s_CodeOfI : G3 Tryz.f8 = [0, 2, 4, 11, 3, 7] := by kernel_rfl
set_option maxHeartbeats 20000000 in
theorem c7j (s : List UInt8) (hs : s.length ≤ 1048576) : CW (cxT oG) 8 [tV s] = some (.own 1 ((a3z s).map tV), []) := by
 refine G2 rfl Tryz.func8 rfl ⟨by kernel_rfl, rfl, of_decide_eq_true rfl, of_decide_eq_true rfl, by decide⟩ keep_s_CodeOfI <| A3 <| A0 ?_
 (refine C3 rfl rfl (fun _ => rfl) ?_; intro g2)
 refine A4 ⟨nofun, _, kS [0] [] rfl, ?_⟩
 refine A3 <| A0 <| A6 rfl rfl ?_
 apply C6 rfl
 ·apply B0
  ·exact B6 rfl
  exact C5
 ·exact a5f s hs
 ·exact ⟨rfl, rfl, rfl, of_decide_eq_true rfl, rfl⟩
 ·exact .inl rfl
 ·exact B1
 ·exact L4 rfl
 ·exact fun _ => rfl
 intro g7
 refine A6 rfl rfl <| B8 rfl rfl rfl <| B8 rfl rfl rfl <| F8 rfl (fun _ => B7 rfl) (fun _ => rfl) ?_
 intro g3
 refine C7 rfl rfl rfl rfl ⟨by decide, rfl, of_decide_eq_true rfl, of_decide_eq_true rfl, rfl⟩ rfl (by exact B7 rfl) <| A5 rfl rfl rfl ?_
 refine A4 ⟨nofun, _, kS [3,4] [3] rfl, ?_⟩
 refine A3 <| A3 <| A0 <| A6 rfl rfl <| Q0 rfl ?_
 refine A4 ⟨nofun, _, kS [3,11] [3] rfl, ?_⟩
 refine A9 rfl (fun hc => ?_) (fun hc => ?_)
 ·try simp only [SG, List.length_map] at hc
  refine A3 <| A0 ?_
  (refine C3 rfl rfl (fun _ => rfl) ?_; intro g2)
  refine A4 ⟨nofun, _, kS [2] [2] rfl, ?_⟩
  refine B3 <| O3 rfl rfl (by simp) (by rfl) trivial ?_
  rw [c3q hc]
  rfl
 try simp only [SG, List.length_map] at hc
 refine B9 <| A3 <| A0 <| D5 rfl rfl rfl rfl rfl ?_
 obtain ⟨t, ht1, ht2, ht3⟩ := a3h hc
 have hpg := b0u hs ht1
 rw [c2f ht1, W0]
 apply C6 rfl
 ·apply B0
  ·exact B6 rfl
  exact C5
 ·exact d2c t (by omega) hpg
 ·exact ⟨rfl, rfl, rfl, of_decide_eq_true rfl, rfl⟩
 ·exact .inl rfl
 ·exact B1
 ·exact K4
 ·exact fun _ => rfl
 intro g13
 simp only [List.length_map]
 apply C6 rfl
 ·apply B0
  ·exact a3o rfl rfl (by (simp; done)) (A8 fun _ => rfl)
  exact C5
 ·exact d3b (a3d t) (by rw [P1]; simp only [H4]; omega)
 ·exact ⟨rfl, rfl, rfl, of_decide_eq_true rfl, rfl⟩
 ·exact .inl rfl
 ·exact B1
 ·exact K4
 ·exact fun _ => rfl
 intro g14
 simp only [List.length_map]
 (refine B4 rfl rfl (by (simp; done)) rfl (fun _ => (B2 (by exact A8 fun _ => rfl))) (fun _ => rfl) ?_; intro g2)
 refine A4 ⟨nofun, _, kS [2] [2] rfl, ?_⟩
 refine B3 <| O3 rfl rfl (by simp) (by exact A8 fun _ => rfl) trivial ?_
 rw [b4k ht1]

theorem keep_s_pick : G3 Tryz.f46 = [0, 1, 4, 24, 5, 36, 6] := by kernel_rfl
set_option maxHeartbeats 20000000 in
theorem a0o (bs : List Int) (p : Int) (hbs : a4d bs) (hl : bs.length ≤ 1048576) (hp : 0 ≤ p ∧ p ≤ 1000000000) (n : Int) (hn : n ≤ 1000000000) : ∃ res outs, (fun res outs => ∃ k, res = iV k ∧ outs = [[rdr bs (p + 1)]] ∧ (1 ≤ n → 0 ≤ k ∧ k < n) ∧ (n < 1 → k = 0)) res outs ∧ CW (cxT oG) 46 [.ownp [rdr bs p] 0 0, iV n] = some (res, outs) := by
 refine T6 rfl Tryz.func46 rfl ⟨by kernel_rfl, rfl, of_decide_eq_true rfl, of_decide_eq_true rfl, by decide⟩ keep_s_pick <| A3 <| A0 <| A5 rfl rfl rfl ?_
 refine A4 ⟨nofun, _, kS [0,1] [0] rfl, ?_⟩
 refine A3 <| A0 <| A6 rfl rfl <| A6 rfl rfl <| J4 rfl rfl rfl <| B5 rfl rfl (of_decide_eq_true rfl) rfl rfl <| C8 rfl rfl rfl rfl rfl rfl <| H9 rfl rfl (F9 (by omega)) <| J4 rfl rfl rfl <| B5 rfl rfl (of_decide_eq_true rfl) rfl rfl <| a1s rfl rfl rfl rfl rfl ⟨by decide, rfl, of_decide_eq_true rfl, of_decide_eq_true rfl, rfl⟩ (by exact c8a rfl) ?_
 refine A4 ⟨nofun, _, kS [0,1] [0] rfl, ?_⟩
 refine A3 <| A3 <| A0 <| A6 rfl rfl <| I0 rfl rfl <| A6 rfl rfl ?_
 refine E3 rfl rfl (fun hg0 => ?_) (fun hg0 => ?_)
 ·have hg := hg0; try simp only [SG] at hg
  refine A6 rfl rfl <| gT rfl rfl <| J4 rfl rfl rfl <| gT rfl rfl <| B5 rfl rfl (of_decide_eq_true rfl) rfl rfl <| gT rfl rfl <| C8 rfl rfl rfl rfl rfl rfl <| gT rfl rfl <| F4 rfl rfl <| gT rfl rfl <| S4 rfl rfl <| G6 rfl (by assumption) rfl rfl ?_
  refine A4 ⟨nofun, _, kS [0,1,24] [0] rfl, ?_⟩
  refine A9 rfl (fun hc => ?_) (fun hc => ?_)
  ·try simp only [SG, List.length_map] at hc
   refine A3 <| A0 <| A5 rfl rfl rfl ?_
   refine A4 ⟨nofun, _, kS [4] [0] rfl, ?_⟩
   refine B3 ?_
   refine ⟨_, _, ?_, J8 rfl rfl (J7 rfl rfl)⟩
   refine ⟨_, rfl, rfl, fun h => ?_, fun h => ?_⟩
   ·omega
   omega
  try simp only [SG, List.length_map] at hc
  refine B9 <| A3 <| A0 <| A6 rfl rfl <| J4 rfl rfl rfl <| B5 rfl rfl (of_decide_eq_true rfl) rfl rfl <| C8 rfl rfl rfl rfl rfl rfl <| a1z rfl rfl (F9 (by omega)) <| A5 rfl rfl rfl ?_
  refine A4 ⟨nofun, _, kS [0,1,5] [0] rfl, ?_⟩
  refine A3 <| A3 <| A0 <| A6 rfl rfl <| A6 rfl rfl <| J4 rfl rfl rfl <| B5 rfl rfl (of_decide_eq_true rfl) rfl rfl <| C8 rfl rfl rfl rfl rfl rfl <| F4 rfl rfl <| I0 rfl rfl ?_
  refine A4 ⟨nofun, _, kS [0,1,5,36] [0] rfl, ?_⟩
  refine A9 rfl (fun hc => ?_) (fun hc => ?_)
  ·try simp only [SG, List.length_map] at hc
   refine A3 <| A0 <| A6 rfl rfl <| J4 rfl rfl rfl <| B5 rfl rfl (of_decide_eq_true rfl) rfl rfl <| C8 rfl rfl rfl rfl rfl rfl <| A6 rfl rfl <| J9 rfl rfl rfl (fun _ => rfl) (by omega) <| E6 rfl rfl rfl <| a9n rfl rfl rfl (F9 (by have := hbs.getD (p + 1 - 1).toNat; omega)) <| A6 rfl rfl ?_
   have hk := hbs.getD (p + 1 - 1).toNat
   refine b8w rfl rfl (by omega) <| A5 rfl rfl rfl ?_
   refine A4 ⟨nofun, _, kS [4] [0] rfl, ?_⟩
   refine B3 ?_
   refine ⟨_, _, ?_, J8 rfl rfl (J7 rfl rfl)⟩
   refine ⟨_, rfl, rfl, fun h => ?_, fun h => ?_⟩
   ·exact b1t (by omega) (by omega)
   omega
  try simp only [SG, List.length_map] at hc
  refine B9 <| A3 <| A0 <| A6 rfl rfl <| J4 rfl rfl rfl <| B5 rfl rfl (of_decide_eq_true rfl) rfl rfl <| C8 rfl rfl rfl rfl rfl rfl <| A6 rfl rfl <| A6 rfl rfl <| J4 rfl rfl rfl <| B5 rfl rfl (of_decide_eq_true rfl) rfl rfl <| C8 rfl rfl rfl rfl rfl rfl <| F4 rfl rfl ?_
  have hlen : 0 < (bs.length : Int) := by omega
  refine b8w rfl rfl (by omega) ?_
  have hm1 := b1t (a := p + 1 - 1) (by omega) hlen
  refine J9 rfl rfl rfl (fun _ => rfl) (by omega) <| E6 rfl rfl rfl <| a9n rfl rfl rfl (F9 (by have := hbs.getD ((p + 1 - 1).tmod bs.length).toNat; omega)) ?_
  have hk := hbs.getD ((p + 1 - 1).tmod bs.length).toNat
  refine a8k rfl rfl (F9 (by omega)) <| A6 rfl rfl <| J4 rfl rfl rfl <| B5 rfl rfl (of_decide_eq_true rfl) rfl rfl <| C8 rfl rfl rfl rfl rfl rfl <| A6 rfl rfl <| a8k rfl rfl (F9 (by omega)) <| H9 rfl rfl (F9 (by omega)) <| A6 rfl rfl <| J4 rfl rfl rfl <| B5 rfl rfl (of_decide_eq_true rfl) rfl rfl <| C8 rfl rfl rfl rfl rfl rfl <| F4 rfl rfl <| b8w rfl rfl (by omega) ?_
  have hm2 := b1t (a := (p + 1 - 1) * 7 + 3) (by omega) hlen
  refine J9 rfl rfl rfl (fun _ => rfl) (by omega) <| E6 rfl rfl rfl <| a9n rfl rfl rfl (F9 (by have := hbs.getD (((p + 1 - 1) * 7 + 3).tmod bs.length).toNat; omega)) ?_
  have hk2 := hbs.getD (((p + 1 - 1) * 7 + 3).tmod bs.length).toNat
  refine a8k rfl rfl (F9 (by omega)) <| H9 rfl rfl (F9 (by omega)) <| A6 rfl rfl <| a8k rfl rfl (F9 (by omega)) <| H9 rfl rfl (F9 (by omega)) <| A6 rfl rfl <| A6 rfl rfl <| J4 rfl rfl rfl <| B5 rfl rfl (of_decide_eq_true rfl) rfl rfl <| C8 rfl rfl rfl rfl rfl rfl <| F4 rfl rfl ?_
  have hd := c5u (a := p + 1 - 1) (b := bs.length) (by omega) (by omega)
  refine d1s rfl rfl ⟨by omega, F9 (by omega)⟩ <| a8k rfl rfl (F9 (by omega)) <| H9 rfl rfl (F9 (by omega)) <| A5 rfl rfl rfl ?_
  refine A4 ⟨fun _ => ⟨by decide +kernel, by decide +kernel⟩, [(.t 1, _), (.t 6, _), (.h 0, _)], ⟨rfl, rfl, rfl, rfl, rfl, rfl, trivial⟩, ?_⟩
  refine A3 <| A0 <| A6 rfl rfl <| A6 rfl rfl ?_
  have hd2 := c5u (a := (bs.getD ((p + 1 - 1).tmod bs.length).toNat default * 131 + bs.getD (((p + 1 - 1) * 7 + 3).tmod bs.length).toNat default * 1117 + (p + 1 - 1) * 29 + (p + 1 - 1).tdiv bs.length * 53)) (b := 64) (by omega) (by decide)
  refine d1s rfl rfl ⟨by omega, F9 (by omega)⟩ ?_
  have hx := d5m (x := (bs.getD ((p + 1 - 1).tmod bs.length).toNat default * 131 + bs.getD (((p + 1 - 1) * 7 + 3).tmod bs.length).toNat default * 1117 + (p + 1 - 1) * 29 + (p + 1 - 1).tdiv bs.length * 53)) (by omega) (y := (bs.getD ((p + 1 - 1).tmod bs.length).toNat default * 131 + bs.getD (((p + 1 - 1) * 7 + 3).tmod bs.length).toNat default * 1117 + (p + 1 - 1) * 29 + (p + 1 - 1).tdiv bs.length * 53).tdiv 64) (by omega)
  refine d6c rfl rfl <| A5 rfl rfl rfl ?_
  refine A4 ⟨nofun, _, kS [1,6] [0] rfl, ?_⟩
  refine A3 <| A0 <| A6 rfl rfl <| A6 rfl rfl <| b8w rfl rfl (by omega) <| A5 rfl rfl rfl ?_
  refine A4 ⟨nofun, _, kS [4] [0] rfl, ?_⟩
  refine B3 ?_
  refine ⟨_, _, ?_, J8 rfl rfl (J7 rfl rfl)⟩
  refine ⟨_, rfl, rfl, fun h => ?_, fun h => ?_⟩
  ·exact b1t (by omega) (by omega)
  omega
 have hg := hg0; try simp only [SG] at hg
 refine gF rfl rfl <| gF rfl rfl <| gF rfl rfl <| gF rfl rfl <| gF rfl rfl <| G7 rfl (by assumption) rfl rfl ?_
 refine A4 ⟨nofun, _, kS [0,1,24] [0] rfl, ?_⟩
 refine A9 rfl (fun hc => ?_) (fun hc => absurd hc (by decide))
 refine A3 <| A0 <| A5 rfl rfl rfl ?_
 refine A4 ⟨nofun, _, kS [4] [0] rfl, ?_⟩
 refine B3 ?_
 refine ⟨_, _, ?_, J8 rfl rfl (J7 rfl rfl)⟩
 refine ⟨_, rfl, rfl, fun h => ?_, fun h => ?_⟩
 ·omega
 omega

theorem keep_s_one : G3 Tryz.f45 = [0, 1, 4] := by kernel_rfl
set_option maxHeartbeats 20000000 in
theorem d0l (bs : List Int) (p : Int) (hbs : a4d bs) (hl : bs.length ≤ 1048576) (hp : 0 ≤ p ∧ p ≤ 1000000000) (xs : List Int) (hx : 1 ≤ xs.length ∧ xs.length ≤ 1000) : ∃ res outs, (fun res outs => ∃ k, res = iV k ∧ outs = [[rdr bs (p + 1)]] ∧ k ∈ xs) res outs ∧ CW (cxT oG) 45 [.ownp [rdr bs p] 0 0, L xs] = some (res, outs) := by
 refine T6 rfl Tryz.func45 rfl ⟨by kernel_rfl, rfl, of_decide_eq_true rfl, of_decide_eq_true rfl, by decide⟩ keep_s_one <| A3 <| A0 <| A5 rfl rfl rfl ?_
 refine A4 ⟨nofun, _, kS [0,1] [0] rfl, ?_⟩
 refine A3 <| A0 <| A6 rfl rfl <| A6 rfl rfl <| A6 rfl rfl <| F4 rfl rfl ?_
 obtain ⟨_, _, ⟨k, rfl, rfl, hk1, hk2⟩, hC⟩ := a0o (oG := oG) bs p hbs hl hp xs.length (by omega)
 have hk1 := hk1 (by omega)
 apply C6 rfl
 ·apply B0
  ·exact K9 rfl (by decide) rfl
  apply B0
  ·exact B6 rfl
  exact C5
 ·exact hC
 ·exact ⟨rfl, rfl, rfl, of_decide_eq_true rfl, rfl⟩
 ·exact .inl rfl
 ·exact H0 rfl rfl rfl B1
 ·exact C0 rfl
 ·exact fun _ => rfl
 intro g9
 refine J9 rfl rfl rfl (fun _ => rfl) (by omega) <| E6 rfl rfl rfl <| A5 rfl rfl rfl ?_
 refine A4 ⟨nofun, _, kS [4] [0] rfl, ?_⟩
 refine B3 ?_
 refine ⟨_, _, ?_, J8 rfl rfl (J7 rfl rfl)⟩
 refine ⟨_, rfl, rfl, a2o (by omega)⟩

theorem keep_s_newReader : G3 Tryz.f24 = [0, 2, 5] := by kernel_rfl
set_option maxHeartbeats 20000000 in
theorem b9q (bs : List Int) (hl : bs.length ≤ 1048576) : ∃ res outs, (fun res outs => res = .ownp [rdr (bs.take 2000) 0] 0 0 ∧ outs = []) res outs ∧ CW (cxT oG) 24 [.list (bs.map uV)] = some (res, outs) := by
 refine T6 rfl Tryz.func24 rfl ⟨by kernel_rfl, rfl, of_decide_eq_true rfl, of_decide_eq_true rfl, by decide⟩ keep_s_newReader <| A3 <| A0 <| A5 rfl rfl rfl ?_
 refine A4 ⟨nofun, _, kS [0] [] rfl, ?_⟩
 refine A3 <| A3 <| A0 <| A6 rfl rfl <| F4 rfl rfl <| a0b rfl rfl ?_
 refine A4 ⟨nofun, _, kS [0,5] [] rfl, ?_⟩
 refine A9 rfl (fun hc => ?_) (fun hc => ?_)
 ·try simp only [SG, List.length_map] at hc
  refine A0 <| A6 rfl rfl <| N2 rfl rfl rfl (Mv.sized_map fun _ => rfl) (I4 rfl) I7 (by (simp; omega)) <| A5 rfl rfl rfl ?_
  refine A4 ⟨nofun, _, kS [0] [] rfl, ?_⟩
  refine A3 <| A0 <| A6 rfl rfl <| J0 (fs := [_, _]) rfl rfl rfl rfl rfl <| a0q rfl rfl rfl (fun _ => B7 rfl) (fun _ => rfl) ?_
  intro g10
  (refine a7x rfl rfl rfl rfl (fun _ => B7 rfl) (fun _ => rfl) ?_; intro g2)
  refine A4 ⟨nofun, _, kS [2] [2] rfl, ?_⟩
  refine B3 ?_
  refine ⟨_, _, ?_, c5g rfl rfl rfl D3⟩
  have e : rdr (bs.take 2000) 0 = .agg [.list ((bs.map uV).take 2000), iV 0] := by unfold rdr; rw [List.map_take]
  rw [e]
  exact ⟨rfl, rfl⟩
 try simp only [SG, List.length_map] at hc
 refine B9 <| A3 <| A0 <| A6 rfl rfl <| J0 (fs := [_, _]) rfl rfl rfl rfl rfl <| a0q rfl rfl rfl (fun _ => B7 rfl) (fun _ => rfl) ?_
 intro g10
 (refine a7x rfl rfl rfl rfl (fun _ => B7 rfl) (fun _ => rfl) ?_; intro g2)
 refine A4 ⟨nofun, _, kS [2] [2] rfl, ?_⟩
 refine B3 ?_
 refine ⟨_, _, ?_, c5g rfl rfl rfl D3⟩
 have e : bs.take 2000 = bs := List.take_of_length_le (by omega)
 rw [e]
 exact ⟨rfl, rfl⟩

theorem keep_s_ofT : G3 Tryz.f63 = [0, 1, 4] := by kernel_rfl
set_option maxHeartbeats 20000000 in
theorem b0y (bs : List Int) (p : Int) (hbs : a4d bs) (hl : bs.length ≤ 1048576) (hp : 0 ≤ p ∧ p ≤ 1000000000) (ss : List W8) (hs : 1 ≤ ss.length ∧ ss.length ≤ 1000) : ∃ res outs, (fun res outs => ∃ k, res = tV k ∧ outs = [[rdr bs (p + 1)]] ∧ k ∈ ss) res outs ∧ CW (cxT oG) 63 [.ownp [rdr bs p] 0 0, .list (ss.map tV)] = some (res, outs) := by
 refine T6 rfl Tryz.func63 rfl ⟨by kernel_rfl, rfl, of_decide_eq_true rfl, of_decide_eq_true rfl, by decide⟩ keep_s_ofT <| A3 <| A0 <| A5 rfl rfl rfl ?_
 refine A4 ⟨nofun, _, kS [0,1] [0] rfl, ?_⟩
 refine A3 <| A0 <| A6 rfl rfl <| A6 rfl rfl <| A6 rfl rfl <| F4 rfl rfl ?_
 obtain ⟨_, _, ⟨k, rfl, rfl, hk, -⟩, hC⟩ := a0o (oG := oG) bs (p) hbs hl (by omega) (ss.length) (by omega)
 have hk := hk (by omega)
 apply C6 rfl
 ·apply B0
  ·exact K9 rfl (by decide) rfl
  apply B0
  ·exact B6 rfl
  exact C5
 ·exact hC
 ·exact ⟨rfl, rfl, rfl, of_decide_eq_true rfl, rfl⟩
 ·exact .inl rfl
 ·exact H0 rfl rfl rfl B1
 ·exact C0 rfl
 ·exact fun _ => rfl
 intro g9
 refine J9 rfl rfl rfl (fun _ => rfl) (by omega) <| E6 rfl rfl rfl <| A5 rfl rfl rfl ?_
 refine A4 ⟨nofun, _, kS [4] [0] rfl, ?_⟩
 refine B3 ?_
 refine ⟨_, _, ?_, J8 rfl rfl (J7 rfl rfl)⟩
 refine ⟨_, rfl, rfl, Y2 (by omega)⟩

theorem keep_s_planText : G3 Tryz.f44 = [0, 1, 4, 15, 18, 6, 5, 29, 42, 7, 50, 8] := by kernel_rfl
set_option maxHeartbeats 20000000 in
theorem c3n (bs : List Int) (p : Int) (d : Nat) (hbs : a4d bs) (hl : bs.length ≤ 1048576) (hp : 0 ≤ p ∧ p + gN d ≤ 50000000)  (hd : d ≤ 5) : ∃ res outs, (fun res outs => ∃ (x : W8) (q : Int), res = tV x ∧ outs = [[rdr bs q]] ∧ p ≤ q ∧ q ≤ p + gN d ∧ x.length ≤ lN d) res outs ∧ CW (cxT oG) 44 [.ownp [rdr bs p] 0 0, iV d] = some (res, outs) := by
 obtain ⟨kk, hkk⟩ : ∃ kk : Nat, d < kk := ⟨_, Nat.lt_succ_self _⟩
 revert bs p d
 induction kk with
 | zero => intro bs p d hbs hl hp hd hkk; exact absurd hkk (Nat.not_lt_zero _)
 | succ kk ih =>
  intro bs p d hbs hl hp hd hkk
  have hgd := b8g d
  have hld := c4b d
  refine T6 rfl Tryz.func44 rfl ⟨by kernel_rfl, rfl, of_decide_eq_true rfl, of_decide_eq_true rfl, by decide⟩ keep_s_planText <| A3 <| A0 <| A5 rfl rfl rfl ?_
  refine A4 ⟨nofun, _, kS [0,1] [0] rfl, ?_⟩
  refine A3 <| A3 <| A0 <| A6 rfl rfl <| S4 rfl rfl <| A6 rfl rfl ?_
  refine E3 rfl rfl (fun hg0 => ?_) (fun hg0 => ?_)
  ·have hg := hg0; try simp only [SG] at hg
   refine A6 rfl rfl <| gT rfl rfl ?_
   obtain ⟨_, _, ⟨k0, rfl, rfl, hk0, -⟩, hC0⟩ := a0o (oG := oG) bs (p) hbs hl (by omega) (5) (by omega)
   have hk0 := hk0 (by omega)
   apply C6 rfl
   ·apply B0
    ·exact K9 rfl (by decide) rfl
    apply B0
    ·exact B6 rfl
    exact C5
   ·exact hC0
   ·exact ⟨rfl, rfl, rfl, of_decide_eq_true rfl, rfl⟩
   ·exact .inl rfl
   ·exact H0 rfl rfl rfl B1
   ·exact C0 rfl
   ·exact fun _ => rfl
   intro g13
   refine gT rfl rfl <| S4 rfl rfl <| G6 rfl (by assumption) rfl rfl ?_
   refine A4 ⟨nofun, _, kS [0,1,15] [0] rfl, ?_⟩
   refine A9 rfl (fun hc => ?_) (fun hc => ?_)
   ·try simp only [SG, List.length_map] at hc
    refine A3 <| A3 <| A0 <| A6 rfl rfl ?_
    obtain ⟨_, _, ⟨k1, rfl, rfl, hk1, -⟩, hC1⟩ := a0o (oG := oG) bs (p + 1) hbs hl (by omega) (2) (by omega)
    have hk1 := hk1 (by omega)
    apply C6 rfl
    ·apply B0
     ·exact K9 rfl (by decide) rfl
     apply B0
     ·exact B6 rfl
     exact C5
    ·exact hC1
    ·exact ⟨rfl, rfl, rfl, of_decide_eq_true rfl, rfl⟩
    ·exact .inl rfl
    ·exact H0 rfl rfl rfl B1
    ·exact C0 rfl
    ·exact fun _ => rfl
    intro g17
    refine S4 rfl rfl ?_
    refine A4 ⟨nofun, _, kS [0,18] [0] rfl, ?_⟩
    refine A9 rfl (fun hc => ?_) (fun hc => ?_)
    ·try simp only [SG, List.length_map] at hc
     refine A3 <| A0 <| A6 rfl rfl <| E7 (es := List.map tV [[97], [98], [97], [99], [100]]) rfl rfl (of_decide_eq_true rfl) rfl rfl (fun _ => B2 (A8 fun _ => rfl)) (fun _ => rfl) ?_
     intro g20
     obtain ⟨_, _, ⟨w1, rfl, rfl, hw1⟩, hC2⟩ := b0y (oG := oG) bs (p + 1 + 1) hbs hl (by omega) [[97], [98], [97], [99], [100]] (by decide)
     have hw1b : w1.length ≤ 1 := by have hall : ∀ x ∈ ([[97], [98], [97], [99], [100]] : List W8), x.length ≤ 1 := (by decide); exact hall _ hw1
     apply C6 rfl
     ·apply B0
      ·exact K9 rfl (by decide) rfl
      apply B0
      ·exact J3 rfl rfl (by (simp; done)) (fun _ => rfl)
      exact C5
     ·exact hC2
     ·exact ⟨rfl, rfl, rfl, of_decide_eq_true rfl, rfl⟩
     ·exact .inl rfl
     ·exact H0 rfl rfl rfl B1
     ·exact C0 rfl
     ·exact fun _ => rfl
     intro g21
     refine A5 rfl rfl rfl ?_
     refine A4 ⟨nofun, _, kS [4] [0] rfl, ?_⟩
     refine B3 ?_
     refine ⟨_, _, ?_, J8 rfl rfl (J7 rfl rfl)⟩
     exact ⟨_, _, rfl, rfl, by omega, by omega, by omega⟩
    try simp only [SG, List.length_map] at hc
    refine B9 <| A3 <| A0 <| E7 (es := List.map iV []) rfl rfl (of_decide_eq_true rfl) rfl rfl (fun _ => B2 (A8 fun _ => rfl)) (fun _ => rfl) ?_
    intro g22
    (refine B4 rfl rfl (by (simp; done)) rfl (fun _ => (B2 (by exact A8 fun _ => rfl))) (fun _ => rfl) ?_; intro g5)
    refine A4 ⟨nofun, _, kS [0,5] [0,5] rfl, ?_⟩
    refine A3 <| A3 <| A0 <| A6 rfl rfl <| E7 (es := List.map iV [2, 3, 1, 0, 4]) rfl rfl (of_decide_eq_true rfl) rfl rfl (fun _ => B2 (A8 fun _ => rfl)) (fun _ => rfl) ?_
    intro g24
    obtain ⟨_, _, ⟨n1, rfl, rfl, hn1⟩, hC3⟩ := d0l (oG := oG) bs (p + 1 + 1) hbs hl (by omega) [2, 3, 1, 0, 4] (by decide)
    have hn1b : 0 ≤ n1 ∧ n1 ≤ 4 := by simp at hn1; omega
    apply C6 rfl
    ·apply B0
     ·exact K9 rfl (by decide) rfl
     apply B0
     ·exact J3 rfl rfl (by (simp; done)) (fun _ => rfl)
     exact C5
    ·exact hC3
    ·exact ⟨rfl, rfl, rfl, of_decide_eq_true rfl, rfl⟩
    ·exact .inl rfl
    ·exact H0 rfl rfl rfl B1
    ·exact C0 rfl
    ·exact fun _ => rfl
    intro g25
    refine A5 rfl rfl rfl ?_
    refine A4 ⟨nofun, _, kS [0,5,6] [0,5] rfl, ?_⟩
    refine D4 <| I8 (β := List Int × Nat × Int) [(.t 0, _), (.t 6, _)] (fun (z : List Int × Nat × Int) => match z with | (xs, g, q) => [(.h 0, .obj 1 4 0 [rdr bs q]), (.t 5, .sl 5 g none 0 xs.length), (.h 5, .obj g 0 1 (xs.map iV))]) (fun (z : List Int × Nat × Int) => match z with | (xs, g, q) => (xs.length : Int) ≤ n1 ∧ p ≤ q ∧ q ≤ p + 4 + xs.length ∧ ∀ x ∈ xs, -20 ≤ x ∧ x ≤ 20) (fun (z : List Int × Nat × Int) => match z with | (xs, g, q) => 5 - xs.length) ([], _, _) ⟨rfl, rfl, rfl, rfl, rfl, trivial⟩ ⟨by simp; omega, by omega, by omega, by simp⟩ ?_
    intro z hb
    obtain ⟨xs, g, q⟩ := z
    try dsimp only at hb
    obtain ⟨hx1, hq1, hq2, hxb⟩ := hb
    refine A3 <| A3 <| A0 <| A6 rfl rfl <| K5 rfl rfl <| A6 rfl rfl <| I0 rfl rfl ?_
    refine A4 ⟨nofun, _, kS [0,5,6,29] [0,5] rfl, ?_⟩
    refine A9 rfl (fun hc => ?_) (fun hc => ?_)
    ·try simp only [SG, List.length_map] at hc
     refine B9 <| D4 <| A0 <| A6 rfl rfl <| A6 rfl rfl ?_
     obtain ⟨_, _, ⟨k2, rfl, rfl, hk2, -⟩, hC4⟩ := a0o (oG := oG) bs (q) hbs hl (by omega) (41) (by omega)
     have hk2 := hk2 (by omega)
     apply C6 rfl
     ·apply B0
      ·exact K9 rfl (by decide) rfl
      apply B0
      ·exact B6 rfl
      exact C5
     ·exact hC4
     ·exact ⟨rfl, rfl, rfl, of_decide_eq_true rfl, rfl⟩
     ·exact .inl rfl
     ·exact H0 rfl rfl rfl B1
     ·exact C0 rfl
     ·exact fun _ => rfl
     intro g32
     refine a1z rfl rfl (F9 (by omega)) <| E7 (es := List.map iV [k2 - 20]) rfl rfl (of_decide_eq_true rfl) rfl rfl (fun _ => B2 (A8 fun _ => rfl)) (fun _ => rfl) ?_
     intro g34
     refine H1 rfl rfl rfl rfl (by (simp; done)) (by simp) (by decide) rfl rfl rfl rfl (of_decide_eq_true rfl) (fun _ => ⟨rfl, rfl⟩) (by simp only [H4]; (simp only [List.length_nil, List.length_cons, List.length_append, Nat.zero_add, List.length_map]; omega)) (fun _ => rfl) ?_
     intro g35
     (refine B4 rfl rfl (by (simp; done)) rfl (fun _ => (B2 (by exact A8 fun _ => rfl))) (fun _ => rfl) ?_; intro g5)
     refine A4 ⟨nofun, _, kS [0,5,6] [0,5] rfl, ?_⟩
     refine ⟨(xs ++ [k2 - 20], _, q + 1), ?_, (by simp only [List.length_append, List.length_singleton]; omega), ⟨rfl, rfl, rfl, rfl, rfl, trivial⟩⟩
     refine ⟨?_, ?_, ?_, fun x hx => ?_⟩
     ·simp only [List.length_append, List.length_singleton]; omega
     ·omega
     ·simp only [List.length_append, List.length_singleton]; omega
     rcases List.mem_append.1 hx with hx | hx
     ·exact hxb x hx
     rw [List.mem_singleton.1 hx]; omega
    try simp only [SG, List.length_map] at hc
    refine H3 <| A3 <| A0 <| A6 rfl rfl ?_
    have hll := a0z (ns := xs) (fun n hn => by have := hxb n hn; omega)
    apply C6 rfl
    ·apply B0
     ·exact V9 rfl rfl rfl (by (simp; done)) (fun _ => rfl)
     exact C5
    ·exact b3d xs (by omega) (fun n hn => by have := hxb n hn; omega)
    ·exact ⟨rfl, rfl, rfl, of_decide_eq_true rfl, rfl⟩
    ·exact .inr ⟨rfl, rfl⟩
    ·exact B1
    ·exact C0 rfl
    ·exact fun _ => rfl
    intro g37
    refine M1 rfl rfl (by simp only [H4, List.length_append, List.length_cons, List.length_nil]; omega) <| M1 rfl rfl (by simp only [H4, List.length_append, List.length_cons, List.length_nil]; omega) <| A5 rfl rfl rfl ?_
    refine A4 ⟨nofun, _, kS [4] [0] rfl, ?_⟩
    refine B3 ?_
    refine ⟨_, _, ?_, J8 rfl rfl (J7 rfl rfl)⟩
    exact ⟨_, _, rfl, rfl, by omega, by omega, by (simp only [List.length_append, List.length_cons, List.length_nil]; omega)⟩
   try simp only [SG, List.length_map] at hc
   obtain ⟨d1, rfl⟩ : ∃ d1, d = d1 + 1 := ⟨d - 1, by omega⟩
   have hge : gN (d1 + 1) = 2 * gN d1 + 20 := rfl
   have hle : lN (d1 + 1) = 2 * lN d1 + 60 := rfl
   have hgp := b8g d1
   have hlp := c4b d1
   have hlm := c5d (d := d1 + 1) hd
   refine B9 <| A3 <| A3 <| A0 <| A6 rfl rfl ?_
   obtain ⟨_, _, ⟨k3, rfl, rfl, hk3, -⟩, hC5⟩ := a0o (oG := oG) bs (p + 1) hbs hl (by omega) (4) (by omega)
   have hk3 := hk3 (by omega)
   apply C6 rfl
   ·apply B0
    ·exact K9 rfl (by decide) rfl
    apply B0
    ·exact B6 rfl
    exact C5
   ·exact hC5
   ·exact ⟨rfl, rfl, rfl, of_decide_eq_true rfl, rfl⟩
   ·exact .inl rfl
   ·exact H0 rfl rfl rfl B1
   ·exact C0 rfl
   ·exact fun _ => rfl
   intro g41
   refine S4 rfl rfl ?_
   refine A4 ⟨nofun, _, kS [0,1,42] [0] rfl, ?_⟩
   refine A9 rfl (fun hc => ?_) (fun hc => ?_)
   ·try simp only [SG, List.length_map] at hc
    refine A3 <| A0 <| A6 rfl rfl <| A6 rfl rfl <| a1z rfl rfl (F9 (by omega)) ?_
    obtain ⟨_, _, ⟨x1, q1, rfl, rfl, hx11, hx12, hx13⟩, hC6⟩ := ih bs (p + 1 + 1) d1 hbs hl (by omega) (by omega) (by omega)
    rw [show ((d1 + 1 : Nat) : Int) - 1 = (d1 : Int) by omega]
    apply C6 rfl
    ·apply B0
     ·exact K9 rfl (by decide) rfl
     apply B0
     ·exact B6 rfl
     exact C5
    ·exact hC6
    ·exact ⟨rfl, rfl, rfl, of_decide_eq_true rfl, rfl⟩
    ·exact .inl rfl
    ·exact H0 rfl rfl rfl B1
    ·exact C0 rfl
    ·exact fun _ => rfl
    intro g46
    refine A5 rfl rfl rfl ?_
    refine A4 ⟨nofun, _, kS [0,1,7] [0] rfl, ?_⟩
    refine A3 <| A0 <| A6 rfl rfl <| A5 rfl rfl rfl ?_
    refine A4 ⟨nofun, _, kS [0,1,7,8] [0] rfl, ?_⟩
    refine A3 <| A3 <| A0 <| A6 rfl rfl ?_
    obtain ⟨_, _, ⟨k4, rfl, rfl, hk4, -⟩, hC7⟩ := a0o (oG := oG) bs (q1) hbs hl (by omega) (2) (by omega)
    have hk4 := hk4 (by omega)
    apply C6 rfl
    ·apply B0
     ·exact K9 rfl (by decide) rfl
     apply B0
     ·exact B6 rfl
     exact C5
    ·exact hC7
    ·exact ⟨rfl, rfl, rfl, of_decide_eq_true rfl, rfl⟩
    ·exact .inl rfl
    ·exact H0 rfl rfl rfl B1
    ·exact C0 rfl
    ·exact fun _ => rfl
    intro g49
    refine S4 rfl rfl ?_
    refine A4 ⟨nofun, _, kS [0,1,7,8,50] [0] rfl, ?_⟩
    refine A9 rfl (fun hc => ?_) (fun hc => ?_)
    ·try simp only [SG, List.length_map] at hc
     refine A0 <| A6 rfl rfl <| A6 rfl rfl <| a1z rfl rfl (F9 (by omega)) ?_
     obtain ⟨_, _, ⟨x2, q2, rfl, rfl, hx21, hx22, hx23⟩, hC8⟩ := ih bs (q1 + 1) d1 hbs hl (by omega) (by omega) (by omega)
     rw [show ((d1 + 1 : Nat) : Int) - 1 = (d1 : Int) by omega]
     apply C6 rfl
     ·apply B0
      ·exact K9 rfl (by decide) rfl
      apply B0
      ·exact B6 rfl
      exact C5
     ·exact hC8
     ·exact ⟨rfl, rfl, rfl, of_decide_eq_true rfl, rfl⟩
     ·exact .inl rfl
     ·exact H0 rfl rfl rfl B1
     ·exact C0 rfl
     ·exact fun _ => rfl
     intro g54
     refine A5 rfl rfl rfl ?_
     refine A4 ⟨nofun, _, kS [0,7,8] [0] rfl, ?_⟩
     refine A3 <| A0 <| A6 rfl rfl <| E7 (es := List.map tV [[97, 100, 100], [106, 111, 105, 110], [106, 111, 105, 110]]) rfl rfl (of_decide_eq_true rfl) rfl rfl (fun _ => B2 (A8 fun _ => rfl)) (fun _ => rfl) ?_
     intro g56
     obtain ⟨_, _, ⟨w2, rfl, rfl, hw2⟩, hC9⟩ := b0y (oG := oG) bs (q2) hbs hl (by omega) [[97, 100, 100], [106, 111, 105, 110], [106, 111, 105, 110]] (by decide)
     have hw2b : w2.length ≤ 4 := by have hall : ∀ x ∈ ([[97, 100, 100], [106, 111, 105, 110], [106, 111, 105, 110]] : List W8), x.length ≤ 4 := (by decide); exact hall _ hw2
     apply C6 rfl
     ·apply B0
      ·exact K9 rfl (by decide) rfl
      apply B0
      ·exact J3 rfl rfl (by (simp; done)) (fun _ => rfl)
      exact C5
     ·exact hC9
     ·exact ⟨rfl, rfl, rfl, of_decide_eq_true rfl, rfl⟩
     ·exact .inl rfl
     ·exact H0 rfl rfl rfl B1
     ·exact C0 rfl
     ·exact fun _ => rfl
     intro g57
     refine M1 rfl rfl (by simp only [H4, List.length_append, List.length_cons, List.length_nil]; omega) <| A6 rfl rfl <| M1 rfl rfl (by simp only [H4, List.length_append, List.length_cons, List.length_nil]; omega) <| M1 rfl rfl (by simp only [H4, List.length_append, List.length_cons, List.length_nil]; omega) <| A6 rfl rfl <| M1 rfl rfl (by simp only [H4, List.length_append, List.length_cons, List.length_nil]; omega) <| A5 rfl rfl rfl ?_
     refine A4 ⟨nofun, _, kS [4] [0] rfl, ?_⟩
     refine B3 ?_
     refine ⟨_, _, ?_, J8 rfl rfl (J7 rfl rfl)⟩
     exact ⟨_, _, rfl, rfl, by omega, by omega, by (simp only [List.length_append, List.length_cons, List.length_nil]; omega)⟩
    try simp only [SG, List.length_map] at hc
    refine B9 <| A3 <| A0 <| A6 rfl rfl <| E7 (es := List.map tV [[97, 100, 100], [106, 111, 105, 110], [106, 111, 105, 110]]) rfl rfl (of_decide_eq_true rfl) rfl rfl (fun _ => B2 (A8 fun _ => rfl)) (fun _ => rfl) ?_
    intro g56
    obtain ⟨_, _, ⟨w2, rfl, rfl, hw2⟩, hC9⟩ := b0y (oG := oG) bs (q1 + 1) hbs hl (by omega) [[97, 100, 100], [106, 111, 105, 110], [106, 111, 105, 110]] (by decide)
    have hw2b : w2.length ≤ 4 := by have hall : ∀ x ∈ ([[97, 100, 100], [106, 111, 105, 110], [106, 111, 105, 110]] : List W8), x.length ≤ 4 := (by decide); exact hall _ hw2
    apply C6 rfl
    ·apply B0
     ·exact K9 rfl (by decide) rfl
     apply B0
     ·exact J3 rfl rfl (by (simp; done)) (fun _ => rfl)
     exact C5
    ·exact hC9
    ·exact ⟨rfl, rfl, rfl, of_decide_eq_true rfl, rfl⟩
    ·exact .inl rfl
    ·exact H0 rfl rfl rfl B1
    ·exact C0 rfl
    ·exact fun _ => rfl
    intro g57
    refine M1 rfl rfl (by simp only [H4, List.length_append, List.length_cons, List.length_nil]; omega) <| A6 rfl rfl <| M1 rfl rfl (by simp only [H4, List.length_append, List.length_cons, List.length_nil]; omega) <| M1 rfl rfl (by simp only [H4, List.length_append, List.length_cons, List.length_nil]; omega) <| A6 rfl rfl <| M1 rfl rfl (by simp only [H4, List.length_append, List.length_cons, List.length_nil]; omega) <| A5 rfl rfl rfl ?_
    refine A4 ⟨nofun, _, kS [4] [0] rfl, ?_⟩
    refine B3 ?_
    refine ⟨_, _, ?_, J8 rfl rfl (J7 rfl rfl)⟩
    exact ⟨_, _, rfl, rfl, by omega, by omega, by (simp only [List.length_append, List.length_cons, List.length_nil]; omega)⟩
   try simp only [SG, List.length_map] at hc
   refine B9 <| A3 <| A0 <| A6 rfl rfl <| E7 (es := List.map tV [[115, 111, 114, 116], [114, 101, 118], [110, 101, 103], [97, 98, 115], [100, 105, 102, 102], [115, 117, 109, 115], [114, 97, 110, 107, 115], [116, 111, 116, 97, 108], [115, 111, 114, 116], [114, 101, 118], [110, 101, 103], [97, 98, 115]]) rfl rfl (of_decide_eq_true rfl) rfl rfl (fun _ => B2 (A8 fun _ => rfl)) (fun _ => rfl) ?_
   intro g65
   obtain ⟨_, _, ⟨w3, rfl, rfl, hw3⟩, hC10⟩ := b0y (oG := oG) bs (p + 1 + 1) hbs hl (by omega) [[115, 111, 114, 116], [114, 101, 118], [110, 101, 103], [97, 98, 115], [100, 105, 102, 102], [115, 117, 109, 115], [114, 97, 110, 107, 115], [116, 111, 116, 97, 108], [115, 111, 114, 116], [114, 101, 118], [110, 101, 103], [97, 98, 115]] (by decide)
   have hw3b : w3.length ≤ 5 := by have hall : ∀ x ∈ ([[115, 111, 114, 116], [114, 101, 118], [110, 101, 103], [97, 98, 115], [100, 105, 102, 102], [115, 117, 109, 115], [114, 97, 110, 107, 115], [116, 111, 116, 97, 108], [115, 111, 114, 116], [114, 101, 118], [110, 101, 103], [97, 98, 115]] : List W8), x.length ≤ 5 := (by decide); exact hall _ hw3
   apply C6 rfl
   ·apply B0
    ·exact K9 rfl (by decide) rfl
    apply B0
    ·exact J3 rfl rfl (by (simp; done)) (fun _ => rfl)
    exact C5
   ·exact hC10
   ·exact ⟨rfl, rfl, rfl, of_decide_eq_true rfl, rfl⟩
   ·exact .inl rfl
   ·exact H0 rfl rfl rfl B1
   ·exact C0 rfl
   ·exact fun _ => rfl
   intro g66
   refine M1 rfl rfl (by simp only [H4, List.length_append, List.length_cons, List.length_nil]; omega) <| A6 rfl rfl <| A6 rfl rfl <| a1z rfl rfl (F9 (by omega)) ?_
   obtain ⟨_, _, ⟨x3, q3, rfl, rfl, hx31, hx32, hx33⟩, hC11⟩ := ih bs (p + 1 + 1 + 1) d1 hbs hl (by omega) (by omega) (by omega)
   rw [show ((d1 + 1 : Nat) : Int) - 1 = (d1 : Int) by omega]
   apply C6 rfl
   ·apply B0
    ·exact K9 rfl (by decide) rfl
    apply B0
    ·exact B6 rfl
    exact C5
   ·exact hC11
   ·exact ⟨rfl, rfl, rfl, of_decide_eq_true rfl, rfl⟩
   ·exact .inl rfl
   ·exact H0 rfl rfl rfl B1
   ·exact C0 rfl
   ·exact fun _ => rfl
   intro g71
   refine M1 rfl rfl (by simp only [H4, List.length_append, List.length_cons, List.length_nil]; omega) <| A5 rfl rfl rfl ?_
   refine A4 ⟨nofun, _, kS [4] [0] rfl, ?_⟩
   refine B3 ?_
   refine ⟨_, _, ?_, J8 rfl rfl (J7 rfl rfl)⟩
   exact ⟨_, _, rfl, rfl, by omega, by omega, by (simp only [List.length_append, List.length_cons, List.length_nil]; omega)⟩
  have hg := hg0; try simp only [SG] at hg
  refine gF rfl rfl <| gF rfl rfl <| G7 rfl (by assumption) rfl rfl ?_
  refine A4 ⟨nofun, _, kS [0,1,15] [0] rfl, ?_⟩
  refine A9 rfl (fun hc => ?_) (fun hc => absurd hc (by decide))
  refine A3 <| A3 <| A0 <| A6 rfl rfl ?_
  obtain ⟨_, _, ⟨k1, rfl, rfl, hk1, -⟩, hC1⟩ := a0o (oG := oG) bs (p) hbs hl (by omega) (2) (by omega)
  have hk1 := hk1 (by omega)
  apply C6 rfl
  ·apply B0
   ·exact K9 rfl (by decide) rfl
   apply B0
   ·exact B6 rfl
   exact C5
  ·exact hC1
  ·exact ⟨rfl, rfl, rfl, of_decide_eq_true rfl, rfl⟩
  ·exact .inl rfl
  ·exact H0 rfl rfl rfl B1
  ·exact C0 rfl
  ·exact fun _ => rfl
  intro g17
  refine S4 rfl rfl ?_
  refine A4 ⟨nofun, _, kS [0,18] [0] rfl, ?_⟩
  refine A9 rfl (fun hc => ?_) (fun hc => ?_)
  ·try simp only [SG, List.length_map] at hc
   refine A3 <| A0 <| A6 rfl rfl <| E7 (es := List.map tV [[97], [98], [97], [99], [100]]) rfl rfl (of_decide_eq_true rfl) rfl rfl (fun _ => B2 (A8 fun _ => rfl)) (fun _ => rfl) ?_
   intro g20
   obtain ⟨_, _, ⟨w1, rfl, rfl, hw1⟩, hC2⟩ := b0y (oG := oG) bs (p + 1) hbs hl (by omega) [[97], [98], [97], [99], [100]] (by decide)
   have hw1b : w1.length ≤ 1 := by have hall : ∀ x ∈ ([[97], [98], [97], [99], [100]] : List W8), x.length ≤ 1 := (by decide); exact hall _ hw1
   apply C6 rfl
   ·apply B0
    ·exact K9 rfl (by decide) rfl
    apply B0
    ·exact J3 rfl rfl (by (simp; done)) (fun _ => rfl)
    exact C5
   ·exact hC2
   ·exact ⟨rfl, rfl, rfl, of_decide_eq_true rfl, rfl⟩
   ·exact .inl rfl
   ·exact H0 rfl rfl rfl B1
   ·exact C0 rfl
   ·exact fun _ => rfl
   intro g21
   refine A5 rfl rfl rfl ?_
   refine A4 ⟨nofun, _, kS [4] [0] rfl, ?_⟩
   refine B3 ?_
   refine ⟨_, _, ?_, J8 rfl rfl (J7 rfl rfl)⟩
   exact ⟨_, _, rfl, rfl, by omega, by omega, by omega⟩
  try simp only [SG, List.length_map] at hc
  refine B9 <| A3 <| A0 <| E7 (es := List.map iV []) rfl rfl (of_decide_eq_true rfl) rfl rfl (fun _ => B2 (A8 fun _ => rfl)) (fun _ => rfl) ?_
  intro g22
  (refine B4 rfl rfl (by (simp; done)) rfl (fun _ => (B2 (by exact A8 fun _ => rfl))) (fun _ => rfl) ?_; intro g5)
  refine A4 ⟨nofun, _, kS [0,5] [0,5] rfl, ?_⟩
  refine A3 <| A3 <| A0 <| A6 rfl rfl <| E7 (es := List.map iV [2, 3, 1, 0, 4]) rfl rfl (of_decide_eq_true rfl) rfl rfl (fun _ => B2 (A8 fun _ => rfl)) (fun _ => rfl) ?_
  intro g24
  obtain ⟨_, _, ⟨n1, rfl, rfl, hn1⟩, hC3⟩ := d0l (oG := oG) bs (p + 1) hbs hl (by omega) [2, 3, 1, 0, 4] (by decide)
  have hn1b : 0 ≤ n1 ∧ n1 ≤ 4 := by simp at hn1; omega
  apply C6 rfl
  ·apply B0
   ·exact K9 rfl (by decide) rfl
   apply B0
   ·exact J3 rfl rfl (by (simp; done)) (fun _ => rfl)
   exact C5
  ·exact hC3
  ·exact ⟨rfl, rfl, rfl, of_decide_eq_true rfl, rfl⟩
  ·exact .inl rfl
  ·exact H0 rfl rfl rfl B1
  ·exact C0 rfl
  ·exact fun _ => rfl
  intro g25
  refine A5 rfl rfl rfl ?_
  refine A4 ⟨nofun, _, kS [0,5,6] [0,5] rfl, ?_⟩
  refine D4 <| I8 (β := List Int × Nat × Int) [(.t 0, _), (.t 6, _)] (fun (z : List Int × Nat × Int) => match z with | (xs, g, q) => [(.h 0, .obj 1 4 0 [rdr bs q]), (.t 5, .sl 5 g none 0 xs.length), (.h 5, .obj g 0 1 (xs.map iV))]) (fun (z : List Int × Nat × Int) => match z with | (xs, g, q) => (xs.length : Int) ≤ n1 ∧ p ≤ q ∧ q ≤ p + 4 + xs.length ∧ ∀ x ∈ xs, -20 ≤ x ∧ x ≤ 20) (fun (z : List Int × Nat × Int) => match z with | (xs, g, q) => 5 - xs.length) ([], _, _) ⟨rfl, rfl, rfl, rfl, rfl, trivial⟩ ⟨by simp; omega, by omega, by omega, by simp⟩ ?_
  intro z hb
  obtain ⟨xs, g, q⟩ := z
  try dsimp only at hb
  obtain ⟨hx1, hq1, hq2, hxb⟩ := hb
  refine A3 <| A3 <| A0 <| A6 rfl rfl <| K5 rfl rfl <| A6 rfl rfl <| I0 rfl rfl ?_
  refine A4 ⟨nofun, _, kS [0,5,6,29] [0,5] rfl, ?_⟩
  refine A9 rfl (fun hc => ?_) (fun hc => ?_)
  ·try simp only [SG, List.length_map] at hc
   refine B9 <| D4 <| A0 <| A6 rfl rfl <| A6 rfl rfl ?_
   obtain ⟨_, _, ⟨k2, rfl, rfl, hk2, -⟩, hC4⟩ := a0o (oG := oG) bs (q) hbs hl (by omega) (41) (by omega)
   have hk2 := hk2 (by omega)
   apply C6 rfl
   ·apply B0
    ·exact K9 rfl (by decide) rfl
    apply B0
    ·exact B6 rfl
    exact C5
   ·exact hC4
   ·exact ⟨rfl, rfl, rfl, of_decide_eq_true rfl, rfl⟩
   ·exact .inl rfl
   ·exact H0 rfl rfl rfl B1
   ·exact C0 rfl
   ·exact fun _ => rfl
   intro g32
   refine a1z rfl rfl (F9 (by omega)) <| E7 (es := List.map iV [k2 - 20]) rfl rfl (of_decide_eq_true rfl) rfl rfl (fun _ => B2 (A8 fun _ => rfl)) (fun _ => rfl) ?_
   intro g34
   refine H1 rfl rfl rfl rfl (by (simp; done)) (by simp) (by decide) rfl rfl rfl rfl (of_decide_eq_true rfl) (fun _ => ⟨rfl, rfl⟩) (by simp only [H4]; (simp only [List.length_nil, List.length_cons, List.length_append, Nat.zero_add, List.length_map]; omega)) (fun _ => rfl) ?_
   intro g35
   (refine B4 rfl rfl (by (simp; done)) rfl (fun _ => (B2 (by exact A8 fun _ => rfl))) (fun _ => rfl) ?_; intro g5)
   refine A4 ⟨nofun, _, kS [0,5,6] [0,5] rfl, ?_⟩
   refine ⟨(xs ++ [k2 - 20], _, q + 1), ?_, (by simp only [List.length_append, List.length_singleton]; omega), ⟨rfl, rfl, rfl, rfl, rfl, trivial⟩⟩
   refine ⟨?_, ?_, ?_, fun x hx => ?_⟩
   ·simp only [List.length_append, List.length_singleton]; omega
   ·omega
   ·simp only [List.length_append, List.length_singleton]; omega
   rcases List.mem_append.1 hx with hx | hx
   ·exact hxb x hx
   rw [List.mem_singleton.1 hx]; omega
  try simp only [SG, List.length_map] at hc
  refine H3 <| A3 <| A0 <| A6 rfl rfl ?_
  have hll := a0z (ns := xs) (fun n hn => by have := hxb n hn; omega)
  apply C6 rfl
  ·apply B0
   ·exact V9 rfl rfl rfl (by (simp; done)) (fun _ => rfl)
   exact C5
  ·exact b3d xs (by omega) (fun n hn => by have := hxb n hn; omega)
  ·exact ⟨rfl, rfl, rfl, of_decide_eq_true rfl, rfl⟩
  ·exact .inr ⟨rfl, rfl⟩
  ·exact B1
  ·exact C0 rfl
  ·exact fun _ => rfl
  intro g37
  refine M1 rfl rfl (by simp only [H4, List.length_append, List.length_cons, List.length_nil]; omega) <| M1 rfl rfl (by simp only [H4, List.length_append, List.length_cons, List.length_nil]; omega) <| A5 rfl rfl rfl ?_
  refine A4 ⟨nofun, _, kS [4] [0] rfl, ?_⟩
  refine B3 ?_
  refine ⟨_, _, ?_, J8 rfl rfl (J7 rfl rfl)⟩
  exact ⟨_, _, rfl, rfl, by omega, by omega, by (simp only [List.length_append, List.length_cons, List.length_nil]; omega)⟩
end Go.Proofs.YtpjgdgnaeohmeaaGreatDoor
