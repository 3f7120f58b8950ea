/- What each function of the program gives on the abstract machine, part 1 of 1. Conditions: those in front of each theorem. -/
import Derived.Test.YtpjgdgnaeohmeaaGreatDoorMd
import Derived.Test.YtpjgdgnaeohmeaaGreatDoorChecked
import Derived.KernelRfl

set_option linter.unusedVariables false
set_option linter.unusedSimpArgs false
namespace Go.Proofs.YtpjgdgnaeohmeaaGreatDoor
open Go Go.Mv Go.Proofs
set_option maxRecDepth 100000

theorem SD : (∀ {p : Prop} [Decidable p], (decide p = true) = p) ∧ (∀ {p : Prop} {_ : Decidable p}, decide p = false ↔ ¬p) ∧ (∀ (b : Bool), ((!b) = true) = (b = false)) ∧ (∀ (b : Bool), ((!b) = false) = (b = true)) ∧ (∀ {α : Type} [BEq α] [LawfulBEq α] {a b : α}, (a != b) = true ↔ a ≠ b) ∧
    (∀ {α : Type} [BEq α] [LawfulBEq α] {a b : α}, (a == b) = true ↔ a = b) ∧ (∀ {α : Type} (a b : α), (a ≠ b) = ¬a = b) ∧ (!true) = false ∧ (!false) = true ∧ (∀ {α : Type} [BEq α] [LawfulBEq α] {a b : α}, (a == b) = false ↔ a ≠ b) ∧ (∀ {α : Type} [BEq α] [LawfulBEq α] {a b : α}, (a != b) = false ↔ a = b) ∧
    (∀ {p : Prop} [Decidable p], ¬¬p ↔ p) ∧ (∀ {a b : Int}, ¬a < b ↔ b ≤ a) ∧ (∀ {a b : Int}, ¬a ≤ b ↔ b < a) :=
  ⟨@decide_eq_true_eq, @decide_eq_false_iff_not, @Bool.not_eq_true', @Bool.not_eq_false', @bne_iff_ne, @beq_iff_eq, @ne_eq, @Bool.not_true, @Bool.not_false, @beq_eq_false_iff_ne, @bne_eq_false_iff_eq, @Decidable.not_not, @Int.not_lt, @Int.not_le⟩
theorem SG : ((∀ {p : Prop} [Decidable p], (decide p = true) = p) ∧ (∀ {p : Prop} {_ : Decidable p}, decide p = false ↔ ¬p) ∧ (∀ (b : Bool), ((!b) = true) = (b = false)) ∧ (∀ (b : Bool), ((!b) = false) = (b = true)) ∧ (∀ {α : Type} [BEq α] [LawfulBEq α] {a b : α}, (a != b) = true ↔ a ≠ b) ∧
    (∀ {α : Type} [BEq α] [LawfulBEq α] {a b : α}, (a == b) = true ↔ a = b) ∧ (∀ {α : Type} (a b : α), (a ≠ b) = ¬a = b) ∧ (!true) = false ∧ (!false) = true ∧ (∀ {α : Type} [BEq α] [LawfulBEq α] {a b : α}, (a == b) = false ↔ a ≠ b) ∧ (∀ {α : Type} [BEq α] [LawfulBEq α] {a b : α}, (a != b) = false ↔ a = b) ∧
    (∀ {p : Prop} [Decidable p], ¬¬p ↔ p) ∧ (∀ {a b : Int}, ¬a < b ↔ b ≤ a) ∧ (∀ {a b : Int}, ¬a ≤ b ↔ b < a)) ∧
    (∀ (a b : Bool), ((a && b) = true) = (a = true ∧ b = true)) ∧ (∀ {x y : Bool}, (x && y) = false ↔ x = false ∨ y = false) ∧ (∀ (a b : Bool), ((a || b) = true) = (a = true ∨ b = true)) ∧ (∀ {x y : Bool}, (x || y) = false ↔ x = false ∧ y = false) :=
  ⟨SD, @Bool.and_eq_true, @Bool.and_eq_false_iff, @Bool.or_eq_true, @Bool.or_eq_false_iff⟩
def c8l (keep : List Nat) (A : Asr) : List Mv.Loc → Asr → Option Asr
  | l :: ls, B => match keepLoc keep l, Mv.look A l with
    | true, some a => c8l keep A ls ((l, a) :: B)
    | _, _ => none
  | [], B => some B
theorem c4c {keep : List Nat} {A : Asr} : ∀ (ls : List Mv.Loc) {B C : Asr}, KeepL keep A B → c8l keep A ls B = some C → KeepL keep A C
  | [], B, C, h, e => by simp only [c8l, Option.some.injEq] at e; rw [← e]; exact h
  | l :: ls, B, C, h, e => by
    simp only [c8l] at e
    split at e
    · exact c4c ls (show KeepL keep A ((l, _) :: B) from ⟨by assumption, by assumption, h⟩) e
    · cases e
theorem kS (ts hs : List Nat) {keep : List Nat} {A B : Asr} (h : c8l keep A (ts.map .t ++ hs.map .h) [] = some B) : KeepL keep A B := c4c _ (show KeepL keep A [] from trivial) h
section
variable {cx : Cx} {keep : List Nat} {ops0 : Array Oper} {r : List Oper} {A : Asr} {Q : Asr → List Log → Prop}
variable {d ty : Nat} {pos : String} {aft : Array Edge}
theorem gT {op : Op} {dst : Option Nat} {g dg : Nat} {want b : Bool} (hd : (ops0[g]?).bind (·.dst) = some dg) (hb : Mv.look A (.t dg) = some (.val (.bool b)))
    (h : XR cx keep ops0 (⟨dst, op, ty, pos, aft, none⟩ :: r) A fun A' lg => Q A' (c4e (.t dg) lg)) (hw : b = want := by assumption) : XR cx keep ops0 (⟨dst, op, ty, pos, aft, some (g, want)⟩ :: r) A Q := N7 hd hb hw h
theorem gF {op : Op} {g dg : Nat} {want b : Bool} (hd : (ops0[g]?).bind (·.dst) = some dg) (hb : Mv.look A (.t dg) = some (.val (.bool b)))
    (h : XR cx keep ops0 r ((.t d, .val (.tuple #[])) :: A) fun A' lg => Q A' (([.t dg], [.t d]) :: lg)) (hw : b = !want := by assumption) : XR cx keep ops0 (⟨some d, op, ty, pos, aft, some (g, want)⟩ :: r) A Q := H5 hd hb hw h
end

def mdT : List (Nat × List Nat) := [(11, [3, 3, 3, 3]), (14, [2]), (23, [3, 3, 3, 3]), (24, [3, 3, 3, 3]), (25, [3, 3, 3, 3]), (26, [2]), (28, [3, 3, 3, 3]), (30, [0, 2]), (31, [0, 2]), (32, [2]), (35, [1]), (40, [3, 3, 3, 3]), (44, [3, 3, 3, 3]), (45, [3, 3, 3, 3]), (46, [3, 3, 3, 3]), (47, [3, 3, 3, 3]), (48, [3, 3, 3, 3]), (51, [3, 3, 3, 3]), (59, [3, 3, 3, 3]), (63, [3, 3, 3, 3]), (64, [3, 3, 3, 3]), (68, [2]), (71, [3, 3, 3, 3])]
noncomputable def d2j : List (Nat × (List AV → Option (AV × List (List AV)))) := [(60, b1u), (61, b5e), (69, a6b), (78, b0g), (95, b5a), (96, b5t), (97, b6v)]
variable {oG : Option Nat} {rG : Nat}
noncomputable def cxT (oG : Option Nat) : Cx := { P := Tryz.prog, md := d4b mdT, ext := c3h d2j, it := fun _ => none, fz := fun k => [25, 28, 40, 48, 51, 64, 71].contains k, fzB := fun T d => [(46, 58), (28, 98)].contains (T, d), gl := fun g => match oG with | some r => if g = 0 then some (.val (.map (some r))) else none | none => none, mp := fun k => match oG with | some r => if k = r then some c7u else none | none => none }
noncomputable def cxE : Cx := { P := Tryz.prog, md := d4b mdT, ext := fun _ => none, fz := fun k => [25, 28, 40, 48, 51, 64, 71].contains k }
theorem c4f (l : List UInt8) (b : UInt8) (hl : l.length < 4294967281) : CW (cxT oG) 60 [tV l, tV [b]] = some (.own 1 ((splitB b l).map tV), []) := a5v (cxT oG) rfl (by show (if l.length < 4294967281 then some ((AV.own 1 ((splitB b l).map tV), []) : AV × List (List AV)) else none) = _; rw [if_pos hl])
theorem d2l (ps : List (List UInt8)) (b : UInt8) (h1 : ps.length ≤ G7) (h2 : (joinB b ps).length ≤ G7) : CW (cxT oG) 61 [.list (ps.map tV), tV [b]] = some (tV (joinB b ps), []) := a5v (cxT oG) rfl (by show ((unT (ps.map tV)).bind fun ps => if ps.length ≤ G7 ∧ (joinB b ps).length ≤ G7 then some ((tV (joinB b ps), []) : AV × List (List AV)) else none) = _; rw [d1q, Option.bind_some, if_pos ⟨h1, h2⟩])
theorem s_Clone (xs : List Int) (hl : xs.length ≤ G7) : CW (cxT oG) 69 [.list (xs.map iV)] = some (.own 1 (xs.map iV), []) := a5v (cxT oG) rfl (by simp [a6b, d1e, hl])
theorem d2p (n : Int) (h : -9223372036854775808 ≤ n ∧ n ≤ 9223372036854775807) : CW (cxT oG) 78 [iV n] = some (tV (dec n), []) := a5v (cxT oG) rfl (by simp [b0g, h])
theorem d3e (l : List UInt8) (b : UInt8) : CW (cxT oG) 95 [tV l, tV [b]] = some (.tup [tV (a2u b l), bV (decide (l.head? = some b))], []) := a5v (cxT oG) rfl rfl
theorem d3k (l : List UInt8) (b : UInt8) (hl : l.length < 4294967281) : CW (cxT oG) 96 [tV l, tV [b]] = some (.tup [tV (b3e b l), bV (decide (l.getLast? = some b))], []) := a5v (cxT oG) rfl (by show (if l.length < 4294967281 then some ((AV.tup [tV (b3e b l), bV (decide (l.getLast? = some b))], []) : AV × List (List AV)) else none) = _; rw [if_pos hl])
theorem c0p (l : List UInt8) (hl : l.length < 4294967281) : CW (cxT oG) 97 [tV l] = some (atR l, []) := a5v (cxT oG) rfl (by show (if l.length < 4294967281 then some ((atR l, []) : AV × List (List AV)) else none) = _; rw [if_pos hl])

theorem keep_s_inRange : F9 Tryz.f88 = [0, 1, 2, 6] := by kernel_rfl
set_option maxHeartbeats 20000000 in
theorem c5o (n lo hi : Int) : CW (cxT oG) 88 [iV n, iV lo, iV hi] = some (bV (decide (lo ≤ n) && decide (n ≤ hi)), []) := by
 refine G4 rfl Tryz.func88 rfl ⟨by kernel_rfl, rfl, of_decide_eq_true rfl, of_decide_eq_true rfl, by decide⟩ keep_s_inRange <| A3 <| A0 <| A4 rfl rfl rfl ?_
 refine A5 ⟨nofun, _, kS [0,1,2] [] rfl, ?_⟩
 refine A3 <| A0 <| A6 rfl rfl <| A6 rfl rfl <| b2g rfl rfl <| A6 rfl rfl ?_
 refine D9 rfl rfl (fun hg0 => ?_) (fun hg0 => ?_)
 ·have hg := hg0; try simp only [SG] at hg
  refine A6 rfl rfl <| gT rfl rfl <| A6 rfl rfl <| gT rfl rfl <| b2g rfl rfl <| G1 rfl (by assumption) rfl rfl <| A4 rfl rfl rfl ?_
  refine A5 ⟨nofun, _, kS [6] [] rfl, ?_⟩
  refine B3 <| D4 rfl rfl trivial ?_
  simp_all [ofConst]; try omega
 have hg := hg0; try simp only [SG] at hg
 refine gF rfl rfl <| gF rfl rfl <| G6 rfl (by assumption) rfl rfl <| A4 rfl rfl rfl ?_
 refine A5 ⟨nofun, _, kS [6] [] rfl, ?_⟩
 refine B3 <| D4 rfl rfl trivial ?_
 simp_all [ofConst]; try omega

theorem keep_s_in : F9 Tryz.f125 = [0, 1, 2, 6] := by kernel_rfl
set_option maxHeartbeats 20000000 in
theorem d4i (n lo hi : Int) : CW (cxT oG) 125 [iV n, iV lo, iV hi] = some (bV (decide (lo ≤ n) && decide (n ≤ hi)), []) := by
 refine G4 rfl Tryz.func125 rfl ⟨by kernel_rfl, rfl, of_decide_eq_true rfl, of_decide_eq_true rfl, by decide⟩ keep_s_in <| A3 <| A0 <| A4 rfl rfl rfl ?_
 refine A5 ⟨nofun, _, kS [0,1,2] [] rfl, ?_⟩
 refine A3 <| A0 <| A6 rfl rfl <| A6 rfl rfl <| c8h rfl rfl <| A6 rfl rfl ?_
 refine D9 rfl rfl (fun hg0 => ?_) (fun hg0 => ?_)
 ·have hg := hg0; try simp only [SG] at hg
  refine A6 rfl rfl <| gT rfl rfl <| A6 rfl rfl <| gT rfl rfl <| b2g rfl rfl <| G1 rfl (by assumption) rfl rfl <| A4 rfl rfl rfl ?_
  refine A5 ⟨nofun, _, kS [6] [] rfl, ?_⟩
  refine B3 <| D4 rfl rfl trivial ?_
  simp_all [ofConst]; try omega
 have hg := hg0; try simp only [SG] at hg
 refine gF rfl rfl <| gF rfl rfl <| G6 rfl (by assumption) rfl rfl <| A4 rfl rfl rfl ?_
 refine A5 ⟨nofun, _, kS [6] [] rfl, ?_⟩
 refine B3 <| D4 rfl rfl trivial ?_
 simp_all [ofConst]; try omega

theorem keep_s_IndexFunc2 : F9 Tryz.f134 = [0, 1, 4, 8, 7, 9, 5, 16] := by kernel_rfl
set_option maxHeartbeats 20000000 in
theorem b5i (xs : List Int) (hl : xs.length ≤ 1000) (k : Nat) (a b : AV) (q : Int → Bool) (hq : ∀ x, CW (cxT oG) k [iV x, .ipt a 0, .ipt b 0] = some (bV (q x), [])) : ∃ res outs, (fun res outs => ∃ r : Int, res = iV r ∧ outs = [] ∧ decide (0 ≤ r) = xs.any q) res outs ∧ CW (cxT oG) 134 [L xs, .clo k [.ipt a 0, .ipt b 0]] = some (res, outs) := by
 refine R4 rfl Tryz.func134 rfl ⟨by kernel_rfl, rfl, of_decide_eq_true rfl, of_decide_eq_true rfl, by decide⟩ keep_s_IndexFunc2 <| A3 <| A0 <| A4 rfl rfl rfl ?_
 refine A5 ⟨nofun, _, kS [0,1] [] rfl, ?_⟩
 refine A3 <| A3 <| A0 <| A6 rfl rfl <| H0 rfl rfl <| A6 rfl rfl ?_
 refine A5 ⟨nofun, _, kS [0,1,7,8] [] rfl, ?_⟩
 refine E3 <| L1 (β := Nat) [(.t 0, _), (.t 1, _), (.t 7, _)] (fun (i : Nat) => [(.t 8, iV i)]) (fun (i : Nat) => i ≤ xs.length ∧ ∀ j, j < i → q (xs.getD j default) = false) (fun (i : Nat) => xs.length - i) 0 ⟨rfl, rfl, rfl, rfl, trivial⟩ ⟨Nat.zero_le _, fun j h => by omega⟩ ?_
 intro i hb
 obtain ⟨hi1, hi2⟩ := hb
 refine A3 <| A0 <| K7 rfl rfl ?_
 refine A5 ⟨nofun, _, kS [0,1,7,8,9] [] rfl, ?_⟩
 refine A3 ?_
 refine A8 rfl (fun hc => ?_) (fun hc => ?_)
 ·try simp only [SG, List.length_map] at hc
  refine B7 <| A3 <| E3 <| A3 <| A0 <| A6 rfl rfl <| A4 rfl rfl rfl ?_
  refine A5 ⟨nofun, _, kS [0,1,5,7,8] [] rfl, ?_⟩
  refine A3 <| A0 <| A6 rfl rfl <| A6 rfl rfl <| A6 rfl rfl <| H9 rfl rfl rfl (fun _ => rfl) (by omega) <| G5 rfl rfl rfl ?_
  apply d0v rfl rfl
  ·apply A9
   ·exact B5 rfl
   apply A9
   ·exact B5 rfl
   apply A9
   ·exact B5 rfl
   exact C3
  ·exact hq (xs.getD i default)
  ·exact ⟨rfl, rfl, rfl, of_decide_eq_true rfl, rfl⟩
  ·exact .inl rfl
  ·exact B1
  ·exact C0 rfl
  ·exact fun _ => rfl
  intro g16
  refine A5 ⟨nofun, _, kS [0,1,5,7,8,16] [] rfl, ?_⟩
  refine A8 rfl (fun hc => ?_) (fun hc => ?_)
  ·try simp only [SG, List.length_map] at hc
   refine A3 <| A0 <| A6 rfl rfl <| A4 rfl rfl rfl ?_
   refine A5 ⟨nofun, _, kS [4] [] rfl, ?_⟩
   refine B3 ?_
   refine ⟨_, _, ?_, I5 rfl rfl C6⟩
   exact ⟨_, rfl, rfl, d1p (by omega) hc⟩
  try simp only [SG, List.length_map] at hc
  refine B7 <| A0 <| K3 rfl rfl (F7 (by omega)) <| A6 rfl rfl ?_
  refine A5 ⟨nofun, _, kS [0,1,7,8] [] rfl, ?_⟩
  refine ⟨i + 1, ⟨by omega, fun a ha => by rcases Nat.lt_succ_iff_lt_or_eq.1 ha with h | h; exact hi2 a h; subst h; exact hc⟩, (by omega), ⟨rfl, rfl, rfl, rfl, trivial⟩⟩
 try simp only [SG, List.length_map] at hc
 refine J3 <| A3 <| A0 <| A4 rfl rfl rfl ?_
 refine A5 ⟨nofun, _, kS [4] [] rfl, ?_⟩
 refine B3 ?_
 refine ⟨_, _, ?_, I5 rfl rfl C6⟩
 exact ⟨-1, rfl, rfl, c7h fun j hj => hi2 j (by omega)⟩

theorem keep_s_ContainsFunc2 : F9 Tryz.f123 = [0, 1, 4] := by kernel_rfl
set_option maxHeartbeats 20000000 in
theorem a9p (xs : List Int) (hl : xs.length ≤ 1000) (k : Nat) (a b : AV) (q : Int → Bool) (hq : ∀ x, CW (cxT oG) k [iV x, .ipt a 0, .ipt b 0] = some (bV (q x), [])) : CW (cxT oG) 123 [L xs, .clo k [.ipt a 0, .ipt b 0]] = some (bV (xs.any q), []) := by
 obtain ⟨_, _, ⟨r, rfl, rfl, hr⟩, hC⟩ := b5i (oG := oG) xs hl k a b q hq
 refine G4 rfl Tryz.func123 rfl ⟨by kernel_rfl, rfl, of_decide_eq_true rfl, of_decide_eq_true rfl, by decide⟩ keep_s_ContainsFunc2 <| A3 <| A0 <| A4 rfl rfl rfl ?_
 refine A5 ⟨nofun, _, kS [0,1] [] rfl, ?_⟩
 refine A3 <| A0 <| A6 rfl rfl <| A6 rfl rfl ?_
 apply C4 rfl
 ·apply A9
  ·exact B5 rfl
  apply A9
  ·exact c6i rfl (c7y (c7y c7s))
  exact C3
 ·exact hC
 ·exact ⟨rfl, rfl, rfl, of_decide_eq_true rfl, rfl⟩
 ·exact .inl rfl
 ·exact B1
 ·exact C0 rfl
 ·exact fun _ => rfl
 intro g7
 refine c8h rfl rfl <| A4 rfl rfl rfl ?_
 refine A5 ⟨nofun, _, kS [4] [] rfl, ?_⟩
 refine B3 <| D4 rfl rfl trivial ?_
 rw [← hr]

theorem keep_s_allIn1 : F9 Tryz.f124 = [0, 1, 2, 4] := by kernel_rfl
set_option maxHeartbeats 20000000 in
theorem c8w (x lo hi : Int) : CW (cxT oG) 124 [iV x, .ipt (iV lo) 0, .ipt (iV hi) 0] = some (bV (!(decide (lo ≤ x) && decide (x ≤ hi))), []) := by
 refine G4 rfl Tryz.func124 rfl ⟨by kernel_rfl, rfl, of_decide_eq_true rfl, of_decide_eq_true rfl, by decide⟩ keep_s_allIn1 <| A3 <| A0 <| A4 rfl rfl rfl ?_
 refine A5 ⟨nofun, _, kS [0,1,2] [] rfl, ?_⟩
 refine A3 <| A0 <| A6 rfl rfl <| G5 rfl rfl rfl <| G5 rfl rfl rfl ?_
 apply C4 rfl
 ·apply A9
  ·exact B5 rfl
  apply A9
  ·exact B5 rfl
  apply A9
  ·exact B5 rfl
  exact C3
 ·exact d4i _ _ _
 ·exact ⟨rfl, rfl, rfl, of_decide_eq_true rfl, rfl⟩
 ·exact .inl rfl
 ·exact B1
 ·exact C0 rfl
 ·exact fun _ => rfl
 intro g8
 refine P1 rfl <| A4 rfl rfl rfl ?_
 refine A5 ⟨nofun, _, kS [4] [] rfl, ?_⟩
 refine B3 <| D4 rfl rfl trivial ?_
 rfl

theorem keep_s_allIn : F9 Tryz.f109 = [0, 1, 2, 6, 4, 5] := by kernel_rfl
set_option maxHeartbeats 20000000 in
theorem d0e (xs : List Int) (hl : xs.length ≤ 1000) (lo hi : Int) : CW (cxT oG) 109 [L xs, iV lo, iV hi] = some (bV (a4v lo hi xs), []) := by
 refine G4 rfl Tryz.func109 rfl ⟨by kernel_rfl, rfl, of_decide_eq_true rfl, of_decide_eq_true rfl, by decide⟩ keep_s_allIn <| A3 <| A0 <| b1g rfl rfl rfl (fun _ => C1 rfl) (fun _ => rfl) ?_
 intro g4
 refine b1g rfl rfl rfl (fun _ => C1 rfl) (fun _ => rfl) ?_
 intro g5
 refine A4 rfl rfl rfl ?_
 refine A5 ⟨nofun, _, kS [0,4,5] [4,5] rfl, ?_⟩
 refine A3 <| A0 <| A6 rfl rfl <| c2i rfl rfl ?_
 apply C4 rfl
 ·apply A9
  ·exact B5 rfl
  apply A9
  ·exact c6i rfl (c9c rfl rfl (c9c rfl rfl c7s))
  exact C3
 ·exact a9p xs hl 124 (iV lo) (iV hi) _ (fun x => c8w x lo hi)
 ·exact ⟨rfl, rfl, rfl, of_decide_eq_true rfl, rfl⟩
 ·exact .inr ⟨rfl, rfl⟩
 ·exact B1
 ·exact C0 rfl
 ·exact fun _ => rfl
 intro g9
 refine P1 rfl <| A4 rfl rfl rfl ?_
 refine A5 ⟨nofun, _, kS [6] [] rfl, ?_⟩
 refine B3 <| D4 rfl rfl trivial ?_
 exact congrArg bV (c9s lo hi xs)

theorem keep_s_validData : F9 Tryz.f80 = [0, 2, 3, 7, 15] := by kernel_rfl
set_option maxHeartbeats 20000000 in
theorem b7z (xs : List Int) (hl : xs.length ≤ 1048576) : CW (cxT oG) 80 [L xs] = some (bV (vd xs), []) := by
 refine G4 rfl Tryz.func80 rfl ⟨by kernel_rfl, rfl, of_decide_eq_true rfl, of_decide_eq_true rfl, by decide⟩ keep_s_validData <| A3 <| A0 <| A4 rfl rfl rfl ?_
 refine A5 ⟨nofun, _, kS [0] [] rfl, ?_⟩
 refine A3 <| A3 <| A0 <| A4 rfl rfl rfl ?_
 refine A5 ⟨nofun, _, kS [0,3] [] rfl, ?_⟩
 refine E3 <| L1 (β := Nat) [(.t 0, _)] (fun (i : Nat) => [(.t 3, iV i)]) (fun (i : Nat) => i ≤ xs.length ∧ ∀ j, j < i → -200 ≤ xs.getD j default ∧ xs.getD j default ≤ 200) (fun (i : Nat) => xs.length - i) 0 ⟨rfl, rfl, trivial⟩ ⟨Nat.zero_le _, fun j h => by omega⟩ ?_
 intro i hb
 obtain ⟨hi1, hi2⟩ := hb
 refine A3 <| A3 <| A0 <| A6 rfl rfl <| A6 rfl rfl <| H0 rfl rfl <| K7 rfl rfl ?_
 refine A5 ⟨nofun, _, kS [0,3,7] [] rfl, ?_⟩
 refine A8 rfl (fun hc => ?_) (fun hc => ?_)
 ·try simp only [SG, List.length_map] at hc
  refine B7 <| A3 <| E3 <| A3 <| A0 <| A6 rfl rfl <| A6 rfl rfl <| H9 rfl rfl rfl (fun _ => rfl) (by omega) <| G5 rfl rfl rfl ?_
  apply C4 rfl
  ·apply A9
   ·exact B5 rfl
   apply A9
   ·exact B5 rfl
   apply A9
   ·exact B5 rfl
   exact C3
  ·exact c5o _ _ _
  ·exact ⟨rfl, rfl, rfl, of_decide_eq_true rfl, rfl⟩
  ·exact .inl rfl
  ·exact B1
  ·exact C0 rfl
  ·exact fun _ => rfl
  intro g14
  refine P1 rfl ?_
  refine A5 ⟨nofun, _, kS [0,3,15] [] rfl, ?_⟩
  refine A8 rfl (fun hc => ?_) (fun hc => ?_)
  ·try simp only [SG, List.length_map] at hc
   refine A3 <| A0 <| A4 rfl rfl rfl ?_
   refine A5 ⟨nofun, _, kS [2] [] rfl, ?_⟩
   refine B3 <| D4 rfl rfl trivial ?_
   rw [vd, c9x (show i < xs.length by omega) (by (simp_all; omega)), Bool.and_false]
   rfl
  try simp only [SG, List.length_map] at hc
  refine B7 <| A0 <| A6 rfl rfl <| K3 rfl rfl (F7 (by omega)) <| A4 rfl rfl rfl ?_
  refine A5 ⟨nofun, _, kS [0,3] [] rfl, ?_⟩
  refine ⟨i + 1, ⟨by omega, fun j hj => by rcases Nat.lt_succ_iff_lt_or_eq.1 hj with h | h; (· exact hi2 j h); (· subst h; assumption)⟩, (by omega), ⟨rfl, rfl, trivial⟩⟩
 try simp only [SG, List.length_map] at hc
 refine J3 <| A3 <| A0 <| A6 rfl rfl <| H0 rfl rfl <| b2g rfl rfl <| A4 rfl rfl rfl ?_
 refine A5 ⟨nofun, _, kS [2] [] rfl, ?_⟩
 refine B3 <| D4 rfl rfl trivial ?_
 rw [vd, c9z fun j hj => hi2 j (by omega), Bool.and_true]
 exact congrArg bV (decide_eq_decide.2 (by omega))

theorem keep_s_validDataI : F9 Tryz.f98 = [0, 2] := by kernel_rfl
set_option maxHeartbeats 20000000 in
theorem a6z (xs : List Int) (hl : xs.length ≤ 1048576) : CW (cxT oG) 98 [L xs] = some (bV (vd xs), []) := by
 refine G4 rfl Tryz.func98 rfl ⟨by kernel_rfl, rfl, of_decide_eq_true rfl, of_decide_eq_true rfl, by decide⟩ keep_s_validDataI <| A3 <| A0 <| A4 rfl rfl rfl ?_
 refine A5 ⟨nofun, _, kS [0] [] rfl, ?_⟩
 refine A3 <| A0 <| A6 rfl rfl <| H0 rfl rfl <| b2g rfl rfl <| A6 rfl rfl ?_
 refine D9 rfl rfl (fun hg0 => ?_) (fun hg0 => ?_)
 ·have hg := hg0; try simp only [SG] at hg
  refine A6 rfl rfl <| gT rfl rfl ?_
  apply C4 rfl
  ·apply A9
   ·exact B5 rfl
   apply A9
   ·exact B5 rfl
   apply A9
   ·exact B5 rfl
   exact C3
  ·exact d0e xs (by omega) (-200) 200
  ·exact ⟨rfl, rfl, rfl, of_decide_eq_true rfl, rfl⟩
  ·exact .inl rfl
  ·exact B1
  ·exact C0 rfl
  ·exact fun _ => rfl
  intro g8
  refine G1 rfl (by assumption) rfl rfl <| A4 rfl rfl rfl ?_
  refine A5 ⟨nofun, _, kS [2] [] rfl, ?_⟩
  refine B3 <| D4 rfl rfl trivial ?_
  cases hb : a4v (-200) 200 xs <;> simp_all [vd, ofConst] <;> omega
 have hg := hg0; try simp only [SG] at hg
 refine gF rfl rfl <| G6 rfl (by assumption) rfl rfl <| A4 rfl rfl rfl ?_
 refine A5 ⟨nofun, _, kS [2] [] rfl, ?_⟩
 refine B3 <| D4 rfl rfl trivial ?_
 cases hb : a4v (-200) 200 xs <;> simp_all [vd, ofConst] <;> omega

theorem keep_s_needs : F9 Tryz.f77 = [0, 2, 3, 4, 10, 19] := by kernel_rfl
set_option maxHeartbeats 20000000 in
theorem a6e (w : ByteArray) : CW (cxT oG) 77 [sV w] = some (iV (nd w), []) := by
 refine G4 rfl Tryz.func77 rfl ⟨by kernel_rfl, rfl, of_decide_eq_true rfl, of_decide_eq_true rfl, by decide⟩ keep_s_needs <| A3 <| A0 <| A4 rfl rfl rfl ?_
 refine A5 ⟨nofun, _, kS [0] [] rfl, ?_⟩
 refine A3 <| A3 <| A0 <| A6 rfl rfl ?_
 refine A5 ⟨nofun, _, kS [3] [] rfl, ?_⟩
 refine E3 <| A3 <| A3 <| A0 <| M6 rfl rfl <| A4 rfl rfl rfl ?_
 refine A5 ⟨nofun, _, kS [3,4] [] rfl, ?_⟩
 refine A8 rfl (fun hc => ?_) (fun hc => ?_)
 ·try simp only [SG, List.length_map] at hc
  refine B7 ?_
  refine A8 rfl (fun hc => ?_) (fun hc => absurd hc (by simp_all))
  refine A3 <| A0 <| A4 rfl rfl rfl ?_
  refine A5 ⟨nofun, _, kS [2] [] rfl, ?_⟩
  refine B3 <| D4 rfl rfl trivial <| congrArg iV ?_
  simp_all [nd]
 try simp only [SG, List.length_map] at hc
 refine A3 <| A0 <| M6 rfl rfl <| A4 rfl rfl rfl ?_
 refine A5 ⟨nofun, _, kS [3,4] [] rfl, ?_⟩
 refine A8 rfl (fun hc => ?_) (fun hc => ?_)
 ·try simp only [SG, List.length_map] at hc
  refine B7 ?_
  refine A8 rfl (fun hc => ?_) (fun hc => absurd hc (by simp_all))
  refine A3 <| A0 <| A4 rfl rfl rfl ?_
  refine A5 ⟨nofun, _, kS [2] [] rfl, ?_⟩
  refine B3 <| D4 rfl rfl trivial <| congrArg iV ?_
  simp_all [nd]
 try simp only [SG, List.length_map] at hc
 refine A3 <| A0 <| M6 rfl rfl <| A4 rfl rfl rfl ?_
 refine A5 ⟨nofun, _, kS [3,4] [] rfl, ?_⟩
 refine A8 rfl (fun hc => ?_) (fun hc => ?_)
 ·try simp only [SG, List.length_map] at hc
  refine B7 ?_
  refine A8 rfl (fun hc => ?_) (fun hc => absurd hc (by simp_all))
  refine A3 <| A0 <| A4 rfl rfl rfl ?_
  refine A5 ⟨nofun, _, kS [2] [] rfl, ?_⟩
  refine B3 <| D4 rfl rfl trivial <| congrArg iV ?_
  simp_all [nd]
 try simp only [SG, List.length_map] at hc
 refine A3 <| A0 <| M6 rfl rfl <| A4 rfl rfl rfl ?_
 refine A5 ⟨nofun, _, kS [3,4] [] rfl, ?_⟩
 refine A8 rfl (fun hc => ?_) (fun hc => ?_)
 ·try simp only [SG, List.length_map] at hc
  refine B7 ?_
  refine A8 rfl (fun hc => ?_) (fun hc => absurd hc (by simp_all))
  refine A3 <| A0 <| A4 rfl rfl rfl ?_
  refine A5 ⟨nofun, _, kS [2] [] rfl, ?_⟩
  refine B3 <| D4 rfl rfl trivial <| congrArg iV ?_
  simp_all [nd]
 try simp only [SG, List.length_map] at hc
 refine A0 <| M6 rfl rfl <| A4 rfl rfl rfl ?_
 refine A5 ⟨nofun, _, kS [3,4] [] rfl, ?_⟩
 refine A8 rfl (fun hc => ?_) (fun hc => ?_)
 ·try simp only [SG, List.length_map] at hc
  refine A3 <| A0 <| A4 rfl rfl rfl ?_
  refine A5 ⟨nofun, _, kS [2] [] rfl, ?_⟩
  refine B3 <| D4 rfl rfl trivial <| congrArg iV ?_
  simp_all [nd]
 try simp only [SG, List.length_map] at hc
 refine A3 <| A3 <| A0 <| M6 rfl rfl <| A4 rfl rfl rfl ?_
 refine A5 ⟨nofun, _, kS [3,10] [] rfl, ?_⟩
 refine A8 rfl (fun hc => ?_) (fun hc => ?_)
 ·try simp only [SG, List.length_map] at hc
  refine B7 ?_
  refine A8 rfl (fun hc => ?_) (fun hc => absurd hc (by simp_all))
  refine A3 <| A0 <| A4 rfl rfl rfl ?_
  refine A5 ⟨nofun, _, kS [2] [] rfl, ?_⟩
  refine B3 <| D4 rfl rfl trivial <| congrArg iV ?_
  simp_all [nd]
 try simp only [SG, List.length_map] at hc
 refine A3 <| A0 <| M6 rfl rfl <| A4 rfl rfl rfl ?_
 refine A5 ⟨nofun, _, kS [3,10] [] rfl, ?_⟩
 refine A8 rfl (fun hc => ?_) (fun hc => ?_)
 ·try simp only [SG, List.length_map] at hc
  refine B7 ?_
  refine A8 rfl (fun hc => ?_) (fun hc => absurd hc (by simp_all))
  refine A3 <| A0 <| A4 rfl rfl rfl ?_
  refine A5 ⟨nofun, _, kS [2] [] rfl, ?_⟩
  refine B3 <| D4 rfl rfl trivial <| congrArg iV ?_
  simp_all [nd]
 try simp only [SG, List.length_map] at hc
 refine A3 <| A0 <| M6 rfl rfl <| A4 rfl rfl rfl ?_
 refine A5 ⟨nofun, _, kS [3,10] [] rfl, ?_⟩
 refine A8 rfl (fun hc => ?_) (fun hc => ?_)
 ·try simp only [SG, List.length_map] at hc
  refine B7 ?_
  refine A8 rfl (fun hc => ?_) (fun hc => absurd hc (by simp_all))
  refine A3 <| A0 <| A4 rfl rfl rfl ?_
  refine A5 ⟨nofun, _, kS [2] [] rfl, ?_⟩
  refine B3 <| D4 rfl rfl trivial <| congrArg iV ?_
  simp_all [nd]
 try simp only [SG, List.length_map] at hc
 refine A3 <| A0 <| M6 rfl rfl <| A4 rfl rfl rfl ?_
 refine A5 ⟨nofun, _, kS [3,10] [] rfl, ?_⟩
 refine A8 rfl (fun hc => ?_) (fun hc => ?_)
 ·try simp only [SG, List.length_map] at hc
  refine B7 ?_
  refine A8 rfl (fun hc => ?_) (fun hc => absurd hc (by simp_all))
  refine A3 <| A0 <| A4 rfl rfl rfl ?_
  refine A5 ⟨nofun, _, kS [2] [] rfl, ?_⟩
  refine B3 <| D4 rfl rfl trivial <| congrArg iV ?_
  simp_all [nd]
 try simp only [SG, List.length_map] at hc
 refine A3 <| A0 <| M6 rfl rfl <| A4 rfl rfl rfl ?_
 refine A5 ⟨nofun, _, kS [3,10] [] rfl, ?_⟩
 refine A8 rfl (fun hc => ?_) (fun hc => ?_)
 ·try simp only [SG, List.length_map] at hc
  refine B7 ?_
  refine A8 rfl (fun hc => ?_) (fun hc => absurd hc (by simp_all))
  refine A3 <| A0 <| A4 rfl rfl rfl ?_
  refine A5 ⟨nofun, _, kS [2] [] rfl, ?_⟩
  refine B3 <| D4 rfl rfl trivial <| congrArg iV ?_
  simp_all [nd]
 try simp only [SG, List.length_map] at hc
 refine A3 <| A0 <| M6 rfl rfl <| A4 rfl rfl rfl ?_
 refine A5 ⟨nofun, _, kS [3,10] [] rfl, ?_⟩
 refine A8 rfl (fun hc => ?_) (fun hc => ?_)
 ·try simp only [SG, List.length_map] at hc
  refine B7 ?_
  refine A8 rfl (fun hc => ?_) (fun hc => absurd hc (by simp_all))
  refine A3 <| A0 <| A4 rfl rfl rfl ?_
  refine A5 ⟨nofun, _, kS [2] [] rfl, ?_⟩
  refine B3 <| D4 rfl rfl trivial <| congrArg iV ?_
  simp_all [nd]
 try simp only [SG, List.length_map] at hc
 refine A3 <| A0 <| M6 rfl rfl <| A4 rfl rfl rfl ?_
 refine A5 ⟨nofun, _, kS [3,10] [] rfl, ?_⟩
 refine A8 rfl (fun hc => ?_) (fun hc => ?_)
 ·try simp only [SG, List.length_map] at hc
  refine B7 ?_
  refine A8 rfl (fun hc => ?_) (fun hc => absurd hc (by simp_all))
  refine A3 <| A0 <| A4 rfl rfl rfl ?_
  refine A5 ⟨nofun, _, kS [2] [] rfl, ?_⟩
  refine B3 <| D4 rfl rfl trivial <| congrArg iV ?_
  simp_all [nd]
 try simp only [SG, List.length_map] at hc
 refine A0 <| M6 rfl rfl <| A4 rfl rfl rfl ?_
 refine A5 ⟨nofun, _, kS [3,10] [] rfl, ?_⟩
 refine A8 rfl (fun hc => ?_) (fun hc => ?_)
 ·try simp only [SG, List.length_map] at hc
  refine A3 <| A0 <| A4 rfl rfl rfl ?_
  refine A5 ⟨nofun, _, kS [2] [] rfl, ?_⟩
  refine B3 <| D4 rfl rfl trivial <| congrArg iV ?_
  simp_all [nd]
 try simp only [SG, List.length_map] at hc
 refine A3 <| A3 <| A0 <| M6 rfl rfl <| A4 rfl rfl rfl ?_
 refine A5 ⟨nofun, _, kS [3,19] [] rfl, ?_⟩
 refine A8 rfl (fun hc => ?_) (fun hc => ?_)
 ·try simp only [SG, List.length_map] at hc
  refine B7 ?_
  refine A8 rfl (fun hc => ?_) (fun hc => absurd hc (by simp_all))
  refine A3 <| A0 <| A4 rfl rfl rfl ?_
  refine A5 ⟨nofun, _, kS [2] [] rfl, ?_⟩
  refine B3 <| D4 rfl rfl trivial <| congrArg iV ?_
  simp_all [nd]
 try simp only [SG, List.length_map] at hc
 refine A0 <| M6 rfl rfl <| A4 rfl rfl rfl ?_
 refine A5 ⟨nofun, _, kS [19] [] rfl, ?_⟩
 refine A8 rfl (fun hc => ?_) (fun hc => ?_)
 ·try simp only [SG, List.length_map] at hc
  refine A3 <| A0 <| A4 rfl rfl rfl ?_
  refine A5 ⟨nofun, _, kS [2] [] rfl, ?_⟩
  refine B3 <| D4 rfl rfl trivial <| congrArg iV ?_
  simp_all [nd]
 try simp only [SG, List.length_map] at hc
 refine B7 <| A3 <| A0 <| A4 rfl rfl rfl ?_
 refine A5 ⟨nofun, _, kS [2] [] rfl, ?_⟩
 refine B3 <| D4 rfl rfl trivial <| congrArg iV ?_
 simp_all [nd]

theorem keep_s_reachOf : F9 Tryz.f67 = [0, 2, 3, 4, 13, 16] := by kernel_rfl
set_option maxHeartbeats 20000000 in
theorem c4l (w : ByteArray) : CW (cxT oG) 67 [sV w] = some (iV (rch w), []) := by
 refine G4 rfl Tryz.func67 rfl ⟨by kernel_rfl, rfl, of_decide_eq_true rfl, of_decide_eq_true rfl, by decide⟩ keep_s_reachOf <| A3 <| A0 <| A4 rfl rfl rfl ?_
 refine A5 ⟨nofun, _, kS [0] [] rfl, ?_⟩
 refine A3 <| A3 <| A0 <| A6 rfl rfl ?_
 refine A5 ⟨nofun, _, kS [3] [] rfl, ?_⟩
 refine E3 <| A3 <| A3 <| A0 <| M6 rfl rfl <| A4 rfl rfl rfl ?_
 refine A5 ⟨nofun, _, kS [3,4] [] rfl, ?_⟩
 refine A8 rfl (fun hc => ?_) (fun hc => ?_)
 ·try simp only [SG, List.length_map] at hc
  refine B7 ?_
  refine A8 rfl (fun hc => ?_) (fun hc => absurd hc (by simp_all))
  refine A3 <| A0 <| A4 rfl rfl rfl ?_
  refine A5 ⟨nofun, _, kS [2] [] rfl, ?_⟩
  refine B3 <| D4 rfl rfl trivial <| congrArg iV ?_
  simp_all [rch]
 try simp only [SG, List.length_map] at hc
 refine A3 <| A0 <| M6 rfl rfl <| A4 rfl rfl rfl ?_
 refine A5 ⟨nofun, _, kS [3,4] [] rfl, ?_⟩
 refine A8 rfl (fun hc => ?_) (fun hc => ?_)
 ·try simp only [SG, List.length_map] at hc
  refine B7 ?_
  refine A8 rfl (fun hc => ?_) (fun hc => absurd hc (by simp_all))
  refine A3 <| A0 <| A4 rfl rfl rfl ?_
  refine A5 ⟨nofun, _, kS [2] [] rfl, ?_⟩
  refine B3 <| D4 rfl rfl trivial <| congrArg iV ?_
  simp_all [rch]
 try simp only [SG, List.length_map] at hc
 refine A3 <| A0 <| M6 rfl rfl <| A4 rfl rfl rfl ?_
 refine A5 ⟨nofun, _, kS [3,4] [] rfl, ?_⟩
 refine A8 rfl (fun hc => ?_) (fun hc => ?_)
 ·try simp only [SG, List.length_map] at hc
  refine B7 ?_
  refine A8 rfl (fun hc => ?_) (fun hc => absurd hc (by simp_all))
  refine A3 <| A0 <| A4 rfl rfl rfl ?_
  refine A5 ⟨nofun, _, kS [2] [] rfl, ?_⟩
  refine B3 <| D4 rfl rfl trivial <| congrArg iV ?_
  simp_all [rch]
 try simp only [SG, List.length_map] at hc
 refine A3 <| A0 <| M6 rfl rfl <| A4 rfl rfl rfl ?_
 refine A5 ⟨nofun, _, kS [3,4] [] rfl, ?_⟩
 refine A8 rfl (fun hc => ?_) (fun hc => ?_)
 ·try simp only [SG, List.length_map] at hc
  refine B7 ?_
  refine A8 rfl (fun hc => ?_) (fun hc => absurd hc (by simp_all))
  refine A3 <| A0 <| A4 rfl rfl rfl ?_
  refine A5 ⟨nofun, _, kS [2] [] rfl, ?_⟩
  refine B3 <| D4 rfl rfl trivial <| congrArg iV ?_
  simp_all [rch]
 try simp only [SG, List.length_map] at hc
 refine A3 <| A0 <| M6 rfl rfl <| A4 rfl rfl rfl ?_
 refine A5 ⟨nofun, _, kS [3,4] [] rfl, ?_⟩
 refine A8 rfl (fun hc => ?_) (fun hc => ?_)
 ·try simp only [SG, List.length_map] at hc
  refine B7 ?_
  refine A8 rfl (fun hc => ?_) (fun hc => absurd hc (by simp_all))
  refine A3 <| A0 <| A4 rfl rfl rfl ?_
  refine A5 ⟨nofun, _, kS [2] [] rfl, ?_⟩
  refine B3 <| D4 rfl rfl trivial <| congrArg iV ?_
  simp_all [rch]
 try simp only [SG, List.length_map] at hc
 refine A3 <| A0 <| M6 rfl rfl <| A4 rfl rfl rfl ?_
 refine A5 ⟨nofun, _, kS [3,4] [] rfl, ?_⟩
 refine A8 rfl (fun hc => ?_) (fun hc => ?_)
 ·try simp only [SG, List.length_map] at hc
  refine B7 ?_
  refine A8 rfl (fun hc => ?_) (fun hc => absurd hc (by simp_all))
  refine A3 <| A0 <| A4 rfl rfl rfl ?_
  refine A5 ⟨nofun, _, kS [2] [] rfl, ?_⟩
  refine B3 <| D4 rfl rfl trivial <| congrArg iV ?_
  simp_all [rch]
 try simp only [SG, List.length_map] at hc
 refine A3 <| A0 <| M6 rfl rfl <| A4 rfl rfl rfl ?_
 refine A5 ⟨nofun, _, kS [3,4] [] rfl, ?_⟩
 refine A8 rfl (fun hc => ?_) (fun hc => ?_)
 ·try simp only [SG, List.length_map] at hc
  refine B7 ?_
  refine A8 rfl (fun hc => ?_) (fun hc => absurd hc (by simp_all))
  refine A3 <| A0 <| A4 rfl rfl rfl ?_
  refine A5 ⟨nofun, _, kS [2] [] rfl, ?_⟩
  refine B3 <| D4 rfl rfl trivial <| congrArg iV ?_
  simp_all [rch]
 try simp only [SG, List.length_map] at hc
 refine A0 <| M6 rfl rfl <| A4 rfl rfl rfl ?_
 refine A5 ⟨nofun, _, kS [3,4] [] rfl, ?_⟩
 refine A8 rfl (fun hc => ?_) (fun hc => ?_)
 ·try simp only [SG, List.length_map] at hc
  refine A3 <| A0 <| A4 rfl rfl rfl ?_
  refine A5 ⟨nofun, _, kS [2] [] rfl, ?_⟩
  refine B3 <| D4 rfl rfl trivial <| congrArg iV ?_
  simp_all [rch]
 try simp only [SG, List.length_map] at hc
 refine A3 <| A3 <| A0 <| M6 rfl rfl <| A4 rfl rfl rfl ?_
 refine A5 ⟨nofun, _, kS [3,13] [] rfl, ?_⟩
 refine A8 rfl (fun hc => ?_) (fun hc => ?_)
 ·try simp only [SG, List.length_map] at hc
  refine B7 ?_
  refine A8 rfl (fun hc => ?_) (fun hc => absurd hc (by simp_all))
  refine A3 <| A0 <| A4 rfl rfl rfl ?_
  refine A5 ⟨nofun, _, kS [2] [] rfl, ?_⟩
  refine B3 <| D4 rfl rfl trivial <| congrArg iV ?_
  simp_all [rch]
 try simp only [SG, List.length_map] at hc
 refine A0 <| M6 rfl rfl <| A4 rfl rfl rfl ?_
 refine A5 ⟨nofun, _, kS [3,13] [] rfl, ?_⟩
 refine A8 rfl (fun hc => ?_) (fun hc => ?_)
 ·try simp only [SG, List.length_map] at hc
  refine A3 <| A0 <| A4 rfl rfl rfl ?_
  refine A5 ⟨nofun, _, kS [2] [] rfl, ?_⟩
  refine B3 <| D4 rfl rfl trivial <| congrArg iV ?_
  simp_all [rch]
 try simp only [SG, List.length_map] at hc
 refine A3 <| A3 <| A0 <| M6 rfl rfl <| A4 rfl rfl rfl ?_
 refine A5 ⟨nofun, _, kS [3,16] [] rfl, ?_⟩
 refine A8 rfl (fun hc => ?_) (fun hc => ?_)
 ·try simp only [SG, List.length_map] at hc
  refine B7 ?_
  refine A8 rfl (fun hc => ?_) (fun hc => absurd hc (by simp_all))
  refine A3 <| A0 <| A4 rfl rfl rfl ?_
  refine A5 ⟨nofun, _, kS [2] [] rfl, ?_⟩
  refine B3 <| D4 rfl rfl trivial <| congrArg iV ?_
  simp_all [rch]
 try simp only [SG, List.length_map] at hc
 refine A3 <| A0 <| M6 rfl rfl <| A4 rfl rfl rfl ?_
 refine A5 ⟨nofun, _, kS [3,16] [] rfl, ?_⟩
 refine A8 rfl (fun hc => ?_) (fun hc => ?_)
 ·try simp only [SG, List.length_map] at hc
  refine B7 ?_
  refine A8 rfl (fun hc => ?_) (fun hc => absurd hc (by simp_all))
  refine A3 <| A0 <| A4 rfl rfl rfl ?_
  refine A5 ⟨nofun, _, kS [2] [] rfl, ?_⟩
  refine B3 <| D4 rfl rfl trivial <| congrArg iV ?_
  simp_all [rch]
 try simp only [SG, List.length_map] at hc
 refine A3 <| A0 <| M6 rfl rfl <| A4 rfl rfl rfl ?_
 refine A5 ⟨nofun, _, kS [3,16] [] rfl, ?_⟩
 refine A8 rfl (fun hc => ?_) (fun hc => ?_)
 ·try simp only [SG, List.length_map] at hc
  refine B7 ?_
  refine A8 rfl (fun hc => ?_) (fun hc => absurd hc (by simp_all))
  refine A3 <| A0 <| A4 rfl rfl rfl ?_
  refine A5 ⟨nofun, _, kS [2] [] rfl, ?_⟩
  refine B3 <| D4 rfl rfl trivial <| congrArg iV ?_
  simp_all [rch]
 try simp only [SG, List.length_map] at hc
 refine A0 <| M6 rfl rfl <| A4 rfl rfl rfl ?_
 refine A5 ⟨nofun, _, kS [16] [] rfl, ?_⟩
 refine A8 rfl (fun hc => ?_) (fun hc => ?_)
 ·try simp only [SG, List.length_map] at hc
  refine A3 <| A0 <| A4 rfl rfl rfl ?_
  refine A5 ⟨nofun, _, kS [2] [] rfl, ?_⟩
  refine B3 <| D4 rfl rfl trivial <| congrArg iV ?_
  simp_all [rch]
 try simp only [SG, List.length_map] at hc
 refine B7 <| A3 <| A0 <| A4 rfl rfl rfl ?_
 refine A5 ⟨nofun, _, kS [2] [] rfl, ?_⟩
 refine B3 <| D4 rfl rfl trivial <| congrArg iV ?_
 simp_all [rch]

theorem keep_s_number : F9 Tryz.f70 = [0, 2, 4, 10] := by kernel_rfl
set_option maxHeartbeats 20000000 in
theorem a3n (n : Int) (hn : -1000000 ≤ n ∧ n ≤ 1000000) : CW (cxT oG) 70 [iV n] = some (tV (dec n), []) := by
 obtain ⟨kk, hkk⟩ : ∃ kk : Nat, 2 * n.natAbs + (if n < 0 then 1 else 0) < kk := ⟨_, Nat.lt_succ_self _⟩
 revert n
 induction kk with
 | zero => intro n hn hkk; exact absurd hkk (Nat.not_lt_zero _)
 | succ kk ih =>
  intro n hn hkk
  refine G4 rfl Tryz.func70 rfl ⟨by kernel_rfl, rfl, of_decide_eq_true rfl, of_decide_eq_true rfl, by decide⟩ keep_s_number <| A3 <| A0 <| A4 rfl rfl rfl ?_
  refine A5 ⟨nofun, _, kS [0] [] rfl, ?_⟩
  refine A3 <| A3 <| A0 <| A6 rfl rfl <| K7 rfl rfl ?_
  refine A5 ⟨nofun, _, kS [0,4] [] rfl, ?_⟩
  refine A8 rfl (fun hc => ?_) (fun hc => ?_)
  ·try simp only [SG, List.length_map] at hc
   refine A3 <| A0 <| A6 rfl rfl <| d1x rfl (F7 (by omega)) ?_
   have hdl := T9 (m := -n) (by omega)
   apply C4 rfl
   ·apply A9
    ·exact B5 rfl
    exact C3
   ·exact ih (-n) (by omega) (by split at hkk <;> split <;> omega)
   ·exact ⟨rfl, rfl, rfl, of_decide_eq_true rfl, rfl⟩
   ·exact .inl rfl
   ·exact B1
   ·exact C0 rfl
   ·exact fun _ => rfl
   intro g7
   refine J6 rfl rfl (by simp only [G7, List.length_append, List.length_cons, List.length_nil]; omega) <| A4 rfl rfl rfl ?_
   refine A5 ⟨nofun, _, kS [2] [] rfl, ?_⟩
   refine B3 <| D4 rfl rfl trivial ?_
   exact congrArg tV (d0o (by assumption)).symm
  try simp only [SG, List.length_map] at hc
  refine B7 <| A3 <| A3 <| A0 <| A6 rfl rfl <| K7 rfl rfl ?_
  refine A5 ⟨nofun, _, kS [0,10] [] rfl, ?_⟩
  refine A8 rfl (fun hc => ?_) (fun hc => ?_)
  ·try simp only [SG, List.length_map] at hc
   refine A3 <| A0 <| A6 rfl rfl <| A6 rfl rfl <| K3 rfl rfl (F7 (by omega)) <| Q2 rfl rfl (O2 rfl (by omega)) (O2 rfl (by omega)) (by (simp; omega)) <| A4 rfl rfl rfl ?_
   refine A5 ⟨nofun, _, kS [2] [] rfl, ?_⟩
   refine B3 <| D4 rfl rfl trivial ?_
   rw [d0y (by omega)]
  try simp only [SG, List.length_map] at hc
  refine B7 <| A3 <| A0 <| A6 rfl rfl ?_
  have hd10 : n.tdiv 10 = n / 10 := Int.tdiv_eq_ediv_of_nonneg (by omega)
  refine c9f rfl rfl ⟨by omega, F7 (by omega)⟩ ?_
  have hd10 : n.tdiv 10 = n / 10 := Int.tdiv_eq_ediv_of_nonneg (by omega)
  have hdl0 := T9 (m := n.tdiv 10) (by omega)
  apply C4 rfl
  ·apply A9
   ·exact B5 rfl
   exact C3
  ·exact ih (n.tdiv 10) (by omega) (by split at hkk <;> split <;> omega)
  ·exact ⟨rfl, rfl, rfl, of_decide_eq_true rfl, rfl⟩
  ·exact .inl rfl
  ·exact B1
  ·exact C0 rfl
  ·exact fun _ => rfl
  intro g17
  refine A6 rfl rfl <| b7t rfl rfl (by omega) ?_
  have hm10 : n.tmod 10 = n % 10 := Int.tmod_eq_emod_of_nonneg (by omega)
  have hdl1 := T9 (m := n.tmod 10) (by omega)
  apply C4 rfl
  ·apply A9
   ·exact B5 rfl
   exact C3
  ·exact ih (n.tmod 10) (by omega) (by split at hkk <;> split <;> omega)
  ·exact ⟨rfl, rfl, rfl, of_decide_eq_true rfl, rfl⟩
  ·exact .inl rfl
  ·exact B1
  ·exact C0 rfl
  ·exact fun _ => rfl
  intro g20
  refine J6 rfl rfl (by simp only [G7, List.length_append, List.length_cons, List.length_nil]; omega) <| A4 rfl rfl rfl ?_
  refine A5 ⟨nofun, _, kS [2] [] rfl, ?_⟩
  refine B3 <| D4 rfl rfl trivial ?_
  rw [← d2o (by omega)]

theorem keep_s_listText : F9 Tryz.f58 = [0, 2, 4, 8, 12, 3] := by kernel_rfl
set_option maxHeartbeats 20000000 in
theorem a5g (ns : List Int) (hl : ns.length ≤ 1000000) (hnb : ∀ n ∈ ns, -1000000 ≤ n ∧ n ≤ 1000000) : CW (cxT oG) 58 [L ns] = some (tV (N6 ns), []) := by
 have hg := fun (i : Nat) (h : i < ns.length) => hnb _ (a1j h)
 refine G4 rfl Tryz.func58 rfl ⟨by kernel_rfl, rfl, of_decide_eq_true rfl, of_decide_eq_true rfl, by decide⟩ keep_s_listText <| A3 <| A0 <| A4 rfl rfl rfl ?_
 refine A5 ⟨nofun, _, kS [0] [] rfl, ?_⟩
 refine A3 <| A0 <| A4 rfl rfl rfl ?_
 refine A5 ⟨nofun, _, kS [0,3] [] rfl, ?_⟩
 refine A3 <| A3 <| A0 <| A4 rfl rfl rfl ?_
 refine A5 ⟨nofun, _, kS [0,3,4] [] rfl, ?_⟩
 refine E3 <| L1 (β := Nat) [(.t 0, _)] (fun (i : Nat) => [(.t 4, iV i), (.t 3, tV (N6 (ns.take i)))]) (fun (i : Nat) => i ≤ ns.length) (fun (i : Nat) => ns.length - i) 0 ⟨rfl, rfl, rfl, trivial⟩ (Nat.zero_le _) ?_
 intro i hb
 have hi1 := hb
 have hll := W4 (ns := ns.take i) (fun n hn => hnb n (List.mem_of_mem_take hn))
 rw [List.length_take] at hll
 refine A3 <| A3 <| A0 <| A6 rfl rfl <| A6 rfl rfl <| H0 rfl rfl <| K7 rfl rfl ?_
 refine A5 ⟨nofun, _, kS [0,3,4,8] [] rfl, ?_⟩
 refine A8 rfl (fun hc => ?_) (fun hc => ?_)
 ·try simp only [SG, List.length_map] at hc
  refine B7 <| A3 <| E3 <| A3 <| A3 <| A0 <| A6 rfl rfl <| Y1 rfl rfl ?_
  refine A5 ⟨nofun, _, kS [0,3,4,12] [] rfl, ?_⟩
  refine A8 rfl (fun hc => ?_) (fun hc => ?_)
  ·try simp only [SG, List.length_map] at hc
   have hi0 : 0 < i := by omega
   refine A0 <| A6 rfl rfl <| J6 rfl rfl (by simp only [G7, List.length_append, List.length_cons, List.length_nil]; omega) <| A4 rfl rfl rfl ?_
   refine A5 ⟨nofun, _, kS [0,3,4] [] rfl, ?_⟩
   refine A0 <| A6 rfl rfl <| A6 rfl rfl <| A6 rfl rfl <| H9 rfl rfl rfl (fun _ => rfl) (by omega) <| G5 rfl rfl rfl ?_
   have hgi := hg i (by omega)
   have hdl := T9 hgi
   apply C4 rfl
   ·apply A9
    ·exact B5 rfl
    exact C3
   ·exact a3n (ns.getD i default) hgi
   ·exact ⟨rfl, rfl, rfl, of_decide_eq_true rfl, rfl⟩
   ·exact .inl rfl
   ·exact B1
   ·exact C0 rfl
   ·exact fun _ => rfl
   intro g20
   refine J6 rfl rfl (by simp only [G7, List.length_append, List.length_cons, List.length_nil]; omega) <| A4 rfl rfl rfl ?_
   refine A5 ⟨nofun, _, kS [0,3,4] [] rfl, ?_⟩
   refine A0 <| A6 rfl rfl <| K3 rfl rfl (F7 (by omega)) <| A4 rfl rfl rfl ?_
   refine A5 ⟨nofun, _, kS [0,3,4] [] rfl, ?_⟩
   rw [← b9q (by omega) hi0]
   refine ⟨i + 1, ?_, (by omega), ⟨rfl, rfl, rfl, trivial⟩⟩
   omega
  try simp only [SG, List.length_map] at hc
  have hi0 : i = 0 := by omega
  refine B7 <| A0 <| A6 rfl rfl <| A6 rfl rfl <| A6 rfl rfl <| H9 rfl rfl rfl (fun _ => rfl) (by omega) <| G5 rfl rfl rfl ?_
  have hgi := hg i (by omega)
  have hdl := T9 hgi
  apply C4 rfl
  ·apply A9
   ·exact B5 rfl
   exact C3
  ·exact a3n (ns.getD i default) hgi
  ·exact ⟨rfl, rfl, rfl, of_decide_eq_true rfl, rfl⟩
  ·exact .inl rfl
  ·exact B1
  ·exact C0 rfl
  ·exact fun _ => rfl
  intro g20
  refine J6 rfl rfl (by simp only [G7, List.length_append, List.length_cons, List.length_nil]; omega) <| A4 rfl rfl rfl ?_
  refine A5 ⟨nofun, _, kS [0,3,4] [] rfl, ?_⟩
  refine A0 <| A6 rfl rfl <| K3 rfl rfl (F7 (by omega)) <| A4 rfl rfl rfl ?_
  refine A5 ⟨nofun, _, kS [0,3,4] [] rfl, ?_⟩
  rw [← c0n (by omega) hi0]
  refine ⟨i + 1, ?_, (by omega), ⟨rfl, rfl, rfl, trivial⟩⟩
  omega
 try simp only [SG, List.length_map] at hc
 refine J3 <| A3 <| A0 <| A6 rfl rfl <| A4 rfl rfl rfl ?_
 refine A5 ⟨nofun, _, kS [2] [] rfl, ?_⟩
 refine B3 <| D4 rfl rfl trivial ?_
 rw [List.take_of_length_le (by omega)]

theorem keep_s_splitAt : F9 Tryz.f50 = [0, 1, 4, 7, 12, 19, 6, 5] := by kernel_rfl
set_option maxHeartbeats 20000000 in
theorem b4u (s : List UInt8) (hs : s.length ≤ 1048576) (c : UInt8) : CW (cxT oG) 50 [tV s, uV c.toNat] = some (.own 1 ((splitB c s).map tV), []) := by
 refine G4 rfl Tryz.func50 rfl ⟨by kernel_rfl, rfl, of_decide_eq_true rfl, of_decide_eq_true rfl, by decide⟩ keep_s_splitAt <| A3 <| A0 ?_
 (refine B8 rfl rfl (fun _ => rfl) ?_; intro g4)
 refine A5 ⟨nofun, _, kS [0,1] [] rfl, ?_⟩
 refine A3 <| A0 <| D3 (es := List.map tV []) rfl rfl (of_decide_eq_true rfl) rfl rfl (fun _ => B2 (B0 fun _ => rfl)) (fun _ => rfl) ?_
 intro g8
 (refine B9 rfl rfl (by (simp; done)) rfl (fun _ => (B2 (by exact B0 fun _ => rfl))) (fun _ => rfl) ?_; intro g5)
 refine A5 ⟨nofun, _, kS [0,1,5] [5] rfl, ?_⟩
 refine A3 <| A0 <| A4 rfl rfl rfl ?_
 refine A5 ⟨nofun, _, kS [0,1,5,6] [5] rfl, ?_⟩
 refine A3 <| A3 <| A0 <| A4 rfl rfl rfl ?_
 refine A5 ⟨nofun, _, kS [0,1,5,6,7] [5] rfl, ?_⟩
 refine E3 <| L1 (β := Nat × Nat × List (List UInt8) × Nat) [(.t 0, _), (.t 1, _)] (fun (z : Nat × Nat × List (List UInt8) × Nat) => match z with | (i, fr, out, g) => [(.t 7, iV i), (.t 6, iV fr), (.t 5, .sl 5 g none 0 out.length), (.h 5, .obj g 0 1 (out.map tV))]) (fun (z : Nat × Nat × List (List UInt8) × Nat) => match z with | (i, fr, out, g) => i ≤ s.length ∧ fr ≤ i ∧ out.length ≤ i ∧ splitB c s = out ++ T3 ((s.drop fr).take (i - fr)) (splitB c (s.drop i))) (fun (z : Nat × Nat × List (List UInt8) × Nat) => match z with | (i, fr, out, g) => s.length - i) (0, 0, [], _) ⟨rfl, rfl, rfl, rfl, rfl, rfl, trivial⟩ ⟨Nat.zero_le _, Nat.le_refl _, Nat.le_refl _, by simp [b4r]⟩ ?_
 intro z hb
 obtain ⟨i, fr, out, g⟩ := z
 try dsimp only at hb
 obtain ⟨hi1, hfr, hol, hsp⟩ := hb
 refine A3 <| A3 <| A0 <| A6 rfl rfl <| A6 rfl rfl <| Z1 rfl rfl <| K7 rfl rfl ?_
 refine A5 ⟨nofun, _, kS [0,1,5,6,7,12] [5] rfl, ?_⟩
 refine A8 rfl (fun hc => ?_) (fun hc => ?_)
 ·try simp only [SG, List.length_map] at hc
  refine B7 <| A3 <| E3 <| A3 <| A0 <| A6 rfl rfl <| A6 rfl rfl <| N1 rfl rfl rfl (by omega) <| A6 rfl rfl <| S6 rfl rfl ?_
  refine A5 ⟨nofun, _, kS [0,1,5,6,7,19] [5] rfl, ?_⟩
  refine A8 rfl (fun hc => ?_) (fun hc => ?_)
  ·try simp only [SG, List.length_map] at hc
   have hcb : s.getD i 0 = c := UInt8.toNat_inj.1 (by omega)
   refine A3 <| A0 <| A6 rfl rfl <| A6 rfl rfl <| A6 rfl rfl <| A6 rfl rfl <| Q2 rfl rfl (H1 rfl) (H1 rfl) (by omega) <| D3 (es := List.map tV [_]) rfl rfl (of_decide_eq_true rfl) rfl rfl (fun _ => B2 (B0 fun _ => rfl)) (fun _ => rfl) ?_
   intro g25
   refine G8 rfl rfl rfl rfl (by (simp; done)) (by simp) (by decide) rfl rfl rfl rfl (of_decide_eq_true rfl) (fun _ => ⟨rfl, rfl⟩) (by simp only [G7]; (simp only [List.length_nil, List.length_cons, List.length_append, Nat.zero_add, List.length_map]; omega)) (fun _ => rfl) ?_
   intro g26
   (refine B9 rfl rfl (by (simp; done)) rfl (fun _ => (B2 (by exact B0 fun _ => rfl))) (fun _ => rfl) ?_; intro g5)
   refine A5 ⟨nofun, _, kS [0,1,5,7] [5] rfl, ?_⟩
   refine A0 <| A6 rfl rfl <| K3 rfl rfl (F7 (by omega)) <| A4 rfl rfl rfl ?_
   refine A5 ⟨nofun, _, kS [0,1,5,6,7] [5] rfl, ?_⟩
   refine A0 <| A6 rfl rfl <| K3 rfl rfl (F7 (by omega)) <| A4 rfl rfl rfl ?_
   refine A5 ⟨nofun, _, kS [0,1,5,6,7] [5] rfl, ?_⟩
   refine ⟨(i + 1, i + 1, out ++ [(s.drop fr).take (i - fr)], _), ?_, (by simp only; omega), ⟨rfl, rfl, rfl, rfl, rfl, rfl, trivial⟩⟩
   have hst := b2l (by omega) hfr hsp
   exact ⟨by omega, by omega, by simp; omega, hst.1 hcb⟩
  try simp only [SG, List.length_map] at hc
  have hcb : s.getD i 0 ≠ c := fun e => hc (by rw [e])
  refine B7 <| A0 <| A6 rfl rfl <| K3 rfl rfl (F7 (by omega)) <| A4 rfl rfl rfl ?_
  refine A5 ⟨nofun, _, kS [0,1,5,6,7] [5] rfl, ?_⟩
  refine ⟨(i + 1, fr, out, _), ?_, (by simp only; omega), ⟨rfl, rfl, rfl, rfl, rfl, rfl, trivial⟩⟩
  have hst := b2l (by omega) hfr hsp
  exact ⟨by omega, by omega, by omega, hst.2 hcb⟩
 try simp only [SG, List.length_map] at hc
 refine J3 <| A3 <| A0 <| A6 rfl rfl <| A6 rfl rfl <| A6 rfl rfl <| Q2 rfl rfl H4 (H1 rfl) (by omega) <| D3 (es := List.map tV [_]) rfl rfl (of_decide_eq_true rfl) rfl rfl (fun _ => B2 (B0 fun _ => rfl)) (fun _ => rfl) ?_
 intro g33
 refine G8 rfl rfl rfl rfl (by (simp; done)) (by simp) (by decide) rfl rfl rfl rfl (of_decide_eq_true rfl) (fun _ => ⟨rfl, rfl⟩) (by simp only [G7]; (simp only [List.length_nil, List.length_cons, List.length_append, Nat.zero_add, List.length_map]; omega)) (fun _ => rfl) ?_
 intro g34
 (refine B9 rfl rfl (by (simp; done)) rfl (fun _ => (B2 (by exact B0 fun _ => rfl))) (fun _ => rfl) ?_; intro g4)
 refine A5 ⟨nofun, _, kS [4] [4] rfl, ?_⟩
 refine B3 <| Q7 rfl rfl (by simp) (by exact B0 fun _ => rfl) trivial ?_
 have hil : i = s.length := by omega
 rw [hsp, hil, List.drop_length, splitB, T3, List.append_nil]

theorem keep_s_readList : F9 Tryz.f79 = [0, 2, 3, 5, 6, 17, 7, 8, 31, 10, 37, 9, 53, 62, 75, 4] := by kernel_rfl
set_option maxHeartbeats 20000000 in
theorem c1s (s : List UInt8) (hs : s.length ≤ 1048576) : CW (cxT oG) 79 [tV s] = some (.tup [.own 1 (((rdL s).getD []).map iV), bV (rdL s).isSome], []) := by
 obtain ⟨ps, hps⟩ : ∃ ps, ps = splitB 44 s := ⟨_, rfl⟩
 have hpl := T4 44 s
 rw [← hps] at hpl
 have hpp := Y3 44 s
 rw [← hps] at hpp
 refine G4 rfl Tryz.func79 rfl ⟨by kernel_rfl, rfl, of_decide_eq_true rfl, of_decide_eq_true rfl, by decide⟩ keep_s_readList <| A3 <| A0 ?_
 (refine B8 rfl rfl (fun _ => rfl) ?_; intro g2)
 refine A4 rfl rfl rfl ?_
 refine A5 ⟨nofun, _, kS [0] [] rfl, ?_⟩
 refine A3 <| A0 <| D3 (es := List.map iV []) rfl rfl (of_decide_eq_true rfl) rfl rfl (fun _ => B2 (B0 fun _ => rfl)) (fun _ => rfl) ?_
 intro g11
 (refine B9 rfl rfl (by (simp; done)) rfl (fun _ => (B2 (by exact B0 fun _ => rfl))) (fun _ => rfl) ?_; intro g4)
 refine A5 ⟨nofun, _, kS [0,4] [4] rfl, ?_⟩
 refine A3 <| A0 <| A6 rfl rfl ?_
 apply C4 rfl
 ·apply A9
  ·exact B5 rfl
  apply A9
  ·exact B5 rfl
  exact C3
 ·exact b4u s hs 44
 ·exact ⟨rfl, rfl, rfl, of_decide_eq_true rfl, rfl⟩
 ·exact .inl rfl
 ·exact B1
 ·exact O9
 ·exact fun _ => rfl
 intro g13
 rw [← hps]
 try simp only [List.length_map]
 (refine B9 rfl rfl (by (simp; done)) rfl (fun _ => (B2 (by exact B0 fun _ => rfl))) (fun _ => rfl) ?_; intro g5)
 refine A5 ⟨nofun, _, kS [4,5] [4,5] rfl, ?_⟩
 refine A3 <| A3 <| A0 <| A4 rfl rfl rfl ?_
 refine A5 ⟨nofun, _, kS [4,5,6] [4,5] rfl, ?_⟩
 refine E3 <| L1 (β := Nat × List Int × Nat) [(.t 5, _), (.h 5, _)] (fun (z : Nat × List Int × Nat) => match z with | (i, ns, g) => [(.t 6, iV i), (.t 4, .sl 4 g none 0 ns.length), (.h 4, .obj g 0 1 (ns.map iV))]) (fun (z : Nat × List Int × Nat) => match z with | (i, ns, g) => i ≤ ps.length ∧ a0l (ps.take i) = some ns) (fun (z : Nat × List Int × Nat) => match z with | (i, ns, g) => ps.length - i) (0, [], _) ⟨rfl, rfl, rfl, rfl, rfl, trivial⟩ ⟨Nat.zero_le _, rfl⟩ ?_
 intro z hb
 obtain ⟨i, ns, g⟩ := z
 try dsimp only at hb
 obtain ⟨hi1, hrd⟩ := hb
 have hnl := a9a hrd
 rw [List.length_take] at hnl
 have hpi := fun h : i < ps.length => hpp _ (a0c h)
 refine A3 <| A3 <| A0 <| A6 rfl rfl <| A6 rfl rfl <| Q5 rfl rfl <| K7 rfl rfl ?_
 refine A5 ⟨nofun, _, kS [4,5,6,17] [4,5] rfl, ?_⟩
 refine A8 rfl (fun hc => ?_) (fun hc => ?_)
 ·try simp only [SG, List.length_map] at hc
  refine B7 <| A3 <| E3 <| A3 <| A0 <| A6 rfl rfl <| A6 rfl rfl <| X9 rfl rfl rfl rfl (by omega) (by (simp; done)) rfl <| U2 rfl rfl (by omega) (fun _ => rfl) (fun _ => rfl) rfl <| A4 rfl rfl rfl ?_
  refine A5 ⟨nofun, _, kS [4,5,6,7] [4,5] rfl, ?_⟩
  refine A3 <| A0 <| A6 rfl rfl <| b2n rfl rfl <| A6 rfl rfl ?_
  refine D9 rfl rfl (fun hg0 => ?_) (fun hg0 => ?_)
  ·have hg := hg0; try simp only [SG] at hg
   refine A6 rfl rfl <| gT rfl rfl ?_
   have hp0 : 0 < (ps.getD i default).length := List.length_pos_iff.2 (by assumption)
   refine N1 (n := 0) rfl rfl rfl hp0 <| gT rfl rfl <| S6 rfl rfl <| G1 rfl (by assumption) rfl rfl <| A4 rfl rfl rfl ?_
   refine A5 ⟨nofun, _, kS [4,5,6,7,8] [4,5] rfl, ?_⟩
   refine A3 <| A3 <| A0 <| A6 rfl rfl ?_
   refine A5 ⟨nofun, _, kS [4,5,6,7,8,31] [4,5] rfl, ?_⟩
   refine A8 rfl (fun hc => ?_) (fun hc => ?_)
   ·try simp only [SG, List.length_map] at hc
    obtain ⟨hng, hup⟩ := d3z (p := (ps.getD i default)) (by assumption) (by omega)
    have hul := b6n (ps.getD i default)
    rw [hup] at hul
    refine A0 <| A6 rfl rfl <| Q2 rfl rfl H4 (H1 (n := 1) rfl) (by omega) <| A4 rfl rfl rfl ?_
    refine A5 ⟨nofun, _, kS [4,5,6,7,8] [4,5] rfl, ?_⟩
    refine A3 <| A0 <| A4 rfl rfl rfl ?_
    refine A5 ⟨nofun, _, kS [4,5,6,7,8,9] [4,5] rfl, ?_⟩
    refine A3 <| A3 <| A0 <| A4 rfl rfl rfl ?_
    refine A5 ⟨nofun, _, kS [4,5,6,7,8,9,10] [4,5] rfl, ?_⟩
    refine E3 ?_
    have hup0 := hup
    refine L1 (β := Nat × Int) [(.t 4, _), (.t 5, _), (.t 6, _), (.t 7, _), (.t 8, _), (.h 4, _), (.h 5, _)] (fun (z : Nat × Int) => match z with | (k, a) => [(.t 10, iV k), (.t 9, iV a)]) (fun (z : Nat × Int) => match z with | (k, a) => k ≤ (unS (ps.getD i default)).length ∧ 0 ≤ a ∧ U6 0 ((unS (ps.getD i default)).take k) = some a.toNat) (fun (z : Nat × Int) => match z with | (k, a) => (unS (ps.getD i default)).length - k) (0, 0) ⟨rfl, rfl, rfl, rfl, rfl, rfl, rfl, rfl, rfl, trivial⟩ ⟨Nat.zero_le _, by decide, rfl⟩ ?_
    intro z hb
    obtain ⟨k, a⟩ := z
    try dsimp only at hb
    obtain ⟨hk1, ha0, hdg⟩ := hb
    have hab := a9y (by decide) hdg
    rw [hup] at hk1 hdg
    refine A3 <| A3 <| A0 <| A6 rfl rfl <| A6 rfl rfl <| Z1 rfl rfl <| K7 rfl rfl ?_
    refine A5 ⟨nofun, _, kS [4,5,6,7,8,9,10,37] [4,5] rfl, ?_⟩
    refine A8 rfl (fun hc => ?_) (fun hc => ?_)
    ·try simp only [SG, List.length_map] at hc
     refine B7 <| A3 <| E3 <| A3 <| A3 <| A0 <| A6 rfl rfl <| A6 rfl rfl <| N1 rfl rfl rfl (by omega) <| K7 rfl rfl <| A6 rfl rfl ?_
     refine D9 rfl rfl (fun hg0 => ?_) (fun hg0 => ?_)
     ·have hg := hg0; try simp only [SG] at hg
      refine A6 rfl rfl <| gT rfl rfl <| A6 rfl rfl <| gT rfl rfl <| N1 rfl rfl rfl (by omega) <| gT rfl rfl <| Y1 rfl rfl <| G6 rfl (by assumption) rfl rfl <| A6 rfl rfl ?_
      refine D9 rfl rfl (fun hg0 => ?_) (fun hg0 => ?_)
      ·have hg := hg0; try simp only [SG] at hg
       refine A6 rfl rfl <| gT rfl rfl <| Y1 rfl rfl <| G6 rfl (by assumption) rfl rfl ?_
       refine A5 ⟨nofun, _, kS [4,5,6,7,8,9,10,53] [4,5] rfl, ?_⟩
       refine A8 rfl (fun hc => ?_) (fun hc => ?_)
       ·try simp only [SG, List.length_map] at hc
        refine A3 <| A0 ?_
        (refine B8 rfl rfl (fun _ => rfl) ?_; intro g2)
        refine A4 rfl rfl rfl ?_
        refine A5 ⟨nofun, _, kS [2,3] [2] rfl, ?_⟩
        refine B3 <| D8 (G9 rfl rfl (by simp) (by rfl) (E4 rfl rfl (F3 C6))) ?_
        rw [rdL, ← hps, K2 (show i < ps.length by omega) (V4 (by rw [hup]; exact R9 (by omega) hdg (by omega)))]
        rfl
       try simp only [SG, List.length_map] at hc
       refine B7 <| A0 <| A6 rfl rfl <| a8m rfl rfl (F7 (by omega)) <| A6 rfl rfl <| A6 rfl rfl <| N1 rfl rfl rfl (by omega) <| a0h rfl rfl (d2h (by omega)) <| a8a rfl rfl rfl (F7 (by omega)) <| K3 rfl rfl (F7 (by omega)) <| A4 rfl rfl rfl ?_
       refine A5 ⟨nofun, _, kS [4,5,6,7,8,9,10] [4,5] rfl, ?_⟩
       refine A0 <| A6 rfl rfl <| K3 rfl rfl (F7 (by omega)) <| A4 rfl rfl rfl ?_
       refine A5 ⟨nofun, _, kS [4,5,6,7,8,9,10] [4,5] rfl, ?_⟩
       refine ⟨(k + 1, _), ?_, (by simp only [hup]; omega), ⟨rfl, rfl, rfl, rfl, rfl, rfl, rfl, rfl, rfl, trivial⟩⟩
       rw [hup]
       have hds := a7l (by omega) hdg (by omega)
       exact ⟨by omega, by omega, hds.trans (congrArg some (by omega))⟩
      have hg := hg0; try simp only [SG] at hg
      refine gF rfl rfl <| G1 rfl (by assumption) rfl rfl ?_
      refine A5 ⟨nofun, _, kS [4,5,6,7,8,9,10,53] [4,5] rfl, ?_⟩
      refine A8 rfl (fun hc => ?_) (fun hc => absurd hc (by decide))
      refine A3 <| A0 ?_
      (refine B8 rfl rfl (fun _ => rfl) ?_; intro g2)
      refine A4 rfl rfl rfl ?_
      refine A5 ⟨nofun, _, kS [2,3] [2] rfl, ?_⟩
      refine B3 <| D8 (G9 rfl rfl (by simp) (by rfl) (E4 rfl rfl (F3 C6))) ?_
      rw [rdL, ← hps, K2 (show i < ps.length by omega) (V4 (by rw [hup]; exact R9 (by omega) hdg (by omega)))]
      rfl
     have hg := hg0; try simp only [SG] at hg
     refine gF rfl rfl <| gF rfl rfl <| gF rfl rfl <| G1 rfl (by assumption) rfl rfl <| A6 rfl rfl <| H5 rfl rfl rfl <| H5 rfl rfl rfl <| G1 rfl rfl rfl rfl ?_
     refine A5 ⟨nofun, _, kS [4,5,6,7,8,9,10,53] [4,5] rfl, ?_⟩
     refine A8 rfl (fun hc => ?_) (fun hc => absurd hc (by decide))
     refine A3 <| A0 ?_
     (refine B8 rfl rfl (fun _ => rfl) ?_; intro g2)
     refine A4 rfl rfl rfl ?_
     refine A5 ⟨nofun, _, kS [2,3] [2] rfl, ?_⟩
     refine B3 <| D8 (G9 rfl rfl (by simp) (by rfl) (E4 rfl rfl (F3 C6))) ?_
     rw [rdL, ← hps, K2 (show i < ps.length by omega) (V4 (by rw [hup]; exact R9 (by omega) hdg (by omega)))]
     rfl
    try simp only [SG, List.length_map] at hc
    have hdU : U6 0 (unS (ps.getD i default)) = some a.toNat := by rw [hup]; rw [List.take_of_length_le (by omega)] at hdg; exact hdg
    refine J3 <| A3 <| A3 <| A0 <| A6 rfl rfl ?_
    refine A5 ⟨nofun, _, kS [4,5,6,7,9,62] [4,5] rfl, ?_⟩
    refine A8 rfl (fun hc => ?_) (fun hc => absurd hc (by simp_all))
    refine A0 <| A6 rfl rfl <| d1x rfl (F7 (by omega)) <| A4 rfl rfl rfl ?_
    refine A5 ⟨nofun, _, kS [4,5,6,7,9] [4,5] rfl, ?_⟩
    refine A3 <| A3 <| A0 <| A6 rfl rfl <| a5z rfl rfl <| A6 rfl rfl ?_
    refine D9 rfl rfl (fun hg0 => ?_) (fun hg0 => ?_)
    ·have hg := hg0; try simp only [SG] at hg
     refine A6 rfl rfl <| gT rfl rfl ?_
     have hdl1 := T9 (m := -a) (by omega)
     have hdl2 := T9 (m := a) (by omega)
     apply C4 rfl
     ·apply A9
      ·exact B5 rfl
      exact C3
     ·exact a3n (-a) (by omega)
     ·exact ⟨rfl, rfl, rfl, of_decide_eq_true rfl, rfl⟩
     ·exact .inl rfl
     ·exact B1
     ·exact C0 rfl
     ·exact fun _ => rfl
     intro g69
     refine gT rfl rfl <| A6 rfl rfl <| gT rfl rfl <| A6 rfl rfl <| gT rfl rfl <| X9 rfl rfl rfl rfl (by omega) (by (simp; done)) rfl <| gT rfl rfl <| U2 rfl rfl (by omega) (fun _ => rfl) (fun _ => rfl) rfl <| gT rfl rfl <| b2n rfl rfl <| G6 rfl (by assumption) rfl rfl ?_
     refine A5 ⟨fun _ => ⟨by (simp only [a2p, List.nil_append, List.append_nil, List.map_cons, List.map_nil, List.cons_append]; decide +kernel), by decide +kernel⟩, [(.t 4, _), (.t 5, _), (.t 6, _), (.t 9, _), (.t 75, _), (.h 4, _), (.h 5, _)], ⟨rfl, rfl, rfl, rfl, rfl, rfl, rfl, rfl, rfl, rfl, rfl, rfl, rfl, rfl, trivial⟩, ?_⟩
     refine A8 rfl (fun hc => ?_) (fun hc => ?_)
     ·try simp only [SG, List.length_map] at hc
      refine A3 <| A0 ?_
      (refine B8 rfl rfl (fun _ => rfl) ?_; intro g2)
      refine A4 rfl rfl rfl ?_
      refine A5 ⟨nofun, _, kS [2,3] [2] rfl, ?_⟩
      refine B3 <| D8 (G9 rfl rfl (by simp) (by rfl) (E4 rfl rfl (F3 C6))) ?_
      have hno : rdI (ps.getD i default) = none := by exact a7j (m := -a) hdU (by (rw [hng, if_pos rfl]; omega)) (by exact .inr (by assumption))
      rw [rdL, ← hps, K2 (show i < ps.length by omega) hno]
      rfl
     try simp only [SG, List.length_map] at hc
     have hri := c2t (m := -a) hdU (by (rw [hng, if_pos rfl]; omega)) (by rw [hup]; assumption) (by assumption)
     refine B7 <| A0 <| A6 rfl rfl <| A6 rfl rfl <| D3 (es := List.map iV [_]) rfl rfl (of_decide_eq_true rfl) rfl rfl (fun _ => B2 (B0 fun _ => rfl)) (fun _ => rfl) ?_
     intro g78
     refine G8 rfl rfl rfl rfl (by (simp; done)) (by simp) (by decide) rfl rfl rfl rfl (of_decide_eq_true rfl) (fun _ => ⟨rfl, rfl⟩) (by simp only [G7]; (simp only [List.length_nil, List.length_cons, List.length_append, Nat.zero_add, List.length_map]; omega)) (fun _ => rfl) ?_
     intro g79
     (refine B9 rfl rfl (by (simp; done)) rfl (fun _ => (B2 (by exact B0 fun _ => rfl))) (fun _ => rfl) ?_; intro g4)
     refine A5 ⟨nofun, _, kS [4,5,6] [4,5] rfl, ?_⟩
     refine A0 <| A6 rfl rfl <| K3 rfl rfl (F7 (by omega)) <| A4 rfl rfl rfl ?_
     refine A5 ⟨nofun, _, kS [4,5,6] [4,5] rfl, ?_⟩
     refine ⟨(i + 1, ns ++ [-a], _), ?_, (by simp only; omega), ⟨rfl, rfl, rfl, rfl, rfl, trivial⟩⟩
     exact ⟨by omega, a7r (by omega) hrd hri⟩
    have hg := hg0; try simp only [SG] at hg
    refine gF rfl rfl <| gF rfl rfl <| gF rfl rfl <| gF rfl rfl <| gF rfl rfl <| gF rfl rfl <| G1 rfl (by assumption) rfl rfl ?_
    refine A5 ⟨fun _ => ⟨by decide +kernel, by decide +kernel⟩, [(.t 4, _), (.t 5, _), (.t 6, _), (.t 9, _), (.t 75, _), (.h 4, _), (.h 5, _)], ⟨rfl, rfl, rfl, rfl, rfl, rfl, rfl, rfl, rfl, rfl, rfl, rfl, rfl, rfl, trivial⟩, ?_⟩
    refine A8 rfl (fun hc => ?_) (fun hc => absurd hc (by decide))
    refine A3 <| A0 ?_
    (refine B8 rfl rfl (fun _ => rfl) ?_; intro g2)
    refine A4 rfl rfl rfl ?_
    refine A5 ⟨nofun, _, kS [2,3] [2] rfl, ?_⟩
    refine B3 <| D8 (G9 rfl rfl (by simp) (by rfl) (E4 rfl rfl (F3 C6))) ?_
    have hno : rdI (ps.getD i default) = none := by exact a7j (m := -a) hdU (by (rw [hng, if_pos rfl]; omega)) (by exact .inl (by rw [hup]; assumption))
    rw [rdL, ← hps, K2 (show i < ps.length by omega) hno]
    rfl
   try simp only [SG, List.length_map] at hc
   obtain ⟨hng, hup⟩ := d2a (p := (ps.getD i default)) (by exact .inr (by omega))
   have hul := b6n (ps.getD i default)
   rw [hup] at hul
   refine B7 <| A3 <| A0 <| A4 rfl rfl rfl ?_
   refine A5 ⟨nofun, _, kS [4,5,6,7,8,9] [4,5] rfl, ?_⟩
   refine A3 <| A3 <| A0 <| A4 rfl rfl rfl ?_
   refine A5 ⟨nofun, _, kS [4,5,6,7,8,9,10] [4,5] rfl, ?_⟩
   refine E3 ?_
   have hup0 := hup
   refine L1 (β := Nat × Int) [(.t 4, _), (.t 5, _), (.t 6, _), (.t 7, _), (.t 8, _), (.h 4, _), (.h 5, _)] (fun (z : Nat × Int) => match z with | (k, a) => [(.t 10, iV k), (.t 9, iV a)]) (fun (z : Nat × Int) => match z with | (k, a) => k ≤ (unS (ps.getD i default)).length ∧ 0 ≤ a ∧ U6 0 ((unS (ps.getD i default)).take k) = some a.toNat) (fun (z : Nat × Int) => match z with | (k, a) => (unS (ps.getD i default)).length - k) (0, 0) ⟨rfl, rfl, rfl, rfl, rfl, rfl, rfl, rfl, rfl, trivial⟩ ⟨Nat.zero_le _, by decide, rfl⟩ ?_
   intro z hb
   obtain ⟨k, a⟩ := z
   try dsimp only at hb
   obtain ⟨hk1, ha0, hdg⟩ := hb
   have hab := a9y (by decide) hdg
   rw [hup] at hk1 hdg
   refine A3 <| A3 <| A0 <| A6 rfl rfl <| A6 rfl rfl <| Z1 rfl rfl <| K7 rfl rfl ?_
   refine A5 ⟨nofun, _, kS [4,5,6,7,8,9,10,37] [4,5] rfl, ?_⟩
   refine A8 rfl (fun hc => ?_) (fun hc => ?_)
   ·try simp only [SG, List.length_map] at hc
    refine B7 <| A3 <| E3 <| A3 <| A3 <| A0 <| A6 rfl rfl <| A6 rfl rfl <| N1 rfl rfl rfl (by omega) <| K7 rfl rfl <| A6 rfl rfl ?_
    refine D9 rfl rfl (fun hg0 => ?_) (fun hg0 => ?_)
    ·have hg := hg0; try simp only [SG] at hg
     refine A6 rfl rfl <| gT rfl rfl <| A6 rfl rfl <| gT rfl rfl <| N1 rfl rfl rfl (by omega) <| gT rfl rfl <| Y1 rfl rfl <| G6 rfl (by assumption) rfl rfl <| A6 rfl rfl ?_
     refine D9 rfl rfl (fun hg0 => ?_) (fun hg0 => ?_)
     ·have hg := hg0; try simp only [SG] at hg
      refine A6 rfl rfl <| gT rfl rfl <| Y1 rfl rfl <| G6 rfl (by assumption) rfl rfl ?_
      refine A5 ⟨nofun, _, kS [4,5,6,7,8,9,10,53] [4,5] rfl, ?_⟩
      refine A8 rfl (fun hc => ?_) (fun hc => ?_)
      ·try simp only [SG, List.length_map] at hc
       refine A3 <| A0 ?_
       (refine B8 rfl rfl (fun _ => rfl) ?_; intro g2)
       refine A4 rfl rfl rfl ?_
       refine A5 ⟨nofun, _, kS [2,3] [2] rfl, ?_⟩
       refine B3 <| D8 (G9 rfl rfl (by simp) (by rfl) (E4 rfl rfl (F3 C6))) ?_
       rw [rdL, ← hps, K2 (show i < ps.length by omega) (V4 (by rw [hup]; exact R9 (by omega) hdg (by omega)))]
       rfl
      try simp only [SG, List.length_map] at hc
      refine B7 <| A0 <| A6 rfl rfl <| a8m rfl rfl (F7 (by omega)) <| A6 rfl rfl <| A6 rfl rfl <| N1 rfl rfl rfl (by omega) <| a0h rfl rfl (d2h (by omega)) <| a8a rfl rfl rfl (F7 (by omega)) <| K3 rfl rfl (F7 (by omega)) <| A4 rfl rfl rfl ?_
      refine A5 ⟨nofun, _, kS [4,5,6,7,8,9,10] [4,5] rfl, ?_⟩
      refine A0 <| A6 rfl rfl <| K3 rfl rfl (F7 (by omega)) <| A4 rfl rfl rfl ?_
      refine A5 ⟨nofun, _, kS [4,5,6,7,8,9,10] [4,5] rfl, ?_⟩
      refine ⟨(k + 1, _), ?_, (by simp only [hup]; omega), ⟨rfl, rfl, rfl, rfl, rfl, rfl, rfl, rfl, rfl, trivial⟩⟩
      rw [hup]
      have hds := a7l (by omega) hdg (by omega)
      exact ⟨by omega, by omega, hds.trans (congrArg some (by omega))⟩
     have hg := hg0; try simp only [SG] at hg
     refine gF rfl rfl <| G1 rfl (by assumption) rfl rfl ?_
     refine A5 ⟨nofun, _, kS [4,5,6,7,8,9,10,53] [4,5] rfl, ?_⟩
     refine A8 rfl (fun hc => ?_) (fun hc => absurd hc (by decide))
     refine A3 <| A0 ?_
     (refine B8 rfl rfl (fun _ => rfl) ?_; intro g2)
     refine A4 rfl rfl rfl ?_
     refine A5 ⟨nofun, _, kS [2,3] [2] rfl, ?_⟩
     refine B3 <| D8 (G9 rfl rfl (by simp) (by rfl) (E4 rfl rfl (F3 C6))) ?_
     rw [rdL, ← hps, K2 (show i < ps.length by omega) (V4 (by rw [hup]; exact R9 (by omega) hdg (by omega)))]
     rfl
    have hg := hg0; try simp only [SG] at hg
    refine gF rfl rfl <| gF rfl rfl <| gF rfl rfl <| G1 rfl (by assumption) rfl rfl <| A6 rfl rfl <| H5 rfl rfl rfl <| H5 rfl rfl rfl <| G1 rfl rfl rfl rfl ?_
    refine A5 ⟨nofun, _, kS [4,5,6,7,8,9,10,53] [4,5] rfl, ?_⟩
    refine A8 rfl (fun hc => ?_) (fun hc => absurd hc (by decide))
    refine A3 <| A0 ?_
    (refine B8 rfl rfl (fun _ => rfl) ?_; intro g2)
    refine A4 rfl rfl rfl ?_
    refine A5 ⟨nofun, _, kS [2,3] [2] rfl, ?_⟩
    refine B3 <| D8 (G9 rfl rfl (by simp) (by rfl) (E4 rfl rfl (F3 C6))) ?_
    rw [rdL, ← hps, K2 (show i < ps.length by omega) (V4 (by rw [hup]; exact R9 (by omega) hdg (by omega)))]
    rfl
   try simp only [SG, List.length_map] at hc
   have hdU : U6 0 (unS (ps.getD i default)) = some a.toNat := by rw [hup]; rw [List.take_of_length_le (by omega)] at hdg; exact hdg
   refine J3 <| A3 <| A3 <| A0 <| A6 rfl rfl ?_
   refine A5 ⟨nofun, _, kS [4,5,6,7,9,62] [4,5] rfl, ?_⟩
   refine A8 rfl (fun hc => absurd hc (by simp_all)) (fun hc => ?_)
   refine B7 <| A3 <| A3 <| A0 <| A6 rfl rfl <| a5z rfl rfl <| A6 rfl rfl ?_
   refine D9 rfl rfl (fun hg0 => ?_) (fun hg0 => ?_)
   ·have hg := hg0; try simp only [SG] at hg
    refine A6 rfl rfl <| gT rfl rfl ?_
    have hdl1 := T9 (m := -a) (by omega)
    have hdl2 := T9 (m := a) (by omega)
    apply C4 rfl
    ·apply A9
     ·exact B5 rfl
     exact C3
    ·exact a3n a (by omega)
    ·exact ⟨rfl, rfl, rfl, of_decide_eq_true rfl, rfl⟩
    ·exact .inl rfl
    ·exact B1
    ·exact C0 rfl
    ·exact fun _ => rfl
    intro g69
    refine gT rfl rfl <| A6 rfl rfl <| gT rfl rfl <| A6 rfl rfl <| gT rfl rfl <| X9 rfl rfl rfl rfl (by omega) (by (simp; done)) rfl <| gT rfl rfl <| U2 rfl rfl (by omega) (fun _ => rfl) (fun _ => rfl) rfl <| gT rfl rfl <| b2n rfl rfl <| G6 rfl (by assumption) rfl rfl ?_
    refine A5 ⟨fun _ => ⟨by (simp only [a2p, List.nil_append, List.append_nil, List.map_cons, List.map_nil, List.cons_append]; decide +kernel), by decide +kernel⟩, [(.t 4, _), (.t 5, _), (.t 6, _), (.t 9, _), (.t 75, _), (.h 4, _), (.h 5, _)], ⟨rfl, rfl, rfl, rfl, rfl, rfl, rfl, rfl, rfl, rfl, rfl, rfl, rfl, rfl, trivial⟩, ?_⟩
    refine A8 rfl (fun hc => ?_) (fun hc => ?_)
    ·try simp only [SG, List.length_map] at hc
     refine A3 <| A0 ?_
     (refine B8 rfl rfl (fun _ => rfl) ?_; intro g2)
     refine A4 rfl rfl rfl ?_
     refine A5 ⟨nofun, _, kS [2,3] [2] rfl, ?_⟩
     refine B3 <| D8 (G9 rfl rfl (by simp) (by rfl) (E4 rfl rfl (F3 C6))) ?_
     have hno : rdI (ps.getD i default) = none := by exact a7j (m := a) hdU (by (rw [hng, if_neg (by decide)]; omega)) (by exact .inr (by assumption))
     rw [rdL, ← hps, K2 (show i < ps.length by omega) hno]
     rfl
    try simp only [SG, List.length_map] at hc
    have hri := c2t (m := a) hdU (by (rw [hng, if_neg (by decide)]; omega)) (by rw [hup]; assumption) (by assumption)
    refine B7 <| A0 <| A6 rfl rfl <| A6 rfl rfl <| D3 (es := List.map iV [_]) rfl rfl (of_decide_eq_true rfl) rfl rfl (fun _ => B2 (B0 fun _ => rfl)) (fun _ => rfl) ?_
    intro g78
    refine G8 rfl rfl rfl rfl (by (simp; done)) (by simp) (by decide) rfl rfl rfl rfl (of_decide_eq_true rfl) (fun _ => ⟨rfl, rfl⟩) (by simp only [G7]; (simp only [List.length_nil, List.length_cons, List.length_append, Nat.zero_add, List.length_map]; omega)) (fun _ => rfl) ?_
    intro g79
    (refine B9 rfl rfl (by (simp; done)) rfl (fun _ => (B2 (by exact B0 fun _ => rfl))) (fun _ => rfl) ?_; intro g4)
    refine A5 ⟨nofun, _, kS [4,5,6] [4,5] rfl, ?_⟩
    refine A0 <| A6 rfl rfl <| K3 rfl rfl (F7 (by omega)) <| A4 rfl rfl rfl ?_
    refine A5 ⟨nofun, _, kS [4,5,6] [4,5] rfl, ?_⟩
    refine ⟨(i + 1, ns ++ [a], _), ?_, (by simp only; omega), ⟨rfl, rfl, rfl, rfl, rfl, trivial⟩⟩
    exact ⟨by omega, a7r (by omega) hrd hri⟩
   have hg := hg0; try simp only [SG] at hg
   refine gF rfl rfl <| gF rfl rfl <| gF rfl rfl <| gF rfl rfl <| gF rfl rfl <| gF rfl rfl <| G1 rfl (by assumption) rfl rfl ?_
   refine A5 ⟨fun _ => ⟨by decide +kernel, by decide +kernel⟩, [(.t 4, _), (.t 5, _), (.t 6, _), (.t 9, _), (.t 75, _), (.h 4, _), (.h 5, _)], ⟨rfl, rfl, rfl, rfl, rfl, rfl, rfl, rfl, rfl, rfl, rfl, rfl, rfl, rfl, trivial⟩, ?_⟩
   refine A8 rfl (fun hc => ?_) (fun hc => absurd hc (by decide))
   refine A3 <| A0 ?_
   (refine B8 rfl rfl (fun _ => rfl) ?_; intro g2)
   refine A4 rfl rfl rfl ?_
   refine A5 ⟨nofun, _, kS [2,3] [2] rfl, ?_⟩
   refine B3 <| D8 (G9 rfl rfl (by simp) (by rfl) (E4 rfl rfl (F3 C6))) ?_
   have hno : rdI (ps.getD i default) = none := by exact a7j (m := a) hdU (by (rw [hng, if_neg (by decide)]; omega)) (by exact .inl (by rw [hup]; assumption))
   rw [rdL, ← hps, K2 (show i < ps.length by omega) hno]
   rfl
  have hg := hg0; try simp only [SG] at hg
  refine gF rfl rfl <| gF rfl rfl <| G6 rfl (by assumption) rfl rfl <| A4 rfl rfl rfl ?_
  refine A5 ⟨nofun, _, kS [4,5,6,7,8] [4,5] rfl, ?_⟩
  refine A3 <| A3 <| A0 <| A6 rfl rfl ?_
  refine A5 ⟨nofun, _, kS [4,5,6,7,8,31] [4,5] rfl, ?_⟩
  refine A8 rfl (fun hc => absurd hc (by decide)) (fun hc => ?_)
  refine B7 <| A3 <| A0 <| A4 rfl rfl rfl ?_
  refine A5 ⟨nofun, _, kS [4,5,6,7,8,9] [4,5] rfl, ?_⟩
  refine A3 <| A3 <| A0 <| A4 rfl rfl rfl ?_
  refine A5 ⟨nofun, _, kS [4,5,6,7,8,9,10] [4,5] rfl, ?_⟩
  refine E3 ?_
  (obtain ⟨hng, hup⟩ := d2a (p := (ps.getD i default)) (.inl (by assumption)); have hul := b6n (ps.getD i default); rw [hup] at hul)
  refine L1 (β := Nat × Int) [(.t 4, _), (.t 5, _), (.t 6, _), (.t 7, _), (.t 8, _), (.h 4, _), (.h 5, _)] (fun (z : Nat × Int) => match z with | (k, a) => [(.t 10, iV k), (.t 9, iV a)]) (fun (z : Nat × Int) => match z with | (k, a) => k ≤ (unS (ps.getD i default)).length ∧ 0 ≤ a ∧ U6 0 ((unS (ps.getD i default)).take k) = some a.toNat) (fun (z : Nat × Int) => match z with | (k, a) => (unS (ps.getD i default)).length - k) (0, 0) ⟨rfl, rfl, rfl, rfl, rfl, rfl, rfl, rfl, rfl, trivial⟩ ⟨Nat.zero_le _, by decide, rfl⟩ ?_
  intro z hb
  obtain ⟨k, a⟩ := z
  try dsimp only at hb
  obtain ⟨hk1, ha0, hdg⟩ := hb
  have hab := a9y (by decide) hdg
  rw [hup] at hk1 hdg
  refine A3 <| A3 <| A0 <| A6 rfl rfl <| A6 rfl rfl <| Z1 rfl rfl <| K7 rfl rfl ?_
  refine A5 ⟨nofun, _, kS [4,5,6,7,8,9,10,37] [4,5] rfl, ?_⟩
  refine A8 rfl (fun hc => ?_) (fun hc => ?_)
  ·try simp only [SG, List.length_map] at hc
   refine B7 <| A3 <| E3 <| A3 <| A3 <| A0 <| A6 rfl rfl <| A6 rfl rfl <| N1 rfl rfl rfl (by omega) <| K7 rfl rfl <| A6 rfl rfl ?_
   refine D9 rfl rfl (fun hg0 => ?_) (fun hg0 => ?_)
   ·have hg := hg0; try simp only [SG] at hg
    refine A6 rfl rfl <| gT rfl rfl <| A6 rfl rfl <| gT rfl rfl <| N1 rfl rfl rfl (by omega) <| gT rfl rfl <| Y1 rfl rfl <| G6 rfl (by assumption) rfl rfl <| A6 rfl rfl ?_
    refine D9 rfl rfl (fun hg0 => ?_) (fun hg0 => ?_)
    ·have hg := hg0; try simp only [SG] at hg
     refine A6 rfl rfl <| gT rfl rfl <| Y1 rfl rfl <| G6 rfl (by assumption) rfl rfl ?_
     refine A5 ⟨nofun, _, kS [4,5,6,7,8,9,10,53] [4,5] rfl, ?_⟩
     refine A8 rfl (fun hc => ?_) (fun hc => ?_)
     ·try simp only [SG, List.length_map] at hc
      refine A3 <| A0 ?_
      (refine B8 rfl rfl (fun _ => rfl) ?_; intro g2)
      refine A4 rfl rfl rfl ?_
      refine A5 ⟨nofun, _, kS [2,3] [2] rfl, ?_⟩
      refine B3 <| D8 (G9 rfl rfl (by simp) (by rfl) (E4 rfl rfl (F3 C6))) ?_
      rw [rdL, ← hps, K2 (show i < ps.length by omega) (V4 (by rw [hup]; exact R9 (by omega) hdg (by omega)))]
      rfl
     try simp only [SG, List.length_map] at hc
     refine B7 <| A0 <| A6 rfl rfl <| a8m rfl rfl (F7 (by omega)) <| A6 rfl rfl <| A6 rfl rfl <| N1 rfl rfl rfl (by omega) <| a0h rfl rfl (d2h (by omega)) <| a8a rfl rfl rfl (F7 (by omega)) <| K3 rfl rfl (F7 (by omega)) <| A4 rfl rfl rfl ?_
     refine A5 ⟨nofun, _, kS [4,5,6,7,8,9,10] [4,5] rfl, ?_⟩
     refine A0 <| A6 rfl rfl <| K3 rfl rfl (F7 (by omega)) <| A4 rfl rfl rfl ?_
     refine A5 ⟨nofun, _, kS [4,5,6,7,8,9,10] [4,5] rfl, ?_⟩
     refine ⟨(k + 1, _), ?_, (by simp only [hup]; omega), ⟨rfl, rfl, rfl, rfl, rfl, rfl, rfl, rfl, rfl, trivial⟩⟩
     rw [hup]
     have hds := a7l (by omega) hdg (by omega)
     exact ⟨by omega, by omega, hds.trans (congrArg some (by omega))⟩
    have hg := hg0; try simp only [SG] at hg
    refine gF rfl rfl <| G1 rfl (by assumption) rfl rfl ?_
    refine A5 ⟨nofun, _, kS [4,5,6,7,8,9,10,53] [4,5] rfl, ?_⟩
    refine A8 rfl (fun hc => ?_) (fun hc => absurd hc (by decide))
    refine A3 <| A0 ?_
    (refine B8 rfl rfl (fun _ => rfl) ?_; intro g2)
    refine A4 rfl rfl rfl ?_
    refine A5 ⟨nofun, _, kS [2,3] [2] rfl, ?_⟩
    refine B3 <| D8 (G9 rfl rfl (by simp) (by rfl) (E4 rfl rfl (F3 C6))) ?_
    rw [rdL, ← hps, K2 (show i < ps.length by omega) (V4 (by rw [hup]; exact R9 (by omega) hdg (by omega)))]
    rfl
   have hg := hg0; try simp only [SG] at hg
   refine gF rfl rfl <| gF rfl rfl <| gF rfl rfl <| G1 rfl (by assumption) rfl rfl <| A6 rfl rfl <| H5 rfl rfl rfl <| H5 rfl rfl rfl <| G1 rfl rfl rfl rfl ?_
   refine A5 ⟨nofun, _, kS [4,5,6,7,8,9,10,53] [4,5] rfl, ?_⟩
   refine A8 rfl (fun hc => ?_) (fun hc => absurd hc (by decide))
   refine A3 <| A0 ?_
   (refine B8 rfl rfl (fun _ => rfl) ?_; intro g2)
   refine A4 rfl rfl rfl ?_
   refine A5 ⟨nofun, _, kS [2,3] [2] rfl, ?_⟩
   refine B3 <| D8 (G9 rfl rfl (by simp) (by rfl) (E4 rfl rfl (F3 C6))) ?_
   rw [rdL, ← hps, K2 (show i < ps.length by omega) (V4 (by rw [hup]; exact R9 (by omega) hdg (by omega)))]
   rfl
  try simp only [SG, List.length_map] at hc
  have hdU : U6 0 (unS (ps.getD i default)) = some a.toNat := by rw [hup]; rw [List.take_of_length_le (by omega)] at hdg; exact hdg
  refine J3 <| A3 <| A3 <| A0 <| A6 rfl rfl ?_
  refine A5 ⟨nofun, _, kS [4,5,6,7,9,62] [4,5] rfl, ?_⟩
  refine A8 rfl (fun hc => absurd hc (by decide)) (fun hc => ?_)
  refine B7 <| A3 <| A3 <| A0 <| A6 rfl rfl <| a5z rfl rfl <| A6 rfl rfl ?_
  refine D9 rfl rfl (fun hg0 => ?_) (fun hg0 => ?_)
  ·have hg := hg0; try simp only [SG] at hg
   refine A6 rfl rfl <| gT rfl rfl ?_
   have hdl1 := T9 (m := -a) (by omega)
   have hdl2 := T9 (m := a) (by omega)
   apply C4 rfl
   ·apply A9
    ·exact B5 rfl
    exact C3
   ·exact a3n a (by omega)
   ·exact ⟨rfl, rfl, rfl, of_decide_eq_true rfl, rfl⟩
   ·exact .inl rfl
   ·exact B1
   ·exact C0 rfl
   ·exact fun _ => rfl
   intro g69
   refine gT rfl rfl <| A6 rfl rfl <| gT rfl rfl <| A6 rfl rfl <| gT rfl rfl <| X9 rfl rfl rfl rfl (by omega) (by (simp; done)) rfl <| gT rfl rfl <| U2 rfl rfl (by omega) (fun _ => rfl) (fun _ => rfl) rfl <| gT rfl rfl <| b2n rfl rfl <| G6 rfl (by assumption) rfl rfl ?_
   refine A5 ⟨fun _ => ⟨by (simp only [a2p, List.nil_append, List.append_nil, List.map_cons, List.map_nil, List.cons_append]; decide +kernel), by decide +kernel⟩, [(.t 4, _), (.t 5, _), (.t 6, _), (.t 9, _), (.t 75, _), (.h 4, _), (.h 5, _)], ⟨rfl, rfl, rfl, rfl, rfl, rfl, rfl, rfl, rfl, rfl, rfl, rfl, rfl, rfl, trivial⟩, ?_⟩
   refine A8 rfl (fun hc => ?_) (fun hc => ?_)
   ·try simp only [SG, List.length_map] at hc
    refine A3 <| A0 ?_
    (refine B8 rfl rfl (fun _ => rfl) ?_; intro g2)
    refine A4 rfl rfl rfl ?_
    refine A5 ⟨nofun, _, kS [2,3] [2] rfl, ?_⟩
    refine B3 <| D8 (G9 rfl rfl (by simp) (by rfl) (E4 rfl rfl (F3 C6))) ?_
    have hno : rdI (ps.getD i default) = none := by exact a7j (m := a) hdU (by (rw [hng, if_neg (by decide)]; omega)) (by exact .inl (by rw [hup]; assumption))
    rw [rdL, ← hps, K2 (show i < ps.length by omega) hno]
    rfl
   try simp only [SG, List.length_map] at hc
   have hri := c2t (m := a) hdU (by (rw [hng, if_neg (by decide)]; omega)) (by rw [hup]; assumption) (by assumption)
   refine B7 <| A0 <| A6 rfl rfl <| A6 rfl rfl <| D3 (es := List.map iV [_]) rfl rfl (of_decide_eq_true rfl) rfl rfl (fun _ => B2 (B0 fun _ => rfl)) (fun _ => rfl) ?_
   intro g78
   refine G8 rfl rfl rfl rfl (by (simp; done)) (by simp) (by decide) rfl rfl rfl rfl (of_decide_eq_true rfl) (fun _ => ⟨rfl, rfl⟩) (by simp only [G7]; (simp only [List.length_nil, List.length_cons, List.length_append, Nat.zero_add, List.length_map]; omega)) (fun _ => rfl) ?_
   intro g79
   (refine B9 rfl rfl (by (simp; done)) rfl (fun _ => (B2 (by exact B0 fun _ => rfl))) (fun _ => rfl) ?_; intro g4)
   refine A5 ⟨nofun, _, kS [4,5,6] [4,5] rfl, ?_⟩
   refine A0 <| A6 rfl rfl <| K3 rfl rfl (F7 (by omega)) <| A4 rfl rfl rfl ?_
   refine A5 ⟨nofun, _, kS [4,5,6] [4,5] rfl, ?_⟩
   refine ⟨(i + 1, ns ++ [a], _), ?_, (by simp only; omega), ⟨rfl, rfl, rfl, rfl, rfl, trivial⟩⟩
   exact ⟨by omega, a7r (by omega) hrd hri⟩
  have hg := hg0; try simp only [SG] at hg
  refine gF rfl rfl <| gF rfl rfl <| gF rfl rfl <| gF rfl rfl <| gF rfl rfl <| gF rfl rfl <| G1 rfl (by assumption) rfl rfl ?_
  refine A5 ⟨fun _ => ⟨by decide +kernel, by decide +kernel⟩, [(.t 4, _), (.t 5, _), (.t 6, _), (.t 9, _), (.t 75, _), (.h 4, _), (.h 5, _)], ⟨rfl, rfl, rfl, rfl, rfl, rfl, rfl, rfl, rfl, rfl, rfl, rfl, rfl, rfl, trivial⟩, ?_⟩
  refine A8 rfl (fun hc => ?_) (fun hc => absurd hc (by decide))
  refine A3 <| A0 ?_
  (refine B8 rfl rfl (fun _ => rfl) ?_; intro g2)
  refine A4 rfl rfl rfl ?_
  refine A5 ⟨nofun, _, kS [2,3] [2] rfl, ?_⟩
  refine B3 <| D8 (G9 rfl rfl (by simp) (by rfl) (E4 rfl rfl (F3 C6))) ?_
  have hno : rdI (ps.getD i default) = none := by exact a7j (m := a) hdU (by (rw [hng, if_neg (by decide)]; omega)) (by exact .inl (by rw [hup]; assumption))
  rw [rdL, ← hps, K2 (show i < ps.length by omega) hno]
  rfl
 try simp only [SG, List.length_map] at hc
 refine J3 <| A3 <| A0 <| A6 rfl rfl ?_
 (refine B9 rfl rfl (by (simp; done)) rfl (fun _ => (B2 (by exact B0 fun _ => rfl))) (fun _ => rfl) ?_; intro g2)
 refine A4 rfl rfl rfl ?_
 refine A5 ⟨nofun, _, kS [2,3] [2] rfl, ?_⟩
 refine B3 <| D8 (G9 rfl rfl (by simp) (by exact B0 fun _ => rfl) (E4 rfl rfl (F3 C6))) ?_
 have hil : i = ps.length := by omega
 rw [hil, List.take_length] at hrd
 rw [rdL, ← hps, hrd]
 rfl

theorem keep_s_readNums : F9 Tryz.f66 = [0, 2, 3, 4, 22, 24, 5, 6] := by kernel_rfl
set_option maxHeartbeats 20000000 in
theorem c1i (s : List UInt8) (hs : s.length ≤ 1048576) : CW (cxT oG) 66 [tV s] = some (.tup [.own 1 ((b8r s).map iV), bV (numsOf s).isSome], []) := by
 refine G4 rfl Tryz.func66 rfl ⟨by kernel_rfl, rfl, of_decide_eq_true rfl, of_decide_eq_true rfl, by decide⟩ keep_s_readNums <| A3 <| A0 ?_
 (refine B8 rfl rfl (fun _ => rfl) ?_; intro g2)
 refine A4 rfl rfl rfl ?_
 refine A5 ⟨nofun, _, kS [0] [] rfl, ?_⟩
 refine A3 <| A0 <| A6 rfl rfl <| Z1 rfl rfl <| A4 rfl rfl rfl ?_
 refine A5 ⟨nofun, _, kS [0,4] [] rfl, ?_⟩
 refine A3 <| A3 <| A0 <| A6 rfl rfl <| K7 rfl rfl <| A6 rfl rfl ?_
 refine D9 rfl rfl (fun hg0 => ?_) (fun hg0 => ?_)
 ·have hg := hg0; try simp only [SG] at hg
  refine A6 rfl rfl <| gT rfl rfl <| N1 (n := 0) rfl rfl rfl (by omega) <| gT rfl rfl <| c8a rfl rfl <| G6 rfl (by assumption) rfl rfl <| A6 rfl rfl ?_
  refine D9 rfl rfl (fun hg0 => ?_) (fun hg0 => ?_)
  ·have hg := hg0; try simp only [SG] at hg
   refine A6 rfl rfl <| gT rfl rfl <| A6 rfl rfl <| gT rfl rfl <| a0h rfl rfl (F7 (by omega)) <| gT rfl rfl ?_
   rw [show ((s.length : Int) - 1) = ((s.length - 1 : Nat) : Int) by omega]
   refine N1 rfl rfl rfl (by omega) <| gT rfl rfl <| c8a rfl rfl <| G6 rfl (by assumption) rfl rfl ?_
   refine A5 ⟨nofun, _, kS [0,4,22] [] rfl, ?_⟩
   refine A8 rfl (fun hc => ?_) (fun hc => ?_)
   ·try simp only [SG, List.length_map] at hc
    refine A3 <| A0 ?_
    (refine B8 rfl rfl (fun _ => rfl) ?_; intro g2)
    refine A4 rfl rfl rfl ?_
    refine A5 ⟨nofun, _, kS [2,3] [2] rfl, ?_⟩
    refine B3 <| D8 (G9 rfl rfl (by simp) (by rfl) (E4 rfl rfl (F3 C6))) ?_
    obtain ⟨hn1, hn2⟩ := a4i (s := s) (by exact .inr (.inr (by omega)))
    rw [hn1, hn2]
    rfl
   try simp only [SG, List.length_map] at hc
   have hin := c5h (s := s) (by omega) (by omega) (by omega)
   refine B7 <| A3 <| A3 <| A0 <| A6 rfl rfl <| S6 rfl rfl ?_
   refine A5 ⟨nofun, _, kS [0,4,24] [] rfl, ?_⟩
   refine A8 rfl (fun hc => ?_) (fun hc => ?_)
   ·try simp only [SG, List.length_map] at hc
    refine A3 <| A0 <| D3 (es := List.map iV []) rfl rfl (of_decide_eq_true rfl) rfl rfl (fun _ => B2 (B0 fun _ => rfl)) (fun _ => rfl) ?_
    intro g25
    (refine B9 rfl rfl (by (simp; done)) rfl (fun _ => (B2 (by exact B0 fun _ => rfl))) (fun _ => rfl) ?_; intro g2)
    refine A4 rfl rfl rfl ?_
    refine A5 ⟨nofun, _, kS [2,3] [2] rfl, ?_⟩
    refine B3 <| D8 (G9 rfl rfl (by simp) (by rfl) (E4 rfl rfl (F3 C6))) ?_
    obtain ⟨hn1, hn2⟩ := hin.1 (by omega)
    rw [hn1, hn2]
    rfl
   try simp only [SG, List.length_map] at hc
   refine B7 <| A3 <| A0 <| A6 rfl rfl <| A6 rfl rfl <| a0h rfl rfl (F7 (by omega)) ?_
   rw [show ((s.length : Int) - 1) = ((s.length - 1 : Nat) : Int) by omega]
   have hrl := d0s ((s.drop 1).take (s.length - 1 - 1))
   have hin2 : ((s.drop 1).take (s.length - 1 - 1)).length ≤ s.length - 2 := by simp only [List.length_take, List.length_drop]; omega
   refine Q2 rfl rfl (H1 rfl) (H1 (n := 1) rfl) (by omega) ?_
   apply C4 rfl
   ·apply A9
    ·exact B5 rfl
    exact C3
   ·exact c1s ((s.drop 1).take (s.length - 1 - 1)) (by omega)
   ·exact ⟨rfl, rfl, rfl, of_decide_eq_true rfl, rfl⟩
   ·exact .inr ⟨a1y _ _, rfl⟩
   ·exact B1
   ·exact J5 (T1 fun _ => J2 rfl S8)
   ·exact fun _ => rfl
   intro g31
   simp only [List.length_map]
   refine A6 rfl rfl <| B4 rfl rfl rfl <| B4 rfl rfl rfl ?_
   (refine B9 rfl rfl (by (simp; done)) rfl (fun _ => (B2 (by exact B0 fun _ => rfl))) (fun _ => rfl) ?_; intro g5)
   refine A4 rfl rfl rfl ?_
   refine A5 ⟨nofun, _, kS [5,6] [5] rfl, ?_⟩
   refine A3 <| A0 <| A6 rfl rfl <| A6 rfl rfl <| A6 rfl rfl ?_
   refine D9 rfl rfl (fun hg0 => ?_) (fun hg0 => ?_)
   ·have hg := hg0; try simp only [SG] at hg
    refine A6 rfl rfl <| gT rfl rfl ?_
    apply C4 rfl
    ·apply A9
     ·exact L7 rfl rfl rfl (by (simp; done)) (fun _ => rfl)
     exact C3
    ·exact b7z ((rdL ((s.drop 1).take (s.length - 1 - 1))).getD []) (by omega)
    ·exact ⟨rfl, rfl, rfl, of_decide_eq_true rfl, rfl⟩
    ·exact .inr ⟨rfl, rfl⟩
    ·exact B1
    ·exact C0 rfl
    ·exact fun _ => rfl
    intro g38
    refine G1 rfl (by assumption) rfl rfl ?_
    (refine B9 rfl rfl (by (simp; done)) rfl (fun _ => (B2 (by exact B0 fun _ => rfl))) (fun _ => rfl) ?_; intro g2)
    refine A4 rfl rfl rfl ?_
    refine A5 ⟨nofun, _, kS [2,3] [2] rfl, ?_⟩
    refine B3 <| D8 (G9 rfl rfl (by simp) (by exact B0 fun _ => rfl) (E4 rfl rfl (F3 C6))) ?_
    obtain ⟨hn1, hn2⟩ := hin.2 (by omega)
    rw [hn2, b0n hn1]
    simp_all
    try rfl
   have hg := hg0; try simp only [SG] at hg
   refine gF rfl rfl <| G6 rfl (by assumption) rfl rfl ?_
   (refine B9 rfl rfl (by (simp; done)) rfl (fun _ => (B2 (by exact B0 fun _ => rfl))) (fun _ => rfl) ?_; intro g2)
   refine A4 rfl rfl rfl ?_
   refine A5 ⟨nofun, _, kS [2,3] [2] rfl, ?_⟩
   refine B3 <| D8 (G9 rfl rfl (by simp) (by exact B0 fun _ => rfl) (E4 rfl rfl (F3 C6))) ?_
   obtain ⟨hn1, hn2⟩ := hin.2 (by omega)
   rw [hn2, b0n hn1]
   simp_all
   try rfl
  have hg := hg0; try simp only [SG] at hg
  refine gF rfl rfl <| gF rfl rfl <| gF rfl rfl <| gF rfl rfl <| G1 rfl (by assumption) rfl rfl ?_
  refine A5 ⟨nofun, _, kS [0,4,22] [] rfl, ?_⟩
  refine A8 rfl (fun hc => ?_) (fun hc => absurd hc (by decide))
  refine A3 <| A0 ?_
  (refine B8 rfl rfl (fun _ => rfl) ?_; intro g2)
  refine A4 rfl rfl rfl ?_
  refine A5 ⟨nofun, _, kS [2,3] [2] rfl, ?_⟩
  refine B3 <| D8 (G9 rfl rfl (by simp) (by rfl) (E4 rfl rfl (F3 C6))) ?_
  obtain ⟨hn1, hn2⟩ := a4i (s := s) (by exact .inr (.inl (by omega)))
  rw [hn1, hn2]
  rfl
 have hg := hg0; try simp only [SG] at hg
 refine gF rfl rfl <| gF rfl rfl <| G1 rfl (by assumption) rfl rfl <| A6 rfl rfl <| H5 rfl rfl rfl <| H5 rfl rfl rfl <| H5 rfl rfl rfl <| H5 rfl rfl rfl <| H5 rfl rfl rfl <| G1 rfl rfl rfl rfl ?_
 refine A5 ⟨nofun, _, kS [0,4,22] [] rfl, ?_⟩
 refine A8 rfl (fun hc => ?_) (fun hc => absurd hc (by decide))
 refine A3 <| A0 ?_
 (refine B8 rfl rfl (fun _ => rfl) ?_; intro g2)
 refine A4 rfl rfl rfl ?_
 refine A5 ⟨nofun, _, kS [2,3] [2] rfl, ?_⟩
 refine B3 <| D8 (G9 rfl rfl (by simp) (by rfl) (E4 rfl rfl (F3 C6))) ?_
 obtain ⟨hn1, hn2⟩ := a4i (s := s) (by exact .inl (by omega))
 rw [hn1, hn2]
 rfl

theorem keep_s_readTree : F9 Tryz.f51 = [0, 2, 3, 4, 15, 6, 24, 5, 7, 34, 43, 9, 12, 53, 8, 10, 11, 48, 59] := by kernel_rfl
set_option maxHeartbeats 20000000 in
theorem b1t (ws : List W8) (hws : ws.length ≤ 1048600 ∧ ∀ w ∈ ws, w.length ≤ 1048576) : CW (cxT oG) 51 [.list (ws.map tV)] = some (rtR (rdT ws), []) := by
 obtain ⟨kk, hkk⟩ : ∃ kk : Nat, ws.length < kk := ⟨_, Nat.lt_succ_self _⟩
 revert ws
 induction kk with
 | zero => intro ws hws hkk; exact absurd hkk (Nat.not_lt_zero _)
 | succ kk ih =>
  intro ws hws hkk
  refine G4 rfl Tryz.func51 rfl ⟨by kernel_rfl, rfl, of_decide_eq_true rfl, of_decide_eq_true rfl, by decide⟩ keep_s_readTree <| A3 <| A0 <| H7 rfl (fun _ => C1 rfl) (fun _ => rfl) ?_
  intro g2
  (refine B8 rfl rfl (fun _ => rfl) ?_; intro g3)
  refine A4 rfl rfl rfl ?_
  refine A5 ⟨nofun, _, kS [0,2] [2] rfl, ?_⟩
  refine A3 <| A3 <| A0 <| A6 rfl rfl <| H0 rfl rfl <| S6 rfl rfl ?_
  refine A5 ⟨nofun, _, kS [0,2,15] [2] rfl, ?_⟩
  refine A8 rfl (fun hc => ?_) (fun hc => ?_)
  ·try simp only [SG, List.length_map] at hc
   have hw0 : ws = [] := List.length_eq_zero_iff.1 (by simpa using hc)
   subst hw0
   refine A3 <| A0 <| K8 (fs := [_, _, _]) rfl rfl rfl rfl rfl <| C5 rfl rfl rfl rfl ⟨by decide, rfl, of_decide_eq_true rfl, of_decide_eq_true rfl, rfl⟩ rfl (by exact C1 rfl) ?_
   (refine B8 rfl rfl (fun _ => rfl) ?_; intro g3)
   refine A4 rfl rfl rfl ?_
   refine A5 ⟨nofun, _, kS [2,3,4] [2,3] rfl, ?_⟩
   refine B3 <| D8 (H2 rfl rfl rfl rfl (H3 rfl (H6 rfl (H6 rfl J9))) (G9 rfl rfl (by simp) (by rfl) (E4 rfl rfl (F3 C6)))) ?_
   rfl
  try simp only [SG, List.length_map] at hc
  obtain ⟨w, ws1, rfl⟩ : ∃ w ws1, ws = w :: ws1 := List.exists_cons_of_ne_nil (fun e => by subst e; simp at hc)
  have hw := hws.2 w (by simp)
  refine B7 <| A3 <| A0 <| A6 rfl rfl <| H9 rfl rfl rfl (fun _ => rfl) (by (change 0 < _; omega)) <| G5 rfl rfl rfl ?_
  apply C4 rfl
  ·apply A9
   ·exact B5 rfl
   exact C3
  ·exact c1i w (by omega)
  ·exact ⟨rfl, rfl, rfl, of_decide_eq_true rfl, rfl⟩
  ·exact .inr ⟨a1y _ _, rfl⟩
  ·exact B1
  ·exact J5 (T1 fun _ => J2 rfl S8)
  ·exact fun _ => rfl
  intro g21
  simp only [List.length_map]
  refine A6 rfl rfl <| B4 rfl rfl rfl <| B4 rfl rfl rfl ?_
  (refine B9 rfl rfl (by (simp; done)) rfl (fun _ => (B2 (by exact B0 fun _ => rfl))) (fun _ => rfl) ?_; intro g5)
  refine A4 rfl rfl rfl ?_
  refine A5 ⟨nofun, _, kS [0,2,5,6] [2,5] rfl, ?_⟩
  refine A3 <| A3 <| A0 <| A6 rfl rfl ?_
  refine A5 ⟨nofun, _, kS [0,2,5,24] [2,5] rfl, ?_⟩
  refine A8 rfl (fun hc => ?_) (fun hc => ?_)
  ·try simp only [SG, List.length_map] at hc
   obtain ⟨ns, hns⟩ := Option.isSome_iff_exists.1 hc
   have hraw := d0k hns
   refine A3 <| A0 <| A6 rfl rfl <| K8 (fs := [_, _, _]) rfl rfl rfl rfl rfl <| A6 rfl rfl <| L5 rfl rfl rfl (Mv.sized_map fun _ => rfl) H4 (H1 (n := 1) rfl) (by simp) ?_
   rw [show ((List.map tV (w :: ws1)).drop 1).take ((List.map tV (w :: ws1)).length - 1) = ws1.map tV from by rw [List.map_cons, List.drop_succ_cons, List.drop_zero, List.take_of_length_le (by simp)]]
   refine K5 rfl rfl rfl rfl (O1 rfl (a2l (by decide) (O1 rfl a0q))) (fun _ => rfl) ⟨by decide, rfl, of_decide_eq_true rfl, Nat.le_refl _⟩ (fun _ => rfl) (fun _ => rfl) (fun _ => (by rfl)) ?_
   intro z
   simp only [U4, List.cons_append, List.nil_append]
   refine A4 rfl rfl rfl <| A4 rfl rfl rfl ?_
   refine A5 ⟨fun _ => ⟨by (simp only [a2p, List.nil_append, List.append_nil, List.map_cons, List.map_nil, List.cons_append]; decide +kernel), by decide +kernel⟩, [(.t 2, _), (.t 3, _), (.t 4, _), (.h 2, _), (.h 5, _)], ⟨rfl, rfl, rfl, rfl, rfl, rfl, rfl, rfl, rfl, rfl, trivial⟩, ?_⟩
   refine B3 <| D8 (H2 rfl rfl rfl rfl (H3 rfl (a1z rfl rfl (by simp) (fun _ => rfl) (H6 rfl J9))) (E4 rfl rfl (E4 rfl rfl (F3 C6)))) ?_
   rw [b8t hns, hraw]
   rfl
  try simp only [SG, List.length_map] at hc
  have hnn : numsOf w = none := by simpa using hc
  refine B7 <| A3 <| A0 <| A6 rfl rfl <| H9 rfl rfl rfl (fun _ => rfl) (by (change 0 < _; omega)) <| G5 rfl rfl rfl ?_
  apply C4 rfl
  ·apply A9
   ·exact B5 rfl
   exact C3
  ·exact c4l (bA w)
  ·exact ⟨rfl, rfl, rfl, of_decide_eq_true rfl, rfl⟩
  ·exact .inl rfl
  ·exact B1
  ·exact C0 rfl
  ·exact fun _ => rfl
  intro g32
  refine A4 rfl rfl rfl ?_
  refine A5 ⟨nofun, _, kS [0,2,7] [2] rfl, ?_⟩
  refine A3 <| A3 <| A0 <| A6 rfl rfl <| K7 rfl rfl ?_
  refine A5 ⟨nofun, _, kS [0,2,7,34] [2] rfl, ?_⟩
  refine A8 rfl (fun hc => ?_) (fun hc => ?_)
  ·try simp only [SG, List.length_map] at hc
   refine A3 <| A0 <| K8 (fs := [_, _, _]) rfl rfl rfl rfl rfl <| C5 rfl rfl rfl rfl ⟨by decide, rfl, of_decide_eq_true rfl, of_decide_eq_true rfl, rfl⟩ rfl (by exact C1 rfl) ?_
   (refine B8 rfl rfl (fun _ => rfl) ?_; intro g3)
   refine A4 rfl rfl rfl ?_
   refine A5 ⟨nofun, _, kS [2,3,4] [2,3] rfl, ?_⟩
   refine B3 <| D8 (H2 rfl rfl rfl rfl (H3 rfl (H6 rfl (H6 rfl J9))) (G9 rfl rfl (by simp) (by rfl) (E4 rfl rfl (F3 C6)))) ?_
   rw [c3s hnn (by omega)]
   rfl
  try simp only [SG, List.length_map] at hc
  refine B7 <| A3 <| A0 <| A6 rfl rfl <| H9 rfl rfl rfl (fun _ => rfl) (by (change 0 < _; omega)) <| G5 rfl rfl rfl <| K8 (fs := [_, _, _]) rfl rfl rfl rfl rfl <| H7 rfl (fun _ => C1 rfl) (fun _ => rfl) ?_
  intro g8
  refine C5 rfl rfl rfl rfl ⟨by decide, rfl, of_decide_eq_true rfl, of_decide_eq_true rfl, rfl⟩ rfl (by exact C1 rfl) ?_
  refine A5 ⟨nofun, _, kS [0,2,7,8] [2,8] rfl, ?_⟩
  refine A3 <| A0 ?_
  rcases b3w (w := bA w) (by omega) with hn | hn | hn
  ·rw [hn]
   refine A6 rfl rfl <| L5 rfl rfl rfl (Mv.sized_map fun _ => rfl) H4 (H1 (n := 1) rfl) (by simp) ?_
   rw [show ((List.map tV (w :: ws1)).drop 1).take ((List.map tV (w :: ws1)).length - 1) = ws1.map tV from by rw [List.map_cons, List.drop_succ_cons, List.drop_zero, List.take_of_length_le (by simp)]]
   refine A4 rfl rfl rfl ?_
   refine A5 ⟨nofun, _, kS [2,7,8,9] [2,8] rfl, ?_⟩
   refine A3 <| E3 <| M0 <| A3 <| A3 <| A0 <| A6 rfl rfl <| Y1 rfl rfl ?_
   refine A5 ⟨nofun, _, kS [2,7,8,9,43] [2,8] rfl, ?_⟩
   refine A8 rfl (fun hc => absurd hc (by decide)) (fun hc => ?_)
   refine J3 <| A3 <| A0 <| F8 rfl rfl rfl rfl rfl <| A6 rfl rfl <| C5 rfl rfl rfl rfl ⟨by decide, rfl, of_decide_eq_true rfl, of_decide_eq_true rfl, rfl⟩ rfl (by exact C1 rfl) <| A4 rfl rfl rfl <| A4 rfl rfl rfl ?_
   refine A5 ⟨nofun, _, kS [2,3,4] [2] rfl, ?_⟩
   refine B3 <| D8 (H2 rfl rfl rfl rfl (H3 rfl (H6 rfl (H6 rfl J9))) (E4 rfl rfl (E4 rfl rfl (F3 C6)))) ?_
   rw [c4h hnn hn]
   rfl
  ·rw [hn]
   refine A6 rfl rfl <| L5 rfl rfl rfl (Mv.sized_map fun _ => rfl) H4 (H1 (n := 1) rfl) (by simp) ?_
   rw [show ((List.map tV (w :: ws1)).drop 1).take ((List.map tV (w :: ws1)).length - 1) = ws1.map tV from by rw [List.map_cons, List.drop_succ_cons, List.drop_zero, List.take_of_length_le (by simp)]]
   refine A4 rfl rfl rfl ?_
   refine A5 ⟨nofun, _, kS [2,7,8,9] [2,8] rfl, ?_⟩
   refine A3 <| E3 <| M0 <| A3 <| A3 <| A0 <| A6 rfl rfl <| Y1 rfl rfl ?_
   refine A5 ⟨nofun, _, kS [2,7,8,9,43] [2,8] rfl, ?_⟩
   refine A8 rfl (fun hc => ?_) (fun hc => absurd hc (by decide))
   refine B7 <| A3 <| E3 <| A3 <| A0 <| A6 rfl rfl ?_
   rcases hr1 : rdT ws1 with _ | ⟨k1, r1⟩
   ·skip
    apply C4 rfl
    ·apply A9
     ·exact B5 rfl
     exact C3
    ·exact (by have hi := ih ws1 ⟨by simp only [List.length_cons] at hws; omega, fun x hx => hws.2 x (List.mem_cons_of_mem _ hx)⟩ (by simp only [List.length_cons] at hkk; omega); rw [hr1] at hi; exact hi)
    ·exact ⟨rfl, rfl, rfl, of_decide_eq_true rfl, rfl⟩
    ·exact .inl rfl
    ·exact B1
    ·exact J5 (J2 rfl (T1 fun _ => J2 rfl S8))
    ·exact fun _ => D6 (B2 rfl) (by rfl)
    intro g48
    refine A6 rfl rfl <| B4 rfl rfl rfl <| B4 rfl rfl rfl <| B4 rfl rfl rfl <| H7 rfl (fun _ => C1 rfl) (fun _ => rfl) ?_
    intro g10
    refine C5 rfl rfl rfl rfl ⟨by decide, rfl, of_decide_eq_true rfl, of_decide_eq_true rfl, rfl⟩ rfl (by exact C1 rfl) ?_
    (refine B9 rfl rfl (by (simp; done)) rfl (fun _ => (B2 (by rfl))) (fun _ => rfl) ?_; intro g11)
    refine A4 rfl rfl rfl ?_
    refine A5 ⟨nofun, _, kS [2,7,8,10,11,12] [2,8,10] rfl, ?_⟩
    refine A3 <| A3 <| A0 <| A6 rfl rfl <| P1 rfl ?_
    refine A5 ⟨nofun, _, kS [2,7,8,10,11,53] [2,8,10] rfl, ?_⟩
    refine A8 rfl (fun hc => ?_) (fun hc => absurd hc (by decide))
    refine A3 <| A0 <| K8 (fs := [_, _, _]) rfl rfl rfl rfl rfl <| C5 rfl rfl rfl rfl ⟨by decide, rfl, of_decide_eq_true rfl, of_decide_eq_true rfl, rfl⟩ rfl (by exact C1 rfl) ?_
    (refine B8 rfl rfl (fun _ => rfl) ?_; intro g3)
    refine A4 rfl rfl rfl ?_
    refine A5 ⟨nofun, _, kS [2,3,4] [2,3] rfl, ?_⟩
    refine B3 <| D8 (H2 rfl rfl rfl rfl (H3 rfl (H6 rfl (H6 rfl J9))) (G9 rfl rfl (by simp) (by rfl) (E4 rfl rfl (F3 C6)))) ?_
    rw [b6m hnn hn, hr1]
    rfl
   skip
   apply C4 rfl
   ·apply A9
    ·exact B5 rfl
    exact C3
   ·exact (by have hi := ih ws1 ⟨by simp only [List.length_cons] at hws; omega, fun x hx => hws.2 x (List.mem_cons_of_mem _ hx)⟩ (by simp only [List.length_cons] at hkk; omega); rw [hr1] at hi; exact hi)
   ·exact ⟨rfl, rfl, rfl, of_decide_eq_true rfl, rfl⟩
   ·exact .inl rfl
   ·exact B1
   ·exact L2 rfl
   ·exact fun _ => rfl
   intro g48
   refine A6 rfl rfl <| B4 rfl rfl rfl <| B4 rfl rfl rfl <| B4 rfl rfl rfl <| H7 rfl (fun _ => C1 rfl) (fun _ => rfl) ?_
   intro g10
   refine C5 rfl rfl rfl rfl ⟨by decide, rfl, of_decide_eq_true rfl, of_decide_eq_true rfl, rfl⟩ rfl (by exact C1 rfl) <| A4 rfl rfl rfl <| A4 rfl rfl rfl ?_
   refine A5 ⟨nofun, _, kS [2,7,8,10,11,12] [2,8,10] rfl, ?_⟩
   refine A3 <| A3 <| A0 <| A6 rfl rfl <| P1 rfl ?_
   refine A5 ⟨nofun, _, kS [2,7,8,10,11,53] [2,8,10] rfl, ?_⟩
   refine A8 rfl (fun hc => absurd hc (by decide)) (fun hc => ?_)
   refine B7 <| A3 <| A0 <| D7 rfl rfl (of_decide_eq_true rfl) rfl rfl <| E9 rfl rfl rfl rfl rfl rfl <| F8 rfl rfl rfl rfl rfl <| a1b (es := List.map trV [_]) rfl rfl (of_decide_eq_true rfl) rfl rfl (fun _ => B2 (B0 fun _ => rfl)) (fun _ => rfl) ?_
   intro g58
   refine X1 rfl rfl rfl (by simp) (by decide) rfl rfl rfl (of_decide_eq_true rfl) (fun _ => ⟨rfl, rfl⟩) (by simp only [G7]; (simp only [List.length_nil, List.length_cons, List.length_append, Nat.zero_add, List.length_map]; omega)) (fun _ => rfl) ?_
   intro g59
   refine D7 rfl rfl (of_decide_eq_true rfl) rfl rfl <| R5 rfl rfl rfl rfl rfl (Nat.le_refl _) rfl ?_
   refine A5 ⟨nofun, _, kS [2,7,8,11] [2,8,1000059] rfl, ?_⟩
   refine A0 <| A6 rfl rfl <| A4 rfl rfl rfl ?_
   refine A5 ⟨nofun, _, kS [2,7,8,9] [2,8,1000059] rfl, ?_⟩
   refine A0 <| A6 rfl rfl <| a0h rfl rfl (F7 (by omega)) <| A4 rfl rfl rfl ?_
   refine A5 ⟨nofun, _, kS [2,7,8,9] [2,8,1000059] rfl, ?_⟩
   refine M0 <| A3 <| A3 <| A0 <| A6 rfl rfl <| Y1 rfl rfl ?_
   refine A5 ⟨nofun, _, kS [2,7,8,9,43] [2,8,1000059] rfl, ?_⟩
   refine A8 rfl (fun hc => absurd hc (by decide)) (fun hc => ?_)
   refine J3 <| A3 <| A0 <| F8 rfl rfl rfl rfl rfl <| A6 rfl rfl <| K5 rfl rfl rfl rfl (O1 rfl (O1 rfl (b0d (by decide) (by decide) rfl (by simp) fun _ => a0q))) (fun _ => rfl) ⟨by decide, rfl, of_decide_eq_true rfl, Nat.le_refl _⟩ (fun _ => rfl) (fun _ => rfl) (fun _ => D6 (by rfl) (D6 (B2 (B0 fun _ => rfl)) (by rfl))) ?_
   intro z
   simp only [U4, List.cons_append, List.nil_append]
   refine A4 rfl rfl rfl <| A4 rfl rfl rfl ?_
   refine A5 ⟨nofun, _, kS [2,3,4] [2,300002] rfl, ?_⟩
   refine B3 <| D8 (H2 rfl rfl rfl rfl (H3 rfl (H6 rfl (a1z rfl rfl (by simp) (fun _ => rfl) J9))) (E4 rfl rfl (E4 rfl rfl (F3 C6)))) ?_
   rw [b6m hnn hn, hr1]
   rfl
  rw [hn]
  refine A6 rfl rfl <| L5 rfl rfl rfl (Mv.sized_map fun _ => rfl) H4 (H1 (n := 1) rfl) (by simp) ?_
  rw [show ((List.map tV (w :: ws1)).drop 1).take ((List.map tV (w :: ws1)).length - 1) = ws1.map tV from by rw [List.map_cons, List.drop_succ_cons, List.drop_zero, List.take_of_length_le (by simp)]]
  refine A4 rfl rfl rfl ?_
  refine A5 ⟨nofun, _, kS [2,7,8,9] [2,8] rfl, ?_⟩
  refine A3 <| E3 <| M0 <| A3 <| A3 <| A0 <| A6 rfl rfl <| Y1 rfl rfl ?_
  refine A5 ⟨nofun, _, kS [2,7,8,9,43] [2,8] rfl, ?_⟩
  refine A8 rfl (fun hc => ?_) (fun hc => absurd hc (by decide))
  refine B7 <| A3 <| E3 <| A3 <| A0 <| A6 rfl rfl ?_
  rcases hr1 : rdT ws1 with _ | ⟨k1, r1⟩
  ·skip
   apply C4 rfl
   ·apply A9
    ·exact B5 rfl
    exact C3
   ·exact (by have hi := ih ws1 ⟨by simp only [List.length_cons] at hws; omega, fun x hx => hws.2 x (List.mem_cons_of_mem _ hx)⟩ (by simp only [List.length_cons] at hkk; omega); rw [hr1] at hi; exact hi)
   ·exact ⟨rfl, rfl, rfl, of_decide_eq_true rfl, rfl⟩
   ·exact .inl rfl
   ·exact B1
   ·exact J5 (J2 rfl (T1 fun _ => J2 rfl S8))
   ·exact fun _ => D6 (B2 rfl) (by rfl)
   intro g48
   refine A6 rfl rfl <| B4 rfl rfl rfl <| B4 rfl rfl rfl <| B4 rfl rfl rfl <| H7 rfl (fun _ => C1 rfl) (fun _ => rfl) ?_
   intro g10
   refine C5 rfl rfl rfl rfl ⟨by decide, rfl, of_decide_eq_true rfl, of_decide_eq_true rfl, rfl⟩ rfl (by exact C1 rfl) ?_
   (refine B9 rfl rfl (by (simp; done)) rfl (fun _ => (B2 (by rfl))) (fun _ => rfl) ?_; intro g11)
   refine A4 rfl rfl rfl ?_
   refine A5 ⟨nofun, _, kS [2,7,8,10,11,12] [2,8,10] rfl, ?_⟩
   refine A3 <| A3 <| A0 <| A6 rfl rfl <| P1 rfl ?_
   refine A5 ⟨nofun, _, kS [2,7,8,10,11,53] [2,8,10] rfl, ?_⟩
   refine A8 rfl (fun hc => ?_) (fun hc => absurd hc (by decide))
   refine A3 <| A0 <| K8 (fs := [_, _, _]) rfl rfl rfl rfl rfl <| C5 rfl rfl rfl rfl ⟨by decide, rfl, of_decide_eq_true rfl, of_decide_eq_true rfl, rfl⟩ rfl (by exact C1 rfl) ?_
   (refine B8 rfl rfl (fun _ => rfl) ?_; intro g3)
   refine A4 rfl rfl rfl ?_
   refine A5 ⟨nofun, _, kS [2,3,4] [2,3] rfl, ?_⟩
   refine B3 <| D8 (H2 rfl rfl rfl rfl (H3 rfl (H6 rfl (H6 rfl J9))) (G9 rfl rfl (by simp) (by rfl) (E4 rfl rfl (F3 C6)))) ?_
   rw [a4o hnn hn, hr1]
   rfl
  skip
  apply C4 rfl
  ·apply A9
   ·exact B5 rfl
   exact C3
  ·exact (by have hi := ih ws1 ⟨by simp only [List.length_cons] at hws; omega, fun x hx => hws.2 x (List.mem_cons_of_mem _ hx)⟩ (by simp only [List.length_cons] at hkk; omega); rw [hr1] at hi; exact hi)
  ·exact ⟨rfl, rfl, rfl, of_decide_eq_true rfl, rfl⟩
  ·exact .inl rfl
  ·exact B1
  ·exact L2 rfl
  ·exact fun _ => rfl
  intro g48
  refine A6 rfl rfl <| B4 rfl rfl rfl <| B4 rfl rfl rfl <| B4 rfl rfl rfl <| H7 rfl (fun _ => C1 rfl) (fun _ => rfl) ?_
  intro g10
  refine C5 rfl rfl rfl rfl ⟨by decide, rfl, of_decide_eq_true rfl, of_decide_eq_true rfl, rfl⟩ rfl (by exact C1 rfl) <| A4 rfl rfl rfl <| A4 rfl rfl rfl ?_
  refine A5 ⟨nofun, _, kS [2,7,8,10,11,12] [2,8,10] rfl, ?_⟩
  refine A3 <| A3 <| A0 <| A6 rfl rfl <| P1 rfl ?_
  refine A5 ⟨nofun, _, kS [2,7,8,10,11,53] [2,8,10] rfl, ?_⟩
  refine A8 rfl (fun hc => absurd hc (by decide)) (fun hc => ?_)
  refine B7 <| A3 <| A0 <| D7 rfl rfl (of_decide_eq_true rfl) rfl rfl <| E9 rfl rfl rfl rfl rfl rfl <| F8 rfl rfl rfl rfl rfl <| a1b (es := List.map trV [_]) rfl rfl (of_decide_eq_true rfl) rfl rfl (fun _ => B2 (B0 fun _ => rfl)) (fun _ => rfl) ?_
  intro g58
  refine X1 rfl rfl rfl (by simp) (by decide) rfl rfl rfl (of_decide_eq_true rfl) (fun _ => ⟨rfl, rfl⟩) (by simp only [G7]; (simp only [List.length_nil, List.length_cons, List.length_append, Nat.zero_add, List.length_map]; omega)) (fun _ => rfl) ?_
  intro g59
  refine D7 rfl rfl (of_decide_eq_true rfl) rfl rfl <| R5 rfl rfl rfl rfl rfl (Nat.le_refl _) rfl ?_
  refine A5 ⟨nofun, _, kS [2,7,8,11] [2,8,1000059] rfl, ?_⟩
  refine A0 <| A6 rfl rfl <| A4 rfl rfl rfl ?_
  refine A5 ⟨nofun, _, kS [2,7,8,9] [2,8,1000059] rfl, ?_⟩
  refine A0 <| A6 rfl rfl <| a0h rfl rfl (F7 (by omega)) <| A4 rfl rfl rfl ?_
  refine A5 ⟨nofun, _, kS [2,7,8,9] [2,8,1000059] rfl, ?_⟩
  refine M0 <| A3 <| A3 <| A0 <| A6 rfl rfl <| Y1 rfl rfl ?_
  refine A5 ⟨nofun, _, kS [2,7,8,9,43] [2,8,1000059] rfl, ?_⟩
  refine A8 rfl (fun hc => ?_) (fun hc => absurd hc (by decide))
  refine B7 <| A3 <| E3 <| A3 <| A0 <| A6 rfl rfl ?_
  rcases hr2 : rdT r1 with _ | ⟨k2, r2⟩
  ·skip
   apply C4 rfl
   ·apply A9
    ·exact B5 rfl
    exact C3
   ·exact (by have hi := ih r1 ⟨by have := Y4 hr1; simp only [List.length_cons] at hws; omega, fun x hx => hws.2 x (List.mem_cons_of_mem _ (b0f hr1 x hx))⟩ (by have := Y4 hr1; simp only [List.length_cons] at hkk; omega); rw [hr2] at hi; exact hi)
   ·exact ⟨rfl, rfl, rfl, of_decide_eq_true rfl, rfl⟩
   ·exact .inl rfl
   ·exact B1
   ·exact J5 (J2 rfl (T1 fun _ => J2 rfl S8))
   ·exact fun _ => D6 (B2 rfl) (by rfl)
   intro g48
   refine A6 rfl rfl <| B4 rfl rfl rfl <| B4 rfl rfl rfl <| B4 rfl rfl rfl <| H7 rfl (fun _ => C1 rfl) (fun _ => rfl) ?_
   intro g10
   refine C5 rfl rfl rfl rfl ⟨by decide, rfl, of_decide_eq_true rfl, of_decide_eq_true rfl, rfl⟩ rfl (by exact C1 rfl) ?_
   (refine B9 rfl rfl (by (simp; done)) rfl (fun _ => (B2 (by rfl))) (fun _ => rfl) ?_; intro g11)
   refine A4 rfl rfl rfl ?_
   refine A5 ⟨nofun, _, kS [2,7,8,10,11,12] [2,8,1000059,10] rfl, ?_⟩
   refine A3 <| A3 <| A0 <| A6 rfl rfl <| P1 rfl ?_
   refine A5 ⟨nofun, _, kS [2,7,8,10,11,53] [2,8,1000059,10] rfl, ?_⟩
   refine A8 rfl (fun hc => ?_) (fun hc => absurd hc (by decide))
   refine A3 <| A0 <| K8 (fs := [_, _, _]) rfl rfl rfl rfl rfl <| C5 rfl rfl rfl rfl ⟨by decide, rfl, of_decide_eq_true rfl, of_decide_eq_true rfl, rfl⟩ rfl (by exact C1 rfl) ?_
   (refine B8 rfl rfl (fun _ => rfl) ?_; intro g3)
   refine A4 rfl rfl rfl ?_
   refine A5 ⟨nofun, _, kS [2,3,4] [2,3] rfl, ?_⟩
   refine B3 <| D8 (H2 rfl rfl rfl rfl (H3 rfl (H6 rfl (H6 rfl J9))) (G9 rfl rfl (by simp) (by rfl) (E4 rfl rfl (F3 C6)))) ?_
   rw [a4o hnn hn, hr1, Option.bind_some, hr2]
   rfl
  skip
  apply C4 rfl
  ·apply A9
   ·exact B5 rfl
   exact C3
  ·exact (by have hi := ih r1 ⟨by have := Y4 hr1; simp only [List.length_cons] at hws; omega, fun x hx => hws.2 x (List.mem_cons_of_mem _ (b0f hr1 x hx))⟩ (by have := Y4 hr1; simp only [List.length_cons] at hkk; omega); rw [hr2] at hi; exact hi)
  ·exact ⟨rfl, rfl, rfl, of_decide_eq_true rfl, rfl⟩
  ·exact .inl rfl
  ·exact B1
  ·exact L2 rfl
  ·exact fun _ => rfl
  intro g48
  refine A6 rfl rfl <| B4 rfl rfl rfl <| B4 rfl rfl rfl <| B4 rfl rfl rfl <| H7 rfl (fun _ => C1 rfl) (fun _ => rfl) ?_
  intro g10
  refine C5 rfl rfl rfl rfl ⟨by decide, rfl, of_decide_eq_true rfl, of_decide_eq_true rfl, rfl⟩ rfl (by exact C1 rfl) <| A4 rfl rfl rfl <| A4 rfl rfl rfl ?_
  refine A5 ⟨nofun, _, kS [2,7,8,10,11,12] [2,8,1000059,10] rfl, ?_⟩
  refine A3 <| A3 <| A0 <| A6 rfl rfl <| P1 rfl ?_
  refine A5 ⟨nofun, _, kS [2,7,8,10,11,53] [2,8,1000059,10] rfl, ?_⟩
  refine A8 rfl (fun hc => absurd hc (by decide)) (fun hc => ?_)
  refine B7 <| A3 <| A0 <| D7 rfl rfl (of_decide_eq_true rfl) rfl rfl <| E9 rfl rfl rfl rfl rfl rfl <| F8 rfl rfl rfl rfl rfl <| a1b (es := List.map trV [_]) rfl rfl (of_decide_eq_true rfl) rfl rfl (fun _ => B2 (B0 fun _ => rfl)) (fun _ => rfl) ?_
  intro g58
  refine G8 rfl rfl rfl rfl (by (simp; done)) (by simp) (by decide) rfl rfl rfl rfl (of_decide_eq_true rfl) (fun _ => ⟨rfl, rfl⟩) (by simp only [G7]; (simp only [List.length_nil, List.length_cons, List.length_append, Nat.zero_add, List.length_map]; omega)) (fun _ => rfl) ?_
  intro g59
  refine D7 rfl rfl (of_decide_eq_true rfl) rfl rfl <| R5 rfl rfl rfl rfl rfl (Nat.le_refl _) rfl ?_
  refine A5 ⟨nofun, _, kS [2,7,8,11] [2,8,1000059] rfl, ?_⟩
  refine A0 <| A6 rfl rfl <| A4 rfl rfl rfl ?_
  refine A5 ⟨nofun, _, kS [2,7,8,9] [2,8,1000059] rfl, ?_⟩
  refine A0 <| A6 rfl rfl <| a0h rfl rfl (F7 (by omega)) <| A4 rfl rfl rfl ?_
  refine A5 ⟨nofun, _, kS [2,7,8,9] [2,8,1000059] rfl, ?_⟩
  refine M0 <| A3 <| A3 <| A0 <| A6 rfl rfl <| Y1 rfl rfl ?_
  refine A5 ⟨nofun, _, kS [2,7,8,9,43] [2,8,1000059] rfl, ?_⟩
  refine A8 rfl (fun hc => absurd hc (by decide)) (fun hc => ?_)
  refine J3 <| A3 <| A0 <| F8 rfl rfl rfl rfl rfl <| A6 rfl rfl <| K5 rfl rfl rfl rfl (O1 rfl (O1 rfl (b0d (by decide) (by decide) rfl (by simp) fun _ => a0q))) (fun _ => rfl) ⟨by decide, rfl, of_decide_eq_true rfl, Nat.le_refl _⟩ (fun _ => rfl) (fun _ => rfl) (fun _ => D6 (by rfl) (D6 (B2 (B0 fun _ => rfl)) (by rfl))) ?_
  intro z
  simp only [U4, List.cons_append, List.nil_append]
  refine A4 rfl rfl rfl <| A4 rfl rfl rfl ?_
  refine A5 ⟨nofun, _, kS [2,3,4] [2,300002] rfl, ?_⟩
  refine B3 <| D8 (H2 rfl rfl rfl rfl (H3 rfl (H6 rfl (a1z rfl rfl (by simp) (fun _ => rfl) J9))) (E4 rfl rfl (E4 rfl rfl (F3 C6)))) ?_
  rw [a4o hnn hn, hr1, Option.bind_some, hr2]
  rfl

theorem keep_s_readPlan : F9 Tryz.f28 = [0, 2, 3, 4, 17, 6, 7, 5, 21] := by kernel_rfl
set_option maxHeartbeats 20000000 in
theorem c1k (s : List UInt8) (hs : s.length ≤ 1048576) : CW (cxT oG) 28 [tV s] = some (.tup [trV (rpT s), bV (rdPlan s).isSome], []) := by
 obtain ⟨ws, hws⟩ : ∃ ws, ws = splitB 32 s := ⟨_, rfl⟩
 have hwl := T4 32 s
 have hwp := Y3 32 s
 rw [← hws] at hwl hwp
 refine G4 rfl Tryz.func28 rfl ⟨by kernel_rfl, rfl, of_decide_eq_true rfl, of_decide_eq_true rfl, by decide⟩ keep_s_readPlan <| A3 <| A0 <| H7 rfl (fun _ => C1 rfl) (fun _ => rfl) ?_
 intro g2
 refine A4 rfl rfl rfl ?_
 refine A5 ⟨nofun, _, kS [0,2] [2] rfl, ?_⟩
 refine A3 <| A0 <| A6 rfl rfl ?_
 apply C4 rfl
 ·apply A9
  ·exact B5 rfl
  apply A9
  ·exact B5 rfl
  exact C3
 ·exact b4u s (by omega) 32
 ·exact ⟨rfl, rfl, rfl, of_decide_eq_true rfl, rfl⟩
 ·exact .inl rfl
 ·exact B1
 ·exact O9
 ·exact fun _ => rfl
 intro g9
 rw [← hws]
 try simp only [List.length_map]
 (refine B9 rfl rfl (by (simp; done)) rfl (fun _ => (B2 (by exact B0 fun _ => rfl))) (fun _ => rfl) ?_; intro g4)
 refine A5 ⟨nofun, _, kS [0,2,4] [2,4] rfl, ?_⟩
 refine A3 <| A3 <| A0 <| A6 rfl rfl <| Z1 rfl rfl <| Y1 rfl rfl <| A6 rfl rfl ?_
 refine D9 rfl rfl (fun hg0 => ?_) (fun hg0 => ?_)
 ·have hg := hg0; try simp only [SG] at hg
  refine A6 rfl rfl <| gT rfl rfl <| Q5 rfl rfl <| gT rfl rfl <| Y1 rfl rfl <| G6 rfl (by assumption) rfl rfl ?_
  refine A5 ⟨nofun, _, kS [2,4,17] [2,4] rfl, ?_⟩
  refine A8 rfl (fun hc => ?_) (fun hc => ?_)
  ·try simp only [SG, List.length_map] at hc
   refine A3 <| A0 <| K8 (fs := [_, _, _]) rfl rfl rfl rfl rfl <| C5 rfl rfl rfl rfl ⟨by decide, rfl, of_decide_eq_true rfl, of_decide_eq_true rfl, rfl⟩ rfl (by exact C1 rfl) <| A4 rfl rfl rfl ?_
   refine A5 ⟨nofun, _, kS [2,3] [2] rfl, ?_⟩
   refine B3 <| D8 (H2 rfl rfl rfl rfl (H3 rfl (H6 rfl (H6 rfl J9))) (E4 rfl rfl (F3 C6))) ?_
   obtain ⟨h1, h2⟩ := b0r (s := s) (by rw [hws] at *; omega)
   rw [h1, h2]
   rfl
  try simp only [SG, List.length_map] at hc
  have hin := c6d hws (by omega)
  refine B7 <| A3 <| A0 <| A6 rfl rfl ?_
  rcases hr : rdT ws with _ | ⟨t, r⟩
  ·skip
   apply C4 rfl
   ·apply A9
    ·exact I0 rfl rfl (by (simp; done)) (fun _ => rfl)
    exact C3
   ·exact (by have hi := b1t (oG := oG) ws ⟨by omega, fun w hw => by have := hwp w hw; omega⟩; rw [hr] at hi; exact hi)
   ·exact ⟨rfl, rfl, rfl, of_decide_eq_true rfl, rfl⟩
   ·exact .inl rfl
   ·exact B1
   ·exact J5 (J2 rfl (T1 fun _ => J2 rfl S8))
   ·exact fun _ => D6 (a4l (B0 fun _ => rfl) (by decide)) (by rfl)
   intro g21
   refine A6 rfl rfl <| B4 rfl rfl rfl <| B4 rfl rfl rfl <| B4 rfl rfl rfl <| H7 rfl (fun _ => C1 rfl) (fun _ => rfl) ?_
   intro g5
   refine C5 rfl rfl rfl rfl ⟨by decide, rfl, of_decide_eq_true rfl, of_decide_eq_true rfl, rfl⟩ rfl (by exact C1 rfl) ?_
   (refine B9 rfl rfl (by (simp; done)) rfl (fun _ => (B2 (by rfl))) (fun _ => rfl) ?_; intro g6)
   refine A4 rfl rfl rfl ?_
   refine A5 ⟨nofun, _, kS [2,5,6,7] [2,5] rfl, ?_⟩
   refine A3 <| A0 <| F8 rfl rfl rfl rfl rfl <| A6 rfl rfl <| A6 rfl rfl <| H5 rfl rfl rfl <| H5 rfl rfl rfl <| H5 rfl rfl rfl <| G6 rfl rfl rfl rfl <| C5 rfl rfl rfl rfl ⟨by decide, rfl, of_decide_eq_true rfl, of_decide_eq_true rfl, rfl⟩ rfl (by exact C1 rfl) <| A4 rfl rfl rfl ?_
   refine A5 ⟨nofun, _, kS [2,3] [2] rfl, ?_⟩
   refine B3 <| D8 (H2 rfl rfl rfl rfl (H3 rfl (H3 rfl (H3 rfl J9))) (E4 rfl rfl (F3 C6))) ?_
   obtain ⟨h1, h2⟩ := hin.1 hr
   rw [h1, h2]
   rfl
  skip
  apply C4 rfl
  ·apply A9
   ·exact I0 rfl rfl (by (simp; done)) (fun _ => rfl)
   exact C3
  ·exact (by have hi := b1t (oG := oG) ws ⟨by omega, fun w hw => by have := hwp w hw; omega⟩; rw [hr] at hi; exact hi)
  ·exact ⟨rfl, rfl, rfl, of_decide_eq_true rfl, rfl⟩
  ·exact .inl rfl
  ·exact B1
  ·exact L2 rfl
  ·exact fun _ => D6 (a4l (B0 fun _ => rfl) (by decide)) (by rfl)
  intro g21
  refine A6 rfl rfl <| B4 rfl rfl rfl <| B4 rfl rfl rfl <| B4 rfl rfl rfl <| H7 rfl (fun _ => C1 rfl) (fun _ => rfl) ?_
  intro g5
  refine C5 rfl rfl rfl rfl ⟨by decide, rfl, of_decide_eq_true rfl, of_decide_eq_true rfl, rfl⟩ rfl (by exact C1 rfl) <| A4 rfl rfl rfl <| A4 rfl rfl rfl ?_
  refine A5 ⟨nofun, _, kS [2,5,6,7] [2,5] rfl, ?_⟩
  refine A3 <| A0 <| F8 rfl rfl rfl rfl rfl <| A6 rfl rfl <| A6 rfl rfl <| N7 rfl rfl rfl <| A6 rfl rfl <| N7 rfl rfl rfl <| H0 rfl rfl <| N7 rfl rfl rfl <| S6 rfl rfl <| G1 rfl rfl rfl rfl <| C5 rfl rfl rfl rfl ⟨by decide, rfl, of_decide_eq_true rfl, of_decide_eq_true rfl, rfl⟩ rfl (by exact C1 rfl) <| A4 rfl rfl rfl ?_
  refine A5 ⟨nofun, _, kS [2,3] [2] rfl, ?_⟩
  refine B3 <| D8 (H2 rfl rfl rfl rfl (H3 rfl (H3 rfl (H3 rfl J9))) (E4 rfl rfl (F3 C6))) ?_
  obtain ⟨h1, h2⟩ := hin.2 t r hr
  rw [h1, h2]
  rfl
 have hg := hg0; try simp only [SG] at hg
 refine gF rfl rfl <| gF rfl rfl <| G1 rfl (by assumption) rfl rfl ?_
 refine A5 ⟨nofun, _, kS [2,4,17] [2,4] rfl, ?_⟩
 refine A8 rfl (fun hc => ?_) (fun hc => absurd hc (by decide))
 refine A3 <| A0 <| K8 (fs := [_, _, _]) rfl rfl rfl rfl rfl <| C5 rfl rfl rfl rfl ⟨by decide, rfl, of_decide_eq_true rfl, of_decide_eq_true rfl, rfl⟩ rfl (by exact C1 rfl) <| A4 rfl rfl rfl ?_
 refine A5 ⟨nofun, _, kS [2,3] [2] rfl, ?_⟩
 refine B3 <| D8 (H2 rfl rfl rfl rfl (H3 rfl (H6 rfl (H6 rfl J9))) (E4 rfl rfl (F3 C6))) ?_
 obtain ⟨h1, h2⟩ := b0r (s := s) (by rw [hws] at *; omega)
 rw [h1, h2]
 rfl

theorem keep_s_numbers : F9 Tryz.f65 = [0, 2, 8, 7, 9, 6, 5, 3] := by kernel_rfl
set_option maxHeartbeats 20000000 in
theorem c5j (ns : List Int) (hl : ns.length ≤ 1000000) (hnb : ∀ n ∈ ns, -1000000 ≤ n ∧ n ≤ 1000000) : CW (cxT oG) 65 [L ns] = some (tV (N6 ns), []) := by
 have hg := fun (i : Nat) (h : i < ns.length) => hnb _ (a1j h)
 have hll := W4 (ns := ns) hnb
 refine G4 rfl Tryz.func65 rfl ⟨by kernel_rfl, rfl, of_decide_eq_true rfl, of_decide_eq_true rfl, by decide⟩ keep_s_numbers <| A3 <| A0 <| A4 rfl rfl rfl ?_
 refine A5 ⟨nofun, _, kS [0] [] rfl, ?_⟩
 refine A3 <| A0 ?_
 (refine B8 rfl rfl (fun _ => rfl) ?_; intro g3)
 refine A5 ⟨nofun, _, kS [0,3] [3] rfl, ?_⟩
 refine A3 <| A3 <| A0 <| A6 rfl rfl <| H0 rfl rfl <| A6 rfl rfl ?_
 refine A5 ⟨nofun, _, kS [3,6,7,8] [3] rfl, ?_⟩
 refine E3 <| L1 (β := Nat × List (List UInt8) × Nat) [(.t 6, _), (.t 7, _)] (fun (z : Nat × List (List UInt8) × Nat) => match z with | (i, ps, g) => [(.t 8, iV i), (.t 3, .sl 3 g none 0 ps.length), (.h 3, .obj g 0 1 (ps.map tV))]) (fun (z : Nat × List (List UInt8) × Nat) => match z with | (i, ps, g) => i ≤ ns.length ∧ ps = (ns.take i).map dec) (fun (z : Nat × List (List UInt8) × Nat) => match z with | (i, ps, g) => ns.length - i) (0, [], _) ⟨rfl, rfl, rfl, rfl, rfl, trivial⟩ ⟨Nat.zero_le _, rfl⟩ ?_
 intro z hb
 obtain ⟨i, ps, g⟩ := z
 try dsimp only at hb
 obtain ⟨hi1, hps⟩ := hb
 have hpl : ps.length = i := by rw [hps]; simp; omega
 refine A3 <| A0 <| K7 rfl rfl ?_
 refine A5 ⟨nofun, _, kS [3,6,7,8,9] [3] rfl, ?_⟩
 refine A3 ?_
 refine A8 rfl (fun hc => ?_) (fun hc => ?_)
 ·try simp only [SG, List.length_map] at hc
  refine B7 <| A3 <| E3 <| A3 <| A0 <| H9 rfl rfl rfl (fun _ => rfl) (by omega) <| G5 rfl rfl rfl <| A4 rfl rfl rfl ?_
  refine A5 ⟨nofun, _, kS [3,5,6,7,8] [3] rfl, ?_⟩
  refine A0 <| A6 rfl rfl <| A6 rfl rfl ?_
  have hgi := hg i (by omega)
  apply C4 rfl
  ·apply A9
   ·exact B5 rfl
   exact C3
  ·exact d2p (ns.getD i default) (by omega)
  ·exact ⟨rfl, rfl, rfl, of_decide_eq_true rfl, rfl⟩
  ·exact .inl rfl
  ·exact B1
  ·exact C0 rfl
  ·exact fun _ => rfl
  intro g14
  refine D3 (es := List.map tV [_]) rfl rfl (of_decide_eq_true rfl) rfl rfl (fun _ => B2 (B0 fun _ => rfl)) (fun _ => rfl) ?_
  intro g15
  refine G8 rfl rfl rfl rfl (by (simp; done)) (by simp) (by decide) rfl rfl rfl rfl (of_decide_eq_true rfl) (fun _ => ⟨rfl, rfl⟩) (by simp only [G7]; (simp only [List.length_nil, List.length_cons, List.length_append, Nat.zero_add, List.length_map]; omega)) (fun _ => rfl) ?_
  intro g16
  (refine B9 rfl rfl (by (simp; done)) rfl (fun _ => (B2 (by exact B0 fun _ => rfl))) (fun _ => rfl) ?_; intro g3)
  refine A5 ⟨nofun, _, kS [3,6,7,8] [3] rfl, ?_⟩
  refine A0 <| K3 rfl rfl (F7 (by omega)) <| A6 rfl rfl ?_
  refine A5 ⟨nofun, _, kS [3,6,7,8] [3] rfl, ?_⟩
  refine ⟨(i + 1, ps ++ [dec (ns.getD i default)], _), ?_, (by simp only; omega), ⟨rfl, rfl, rfl, rfl, rfl, trivial⟩⟩
  exact ⟨by omega, by rw [hps, ← b3m (by omega)]⟩
 try simp only [SG, List.length_map] at hc
 refine J3 <| A3 <| A0 <| A6 rfl rfl ?_
 have hpe : ps = ns.map dec := by rw [hps, List.take_of_length_le (by omega)]
 have hje : joinB 44 ps = N6 ns := by rw [hpe]; rfl
 apply C4 rfl
 ·apply A9
  ·exact L7 rfl rfl rfl (by (simp; done)) (fun _ => rfl)
  apply A9
  ·exact B5 rfl
  exact C3
 ·exact d2l ps 44 (by simp only [G7]; omega) (by rw [hje]; simp only [G7]; omega)
 ·exact ⟨rfl, rfl, rfl, of_decide_eq_true rfl, rfl⟩
 ·exact .inr ⟨rfl, rfl⟩
 ·exact B1
 ·exact C0 rfl
 ·exact fun _ => rfl
 intro g19
 refine A4 rfl rfl rfl ?_
 refine A5 ⟨nofun, _, kS [2] [] rfl, ?_⟩
 refine B3 <| D4 rfl rfl trivial ?_
 rw [hje]

theorem keep_s_listTextI : F9 Tryz.f49 = [0, 2] := by kernel_rfl
set_option maxHeartbeats 20000000 in
theorem a3z (ns : List Int) (hl : ns.length ≤ 1000000) (hnb : ∀ n ∈ ns, -1000000 ≤ n ∧ n ≤ 1000000) : CW (cxT oG) 49 [L ns] = some (tV (S4 ns), []) := by
 have hll := W4 (ns := ns) hnb
 refine G4 rfl Tryz.func49 rfl ⟨by kernel_rfl, rfl, of_decide_eq_true rfl, of_decide_eq_true rfl, by decide⟩ keep_s_listTextI <| A3 <| A0 <| A4 rfl rfl rfl ?_
 refine A5 ⟨nofun, _, kS [0] [] rfl, ?_⟩
 refine A3 <| A0 <| A6 rfl rfl ?_
 apply C4 rfl
 ·apply A9
  ·exact B5 rfl
  exact C3
 ·exact c5j ns hl hnb
 ·exact ⟨rfl, rfl, rfl, of_decide_eq_true rfl, rfl⟩
 ·exact .inl rfl
 ·exact B1
 ·exact C0 rfl
 ·exact fun _ => rfl
 intro g4
 refine J6 rfl rfl (by simp only [G7, List.length_append, List.length_cons, List.length_nil]; omega) <| J6 rfl rfl (by simp only [G7, List.length_append, List.length_cons, List.length_nil]; omega) <| A4 rfl rfl rfl ?_
 refine A5 ⟨nofun, _, kS [2] [] rfl, ?_⟩
 refine B3 <| D4 rfl rfl trivial ?_
 rfl

theorem keep_s_readListI : F9 Tryz.f86 = [0, 2, 3, 4, 6, 5, 27, 29, 33, 32, 34, 31, 9, 11, 43, 10, 7] := by kernel_rfl
set_option maxHeartbeats 20000000 in
theorem b8v (w : List UInt8) (hs : w.length ≤ 1048576) : CW (cxT oG) 86 [tV w] = some (.tup [.own 1 ((rlX w).map iV), bV (okI w)], []) := by
 have hc1 := c9r 91 w
 have hc2 := c7m 93 (a2u 91 w)
 refine G4 rfl Tryz.func86 rfl ⟨by kernel_rfl, rfl, of_decide_eq_true rfl, of_decide_eq_true rfl, by decide⟩ keep_s_readListI <| A3 <| A0 ?_
 (refine B8 rfl rfl (fun _ => rfl) ?_; intro g2)
 refine A4 rfl rfl rfl ?_
 refine A5 ⟨nofun, _, kS [0] [] rfl, ?_⟩
 refine A3 <| A0 <| A6 rfl rfl ?_
 apply C4 rfl
 ·apply A9
  ·exact B5 rfl
  apply A9
  ·exact B5 rfl
  exact C3
 ·exact d3e w 91
 ·exact ⟨rfl, rfl, rfl, of_decide_eq_true rfl, rfl⟩
 ·exact .inl rfl
 ·exact B1
 ·exact L2 rfl
 ·exact fun _ => rfl
 intro g14
 refine A6 rfl rfl <| B4 rfl rfl rfl <| B4 rfl rfl rfl <| A4 rfl rfl rfl <| A4 rfl rfl rfl ?_
 refine A5 ⟨nofun, _, kS [0,4,5] [] rfl, ?_⟩
 refine A3 <| A0 <| A6 rfl rfl ?_
 apply C4 rfl
 ·apply A9
  ·exact B5 rfl
  apply A9
  ·exact B5 rfl
  exact C3
 ·exact d3k (a2u 91 w) 93 (by omega)
 ·exact ⟨rfl, rfl, rfl, of_decide_eq_true rfl, rfl⟩
 ·exact .inl rfl
 ·exact B1
 ·exact L2 rfl
 ·exact fun _ => rfl
 intro g19
 refine A6 rfl rfl <| B4 rfl rfl rfl <| B4 rfl rfl rfl <| A4 rfl rfl rfl <| A4 rfl rfl rfl ?_
 refine A5 ⟨nofun, _, kS [0,4,5,6] [] rfl, ?_⟩
 refine A3 <| A3 <| A0 <| A6 rfl rfl <| P1 rfl <| A6 rfl rfl ?_
 refine D9 rfl rfl (fun hg0 => ?_) (fun hg0 => ?_)
 ·have hg := hg0; try simp only [SG] at hg
  refine A6 rfl rfl <| gT rfl rfl <| P1 rfl <| G6 rfl (by assumption) rfl rfl ?_
  refine A5 ⟨nofun, _, kS [0,4,27] [] rfl, ?_⟩
  refine A8 rfl (fun hc => ?_) (fun hc => ?_)
  ·try simp only [SG, List.length_map] at hc
   refine A3 <| A0 ?_
   (refine B8 rfl rfl (fun _ => rfl) ?_; intro g2)
   refine A4 rfl rfl rfl ?_
   refine A5 ⟨nofun, _, kS [2,3] [2] rfl, ?_⟩
   refine B3 <| D8 (G9 rfl rfl (by simp) (by rfl) (E4 rfl rfl (F3 C6))) ?_
   obtain ⟨h1, h2⟩ := b6f (b8n (w := w) (by simp_all [okB]))
   rw [h1, h2]
   rfl
  try simp only [SG, List.length_map] at hc
  have hok : okB w = true := by simp [okB]; constructor <;> assumption
  obtain ⟨ps, hps0⟩ : ∃ ps, ps = splitB 44 (a4a w) := ⟨_, rfl⟩
  have hpl := T4 44 (a4a w)
  have hpp := Y3 44 (a4a w)
  rw [← hps0] at hpl hpp
  have hil := c9q hok
  refine B7 <| A3 <| A0 ?_
  (refine B8 rfl rfl (fun _ => rfl) ?_; intro g7)
  refine A5 ⟨nofun, _, kS [0,4,7] [7] rfl, ?_⟩
  refine A3 <| A3 <| A0 <| A6 rfl rfl <| b2n rfl rfl ?_
  refine A5 ⟨nofun, _, kS [0,4,7,29] [7] rfl, ?_⟩
  refine A8 rfl (fun hc => ?_) (fun hc => ?_)
  ·try simp only [SG, List.length_map] at hc
   have hin : a4a w ≠ [] := hc
   refine A3 <| A0 <| A6 rfl rfl ?_
   have hps := hps0
   apply C4 rfl
   ·apply A9
    ·exact B5 rfl
    apply A9
    ·exact B5 rfl
    exact C3
   ·exact c4f (a4a w) 44 (by unfold a4a; omega)
   ·exact ⟨rfl, rfl, rfl, of_decide_eq_true rfl, rfl⟩
   ·exact .inl rfl
   ·exact B1
   ·exact O9
   ·(intro _; exact D6 (B2 (B0 fun _ => rfl)) rfl)
   intro g31
   rw [← hps]
   try simp only [List.length_map]
   refine Q5 rfl rfl <| A6 rfl rfl ?_
   refine A5 ⟨nofun, _, kS [0,7,31,32,33] [7,1000031] rfl, ?_⟩
   refine E3 <| L1 (β := Nat × List Int × Nat) [(.t 0, _), (.t 31, _), (.t 32, _), (.h 1000031, _)] (fun (z : Nat × List Int × Nat) => match z with | (i, ns, g) => [(.t 33, iV i), (.t 7, .sl 7 g none 0 ns.length), (.h 7, .obj g 0 1 (ns.map iV))]) (fun (z : Nat × List Int × Nat) => match z with | (i, ns, g) => i ≤ ps.length ∧ rdA (ps.take i) = some ns) (fun (z : Nat × List Int × Nat) => match z with | (i, ns, g) => ps.length - i) (0, [], _) ⟨rfl, rfl, rfl, rfl, rfl, rfl, rfl, trivial⟩ ⟨Nat.zero_le _, rfl⟩ ?_
   intro z hb
   obtain ⟨i, ns, g⟩ := z
   try dsimp only at hb
   obtain ⟨hi1, hrd⟩ := hb
   have hpi := fun h : i < ps.length => hpp _ (a0c h)
   have hnl := b0t hrd
   rw [List.length_take] at hnl
   refine A3 <| A0 <| K7 rfl rfl ?_
   refine A5 ⟨nofun, _, kS [0,7,31,32,33,34] [7,1000031] rfl, ?_⟩
   refine A3 ?_
   refine A8 rfl (fun hc => ?_) (fun hc => ?_)
   ·try simp only [SG, List.length_map] at hc
    refine B7 <| A3 <| E3 <| A3 <| A0 <| X9 rfl rfl rfl rfl (by omega) (by (simp; done)) rfl <| U2 rfl rfl (by omega) (fun _ => rfl) (fun _ => rfl) rfl <| A4 rfl rfl rfl ?_
    refine A5 ⟨nofun, _, kS [0,7,9,31,32,33] [7,1000031] rfl, ?_⟩
    refine A3 <| A0 <| A6 rfl rfl ?_
    rcases hat : Lib.atoiAll (ps.getD i default) with v | _ | _
    ·skip
     apply C4 rfl
     ·apply A9
      ·exact B5 rfl
      exact C3
     ·exact (by have hi := c0p (oG := oG) (ps.getD i default) (by omega); unfold atR at hi; rw [hat] at hi; exact hi)
     ·exact ⟨rfl, rfl, rfl, of_decide_eq_true rfl, rfl⟩
     ·exact .inl rfl
     ·exact B1
     ·exact L2 rfl
     ·exact fun _ => rfl
     intro g39
     refine A6 rfl rfl <| B4 rfl rfl rfl <| B4 rfl rfl rfl <| A4 rfl rfl rfl <| A4 rfl rfl rfl ?_
     refine A5 ⟨nofun, _, kS [0,7,10,11,31,32,33] [7,1000031] rfl, ?_⟩
     refine A3 <| A3 <| A0 <| A6 rfl rfl <| c9g rfl rfl rfl rfl ?_
     refine A5 ⟨nofun, _, kS [0,7,10,31,32,33,43] [7,1000031] rfl, ?_⟩
     refine A8 rfl (fun hc => absurd hc (by decide)) (fun hc => ?_)
     refine B7 <| A0 <| A6 rfl rfl <| A6 rfl rfl <| D3 (es := List.map iV [_]) rfl rfl (of_decide_eq_true rfl) rfl rfl (fun _ => B2 (B0 fun _ => rfl)) (fun _ => rfl) ?_
     intro g46
     refine G8 rfl rfl rfl rfl (by (simp; done)) (by simp) (by decide) rfl rfl rfl rfl (of_decide_eq_true rfl) (fun _ => ⟨rfl, rfl⟩) (by simp only [G7]; (simp only [List.length_nil, List.length_cons, List.length_append, Nat.zero_add, List.length_map]; omega)) (fun _ => rfl) ?_
     intro g47
     (refine B9 rfl rfl (by (simp; done)) rfl (fun _ => (B2 (by exact B0 fun _ => rfl))) (fun _ => rfl) ?_; intro g7)
     refine A5 ⟨nofun, _, kS [0,7,31,32,33] [7,1000031] rfl, ?_⟩
     refine A0 <| K3 rfl rfl (F7 (by omega)) <| A6 rfl rfl ?_
     refine A5 ⟨nofun, _, kS [0,7,31,32,33] [7,1000031] rfl, ?_⟩
     refine ⟨(i + 1, ns ++ [v], _), ?_, (by simp only; omega), ⟨rfl, rfl, rfl, rfl, rfl, rfl, rfl, trivial⟩⟩
     exact ⟨by omega, c6n (by omega) hrd hat⟩
    ·skip
     apply C4 rfl
     ·apply A9
      ·exact B5 rfl
      exact C3
     ·exact (by have hi := c0p (oG := oG) (ps.getD i default) (by omega); unfold atR at hi; rw [hat] at hi; exact hi)
     ·exact ⟨rfl, rfl, rfl, of_decide_eq_true rfl, rfl⟩
     ·exact .inl rfl
     ·exact B1
     ·exact L2 rfl
     ·exact fun _ => rfl
     intro g39
     refine A6 rfl rfl <| B4 rfl rfl rfl <| B4 rfl rfl rfl <| A4 rfl rfl rfl <| A4 rfl rfl rfl ?_
     refine A5 ⟨nofun, _, kS [0,7,10,11,31,32,33] [7,1000031] rfl, ?_⟩
     refine A3 <| A3 <| A0 <| A6 rfl rfl <| b9i rfl rfl rfl ?_
     refine A5 ⟨nofun, _, kS [0,7,10,31,32,33,43] [7,1000031] rfl, ?_⟩
     refine A8 rfl (fun hc => ?_) (fun hc => absurd hc (by decide))
     refine A3 <| A0 ?_
     (refine B8 rfl rfl (fun _ => rfl) ?_; intro g2)
     refine A4 rfl rfl rfl ?_
     refine A5 ⟨nofun, _, kS [2,3] [2] rfl, ?_⟩
     refine B3 <| D8 (G9 rfl rfl (by simp) (by rfl) (E4 rfl rfl (F3 C6))) ?_
     obtain ⟨h1, h2⟩ := b6f (w := w) (by rw [b0a hok hin, ← hps0]; exact b7o (i := i) (by omega) (by intro v hv; rw [hat] at hv; cases hv))
     rw [h1, h2]
     rfl
    skip
    apply C4 rfl
    ·apply A9
     ·exact B5 rfl
     exact C3
    ·exact (by have hi := c0p (oG := oG) (ps.getD i default) (by omega); unfold atR at hi; rw [hat] at hi; exact hi)
    ·exact ⟨rfl, rfl, rfl, of_decide_eq_true rfl, rfl⟩
    ·exact .inl rfl
    ·exact B1
    ·exact L2 rfl
    ·exact fun _ => rfl
    intro g39
    refine A6 rfl rfl <| B4 rfl rfl rfl <| B4 rfl rfl rfl <| A4 rfl rfl rfl <| A4 rfl rfl rfl ?_
    refine A5 ⟨nofun, _, kS [0,7,10,11,31,32,33] [7,1000031] rfl, ?_⟩
    refine A3 <| A3 <| A0 <| A6 rfl rfl <| b9i rfl rfl rfl ?_
    refine A5 ⟨nofun, _, kS [0,7,10,31,32,33,43] [7,1000031] rfl, ?_⟩
    refine A8 rfl (fun hc => ?_) (fun hc => absurd hc (by decide))
    refine A3 <| A0 ?_
    (refine B8 rfl rfl (fun _ => rfl) ?_; intro g2)
    refine A4 rfl rfl rfl ?_
    refine A5 ⟨nofun, _, kS [2,3] [2] rfl, ?_⟩
    refine B3 <| D8 (G9 rfl rfl (by simp) (by rfl) (E4 rfl rfl (F3 C6))) ?_
    obtain ⟨h1, h2⟩ := b6f (w := w) (by rw [b0a hok hin, ← hps0]; exact b7o (i := i) (by omega) (by intro v hv; rw [hat] at hv; cases hv))
    rw [h1, h2]
    rfl
   try simp only [SG, List.length_map] at hc
   refine J3 <| A3 <| A0 <| A6 rfl rfl <| A6 rfl rfl ?_
   apply C4 rfl
   ·apply A9
    ·exact L7 rfl rfl rfl (by (simp; done)) (fun _ => rfl)
    exact C3
   ·exact a6z ns (by omega)
   ·exact ⟨rfl, rfl, rfl, of_decide_eq_true rfl, rfl⟩
   ·exact .inr ⟨rfl, rfl⟩
   ·exact B1
   ·exact C0 rfl
   ·exact fun _ => rfl
   intro g51
   refine A6 rfl rfl ?_
   refine D9 rfl rfl (fun hg0 => ?_) (fun hg0 => ?_)
   ·have hg := hg0; try simp only [SG] at hg
    refine A6 rfl rfl <| gT rfl rfl ?_
    (have hnb := c9h (ns := ns) (by assumption); have hvl := c2a (show vd ns = true by assumption))
    apply C4 rfl
    ·apply A9
     ·exact L7 rfl rfl rfl (by (simp; done)) (fun _ => rfl)
     exact C3
    ·exact a3z ns (by omega) hnb
    ·exact ⟨rfl, rfl, rfl, of_decide_eq_true rfl, rfl⟩
    ·exact .inr ⟨rfl, rfl⟩
    ·exact B1
    ·exact C0 rfl
    ·exact fun _ => rfl
    intro g54
    refine gT rfl rfl <| A6 rfl rfl <| gT rfl rfl <| a5z rfl rfl <| G1 rfl (by assumption) rfl rfl ?_
    (refine B9 rfl rfl (by (simp; done)) rfl (fun _ => (B2 (by exact B0 fun _ => rfl))) (fun _ => rfl) ?_; intro g2)
    refine A4 rfl rfl rfl ?_
    refine A5 ⟨nofun, _, kS [2,3] [2] rfl, ?_⟩
    refine B3 <| D8 (G9 rfl rfl (by simp) (by exact B0 fun _ => rfl) (E4 rfl rfl (F3 C6))) ?_
    (have hx := hin; obtain ⟨h1, h2⟩ := a6t (ns := ns) (w := w) (by rw [b0a hok hx, ← hps0]; rw [List.take_of_length_le (by omega)] at hrd; exact hrd))
    (rw [h1, h2, hg, Bool.true_and]; rfl)
   have hg := hg0; try simp only [SG] at hg
   refine gF rfl rfl <| gF rfl rfl <| gF rfl rfl <| G6 rfl (by assumption) rfl rfl ?_
   (refine B9 rfl rfl (by (simp; done)) rfl (fun _ => (B2 (by exact B0 fun _ => rfl))) (fun _ => rfl) ?_; intro g2)
   refine A4 rfl rfl rfl ?_
   refine A5 ⟨nofun, _, kS [2,3] [2] rfl, ?_⟩
   refine B3 <| D8 (G9 rfl rfl (by simp) (by exact B0 fun _ => rfl) (E4 rfl rfl (F3 C6))) ?_
   (have hx := hin; obtain ⟨h1, h2⟩ := a6t (ns := ns) (w := w) (by rw [b0a hok hx, ← hps0]; rw [List.take_of_length_le (by omega)] at hrd; exact hrd))
   (rw [h1, h2, hg, Bool.false_and]; rfl)
  try simp only [SG, List.length_map] at hc
  have hie : a4a w = [] := hc
  refine B7 <| A3 <| A0 <| A6 rfl rfl <| A6 rfl rfl ?_
  apply C4 rfl
  ·apply A9
   ·exact b6y rfl rfl rfl rfl rfl
   exact C3
  ·exact a6z [] (by decide)
  ·exact ⟨rfl, rfl, rfl, of_decide_eq_true rfl, rfl⟩
  ·exact .inr ⟨rfl, rfl⟩
  ·exact B1
  ·exact C0 rfl
  ·exact fun _ => rfl
  intro g51
  refine A6 rfl rfl ?_
  refine D9 rfl rfl (fun hg0 => ?_) (fun hg0 => ?_)
  ·have hg := hg0; try simp only [SG] at hg
   refine A6 rfl rfl <| gT rfl rfl ?_
   skip
   apply C4 rfl
   ·apply A9
    ·exact b6y rfl rfl rfl rfl rfl
    exact C3
   ·exact a3z [] (by decide) (by simp)
   ·exact ⟨rfl, rfl, rfl, of_decide_eq_true rfl, rfl⟩
   ·exact .inr ⟨rfl, rfl⟩
   ·exact B1
   ·exact C0 rfl
   ·exact fun _ => rfl
   intro g54
   refine gT rfl rfl <| A6 rfl rfl <| gT rfl rfl <| a5z rfl rfl <| G1 rfl rfl rfl rfl ?_
   (refine B9 rfl rfl (by (simp; done)) rfl (fun _ => (B2 (by rfl))) (fun _ => rfl) ?_; intro g2)
   refine A4 rfl rfl rfl ?_
   refine A5 ⟨nofun, _, kS [2,3] [2] rfl, ?_⟩
   refine B3 <| D8 (G9 rfl rfl (by simp) (by rfl) (E4 rfl rfl (F3 C6))) ?_
   obtain ⟨h1, h2⟩ := a6t (ns := []) (w := w) (c3n hok hie)
   (rw [h1, h2, hg, Bool.true_and]; rfl)
  have hg := hg0; try simp only [SG] at hg
  refine gF rfl rfl <| gF rfl rfl <| gF rfl rfl <| G6 rfl (by assumption) rfl rfl ?_
  (refine B9 rfl rfl (by (simp; done)) rfl (fun _ => (B2 (by rfl))) (fun _ => rfl) ?_; intro g2)
  refine A4 rfl rfl rfl ?_
  refine A5 ⟨nofun, _, kS [2,3] [2] rfl, ?_⟩
  refine B3 <| D8 (G9 rfl rfl (by simp) (by rfl) (E4 rfl rfl (F3 C6))) ?_
  obtain ⟨h1, h2⟩ := a6t (ns := []) (w := w) (c3n hok hie)
  (rw [h1, h2, hg, Bool.false_and]; rfl)
 have hg := hg0; try simp only [SG] at hg
 refine gF rfl rfl <| G1 rfl (by assumption) rfl rfl ?_
 refine A5 ⟨nofun, _, kS [0,4,27] [] rfl, ?_⟩
 refine A8 rfl (fun hc => ?_) (fun hc => absurd hc (by decide))
 refine A3 <| A0 ?_
 (refine B8 rfl rfl (fun _ => rfl) ?_; intro g2)
 refine A4 rfl rfl rfl ?_
 refine A5 ⟨nofun, _, kS [2,3] [2] rfl, ?_⟩
 refine B3 <| D8 (G9 rfl rfl (by simp) (by rfl) (E4 rfl rfl (F3 C6))) ?_
 obtain ⟨h1, h2⟩ := b6f (b8n (w := w) (by simp_all [okB]))
 rw [h1, h2]
 rfl

theorem keep_s_readWord : F9 Tryz.f76 = [0, 2, 3, 4, 6, 12, 5] := by kernel_rfl
set_option maxHeartbeats 20000000 in
theorem a0o (w : List UInt8) (hs : w.length ≤ 1048576) : CW (cxT oG) 76 [tV w] = some (.tup [tV (if (numsOf w).isSome = true then lW else w), .own 1 (((numsOf w).getD []).map iV), bV ((numsOf w).isSome || decide (0 ≤ rch (bA w)))], []) := by
 refine G4 rfl Tryz.func76 rfl ⟨by kernel_rfl, rfl, of_decide_eq_true rfl, of_decide_eq_true rfl, by decide⟩ keep_s_readWord <| A3 <| A0 <| A4 rfl rfl rfl ?_
 (refine B8 rfl rfl (fun _ => rfl) ?_; intro g3)
 refine A4 rfl rfl rfl ?_
 refine A5 ⟨nofun, _, kS [0] [] rfl, ?_⟩
 refine A3 <| A3 <| A0 <| A6 rfl rfl ?_
 apply C4 rfl
 ·apply A9
  ·exact B5 rfl
  exact C3
 ·exact (by have hi := b8v (oG := oG) w hs; rw [d3h] at hi; exact hi)
 ·exact ⟨rfl, rfl, rfl, of_decide_eq_true rfl, rfl⟩
 ·exact .inr ⟨a1y _ _, rfl⟩
 ·exact B1
 ·exact J5 (T1 fun _ => J2 rfl S8)
 ·exact fun _ => rfl
 intro g9
 simp only [List.length_map]
 refine A6 rfl rfl <| B4 rfl rfl rfl <| B4 rfl rfl rfl ?_
 (refine B9 rfl rfl (by (simp; done)) rfl (fun _ => (B2 (by exact B0 fun _ => rfl))) (fun _ => rfl) ?_; intro g5)
 refine A4 rfl rfl rfl ?_
 refine A5 ⟨nofun, _, kS [0,5,6] [5] rfl, ?_⟩
 refine A3 <| A0 <| A6 rfl rfl ?_
 refine A5 ⟨nofun, _, kS [0,5,12] [5] rfl, ?_⟩
 refine A8 rfl (fun hc => ?_) (fun hc => ?_)
 ·try simp only [SG, List.length_map] at hc
  obtain ⟨ns, hns⟩ := Option.isSome_iff_exists.1 hc
  have hraw := d2n hns
  refine A3 <| A0 <| A6 rfl rfl <| A4 rfl rfl rfl ?_
  (refine B9 rfl rfl (by (simp; done)) rfl (fun _ => (B2 (by exact B0 fun _ => rfl))) (fun _ => rfl) ?_; intro g3)
  refine A4 rfl rfl rfl ?_
  refine A5 ⟨nofun, _, kS [2,3,4] [3] rfl, ?_⟩
  refine B3 <| D8 (E4 rfl rfl (G9 rfl rfl (by simp) (by exact B0 fun _ => rfl) (E4 rfl rfl (F3 C6)))) ?_
  rw [hns, hraw]
  rfl
 try simp only [SG, List.length_map] at hc
 have hnn : numsOf w = none := by simpa using hc
 have hwo := d0x w
 refine B7 <| A3 <| A0 <| A6 rfl rfl <| A6 rfl rfl <| b2n rfl rfl <| A6 rfl rfl ?_
 refine D9 rfl rfl (fun hg0 => ?_) (fun hg0 => ?_)
 ·have hg := hg0; try simp only [SG] at hg
  refine A6 rfl rfl <| gT rfl rfl ?_
  apply C4 rfl
  ·apply A9
   ·exact B5 rfl
   exact C3
  ·exact a6e (bA w)
  ·exact ⟨rfl, rfl, rfl, of_decide_eq_true rfl, rfl⟩
  ·exact .inl rfl
  ·exact B1
  ·exact C0 rfl
  ·exact fun _ => rfl
  intro g19
  refine gT rfl rfl <| c8h rfl rfl <| G1 rfl (by assumption) rfl rfl <| A4 rfl rfl rfl ?_
  (refine B8 rfl rfl (fun _ => rfl) ?_; intro g3)
  refine A4 rfl rfl rfl ?_
  refine A5 ⟨nofun, _, kS [2,3,4] [3] rfl, ?_⟩
  refine B3 <| D8 (E4 rfl rfl (G9 rfl rfl (by simp) (by rfl) (E4 rfl rfl (F3 C6)))) ?_
  rw [hnn, ← hwo]
  simp_all
  try rfl
 have hg := hg0; try simp only [SG] at hg
 refine gF rfl rfl <| gF rfl rfl <| G6 rfl (by assumption) rfl rfl <| A4 rfl rfl rfl ?_
 (refine B8 rfl rfl (fun _ => rfl) ?_; intro g3)
 refine A4 rfl rfl rfl ?_
 refine A5 ⟨nofun, _, kS [2,3,4] [3] rfl, ?_⟩
 refine B3 <| D8 (E4 rfl rfl (G9 rfl rfl (by simp) (by rfl) (E4 rfl rfl (F3 C6)))) ?_
 rw [hnn, ← hwo]
 simp_all
 try rfl

theorem keep_s_readWords : F9 Tryz.f64 = [0, 2, 3, 4, 15, 7, 26, 6, 5, 35, 34, 36, 9, 12, 44, 8, 10, 11, 39, 50] := by kernel_rfl
set_option maxHeartbeats 20000000 in
theorem a8l (ws : List W8) (hws : ws.length ≤ 1048600 ∧ ∀ w ∈ ws, w.length ≤ 1048576) : CW (cxT oG) 64 [.list (ws.map tV)] = some (rtR (rdT ws), []) := by
 obtain ⟨kk, hkk⟩ : ∃ kk : Nat, ws.length < kk := ⟨_, Nat.lt_succ_self _⟩
 revert ws
 induction kk with
 | zero => intro ws hws hkk; exact absurd hkk (Nat.not_lt_zero _)
 | succ kk ih =>
  intro ws hws hkk
  refine G4 rfl Tryz.func64 rfl ⟨by kernel_rfl, rfl, of_decide_eq_true rfl, of_decide_eq_true rfl, by decide⟩ keep_s_readWords <| A3 <| A0 <| H7 rfl (fun _ => C1 rfl) (fun _ => rfl) ?_
  intro g2
  (refine B8 rfl rfl (fun _ => rfl) ?_; intro g3)
  refine A4 rfl rfl rfl ?_
  refine A5 ⟨nofun, _, kS [0,2] [2] rfl, ?_⟩
  refine A3 <| A3 <| A0 <| A6 rfl rfl <| H0 rfl rfl <| S6 rfl rfl ?_
  refine A5 ⟨nofun, _, kS [0,2,15] [2] rfl, ?_⟩
  refine A8 rfl (fun hc => ?_) (fun hc => ?_)
  ·try simp only [SG, List.length_map] at hc
   have hw0 : ws = [] := List.length_eq_zero_iff.1 (by simpa using hc)
   subst hw0
   refine A3 <| A0 <| K8 (fs := [_, _, _]) rfl rfl rfl rfl rfl <| C5 rfl rfl rfl rfl ⟨by decide, rfl, of_decide_eq_true rfl, of_decide_eq_true rfl, rfl⟩ rfl (by exact C1 rfl) ?_
   (refine B8 rfl rfl (fun _ => rfl) ?_; intro g3)
   refine A4 rfl rfl rfl ?_
   refine A5 ⟨nofun, _, kS [2,3,4] [2,3] rfl, ?_⟩
   refine B3 <| D8 (H2 rfl rfl rfl rfl (H3 rfl (H6 rfl (H6 rfl J9))) (G9 rfl rfl (by simp) (by rfl) (E4 rfl rfl (F3 C6)))) ?_
   rfl
  try simp only [SG, List.length_map] at hc
  obtain ⟨w, ws1, rfl⟩ : ∃ w ws1, ws = w :: ws1 := List.exists_cons_of_ne_nil (fun e => by subst e; simp at hc)
  have hw := hws.2 w (by simp)
  refine B7 <| A3 <| A0 <| A6 rfl rfl <| H9 rfl rfl rfl (fun _ => rfl) (by (change 0 < _; omega)) <| G5 rfl rfl rfl ?_
  rcases c6s w with ⟨ns, hns⟩ | ⟨hnn, hn⟩ | ⟨hnn, hn⟩ | ⟨hnn, hn⟩ | ⟨hnn, hn⟩
  ·skip
   apply C4 rfl
   ·apply A9
    ·exact B5 rfl
    exact C3
   ·exact (show CW (cxT oG) 76 [tV w] = some (.tup [tV lW, .own 1 (ns.map iV), bV true], []) from by have hi := a0o (oG := oG) w (by omega); rw [hns] at hi; exact hi)
   ·exact ⟨rfl, rfl, rfl, of_decide_eq_true rfl, rfl⟩
   ·exact .inr ⟨by simp [hasList, E7], rfl⟩
   ·exact B1
   ·exact J5 (J2 rfl (T1 fun _ => J2 rfl S8))
   ·exact fun _ => D6 (B2 (B0 fun _ => rfl)) (by rfl)
   intro g21
   try simp only [List.length_map]
   refine A6 rfl rfl <| B4 rfl rfl rfl <| B4 rfl rfl rfl <| B4 rfl rfl rfl <| A4 rfl rfl rfl ?_
   (refine B9 rfl rfl (by (simp; done)) rfl (fun _ => (B2 (by exact B0 fun _ => rfl))) (fun _ => rfl) ?_; intro g6)
   refine A4 rfl rfl rfl ?_
   refine A5 ⟨nofun, _, kS [0,2,5,6,7] [2,6] rfl, ?_⟩
   refine A3 <| A3 <| A0 <| A6 rfl rfl <| P1 rfl ?_
   refine A5 ⟨nofun, _, kS [0,2,5,6,26] [2,6] rfl, ?_⟩
   refine A8 rfl (fun hc => absurd hc (by decide)) (fun hc => ?_)
   refine B7 <| A3 <| A0 <| A6 rfl rfl <| A6 rfl rfl <| K8 (fs := [_, _, _]) rfl rfl rfl rfl rfl <| A6 rfl rfl <| L5 rfl rfl rfl (Mv.sized_map fun _ => rfl) H4 (H1 (n := 1) rfl) (by simp) ?_
   rw [show ((List.map tV (w :: ws1)).drop 1).take ((List.map tV (w :: ws1)).length - 1) = ws1.map tV from by rw [List.map_cons, List.drop_succ_cons, List.drop_zero, List.take_of_length_le (by simp)]]
   refine H7 rfl (fun _ => C1 rfl) (fun _ => rfl) ?_
   intro g8
   refine K5 rfl rfl rfl rfl (O1 rfl (a2l (by decide) (O1 rfl a0q))) (fun _ => rfl) ⟨by decide, rfl, of_decide_eq_true rfl, Nat.le_refl _⟩ (fun _ => rfl) (fun _ => rfl) (fun _ => (by rfl)) ?_
   intro z
   simp only [U4, List.cons_append, List.nil_append]
   refine A4 rfl rfl rfl ?_
   refine A5 ⟨fun _ => ⟨by (simp only [a2p, List.nil_append, List.append_nil, List.map_cons, List.map_nil, List.cons_append]; decide +kernel), by decide +kernel⟩, [(.t 2, _), (.t 5, _), (.t 8, _), (.t 9, _), (.h 2, _), (.h 8, _), (.h 6, _)], ⟨rfl, rfl, rfl, rfl, rfl, rfl, rfl, rfl, rfl, rfl, rfl, rfl, rfl, rfl, trivial⟩, ?_⟩
   refine A3 <| A3 <| A0 <| A6 rfl rfl ?_
   apply C4 rfl
   ·apply A9
    ·exact B5 rfl
    exact C3
   ·exact a6e (bA lW)
   ·exact ⟨rfl, rfl, rfl, of_decide_eq_true rfl, rfl⟩
   ·exact .inl rfl
   ·exact B1
   ·exact C0 rfl
   ·exact fun _ => rfl
   intro g34
   rw [show nd (bA lW) = 0 from d0p rfl]
   refine A6 rfl rfl ?_
   refine A5 ⟨nofun, _, kS [2,8,9,34,35] [2,8,6] rfl, ?_⟩
   refine E3 <| M0 <| A3 <| A0 <| K7 rfl rfl ?_
   refine A5 ⟨nofun, _, kS [2,8,9,34,35,36] [2,8,6] rfl, ?_⟩
   refine A3 ?_
   refine A8 rfl (fun hc => absurd hc (by decide)) (fun hc => ?_)
   refine J3 <| A3 <| A0 <| F8 rfl rfl rfl rfl rfl <| A6 rfl rfl <| K5 rfl rfl rfl rfl (O1 rfl (a2l (by decide) (O1 rfl a0q))) (fun _ => rfl) ⟨by decide, rfl, of_decide_eq_true rfl, Nat.le_refl _⟩ (fun _ => rfl) (fun _ => rfl) (fun _ => (by rfl)) ?_
   intro z
   simp only [U4, List.cons_append, List.nil_append]
   refine A4 rfl rfl rfl <| A4 rfl rfl rfl ?_
   refine A5 ⟨nofun, _, kS [2,3,4] [2,6] rfl, ?_⟩
   refine B3 <| D8 (H2 rfl rfl rfl rfl (H3 rfl (a1z rfl rfl (by simp) (fun _ => rfl) (H6 rfl J9))) (E4 rfl rfl (E4 rfl rfl (F3 C6)))) ?_
   rw [b8t hns]
   rfl
  ·skip
   apply C4 rfl
   ·apply A9
    ·exact B5 rfl
    exact C3
   ·exact (show CW (cxT oG) 76 [tV w] = some (.tup [tV w, .own 1 [], bV true], []) from by have hi := a0o (oG := oG) w (by omega); rw [hnn] at hi; rw [show decide (0 ≤ rch (bA w)) = true from decide_eq_true (by omega)] at hi; exact hi)
   ·exact ⟨rfl, rfl, rfl, of_decide_eq_true rfl, rfl⟩
   ·exact .inr ⟨rfl, rfl⟩
   ·exact B1
   ·exact J5 (J2 rfl (T1 fun _ => J2 rfl S8))
   ·exact fun _ => D6 (B2 rfl) (by rfl)
   intro g21
   try simp only [List.length_map]
   refine A6 rfl rfl <| B4 rfl rfl rfl <| B4 rfl rfl rfl <| B4 rfl rfl rfl <| A4 rfl rfl rfl ?_
   (refine B9 rfl rfl (by (simp; done)) rfl (fun _ => (B2 (by rfl))) (fun _ => rfl) ?_; intro g6)
   refine A4 rfl rfl rfl ?_
   refine A5 ⟨nofun, _, kS [0,2,5,6,7] [2,6] rfl, ?_⟩
   refine A3 <| A3 <| A0 <| A6 rfl rfl <| P1 rfl ?_
   refine A5 ⟨nofun, _, kS [0,2,5,6,26] [2,6] rfl, ?_⟩
   refine A8 rfl (fun hc => absurd hc (by decide)) (fun hc => ?_)
   refine B7 <| A3 <| A0 <| A6 rfl rfl <| A6 rfl rfl <| K8 (fs := [_, _, _]) rfl rfl rfl rfl rfl <| A6 rfl rfl <| L5 rfl rfl rfl (Mv.sized_map fun _ => rfl) H4 (H1 (n := 1) rfl) (by simp) ?_
   rw [show ((List.map tV (w :: ws1)).drop 1).take ((List.map tV (w :: ws1)).length - 1) = ws1.map tV from by rw [List.map_cons, List.drop_succ_cons, List.drop_zero, List.take_of_length_le (by simp)]]
   refine H7 rfl (fun _ => C1 rfl) (fun _ => rfl) ?_
   intro g8
   refine K5 rfl rfl rfl rfl (O1 rfl (a2l (by decide) (O1 rfl a0q))) (fun _ => rfl) ⟨by decide, rfl, of_decide_eq_true rfl, Nat.le_refl _⟩ (fun _ => rfl) (fun _ => rfl) (fun _ => (by rfl)) ?_
   intro z
   simp only [U4, List.cons_append, List.nil_append]
   refine A4 rfl rfl rfl ?_
   refine A5 ⟨fun _ => ⟨by (simp only [a2p, List.nil_append, List.append_nil, List.map_cons, List.map_nil, List.cons_append]; decide +kernel), by decide +kernel⟩, [(.t 2, _), (.t 5, _), (.t 8, _), (.t 9, _), (.h 2, _), (.h 8, _), (.h 6, _)], ⟨rfl, rfl, rfl, rfl, rfl, rfl, rfl, rfl, rfl, rfl, rfl, rfl, rfl, rfl, trivial⟩, ?_⟩
   refine A3 <| A3 <| A0 <| A6 rfl rfl ?_
   apply C4 rfl
   ·apply A9
    ·exact B5 rfl
    exact C3
   ·exact a6e (bA w)
   ·exact ⟨rfl, rfl, rfl, of_decide_eq_true rfl, rfl⟩
   ·exact .inl rfl
   ·exact B1
   ·exact C0 rfl
   ·exact fun _ => rfl
   intro g34
   rw [show nd (bA w) = 0 from (a8k (by omega)).trans hn]
   refine A6 rfl rfl ?_
   refine A5 ⟨nofun, _, kS [2,8,9,34,35] [2,8,6] rfl, ?_⟩
   refine E3 <| M0 <| A3 <| A0 <| K7 rfl rfl ?_
   refine A5 ⟨nofun, _, kS [2,8,9,34,35,36] [2,8,6] rfl, ?_⟩
   refine A3 ?_
   refine A8 rfl (fun hc => absurd hc (by decide)) (fun hc => ?_)
   refine J3 <| A3 <| A0 <| F8 rfl rfl rfl rfl rfl <| A6 rfl rfl <| K5 rfl rfl rfl rfl (O1 rfl (a2l (by decide) (O1 rfl a0q))) (fun _ => rfl) ⟨by decide, rfl, of_decide_eq_true rfl, Nat.le_refl _⟩ (fun _ => rfl) (fun _ => rfl) (fun _ => (by rfl)) ?_
   intro z
   simp only [U4, List.cons_append, List.nil_append]
   refine A4 rfl rfl rfl <| A4 rfl rfl rfl ?_
   refine A5 ⟨nofun, _, kS [2,3,4] [2,6] rfl, ?_⟩
   refine B3 <| D8 (H2 rfl rfl rfl rfl (H3 rfl (b6c rfl rfl rfl (H6 rfl J9))) (E4 rfl rfl (E4 rfl rfl (F3 C6)))) ?_
   rw [c4h hnn hn]
   rfl
  ·skip
   apply C4 rfl
   ·apply A9
    ·exact B5 rfl
    exact C3
   ·exact (show CW (cxT oG) 76 [tV w] = some (.tup [tV w, .own 1 [], bV true], []) from by have hi := a0o (oG := oG) w (by omega); rw [hnn] at hi; rw [show decide (0 ≤ rch (bA w)) = true from decide_eq_true (by omega)] at hi; exact hi)
   ·exact ⟨rfl, rfl, rfl, of_decide_eq_true rfl, rfl⟩
   ·exact .inr ⟨rfl, rfl⟩
   ·exact B1
   ·exact J5 (J2 rfl (T1 fun _ => J2 rfl S8))
   ·exact fun _ => D6 (B2 rfl) (by rfl)
   intro g21
   try simp only [List.length_map]
   refine A6 rfl rfl <| B4 rfl rfl rfl <| B4 rfl rfl rfl <| B4 rfl rfl rfl <| A4 rfl rfl rfl ?_
   (refine B9 rfl rfl (by (simp; done)) rfl (fun _ => (B2 (by rfl))) (fun _ => rfl) ?_; intro g6)
   refine A4 rfl rfl rfl ?_
   refine A5 ⟨nofun, _, kS [0,2,5,6,7] [2,6] rfl, ?_⟩
   refine A3 <| A3 <| A0 <| A6 rfl rfl <| P1 rfl ?_
   refine A5 ⟨nofun, _, kS [0,2,5,6,26] [2,6] rfl, ?_⟩
   refine A8 rfl (fun hc => absurd hc (by decide)) (fun hc => ?_)
   refine B7 <| A3 <| A0 <| A6 rfl rfl <| A6 rfl rfl <| K8 (fs := [_, _, _]) rfl rfl rfl rfl rfl <| A6 rfl rfl <| L5 rfl rfl rfl (Mv.sized_map fun _ => rfl) H4 (H1 (n := 1) rfl) (by simp) ?_
   rw [show ((List.map tV (w :: ws1)).drop 1).take ((List.map tV (w :: ws1)).length - 1) = ws1.map tV from by rw [List.map_cons, List.drop_succ_cons, List.drop_zero, List.take_of_length_le (by simp)]]
   refine H7 rfl (fun _ => C1 rfl) (fun _ => rfl) ?_
   intro g8
   refine K5 rfl rfl rfl rfl (O1 rfl (a2l (by decide) (O1 rfl a0q))) (fun _ => rfl) ⟨by decide, rfl, of_decide_eq_true rfl, Nat.le_refl _⟩ (fun _ => rfl) (fun _ => rfl) (fun _ => (by rfl)) ?_
   intro z
   simp only [U4, List.cons_append, List.nil_append]
   refine A4 rfl rfl rfl ?_
   refine A5 ⟨fun _ => ⟨by (simp only [a2p, List.nil_append, List.append_nil, List.map_cons, List.map_nil, List.cons_append]; decide +kernel), by decide +kernel⟩, [(.t 2, _), (.t 5, _), (.t 8, _), (.t 9, _), (.h 2, _), (.h 8, _), (.h 6, _)], ⟨rfl, rfl, rfl, rfl, rfl, rfl, rfl, rfl, rfl, rfl, rfl, rfl, rfl, rfl, trivial⟩, ?_⟩
   refine A3 <| A3 <| A0 <| A6 rfl rfl ?_
   apply C4 rfl
   ·apply A9
    ·exact B5 rfl
    exact C3
   ·exact a6e (bA w)
   ·exact ⟨rfl, rfl, rfl, of_decide_eq_true rfl, rfl⟩
   ·exact .inl rfl
   ·exact B1
   ·exact C0 rfl
   ·exact fun _ => rfl
   intro g34
   rw [show nd (bA w) = 1 from (a8k (by omega)).trans hn]
   refine A6 rfl rfl ?_
   refine A5 ⟨nofun, _, kS [2,8,9,34,35] [2,8,6] rfl, ?_⟩
   refine E3 <| M0 <| A3 <| A0 <| K7 rfl rfl ?_
   refine A5 ⟨nofun, _, kS [2,8,9,34,35,36] [2,8,6] rfl, ?_⟩
   refine A3 ?_
   refine A8 rfl (fun hc => ?_) (fun hc => absurd hc (by decide))
   refine B7 <| A3 <| E3 <| A3 <| A0 <| A6 rfl rfl ?_
   rcases hr1 : rdT ws1 with _ | ⟨k1, r1⟩
   ·skip
    apply C4 rfl
    ·apply A9
     ·exact B5 rfl
     exact C3
    ·exact (by have hi := ih ws1 ⟨by simp only [List.length_cons] at hws; omega, fun x hx => hws.2 x (List.mem_cons_of_mem _ hx)⟩ (by simp only [List.length_cons] at hkk; omega); rw [hr1] at hi; exact hi)
    ·exact ⟨rfl, rfl, rfl, of_decide_eq_true rfl, rfl⟩
    ·exact .inl rfl
    ·exact B1
    ·exact J5 (J2 rfl (T1 fun _ => J2 rfl S8))
    ·exact fun _ => D6 (B2 rfl) (by rfl)
    intro g39
    refine A6 rfl rfl <| B4 rfl rfl rfl <| B4 rfl rfl rfl <| B4 rfl rfl rfl <| H7 rfl (fun _ => C1 rfl) (fun _ => rfl) ?_
    intro g10
    refine C5 rfl rfl rfl rfl ⟨by decide, rfl, of_decide_eq_true rfl, of_decide_eq_true rfl, rfl⟩ rfl (by exact C1 rfl) ?_
    (refine B9 rfl rfl (by (simp; done)) rfl (fun _ => (B2 (by rfl))) (fun _ => rfl) ?_; intro g11)
    refine A4 rfl rfl rfl ?_
    refine A5 ⟨nofun, _, kS [2,8,10,11,12,34,35] [2,8,6,10] rfl, ?_⟩
    refine A3 <| A3 <| A0 <| A6 rfl rfl <| P1 rfl ?_
    refine A5 ⟨nofun, _, kS [2,8,10,11,34,35,44] [2,8,6,10] rfl, ?_⟩
    refine A8 rfl (fun hc => ?_) (fun hc => absurd hc (by decide))
    refine A3 <| A0 <| K8 (fs := [_, _, _]) rfl rfl rfl rfl rfl <| C5 rfl rfl rfl rfl ⟨by decide, rfl, of_decide_eq_true rfl, of_decide_eq_true rfl, rfl⟩ rfl (by exact C1 rfl) ?_
    (refine B8 rfl rfl (fun _ => rfl) ?_; intro g3)
    refine A4 rfl rfl rfl ?_
    refine A5 ⟨nofun, _, kS [2,3,4] [2,3] rfl, ?_⟩
    refine B3 <| D8 (H2 rfl rfl rfl rfl (H3 rfl (H6 rfl (H6 rfl J9))) (G9 rfl rfl (by simp) (by rfl) (E4 rfl rfl (F3 C6)))) ?_
    rw [b6m hnn hn, hr1]
    rfl
   skip
   apply C4 rfl
   ·apply A9
    ·exact B5 rfl
    exact C3
   ·exact (by have hi := ih ws1 ⟨by simp only [List.length_cons] at hws; omega, fun x hx => hws.2 x (List.mem_cons_of_mem _ hx)⟩ (by simp only [List.length_cons] at hkk; omega); rw [hr1] at hi; exact hi)
   ·exact ⟨rfl, rfl, rfl, of_decide_eq_true rfl, rfl⟩
   ·exact .inl rfl
   ·exact B1
   ·exact L2 rfl
   ·exact fun _ => rfl
   intro g39
   refine A6 rfl rfl <| B4 rfl rfl rfl <| B4 rfl rfl rfl <| B4 rfl rfl rfl <| H7 rfl (fun _ => C1 rfl) (fun _ => rfl) ?_
   intro g10
   refine C5 rfl rfl rfl rfl ⟨by decide, rfl, of_decide_eq_true rfl, of_decide_eq_true rfl, rfl⟩ rfl (by exact C1 rfl) <| A4 rfl rfl rfl <| A4 rfl rfl rfl ?_
   refine A5 ⟨nofun, _, kS [2,8,10,11,12,34,35] [2,8,6,10] rfl, ?_⟩
   refine A3 <| A3 <| A0 <| A6 rfl rfl <| P1 rfl ?_
   refine A5 ⟨nofun, _, kS [2,8,10,11,34,35,44] [2,8,6,10] rfl, ?_⟩
   refine A8 rfl (fun hc => absurd hc (by decide)) (fun hc => ?_)
   refine B7 <| A3 <| A0 <| D7 rfl rfl (of_decide_eq_true rfl) rfl rfl <| E9 rfl rfl rfl rfl rfl rfl <| F8 rfl rfl rfl rfl rfl <| D3 (es := List.map trV [_]) rfl rfl (of_decide_eq_true rfl) rfl rfl (fun _ => B2 (B0 fun _ => rfl)) (fun _ => rfl) ?_
   intro g49
   refine X1 rfl rfl rfl (by simp) (by decide) rfl rfl rfl (of_decide_eq_true rfl) (fun _ => ⟨rfl, rfl⟩) (by simp only [G7]; (simp only [List.length_nil, List.length_cons, List.length_append, Nat.zero_add, List.length_map]; omega)) (fun _ => rfl) ?_
   intro g50
   refine D7 rfl rfl (of_decide_eq_true rfl) rfl rfl <| R5 rfl rfl rfl rfl rfl (Nat.le_refl _) rfl ?_
   refine A5 ⟨nofun, _, kS [2,8,11,34,35] [2,8,6,1000050] rfl, ?_⟩
   refine A0 <| A6 rfl rfl <| A4 rfl rfl rfl ?_
   refine A5 ⟨nofun, _, kS [2,8,9,34,35] [2,8,6,1000050] rfl, ?_⟩
   refine A0 <| K3 rfl rfl (F7 (by omega)) <| A6 rfl rfl ?_
   refine A5 ⟨nofun, _, kS [2,8,9,34,35] [2,8,6,1000050] rfl, ?_⟩
   refine M0 <| A3 <| A0 <| K7 rfl rfl ?_
   refine A5 ⟨nofun, _, kS [2,8,9,34,35,36] [2,8,6,1000050] rfl, ?_⟩
   refine A3 ?_
   refine A8 rfl (fun hc => absurd hc (by decide)) (fun hc => ?_)
   refine J3 <| A3 <| A0 <| F8 rfl rfl rfl rfl rfl <| A6 rfl rfl <| K5 rfl rfl rfl rfl (O1 rfl (a2l (by decide) (b0d (by decide) (by decide) rfl (by simp) fun _ => a0q))) (fun _ => rfl) ⟨by decide, rfl, of_decide_eq_true rfl, Nat.le_refl _⟩ (fun _ => rfl) (fun _ => rfl) (fun _ => D6 (by rfl) (D6 (B2 (B0 fun _ => rfl)) (by rfl))) ?_
   intro z
   simp only [U4, List.cons_append, List.nil_append]
   refine A4 rfl rfl rfl <| A4 rfl rfl rfl ?_
   refine A5 ⟨nofun, _, kS [2,3,4] [2,6,300002] rfl, ?_⟩
   refine B3 <| D8 (H2 rfl rfl rfl rfl (H3 rfl (b6c rfl rfl rfl (a1z rfl rfl (by simp) (fun _ => rfl) J9))) (E4 rfl rfl (E4 rfl rfl (F3 C6)))) ?_
   rw [b6m hnn hn, hr1]
   rfl
  ·skip
   apply C4 rfl
   ·apply A9
    ·exact B5 rfl
    exact C3
   ·exact (show CW (cxT oG) 76 [tV w] = some (.tup [tV w, .own 1 [], bV true], []) from by have hi := a0o (oG := oG) w (by omega); rw [hnn] at hi; rw [show decide (0 ≤ rch (bA w)) = true from decide_eq_true (by omega)] at hi; exact hi)
   ·exact ⟨rfl, rfl, rfl, of_decide_eq_true rfl, rfl⟩
   ·exact .inr ⟨rfl, rfl⟩
   ·exact B1
   ·exact J5 (J2 rfl (T1 fun _ => J2 rfl S8))
   ·exact fun _ => D6 (B2 rfl) (by rfl)
   intro g21
   try simp only [List.length_map]
   refine A6 rfl rfl <| B4 rfl rfl rfl <| B4 rfl rfl rfl <| B4 rfl rfl rfl <| A4 rfl rfl rfl ?_
   (refine B9 rfl rfl (by (simp; done)) rfl (fun _ => (B2 (by rfl))) (fun _ => rfl) ?_; intro g6)
   refine A4 rfl rfl rfl ?_
   refine A5 ⟨nofun, _, kS [0,2,5,6,7] [2,6] rfl, ?_⟩
   refine A3 <| A3 <| A0 <| A6 rfl rfl <| P1 rfl ?_
   refine A5 ⟨nofun, _, kS [0,2,5,6,26] [2,6] rfl, ?_⟩
   refine A8 rfl (fun hc => absurd hc (by decide)) (fun hc => ?_)
   refine B7 <| A3 <| A0 <| A6 rfl rfl <| A6 rfl rfl <| K8 (fs := [_, _, _]) rfl rfl rfl rfl rfl <| A6 rfl rfl <| L5 rfl rfl rfl (Mv.sized_map fun _ => rfl) H4 (H1 (n := 1) rfl) (by simp) ?_
   rw [show ((List.map tV (w :: ws1)).drop 1).take ((List.map tV (w :: ws1)).length - 1) = ws1.map tV from by rw [List.map_cons, List.drop_succ_cons, List.drop_zero, List.take_of_length_le (by simp)]]
   refine H7 rfl (fun _ => C1 rfl) (fun _ => rfl) ?_
   intro g8
   refine K5 rfl rfl rfl rfl (O1 rfl (a2l (by decide) (O1 rfl a0q))) (fun _ => rfl) ⟨by decide, rfl, of_decide_eq_true rfl, Nat.le_refl _⟩ (fun _ => rfl) (fun _ => rfl) (fun _ => (by rfl)) ?_
   intro z
   simp only [U4, List.cons_append, List.nil_append]
   refine A4 rfl rfl rfl ?_
   refine A5 ⟨fun _ => ⟨by (simp only [a2p, List.nil_append, List.append_nil, List.map_cons, List.map_nil, List.cons_append]; decide +kernel), by decide +kernel⟩, [(.t 2, _), (.t 5, _), (.t 8, _), (.t 9, _), (.h 2, _), (.h 8, _), (.h 6, _)], ⟨rfl, rfl, rfl, rfl, rfl, rfl, rfl, rfl, rfl, rfl, rfl, rfl, rfl, rfl, trivial⟩, ?_⟩
   refine A3 <| A3 <| A0 <| A6 rfl rfl ?_
   apply C4 rfl
   ·apply A9
    ·exact B5 rfl
    exact C3
   ·exact a6e (bA w)
   ·exact ⟨rfl, rfl, rfl, of_decide_eq_true rfl, rfl⟩
   ·exact .inl rfl
   ·exact B1
   ·exact C0 rfl
   ·exact fun _ => rfl
   intro g34
   rw [show nd (bA w) = 2 from (a8k (by omega)).trans hn]
   refine A6 rfl rfl ?_
   refine A5 ⟨nofun, _, kS [2,8,9,34,35] [2,8,6] rfl, ?_⟩
   refine E3 <| M0 <| A3 <| A0 <| K7 rfl rfl ?_
   refine A5 ⟨nofun, _, kS [2,8,9,34,35,36] [2,8,6] rfl, ?_⟩
   refine A3 ?_
   refine A8 rfl (fun hc => ?_) (fun hc => absurd hc (by decide))
   refine B7 <| A3 <| E3 <| A3 <| A0 <| A6 rfl rfl ?_
   rcases hr1 : rdT ws1 with _ | ⟨k1, r1⟩
   ·skip
    apply C4 rfl
    ·apply A9
     ·exact B5 rfl
     exact C3
    ·exact (by have hi := ih ws1 ⟨by simp only [List.length_cons] at hws; omega, fun x hx => hws.2 x (List.mem_cons_of_mem _ hx)⟩ (by simp only [List.length_cons] at hkk; omega); rw [hr1] at hi; exact hi)
    ·exact ⟨rfl, rfl, rfl, of_decide_eq_true rfl, rfl⟩
    ·exact .inl rfl
    ·exact B1
    ·exact J5 (J2 rfl (T1 fun _ => J2 rfl S8))
    ·exact fun _ => D6 (B2 rfl) (by rfl)
    intro g39
    refine A6 rfl rfl <| B4 rfl rfl rfl <| B4 rfl rfl rfl <| B4 rfl rfl rfl <| H7 rfl (fun _ => C1 rfl) (fun _ => rfl) ?_
    intro g10
    refine C5 rfl rfl rfl rfl ⟨by decide, rfl, of_decide_eq_true rfl, of_decide_eq_true rfl, rfl⟩ rfl (by exact C1 rfl) ?_
    (refine B9 rfl rfl (by (simp; done)) rfl (fun _ => (B2 (by rfl))) (fun _ => rfl) ?_; intro g11)
    refine A4 rfl rfl rfl ?_
    refine A5 ⟨nofun, _, kS [2,8,10,11,12,34,35] [2,8,6,10] rfl, ?_⟩
    refine A3 <| A3 <| A0 <| A6 rfl rfl <| P1 rfl ?_
    refine A5 ⟨nofun, _, kS [2,8,10,11,34,35,44] [2,8,6,10] rfl, ?_⟩
    refine A8 rfl (fun hc => ?_) (fun hc => absurd hc (by decide))
    refine A3 <| A0 <| K8 (fs := [_, _, _]) rfl rfl rfl rfl rfl <| C5 rfl rfl rfl rfl ⟨by decide, rfl, of_decide_eq_true rfl, of_decide_eq_true rfl, rfl⟩ rfl (by exact C1 rfl) ?_
    (refine B8 rfl rfl (fun _ => rfl) ?_; intro g3)
    refine A4 rfl rfl rfl ?_
    refine A5 ⟨nofun, _, kS [2,3,4] [2,3] rfl, ?_⟩
    refine B3 <| D8 (H2 rfl rfl rfl rfl (H3 rfl (H6 rfl (H6 rfl J9))) (G9 rfl rfl (by simp) (by rfl) (E4 rfl rfl (F3 C6)))) ?_
    rw [a4o hnn hn, hr1]
    rfl
   skip
   apply C4 rfl
   ·apply A9
    ·exact B5 rfl
    exact C3
   ·exact (by have hi := ih ws1 ⟨by simp only [List.length_cons] at hws; omega, fun x hx => hws.2 x (List.mem_cons_of_mem _ hx)⟩ (by simp only [List.length_cons] at hkk; omega); rw [hr1] at hi; exact hi)
   ·exact ⟨rfl, rfl, rfl, of_decide_eq_true rfl, rfl⟩
   ·exact .inl rfl
   ·exact B1
   ·exact L2 rfl
   ·exact fun _ => rfl
   intro g39
   refine A6 rfl rfl <| B4 rfl rfl rfl <| B4 rfl rfl rfl <| B4 rfl rfl rfl <| H7 rfl (fun _ => C1 rfl) (fun _ => rfl) ?_
   intro g10
   refine C5 rfl rfl rfl rfl ⟨by decide, rfl, of_decide_eq_true rfl, of_decide_eq_true rfl, rfl⟩ rfl (by exact C1 rfl) <| A4 rfl rfl rfl <| A4 rfl rfl rfl ?_
   refine A5 ⟨nofun, _, kS [2,8,10,11,12,34,35] [2,8,6,10] rfl, ?_⟩
   refine A3 <| A3 <| A0 <| A6 rfl rfl <| P1 rfl ?_
   refine A5 ⟨nofun, _, kS [2,8,10,11,34,35,44] [2,8,6,10] rfl, ?_⟩
   refine A8 rfl (fun hc => absurd hc (by decide)) (fun hc => ?_)
   refine B7 <| A3 <| A0 <| D7 rfl rfl (of_decide_eq_true rfl) rfl rfl <| E9 rfl rfl rfl rfl rfl rfl <| F8 rfl rfl rfl rfl rfl <| D3 (es := List.map trV [_]) rfl rfl (of_decide_eq_true rfl) rfl rfl (fun _ => B2 (B0 fun _ => rfl)) (fun _ => rfl) ?_
   intro g49
   refine X1 rfl rfl rfl (by simp) (by decide) rfl rfl rfl (of_decide_eq_true rfl) (fun _ => ⟨rfl, rfl⟩) (by simp only [G7]; (simp only [List.length_nil, List.length_cons, List.length_append, Nat.zero_add, List.length_map]; omega)) (fun _ => rfl) ?_
   intro g50
   refine D7 rfl rfl (of_decide_eq_true rfl) rfl rfl <| R5 rfl rfl rfl rfl rfl (Nat.le_refl _) rfl ?_
   refine A5 ⟨nofun, _, kS [2,8,11,34,35] [2,8,6,1000050] rfl, ?_⟩
   refine A0 <| A6 rfl rfl <| A4 rfl rfl rfl ?_
   refine A5 ⟨nofun, _, kS [2,8,9,34,35] [2,8,6,1000050] rfl, ?_⟩
   refine A0 <| K3 rfl rfl (F7 (by omega)) <| A6 rfl rfl ?_
   refine A5 ⟨nofun, _, kS [2,8,9,34,35] [2,8,6,1000050] rfl, ?_⟩
   refine M0 <| A3 <| A0 <| K7 rfl rfl ?_
   refine A5 ⟨nofun, _, kS [2,8,9,34,35,36] [2,8,6,1000050] rfl, ?_⟩
   refine A3 ?_
   refine A8 rfl (fun hc => ?_) (fun hc => absurd hc (by decide))
   refine B7 <| A3 <| E3 <| A3 <| A0 <| A6 rfl rfl ?_
   rcases hr2 : rdT r1 with _ | ⟨k2, r2⟩
   ·skip
    apply C4 rfl
    ·apply A9
     ·exact B5 rfl
     exact C3
    ·exact (by have hi := ih r1 ⟨by have := Y4 hr1; simp only [List.length_cons] at hws; omega, fun x hx => hws.2 x (List.mem_cons_of_mem _ (b0f hr1 x hx))⟩ (by have := Y4 hr1; simp only [List.length_cons] at hkk; omega); rw [hr2] at hi; exact hi)
    ·exact ⟨rfl, rfl, rfl, of_decide_eq_true rfl, rfl⟩
    ·exact .inl rfl
    ·exact B1
    ·exact J5 (J2 rfl (T1 fun _ => J2 rfl S8))
    ·exact fun _ => D6 (B2 rfl) (by rfl)
    intro g39
    refine A6 rfl rfl <| B4 rfl rfl rfl <| B4 rfl rfl rfl <| B4 rfl rfl rfl <| H7 rfl (fun _ => C1 rfl) (fun _ => rfl) ?_
    intro g10
    refine C5 rfl rfl rfl rfl ⟨by decide, rfl, of_decide_eq_true rfl, of_decide_eq_true rfl, rfl⟩ rfl (by exact C1 rfl) ?_
    (refine B9 rfl rfl (by (simp; done)) rfl (fun _ => (B2 (by rfl))) (fun _ => rfl) ?_; intro g11)
    refine A4 rfl rfl rfl ?_
    refine A5 ⟨nofun, _, kS [2,8,10,11,12,34,35] [2,8,6,1000050,10] rfl, ?_⟩
    refine A3 <| A3 <| A0 <| A6 rfl rfl <| P1 rfl ?_
    refine A5 ⟨nofun, _, kS [2,8,10,11,34,35,44] [2,8,6,1000050,10] rfl, ?_⟩
    refine A8 rfl (fun hc => ?_) (fun hc => absurd hc (by decide))
    refine A3 <| A0 <| K8 (fs := [_, _, _]) rfl rfl rfl rfl rfl <| C5 rfl rfl rfl rfl ⟨by decide, rfl, of_decide_eq_true rfl, of_decide_eq_true rfl, rfl⟩ rfl (by exact C1 rfl) ?_
    (refine B8 rfl rfl (fun _ => rfl) ?_; intro g3)
    refine A4 rfl rfl rfl ?_
    refine A5 ⟨nofun, _, kS [2,3,4] [2,3] rfl, ?_⟩
    refine B3 <| D8 (H2 rfl rfl rfl rfl (H3 rfl (H6 rfl (H6 rfl J9))) (G9 rfl rfl (by simp) (by rfl) (E4 rfl rfl (F3 C6)))) ?_
    rw [a4o hnn hn, hr1, Option.bind_some, hr2]
    rfl
   skip
   apply C4 rfl
   ·apply A9
    ·exact B5 rfl
    exact C3
   ·exact (by have hi := ih r1 ⟨by have := Y4 hr1; simp only [List.length_cons] at hws; omega, fun x hx => hws.2 x (List.mem_cons_of_mem _ (b0f hr1 x hx))⟩ (by have := Y4 hr1; simp only [List.length_cons] at hkk; omega); rw [hr2] at hi; exact hi)
   ·exact ⟨rfl, rfl, rfl, of_decide_eq_true rfl, rfl⟩
   ·exact .inl rfl
   ·exact B1
   ·exact L2 rfl
   ·exact fun _ => rfl
   intro g39
   refine A6 rfl rfl <| B4 rfl rfl rfl <| B4 rfl rfl rfl <| B4 rfl rfl rfl <| H7 rfl (fun _ => C1 rfl) (fun _ => rfl) ?_
   intro g10
   refine C5 rfl rfl rfl rfl ⟨by decide, rfl, of_decide_eq_true rfl, of_decide_eq_true rfl, rfl⟩ rfl (by exact C1 rfl) <| A4 rfl rfl rfl <| A4 rfl rfl rfl ?_
   refine A5 ⟨nofun, _, kS [2,8,10,11,12,34,35] [2,8,6,1000050,10] rfl, ?_⟩
   refine A3 <| A3 <| A0 <| A6 rfl rfl <| P1 rfl ?_
   refine A5 ⟨nofun, _, kS [2,8,10,11,34,35,44] [2,8,6,1000050,10] rfl, ?_⟩
   refine A8 rfl (fun hc => absurd hc (by decide)) (fun hc => ?_)
   refine B7 <| A3 <| A0 <| D7 rfl rfl (of_decide_eq_true rfl) rfl rfl <| E9 rfl rfl rfl rfl rfl rfl <| F8 rfl rfl rfl rfl rfl <| D3 (es := List.map trV [_]) rfl rfl (of_decide_eq_true rfl) rfl rfl (fun _ => B2 (B0 fun _ => rfl)) (fun _ => rfl) ?_
   intro g49
   refine G8 rfl rfl rfl rfl (by (simp; done)) (by simp) (by decide) rfl rfl rfl rfl (of_decide_eq_true rfl) (fun _ => ⟨rfl, rfl⟩) (by simp only [G7]; (simp only [List.length_nil, List.length_cons, List.length_append, Nat.zero_add, List.length_map]; omega)) (fun _ => rfl) ?_
   intro g50
   refine D7 rfl rfl (of_decide_eq_true rfl) rfl rfl <| R5 rfl rfl rfl rfl rfl (Nat.le_refl _) rfl ?_
   refine A5 ⟨nofun, _, kS [2,8,11,34,35] [2,8,6,1000050] rfl, ?_⟩
   refine A0 <| A6 rfl rfl <| A4 rfl rfl rfl ?_
   refine A5 ⟨nofun, _, kS [2,8,9,34,35] [2,8,6,1000050] rfl, ?_⟩
   refine A0 <| K3 rfl rfl (F7 (by omega)) <| A6 rfl rfl ?_
   refine A5 ⟨nofun, _, kS [2,8,9,34,35] [2,8,6,1000050] rfl, ?_⟩
   refine M0 <| A3 <| A0 <| K7 rfl rfl ?_
   refine A5 ⟨nofun, _, kS [2,8,9,34,35,36] [2,8,6,1000050] rfl, ?_⟩
   refine A3 ?_
   refine A8 rfl (fun hc => absurd hc (by decide)) (fun hc => ?_)
   refine J3 <| A3 <| A0 <| F8 rfl rfl rfl rfl rfl <| A6 rfl rfl <| K5 rfl rfl rfl rfl (O1 rfl (a2l (by decide) (b0d (by decide) (by decide) rfl (by simp) fun _ => a0q))) (fun _ => rfl) ⟨by decide, rfl, of_decide_eq_true rfl, Nat.le_refl _⟩ (fun _ => rfl) (fun _ => rfl) (fun _ => D6 (by rfl) (D6 (B2 (B0 fun _ => rfl)) (by rfl))) ?_
   intro z
   simp only [U4, List.cons_append, List.nil_append]
   refine A4 rfl rfl rfl <| A4 rfl rfl rfl ?_
   refine A5 ⟨nofun, _, kS [2,3,4] [2,6,300002] rfl, ?_⟩
   refine B3 <| D8 (H2 rfl rfl rfl rfl (H3 rfl (b6c rfl rfl rfl (a1z rfl rfl (by simp) (fun _ => rfl) J9))) (E4 rfl rfl (E4 rfl rfl (F3 C6)))) ?_
   rw [a4o hnn hn, hr1, Option.bind_some, hr2]
   rfl
  skip
  apply C4 rfl
  ·apply A9
   ·exact B5 rfl
   exact C3
  ·exact (show CW (cxT oG) 76 [tV w] = some (.tup [tV w, .own 1 [], bV false], []) from by have hi := a0o (oG := oG) w (by omega); rw [hnn] at hi; rw [show decide (0 ≤ rch (bA w)) = false from decide_eq_false (by omega)] at hi; exact hi)
  ·exact ⟨rfl, rfl, rfl, of_decide_eq_true rfl, rfl⟩
  ·exact .inr ⟨rfl, rfl⟩
  ·exact B1
  ·exact J5 (J2 rfl (T1 fun _ => J2 rfl S8))
  ·exact fun _ => D6 (B2 rfl) (by rfl)
  intro g21
  try simp only [List.length_map]
  refine A6 rfl rfl <| B4 rfl rfl rfl <| B4 rfl rfl rfl <| B4 rfl rfl rfl <| A4 rfl rfl rfl ?_
  (refine B9 rfl rfl (by (simp; done)) rfl (fun _ => (B2 (by rfl))) (fun _ => rfl) ?_; intro g6)
  refine A4 rfl rfl rfl ?_
  refine A5 ⟨nofun, _, kS [0,2,5,6,7] [2,6] rfl, ?_⟩
  refine A3 <| A3 <| A0 <| A6 rfl rfl <| P1 rfl ?_
  refine A5 ⟨nofun, _, kS [0,2,5,6,26] [2,6] rfl, ?_⟩
  refine A8 rfl (fun hc => ?_) (fun hc => absurd hc (by decide))
  refine A3 <| A0 <| K8 (fs := [_, _, _]) rfl rfl rfl rfl rfl <| C5 rfl rfl rfl rfl ⟨by decide, rfl, of_decide_eq_true rfl, of_decide_eq_true rfl, rfl⟩ rfl (by exact C1 rfl) ?_
  (refine B8 rfl rfl (fun _ => rfl) ?_; intro g3)
  refine A4 rfl rfl rfl ?_
  refine A5 ⟨nofun, _, kS [2,3,4] [2,3] rfl, ?_⟩
  refine B3 <| D8 (H2 rfl rfl rfl rfl (H3 rfl (H6 rfl (H6 rfl J9))) (G9 rfl rfl (by simp) (by rfl) (E4 rfl rfl (F3 C6)))) ?_
  rw [c3s hnn hn]
  rfl

theorem keep_s_readPlanI : F9 Tryz.f48 = [0, 2, 3, 4, 6, 7, 5, 12] := by kernel_rfl
set_option maxHeartbeats 20000000 in
theorem b7g (s : List UInt8) (hs : s.length ≤ 1048576) : CW (cxT oG) 48 [tV s] = some (.tup [trV (ipT s), bV (c2g s)], []) := by
 obtain ⟨ws, hws⟩ : ∃ ws, ws = splitB 32 s := ⟨_, rfl⟩
 have hwl := T4 32 s
 have hwp := Y3 32 s
 rw [← hws] at hwl hwp
 refine G4 rfl Tryz.func48 rfl ⟨by kernel_rfl, rfl, of_decide_eq_true rfl, of_decide_eq_true rfl, by decide⟩ keep_s_readPlanI <| A3 <| A0 <| H7 rfl (fun _ => C1 rfl) (fun _ => rfl) ?_
 intro g2
 refine A4 rfl rfl rfl ?_
 refine A5 ⟨nofun, _, kS [0,2] [2] rfl, ?_⟩
 refine A3 <| A0 <| A6 rfl rfl ?_
 apply C4 rfl
 ·apply A9
  ·exact B5 rfl
  apply A9
  ·exact B5 rfl
  exact C3
 ·exact c4f s 32 (by omega)
 ·exact ⟨rfl, rfl, rfl, of_decide_eq_true rfl, rfl⟩
 ·exact .inl rfl
 ·exact B1
 ·exact O9
 ·exact fun _ => rfl
 intro g9
 rw [← hws]
 try simp only [List.length_map]
 (refine B9 rfl rfl (by (simp; done)) rfl (fun _ => (B2 (by exact B0 fun _ => rfl))) (fun _ => rfl) ?_; intro g4)
 refine A5 ⟨nofun, _, kS [2,4] [2,4] rfl, ?_⟩
 refine A3 <| A0 <| A6 rfl rfl ?_
 rcases hr : rdT ws with _ | ⟨t, r⟩
 ·skip
  apply C4 rfl
  ·apply A9
   ·exact I0 rfl rfl (by (simp; done)) (fun _ => rfl)
   exact C3
  ·exact (by have hi := a8l (oG := oG) ws ⟨by omega, fun w hw => by have := hwp w hw; omega⟩; rw [hr] at hi; exact hi)
  ·exact ⟨rfl, rfl, rfl, of_decide_eq_true rfl, rfl⟩
  ·exact .inl rfl
  ·exact B1
  ·exact J5 (J2 rfl (T1 fun _ => J2 rfl S8))
  ·exact fun _ => D6 (a4l (B0 fun _ => rfl) (by decide)) (by rfl)
  intro g12
  refine A6 rfl rfl <| B4 rfl rfl rfl <| B4 rfl rfl rfl <| B4 rfl rfl rfl <| H7 rfl (fun _ => C1 rfl) (fun _ => rfl) ?_
  intro g5
  refine C5 rfl rfl rfl rfl ⟨by decide, rfl, of_decide_eq_true rfl, of_decide_eq_true rfl, rfl⟩ rfl (by exact C1 rfl) ?_
  (refine B9 rfl rfl (by (simp; done)) rfl (fun _ => (B2 (by rfl))) (fun _ => rfl) ?_; intro g6)
  refine A4 rfl rfl rfl ?_
  refine A5 ⟨nofun, _, kS [2,4,5,6,7] [2,4,5] rfl, ?_⟩
  refine A3 <| A0 <| F8 rfl rfl rfl rfl rfl <| A6 rfl rfl <| A6 rfl rfl <| H5 rfl rfl rfl <| H5 rfl rfl rfl <| H5 rfl rfl rfl <| G6 rfl rfl rfl rfl <| A6 rfl rfl <| H5 rfl rfl rfl <| H5 rfl rfl rfl <| H5 rfl rfl rfl <| G6 rfl rfl rfl rfl <| C5 rfl rfl rfl rfl ⟨by decide, rfl, of_decide_eq_true rfl, of_decide_eq_true rfl, rfl⟩ rfl (by exact C1 rfl) <| A4 rfl rfl rfl ?_
  refine A5 ⟨nofun, _, kS [2,3] [2] rfl, ?_⟩
  refine B3 <| D8 (H2 rfl rfl rfl rfl (H3 rfl (H3 rfl (H3 rfl J9))) (E4 rfl rfl (F3 C6))) ?_
  obtain ⟨h1, h2⟩ := d0h hws hr
  rw [h1, h2]
  rfl
 skip
 apply C4 rfl
 ·apply A9
  ·exact I0 rfl rfl (by (simp; done)) (fun _ => rfl)
  exact C3
 ·exact (by have hi := a8l (oG := oG) ws ⟨by omega, fun w hw => by have := hwp w hw; omega⟩; rw [hr] at hi; exact hi)
 ·exact ⟨rfl, rfl, rfl, of_decide_eq_true rfl, rfl⟩
 ·exact .inl rfl
 ·exact B1
 ·exact L2 rfl
 ·exact fun _ => D6 (a4l (B0 fun _ => rfl) (by decide)) (by rfl)
 intro g12
 refine A6 rfl rfl <| B4 rfl rfl rfl <| B4 rfl rfl rfl <| B4 rfl rfl rfl <| H7 rfl (fun _ => C1 rfl) (fun _ => rfl) ?_
 intro g5
 refine C5 rfl rfl rfl rfl ⟨by decide, rfl, of_decide_eq_true rfl, of_decide_eq_true rfl, rfl⟩ rfl (by exact C1 rfl) <| A4 rfl rfl rfl <| A4 rfl rfl rfl ?_
 refine A5 ⟨nofun, _, kS [2,4,5,6,7] [2,4,5] rfl, ?_⟩
 refine A3 <| A0 <| F8 rfl rfl rfl rfl rfl <| A6 rfl rfl <| A6 rfl rfl <| N7 rfl rfl rfl <| A6 rfl rfl <| N7 rfl rfl rfl <| H0 rfl rfl <| N7 rfl rfl rfl <| S6 rfl rfl <| G1 rfl rfl rfl rfl <| A6 rfl rfl ?_
 refine D9 rfl rfl (fun hg0 => ?_) (fun hg0 => ?_)
 ·have hg := hg0; try simp only [SG] at hg
  refine A6 rfl rfl <| gT rfl rfl <| Q5 rfl rfl <| gT rfl rfl <| b2g rfl rfl <| G1 rfl (by assumption) rfl rfl <| C5 rfl rfl rfl rfl ⟨by decide, rfl, of_decide_eq_true rfl, of_decide_eq_true rfl, rfl⟩ rfl (by exact C1 rfl) <| A4 rfl rfl rfl ?_
  refine A5 ⟨nofun, _, kS [2,3] [2] rfl, ?_⟩
  refine B3 <| D8 (H2 rfl rfl rfl rfl (H3 rfl (H3 rfl (H3 rfl J9))) (E4 rfl rfl (F3 C6))) ?_
  obtain ⟨h1, h2⟩ := c3p hws hr
  rw [h1, h2]
  simp_all
  try rfl
 have hg := hg0; try simp only [SG] at hg
 refine gF rfl rfl <| gF rfl rfl <| G6 rfl (by assumption) rfl rfl <| C5 rfl rfl rfl rfl ⟨by decide, rfl, of_decide_eq_true rfl, of_decide_eq_true rfl, rfl⟩ rfl (by exact C1 rfl) <| A4 rfl rfl rfl ?_
 refine A5 ⟨nofun, _, kS [2,3] [2] rfl, ?_⟩
 refine B3 <| D8 (H2 rfl rfl rfl rfl (H3 rfl (H3 rfl (H3 rfl J9))) (E4 rfl rfl (F3 C6))) ?_
 obtain ⟨h1, h2⟩ := c3p hws hr
 rw [h1, h2]
 simp_all
 try rfl

theorem keep_s_validPlan : F9 Tryz.f25 = [0, 2, 3, 5, 4, 8] := by kernel_rfl
set_option maxHeartbeats 20000000 in
theorem c0l (s : List UInt8) (hs : s.length ≤ 1048576) : CW (cxT oG) 25 [tV s] = some (.tup [trV (ipT s), bV (rdPlan s).isSome], []) := by
 have hip := d4f s
 refine G4 rfl Tryz.func25 rfl ⟨by kernel_rfl, rfl, of_decide_eq_true rfl, of_decide_eq_true rfl, by decide⟩ keep_s_validPlan <| A3 <| A0 <| H7 rfl (fun _ => C1 rfl) (fun _ => rfl) ?_
 intro g2
 refine A4 rfl rfl rfl ?_
 refine A5 ⟨nofun, _, kS [0,2] [2] rfl, ?_⟩
 refine A3 <| A0 <| A6 rfl rfl ?_
 apply C4 rfl
 ·apply A9
  ·exact B5 rfl
  exact C3
 ·exact b7g s hs
 ·exact ⟨rfl, rfl, rfl, of_decide_eq_true rfl, rfl⟩
 ·exact .inl rfl
 ·exact B1
 ·exact L2 rfl
 ·exact fun _ => rfl
 intro g8
 refine A6 rfl rfl <| B4 rfl rfl rfl <| B4 rfl rfl rfl <| H7 rfl (fun _ => C1 rfl) (fun _ => rfl) ?_
 intro g4
 refine C5 rfl rfl rfl rfl ⟨by decide, rfl, of_decide_eq_true rfl, of_decide_eq_true rfl, rfl⟩ rfl (by exact C1 rfl) <| A4 rfl rfl rfl ?_
 refine A5 ⟨nofun, _, kS [0,2,4,5] [2,4] rfl, ?_⟩
 refine A3 <| A0 <| F8 rfl rfl rfl rfl rfl <| A6 rfl rfl <| A6 rfl rfl ?_
 refine D9 rfl rfl (fun hg0 => ?_) (fun hg0 => ?_)
 ·have hg := hg0; try simp only [SG] at hg
  refine A6 rfl rfl <| gT rfl rfl <| Z1 rfl rfl <| gT rfl rfl <| b2g rfl rfl <| G1 rfl (by assumption) rfl rfl <| C5 rfl rfl rfl rfl ⟨by decide, rfl, of_decide_eq_true rfl, of_decide_eq_true rfl, rfl⟩ rfl (by exact C1 rfl) <| A4 rfl rfl rfl ?_
  refine A5 ⟨nofun, _, kS [2,3] [2] rfl, ?_⟩
  refine B3 <| D8 (H2 rfl rfl rfl rfl (H3 rfl (H3 rfl (H3 rfl J9))) (E4 rfl rfl (F3 C6))) ?_
  rw [← hip]
  simp_all
  try rfl
 have hg := hg0; try simp only [SG] at hg
 refine gF rfl rfl <| gF rfl rfl <| G6 rfl (by assumption) rfl rfl <| C5 rfl rfl rfl rfl ⟨by decide, rfl, of_decide_eq_true rfl, of_decide_eq_true rfl, rfl⟩ rfl (by exact C1 rfl) <| A4 rfl rfl rfl ?_
 refine A5 ⟨nofun, _, kS [2,3] [2] rfl, ?_⟩
 refine B3 <| D8 (H2 rfl rfl rfl rfl (H3 rfl (H3 rfl (H3 rfl J9))) (E4 rfl rfl (F3 C6))) ?_
 rw [← hip]
 simp_all
 try rfl

theorem keep_s_showTreeL : F9 Tryz.f39 = [0, 2, 1, 7, 4, 19, 3] := by kernel_rfl
set_option maxHeartbeats 20000000 in
theorem b7d (ns : List Int) (hv : vd ns = true) : CW (cxT oG) 39 [trK (.lst ns)] = some (tV (S4 ns), []) := by
 have hl := c2a hv
 have hnb := c9h hv
 have hll := W4 hnb
 refine G4 rfl Tryz.func39 rfl ⟨by kernel_rfl, rfl, of_decide_eq_true rfl, of_decide_eq_true rfl, by decide⟩ keep_s_showTreeL <| A3 <| A0 <| b1g rfl rfl rfl (fun _ => C1 rfl) (fun _ => rfl) ?_
 intro g1
 refine A4 rfl rfl rfl ?_
 refine A5 ⟨nofun, _, kS [1] [1] rfl, ?_⟩
 refine A3 <| A3 <| A0 <| D7 rfl rfl (of_decide_eq_true rfl) rfl rfl <| E9 rfl rfl rfl rfl rfl rfl <| a5z rfl rfl ?_
 refine A5 ⟨nofun, _, kS [1,7] [1] rfl, ?_⟩
 refine A8 rfl (fun hc => ?_) (fun hc => ?_)
 ·try simp only [SG, List.length_map] at hc
  refine A3 <| A0 <| D7 rfl rfl (of_decide_eq_true rfl) rfl rfl <| E9 rfl rfl rfl rfl rfl rfl ?_
  apply C4 rfl
  ·apply A9
   ·exact B5 rfl
   exact C3
  ·exact a5g ns (by omega) hnb
  ·exact ⟨rfl, rfl, rfl, of_decide_eq_true rfl, rfl⟩
  ·exact .inl rfl
  ·exact B1
  ·exact C0 rfl
  ·exact fun _ => rfl
  intro g10
  refine J6 rfl rfl (by simp only [G7, List.length_append, List.length_cons, List.length_nil]; omega) <| J6 rfl rfl (by simp only [G7, List.length_append, List.length_cons, List.length_nil]; omega) <| A4 rfl rfl rfl ?_
  refine A5 ⟨nofun, _, kS [2] [] rfl, ?_⟩
  refine B3 <| D4 rfl rfl trivial ?_
  rfl
 try simp only [SD] at hc
 exact absurd rfl hc

theorem keep_s_codeS : F9 Tryz.f29 = [0, 2, 1, 4, 10, 3, 23] := by kernel_rfl
set_option maxHeartbeats 20000000 in
theorem d0d (t : Pl) (ht : t.sz ≤ 1000) (hgd : t.good) : CW (cxT oG) 29 [trK t] = some (.own 1 ((Z4 t).map tV), []) := by
 obtain ⟨kk, hkk⟩ : ∃ kk : Nat, t.sz < kk := ⟨_, Nat.lt_succ_self _⟩
 revert t
 induction kk with
 | zero => intro t ht hgd hkk; exact absurd hkk (Nat.not_lt_zero _)
 | succ kk ih =>
  intro t ht hgd hkk
  have hkl := c0i t
  have hcl := fun i => N9 (t.kids.getD i default)
  have hkz := fun i => b5j (t := t) (i := i)
  have hkg := fun i => b8j hgd (i := i)
  have hnl := fun i => b3y (t := t) (i := i)
  have hco := fun h => b8g (t := t) h
  refine G4 rfl Tryz.func29 rfl ⟨by kernel_rfl, rfl, of_decide_eq_true rfl, of_decide_eq_true rfl, by decide⟩ keep_s_codeS <| A3 <| A0 <| b1g rfl rfl rfl (fun _ => C1 rfl) (fun _ => rfl) ?_
  intro g1
  (refine B8 rfl rfl (fun _ => rfl) ?_; intro g2)
  refine A5 ⟨nofun, _, kS [1] [1] rfl, ?_⟩
  refine A3 <| A0 <| D3 (es := List.map tV []) rfl rfl (of_decide_eq_true rfl) rfl rfl (fun _ => B2 (B0 fun _ => rfl)) (fun _ => rfl) ?_
  intro g5
  (refine B9 rfl rfl (by (simp; done)) rfl (fun _ => (B2 (by exact B0 fun _ => rfl))) (fun _ => rfl) ?_; intro g3)
  refine A5 ⟨nofun, _, kS [1,3] [1,3] rfl, ?_⟩
  refine A3 <| A3 <| A0 <| A4 rfl rfl rfl ?_
  refine A5 ⟨nofun, _, kS [1,3,4] [1,3] rfl, ?_⟩
  refine E3 <| L1 (β := Nat × List W8 × Nat) [(.t 1, _), (.h 1, _)] (fun (z : Nat × List W8 × Nat) => match z with | (i, cs, g) => [(.t 4, iV i), (.h 3, .obj g 0 1 (cs.map tV)), (.t 3, .sl 3 g none 0 cs.length)]) (fun (z : Nat × List W8 × Nat) => match z with | (i, cs, g) => i ≤ t.kids.length ∧ cs = a1k t i) (fun (z : Nat × List W8 × Nat) => match z with | (i, cs, g) => t.kids.length - i) (0, [], _) ⟨rfl, rfl, rfl, rfl, rfl, trivial⟩ ⟨Nat.zero_le _, rfl⟩ ?_
  intro z hb
  obtain ⟨i, cs, g⟩ := z
  try dsimp only at hb
  obtain ⟨hi1, ha⟩ := hb
  have hnb := hnl i hi1
  rw [← ha] at hnb
  refine A3 <| A3 <| A0 <| A6 rfl rfl <| D7 rfl rfl (of_decide_eq_true rfl) rfl rfl <| E9 rfl rfl rfl rfl rfl rfl <| H0 rfl rfl <| K7 rfl rfl ?_
  refine A5 ⟨nofun, _, kS [1,3,4,10] [1,3] rfl, ?_⟩
  refine A8 rfl (fun hc => ?_) (fun hc => ?_)
  ·try simp only [SG, List.length_map] at hc
   refine B7 <| A3 <| E3 <| A0 <| A6 rfl rfl <| D7 rfl rfl (of_decide_eq_true rfl) rfl rfl <| E9 rfl rfl rfl rfl rfl rfl <| A6 rfl rfl <| H9 rfl rfl rfl (fun _ => rfl) (by omega) <| G5 rfl rfl rfl ?_
   have h1 := hcl i
   have h2 := hkz i (by omega)
   apply C4 rfl
   ·apply A9
    ·exact B5 rfl
    exact C3
   ·exact (by have hk2 := b5j (t := t) (i := i) (by omega); have hi := ih (t.kids.getD i default) (by omega) (hkg i (by omega)) (by omega); rw [← c3w] at hi; exact hi)
   ·exact ⟨rfl, rfl, rfl, of_decide_eq_true rfl, rfl⟩
   ·exact .inl rfl
   ·exact B1
   ·exact O9
   ·exact fun _ => rfl
   intro g19
   simp only [List.length_map]
   refine G8 rfl rfl rfl rfl (by (simp; done)) (by simp) (by decide) rfl rfl rfl rfl (of_decide_eq_true rfl) (fun _ => ⟨rfl, rfl⟩) (by simp only [G7]; omega) (fun _ => rfl) ?_
   intro g20
   (refine B9 rfl rfl (by (simp; done)) rfl (fun _ => (B2 (by exact B0 fun _ => rfl))) (fun _ => rfl) ?_; intro g3)
   refine A5 ⟨nofun, _, kS [1,3,4] [1,3] rfl, ?_⟩
   refine A0 <| A6 rfl rfl <| K3 rfl rfl (F7 (by omega)) <| A4 rfl rfl rfl ?_
   refine A5 ⟨nofun, _, kS [1,3,4] [1,3] rfl, ?_⟩
   refine ⟨(i + 1, _, _), ⟨by omega, by rw [a1k, ← ha]⟩, (by simp only; omega), ⟨rfl, rfl, rfl, rfl, rfl, trivial⟩⟩
  try simp only [SG, List.length_map] at hc
  refine J3 <| A3 <| A3 <| A0 <| D7 rfl rfl (of_decide_eq_true rfl) rfl rfl <| E9 rfl rfl rfl rfl rfl rfl <| a5z rfl rfl ?_
  refine A5 ⟨nofun, _, kS [1,3,23] [1,3] rfl, ?_⟩
  refine A8 rfl (fun hc => ?_) (fun hc => ?_)
  ·try simp only [SG, List.length_map] at hc
   obtain ⟨ns, rfl, hv⟩ := b3r hgd (by assumption)
   refine A3 <| A0 <| A6 rfl rfl <| F8 rfl rfl rfl rfl rfl ?_
   apply C4 rfl
   ·apply A9
    ·exact B5 rfl
    exact C3
   ·exact b7d ns hv
   ·exact ⟨rfl, rfl, rfl, of_decide_eq_true rfl, rfl⟩
   ·exact .inl rfl
   ·exact B1
   ·exact C0 rfl
   ·exact fun _ => rfl
   intro g26
   refine D3 (es := List.map tV [_]) rfl rfl (of_decide_eq_true rfl) rfl rfl (fun _ => B2 (B0 fun _ => rfl)) (fun _ => rfl) ?_
   intro g27
   refine G8 rfl rfl rfl rfl (by (simp; done)) (by simp) (by decide) rfl rfl rfl rfl (of_decide_eq_true rfl) (fun _ => ⟨rfl, rfl⟩) (by simp only [G7]; (simp only [List.length_nil, List.length_cons, List.length_append, Nat.zero_add, List.length_map]; omega)) (fun _ => rfl) ?_
   intro g28
   (refine B9 rfl rfl (by (simp; done)) rfl (fun _ => (B2 (by exact B0 fun _ => rfl))) (fun _ => rfl) ?_; intro g2)
   refine A5 ⟨nofun, _, kS [2] [2] rfl, ?_⟩
   refine B3 <| Q7 rfl rfl (by simp) (by exact B0 fun _ => rfl) trivial ?_
   rw [ha, b4b ns i hi1]
  try simp only [SG, List.length_map] at hc
  refine B7 <| A3 <| A0 <| A6 rfl rfl <| D7 rfl rfl (of_decide_eq_true rfl) rfl rfl <| E9 rfl rfl rfl rfl rfl rfl <| D3 (es := List.map tV [_]) rfl rfl (of_decide_eq_true rfl) rfl rfl (fun _ => B2 (B0 fun _ => rfl)) (fun _ => rfl) ?_
  intro g32
  refine G8 rfl rfl rfl rfl (by (simp; done)) (by simp) (by decide) rfl rfl rfl rfl (of_decide_eq_true rfl) (fun _ => ⟨rfl, rfl⟩) (by simp only [G7]; (simp only [List.length_nil, List.length_cons, List.length_append, Nat.zero_add, List.length_map]; omega)) (fun _ => rfl) ?_
  intro g33
  (refine B9 rfl rfl (by (simp; done)) rfl (fun _ => (B2 (by exact B0 fun _ => rfl))) (fun _ => rfl) ?_; intro g2)
  refine A5 ⟨nofun, _, kS [2] [2] rfl, ?_⟩
  refine B3 <| Q7 rfl rfl (by simp) (by exact B0 fun _ => rfl) trivial ?_
  rw [ha, show i = t.kids.length by omega, hco (by assumption)]

theorem keep_s_codeI : F9 Tryz.f27 = [0, 2, 1, 9, 8, 10, 7, 5, 3, 20] := by kernel_rfl
set_option maxHeartbeats 20000000 in
theorem d0u (t : Pl) (ht : t.sz ≤ 1000) (hgd : t.good) : CW (cxT oG) 27 [trK t] = some (.own 1 ((Z4 t).map tV), []) := by
 obtain ⟨kk, hkk⟩ : ∃ kk : Nat, t.sz < kk := ⟨_, Nat.lt_succ_self _⟩
 revert t
 induction kk with
 | zero => intro t ht hgd hkk; exact absurd hkk (Nat.not_lt_zero _)
 | succ kk ih =>
  intro t ht hgd hkk
  have hkl := c0i t
  have hcl := fun i => N9 (t.kids.getD i default)
  have hkz := fun i => b5j (t := t) (i := i)
  have hkg := fun i => b8j hgd (i := i)
  have hnl := fun i => b3y (t := t) (i := i)
  have hco := fun h => b8g (t := t) h
  refine G4 rfl Tryz.func27 rfl ⟨by kernel_rfl, rfl, of_decide_eq_true rfl, of_decide_eq_true rfl, by decide⟩ keep_s_codeI <| A3 <| A0 <| b1g rfl rfl rfl (fun _ => C1 rfl) (fun _ => rfl) ?_
  intro g1
  (refine B8 rfl rfl (fun _ => rfl) ?_; intro g2)
  refine A5 ⟨nofun, _, kS [1] [1] rfl, ?_⟩
  refine A3 <| A0 ?_
  (refine B8 rfl rfl (fun _ => rfl) ?_; intro g3)
  refine A5 ⟨nofun, _, kS [1,3] [1,3] rfl, ?_⟩
  refine A3 <| A3 <| A0 <| D7 rfl rfl (of_decide_eq_true rfl) rfl rfl <| E9 rfl rfl rfl rfl rfl rfl <| H0 rfl rfl <| A6 rfl rfl ?_
  refine A5 ⟨nofun, _, kS [1,3,7,8,9] [1,3] rfl, ?_⟩
  refine E3 <| L1 (β := Nat × List W8 × Nat) [(.t 1, _), (.t 7, _), (.t 8, _), (.h 1, _)] (fun (z : Nat × List W8 × Nat) => match z with | (i, cs, g) => [(.t 9, iV i), (.h 3, .obj g 0 1 (cs.map tV)), (.t 3, .sl 3 g none 0 cs.length)]) (fun (z : Nat × List W8 × Nat) => match z with | (i, cs, g) => i ≤ t.kids.length ∧ cs = a1k t i) (fun (z : Nat × List W8 × Nat) => match z with | (i, cs, g) => t.kids.length - i) (0, [], _) ⟨rfl, rfl, rfl, rfl, rfl, rfl, rfl, trivial⟩ ⟨Nat.zero_le _, rfl⟩ ?_
  intro z hb
  obtain ⟨i, cs, g⟩ := z
  try dsimp only at hb
  obtain ⟨hi1, ha⟩ := hb
  have hnb := hnl i hi1
  rw [← ha] at hnb
  refine A3 <| A0 <| K7 rfl rfl ?_
  refine A5 ⟨nofun, _, kS [1,3,7,8,9,10] [1,3] rfl, ?_⟩
  refine A3 ?_
  refine A8 rfl (fun hc => ?_) (fun hc => ?_)
  ·try simp only [SG, List.length_map] at hc
   refine B7 <| A3 <| E3 <| A3 <| A0 <| H9 rfl rfl rfl (fun _ => rfl) (by omega) <| G5 rfl rfl rfl <| H7 rfl (fun _ => C1 rfl) (fun _ => rfl) ?_
   intro g5
   refine C5 rfl rfl rfl rfl ⟨by decide, rfl, of_decide_eq_true rfl, of_decide_eq_true rfl, rfl⟩ rfl (by exact C1 rfl) ?_
   refine A5 ⟨nofun, _, kS [1,3,5,7,8,9] [1,3,5] rfl, ?_⟩
   refine A0 <| A6 rfl rfl <| F8 rfl rfl rfl rfl rfl ?_
   have h1 := hcl i
   have h2 := hkz i (by omega)
   apply C4 rfl
   ·apply A9
    ·exact B5 rfl
    exact C3
   ·exact (by have hk2 := b5j (t := t) (i := i) (by omega); have hi := ih (t.kids.getD i default) (by omega) (hkg i (by omega)) (by omega); rw [← c3w] at hi; exact hi)
   ·exact ⟨rfl, rfl, rfl, of_decide_eq_true rfl, rfl⟩
   ·exact .inl rfl
   ·exact B1
   ·exact O9
   ·exact fun _ => rfl
   intro g15
   simp only [List.length_map]
   refine G8 rfl rfl rfl rfl (by (simp; done)) (by simp) (by decide) rfl rfl rfl rfl (of_decide_eq_true rfl) (fun _ => ⟨rfl, rfl⟩) (by simp only [G7]; omega) (fun _ => rfl) ?_
   intro g16
   (refine B9 rfl rfl (by (simp; done)) rfl (fun _ => (B2 (by exact B0 fun _ => rfl))) (fun _ => rfl) ?_; intro g3)
   refine A5 ⟨nofun, _, kS [1,3,7,8,9] [1,3] rfl, ?_⟩
   refine A0 <| K3 rfl rfl (F7 (by omega)) <| A6 rfl rfl ?_
   refine A5 ⟨nofun, _, kS [1,3,7,8,9] [1,3] rfl, ?_⟩
   refine ⟨(i + 1, _, _), ⟨by omega, by rw [a1k, ← ha]⟩, (by simp only; omega), ⟨rfl, rfl, rfl, rfl, rfl, rfl, rfl, trivial⟩⟩
  try simp only [SG, List.length_map] at hc
  refine J3 <| A3 <| A3 <| A0 <| D7 rfl rfl (of_decide_eq_true rfl) rfl rfl <| E9 rfl rfl rfl rfl rfl rfl <| a5z rfl rfl ?_
  refine A5 ⟨nofun, _, kS [1,3,20] [1,3] rfl, ?_⟩
  refine A8 rfl (fun hc => ?_) (fun hc => ?_)
  ·try simp only [SG, List.length_map] at hc
   obtain ⟨ns, rfl, hv⟩ := b3r hgd (by assumption)
   refine A3 <| A0 <| A6 rfl rfl <| D7 rfl rfl (of_decide_eq_true rfl) rfl rfl <| E9 rfl rfl rfl rfl rfl rfl ?_
   have hl := c2a hv
   have hnb := c9h hv
   have hll := W4 hnb
   apply C4 rfl
   ·apply A9
    ·exact B5 rfl
    exact C3
   ·exact a3z ns (by omega) hnb
   ·exact ⟨rfl, rfl, rfl, of_decide_eq_true rfl, rfl⟩
   ·exact .inl rfl
   ·exact B1
   ·exact C0 rfl
   ·exact fun _ => rfl
   intro g24
   refine D3 (es := List.map tV [_]) rfl rfl (of_decide_eq_true rfl) rfl rfl (fun _ => B2 (B0 fun _ => rfl)) (fun _ => rfl) ?_
   intro g25
   refine G8 rfl rfl rfl rfl (by (simp; done)) (by simp) (by decide) rfl rfl rfl rfl (of_decide_eq_true rfl) (fun _ => ⟨rfl, rfl⟩) (by simp only [G7]; (simp only [List.length_nil, List.length_cons, List.length_append, Nat.zero_add, List.length_map]; omega)) (fun _ => rfl) ?_
   intro g26
   (refine B9 rfl rfl (by (simp; done)) rfl (fun _ => (B2 (by exact B0 fun _ => rfl))) (fun _ => rfl) ?_; intro g2)
   refine A5 ⟨nofun, _, kS [2] [2] rfl, ?_⟩
   refine B3 <| Q7 rfl rfl (by simp) (by exact B0 fun _ => rfl) trivial ?_
   rw [ha, b4b ns i hi1]
  try simp only [SG, List.length_map] at hc
  refine B7 <| A3 <| A0 <| A6 rfl rfl <| D7 rfl rfl (of_decide_eq_true rfl) rfl rfl <| E9 rfl rfl rfl rfl rfl rfl <| D3 (es := List.map tV [_]) rfl rfl (of_decide_eq_true rfl) rfl rfl (fun _ => B2 (B0 fun _ => rfl)) (fun _ => rfl) ?_
  intro g30
  refine G8 rfl rfl rfl rfl (by (simp; done)) (by simp) (by decide) rfl rfl rfl rfl (of_decide_eq_true rfl) (fun _ => ⟨rfl, rfl⟩) (by simp only [G7]; (simp only [List.length_nil, List.length_cons, List.length_append, Nat.zero_add, List.length_map]; omega)) (fun _ => rfl) ?_
  intro g31
  (refine B9 rfl rfl (by (simp; done)) rfl (fun _ => (B2 (by exact B0 fun _ => rfl))) (fun _ => rfl) ?_; intro g2)
  refine A5 ⟨nofun, _, kS [2] [2] rfl, ?_⟩
  refine B3 <| Q7 rfl rfl (by simp) (by exact B0 fun _ => rfl) trivial ?_
  rw [ha, show i = t.kids.length by omega, hco (by assumption)]

theorem keep_s_CodeOfS : F9 Tryz.f10 = [0, 2, 4, 11, 3, 7] := by kernel_rfl
set_option maxHeartbeats 20000000 in
theorem b4a (s : List UInt8) (hs : s.length ≤ 1048576) : CW (cxT oG) 10 [tV s] = some (.own 1 ((S2 s).map tV), []) := by
 refine G4 rfl Tryz.func10 rfl ⟨by kernel_rfl, rfl, of_decide_eq_true rfl, of_decide_eq_true rfl, by decide⟩ keep_s_CodeOfS <| A3 <| A0 ?_
 (refine B8 rfl rfl (fun _ => rfl) ?_; intro g2)
 refine A5 ⟨nofun, _, kS [0] [] rfl, ?_⟩
 refine A3 <| A0 <| A6 rfl rfl ?_
 apply C4 rfl
 ·apply A9
  ·exact B5 rfl
  exact C3
 ·exact c1k s hs
 ·exact ⟨rfl, rfl, rfl, of_decide_eq_true rfl, rfl⟩
 ·exact .inl rfl
 ·exact B1
 ·exact L2 rfl
 ·exact fun _ => rfl
 intro g7
 refine A6 rfl rfl <| B4 rfl rfl rfl <| B4 rfl rfl rfl <| H7 rfl (fun _ => C1 rfl) (fun _ => rfl) ?_
 intro g3
 refine C5 rfl rfl rfl rfl ⟨by decide, rfl, of_decide_eq_true rfl, of_decide_eq_true rfl, rfl⟩ rfl (by exact C1 rfl) <| A4 rfl rfl rfl ?_
 refine A5 ⟨nofun, _, kS [3,4] [3] rfl, ?_⟩
 refine A3 <| A3 <| A0 <| A6 rfl rfl <| P1 rfl ?_
 refine A5 ⟨nofun, _, kS [3,11] [3] rfl, ?_⟩
 refine A8 rfl (fun hc => ?_) (fun hc => ?_)
 ·try simp only [SG, List.length_map] at hc
  refine A3 <| A0 ?_
  (refine B8 rfl rfl (fun _ => rfl) ?_; intro g2)
  refine A5 ⟨nofun, _, kS [2] [2] rfl, ?_⟩
  refine B3 <| Q7 rfl rfl (by simp) (by rfl) trivial ?_
  rw [a5k hc]
  rfl
 try simp only [SG, List.length_map] at hc
 refine B7 <| A3 <| A0 <| F8 rfl rfl rfl rfl rfl ?_
 obtain ⟨t, ht1, ht2, ht3⟩ := b1j hc
 have hpg := a3j hs ht1
 rw [ht2, c3w]
 apply C4 rfl
 ·apply A9
  ·exact B5 rfl
  exact C3
 ·exact d0d t (by omega) hpg
 ·exact ⟨rfl, rfl, rfl, of_decide_eq_true rfl, rfl⟩
 ·exact .inl rfl
 ·exact B1
 ·exact O9
 ·exact fun _ => rfl
 intro g13
 simp only [List.length_map]
 (refine B9 rfl rfl (by (simp; done)) rfl (fun _ => (B2 (by exact B0 fun _ => rfl))) (fun _ => rfl) ?_; intro g2)
 refine A5 ⟨nofun, _, kS [2] [2] rfl, ?_⟩
 refine B3 <| Q7 rfl rfl (by simp) (by exact B0 fun _ => rfl) trivial ?_
 rw [a5o ht1]

theorem keep_s_ClipT : F9 Tryz.f26 = [0, 2] := by kernel_rfl
set_option maxHeartbeats 20000000 in
theorem d1o (xs : List W8) (hx : xs.length ≤ G7) : CW (cxT oG) 26 [.own 1 (xs.map tV)] = some (.own 1 (xs.map tV), []) := by
 refine G4 rfl Tryz.func26 rfl ⟨by kernel_rfl, rfl, of_decide_eq_true rfl, of_decide_eq_true rfl, by decide⟩ keep_s_ClipT <| A3 <| A0 ?_
 (refine B8 rfl rfl (fun _ => rfl) ?_; intro g2)
 refine A5 ⟨nofun, _, kS [0] [0] rfl, ?_⟩
 refine A3 <| A0 <| A6 rfl rfl <| A6 rfl rfl <| Q5 rfl rfl <| A6 rfl rfl <| Q5 rfl rfl ?_
 refine d3g rfl rfl rfl rfl rfl rfl (fun hz => ?_) (fun hz => ?_)
 ·skip
  (refine B8 rfl rfl (fun _ => rfl) ?_; intro g2)
  refine A5 ⟨nofun, _, kS [2] [0,2] rfl, ?_⟩
  refine B3 <| Q7 rfl rfl (by (simp; done)) (by rfl) trivial ?_
  (have h0 : xs = [] := (by simpa using hz); subst h0; rfl)
 skip
 (refine B9 rfl rfl (by (simp; done)) rfl (fun _ => (B2 (by exact B0 fun _ => rfl))) (fun _ => rfl) ?_; intro g2)
 refine A5 ⟨nofun, _, kS [2] [0,2] rfl, ?_⟩
 refine B3 <| Q7 rfl rfl (by (simp; done)) (by exact B0 fun _ => rfl) trivial ?_
 rfl

theorem keep_s_CodeOfI : F9 Tryz.f8 = [0, 2, 4, 11, 3, 7] := by kernel_rfl
set_option maxHeartbeats 20000000 in
theorem c5c (s : List UInt8) (hs : s.length ≤ 1048576) : CW (cxT oG) 8 [tV s] = some (.own 1 ((S2 s).map tV), []) := by
 refine G4 rfl Tryz.func8 rfl ⟨by kernel_rfl, rfl, of_decide_eq_true rfl, of_decide_eq_true rfl, by decide⟩ keep_s_CodeOfI <| A3 <| A0 ?_
 (refine B8 rfl rfl (fun _ => rfl) ?_; intro g2)
 refine A5 ⟨nofun, _, kS [0] [] rfl, ?_⟩
 refine A3 <| A0 <| A6 rfl rfl ?_
 apply C4 rfl
 ·apply A9
  ·exact B5 rfl
  exact C3
 ·exact c0l s hs
 ·exact ⟨rfl, rfl, rfl, of_decide_eq_true rfl, rfl⟩
 ·exact .inl rfl
 ·exact B1
 ·exact L2 rfl
 ·exact fun _ => rfl
 intro g7
 refine A6 rfl rfl <| B4 rfl rfl rfl <| B4 rfl rfl rfl <| H7 rfl (fun _ => C1 rfl) (fun _ => rfl) ?_
 intro g3
 refine C5 rfl rfl rfl rfl ⟨by decide, rfl, of_decide_eq_true rfl, of_decide_eq_true rfl, rfl⟩ rfl (by exact C1 rfl) <| A4 rfl rfl rfl ?_
 refine A5 ⟨nofun, _, kS [3,4] [3] rfl, ?_⟩
 refine A3 <| A3 <| A0 <| A6 rfl rfl <| P1 rfl ?_
 refine A5 ⟨nofun, _, kS [3,11] [3] rfl, ?_⟩
 refine A8 rfl (fun hc => ?_) (fun hc => ?_)
 ·try simp only [SG, List.length_map] at hc
  refine A3 <| A0 ?_
  (refine B8 rfl rfl (fun _ => rfl) ?_; intro g2)
  refine A5 ⟨nofun, _, kS [2] [2] rfl, ?_⟩
  refine B3 <| Q7 rfl rfl (by simp) (by rfl) trivial ?_
  rw [a5k hc]
  rfl
 try simp only [SG, List.length_map] at hc
 refine B7 <| A3 <| A0 <| F8 rfl rfl rfl rfl rfl ?_
 obtain ⟨t, ht1, ht2, ht3⟩ := b1j hc
 have hpg := a3j hs ht1
 rw [d2y ht1, c3w]
 apply C4 rfl
 ·apply A9
  ·exact B5 rfl
  exact C3
 ·exact d0u t (by omega) hpg
 ·exact ⟨rfl, rfl, rfl, of_decide_eq_true rfl, rfl⟩
 ·exact .inl rfl
 ·exact B1
 ·exact O9
 ·exact fun _ => rfl
 intro g13
 simp only [List.length_map]
 apply C4 rfl
 ·apply A9
  ·exact d0t rfl rfl (by (simp; done)) (B0 fun _ => rfl)
  exact C3
 ·exact d1o (Z4 t) (by rw [N9]; simp only [G7]; omega)
 ·exact ⟨rfl, rfl, rfl, of_decide_eq_true rfl, rfl⟩
 ·exact .inl rfl
 ·exact B1
 ·exact O9
 ·exact fun _ => rfl
 intro g14
 simp only [List.length_map]
 (refine B9 rfl rfl (by (simp; done)) rfl (fun _ => (B2 (by exact B0 fun _ => rfl))) (fun _ => rfl) ?_; intro g2)
 refine A5 ⟨nofun, _, kS [2] [2] rfl, ?_⟩
 refine B3 <| Q7 rfl rfl (by simp) (by exact B0 fun _ => rfl) trivial ?_
 rw [a5o ht1]

theorem keep_s_pick : F9 Tryz.f46 = [0, 1, 4, 24, 5, 36, 6] := by kernel_rfl
set_option maxHeartbeats 20000000 in
theorem Z0 (bs : List Int) (p : Int) (hbs : a2s bs) (hl : bs.length ≤ 1048576) (hp : 0 ≤ p ∧ p ≤ 1000000000) (n : Int) (hn : n ≤ 1000000000) : ∃ res outs, (fun res outs => ∃ k, res = iV k ∧ outs = [[rdr bs (p + 1)]] ∧ (1 ≤ n → 0 ≤ k ∧ k < n) ∧ (n < 1 → k = 0)) res outs ∧ CW (cxT oG) 46 [.ownp [rdr bs p] 0 0, iV n] = some (res, outs) := by
 refine R4 rfl Tryz.func46 rfl ⟨by kernel_rfl, rfl, of_decide_eq_true rfl, of_decide_eq_true rfl, by decide⟩ keep_s_pick <| A3 <| A0 <| A4 rfl rfl rfl ?_
 refine A5 ⟨nofun, _, kS [0,1] [0] rfl, ?_⟩
 refine A3 <| A0 <| A6 rfl rfl <| A6 rfl rfl <| M4 rfl rfl rfl <| D7 rfl rfl (of_decide_eq_true rfl) rfl rfl <| E9 rfl rfl rfl rfl rfl rfl <| K3 rfl rfl (F7 (by omega)) <| M4 rfl rfl rfl <| D7 rfl rfl (of_decide_eq_true rfl) rfl rfl <| c3v rfl rfl rfl rfl rfl ⟨by decide, rfl, of_decide_eq_true rfl, of_decide_eq_true rfl, rfl⟩ (by exact c5x rfl) ?_
 refine A5 ⟨nofun, _, kS [0,1] [0] rfl, ?_⟩
 refine A3 <| A3 <| A0 <| A6 rfl rfl <| K7 rfl rfl <| A6 rfl rfl ?_
 refine D9 rfl rfl (fun hg0 => ?_) (fun hg0 => ?_)
 ·have hg := hg0; try simp only [SG] at hg
  refine A6 rfl rfl <| gT rfl rfl <| M4 rfl rfl rfl <| gT rfl rfl <| D7 rfl rfl (of_decide_eq_true rfl) rfl rfl <| gT rfl rfl <| E9 rfl rfl rfl rfl rfl rfl <| gT rfl rfl <| H0 rfl rfl <| gT rfl rfl <| S6 rfl rfl <| G6 rfl (by assumption) rfl rfl ?_
  refine A5 ⟨nofun, _, kS [0,1,24] [0] rfl, ?_⟩
  refine A8 rfl (fun hc => ?_) (fun hc => ?_)
  ·try simp only [SG, List.length_map] at hc
   refine A3 <| A0 <| A4 rfl rfl rfl ?_
   refine A5 ⟨nofun, _, kS [4] [0] rfl, ?_⟩
   refine B3 ?_
   refine ⟨_, _, ?_, I5 rfl rfl (I2 rfl rfl)⟩
   refine ⟨_, rfl, rfl, fun h => ?_, fun h => ?_⟩
   ·omega
   omega
  try simp only [SG, List.length_map] at hc
  refine B7 <| A3 <| A0 <| A6 rfl rfl <| M4 rfl rfl rfl <| D7 rfl rfl (of_decide_eq_true rfl) rfl rfl <| E9 rfl rfl rfl rfl rfl rfl <| a0h rfl rfl (F7 (by omega)) <| A4 rfl rfl rfl ?_
  refine A5 ⟨nofun, _, kS [0,1,5] [0] rfl, ?_⟩
  refine A3 <| A3 <| A0 <| A6 rfl rfl <| A6 rfl rfl <| M4 rfl rfl rfl <| D7 rfl rfl (of_decide_eq_true rfl) rfl rfl <| E9 rfl rfl rfl rfl rfl rfl <| H0 rfl rfl <| K7 rfl rfl ?_
  refine A5 ⟨nofun, _, kS [0,1,5,36] [0] rfl, ?_⟩
  refine A8 rfl (fun hc => ?_) (fun hc => ?_)
  ·try simp only [SG, List.length_map] at hc
   refine A3 <| A0 <| A6 rfl rfl <| M4 rfl rfl rfl <| D7 rfl rfl (of_decide_eq_true rfl) rfl rfl <| E9 rfl rfl rfl rfl rfl rfl <| A6 rfl rfl <| R6 rfl rfl rfl (fun _ => rfl) (by omega) <| G5 rfl rfl rfl <| a8a rfl rfl rfl (F7 (by have := hbs.getD (p + 1 - 1).toNat; omega)) <| A6 rfl rfl ?_
   have hk := hbs.getD (p + 1 - 1).toNat
   refine b7t rfl rfl (by omega) <| A4 rfl rfl rfl ?_
   refine A5 ⟨nofun, _, kS [4] [0] rfl, ?_⟩
   refine B3 ?_
   refine ⟨_, _, ?_, I5 rfl rfl (I2 rfl rfl)⟩
   refine ⟨_, rfl, rfl, fun h => ?_, fun h => ?_⟩
   ·exact a9z (by omega) (by omega)
   omega
  try simp only [SG, List.length_map] at hc
  refine B7 <| A3 <| A0 <| A6 rfl rfl <| M4 rfl rfl rfl <| D7 rfl rfl (of_decide_eq_true rfl) rfl rfl <| E9 rfl rfl rfl rfl rfl rfl <| A6 rfl rfl <| A6 rfl rfl <| M4 rfl rfl rfl <| D7 rfl rfl (of_decide_eq_true rfl) rfl rfl <| E9 rfl rfl rfl rfl rfl rfl <| H0 rfl rfl ?_
  have hlen : 0 < (bs.length : Int) := by omega
  refine b7t rfl rfl (by omega) ?_
  have hm1 := a9z (a := p + 1 - 1) (by omega) hlen
  refine R6 rfl rfl rfl (fun _ => rfl) (by omega) <| G5 rfl rfl rfl <| a8a rfl rfl rfl (F7 (by have := hbs.getD ((p + 1 - 1).tmod bs.length).toNat; omega)) ?_
  have hk := hbs.getD ((p + 1 - 1).tmod bs.length).toNat
  refine a8m rfl rfl (F7 (by omega)) <| A6 rfl rfl <| M4 rfl rfl rfl <| D7 rfl rfl (of_decide_eq_true rfl) rfl rfl <| E9 rfl rfl rfl rfl rfl rfl <| A6 rfl rfl <| a8m rfl rfl (F7 (by omega)) <| K3 rfl rfl (F7 (by omega)) <| A6 rfl rfl <| M4 rfl rfl rfl <| D7 rfl rfl (of_decide_eq_true rfl) rfl rfl <| E9 rfl rfl rfl rfl rfl rfl <| H0 rfl rfl <| b7t rfl rfl (by omega) ?_
  have hm2 := a9z (a := (p + 1 - 1) * 7 + 3) (by omega) hlen
  refine R6 rfl rfl rfl (fun _ => rfl) (by omega) <| G5 rfl rfl rfl <| a8a rfl rfl rfl (F7 (by have := hbs.getD (((p + 1 - 1) * 7 + 3).tmod bs.length).toNat; omega)) ?_
  have hk2 := hbs.getD (((p + 1 - 1) * 7 + 3).tmod bs.length).toNat
  refine a8m rfl rfl (F7 (by omega)) <| K3 rfl rfl (F7 (by omega)) <| A6 rfl rfl <| a8m rfl rfl (F7 (by omega)) <| K3 rfl rfl (F7 (by omega)) <| A6 rfl rfl <| A6 rfl rfl <| M4 rfl rfl rfl <| D7 rfl rfl (of_decide_eq_true rfl) rfl rfl <| E9 rfl rfl rfl rfl rfl rfl <| H0 rfl rfl ?_
  have hd := c4a (a := p + 1 - 1) (b := bs.length) (by omega) (by omega)
  refine c9f rfl rfl ⟨by omega, F7 (by omega)⟩ <| a8m rfl rfl (F7 (by omega)) <| K3 rfl rfl (F7 (by omega)) <| A4 rfl rfl rfl ?_
  refine A5 ⟨fun _ => ⟨by decide +kernel, by decide +kernel⟩, [(.t 1, _), (.t 6, _), (.h 0, _)], ⟨rfl, rfl, rfl, rfl, rfl, rfl, trivial⟩, ?_⟩
  refine A3 <| A0 <| A6 rfl rfl <| A6 rfl rfl ?_
  have hd2 := c4a (a := (bs.getD ((p + 1 - 1).tmod bs.length).toNat default * 131 + bs.getD (((p + 1 - 1) * 7 + 3).tmod bs.length).toNat default * 1117 + (p + 1 - 1) * 29 + (p + 1 - 1).tdiv bs.length * 53)) (b := 64) (by omega) (by decide)
  refine c9f rfl rfl ⟨by omega, F7 (by omega)⟩ ?_
  have hx := d2g (x := (bs.getD ((p + 1 - 1).tmod bs.length).toNat default * 131 + bs.getD (((p + 1 - 1) * 7 + 3).tmod bs.length).toNat default * 1117 + (p + 1 - 1) * 29 + (p + 1 - 1).tdiv bs.length * 53)) (by omega) (y := (bs.getD ((p + 1 - 1).tmod bs.length).toNat default * 131 + bs.getD (((p + 1 - 1) * 7 + 3).tmod bs.length).toNat default * 1117 + (p + 1 - 1) * 29 + (p + 1 - 1).tdiv bs.length * 53).tdiv 64) (by omega)
  refine d3r rfl rfl <| A4 rfl rfl rfl ?_
  refine A5 ⟨nofun, _, kS [1,6] [0] rfl, ?_⟩
  refine A3 <| A0 <| A6 rfl rfl <| A6 rfl rfl <| b7t rfl rfl (by omega) <| A4 rfl rfl rfl ?_
  refine A5 ⟨nofun, _, kS [4] [0] rfl, ?_⟩
  refine B3 ?_
  refine ⟨_, _, ?_, I5 rfl rfl (I2 rfl rfl)⟩
  refine ⟨_, rfl, rfl, fun h => ?_, fun h => ?_⟩
  ·exact a9z (by omega) (by omega)
  omega
 have hg := hg0; try simp only [SG] at hg
 refine gF rfl rfl <| gF rfl rfl <| gF rfl rfl <| gF rfl rfl <| gF rfl rfl <| G1 rfl (by assumption) rfl rfl ?_
 refine A5 ⟨nofun, _, kS [0,1,24] [0] rfl, ?_⟩
 refine A8 rfl (fun hc => ?_) (fun hc => absurd hc (by decide))
 refine A3 <| A0 <| A4 rfl rfl rfl ?_
 refine A5 ⟨nofun, _, kS [4] [0] rfl, ?_⟩
 refine B3 ?_
 refine ⟨_, _, ?_, I5 rfl rfl (I2 rfl rfl)⟩
 refine ⟨_, rfl, rfl, fun h => ?_, fun h => ?_⟩
 ·omega
 omega

theorem keep_s_one : F9 Tryz.f45 = [0, 1, 4] := by kernel_rfl
set_option maxHeartbeats 20000000 in
theorem c9p (bs : List Int) (p : Int) (hbs : a2s bs) (hl : bs.length ≤ 1048576) (hp : 0 ≤ p ∧ p ≤ 1000000000) (xs : List Int) (hx : 1 ≤ xs.length ∧ xs.length ≤ 1000) : ∃ res outs, (fun res outs => ∃ k, res = iV k ∧ outs = [[rdr bs (p + 1)]] ∧ k ∈ xs) res outs ∧ CW (cxT oG) 45 [.ownp [rdr bs p] 0 0, L xs] = some (res, outs) := by
 refine R4 rfl Tryz.func45 rfl ⟨by kernel_rfl, rfl, of_decide_eq_true rfl, of_decide_eq_true rfl, by decide⟩ keep_s_one <| A3 <| A0 <| A4 rfl rfl rfl ?_
 refine A5 ⟨nofun, _, kS [0,1] [0] rfl, ?_⟩
 refine A3 <| A0 <| A6 rfl rfl <| A6 rfl rfl <| A6 rfl rfl <| H0 rfl rfl ?_
 obtain ⟨_, _, ⟨k, rfl, rfl, hk1, hk2⟩, hC⟩ := Z0 (oG := oG) bs p hbs hl hp xs.length (by omega)
 have hk1 := hk1 (by omega)
 apply C4 rfl
 ·apply A9
  ·exact J4 rfl (by decide) rfl
  apply A9
  ·exact B5 rfl
  exact C3
 ·exact hC
 ·exact ⟨rfl, rfl, rfl, of_decide_eq_true rfl, rfl⟩
 ·exact .inl rfl
 ·exact F6 rfl rfl rfl B1
 ·exact C0 rfl
 ·exact fun _ => rfl
 intro g9
 refine R6 rfl rfl rfl (fun _ => rfl) (by omega) <| G5 rfl rfl rfl <| A4 rfl rfl rfl ?_
 refine A5 ⟨nofun, _, kS [4] [0] rfl, ?_⟩
 refine B3 ?_
 refine ⟨_, _, ?_, I5 rfl rfl (I2 rfl rfl)⟩
 refine ⟨_, rfl, rfl, a1j (by omega)⟩

theorem keep_s_newReader : F9 Tryz.f24 = [0, 2, 5] := by kernel_rfl
set_option maxHeartbeats 20000000 in
theorem c0h (bs : List Int) (hl : bs.length ≤ 1048576) : ∃ res outs, (fun res outs => res = .ownp [rdr (bs.take 2000) 0] 0 0 ∧ outs = []) res outs ∧ CW (cxT oG) 24 [.list (bs.map uV)] = some (res, outs) := by
 refine R4 rfl Tryz.func24 rfl ⟨by kernel_rfl, rfl, of_decide_eq_true rfl, of_decide_eq_true rfl, by decide⟩ keep_s_newReader <| A3 <| A0 <| A4 rfl rfl rfl ?_
 refine A5 ⟨nofun, _, kS [0] [] rfl, ?_⟩
 refine A3 <| A3 <| A0 <| A6 rfl rfl <| H0 rfl rfl <| Y1 rfl rfl ?_
 refine A5 ⟨nofun, _, kS [0,5] [] rfl, ?_⟩
 refine A8 rfl (fun hc => ?_) (fun hc => ?_)
 ·try simp only [SG, List.length_map] at hc
  refine A0 <| A6 rfl rfl <| L5 rfl rfl rfl (Mv.sized_map fun _ => rfl) (H1 rfl) H4 (by (simp; omega)) <| A4 rfl rfl rfl ?_
  refine A5 ⟨nofun, _, kS [0] [] rfl, ?_⟩
  refine A3 <| A0 <| A6 rfl rfl <| K8 (fs := [_, _]) rfl rfl rfl rfl rfl <| b1g rfl rfl rfl (fun _ => C1 rfl) (fun _ => rfl) ?_
  intro g10
  (refine a6k rfl rfl rfl rfl (fun _ => C1 rfl) (fun _ => rfl) ?_; intro g2)
  refine A5 ⟨nofun, _, kS [2] [2] rfl, ?_⟩
  refine B3 ?_
  refine ⟨_, _, ?_, c3l rfl rfl rfl C6⟩
  have e : rdr (bs.take 2000) 0 = .agg [.list ((bs.map uV).take 2000), iV 0] := by unfold rdr; rw [List.map_take]
  rw [e]
  exact ⟨rfl, rfl⟩
 try simp only [SG, List.length_map] at hc
 refine B7 <| A3 <| A0 <| A6 rfl rfl <| K8 (fs := [_, _]) rfl rfl rfl rfl rfl <| b1g rfl rfl rfl (fun _ => C1 rfl) (fun _ => rfl) ?_
 intro g10
 (refine a6k rfl rfl rfl rfl (fun _ => C1 rfl) (fun _ => rfl) ?_; intro g2)
 refine A5 ⟨nofun, _, kS [2] [2] rfl, ?_⟩
 refine B3 ?_
 refine ⟨_, _, ?_, c3l rfl rfl rfl C6⟩
 have e : bs.take 2000 = bs := List.take_of_length_le (by omega)
 rw [e]
 exact ⟨rfl, rfl⟩

theorem keep_s_ofT : F9 Tryz.f63 = [0, 1, 4] := by kernel_rfl
set_option maxHeartbeats 20000000 in
theorem a8u (bs : List Int) (p : Int) (hbs : a2s bs) (hl : bs.length ≤ 1048576) (hp : 0 ≤ p ∧ p ≤ 1000000000) (ss : List W8) (hs : 1 ≤ ss.length ∧ ss.length ≤ 1000) : ∃ res outs, (fun res outs => ∃ k, res = tV k ∧ outs = [[rdr bs (p + 1)]] ∧ k ∈ ss) res outs ∧ CW (cxT oG) 63 [.ownp [rdr bs p] 0 0, .list (ss.map tV)] = some (res, outs) := by
 refine R4 rfl Tryz.func63 rfl ⟨by kernel_rfl, rfl, of_decide_eq_true rfl, of_decide_eq_true rfl, by decide⟩ keep_s_ofT <| A3 <| A0 <| A4 rfl rfl rfl ?_
 refine A5 ⟨nofun, _, kS [0,1] [0] rfl, ?_⟩
 refine A3 <| A0 <| A6 rfl rfl <| A6 rfl rfl <| A6 rfl rfl <| H0 rfl rfl ?_
 obtain ⟨_, _, ⟨k, rfl, rfl, hk, -⟩, hC⟩ := Z0 (oG := oG) bs (p) hbs hl (by omega) (ss.length) (by omega)
 have hk := hk (by omega)
 apply C4 rfl
 ·apply A9
  ·exact J4 rfl (by decide) rfl
  apply A9
  ·exact B5 rfl
  exact C3
 ·exact hC
 ·exact ⟨rfl, rfl, rfl, of_decide_eq_true rfl, rfl⟩
 ·exact .inl rfl
 ·exact F6 rfl rfl rfl B1
 ·exact C0 rfl
 ·exact fun _ => rfl
 intro g9
 refine R6 rfl rfl rfl (fun _ => rfl) (by omega) <| G5 rfl rfl rfl <| A4 rfl rfl rfl ?_
 refine A5 ⟨nofun, _, kS [4] [0] rfl, ?_⟩
 refine B3 ?_
 refine ⟨_, _, ?_, I5 rfl rfl (I2 rfl rfl)⟩
 refine ⟨_, rfl, rfl, a0c (by omega)⟩

theorem keep_s_planText : F9 Tryz.f44 = [0, 1, 4, 15, 18, 6, 5, 29, 42, 7, 50, 8] := by kernel_rfl
set_option maxHeartbeats 20000000 in
theorem c0q (bs : List Int) (p : Int) (d : Nat) (hbs : a2s bs) (hl : bs.length ≤ 1048576) (hp : 0 ≤ p ∧ p + gN d ≤ 50000000)  (hd : d ≤ 5) : ∃ res outs, (fun res outs => ∃ (x : W8) (q : Int), res = tV x ∧ outs = [[rdr bs q]] ∧ p ≤ q ∧ q ≤ p + gN d ∧ x.length ≤ lN d) res outs ∧ CW (cxT oG) 44 [.ownp [rdr bs p] 0 0, iV d] = some (res, outs) := by
 obtain ⟨kk, hkk⟩ : ∃ kk : Nat, d < kk := ⟨_, Nat.lt_succ_self _⟩
 revert bs p d
 induction kk with
 | zero => intro bs p d hbs hl hp hd hkk; exact absurd hkk (Nat.not_lt_zero _)
 | succ kk ih =>
  intro bs p d hbs hl hp hd hkk
  have hgd := b6p d
  have hld := c1r d
  refine R4 rfl Tryz.func44 rfl ⟨by kernel_rfl, rfl, of_decide_eq_true rfl, of_decide_eq_true rfl, by decide⟩ keep_s_planText <| A3 <| A0 <| A4 rfl rfl rfl ?_
  refine A5 ⟨nofun, _, kS [0,1] [0] rfl, ?_⟩
  refine A3 <| A3 <| A0 <| A6 rfl rfl <| S6 rfl rfl <| A6 rfl rfl ?_
  refine D9 rfl rfl (fun hg0 => ?_) (fun hg0 => ?_)
  ·have hg := hg0; try simp only [SG] at hg
   refine A6 rfl rfl <| gT rfl rfl ?_
   obtain ⟨_, _, ⟨k0, rfl, rfl, hk0, -⟩, hC0⟩ := Z0 (oG := oG) bs (p) hbs hl (by omega) (5) (by omega)
   have hk0 := hk0 (by omega)
   apply C4 rfl
   ·apply A9
    ·exact J4 rfl (by decide) rfl
    apply A9
    ·exact B5 rfl
    exact C3
   ·exact hC0
   ·exact ⟨rfl, rfl, rfl, of_decide_eq_true rfl, rfl⟩
   ·exact .inl rfl
   ·exact F6 rfl rfl rfl B1
   ·exact C0 rfl
   ·exact fun _ => rfl
   intro g13
   refine gT rfl rfl <| S6 rfl rfl <| G6 rfl (by assumption) rfl rfl ?_
   refine A5 ⟨nofun, _, kS [0,1,15] [0] rfl, ?_⟩
   refine A8 rfl (fun hc => ?_) (fun hc => ?_)
   ·try simp only [SG, List.length_map] at hc
    refine A3 <| A3 <| A0 <| A6 rfl rfl ?_
    obtain ⟨_, _, ⟨k1, rfl, rfl, hk1, -⟩, hC1⟩ := Z0 (oG := oG) bs (p + 1) hbs hl (by omega) (2) (by omega)
    have hk1 := hk1 (by omega)
    apply C4 rfl
    ·apply A9
     ·exact J4 rfl (by decide) rfl
     apply A9
     ·exact B5 rfl
     exact C3
    ·exact hC1
    ·exact ⟨rfl, rfl, rfl, of_decide_eq_true rfl, rfl⟩
    ·exact .inl rfl
    ·exact F6 rfl rfl rfl B1
    ·exact C0 rfl
    ·exact fun _ => rfl
    intro g17
    refine S6 rfl rfl ?_
    refine A5 ⟨nofun, _, kS [0,18] [0] rfl, ?_⟩
    refine A8 rfl (fun hc => ?_) (fun hc => ?_)
    ·try simp only [SG, List.length_map] at hc
     refine A3 <| A0 <| A6 rfl rfl <| D3 (es := List.map tV [[97], [98], [97], [99], [100]]) rfl rfl (of_decide_eq_true rfl) rfl rfl (fun _ => B2 (B0 fun _ => rfl)) (fun _ => rfl) ?_
     intro g20
     obtain ⟨_, _, ⟨w1, rfl, rfl, hw1⟩, hC2⟩ := a8u (oG := oG) bs (p + 1 + 1) hbs hl (by omega) [[97], [98], [97], [99], [100]] (by decide)
     have hw1b : w1.length ≤ 1 := by have hall : ∀ x ∈ ([[97], [98], [97], [99], [100]] : List W8), x.length ≤ 1 := (by decide); exact hall _ hw1
     apply C4 rfl
     ·apply A9
      ·exact J4 rfl (by decide) rfl
      apply A9
      ·exact I0 rfl rfl (by (simp; done)) (fun _ => rfl)
      exact C3
     ·exact hC2
     ·exact ⟨rfl, rfl, rfl, of_decide_eq_true rfl, rfl⟩
     ·exact .inl rfl
     ·exact F6 rfl rfl rfl B1
     ·exact C0 rfl
     ·exact fun _ => rfl
     intro g21
     refine A4 rfl rfl rfl ?_
     refine A5 ⟨nofun, _, kS [4] [0] rfl, ?_⟩
     refine B3 ?_
     refine ⟨_, _, ?_, I5 rfl rfl (I2 rfl rfl)⟩
     exact ⟨_, _, rfl, rfl, by omega, by omega, by omega⟩
    try simp only [SG, List.length_map] at hc
    refine B7 <| A3 <| A0 <| D3 (es := List.map iV []) rfl rfl (of_decide_eq_true rfl) rfl rfl (fun _ => B2 (B0 fun _ => rfl)) (fun _ => rfl) ?_
    intro g22
    (refine B9 rfl rfl (by (simp; done)) rfl (fun _ => (B2 (by exact B0 fun _ => rfl))) (fun _ => rfl) ?_; intro g5)
    refine A5 ⟨nofun, _, kS [0,5] [0,5] rfl, ?_⟩
    refine A3 <| A3 <| A0 <| A6 rfl rfl <| D3 (es := List.map iV [2, 3, 1, 0, 4]) rfl rfl (of_decide_eq_true rfl) rfl rfl (fun _ => B2 (B0 fun _ => rfl)) (fun _ => rfl) ?_
    intro g24
    obtain ⟨_, _, ⟨n1, rfl, rfl, hn1⟩, hC3⟩ := c9p (oG := oG) bs (p + 1 + 1) hbs hl (by omega) [2, 3, 1, 0, 4] (by decide)
    have hn1b : 0 ≤ n1 ∧ n1 ≤ 4 := by simp at hn1; omega
    apply C4 rfl
    ·apply A9
     ·exact J4 rfl (by decide) rfl
     apply A9
     ·exact I0 rfl rfl (by (simp; done)) (fun _ => rfl)
     exact C3
    ·exact hC3
    ·exact ⟨rfl, rfl, rfl, of_decide_eq_true rfl, rfl⟩
    ·exact .inl rfl
    ·exact F6 rfl rfl rfl B1
    ·exact C0 rfl
    ·exact fun _ => rfl
    intro g25
    refine A4 rfl rfl rfl ?_
    refine A5 ⟨nofun, _, kS [0,5,6] [0,5] rfl, ?_⟩
    refine E3 <| L1 (β := List Int × Nat × Int) [(.t 0, _), (.t 6, _)] (fun (z : List Int × Nat × Int) => match z with | (xs, g, q) => [(.h 0, .obj 1 4 0 [rdr bs q]), (.t 5, .sl 5 g none 0 xs.length), (.h 5, .obj g 0 1 (xs.map iV))]) (fun (z : List Int × Nat × Int) => match z with | (xs, g, q) => (xs.length : Int) ≤ n1 ∧ p ≤ q ∧ q ≤ p + 4 + xs.length ∧ ∀ x ∈ xs, -20 ≤ x ∧ x ≤ 20) (fun (z : List Int × Nat × Int) => match z with | (xs, g, q) => 5 - xs.length) ([], _, _) ⟨rfl, rfl, rfl, rfl, rfl, trivial⟩ ⟨by simp; omega, by omega, by omega, by simp⟩ ?_
    intro z hb
    obtain ⟨xs, g, q⟩ := z
    try dsimp only at hb
    obtain ⟨hx1, hq1, hq2, hxb⟩ := hb
    refine A3 <| A3 <| A0 <| A6 rfl rfl <| Q5 rfl rfl <| A6 rfl rfl <| K7 rfl rfl ?_
    refine A5 ⟨nofun, _, kS [0,5,6,29] [0,5] rfl, ?_⟩
    refine A8 rfl (fun hc => ?_) (fun hc => ?_)
    ·try simp only [SG, List.length_map] at hc
     refine B7 <| E3 <| A0 <| A6 rfl rfl <| A6 rfl rfl ?_
     obtain ⟨_, _, ⟨k2, rfl, rfl, hk2, -⟩, hC4⟩ := Z0 (oG := oG) bs (q) hbs hl (by omega) (41) (by omega)
     have hk2 := hk2 (by omega)
     apply C4 rfl
     ·apply A9
      ·exact J4 rfl (by decide) rfl
      apply A9
      ·exact B5 rfl
      exact C3
     ·exact hC4
     ·exact ⟨rfl, rfl, rfl, of_decide_eq_true rfl, rfl⟩
     ·exact .inl rfl
     ·exact F6 rfl rfl rfl B1
     ·exact C0 rfl
     ·exact fun _ => rfl
     intro g32
     refine a0h rfl rfl (F7 (by omega)) <| D3 (es := List.map iV [k2 - 20]) rfl rfl (of_decide_eq_true rfl) rfl rfl (fun _ => B2 (B0 fun _ => rfl)) (fun _ => rfl) ?_
     intro g34
     refine G8 rfl rfl rfl rfl (by (simp; done)) (by simp) (by decide) rfl rfl rfl rfl (of_decide_eq_true rfl) (fun _ => ⟨rfl, rfl⟩) (by simp only [G7]; (simp only [List.length_nil, List.length_cons, List.length_append, Nat.zero_add, List.length_map]; omega)) (fun _ => rfl) ?_
     intro g35
     (refine B9 rfl rfl (by (simp; done)) rfl (fun _ => (B2 (by exact B0 fun _ => rfl))) (fun _ => rfl) ?_; intro g5)
     refine A5 ⟨nofun, _, kS [0,5,6] [0,5] rfl, ?_⟩
     refine ⟨(xs ++ [k2 - 20], _, q + 1), ?_, (by simp only [List.length_append, List.length_singleton]; omega), ⟨rfl, rfl, rfl, rfl, rfl, trivial⟩⟩
     refine ⟨?_, ?_, ?_, fun x hx => ?_⟩
     ·simp only [List.length_append, List.length_singleton]; omega
     ·omega
     ·simp only [List.length_append, List.length_singleton]; omega
     rcases List.mem_append.1 hx with hx | hx
     ·exact hxb x hx
     rw [List.mem_singleton.1 hx]; omega
    try simp only [SG, List.length_map] at hc
    refine J3 <| A3 <| A0 <| A6 rfl rfl ?_
    have hll := W4 (ns := xs) (fun n hn => by have := hxb n hn; omega)
    apply C4 rfl
    ·apply A9
     ·exact L7 rfl rfl rfl (by (simp; done)) (fun _ => rfl)
     exact C3
    ·exact a5g xs (by omega) (fun n hn => by have := hxb n hn; omega)
    ·exact ⟨rfl, rfl, rfl, of_decide_eq_true rfl, rfl⟩
    ·exact .inr ⟨rfl, rfl⟩
    ·exact B1
    ·exact C0 rfl
    ·exact fun _ => rfl
    intro g37
    refine J6 rfl rfl (by simp only [G7, List.length_append, List.length_cons, List.length_nil]; omega) <| J6 rfl rfl (by simp only [G7, List.length_append, List.length_cons, List.length_nil]; omega) <| A4 rfl rfl rfl ?_
    refine A5 ⟨nofun, _, kS [4] [0] rfl, ?_⟩
    refine B3 ?_
    refine ⟨_, _, ?_, I5 rfl rfl (I2 rfl rfl)⟩
    exact ⟨_, _, rfl, rfl, by omega, by omega, by (simp only [List.length_append, List.length_cons, List.length_nil]; omega)⟩
   try simp only [SG, List.length_map] at hc
   obtain ⟨d1, rfl⟩ : ∃ d1, d = d1 + 1 := ⟨d - 1, by omega⟩
   have hge : gN (d1 + 1) = 2 * gN d1 + 20 := rfl
   have hle : lN (d1 + 1) = 2 * lN d1 + 60 := rfl
   have hgp := b6p d1
   have hlp := c1r d1
   have hlm := c3f (d := d1 + 1) hd
   refine B7 <| A3 <| A3 <| A0 <| A6 rfl rfl ?_
   obtain ⟨_, _, ⟨k3, rfl, rfl, hk3, -⟩, hC5⟩ := Z0 (oG := oG) bs (p + 1) hbs hl (by omega) (4) (by omega)
   have hk3 := hk3 (by omega)
   apply C4 rfl
   ·apply A9
    ·exact J4 rfl (by decide) rfl
    apply A9
    ·exact B5 rfl
    exact C3
   ·exact hC5
   ·exact ⟨rfl, rfl, rfl, of_decide_eq_true rfl, rfl⟩
   ·exact .inl rfl
   ·exact F6 rfl rfl rfl B1
   ·exact C0 rfl
   ·exact fun _ => rfl
   intro g41
   refine S6 rfl rfl ?_
   refine A5 ⟨nofun, _, kS [0,1,42] [0] rfl, ?_⟩
   refine A8 rfl (fun hc => ?_) (fun hc => ?_)
   ·try simp only [SG, List.length_map] at hc
    refine A3 <| A0 <| A6 rfl rfl <| A6 rfl rfl <| a0h rfl rfl (F7 (by omega)) ?_
    obtain ⟨_, _, ⟨x1, q1, rfl, rfl, hx11, hx12, hx13⟩, hC6⟩ := ih bs (p + 1 + 1) d1 hbs hl (by omega) (by omega) (by omega)
    rw [show ((d1 + 1 : Nat) : Int) - 1 = (d1 : Int) by omega]
    apply C4 rfl
    ·apply A9
     ·exact J4 rfl (by decide) rfl
     apply A9
     ·exact B5 rfl
     exact C3
    ·exact hC6
    ·exact ⟨rfl, rfl, rfl, of_decide_eq_true rfl, rfl⟩
    ·exact .inl rfl
    ·exact F6 rfl rfl rfl B1
    ·exact C0 rfl
    ·exact fun _ => rfl
    intro g46
    refine A4 rfl rfl rfl ?_
    refine A5 ⟨nofun, _, kS [0,1,7] [0] rfl, ?_⟩
    refine A3 <| A0 <| A6 rfl rfl <| A4 rfl rfl rfl ?_
    refine A5 ⟨nofun, _, kS [0,1,7,8] [0] rfl, ?_⟩
    refine A3 <| A3 <| A0 <| A6 rfl rfl ?_
    obtain ⟨_, _, ⟨k4, rfl, rfl, hk4, -⟩, hC7⟩ := Z0 (oG := oG) bs (q1) hbs hl (by omega) (2) (by omega)
    have hk4 := hk4 (by omega)
    apply C4 rfl
    ·apply A9
     ·exact J4 rfl (by decide) rfl
     apply A9
     ·exact B5 rfl
     exact C3
    ·exact hC7
    ·exact ⟨rfl, rfl, rfl, of_decide_eq_true rfl, rfl⟩
    ·exact .inl rfl
    ·exact F6 rfl rfl rfl B1
    ·exact C0 rfl
    ·exact fun _ => rfl
    intro g49
    refine S6 rfl rfl ?_
    refine A5 ⟨nofun, _, kS [0,1,7,8,50] [0] rfl, ?_⟩
    refine A8 rfl (fun hc => ?_) (fun hc => ?_)
    ·try simp only [SG, List.length_map] at hc
     refine A0 <| A6 rfl rfl <| A6 rfl rfl <| a0h rfl rfl (F7 (by omega)) ?_
     obtain ⟨_, _, ⟨x2, q2, rfl, rfl, hx21, hx22, hx23⟩, hC8⟩ := ih bs (q1 + 1) d1 hbs hl (by omega) (by omega) (by omega)
     rw [show ((d1 + 1 : Nat) : Int) - 1 = (d1 : Int) by omega]
     apply C4 rfl
     ·apply A9
      ·exact J4 rfl (by decide) rfl
      apply A9
      ·exact B5 rfl
      exact C3
     ·exact hC8
     ·exact ⟨rfl, rfl, rfl, of_decide_eq_true rfl, rfl⟩
     ·exact .inl rfl
     ·exact F6 rfl rfl rfl B1
     ·exact C0 rfl
     ·exact fun _ => rfl
     intro g54
     refine A4 rfl rfl rfl ?_
     refine A5 ⟨nofun, _, kS [0,7,8] [0] rfl, ?_⟩
     refine A3 <| A0 <| A6 rfl rfl <| D3 (es := List.map tV [[97, 100, 100], [106, 111, 105, 110], [106, 111, 105, 110]]) rfl rfl (of_decide_eq_true rfl) rfl rfl (fun _ => B2 (B0 fun _ => rfl)) (fun _ => rfl) ?_
     intro g56
     obtain ⟨_, _, ⟨w2, rfl, rfl, hw2⟩, hC9⟩ := a8u (oG := oG) bs (q2) hbs hl (by omega) [[97, 100, 100], [106, 111, 105, 110], [106, 111, 105, 110]] (by decide)
     have hw2b : w2.length ≤ 4 := by have hall : ∀ x ∈ ([[97, 100, 100], [106, 111, 105, 110], [106, 111, 105, 110]] : List W8), x.length ≤ 4 := (by decide); exact hall _ hw2
     apply C4 rfl
     ·apply A9
      ·exact J4 rfl (by decide) rfl
      apply A9
      ·exact I0 rfl rfl (by (simp; done)) (fun _ => rfl)
      exact C3
     ·exact hC9
     ·exact ⟨rfl, rfl, rfl, of_decide_eq_true rfl, rfl⟩
     ·exact .inl rfl
     ·exact F6 rfl rfl rfl B1
     ·exact C0 rfl
     ·exact fun _ => rfl
     intro g57
     refine J6 rfl rfl (by simp only [G7, List.length_append, List.length_cons, List.length_nil]; omega) <| A6 rfl rfl <| J6 rfl rfl (by simp only [G7, List.length_append, List.length_cons, List.length_nil]; omega) <| J6 rfl rfl (by simp only [G7, List.length_append, List.length_cons, List.length_nil]; omega) <| A6 rfl rfl <| J6 rfl rfl (by simp only [G7, List.length_append, List.length_cons, List.length_nil]; omega) <| A4 rfl rfl rfl ?_
     refine A5 ⟨nofun, _, kS [4] [0] rfl, ?_⟩
     refine B3 ?_
     refine ⟨_, _, ?_, I5 rfl rfl (I2 rfl rfl)⟩
     exact ⟨_, _, rfl, rfl, by omega, by omega, by (simp only [List.length_append, List.length_cons, List.length_nil]; omega)⟩
    try simp only [SG, List.length_map] at hc
    refine B7 <| A3 <| A0 <| A6 rfl rfl <| D3 (es := List.map tV [[97, 100, 100], [106, 111, 105, 110], [106, 111, 105, 110]]) rfl rfl (of_decide_eq_true rfl) rfl rfl (fun _ => B2 (B0 fun _ => rfl)) (fun _ => rfl) ?_
    intro g56
    obtain ⟨_, _, ⟨w2, rfl, rfl, hw2⟩, hC9⟩ := a8u (oG := oG) bs (q1 + 1) hbs hl (by omega) [[97, 100, 100], [106, 111, 105, 110], [106, 111, 105, 110]] (by decide)
    have hw2b : w2.length ≤ 4 := by have hall : ∀ x ∈ ([[97, 100, 100], [106, 111, 105, 110], [106, 111, 105, 110]] : List W8), x.length ≤ 4 := (by decide); exact hall _ hw2
    apply C4 rfl
    ·apply A9
     ·exact J4 rfl (by decide) rfl
     apply A9
     ·exact I0 rfl rfl (by (simp; done)) (fun _ => rfl)
     exact C3
    ·exact hC9
    ·exact ⟨rfl, rfl, rfl, of_decide_eq_true rfl, rfl⟩
    ·exact .inl rfl
    ·exact F6 rfl rfl rfl B1
    ·exact C0 rfl
    ·exact fun _ => rfl
    intro g57
    refine J6 rfl rfl (by simp only [G7, List.length_append, List.length_cons, List.length_nil]; omega) <| A6 rfl rfl <| J6 rfl rfl (by simp only [G7, List.length_append, List.length_cons, List.length_nil]; omega) <| J6 rfl rfl (by simp only [G7, List.length_append, List.length_cons, List.length_nil]; omega) <| A6 rfl rfl <| J6 rfl rfl (by simp only [G7, List.length_append, List.length_cons, List.length_nil]; omega) <| A4 rfl rfl rfl ?_
    refine A5 ⟨nofun, _, kS [4] [0] rfl, ?_⟩
    refine B3 ?_
    refine ⟨_, _, ?_, I5 rfl rfl (I2 rfl rfl)⟩
    exact ⟨_, _, rfl, rfl, by omega, by omega, by (simp only [List.length_append, List.length_cons, List.length_nil]; omega)⟩
   try simp only [SG, List.length_map] at hc
   refine B7 <| A3 <| A0 <| A6 rfl rfl <| D3 (es := List.map tV [[115, 111, 114, 116], [114, 101, 118], [110, 101, 103], [97, 98, 115], [100, 105, 102, 102], [115, 117, 109, 115], [114, 97, 110, 107, 115], [116, 111, 116, 97, 108], [115, 111, 114, 116], [114, 101, 118], [110, 101, 103], [97, 98, 115]]) rfl rfl (of_decide_eq_true rfl) rfl rfl (fun _ => B2 (B0 fun _ => rfl)) (fun _ => rfl) ?_
   intro g65
   obtain ⟨_, _, ⟨w3, rfl, rfl, hw3⟩, hC10⟩ := a8u (oG := oG) bs (p + 1 + 1) hbs hl (by omega) [[115, 111, 114, 116], [114, 101, 118], [110, 101, 103], [97, 98, 115], [100, 105, 102, 102], [115, 117, 109, 115], [114, 97, 110, 107, 115], [116, 111, 116, 97, 108], [115, 111, 114, 116], [114, 101, 118], [110, 101, 103], [97, 98, 115]] (by decide)
   have hw3b : w3.length ≤ 5 := by have hall : ∀ x ∈ ([[115, 111, 114, 116], [114, 101, 118], [110, 101, 103], [97, 98, 115], [100, 105, 102, 102], [115, 117, 109, 115], [114, 97, 110, 107, 115], [116, 111, 116, 97, 108], [115, 111, 114, 116], [114, 101, 118], [110, 101, 103], [97, 98, 115]] : List W8), x.length ≤ 5 := (by decide); exact hall _ hw3
   apply C4 rfl
   ·apply A9
    ·exact J4 rfl (by decide) rfl
    apply A9
    ·exact I0 rfl rfl (by (simp; done)) (fun _ => rfl)
    exact C3
   ·exact hC10
   ·exact ⟨rfl, rfl, rfl, of_decide_eq_true rfl, rfl⟩
   ·exact .inl rfl
   ·exact F6 rfl rfl rfl B1
   ·exact C0 rfl
   ·exact fun _ => rfl
   intro g66
   refine J6 rfl rfl (by simp only [G7, List.length_append, List.length_cons, List.length_nil]; omega) <| A6 rfl rfl <| A6 rfl rfl <| a0h rfl rfl (F7 (by omega)) ?_
   obtain ⟨_, _, ⟨x3, q3, rfl, rfl, hx31, hx32, hx33⟩, hC11⟩ := ih bs (p + 1 + 1 + 1) d1 hbs hl (by omega) (by omega) (by omega)
   rw [show ((d1 + 1 : Nat) : Int) - 1 = (d1 : Int) by omega]
   apply C4 rfl
   ·apply A9
    ·exact J4 rfl (by decide) rfl
    apply A9
    ·exact B5 rfl
    exact C3
   ·exact hC11
   ·exact ⟨rfl, rfl, rfl, of_decide_eq_true rfl, rfl⟩
   ·exact .inl rfl
   ·exact F6 rfl rfl rfl B1
   ·exact C0 rfl
   ·exact fun _ => rfl
   intro g71
   refine J6 rfl rfl (by simp only [G7, List.length_append, List.length_cons, List.length_nil]; omega) <| A4 rfl rfl rfl ?_
   refine A5 ⟨nofun, _, kS [4] [0] rfl, ?_⟩
   refine B3 ?_
   refine ⟨_, _, ?_, I5 rfl rfl (I2 rfl rfl)⟩
   exact ⟨_, _, rfl, rfl, by omega, by omega, by (simp only [List.length_append, List.length_cons, List.length_nil]; omega)⟩
  have hg := hg0; try simp only [SG] at hg
  refine gF rfl rfl <| gF rfl rfl <| G1 rfl (by assumption) rfl rfl ?_
  refine A5 ⟨nofun, _, kS [0,1,15] [0] rfl, ?_⟩
  refine A8 rfl (fun hc => ?_) (fun hc => absurd hc (by decide))
  refine A3 <| A3 <| A0 <| A6 rfl rfl ?_
  obtain ⟨_, _, ⟨k1, rfl, rfl, hk1, -⟩, hC1⟩ := Z0 (oG := oG) bs (p) hbs hl (by omega) (2) (by omega)
  have hk1 := hk1 (by omega)
  apply C4 rfl
  ·apply A9
   ·exact J4 rfl (by decide) rfl
   apply A9
   ·exact B5 rfl
   exact C3
  ·exact hC1
  ·exact ⟨rfl, rfl, rfl, of_decide_eq_true rfl, rfl⟩
  ·exact .inl rfl
  ·exact F6 rfl rfl rfl B1
  ·exact C0 rfl
  ·exact fun _ => rfl
  intro g17
  refine S6 rfl rfl ?_
  refine A5 ⟨nofun, _, kS [0,18] [0] rfl, ?_⟩
  refine A8 rfl (fun hc => ?_) (fun hc => ?_)
  ·try simp only [SG, List.length_map] at hc
   refine A3 <| A0 <| A6 rfl rfl <| D3 (es := List.map tV [[97], [98], [97], [99], [100]]) rfl rfl (of_decide_eq_true rfl) rfl rfl (fun _ => B2 (B0 fun _ => rfl)) (fun _ => rfl) ?_
   intro g20
   obtain ⟨_, _, ⟨w1, rfl, rfl, hw1⟩, hC2⟩ := a8u (oG := oG) bs (p + 1) hbs hl (by omega) [[97], [98], [97], [99], [100]] (by decide)
   have hw1b : w1.length ≤ 1 := by have hall : ∀ x ∈ ([[97], [98], [97], [99], [100]] : List W8), x.length ≤ 1 := (by decide); exact hall _ hw1
   apply C4 rfl
   ·apply A9
    ·exact J4 rfl (by decide) rfl
    apply A9
    ·exact I0 rfl rfl (by (simp; done)) (fun _ => rfl)
    exact C3
   ·exact hC2
   ·exact ⟨rfl, rfl, rfl, of_decide_eq_true rfl, rfl⟩
   ·exact .inl rfl
   ·exact F6 rfl rfl rfl B1
   ·exact C0 rfl
   ·exact fun _ => rfl
   intro g21
   refine A4 rfl rfl rfl ?_
   refine A5 ⟨nofun, _, kS [4] [0] rfl, ?_⟩
   refine B3 ?_
   refine ⟨_, _, ?_, I5 rfl rfl (I2 rfl rfl)⟩
   exact ⟨_, _, rfl, rfl, by omega, by omega, by omega⟩
  try simp only [SG, List.length_map] at hc
  refine B7 <| A3 <| A0 <| D3 (es := List.map iV []) rfl rfl (of_decide_eq_true rfl) rfl rfl (fun _ => B2 (B0 fun _ => rfl)) (fun _ => rfl) ?_
  intro g22
  (refine B9 rfl rfl (by (simp; done)) rfl (fun _ => (B2 (by exact B0 fun _ => rfl))) (fun _ => rfl) ?_; intro g5)
  refine A5 ⟨nofun, _, kS [0,5] [0,5] rfl, ?_⟩
  refine A3 <| A3 <| A0 <| A6 rfl rfl <| D3 (es := List.map iV [2, 3, 1, 0, 4]) rfl rfl (of_decide_eq_true rfl) rfl rfl (fun _ => B2 (B0 fun _ => rfl)) (fun _ => rfl) ?_
  intro g24
  obtain ⟨_, _, ⟨n1, rfl, rfl, hn1⟩, hC3⟩ := c9p (oG := oG) bs (p + 1) hbs hl (by omega) [2, 3, 1, 0, 4] (by decide)
  have hn1b : 0 ≤ n1 ∧ n1 ≤ 4 := by simp at hn1; omega
  apply C4 rfl
  ·apply A9
   ·exact J4 rfl (by decide) rfl
   apply A9
   ·exact I0 rfl rfl (by (simp; done)) (fun _ => rfl)
   exact C3
  ·exact hC3
  ·exact ⟨rfl, rfl, rfl, of_decide_eq_true rfl, rfl⟩
  ·exact .inl rfl
  ·exact F6 rfl rfl rfl B1
  ·exact C0 rfl
  ·exact fun _ => rfl
  intro g25
  refine A4 rfl rfl rfl ?_
  refine A5 ⟨nofun, _, kS [0,5,6] [0,5] rfl, ?_⟩
  refine E3 <| L1 (β := List Int × Nat × Int) [(.t 0, _), (.t 6, _)] (fun (z : List Int × Nat × Int) => match z with | (xs, g, q) => [(.h 0, .obj 1 4 0 [rdr bs q]), (.t 5, .sl 5 g none 0 xs.length), (.h 5, .obj g 0 1 (xs.map iV))]) (fun (z : List Int × Nat × Int) => match z with | (xs, g, q) => (xs.length : Int) ≤ n1 ∧ p ≤ q ∧ q ≤ p + 4 + xs.length ∧ ∀ x ∈ xs, -20 ≤ x ∧ x ≤ 20) (fun (z : List Int × Nat × Int) => match z with | (xs, g, q) => 5 - xs.length) ([], _, _) ⟨rfl, rfl, rfl, rfl, rfl, trivial⟩ ⟨by simp; omega, by omega, by omega, by simp⟩ ?_
  intro z hb
  obtain ⟨xs, g, q⟩ := z
  try dsimp only at hb
  obtain ⟨hx1, hq1, hq2, hxb⟩ := hb
  refine A3 <| A3 <| A0 <| A6 rfl rfl <| Q5 rfl rfl <| A6 rfl rfl <| K7 rfl rfl ?_
  refine A5 ⟨nofun, _, kS [0,5,6,29] [0,5] rfl, ?_⟩
  refine A8 rfl (fun hc => ?_) (fun hc => ?_)
  ·try simp only [SG, List.length_map] at hc
   refine B7 <| E3 <| A0 <| A6 rfl rfl <| A6 rfl rfl ?_
   obtain ⟨_, _, ⟨k2, rfl, rfl, hk2, -⟩, hC4⟩ := Z0 (oG := oG) bs (q) hbs hl (by omega) (41) (by omega)
   have hk2 := hk2 (by omega)
   apply C4 rfl
   ·apply A9
    ·exact J4 rfl (by decide) rfl
    apply A9
    ·exact B5 rfl
    exact C3
   ·exact hC4
   ·exact ⟨rfl, rfl, rfl, of_decide_eq_true rfl, rfl⟩
   ·exact .inl rfl
   ·exact F6 rfl rfl rfl B1
   ·exact C0 rfl
   ·exact fun _ => rfl
   intro g32
   refine a0h rfl rfl (F7 (by omega)) <| D3 (es := List.map iV [k2 - 20]) rfl rfl (of_decide_eq_true rfl) rfl rfl (fun _ => B2 (B0 fun _ => rfl)) (fun _ => rfl) ?_
   intro g34
   refine G8 rfl rfl rfl rfl (by (simp; done)) (by simp) (by decide) rfl rfl rfl rfl (of_decide_eq_true rfl) (fun _ => ⟨rfl, rfl⟩) (by simp only [G7]; (simp only [List.length_nil, List.length_cons, List.length_append, Nat.zero_add, List.length_map]; omega)) (fun _ => rfl) ?_
   intro g35
   (refine B9 rfl rfl (by (simp; done)) rfl (fun _ => (B2 (by exact B0 fun _ => rfl))) (fun _ => rfl) ?_; intro g5)
   refine A5 ⟨nofun, _, kS [0,5,6] [0,5] rfl, ?_⟩
   refine ⟨(xs ++ [k2 - 20], _, q + 1), ?_, (by simp only [List.length_append, List.length_singleton]; omega), ⟨rfl, rfl, rfl, rfl, rfl, trivial⟩⟩
   refine ⟨?_, ?_, ?_, fun x hx => ?_⟩
   ·simp only [List.length_append, List.length_singleton]; omega
   ·omega
   ·simp only [List.length_append, List.length_singleton]; omega
   rcases List.mem_append.1 hx with hx | hx
   ·exact hxb x hx
   rw [List.mem_singleton.1 hx]; omega
  try simp only [SG, List.length_map] at hc
  refine J3 <| A3 <| A0 <| A6 rfl rfl ?_
  have hll := W4 (ns := xs) (fun n hn => by have := hxb n hn; omega)
  apply C4 rfl
  ·apply A9
   ·exact L7 rfl rfl rfl (by (simp; done)) (fun _ => rfl)
   exact C3
  ·exact a5g xs (by omega) (fun n hn => by have := hxb n hn; omega)
  ·exact ⟨rfl, rfl, rfl, of_decide_eq_true rfl, rfl⟩
  ·exact .inr ⟨rfl, rfl⟩
  ·exact B1
  ·exact C0 rfl
  ·exact fun _ => rfl
  intro g37
  refine J6 rfl rfl (by simp only [G7, List.length_append, List.length_cons, List.length_nil]; omega) <| J6 rfl rfl (by simp only [G7, List.length_append, List.length_cons, List.length_nil]; omega) <| A4 rfl rfl rfl ?_
  refine A5 ⟨nofun, _, kS [4] [0] rfl, ?_⟩
  refine B3 ?_
  refine ⟨_, _, ?_, I5 rfl rfl (I2 rfl rfl)⟩
  exact ⟨_, _, rfl, rfl, by omega, by omega, by (simp only [List.length_append, List.length_cons, List.length_nil]; omega)⟩

theorem keep_s_mutate : F9 Tryz.f47 = [0, 1, 4, 12, 13, 5, 19, 32, 37] := by kernel_rfl
set_option maxHeartbeats 20000000 in
theorem c8k (bs : List Int) (p : Int) (hbs : a2s bs) (hl : bs.length ≤ 1048576) (hp : 0 ≤ p ∧ p ≤ 100000000) (s : W8) (hs : s.length ≤ 100000) : ∃ res outs, (fun res outs => ∃ (x : W8) (q : Int), res = tV x ∧ outs = [[rdr bs q]] ∧ p ≤ q ∧ q ≤ p + 10 ∧ x.length ≤ s.length + 10) res outs ∧ CW (cxT oG) 47 [.ownp [rdr bs p] 0 0, tV s] = some (res, outs) := by
 refine R4 rfl Tryz.func47 rfl ⟨by kernel_rfl, rfl, of_decide_eq_true rfl, of_decide_eq_true rfl, by decide⟩ keep_s_mutate <| A3 <| A0 <| A4 rfl rfl rfl ?_
 refine A5 ⟨nofun, _, kS [0,1] [0] rfl, ?_⟩
 refine A3 <| A0 <| A6 rfl rfl <| A6 rfl rfl <| Z1 rfl rfl <| K3 rfl rfl (F7 (by omega)) ?_
 obtain ⟨_, _, ⟨k0, rfl, rfl, hk0, -⟩, hC0⟩ := Z0 (oG := oG) bs (p) hbs hl (by omega) (s.length + 1) (by omega)
 have hk0 := hk0 (by omega)
 apply C4 rfl
 ·apply A9
  ·exact J4 rfl (by decide) rfl
  apply A9
  ·exact B5 rfl
  exact C3
 ·exact hC0
 ·exact ⟨rfl, rfl, rfl, of_decide_eq_true rfl, rfl⟩
 ·exact .inl rfl
 ·exact F6 rfl rfl rfl B1
 ·exact C0 rfl
 ·exact fun _ => rfl
 intro g10
 refine A4 rfl rfl rfl ?_
 refine A5 ⟨nofun, _, kS [0,1,5] [0] rfl, ?_⟩
 refine A3 <| A3 <| A0 <| A6 rfl rfl ?_
 obtain ⟨_, _, ⟨k1, rfl, rfl, hk1, -⟩, hC1⟩ := Z0 (oG := oG) bs (p + 1) hbs hl (by omega) (5) (by omega)
 have hk1 := hk1 (by omega)
 apply C4 rfl
 ·apply A9
  ·exact J4 rfl (by decide) rfl
  apply A9
  ·exact B5 rfl
  exact C3
 ·exact hC1
 ·exact ⟨rfl, rfl, rfl, of_decide_eq_true rfl, rfl⟩
 ·exact .inl rfl
 ·exact F6 rfl rfl rfl B1
 ·exact C0 rfl
 ·exact fun _ => rfl
 intro g12
 refine A5 ⟨nofun, _, kS [0,1,5,12] [0] rfl, ?_⟩
 refine E3 <| A3 <| A3 <| A0 <| S6 rfl rfl <| A4 rfl rfl rfl ?_
 refine A5 ⟨nofun, _, kS [0,1,5,12,13] [0] rfl, ?_⟩
 refine A8 rfl (fun hc => ?_) (fun hc => ?_)
 ·try simp only [SG, List.length_map] at hc
  refine B7 ?_
  refine A8 rfl (fun hc => ?_) (fun hc => absurd hc (by simp_all))
  refine A3 <| A0 <| A6 rfl rfl <| A6 rfl rfl <| Z1 rfl rfl <| K7 rfl rfl ?_
  refine A5 ⟨nofun, _, kS [0,1,5,19] [0] rfl, ?_⟩
  refine A8 rfl (fun hc => ?_) (fun hc => ?_)
  ·try simp only [SG, List.length_map] at hc
   refine A3 <| A0 <| A6 rfl rfl <| A6 rfl rfl <| Q2 rfl rfl (O2 rfl (by omega)) H4 (by omega) <| A6 rfl rfl <| D3 (es := List.map tV [[48], [49], [97], [44], [45], [93], [32]]) rfl rfl (of_decide_eq_true rfl) rfl rfl (fun _ => B2 (B0 fun _ => rfl)) (fun _ => rfl) ?_
   intro g24
   obtain ⟨_, _, ⟨w1, rfl, rfl, hw1⟩, hC2⟩ := a8u (oG := oG) bs (p + 1 + 1) hbs hl (by omega) [[48], [49], [97], [44], [45], [93], [32]] (by decide)
   have hw1b : w1.length ≤ 1 := by have hall : ∀ x ∈ ([[48], [49], [97], [44], [45], [93], [32]] : List W8), x.length ≤ 1 := (by decide); exact hall _ hw1
   apply C4 rfl
   ·apply A9
    ·exact J4 rfl (by decide) rfl
    apply A9
    ·exact I0 rfl rfl (by (simp; done)) (fun _ => rfl)
    exact C3
   ·exact hC2
   ·exact ⟨rfl, rfl, rfl, of_decide_eq_true rfl, rfl⟩
   ·exact .inl rfl
   ·exact F6 rfl rfl rfl B1
   ·exact C0 rfl
   ·exact fun _ => rfl
   intro g25
   refine J6 rfl rfl (by simp only [G7, List.length_append, List.length_take, List.length_drop]; omega) <| A6 rfl rfl <| A6 rfl rfl <| K3 rfl rfl (F7 (by omega)) <| Q2 rfl rfl H4 (O2 rfl (by omega)) (by omega) <| J6 rfl rfl (by simp only [G7, List.length_append, List.length_take, List.length_drop]; omega) <| A4 rfl rfl rfl ?_
   refine A5 ⟨fun _ => ⟨by (simp only [a2p, List.nil_append, List.append_nil, List.map_cons, List.map_nil, List.cons_append]; decide +kernel), by decide +kernel⟩, [(.t 4, _), (.h 0, _)], ⟨rfl, rfl, rfl, rfl, trivial⟩, ?_⟩
   refine B3 ?_
   refine ⟨_, _, ?_, I5 rfl rfl (I2 rfl rfl)⟩
   exact ⟨_, _, rfl, rfl, by omega, by omega, by (simp only [List.length_append, List.length_cons, List.length_nil, List.length_take, List.length_drop]; omega)⟩
  try simp only [SG, List.length_map] at hc
  refine B7 <| A3 <| A0 <| A6 rfl rfl <| A4 rfl rfl rfl ?_
  refine A5 ⟨nofun, _, kS [4] [0] rfl, ?_⟩
  refine B3 ?_
  refine ⟨_, _, ?_, I5 rfl rfl (I2 rfl rfl)⟩
  exact ⟨_, _, rfl, rfl, by omega, by omega, by omega⟩
 try simp only [SG, List.length_map] at hc
 refine A0 <| S6 rfl rfl <| A4 rfl rfl rfl ?_
 refine A5 ⟨nofun, _, kS [0,1,5,12,13] [0] rfl, ?_⟩
 refine A8 rfl (fun hc => ?_) (fun hc => ?_)
 ·try simp only [SG, List.length_map] at hc
  refine A3 <| A0 <| A6 rfl rfl <| A6 rfl rfl <| Z1 rfl rfl <| K7 rfl rfl ?_
  refine A5 ⟨nofun, _, kS [0,1,5,19] [0] rfl, ?_⟩
  refine A8 rfl (fun hc => ?_) (fun hc => ?_)
  ·try simp only [SG, List.length_map] at hc
   refine A3 <| A0 <| A6 rfl rfl <| A6 rfl rfl <| Q2 rfl rfl (O2 rfl (by omega)) H4 (by omega) <| A6 rfl rfl <| D3 (es := List.map tV [[48], [49], [97], [44], [45], [93], [32]]) rfl rfl (of_decide_eq_true rfl) rfl rfl (fun _ => B2 (B0 fun _ => rfl)) (fun _ => rfl) ?_
   intro g24
   obtain ⟨_, _, ⟨w1, rfl, rfl, hw1⟩, hC2⟩ := a8u (oG := oG) bs (p + 1 + 1) hbs hl (by omega) [[48], [49], [97], [44], [45], [93], [32]] (by decide)
   have hw1b : w1.length ≤ 1 := by have hall : ∀ x ∈ ([[48], [49], [97], [44], [45], [93], [32]] : List W8), x.length ≤ 1 := (by decide); exact hall _ hw1
   apply C4 rfl
   ·apply A9
    ·exact J4 rfl (by decide) rfl
    apply A9
    ·exact I0 rfl rfl (by (simp; done)) (fun _ => rfl)
    exact C3
   ·exact hC2
   ·exact ⟨rfl, rfl, rfl, of_decide_eq_true rfl, rfl⟩
   ·exact .inl rfl
   ·exact F6 rfl rfl rfl B1
   ·exact C0 rfl
   ·exact fun _ => rfl
   intro g25
   refine J6 rfl rfl (by simp only [G7, List.length_append, List.length_take, List.length_drop]; omega) <| A6 rfl rfl <| A6 rfl rfl <| K3 rfl rfl (F7 (by omega)) <| Q2 rfl rfl H4 (O2 rfl (by omega)) (by omega) <| J6 rfl rfl (by simp only [G7, List.length_append, List.length_take, List.length_drop]; omega) <| A4 rfl rfl rfl ?_
   refine A5 ⟨fun _ => ⟨by (simp only [a2p, List.nil_append, List.append_nil, List.map_cons, List.map_nil, List.cons_append]; decide +kernel), by decide +kernel⟩, [(.t 4, _), (.h 0, _)], ⟨rfl, rfl, rfl, rfl, trivial⟩, ?_⟩
   refine B3 ?_
   refine ⟨_, _, ?_, I5 rfl rfl (I2 rfl rfl)⟩
   exact ⟨_, _, rfl, rfl, by omega, by omega, by (simp only [List.length_append, List.length_cons, List.length_nil, List.length_take, List.length_drop]; omega)⟩
  try simp only [SG, List.length_map] at hc
  refine B7 <| A3 <| A0 <| A6 rfl rfl <| A4 rfl rfl rfl ?_
  refine A5 ⟨nofun, _, kS [4] [0] rfl, ?_⟩
  refine B3 ?_
  refine ⟨_, _, ?_, I5 rfl rfl (I2 rfl rfl)⟩
  exact ⟨_, _, rfl, rfl, by omega, by omega, by omega⟩
 try simp only [SG, List.length_map] at hc
 refine A3 <| A0 <| S6 rfl rfl <| A4 rfl rfl rfl ?_
 refine A5 ⟨nofun, _, kS [0,1,5,12,32] [0] rfl, ?_⟩
 refine A8 rfl (fun hc => ?_) (fun hc => ?_)
 ·try simp only [SG, List.length_map] at hc
  refine A3 <| A0 <| A6 rfl rfl <| A6 rfl rfl <| Q2 rfl rfl (O2 rfl (by omega)) H4 (by omega) <| A4 rfl rfl rfl ?_
  refine A5 ⟨nofun, _, kS [4] [0] rfl, ?_⟩
  refine B3 ?_
  refine ⟨_, _, ?_, I5 rfl rfl (I2 rfl rfl)⟩
  exact ⟨_, _, rfl, rfl, by omega, by omega, by (simp only [List.length_append, List.length_cons, List.length_nil, List.length_take, List.length_drop]; omega)⟩
 try simp only [SG, List.length_map] at hc
 refine A3 <| A0 <| S6 rfl rfl <| A4 rfl rfl rfl ?_
 refine A5 ⟨nofun, _, kS [0,1,37] [0] rfl, ?_⟩
 refine A8 rfl (fun hc => ?_) (fun hc => ?_)
 ·try simp only [SG, List.length_map] at hc
  refine A3 <| A0 <| A6 rfl rfl <| A6 rfl rfl <| D3 (es := List.map tV [[48], [44], [32], [32, 97]]) rfl rfl (of_decide_eq_true rfl) rfl rfl (fun _ => B2 (B0 fun _ => rfl)) (fun _ => rfl) ?_
  intro g41
  obtain ⟨_, _, ⟨w2, rfl, rfl, hw2⟩, hC3⟩ := a8u (oG := oG) bs (p + 1 + 1) hbs hl (by omega) [[48], [44], [32], [32, 97]] (by decide)
  have hw2b : w2.length ≤ 2 := by have hall : ∀ x ∈ ([[48], [44], [32], [32, 97]] : List W8), x.length ≤ 2 := (by decide); exact hall _ hw2
  apply C4 rfl
  ·apply A9
   ·exact J4 rfl (by decide) rfl
   apply A9
   ·exact I0 rfl rfl (by (simp; done)) (fun _ => rfl)
   exact C3
  ·exact hC3
  ·exact ⟨rfl, rfl, rfl, of_decide_eq_true rfl, rfl⟩
  ·exact .inl rfl
  ·exact F6 rfl rfl rfl B1
  ·exact C0 rfl
  ·exact fun _ => rfl
  intro g42
  refine J6 rfl rfl (by simp only [G7, List.length_append, List.length_cons, List.length_nil]; omega) <| A4 rfl rfl rfl ?_
  refine A5 ⟨nofun, _, kS [4] [0] rfl, ?_⟩
  refine B3 ?_
  refine ⟨_, _, ?_, I5 rfl rfl (I2 rfl rfl)⟩
  exact ⟨_, _, rfl, rfl, by omega, by omega, by (simp only [List.length_append, List.length_cons, List.length_nil, List.length_take, List.length_drop]; omega)⟩
 try simp only [SG, List.length_map] at hc
 refine B7 <| A3 <| A0 <| A6 rfl rfl <| A4 rfl rfl rfl ?_
 refine A5 ⟨nofun, _, kS [4] [0] rfl, ?_⟩
 refine B3 ?_
 refine ⟨_, _, ?_, I5 rfl rfl (I2 rfl rfl)⟩
 exact ⟨_, _, rfl, rfl, by omega, by omega, by omega⟩

theorem keep_s_somePlan : F9 Tryz.f23 = [0, 2, 11, 3] := by kernel_rfl
set_option maxHeartbeats 20000000 in
theorem c0r (bs : List Int) (p : Int) (hbs : a2s bs) (hl : bs.length ≤ 1048576) (hp : 0 ≤ p ∧ p ≤ 1000000) : ∃ res outs, (fun res outs => ∃ (x : W8) (q : Int), res = tV x ∧ outs = [[rdr bs q]] ∧ p ≤ q ∧ q ≤ p + 3000 ∧ x.length ≤ 5000) res outs ∧ CW (cxT oG) 23 [.ownp [rdr bs p] 0 0] = some (res, outs) := by
 refine R4 rfl Tryz.func23 rfl ⟨by kernel_rfl, rfl, of_decide_eq_true rfl, of_decide_eq_true rfl, by decide⟩ keep_s_somePlan <| A3 <| A0 <| A4 rfl rfl rfl ?_
 refine A5 ⟨nofun, _, kS [0] [0] rfl, ?_⟩
 refine A3 <| A0 <| A6 rfl rfl <| A6 rfl rfl <| D3 (es := List.map iV [3, 4, 2, 5, 1, 0]) rfl rfl (of_decide_eq_true rfl) rfl rfl (fun _ => B2 (B0 fun _ => rfl)) (fun _ => rfl) ?_
 intro g6
 obtain ⟨_, _, ⟨k0, rfl, rfl, hk0⟩, hC0⟩ := c9p (oG := oG) bs (p) hbs hl (by omega) [3, 4, 2, 5, 1, 0] (by decide)
 have hk0b : 0 ≤ k0 ∧ k0 ≤ 5 := by simp at hk0; omega
 obtain ⟨d, rfl⟩ : ∃ d : Nat, k0 = d := ⟨k0.toNat, by omega⟩
 have hgm := d0n (d := d) (by omega)
 have hlm := c3f (d := d) (by omega)
 have hgp := b6p d
 apply C4 rfl
 ·apply A9
  ·exact J4 rfl (by decide) rfl
  apply A9
  ·exact I0 rfl rfl (by (simp; done)) (fun _ => rfl)
  exact C3
 ·exact hC0
 ·exact ⟨rfl, rfl, rfl, of_decide_eq_true rfl, rfl⟩
 ·exact .inl rfl
 ·exact F6 rfl rfl rfl B1
 ·exact C0 rfl
 ·exact fun _ => rfl
 intro g7
 obtain ⟨_, _, ⟨x, q, rfl, rfl, hx1, hx2, hx3⟩, hC1⟩ := c0q (oG := oG) bs (p + 1) d hbs hl (by omega) (by omega)
 apply C4 rfl
 ·apply A9
  ·exact J4 rfl (by decide) rfl
  apply A9
  ·exact B5 rfl
  exact C3
 ·exact hC1
 ·exact ⟨rfl, rfl, rfl, of_decide_eq_true rfl, rfl⟩
 ·exact .inl rfl
 ·exact F6 rfl rfl rfl B1
 ·exact C0 rfl
 ·exact fun _ => rfl
 intro g8
 refine A4 rfl rfl rfl ?_
 refine A5 ⟨nofun, _, kS [0,3] [0] rfl, ?_⟩
 refine A3 <| A3 <| A0 <| A6 rfl rfl ?_
 obtain ⟨_, _, ⟨k1, rfl, rfl, hk1, -⟩, hC2⟩ := Z0 (oG := oG) bs (q) hbs hl (by omega) (16) (by omega)
 have hk1 := hk1 (by omega)
 apply C4 rfl
 ·apply A9
  ·exact J4 rfl (by decide) rfl
  apply A9
  ·exact B5 rfl
  exact C3
 ·exact hC2
 ·exact ⟨rfl, rfl, rfl, of_decide_eq_true rfl, rfl⟩
 ·exact .inl rfl
 ·exact F6 rfl rfl rfl B1
 ·exact C0 rfl
 ·exact fun _ => rfl
 intro g10
 refine S6 rfl rfl ?_
 refine A5 ⟨nofun, _, kS [0,3,11] [0] rfl, ?_⟩
 refine A8 rfl (fun hc => ?_) (fun hc => ?_)
 ·try simp only [SG, List.length_map] at hc
  refine A0 <| A6 rfl rfl <| A6 rfl rfl ?_
  obtain ⟨_, _, ⟨y, q2, rfl, rfl, hy1, hy2, hy3⟩, hC3⟩ := c8k (oG := oG) bs (q + 1) hbs hl (by omega) x (by omega)
  apply C4 rfl
  ·apply A9
   ·exact J4 rfl (by decide) rfl
   apply A9
   ·exact B5 rfl
   exact C3
  ·exact hC3
  ·exact ⟨rfl, rfl, rfl, of_decide_eq_true rfl, rfl⟩
  ·exact .inl rfl
  ·exact F6 rfl rfl rfl B1
  ·exact C0 rfl
  ·exact fun _ => rfl
  intro g14
  refine A4 rfl rfl rfl ?_
  refine A5 ⟨nofun, _, kS [3] [0] rfl, ?_⟩
  refine A3 <| A0 <| A6 rfl rfl <| A4 rfl rfl rfl ?_
  refine A5 ⟨nofun, _, kS [2] [0] rfl, ?_⟩
  refine B3 ?_
  refine ⟨_, _, ?_, I5 rfl rfl (I2 rfl rfl)⟩
  exact ⟨_, _, rfl, rfl, by omega, by omega, by omega⟩
 try simp only [SG, List.length_map] at hc
 refine B7 <| A3 <| A0 <| A6 rfl rfl <| A4 rfl rfl rfl ?_
 refine A5 ⟨nofun, _, kS [2] [0] rfl, ?_⟩
 refine B3 ?_
 refine ⟨_, _, ?_, I5 rfl rfl (I2 rfl rfl)⟩
 exact ⟨_, _, rfl, rfl, by omega, by omega, by omega⟩

theorem keep_s_drawCodeOf : F9 Tryz.f7 = [0, 2] := by kernel_rfl
set_option maxHeartbeats 20000000 in
theorem b6x (bs : List Int) (hbs : a2s bs) (hl : bs.length ≤ 1048576) : ∃ res outs, (fun res outs => ∃ x : W8, res = tV x ∧ outs = [] ∧ x.length ≤ 5000) res outs ∧ CW (cxT oG) 7 [.list (bs.map uV)] = some (res, outs) := by
 refine R4 rfl Tryz.func7 rfl ⟨by kernel_rfl, rfl, of_decide_eq_true rfl, of_decide_eq_true rfl, by decide⟩ keep_s_drawCodeOf <| A3 <| A0 <| A4 rfl rfl rfl ?_
 refine A5 ⟨nofun, _, kS [0] [] rfl, ?_⟩
 refine A3 <| A0 <| A6 rfl rfl ?_
 obtain ⟨_, _, ⟨rfl, rfl⟩, hC0⟩ := c0h (oG := oG) bs hl
 have hbs2 : a2s (bs.take 2000) := fun b hb => hbs b (List.mem_of_mem_take hb)
 have hl2 : (bs.take 2000).length ≤ 1048576 := by simp; omega
 apply C4 rfl
 ·apply A9
  ·exact B5 rfl
  exact C3
 ·exact hC0
 ·exact ⟨rfl, rfl, rfl, of_decide_eq_true rfl, rfl⟩
 ·exact .inl rfl
 ·exact B1
 ·exact c7q
 ·exact fun _ => rfl
 intro g4
 obtain ⟨_, _, ⟨x, q, rfl, rfl, -, -, hx3⟩, hC1⟩ := c0r (oG := oG) (bs.take 2000) 0 hbs2 hl2 (by omega)
 apply C4 rfl
 ·apply A9
  ·exact J4 rfl (by decide) rfl
  exact C3
 ·exact hC1
 ·exact ⟨rfl, rfl, rfl, of_decide_eq_true rfl, rfl⟩
 ·exact .inl rfl
 ·exact F6 rfl rfl rfl B1
 ·exact C0 rfl
 ·exact fun _ => rfl
 intro g5
 refine A4 rfl rfl rfl ?_
 refine A5 ⟨nofun, _, kS [2] [] rfl, ?_⟩
 refine B3 ?_
 refine ⟨_, _, ?_, I5 rfl rfl C6⟩
 exact ⟨x, rfl, rfl, hx3⟩

theorem keep_s_equalTexts : F9 Tryz.f9 = [0, 1, 4, 10, 5, 14, 25] := by kernel_rfl
set_option maxHeartbeats 20000000 in
theorem a6d (cs : List W8) (hl : cs.length ≤ 100) : CW (cxT oG) 9 [.list (cs.map tV), .list (cs.map tV)] = some (bV true, []) := by
 refine G4 rfl Tryz.func9 rfl ⟨by kernel_rfl, rfl, of_decide_eq_true rfl, of_decide_eq_true rfl, by decide⟩ keep_s_equalTexts <| A3 <| A0 <| A4 rfl rfl rfl ?_
 refine A5 ⟨nofun, _, kS [0,1] [] rfl, ?_⟩
 refine A3 <| A3 <| A0 <| A6 rfl rfl <| H0 rfl rfl <| A6 rfl rfl <| H0 rfl rfl <| c8a rfl rfl ?_
 refine A5 ⟨nofun, _, kS [0,1,10] [] rfl, ?_⟩
 refine A8 rfl (fun hc => ?_) (fun hc => ?_)
 ·try simp only [SD] at hc
  exact absurd trivial hc
 try simp only [SG, List.length_map] at hc
 refine B7 <| A3 <| A3 <| A0 <| A4 rfl rfl rfl ?_
 refine A5 ⟨nofun, _, kS [0,1,5] [] rfl, ?_⟩
 refine E3 <| L1 (β := Nat) [(.t 0, _), (.t 1, _)] (fun (i : Nat) => [(.t 5, iV i)]) (fun (i : Nat) => i ≤ cs.length) (fun (i : Nat) => cs.length - i) 0 ⟨rfl, rfl, rfl, trivial⟩ (Nat.zero_le _) ?_
 intro i hb
 have hi1 := hb
 refine A3 <| A3 <| A0 <| A6 rfl rfl <| A6 rfl rfl <| H0 rfl rfl <| K7 rfl rfl ?_
 refine A5 ⟨nofun, _, kS [0,1,5,14] [] rfl, ?_⟩
 refine A8 rfl (fun hc => ?_) (fun hc => ?_)
 ·try simp only [SG, List.length_map] at hc
  refine B7 <| A3 <| E3 <| A3 <| A0 <| A6 rfl rfl <| A6 rfl rfl <| H9 rfl rfl rfl (fun _ => rfl) (by omega) <| G5 rfl rfl rfl <| A6 rfl rfl <| A6 rfl rfl <| H9 rfl rfl rfl (fun _ => rfl) (by omega) <| G5 rfl rfl rfl <| b2n rfl rfl ?_
  refine A5 ⟨fun _ => ⟨by decide +kernel, by decide +kernel⟩, [(.t 0, _), (.t 1, _), (.t 5, _), (.t 25, _)], ⟨rfl, rfl, rfl, rfl, rfl, rfl, rfl, rfl, trivial⟩, ?_⟩
  refine A8 rfl (fun hc => ?_) (fun hc => ?_)
  ·try simp only [SD] at hc
   exact absurd trivial hc
  try simp only [SG, List.length_map] at hc
  refine B7 <| A0 <| A6 rfl rfl <| K3 rfl rfl (F7 (by omega)) <| A4 rfl rfl rfl ?_
  refine A5 ⟨nofun, _, kS [0,1,5] [] rfl, ?_⟩
  refine ⟨i + 1, (by omega), (by omega), ⟨rfl, rfl, rfl, trivial⟩⟩
 try simp only [SG, List.length_map] at hc
 refine J3 <| A3 <| A0 <| A4 rfl rfl rfl ?_
 refine A5 ⟨nofun, _, kS [4] [] rfl, ?_⟩
 refine B3 <| D4 rfl rfl trivial ?_
 rfl

theorem keep_s_FnCodeOf : F9 Tryz.f3 = [0, 2, 10, 3, 4, 24, 6, 32, 38, 5, 7] := by kernel_rfl
set_option maxHeartbeats 20000000 in
theorem c1e (bs : List Int) (hbs : a2s bs) : CW (cxT oG) 3 [.list (bs.map uV)] = some (bV true, []) := by
 refine G4 rfl Tryz.func3 rfl ⟨by kernel_rfl, rfl, of_decide_eq_true rfl, of_decide_eq_true rfl, by decide⟩ keep_s_FnCodeOf <| A3 <| A0 <| A4 rfl rfl rfl ?_
 refine A5 ⟨nofun, _, kS [0] [] rfl, ?_⟩
 refine A3 <| A3 <| A0 <| A6 rfl rfl <| H0 rfl rfl <| Y1 rfl rfl ?_
 refine A5 ⟨nofun, _, kS [0,10] [] rfl, ?_⟩
 refine A8 rfl (fun hc => ?_) (fun hc => ?_)
 ·try simp only [SG, List.length_map] at hc
  refine A3 <| A0 <| A4 rfl rfl rfl ?_
  refine A5 ⟨nofun, _, kS [2] [] rfl, ?_⟩
  refine B3 <| D4 rfl rfl trivial ?_
  rfl
 try simp only [SG, List.length_map] at hc
 refine B7 <| A3 <| A0 <| A6 rfl rfl ?_
 have hl2 : bs.length ≤ 1048576 := by omega
 obtain ⟨_, _, ⟨s, rfl, rfl, hs⟩, hC1⟩ := b6x (oG := oG) bs hbs hl2
 apply C4 rfl
 ·apply A9
  ·exact B5 rfl
  exact C3
 ·exact hC1
 ·exact ⟨rfl, rfl, rfl, of_decide_eq_true rfl, rfl⟩
 ·exact .inl rfl
 ·exact B1
 ·exact C0 rfl
 ·exact fun _ => rfl
 intro g12
 refine A4 rfl rfl rfl ?_
 refine A5 ⟨nofun, _, kS [3] [] rfl, ?_⟩
 refine A3 <| A0 <| A6 rfl rfl ?_
 apply C4 rfl
 ·apply A9
  ·exact B5 rfl
  exact C3
 ·exact c5c s (by omega)
 ·exact ⟨rfl, rfl, rfl, of_decide_eq_true rfl, rfl⟩
 ·exact .inl rfl
 ·exact B1
 ·exact O9
 ·exact fun _ => rfl
 intro g14
 simp only [List.length_map]
 (refine B9 rfl rfl (by (simp; done)) rfl (fun _ => (B2 (by exact B0 fun _ => rfl))) (fun _ => rfl) ?_; intro g4)
 refine A5 ⟨nofun, _, kS [3,4] [4] rfl, ?_⟩
 refine A3 <| A3 <| A0 <| A6 rfl rfl <| A6 rfl rfl ?_
 apply C4 rfl
 ·apply A9
  ·exact B5 rfl
  exact C3
 ·exact b4a s (by omega)
 ·exact ⟨rfl, rfl, rfl, of_decide_eq_true rfl, rfl⟩
 ·exact .inl rfl
 ·exact B1
 ·exact O9
 ·exact fun _ => rfl
 intro g17
 simp only [List.length_map]
 apply C4 rfl
 ·apply A9
  ·exact L7 rfl rfl rfl (by (simp; done)) (fun _ => rfl)
  apply A9
  ·exact L7 rfl rfl rfl (by (simp; done)) (fun _ => rfl)
  exact C3
 ·exact a6d (S2 s) (by have := a8b s; omega)
 ·exact ⟨rfl, rfl, rfl, of_decide_eq_true rfl, rfl⟩
 ·exact .inr ⟨rfl, rfl⟩
 ·exact B1
 ·exact C0 rfl
 ·exact fun _ => rfl
 intro g18
 refine P1 rfl <| A6 rfl rfl <| N7 rfl rfl rfl <| A6 rfl rfl <| N7 rfl rfl rfl <| Q5 rfl rfl <| N7 rfl rfl rfl <| S6 rfl rfl <| G6 rfl rfl rfl rfl ?_
 refine A5 ⟨nofun, _, kS [3,4,24] [4] rfl, ?_⟩
 refine A8 rfl (fun hc => ?_) (fun hc => ?_)
 ·try simp only [SG, List.length_map] at hc
  refine A3 <| A0 <| A6 rfl rfl <| A6 rfl rfl ?_
  apply C4 rfl
  ·apply A9
   ·exact B5 rfl
   exact C3
  ·exact b4a s (by omega)
  ·exact ⟨rfl, rfl, rfl, of_decide_eq_true rfl, rfl⟩
  ·exact .inl rfl
  ·exact B1
  ·exact O9
  ·exact fun _ => rfl
  intro g27
  simp only [List.length_map]
  apply C4 rfl
  ·apply A9
   ·exact L7 rfl rfl rfl (by (simp; done)) (fun _ => rfl)
   apply A9
   ·exact L7 rfl rfl rfl (by (simp; done)) (fun _ => rfl)
   exact C3
  ·exact a6d (S2 s) (by have := a8b s; omega)
  ·exact ⟨rfl, rfl, rfl, of_decide_eq_true rfl, rfl⟩
  ·exact .inr ⟨rfl, rfl⟩
  ·exact B1
  ·exact C0 rfl
  ·exact fun _ => rfl
  intro g28
  refine A4 rfl rfl rfl ?_
  refine A5 ⟨nofun, _, kS [2] [] rfl, ?_⟩
  refine B3 <| D4 rfl rfl trivial ?_
  rfl
 try simp only [SG, List.length_map] at hc
 obtain ⟨hw1, hw2, hw3⟩ := c9j (s := s) (by intro e; rw [e] at hc; exact hc rfl)
 have hct := fun (i : Nat) (h : i < s.length) => c1g (c := 32) h
 have hix : (((S2 s).length : Int) - 1).toNat = (S2 s).length - 1 := by omega
 have hc16 := a8b s
 obtain ⟨w, hw⟩ : ∃ w, w = (S2 s).getD ((S2 s).length - 1) default := ⟨_, rfl⟩
 rw [← hw] at hw2 hw3
 refine B7 <| A3 <| A0 <| A4 rfl rfl rfl ?_
 refine A5 ⟨nofun, _, kS [3,4,5] [4] rfl, ?_⟩
 refine A3 <| A3 <| A0 <| A4 rfl rfl rfl ?_
 refine A5 ⟨nofun, _, kS [3,4,5,6] [4] rfl, ?_⟩
 refine E3 <| L1 (β := Nat × Int) [(.t 3, _), (.t 4, _), (.h 4, _)] (fun (z : Nat × Int) => match z with | (i, n) => [(.t 6, iV i), (.t 5, iV n)]) (fun (z : Nat × Int) => match z with | (i, n) => i ≤ s.length ∧ n = 1 + ((s.take i).count 32 : Nat)) (fun (z : Nat × Int) => match z with | (i, n) => s.length - i) (0, 1) ⟨rfl, rfl, rfl, rfl, rfl, trivial⟩ ⟨Nat.zero_le _, by simp⟩ ?_
 intro z hb
 obtain ⟨i, n⟩ := z
 try dsimp only at hb
 obtain ⟨hi1, hn⟩ := hb
 have hcl := List.count_le_length (a := (32 : UInt8)) (l := s.take i)
 rw [List.length_take] at hcl
 refine A3 <| A3 <| A0 <| A6 rfl rfl <| A6 rfl rfl <| Z1 rfl rfl <| K7 rfl rfl ?_
 refine A5 ⟨nofun, _, kS [3,4,5,6,32] [4] rfl, ?_⟩
 refine A8 rfl (fun hc => ?_) (fun hc => ?_)
 ·try simp only [SG, List.length_map] at hc
  refine B7 <| A3 <| E3 <| A3 <| A0 <| A6 rfl rfl <| A6 rfl rfl <| N1 rfl rfl rfl (by omega) <| S6 rfl rfl ?_
  refine A5 ⟨nofun, _, kS [3,4,5,6,38] [4] rfl, ?_⟩
  refine A8 rfl (fun hc => ?_) (fun hc => ?_)
  ·try simp only [SG, List.length_map] at hc
   refine A0 <| A6 rfl rfl <| K3 rfl rfl (F7 (by omega)) <| A4 rfl rfl rfl ?_
   refine A5 ⟨nofun, _, kS [3,4,5,6] [4] rfl, ?_⟩
   refine A0 <| A6 rfl rfl <| K3 rfl rfl (F7 (by omega)) <| A4 rfl rfl rfl ?_
   refine A5 ⟨nofun, _, kS [3,4,5,6] [4] rfl, ?_⟩
   refine ⟨(i + 1, n + 1), ?_, (by simp only; omega), ⟨rfl, rfl, rfl, rfl, rfl, trivial⟩⟩
   exact ⟨by omega, by rw [hct i (by omega)]; (rw [if_pos (c7j (k := 32) hc rfl)]; omega)⟩
  try simp only [SG, List.length_map] at hc
  refine B7 <| A0 <| A6 rfl rfl <| K3 rfl rfl (F7 (by omega)) <| A4 rfl rfl rfl ?_
  refine A5 ⟨nofun, _, kS [3,4,5,6] [4] rfl, ?_⟩
  refine ⟨(i + 1, n), ?_, (by simp only; omega), ⟨rfl, rfl, rfl, rfl, rfl, trivial⟩⟩
  exact ⟨by omega, by rw [hct i (by omega)]; (rw [if_neg (fun e => hc (by rw [e]; rfl))]; omega)⟩
 try simp only [SG, List.length_map] at hc
 refine J3 <| A3 <| A0 <| A6 rfl rfl <| A6 rfl rfl <| Q5 rfl rfl <| a0h rfl rfl (F7 (by omega)) <| b8k rfl rfl rfl rfl (by omega) (by (simp; done)) rfl <| U2 rfl rfl (by omega) (fun _ => rfl) (fun _ => rfl) rfl ?_
 rw [hix, ← hw]
 refine A4 rfl rfl rfl ?_
 refine A5 ⟨nofun, _, kS [3,4,5,7] [4] rfl, ?_⟩
 refine A3 <| A0 <| A6 rfl rfl <| Q5 rfl rfl <| A6 rfl rfl <| S6 rfl rfl <| A6 rfl rfl ?_
 refine D9 rfl rfl (fun hg0 => ?_) (fun hg0 => ?_)
 ·have hg := hg0; try simp only [SG] at hg
  refine A6 rfl rfl <| gT rfl rfl <| A6 rfl rfl <| gT rfl rfl <| Z1 rfl rfl <| gT rfl rfl <| Q2 rfl rfl (H1 rfl) H4 (by omega) <| gT rfl rfl <| A6 rfl rfl <| gT rfl rfl <| a5z rfl rfl <| G1 rfl (by assumption) rfl rfl <| A4 rfl rfl rfl ?_
  refine A5 ⟨nofun, _, kS [2] [] rfl, ?_⟩
  refine B3 <| D4 rfl rfl trivial ?_
  exact congrArg bV (decide_eq_true hw2.symm)
 have hg := hg0; try simp only [SG] at hg
 refine gF rfl rfl <| gF rfl rfl <| gF rfl rfl <| gF rfl rfl <| gF rfl rfl <| G6 rfl (by assumption) rfl rfl <| A4 rfl rfl rfl ?_
 refine A5 ⟨nofun, _, kS [2] [] rfl, ?_⟩
 refine B3 <| D4 rfl rfl trivial ?_
 (exfalso; rw [List.take_of_length_le (by omega)] at hn; omega)
end Go.Proofs.YtpjgdgnaeohmeaaGreatDoor
