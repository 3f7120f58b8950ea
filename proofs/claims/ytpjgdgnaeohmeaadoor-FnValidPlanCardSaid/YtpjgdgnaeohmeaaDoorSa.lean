/- What each function of the program gives on the abstract machine, part 1 of 1. Conditions: those in front of each theorem. -/
import Derived.Test.YtpjgdgnaeohmeaaDoorMd
import Derived.Test.YtpjgdgnaeohmeaaDoorChecked
import Derived.KernelRfl

set_option linter.unusedVariables false
set_option linter.unusedSimpArgs false
namespace Go.Proofs.YtpjgdgnaeohmeaaDoor
open Go Go.Mv Go.Proofs
set_option maxRecDepth 100000

theorem SD : (∀ {p : Prop} [Decidable p], (decide p = true) = p) ∧ (∀ {p : Prop} {_ : Decidable p}, decide p = false ↔ ¬p) ∧ (∀ (b : Bool), ((!b) = true) = (b = false)) ∧ (∀ (b : Bool), ((!b) = false) = (b = true)) ∧ (∀ {α : Type} [BEq α] [LawfulBEq α] {a b : α}, (a != b) = true ↔ a ≠ b) ∧
    (∀ {α : Type} [BEq α] [LawfulBEq α] {a b : α}, (a == b) = true ↔ a = b) ∧ (∀ {α : Type} (a b : α), (a ≠ b) = ¬a = b) ∧ (!true) = false ∧ (!false) = true ∧ (∀ {α : Type} [BEq α] [LawfulBEq α] {a b : α}, (a == b) = false ↔ a ≠ b) ∧ (∀ {α : Type} [BEq α] [LawfulBEq α] {a b : α}, (a != b) = false ↔ a = b) ∧
    (∀ {p : Prop} [Decidable p], ¬¬p ↔ p) ∧ (∀ {a b : Int}, ¬a < b ↔ b ≤ a) ∧ (∀ {a b : Int}, ¬a ≤ b ↔ b < a) :=
  ⟨@decide_eq_true_eq, @decide_eq_false_iff_not, @Bool.not_eq_true', @Bool.not_eq_false', @bne_iff_ne, @beq_iff_eq, @ne_eq, @Bool.not_true, @Bool.not_false, @beq_eq_false_iff_ne, @bne_eq_false_iff_eq, @Decidable.not_not, @Int.not_lt, @Int.not_le⟩
theorem SG : ((∀ {p : Prop} [Decidable p], (decide p = true) = p) ∧ (∀ {p : Prop} {_ : Decidable p}, decide p = false ↔ ¬p) ∧ (∀ (b : Bool), ((!b) = true) = (b = false)) ∧ (∀ (b : Bool), ((!b) = false) = (b = true)) ∧ (∀ {α : Type} [BEq α] [LawfulBEq α] {a b : α}, (a != b) = true ↔ a ≠ b) ∧
    (∀ {α : Type} [BEq α] [LawfulBEq α] {a b : α}, (a == b) = true ↔ a = b) ∧ (∀ {α : Type} (a b : α), (a ≠ b) = ¬a = b) ∧ (!true) = false ∧ (!false) = true ∧ (∀ {α : Type} [BEq α] [LawfulBEq α] {a b : α}, (a == b) = false ↔ a ≠ b) ∧ (∀ {α : Type} [BEq α] [LawfulBEq α] {a b : α}, (a != b) = false ↔ a = b) ∧
    (∀ {p : Prop} [Decidable p], ¬¬p ↔ p) ∧ (∀ {a b : Int}, ¬a < b ↔ b ≤ a) ∧ (∀ {a b : Int}, ¬a ≤ b ↔ b < a)) ∧
    (∀ (a b : Bool), ((a && b) = true) = (a = true ∧ b = true)) ∧ (∀ {x y : Bool}, (x && y) = false ↔ x = false ∨ y = false) ∧ (∀ (a b : Bool), ((a || b) = true) = (a = true ∨ b = true)) ∧ (∀ {x y : Bool}, (x || y) = false ↔ x = false ∧ y = false) :=
  ⟨SD, @Bool.and_eq_true, @Bool.and_eq_false_iff, @Bool.or_eq_true, @Bool.or_eq_false_iff⟩
def c7t (keep : List Nat) (A : Asr) : List Mv.Loc → Asr → Option Asr
  | l :: ls, B => match keepLoc keep l, Mv.look A l with
    | true, some a => c7t keep A ls ((l, a) :: B)
    | _, _ => none
  | [], B => some B
theorem c3j {keep : List Nat} {A : Asr} : ∀ (ls : List Mv.Loc) {B C : Asr}, KeepL keep A B → c7t keep A ls B = some C → KeepL keep A C
  | [], B, C, h, e => by simp only [c7t, Option.some.injEq] at e; rw [← e]; exact h
  | l :: ls, B, C, h, e => by
    simp only [c7t] at e
    split at e
    · exact c3j ls (show KeepL keep A ((l, _) :: B) from ⟨by assumption, by assumption, h⟩) e
    · cases e
theorem kS (ts hs : List Nat) {keep : List Nat} {A B : Asr} (h : c7t keep A (ts.map .t ++ hs.map .h) [] = some B) : KeepL keep A B := c3j _ (show KeepL keep A [] from trivial) h
section
variable {cx : Cx} {keep : List Nat} {ops0 : Array Oper} {r : List Oper} {A : Asr} {Q : Asr → List Log → Prop}
variable {d ty : Nat} {pos : String} {aft : Array Edge}
theorem gT {op : Op} {dst : Option Nat} {g dg : Nat} {want b : Bool} (hd : (ops0[g]?).bind (·.dst) = some dg) (hb : Mv.look A (.t dg) = some (.val (.bool b)))
    (h : XR cx keep ops0 (⟨dst, op, ty, pos, aft, none⟩ :: r) A fun A' lg => Q A' (c2r (.t dg) lg)) (hw : b = want := by assumption) : XR cx keep ops0 (⟨dst, op, ty, pos, aft, some (g, want)⟩ :: r) A Q := T9 hd hb hw h
theorem gF {op : Op} {g dg : Nat} {want b : Bool} (hd : (ops0[g]?).bind (·.dst) = some dg) (hb : Mv.look A (.t dg) = some (.val (.bool b)))
    (h : XR cx keep ops0 r ((.t d, .val (.tuple #[])) :: A) fun A' lg => Q A' (([.t dg], [.t d]) :: lg)) (hw : b = !want := by assumption) : XR cx keep ops0 (⟨some d, op, ty, pos, aft, some (g, want)⟩ :: r) A Q := G5 hd hb hw h
end

def mdT : List (Nat × List Nat) := [(16, [1]), (23, [3, 3, 3, 3]), (24, [3, 3, 3, 3]), (28, [2]), (32, [3, 3, 3, 3]), (34, [3, 3, 3, 3]), (35, [3, 3, 3, 3]), (36, [3, 3, 3, 3]), (39, [3, 3, 3, 3]), (40, [3, 3, 3, 3]), (44, [3, 3, 3, 3]), (45, [3, 3, 3, 3]), (46, [3, 3, 3, 3]), (47, [3, 3, 3, 3]), (48, [3, 3, 3, 3]), (53, [3, 3, 3, 3]), (56, [3, 3, 3, 3])]
noncomputable def d2w : List (Nat × (List AV → Option (AV × List (List AV)))) := [(49, b1e), (50, b5s), (65, b0a), (80, b5v), (81, b6q), (82, b5h)]
variable {oG : Option Nat} {rG : Nat}
noncomputable def cxT (oG : Option Nat) : Cx := { P := Tryd.prog, md := d3q mdT, ext := c2y d2w, it := fun _ => none, fz := fun k => [23, 24, 32, 39, 40, 48, 53].contains k, fzB := fun T d => [(33, 58)].contains (T, d), gl := fun g => match oG with | some r => if g = 0 then some (.val (.map (some r))) else none | none => none, mp := fun k => match oG with | some r => if k = r then some c8j else none | none => none }
noncomputable def cxE : Cx := { P := Tryd.prog, md := d3q mdT, ext := fun _ => none, fz := fun k => [23, 24, 32, 39, 40, 48, 53].contains k }
theorem c3m (l : List UInt8) (b : UInt8) (hl : l.length < 4294967281) : CW (cxT oG) 49 [tV l, tV [b]] = some (.own 1 ((splitB b l).map tV), []) := a7f (cxT oG) rfl (by show (if l.length < 4294967281 then some ((AV.own 1 ((splitB b l).map tV), []) : AV × List (List AV)) else none) = _; rw [if_pos hl])
theorem d2v (ps : List (List UInt8)) (b : UInt8) (h1 : ps.length ≤ G8) (h2 : (joinB b ps).length ≤ G8) : CW (cxT oG) 50 [.list (ps.map tV), tV [b]] = some (tV (joinB b ps), []) := a7f (cxT oG) rfl (by show ((unT (ps.map tV)).bind fun ps => if ps.length ≤ G8 ∧ (joinB b ps).length ≤ G8 then some ((tV (joinB b ps), []) : AV × List (List AV)) else none) = _; rw [c9o, Option.bind_some, if_pos ⟨h1, h2⟩])
theorem d2f (n : Int) (h : -9223372036854775808 ≤ n ∧ n ≤ 9223372036854775807) : CW (cxT oG) 65 [iV n] = some (tV (dec n), []) := a7f (cxT oG) rfl (by simp [b0a, h])
theorem d2e (l : List UInt8) (b : UInt8) : CW (cxT oG) 80 [tV l, tV [b]] = some (.tup [tV (a2u b l), bV (decide (l.head? = some b))], []) := a7f (cxT oG) rfl rfl
theorem d2s (l : List UInt8) (b : UInt8) (hl : l.length < 4294967281) : CW (cxT oG) 81 [tV l, tV [b]] = some (.tup [tV (b2x b l), bV (decide (l.getLast? = some b))], []) := a7f (cxT oG) rfl (by show (if l.length < 4294967281 then some ((AV.tup [tV (b2x b l), bV (decide (l.getLast? = some b))], []) : AV × List (List AV)) else none) = _; rw [if_pos hl])
theorem c1i (l : List UInt8) (hl : l.length < 4294967281) : CW (cxT oG) 82 [tV l] = some (atR l, []) := a7f (cxT oG) rfl (by show (if l.length < 4294967281 then some ((atR l, []) : AV × List (List AV)) else none) = _; rw [if_pos hl])

theorem keep_s_inRange : G1 Tryd.f71 = [0, 1, 2, 6] := by kernel_rfl
set_option maxHeartbeats 20000000 in
theorem c5d (n lo hi : Int) : CW (cxT oG) 71 [iV n, iV lo, iV hi] = some (bV (decide (lo ≤ n) && decide (n ≤ hi)), []) := by
 refine G6 rfl Tryd.func71 rfl ⟨by kernel_rfl, rfl, of_decide_eq_true rfl, of_decide_eq_true rfl, by decide⟩ keep_s_inRange <| A4 <| A0 <| A3 rfl rfl rfl ?_
 refine A6 ⟨nofun, _, kS [0,1,2] [] rfl, ?_⟩
 refine A4 <| A0 <| A5 rfl rfl <| A5 rfl rfl <| b0z rfl rfl <| A5 rfl rfl ?_
 refine D5 rfl rfl (fun hg0 => ?_) (fun hg0 => ?_)
 ·have hg := hg0; try simp only [SG] at hg
  refine A5 rfl rfl <| gT rfl rfl <| A5 rfl rfl <| gT rfl rfl <| b0z rfl rfl <| F4 rfl (by assumption) rfl rfl <| A3 rfl rfl rfl ?_
  refine A6 ⟨nofun, _, kS [6] [] rfl, ?_⟩
  refine B3 <| D4 rfl rfl trivial ?_
  simp_all [ofConst]; try omega
 have hg := hg0; try simp only [SG] at hg
 refine gF rfl rfl <| gF rfl rfl <| G3 rfl (by assumption) rfl rfl <| A3 rfl rfl rfl ?_
 refine A6 ⟨nofun, _, kS [6] [] rfl, ?_⟩
 refine B3 <| D4 rfl rfl trivial ?_
 simp_all [ofConst]; try omega

theorem keep_s_in : G1 Tryd.f110 = [0, 1, 2, 6] := by kernel_rfl
set_option maxHeartbeats 20000000 in
theorem d4a (n lo hi : Int) : CW (cxT oG) 110 [iV n, iV lo, iV hi] = some (bV (decide (lo ≤ n) && decide (n ≤ hi)), []) := by
 refine G6 rfl Tryd.func110 rfl ⟨by kernel_rfl, rfl, of_decide_eq_true rfl, of_decide_eq_true rfl, by decide⟩ keep_s_in <| A4 <| A0 <| A3 rfl rfl rfl ?_
 refine A6 ⟨nofun, _, kS [0,1,2] [] rfl, ?_⟩
 refine A4 <| A0 <| A5 rfl rfl <| A5 rfl rfl <| c9a rfl rfl <| A5 rfl rfl ?_
 refine D5 rfl rfl (fun hg0 => ?_) (fun hg0 => ?_)
 ·have hg := hg0; try simp only [SG] at hg
  refine A5 rfl rfl <| gT rfl rfl <| A5 rfl rfl <| gT rfl rfl <| b0z rfl rfl <| F4 rfl (by assumption) rfl rfl <| A3 rfl rfl rfl ?_
  refine A6 ⟨nofun, _, kS [6] [] rfl, ?_⟩
  refine B3 <| D4 rfl rfl trivial ?_
  simp_all [ofConst]; try omega
 have hg := hg0; try simp only [SG] at hg
 refine gF rfl rfl <| gF rfl rfl <| G3 rfl (by assumption) rfl rfl <| A3 rfl rfl rfl ?_
 refine A6 ⟨nofun, _, kS [6] [] rfl, ?_⟩
 refine B3 <| D4 rfl rfl trivial ?_
 simp_all [ofConst]; try omega

theorem keep_s_IndexFunc2 : G1 Tryd.f119 = [0, 1, 4, 8, 7, 9, 5, 16] := by kernel_rfl
set_option maxHeartbeats 20000000 in
theorem b6g (xs : List Int) (hl : xs.length ≤ 1000) (k : Nat) (a b : AV) (q : Int → Bool) (hq : ∀ x, CW (cxT oG) k [iV x, .ipt a 0, .ipt b 0] = some (bV (q x), [])) : ∃ res outs, (fun res outs => ∃ r : Int, res = iV r ∧ outs = [] ∧ decide (0 ≤ r) = xs.any q) res outs ∧ CW (cxT oG) 119 [L xs, .clo k [.ipt a 0, .ipt b 0]] = some (res, outs) := by
 refine Q5 rfl Tryd.func119 rfl ⟨by kernel_rfl, rfl, of_decide_eq_true rfl, of_decide_eq_true rfl, by decide⟩ keep_s_IndexFunc2 <| A4 <| A0 <| A3 rfl rfl rfl ?_
 refine A6 ⟨nofun, _, kS [0,1] [] rfl, ?_⟩
 refine A4 <| A4 <| A0 <| A5 rfl rfl <| H8 rfl rfl <| A5 rfl rfl ?_
 refine A6 ⟨nofun, _, kS [0,1,7,8] [] rfl, ?_⟩
 refine E7 <| N7 (β := Nat) [(.t 0, _), (.t 1, _), (.t 7, _)] (fun (i : Nat) => [(.t 8, iV i)]) (fun (i : Nat) => i ≤ xs.length ∧ ∀ j, j < i → q (xs.getD j default) = false) (fun (i : Nat) => xs.length - i) 0 ⟨rfl, rfl, rfl, rfl, trivial⟩ ⟨Nat.zero_le _, fun j h => by omega⟩ ?_
 intro i hb
 obtain ⟨hi1, hi2⟩ := hb
 refine A4 <| A0 <| M1 rfl rfl ?_
 refine A6 ⟨nofun, _, kS [0,1,7,8,9] [] rfl, ?_⟩
 refine A4 ?_
 refine A8 rfl (fun hc => ?_) (fun hc => ?_)
 ·try simp only [SG, List.length_map] at hc
  refine B9 <| A4 <| E7 <| A4 <| A0 <| A5 rfl rfl <| A3 rfl rfl rfl ?_
  refine A6 ⟨nofun, _, kS [0,1,5,7,8] [] rfl, ?_⟩
  refine A4 <| A0 <| A5 rfl rfl <| A5 rfl rfl <| A5 rfl rfl <| J0 rfl rfl rfl (fun _ => rfl) (by omega) <| H1 rfl rfl rfl ?_
  apply d0b rfl rfl
  ·apply A9
   ·exact B4 rfl
   apply A9
   ·exact B4 rfl
   apply A9
   ·exact B4 rfl
   exact C3
  ·exact hq (xs.getD i default)
  ·exact ⟨rfl, rfl, rfl, of_decide_eq_true rfl, rfl⟩
  ·exact .inl rfl
  ·exact B1
  ·exact B7 rfl
  ·exact fun _ => rfl
  intro g16
  refine A6 ⟨nofun, _, kS [0,1,5,7,8,16] [] rfl, ?_⟩
  refine A8 rfl (fun hc => ?_) (fun hc => ?_)
  ·try simp only [SG, List.length_map] at hc
   refine A4 <| A0 <| A5 rfl rfl <| A3 rfl rfl rfl ?_
   refine A6 ⟨nofun, _, kS [4] [] rfl, ?_⟩
   refine B3 ?_
   refine ⟨_, _, ?_, I4 rfl rfl C6⟩
   exact ⟨_, rfl, rfl, c9t (by omega) hc⟩
  try simp only [SG, List.length_map] at hc
  refine B9 <| A0 <| L5 rfl rfl (G2 (by omega)) <| A5 rfl rfl ?_
  refine A6 ⟨nofun, _, kS [0,1,7,8] [] rfl, ?_⟩
  refine ⟨i + 1, ⟨by omega, fun a ha => by rcases Nat.lt_succ_iff_lt_or_eq.1 ha with h | h; exact hi2 a h; subst h; exact hc⟩, (by omega), ⟨rfl, rfl, rfl, rfl, trivial⟩⟩
 try simp only [SG, List.length_map] at hc
 refine K6 <| A4 <| A0 <| A3 rfl rfl rfl ?_
 refine A6 ⟨nofun, _, kS [4] [] rfl, ?_⟩
 refine B3 ?_
 refine ⟨_, _, ?_, I4 rfl rfl C6⟩
 exact ⟨-1, rfl, rfl, c7w fun j hj => hi2 j (by omega)⟩

theorem keep_s_ContainsFunc2 : G1 Tryd.f108 = [0, 1, 4] := by kernel_rfl
set_option maxHeartbeats 20000000 in
theorem a9q (xs : List Int) (hl : xs.length ≤ 1000) (k : Nat) (a b : AV) (q : Int → Bool) (hq : ∀ x, CW (cxT oG) k [iV x, .ipt a 0, .ipt b 0] = some (bV (q x), [])) : CW (cxT oG) 108 [L xs, .clo k [.ipt a 0, .ipt b 0]] = some (bV (xs.any q), []) := by
 obtain ⟨_, _, ⟨r, rfl, rfl, hr⟩, hC⟩ := b6g (oG := oG) xs hl k a b q hq
 refine G6 rfl Tryd.func108 rfl ⟨by kernel_rfl, rfl, of_decide_eq_true rfl, of_decide_eq_true rfl, by decide⟩ keep_s_ContainsFunc2 <| A4 <| A0 <| A3 rfl rfl rfl ?_
 refine A6 ⟨nofun, _, kS [0,1] [] rfl, ?_⟩
 refine A4 <| A0 <| A5 rfl rfl <| A5 rfl rfl ?_
 apply C4 rfl
 ·apply A9
  ·exact B4 rfl
  apply A9
  ·exact c8e rfl (c7p (c7p c8f))
  exact C3
 ·exact hC
 ·exact ⟨rfl, rfl, rfl, of_decide_eq_true rfl, rfl⟩
 ·exact .inl rfl
 ·exact B1
 ·exact B7 rfl
 ·exact fun _ => rfl
 intro g7
 refine c9a rfl rfl <| A3 rfl rfl rfl ?_
 refine A6 ⟨nofun, _, kS [4] [] rfl, ?_⟩
 refine B3 <| D4 rfl rfl trivial ?_
 rw [← hr]

theorem keep_s_allIn1 : G1 Tryd.f109 = [0, 1, 2, 4] := by kernel_rfl
set_option maxHeartbeats 20000000 in
theorem c6q (x lo hi : Int) : CW (cxT oG) 109 [iV x, .ipt (iV lo) 0, .ipt (iV hi) 0] = some (bV (!(decide (lo ≤ x) && decide (x ≤ hi))), []) := by
 refine G6 rfl Tryd.func109 rfl ⟨by kernel_rfl, rfl, of_decide_eq_true rfl, of_decide_eq_true rfl, by decide⟩ keep_s_allIn1 <| A4 <| A0 <| A3 rfl rfl rfl ?_
 refine A6 ⟨nofun, _, kS [0,1,2] [] rfl, ?_⟩
 refine A4 <| A0 <| A5 rfl rfl <| H1 rfl rfl rfl <| H1 rfl rfl rfl ?_
 apply C4 rfl
 ·apply A9
  ·exact B4 rfl
  apply A9
  ·exact B4 rfl
  apply A9
  ·exact B4 rfl
  exact C3
 ·exact d4a _ _ _
 ·exact ⟨rfl, rfl, rfl, of_decide_eq_true rfl, rfl⟩
 ·exact .inl rfl
 ·exact B1
 ·exact B7 rfl
 ·exact fun _ => rfl
 intro g8
 refine P2 rfl <| A3 rfl rfl rfl ?_
 refine A6 ⟨nofun, _, kS [4] [] rfl, ?_⟩
 refine B3 <| D4 rfl rfl trivial ?_
 rfl

theorem keep_s_allIn : G1 Tryd.f94 = [0, 1, 2, 6, 4, 5] := by kernel_rfl
set_option maxHeartbeats 20000000 in
theorem d0o (xs : List Int) (hl : xs.length ≤ 1000) (lo hi : Int) : CW (cxT oG) 94 [L xs, iV lo, iV hi] = some (bV (a4t lo hi xs), []) := by
 refine G6 rfl Tryd.func94 rfl ⟨by kernel_rfl, rfl, of_decide_eq_true rfl, of_decide_eq_true rfl, by decide⟩ keep_s_allIn <| A4 <| A0 <| b7t rfl rfl rfl (fun _ => C0 rfl) (fun _ => rfl) ?_
 intro g4
 refine b7t rfl rfl rfl (fun _ => C0 rfl) (fun _ => rfl) ?_
 intro g5
 refine A3 rfl rfl rfl ?_
 refine A6 ⟨nofun, _, kS [0,4,5] [4,5] rfl, ?_⟩
 refine A4 <| A0 <| A5 rfl rfl <| c0q rfl rfl ?_
 apply C4 rfl
 ·apply A9
  ·exact B4 rfl
  apply A9
  ·exact c8e rfl (c7u rfl rfl (c7u rfl rfl c8f))
  exact C3
 ·exact a9q xs hl 109 (iV lo) (iV hi) _ (fun x => c6q x lo hi)
 ·exact ⟨rfl, rfl, rfl, of_decide_eq_true rfl, rfl⟩
 ·exact .inr ⟨rfl, rfl⟩
 ·exact B1
 ·exact B7 rfl
 ·exact fun _ => rfl
 intro g9
 refine P2 rfl <| A3 rfl rfl rfl ?_
 refine A6 ⟨nofun, _, kS [6] [] rfl, ?_⟩
 refine B3 <| D4 rfl rfl trivial ?_
 exact congrArg bV (c7d lo hi xs)

theorem keep_s_validData : G1 Tryd.f62 = [0, 2, 3, 7, 15] := by kernel_rfl
set_option maxHeartbeats 20000000 in
theorem b8a (xs : List Int) (hl : xs.length ≤ 1048576) : CW (cxT oG) 62 [L xs] = some (bV (vd xs), []) := by
 refine G6 rfl Tryd.func62 rfl ⟨by kernel_rfl, rfl, of_decide_eq_true rfl, of_decide_eq_true rfl, by decide⟩ keep_s_validData <| A4 <| A0 <| A3 rfl rfl rfl ?_
 refine A6 ⟨nofun, _, kS [0] [] rfl, ?_⟩
 refine A4 <| A4 <| A0 <| A3 rfl rfl rfl ?_
 refine A6 ⟨nofun, _, kS [0,3] [] rfl, ?_⟩
 refine E7 <| N7 (β := Nat) [(.t 0, _)] (fun (i : Nat) => [(.t 3, iV i)]) (fun (i : Nat) => i ≤ xs.length ∧ ∀ j, j < i → -200 ≤ xs.getD j default ∧ xs.getD j default ≤ 200) (fun (i : Nat) => xs.length - i) 0 ⟨rfl, rfl, trivial⟩ ⟨Nat.zero_le _, fun j h => by omega⟩ ?_
 intro i hb
 obtain ⟨hi1, hi2⟩ := hb
 refine A4 <| A4 <| A0 <| A5 rfl rfl <| A5 rfl rfl <| H8 rfl rfl <| M1 rfl rfl ?_
 refine A6 ⟨nofun, _, kS [0,3,7] [] rfl, ?_⟩
 refine A8 rfl (fun hc => ?_) (fun hc => ?_)
 ·try simp only [SG, List.length_map] at hc
  refine B9 <| A4 <| E7 <| A4 <| A0 <| A5 rfl rfl <| A5 rfl rfl <| J0 rfl rfl rfl (fun _ => rfl) (by omega) <| H1 rfl rfl rfl ?_
  apply C4 rfl
  ·apply A9
   ·exact B4 rfl
   apply A9
   ·exact B4 rfl
   apply A9
   ·exact B4 rfl
   exact C3
  ·exact c5d _ _ _
  ·exact ⟨rfl, rfl, rfl, of_decide_eq_true rfl, rfl⟩
  ·exact .inl rfl
  ·exact B1
  ·exact B7 rfl
  ·exact fun _ => rfl
  intro g14
  refine P2 rfl ?_
  refine A6 ⟨nofun, _, kS [0,3,15] [] rfl, ?_⟩
  refine A8 rfl (fun hc => ?_) (fun hc => ?_)
  ·try simp only [SG, List.length_map] at hc
   refine A4 <| A0 <| A3 rfl rfl rfl ?_
   refine A6 ⟨nofun, _, kS [2] [] rfl, ?_⟩
   refine B3 <| D4 rfl rfl trivial ?_
   rw [vd, c8d (show i < xs.length by omega) (by (simp_all; omega)), Bool.and_false]
   rfl
  try simp only [SG, List.length_map] at hc
  refine B9 <| A0 <| A5 rfl rfl <| L5 rfl rfl (G2 (by omega)) <| A3 rfl rfl rfl ?_
  refine A6 ⟨nofun, _, kS [0,3] [] rfl, ?_⟩
  refine ⟨i + 1, ⟨by omega, fun j hj => by rcases Nat.lt_succ_iff_lt_or_eq.1 hj with h | h; (· exact hi2 j h); (· subst h; assumption)⟩, (by omega), ⟨rfl, rfl, trivial⟩⟩
 try simp only [SG, List.length_map] at hc
 refine K6 <| A4 <| A0 <| A5 rfl rfl <| H8 rfl rfl <| b0z rfl rfl <| A3 rfl rfl rfl ?_
 refine A6 ⟨nofun, _, kS [2] [] rfl, ?_⟩
 refine B3 <| D4 rfl rfl trivial ?_
 rw [vd, d0x fun j hj => hi2 j (by omega), Bool.and_true]
 exact congrArg bV (decide_eq_decide.2 (by omega))

theorem keep_s_validDataI : G1 Tryd.f83 = [0, 2] := by kernel_rfl
set_option maxHeartbeats 20000000 in
theorem a5w (xs : List Int) (hl : xs.length ≤ 1048576) : CW (cxT oG) 83 [L xs] = some (bV (vd xs), []) := by
 refine G6 rfl Tryd.func83 rfl ⟨by kernel_rfl, rfl, of_decide_eq_true rfl, of_decide_eq_true rfl, by decide⟩ keep_s_validDataI <| A4 <| A0 <| A3 rfl rfl rfl ?_
 refine A6 ⟨nofun, _, kS [0] [] rfl, ?_⟩
 refine A4 <| A0 <| A5 rfl rfl <| H8 rfl rfl <| b0z rfl rfl <| A5 rfl rfl ?_
 refine D5 rfl rfl (fun hg0 => ?_) (fun hg0 => ?_)
 ·have hg := hg0; try simp only [SG] at hg
  refine A5 rfl rfl <| gT rfl rfl ?_
  apply C4 rfl
  ·apply A9
   ·exact B4 rfl
   apply A9
   ·exact B4 rfl
   apply A9
   ·exact B4 rfl
   exact C3
  ·exact d0o xs (by omega) (-200) 200
  ·exact ⟨rfl, rfl, rfl, of_decide_eq_true rfl, rfl⟩
  ·exact .inl rfl
  ·exact B1
  ·exact B7 rfl
  ·exact fun _ => rfl
  intro g8
  refine F4 rfl (by assumption) rfl rfl <| A3 rfl rfl rfl ?_
  refine A6 ⟨nofun, _, kS [2] [] rfl, ?_⟩
  refine B3 <| D4 rfl rfl trivial ?_
  cases hb : a4t (-200) 200 xs <;> simp_all [vd, ofConst] <;> omega
 have hg := hg0; try simp only [SG] at hg
 refine gF rfl rfl <| G3 rfl (by assumption) rfl rfl <| A3 rfl rfl rfl ?_
 refine A6 ⟨nofun, _, kS [2] [] rfl, ?_⟩
 refine B3 <| D4 rfl rfl trivial ?_
 cases hb : a4t (-200) 200 xs <;> simp_all [vd, ofConst] <;> omega

theorem keep_s_needs : G1 Tryd.f64 = [0, 2, 3, 4, 10, 19] := by kernel_rfl
set_option maxHeartbeats 20000000 in
theorem a5y (w : ByteArray) : CW (cxT oG) 64 [sV w] = some (iV (nd w), []) := by
 refine G6 rfl Tryd.func64 rfl ⟨by kernel_rfl, rfl, of_decide_eq_true rfl, of_decide_eq_true rfl, by decide⟩ keep_s_needs <| A4 <| A0 <| A3 rfl rfl rfl ?_
 refine A6 ⟨nofun, _, kS [0] [] rfl, ?_⟩
 refine A4 <| A4 <| A0 <| A5 rfl rfl ?_
 refine A6 ⟨nofun, _, kS [3] [] rfl, ?_⟩
 refine E7 <| A4 <| A4 <| A0 <| M4 rfl rfl <| A3 rfl rfl rfl ?_
 refine A6 ⟨nofun, _, kS [3,4] [] rfl, ?_⟩
 refine A8 rfl (fun hc => ?_) (fun hc => ?_)
 ·try simp only [SG, List.length_map] at hc
  refine B9 ?_
  refine A8 rfl (fun hc => ?_) (fun hc => absurd hc (by simp_all))
  refine A4 <| A0 <| A3 rfl rfl rfl ?_
  refine A6 ⟨nofun, _, kS [2] [] rfl, ?_⟩
  refine B3 <| D4 rfl rfl trivial <| congrArg iV ?_
  simp_all [nd]
 try simp only [SG, List.length_map] at hc
 refine A4 <| A0 <| M4 rfl rfl <| A3 rfl rfl rfl ?_
 refine A6 ⟨nofun, _, kS [3,4] [] rfl, ?_⟩
 refine A8 rfl (fun hc => ?_) (fun hc => ?_)
 ·try simp only [SG, List.length_map] at hc
  refine B9 ?_
  refine A8 rfl (fun hc => ?_) (fun hc => absurd hc (by simp_all))
  refine A4 <| A0 <| A3 rfl rfl rfl ?_
  refine A6 ⟨nofun, _, kS [2] [] rfl, ?_⟩
  refine B3 <| D4 rfl rfl trivial <| congrArg iV ?_
  simp_all [nd]
 try simp only [SG, List.length_map] at hc
 refine A4 <| A0 <| M4 rfl rfl <| A3 rfl rfl rfl ?_
 refine A6 ⟨nofun, _, kS [3,4] [] rfl, ?_⟩
 refine A8 rfl (fun hc => ?_) (fun hc => ?_)
 ·try simp only [SG, List.length_map] at hc
  refine B9 ?_
  refine A8 rfl (fun hc => ?_) (fun hc => absurd hc (by simp_all))
  refine A4 <| A0 <| A3 rfl rfl rfl ?_
  refine A6 ⟨nofun, _, kS [2] [] rfl, ?_⟩
  refine B3 <| D4 rfl rfl trivial <| congrArg iV ?_
  simp_all [nd]
 try simp only [SG, List.length_map] at hc
 refine A4 <| A0 <| M4 rfl rfl <| A3 rfl rfl rfl ?_
 refine A6 ⟨nofun, _, kS [3,4] [] rfl, ?_⟩
 refine A8 rfl (fun hc => ?_) (fun hc => ?_)
 ·try simp only [SG, List.length_map] at hc
  refine B9 ?_
  refine A8 rfl (fun hc => ?_) (fun hc => absurd hc (by simp_all))
  refine A4 <| A0 <| A3 rfl rfl rfl ?_
  refine A6 ⟨nofun, _, kS [2] [] rfl, ?_⟩
  refine B3 <| D4 rfl rfl trivial <| congrArg iV ?_
  simp_all [nd]
 try simp only [SG, List.length_map] at hc
 refine A0 <| M4 rfl rfl <| A3 rfl rfl rfl ?_
 refine A6 ⟨nofun, _, kS [3,4] [] rfl, ?_⟩
 refine A8 rfl (fun hc => ?_) (fun hc => ?_)
 ·try simp only [SG, List.length_map] at hc
  refine A4 <| A0 <| A3 rfl rfl rfl ?_
  refine A6 ⟨nofun, _, kS [2] [] rfl, ?_⟩
  refine B3 <| D4 rfl rfl trivial <| congrArg iV ?_
  simp_all [nd]
 try simp only [SG, List.length_map] at hc
 refine A4 <| A4 <| A0 <| M4 rfl rfl <| A3 rfl rfl rfl ?_
 refine A6 ⟨nofun, _, kS [3,10] [] rfl, ?_⟩
 refine A8 rfl (fun hc => ?_) (fun hc => ?_)
 ·try simp only [SG, List.length_map] at hc
  refine B9 ?_
  refine A8 rfl (fun hc => ?_) (fun hc => absurd hc (by simp_all))
  refine A4 <| A0 <| A3 rfl rfl rfl ?_
  refine A6 ⟨nofun, _, kS [2] [] rfl, ?_⟩
  refine B3 <| D4 rfl rfl trivial <| congrArg iV ?_
  simp_all [nd]
 try simp only [SG, List.length_map] at hc
 refine A4 <| A0 <| M4 rfl rfl <| A3 rfl rfl rfl ?_
 refine A6 ⟨nofun, _, kS [3,10] [] rfl, ?_⟩
 refine A8 rfl (fun hc => ?_) (fun hc => ?_)
 ·try simp only [SG, List.length_map] at hc
  refine B9 ?_
  refine A8 rfl (fun hc => ?_) (fun hc => absurd hc (by simp_all))
  refine A4 <| A0 <| A3 rfl rfl rfl ?_
  refine A6 ⟨nofun, _, kS [2] [] rfl, ?_⟩
  refine B3 <| D4 rfl rfl trivial <| congrArg iV ?_
  simp_all [nd]
 try simp only [SG, List.length_map] at hc
 refine A4 <| A0 <| M4 rfl rfl <| A3 rfl rfl rfl ?_
 refine A6 ⟨nofun, _, kS [3,10] [] rfl, ?_⟩
 refine A8 rfl (fun hc => ?_) (fun hc => ?_)
 ·try simp only [SG, List.length_map] at hc
  refine B9 ?_
  refine A8 rfl (fun hc => ?_) (fun hc => absurd hc (by simp_all))
  refine A4 <| A0 <| A3 rfl rfl rfl ?_
  refine A6 ⟨nofun, _, kS [2] [] rfl, ?_⟩
  refine B3 <| D4 rfl rfl trivial <| congrArg iV ?_
  simp_all [nd]
 try simp only [SG, List.length_map] at hc
 refine A4 <| A0 <| M4 rfl rfl <| A3 rfl rfl rfl ?_
 refine A6 ⟨nofun, _, kS [3,10] [] rfl, ?_⟩
 refine A8 rfl (fun hc => ?_) (fun hc => ?_)
 ·try simp only [SG, List.length_map] at hc
  refine B9 ?_
  refine A8 rfl (fun hc => ?_) (fun hc => absurd hc (by simp_all))
  refine A4 <| A0 <| A3 rfl rfl rfl ?_
  refine A6 ⟨nofun, _, kS [2] [] rfl, ?_⟩
  refine B3 <| D4 rfl rfl trivial <| congrArg iV ?_
  simp_all [nd]
 try simp only [SG, List.length_map] at hc
 refine A4 <| A0 <| M4 rfl rfl <| A3 rfl rfl rfl ?_
 refine A6 ⟨nofun, _, kS [3,10] [] rfl, ?_⟩
 refine A8 rfl (fun hc => ?_) (fun hc => ?_)
 ·try simp only [SG, List.length_map] at hc
  refine B9 ?_
  refine A8 rfl (fun hc => ?_) (fun hc => absurd hc (by simp_all))
  refine A4 <| A0 <| A3 rfl rfl rfl ?_
  refine A6 ⟨nofun, _, kS [2] [] rfl, ?_⟩
  refine B3 <| D4 rfl rfl trivial <| congrArg iV ?_
  simp_all [nd]
 try simp only [SG, List.length_map] at hc
 refine A4 <| A0 <| M4 rfl rfl <| A3 rfl rfl rfl ?_
 refine A6 ⟨nofun, _, kS [3,10] [] rfl, ?_⟩
 refine A8 rfl (fun hc => ?_) (fun hc => ?_)
 ·try simp only [SG, List.length_map] at hc
  refine B9 ?_
  refine A8 rfl (fun hc => ?_) (fun hc => absurd hc (by simp_all))
  refine A4 <| A0 <| A3 rfl rfl rfl ?_
  refine A6 ⟨nofun, _, kS [2] [] rfl, ?_⟩
  refine B3 <| D4 rfl rfl trivial <| congrArg iV ?_
  simp_all [nd]
 try simp only [SG, List.length_map] at hc
 refine A4 <| A0 <| M4 rfl rfl <| A3 rfl rfl rfl ?_
 refine A6 ⟨nofun, _, kS [3,10] [] rfl, ?_⟩
 refine A8 rfl (fun hc => ?_) (fun hc => ?_)
 ·try simp only [SG, List.length_map] at hc
  refine B9 ?_
  refine A8 rfl (fun hc => ?_) (fun hc => absurd hc (by simp_all))
  refine A4 <| A0 <| A3 rfl rfl rfl ?_
  refine A6 ⟨nofun, _, kS [2] [] rfl, ?_⟩
  refine B3 <| D4 rfl rfl trivial <| congrArg iV ?_
  simp_all [nd]
 try simp only [SG, List.length_map] at hc
 refine A0 <| M4 rfl rfl <| A3 rfl rfl rfl ?_
 refine A6 ⟨nofun, _, kS [3,10] [] rfl, ?_⟩
 refine A8 rfl (fun hc => ?_) (fun hc => ?_)
 ·try simp only [SG, List.length_map] at hc
  refine A4 <| A0 <| A3 rfl rfl rfl ?_
  refine A6 ⟨nofun, _, kS [2] [] rfl, ?_⟩
  refine B3 <| D4 rfl rfl trivial <| congrArg iV ?_
  simp_all [nd]
 try simp only [SG, List.length_map] at hc
 refine A4 <| A4 <| A0 <| M4 rfl rfl <| A3 rfl rfl rfl ?_
 refine A6 ⟨nofun, _, kS [3,19] [] rfl, ?_⟩
 refine A8 rfl (fun hc => ?_) (fun hc => ?_)
 ·try simp only [SG, List.length_map] at hc
  refine B9 ?_
  refine A8 rfl (fun hc => ?_) (fun hc => absurd hc (by simp_all))
  refine A4 <| A0 <| A3 rfl rfl rfl ?_
  refine A6 ⟨nofun, _, kS [2] [] rfl, ?_⟩
  refine B3 <| D4 rfl rfl trivial <| congrArg iV ?_
  simp_all [nd]
 try simp only [SG, List.length_map] at hc
 refine A0 <| M4 rfl rfl <| A3 rfl rfl rfl ?_
 refine A6 ⟨nofun, _, kS [19] [] rfl, ?_⟩
 refine A8 rfl (fun hc => ?_) (fun hc => ?_)
 ·try simp only [SG, List.length_map] at hc
  refine A4 <| A0 <| A3 rfl rfl rfl ?_
  refine A6 ⟨nofun, _, kS [2] [] rfl, ?_⟩
  refine B3 <| D4 rfl rfl trivial <| congrArg iV ?_
  simp_all [nd]
 try simp only [SG, List.length_map] at hc
 refine B9 <| A4 <| A0 <| A3 rfl rfl rfl ?_
 refine A6 ⟨nofun, _, kS [2] [] rfl, ?_⟩
 refine B3 <| D4 rfl rfl trivial <| congrArg iV ?_
 simp_all [nd]

theorem keep_s_reachOf : G1 Tryd.f52 = [0, 2, 3, 4, 13, 16] := by kernel_rfl
set_option maxHeartbeats 20000000 in
theorem c5c (w : ByteArray) : CW (cxT oG) 52 [sV w] = some (iV (rch w), []) := by
 refine G6 rfl Tryd.func52 rfl ⟨by kernel_rfl, rfl, of_decide_eq_true rfl, of_decide_eq_true rfl, by decide⟩ keep_s_reachOf <| A4 <| A0 <| A3 rfl rfl rfl ?_
 refine A6 ⟨nofun, _, kS [0] [] rfl, ?_⟩
 refine A4 <| A4 <| A0 <| A5 rfl rfl ?_
 refine A6 ⟨nofun, _, kS [3] [] rfl, ?_⟩
 refine E7 <| A4 <| A4 <| A0 <| M4 rfl rfl <| A3 rfl rfl rfl ?_
 refine A6 ⟨nofun, _, kS [3,4] [] rfl, ?_⟩
 refine A8 rfl (fun hc => ?_) (fun hc => ?_)
 ·try simp only [SG, List.length_map] at hc
  refine B9 ?_
  refine A8 rfl (fun hc => ?_) (fun hc => absurd hc (by simp_all))
  refine A4 <| A0 <| A3 rfl rfl rfl ?_
  refine A6 ⟨nofun, _, kS [2] [] rfl, ?_⟩
  refine B3 <| D4 rfl rfl trivial <| congrArg iV ?_
  simp_all [rch]
 try simp only [SG, List.length_map] at hc
 refine A4 <| A0 <| M4 rfl rfl <| A3 rfl rfl rfl ?_
 refine A6 ⟨nofun, _, kS [3,4] [] rfl, ?_⟩
 refine A8 rfl (fun hc => ?_) (fun hc => ?_)
 ·try simp only [SG, List.length_map] at hc
  refine B9 ?_
  refine A8 rfl (fun hc => ?_) (fun hc => absurd hc (by simp_all))
  refine A4 <| A0 <| A3 rfl rfl rfl ?_
  refine A6 ⟨nofun, _, kS [2] [] rfl, ?_⟩
  refine B3 <| D4 rfl rfl trivial <| congrArg iV ?_
  simp_all [rch]
 try simp only [SG, List.length_map] at hc
 refine A4 <| A0 <| M4 rfl rfl <| A3 rfl rfl rfl ?_
 refine A6 ⟨nofun, _, kS [3,4] [] rfl, ?_⟩
 refine A8 rfl (fun hc => ?_) (fun hc => ?_)
 ·try simp only [SG, List.length_map] at hc
  refine B9 ?_
  refine A8 rfl (fun hc => ?_) (fun hc => absurd hc (by simp_all))
  refine A4 <| A0 <| A3 rfl rfl rfl ?_
  refine A6 ⟨nofun, _, kS [2] [] rfl, ?_⟩
  refine B3 <| D4 rfl rfl trivial <| congrArg iV ?_
  simp_all [rch]
 try simp only [SG, List.length_map] at hc
 refine A4 <| A0 <| M4 rfl rfl <| A3 rfl rfl rfl ?_
 refine A6 ⟨nofun, _, kS [3,4] [] rfl, ?_⟩
 refine A8 rfl (fun hc => ?_) (fun hc => ?_)
 ·try simp only [SG, List.length_map] at hc
  refine B9 ?_
  refine A8 rfl (fun hc => ?_) (fun hc => absurd hc (by simp_all))
  refine A4 <| A0 <| A3 rfl rfl rfl ?_
  refine A6 ⟨nofun, _, kS [2] [] rfl, ?_⟩
  refine B3 <| D4 rfl rfl trivial <| congrArg iV ?_
  simp_all [rch]
 try simp only [SG, List.length_map] at hc
 refine A4 <| A0 <| M4 rfl rfl <| A3 rfl rfl rfl ?_
 refine A6 ⟨nofun, _, kS [3,4] [] rfl, ?_⟩
 refine A8 rfl (fun hc => ?_) (fun hc => ?_)
 ·try simp only [SG, List.length_map] at hc
  refine B9 ?_
  refine A8 rfl (fun hc => ?_) (fun hc => absurd hc (by simp_all))
  refine A4 <| A0 <| A3 rfl rfl rfl ?_
  refine A6 ⟨nofun, _, kS [2] [] rfl, ?_⟩
  refine B3 <| D4 rfl rfl trivial <| congrArg iV ?_
  simp_all [rch]
 try simp only [SG, List.length_map] at hc
 refine A4 <| A0 <| M4 rfl rfl <| A3 rfl rfl rfl ?_
 refine A6 ⟨nofun, _, kS [3,4] [] rfl, ?_⟩
 refine A8 rfl (fun hc => ?_) (fun hc => ?_)
 ·try simp only [SG, List.length_map] at hc
  refine B9 ?_
  refine A8 rfl (fun hc => ?_) (fun hc => absurd hc (by simp_all))
  refine A4 <| A0 <| A3 rfl rfl rfl ?_
  refine A6 ⟨nofun, _, kS [2] [] rfl, ?_⟩
  refine B3 <| D4 rfl rfl trivial <| congrArg iV ?_
  simp_all [rch]
 try simp only [SG, List.length_map] at hc
 refine A4 <| A0 <| M4 rfl rfl <| A3 rfl rfl rfl ?_
 refine A6 ⟨nofun, _, kS [3,4] [] rfl, ?_⟩
 refine A8 rfl (fun hc => ?_) (fun hc => ?_)
 ·try simp only [SG, List.length_map] at hc
  refine B9 ?_
  refine A8 rfl (fun hc => ?_) (fun hc => absurd hc (by simp_all))
  refine A4 <| A0 <| A3 rfl rfl rfl ?_
  refine A6 ⟨nofun, _, kS [2] [] rfl, ?_⟩
  refine B3 <| D4 rfl rfl trivial <| congrArg iV ?_
  simp_all [rch]
 try simp only [SG, List.length_map] at hc
 refine A0 <| M4 rfl rfl <| A3 rfl rfl rfl ?_
 refine A6 ⟨nofun, _, kS [3,4] [] rfl, ?_⟩
 refine A8 rfl (fun hc => ?_) (fun hc => ?_)
 ·try simp only [SG, List.length_map] at hc
  refine A4 <| A0 <| A3 rfl rfl rfl ?_
  refine A6 ⟨nofun, _, kS [2] [] rfl, ?_⟩
  refine B3 <| D4 rfl rfl trivial <| congrArg iV ?_
  simp_all [rch]
 try simp only [SG, List.length_map] at hc
 refine A4 <| A4 <| A0 <| M4 rfl rfl <| A3 rfl rfl rfl ?_
 refine A6 ⟨nofun, _, kS [3,13] [] rfl, ?_⟩
 refine A8 rfl (fun hc => ?_) (fun hc => ?_)
 ·try simp only [SG, List.length_map] at hc
  refine B9 ?_
  refine A8 rfl (fun hc => ?_) (fun hc => absurd hc (by simp_all))
  refine A4 <| A0 <| A3 rfl rfl rfl ?_
  refine A6 ⟨nofun, _, kS [2] [] rfl, ?_⟩
  refine B3 <| D4 rfl rfl trivial <| congrArg iV ?_
  simp_all [rch]
 try simp only [SG, List.length_map] at hc
 refine A0 <| M4 rfl rfl <| A3 rfl rfl rfl ?_
 refine A6 ⟨nofun, _, kS [3,13] [] rfl, ?_⟩
 refine A8 rfl (fun hc => ?_) (fun hc => ?_)
 ·try simp only [SG, List.length_map] at hc
  refine A4 <| A0 <| A3 rfl rfl rfl ?_
  refine A6 ⟨nofun, _, kS [2] [] rfl, ?_⟩
  refine B3 <| D4 rfl rfl trivial <| congrArg iV ?_
  simp_all [rch]
 try simp only [SG, List.length_map] at hc
 refine A4 <| A4 <| A0 <| M4 rfl rfl <| A3 rfl rfl rfl ?_
 refine A6 ⟨nofun, _, kS [3,16] [] rfl, ?_⟩
 refine A8 rfl (fun hc => ?_) (fun hc => ?_)
 ·try simp only [SG, List.length_map] at hc
  refine B9 ?_
  refine A8 rfl (fun hc => ?_) (fun hc => absurd hc (by simp_all))
  refine A4 <| A0 <| A3 rfl rfl rfl ?_
  refine A6 ⟨nofun, _, kS [2] [] rfl, ?_⟩
  refine B3 <| D4 rfl rfl trivial <| congrArg iV ?_
  simp_all [rch]
 try simp only [SG, List.length_map] at hc
 refine A4 <| A0 <| M4 rfl rfl <| A3 rfl rfl rfl ?_
 refine A6 ⟨nofun, _, kS [3,16] [] rfl, ?_⟩
 refine A8 rfl (fun hc => ?_) (fun hc => ?_)
 ·try simp only [SG, List.length_map] at hc
  refine B9 ?_
  refine A8 rfl (fun hc => ?_) (fun hc => absurd hc (by simp_all))
  refine A4 <| A0 <| A3 rfl rfl rfl ?_
  refine A6 ⟨nofun, _, kS [2] [] rfl, ?_⟩
  refine B3 <| D4 rfl rfl trivial <| congrArg iV ?_
  simp_all [rch]
 try simp only [SG, List.length_map] at hc
 refine A4 <| A0 <| M4 rfl rfl <| A3 rfl rfl rfl ?_
 refine A6 ⟨nofun, _, kS [3,16] [] rfl, ?_⟩
 refine A8 rfl (fun hc => ?_) (fun hc => ?_)
 ·try simp only [SG, List.length_map] at hc
  refine B9 ?_
  refine A8 rfl (fun hc => ?_) (fun hc => absurd hc (by simp_all))
  refine A4 <| A0 <| A3 rfl rfl rfl ?_
  refine A6 ⟨nofun, _, kS [2] [] rfl, ?_⟩
  refine B3 <| D4 rfl rfl trivial <| congrArg iV ?_
  simp_all [rch]
 try simp only [SG, List.length_map] at hc
 refine A0 <| M4 rfl rfl <| A3 rfl rfl rfl ?_
 refine A6 ⟨nofun, _, kS [16] [] rfl, ?_⟩
 refine A8 rfl (fun hc => ?_) (fun hc => ?_)
 ·try simp only [SG, List.length_map] at hc
  refine A4 <| A0 <| A3 rfl rfl rfl ?_
  refine A6 ⟨nofun, _, kS [2] [] rfl, ?_⟩
  refine B3 <| D4 rfl rfl trivial <| congrArg iV ?_
  simp_all [rch]
 try simp only [SG, List.length_map] at hc
 refine B9 <| A4 <| A0 <| A3 rfl rfl rfl ?_
 refine A6 ⟨nofun, _, kS [2] [] rfl, ?_⟩
 refine B3 <| D4 rfl rfl trivial <| congrArg iV ?_
 simp_all [rch]

theorem keep_s_number : G1 Tryd.f55 = [0, 2, 4, 10] := by kernel_rfl
set_option maxHeartbeats 20000000 in
theorem a3k (n : Int) (hn : -1000000 ≤ n ∧ n ≤ 1000000) : CW (cxT oG) 55 [iV n] = some (tV (dec n), []) := by
 obtain ⟨kk, hkk⟩ : ∃ kk : Nat, 2 * n.natAbs + (if n < 0 then 1 else 0) < kk := ⟨_, Nat.lt_succ_self _⟩
 revert n
 induction kk with
 | zero => intro n hn hkk; exact absurd hkk (Nat.not_lt_zero _)
 | succ kk ih =>
  intro n hn hkk
  refine G6 rfl Tryd.func55 rfl ⟨by kernel_rfl, rfl, of_decide_eq_true rfl, of_decide_eq_true rfl, by decide⟩ keep_s_number <| A4 <| A0 <| A3 rfl rfl rfl ?_
  refine A6 ⟨nofun, _, kS [0] [] rfl, ?_⟩
  refine A4 <| A4 <| A0 <| A5 rfl rfl <| M1 rfl rfl ?_
  refine A6 ⟨nofun, _, kS [0,4] [] rfl, ?_⟩
  refine A8 rfl (fun hc => ?_) (fun hc => ?_)
  ·try simp only [SG, List.length_map] at hc
   refine A4 <| A0 <| A5 rfl rfl <| d1h rfl (G2 (by omega)) ?_
   have hdl := T1 (m := -n) (by omega)
   apply C4 rfl
   ·apply A9
    ·exact B4 rfl
    exact C3
   ·exact ih (-n) (by omega) (by split at hkk <;> split <;> omega)
   ·exact ⟨rfl, rfl, rfl, of_decide_eq_true rfl, rfl⟩
   ·exact .inl rfl
   ·exact B1
   ·exact B7 rfl
   ·exact fun _ => rfl
   intro g7
   refine K1 rfl rfl (by simp only [G8, List.length_append, List.length_cons, List.length_nil]; omega) <| A3 rfl rfl rfl ?_
   refine A6 ⟨nofun, _, kS [2] [] rfl, ?_⟩
   refine B3 <| D4 rfl rfl trivial ?_
   exact congrArg tV (d1c (by assumption)).symm
  try simp only [SG, List.length_map] at hc
  refine B9 <| A4 <| A4 <| A0 <| A5 rfl rfl <| M1 rfl rfl ?_
  refine A6 ⟨nofun, _, kS [0,10] [] rfl, ?_⟩
  refine A8 rfl (fun hc => ?_) (fun hc => ?_)
  ·try simp only [SG, List.length_map] at hc
   refine A4 <| A0 <| A5 rfl rfl <| A5 rfl rfl <| L5 rfl rfl (G2 (by omega)) <| S4 rfl rfl (N9 rfl (by omega)) (N9 rfl (by omega)) (by (simp; omega)) <| A3 rfl rfl rfl ?_
   refine A6 ⟨nofun, _, kS [2] [] rfl, ?_⟩
   refine B3 <| D4 rfl rfl trivial ?_
   rw [c9s (by omega)]
  try simp only [SG, List.length_map] at hc
  refine B9 <| A4 <| A0 <| A5 rfl rfl ?_
  have hd10 : n.tdiv 10 = n / 10 := Int.tdiv_eq_ediv_of_nonneg (by omega)
  refine c6d rfl rfl ⟨by omega, G2 (by omega)⟩ ?_
  have hd10 : n.tdiv 10 = n / 10 := Int.tdiv_eq_ediv_of_nonneg (by omega)
  have hdl0 := T1 (m := n.tdiv 10) (by omega)
  apply C4 rfl
  ·apply A9
   ·exact B4 rfl
   exact C3
  ·exact ih (n.tdiv 10) (by omega) (by split at hkk <;> split <;> omega)
  ·exact ⟨rfl, rfl, rfl, of_decide_eq_true rfl, rfl⟩
  ·exact .inl rfl
  ·exact B1
  ·exact B7 rfl
  ·exact fun _ => rfl
  intro g17
  refine A5 rfl rfl <| b7m rfl rfl (by omega) ?_
  have hm10 : n.tmod 10 = n % 10 := Int.tmod_eq_emod_of_nonneg (by omega)
  have hdl1 := T1 (m := n.tmod 10) (by omega)
  apply C4 rfl
  ·apply A9
   ·exact B4 rfl
   exact C3
  ·exact ih (n.tmod 10) (by omega) (by split at hkk <;> split <;> omega)
  ·exact ⟨rfl, rfl, rfl, of_decide_eq_true rfl, rfl⟩
  ·exact .inl rfl
  ·exact B1
  ·exact B7 rfl
  ·exact fun _ => rfl
  intro g20
  refine K1 rfl rfl (by simp only [G8, List.length_append, List.length_cons, List.length_nil]; omega) <| A3 rfl rfl rfl ?_
  refine A6 ⟨nofun, _, kS [2] [] rfl, ?_⟩
  refine B3 <| D4 rfl rfl trivial ?_
  rw [← d2j (by omega)]

theorem keep_s_listText : G1 Tryd.f43 = [0, 2, 4, 8, 12, 3] := by kernel_rfl
set_option maxHeartbeats 20000000 in
theorem b1x (ns : List Int) (hl : ns.length ≤ 1000000) (hnb : ∀ n ∈ ns, -1000000 ≤ n ∧ n ≤ 1000000) : CW (cxT oG) 43 [L ns] = some (tV (N3 ns), []) := by
 have hg := fun (i : Nat) (h : i < ns.length) => hnb _ (a1j h)
 refine G6 rfl Tryd.func43 rfl ⟨by kernel_rfl, rfl, of_decide_eq_true rfl, of_decide_eq_true rfl, by decide⟩ keep_s_listText <| A4 <| A0 <| A3 rfl rfl rfl ?_
 refine A6 ⟨nofun, _, kS [0] [] rfl, ?_⟩
 refine A4 <| A0 <| A3 rfl rfl rfl ?_
 refine A6 ⟨nofun, _, kS [0,3] [] rfl, ?_⟩
 refine A4 <| A4 <| A0 <| A3 rfl rfl rfl ?_
 refine A6 ⟨nofun, _, kS [0,3,4] [] rfl, ?_⟩
 refine E7 <| N7 (β := Nat) [(.t 0, _)] (fun (i : Nat) => [(.t 4, iV i), (.t 3, tV (N3 (ns.take i)))]) (fun (i : Nat) => i ≤ ns.length) (fun (i : Nat) => ns.length - i) 0 ⟨rfl, rfl, rfl, trivial⟩ (Nat.zero_le _) ?_
 intro i hb
 have hi1 := hb
 have hll := Z8 (ns := ns.take i) (fun n hn => hnb n (List.mem_of_mem_take hn))
 rw [List.length_take] at hll
 refine A4 <| A4 <| A0 <| A5 rfl rfl <| A5 rfl rfl <| H8 rfl rfl <| M1 rfl rfl ?_
 refine A6 ⟨nofun, _, kS [0,3,4,8] [] rfl, ?_⟩
 refine A8 rfl (fun hc => ?_) (fun hc => ?_)
 ·try simp only [SG, List.length_map] at hc
  refine B9 <| A4 <| E7 <| A4 <| A4 <| A0 <| A5 rfl rfl <| V3 rfl rfl ?_
  refine A6 ⟨nofun, _, kS [0,3,4,12] [] rfl, ?_⟩
  refine A8 rfl (fun hc => ?_) (fun hc => ?_)
  ·try simp only [SG, List.length_map] at hc
   have hi0 : 0 < i := by omega
   refine A0 <| A5 rfl rfl <| K1 rfl rfl (by simp only [G8, List.length_append, List.length_cons, List.length_nil]; omega) <| A3 rfl rfl rfl ?_
   refine A6 ⟨nofun, _, kS [0,3,4] [] rfl, ?_⟩
   refine A0 <| A5 rfl rfl <| A5 rfl rfl <| A5 rfl rfl <| J0 rfl rfl rfl (fun _ => rfl) (by omega) <| H1 rfl rfl rfl ?_
   have hgi := hg i (by omega)
   have hdl := T1 hgi
   apply C4 rfl
   ·apply A9
    ·exact B4 rfl
    exact C3
   ·exact a3k (ns.getD i default) hgi
   ·exact ⟨rfl, rfl, rfl, of_decide_eq_true rfl, rfl⟩
   ·exact .inl rfl
   ·exact B1
   ·exact B7 rfl
   ·exact fun _ => rfl
   intro g20
   refine K1 rfl rfl (by simp only [G8, List.length_append, List.length_cons, List.length_nil]; omega) <| A3 rfl rfl rfl ?_
   refine A6 ⟨nofun, _, kS [0,3,4] [] rfl, ?_⟩
   refine A0 <| A5 rfl rfl <| L5 rfl rfl (G2 (by omega)) <| A3 rfl rfl rfl ?_
   refine A6 ⟨nofun, _, kS [0,3,4] [] rfl, ?_⟩
   rw [← b9k (by omega) hi0]
   refine ⟨i + 1, ?_, (by omega), ⟨rfl, rfl, rfl, trivial⟩⟩
   omega
  try simp only [SG, List.length_map] at hc
  have hi0 : i = 0 := by omega
  refine B9 <| A0 <| A5 rfl rfl <| A5 rfl rfl <| A5 rfl rfl <| J0 rfl rfl rfl (fun _ => rfl) (by omega) <| H1 rfl rfl rfl ?_
  have hgi := hg i (by omega)
  have hdl := T1 hgi
  apply C4 rfl
  ·apply A9
   ·exact B4 rfl
   exact C3
  ·exact a3k (ns.getD i default) hgi
  ·exact ⟨rfl, rfl, rfl, of_decide_eq_true rfl, rfl⟩
  ·exact .inl rfl
  ·exact B1
  ·exact B7 rfl
  ·exact fun _ => rfl
  intro g20
  refine K1 rfl rfl (by simp only [G8, List.length_append, List.length_cons, List.length_nil]; omega) <| A3 rfl rfl rfl ?_
  refine A6 ⟨nofun, _, kS [0,3,4] [] rfl, ?_⟩
  refine A0 <| A5 rfl rfl <| L5 rfl rfl (G2 (by omega)) <| A3 rfl rfl rfl ?_
  refine A6 ⟨nofun, _, kS [0,3,4] [] rfl, ?_⟩
  rw [← b7q (by omega) hi0]
  refine ⟨i + 1, ?_, (by omega), ⟨rfl, rfl, rfl, trivial⟩⟩
  omega
 try simp only [SG, List.length_map] at hc
 refine K6 <| A4 <| A0 <| A5 rfl rfl <| A3 rfl rfl rfl ?_
 refine A6 ⟨nofun, _, kS [2] [] rfl, ?_⟩
 refine B3 <| D4 rfl rfl trivial ?_
 rw [List.take_of_length_le (by omega)]

theorem keep_s_splitAt : G1 Tryd.f38 = [0, 1, 4, 7, 12, 19, 6, 5] := by kernel_rfl
set_option maxHeartbeats 20000000 in
theorem b3q (s : List UInt8) (hs : s.length ≤ 1048576) (c : UInt8) : CW (cxT oG) 38 [tV s, uV c.toNat] = some (.own 1 ((splitB c s).map tV), []) := by
 refine G6 rfl Tryd.func38 rfl ⟨by kernel_rfl, rfl, of_decide_eq_true rfl, of_decide_eq_true rfl, by decide⟩ keep_s_splitAt <| A4 <| A0 ?_
 (refine B8 rfl rfl (fun _ => rfl) ?_; intro g4)
 refine A6 ⟨nofun, _, kS [0,1] [] rfl, ?_⟩
 refine A4 <| A0 <| D7 (es := List.map tV []) rfl rfl (of_decide_eq_true rfl) rfl rfl (fun _ => B5 (B0 fun _ => rfl)) (fun _ => rfl) ?_
 intro g8
 (refine C1 rfl rfl (by (simp; done)) rfl (fun _ => (B5 (by exact B0 fun _ => rfl))) (fun _ => rfl) ?_; intro g5)
 refine A6 ⟨nofun, _, kS [0,1,5] [5] rfl, ?_⟩
 refine A4 <| A0 <| A3 rfl rfl rfl ?_
 refine A6 ⟨nofun, _, kS [0,1,5,6] [5] rfl, ?_⟩
 refine A4 <| A4 <| A0 <| A3 rfl rfl rfl ?_
 refine A6 ⟨nofun, _, kS [0,1,5,6,7] [5] rfl, ?_⟩
 refine E7 <| N7 (β := Nat × Nat × List (List UInt8) × Nat) [(.t 0, _), (.t 1, _)] (fun (z : Nat × Nat × List (List UInt8) × Nat) => match z with | (i, fr, out, g) => [(.t 7, iV i), (.t 6, iV fr), (.t 5, .sl 5 g none 0 out.length), (.h 5, .obj g 0 1 (out.map tV))]) (fun (z : Nat × Nat × List (List UInt8) × Nat) => match z with | (i, fr, out, g) => i ≤ s.length ∧ fr ≤ i ∧ out.length ≤ i ∧ splitB c s = out ++ T7 ((s.drop fr).take (i - fr)) (splitB c (s.drop i))) (fun (z : Nat × Nat × List (List UInt8) × Nat) => match z with | (i, fr, out, g) => s.length - i) (0, 0, [], _) ⟨rfl, rfl, rfl, rfl, rfl, rfl, trivial⟩ ⟨Nat.zero_le _, Nat.le_refl _, Nat.le_refl _, by simp [b4g]⟩ ?_
 intro z hb
 obtain ⟨i, fr, out, g⟩ := z
 try dsimp only at hb
 obtain ⟨hi1, hfr, hol, hsp⟩ := hb
 refine A4 <| A4 <| A0 <| A5 rfl rfl <| A5 rfl rfl <| a0c rfl rfl <| M1 rfl rfl ?_
 refine A6 ⟨nofun, _, kS [0,1,5,6,7,12] [5] rfl, ?_⟩
 refine A8 rfl (fun hc => ?_) (fun hc => ?_)
 ·try simp only [SG, List.length_map] at hc
  refine B9 <| A4 <| E7 <| A4 <| A0 <| A5 rfl rfl <| A5 rfl rfl <| N4 rfl rfl rfl (by omega) <| A5 rfl rfl <| T3 rfl rfl ?_
  refine A6 ⟨nofun, _, kS [0,1,5,6,7,19] [5] rfl, ?_⟩
  refine A8 rfl (fun hc => ?_) (fun hc => ?_)
  ·try simp only [SG, List.length_map] at hc
   have hcb : s.getD i 0 = c := UInt8.toNat_inj.1 (by omega)
   refine A4 <| A0 <| A5 rfl rfl <| A5 rfl rfl <| A5 rfl rfl <| A5 rfl rfl <| S4 rfl rfl (H4 rfl) (H4 rfl) (by omega) <| D7 (es := List.map tV [_]) rfl rfl (of_decide_eq_true rfl) rfl rfl (fun _ => B5 (B0 fun _ => rfl)) (fun _ => rfl) ?_
   intro g25
   refine H7 rfl rfl rfl rfl (by (simp; done)) (by simp) (by decide) rfl rfl rfl rfl (of_decide_eq_true rfl) (fun _ => ⟨rfl, rfl⟩) (by simp only [G8]; (simp only [List.length_nil, List.length_cons, List.length_append, Nat.zero_add, List.length_map]; omega)) (fun _ => rfl) ?_
   intro g26
   (refine C1 rfl rfl (by (simp; done)) rfl (fun _ => (B5 (by exact B0 fun _ => rfl))) (fun _ => rfl) ?_; intro g5)
   refine A6 ⟨nofun, _, kS [0,1,5,7] [5] rfl, ?_⟩
   refine A0 <| A5 rfl rfl <| L5 rfl rfl (G2 (by omega)) <| A3 rfl rfl rfl ?_
   refine A6 ⟨nofun, _, kS [0,1,5,6,7] [5] rfl, ?_⟩
   refine A0 <| A5 rfl rfl <| L5 rfl rfl (G2 (by omega)) <| A3 rfl rfl rfl ?_
   refine A6 ⟨nofun, _, kS [0,1,5,6,7] [5] rfl, ?_⟩
   refine ⟨(i + 1, i + 1, out ++ [(s.drop fr).take (i - fr)], _), ?_, (by simp only; omega), ⟨rfl, rfl, rfl, rfl, rfl, rfl, trivial⟩⟩
   have hst := b2a (by omega) hfr hsp
   exact ⟨by omega, by omega, by simp; omega, hst.1 hcb⟩
  try simp only [SG, List.length_map] at hc
  have hcb : s.getD i 0 ≠ c := fun e => hc (by rw [e])
  refine B9 <| A0 <| A5 rfl rfl <| L5 rfl rfl (G2 (by omega)) <| A3 rfl rfl rfl ?_
  refine A6 ⟨nofun, _, kS [0,1,5,6,7] [5] rfl, ?_⟩
  refine ⟨(i + 1, fr, out, _), ?_, (by simp only; omega), ⟨rfl, rfl, rfl, rfl, rfl, rfl, trivial⟩⟩
  have hst := b2a (by omega) hfr hsp
  exact ⟨by omega, by omega, by omega, hst.2 hcb⟩
 try simp only [SG, List.length_map] at hc
 refine K6 <| A4 <| A0 <| A5 rfl rfl <| A5 rfl rfl <| A5 rfl rfl <| S4 rfl rfl H6 (H4 rfl) (by omega) <| D7 (es := List.map tV [_]) rfl rfl (of_decide_eq_true rfl) rfl rfl (fun _ => B5 (B0 fun _ => rfl)) (fun _ => rfl) ?_
 intro g33
 refine H7 rfl rfl rfl rfl (by (simp; done)) (by simp) (by decide) rfl rfl rfl rfl (of_decide_eq_true rfl) (fun _ => ⟨rfl, rfl⟩) (by simp only [G8]; (simp only [List.length_nil, List.length_cons, List.length_append, Nat.zero_add, List.length_map]; omega)) (fun _ => rfl) ?_
 intro g34
 (refine C1 rfl rfl (by (simp; done)) rfl (fun _ => (B5 (by exact B0 fun _ => rfl))) (fun _ => rfl) ?_; intro g4)
 refine A6 ⟨nofun, _, kS [4] [4] rfl, ?_⟩
 refine B3 <| a0m rfl rfl (by simp) (by exact B0 fun _ => rfl) trivial ?_
 have hil : i = s.length := by omega
 rw [hsp, hil, List.drop_length, splitB, T7, List.append_nil]

theorem keep_s_readList : G1 Tryd.f61 = [0, 2, 3, 5, 6, 17, 7, 8, 31, 10, 37, 9, 53, 62, 75, 4] := by kernel_rfl
set_option maxHeartbeats 20000000 in
theorem c2b (s : List UInt8) (hs : s.length ≤ 1048576) : CW (cxT oG) 61 [tV s] = some (.tup [.own 1 (((rdL s).getD []).map iV), bV (rdL s).isSome], []) := by
 obtain ⟨ps, hps⟩ : ∃ ps, ps = splitB 44 s := ⟨_, rfl⟩
 have hpl := S5 44 s
 rw [← hps] at hpl
 have hpp := X7 44 s
 rw [← hps] at hpp
 refine G6 rfl Tryd.func61 rfl ⟨by kernel_rfl, rfl, of_decide_eq_true rfl, of_decide_eq_true rfl, by decide⟩ keep_s_readList <| A4 <| A0 ?_
 (refine B8 rfl rfl (fun _ => rfl) ?_; intro g2)
 refine A3 rfl rfl rfl ?_
 refine A6 ⟨nofun, _, kS [0] [] rfl, ?_⟩
 refine A4 <| A0 <| D7 (es := List.map iV []) rfl rfl (of_decide_eq_true rfl) rfl rfl (fun _ => B5 (B0 fun _ => rfl)) (fun _ => rfl) ?_
 intro g11
 (refine C1 rfl rfl (by (simp; done)) rfl (fun _ => (B5 (by exact B0 fun _ => rfl))) (fun _ => rfl) ?_; intro g4)
 refine A6 ⟨nofun, _, kS [0,4] [4] rfl, ?_⟩
 refine A4 <| A0 <| A5 rfl rfl ?_
 apply C4 rfl
 ·apply A9
  ·exact B4 rfl
  apply A9
  ·exact B4 rfl
  exact C3
 ·exact b3q s hs 44
 ·exact ⟨rfl, rfl, rfl, of_decide_eq_true rfl, rfl⟩
 ·exact .inl rfl
 ·exact B1
 ·exact Y2
 ·exact fun _ => rfl
 intro g13
 rw [← hps]
 try simp only [List.length_map]
 (refine C1 rfl rfl (by (simp; done)) rfl (fun _ => (B5 (by exact B0 fun _ => rfl))) (fun _ => rfl) ?_; intro g5)
 refine A6 ⟨nofun, _, kS [4,5] [4,5] rfl, ?_⟩
 refine A4 <| A4 <| A0 <| A3 rfl rfl rfl ?_
 refine A6 ⟨nofun, _, kS [4,5,6] [4,5] rfl, ?_⟩
 refine E7 <| N7 (β := Nat × List Int × Nat) [(.t 5, _), (.h 5, _)] (fun (z : Nat × List Int × Nat) => match z with | (i, ns, g) => [(.t 6, iV i), (.t 4, .sl 4 g none 0 ns.length), (.h 4, .obj g 0 1 (ns.map iV))]) (fun (z : Nat × List Int × Nat) => match z with | (i, ns, g) => i ≤ ps.length ∧ a0h (ps.take i) = some ns) (fun (z : Nat × List Int × Nat) => match z with | (i, ns, g) => ps.length - i) (0, [], _) ⟨rfl, rfl, rfl, rfl, rfl, trivial⟩ ⟨Nat.zero_le _, rfl⟩ ?_
 intro z hb
 obtain ⟨i, ns, g⟩ := z
 try dsimp only at hb
 obtain ⟨hi1, hrd⟩ := hb
 have hnl := a8z hrd
 rw [List.length_take] at hnl
 have hpi := fun h : i < ps.length => hpp _ (Z6 h)
 refine A4 <| A4 <| A0 <| A5 rfl rfl <| A5 rfl rfl <| V2 rfl rfl <| M1 rfl rfl ?_
 refine A6 ⟨nofun, _, kS [4,5,6,17] [4,5] rfl, ?_⟩
 refine A8 rfl (fun hc => ?_) (fun hc => ?_)
 ·try simp only [SG, List.length_map] at hc
  refine B9 <| A4 <| E7 <| A4 <| A0 <| A5 rfl rfl <| A5 rfl rfl <| Y0 rfl rfl rfl rfl (by omega) (by (simp; done)) rfl <| X1 rfl rfl (by omega) (fun _ => rfl) (fun _ => rfl) rfl <| A3 rfl rfl rfl ?_
  refine A6 ⟨nofun, _, kS [4,5,6,7] [4,5] rfl, ?_⟩
  refine A4 <| A0 <| A5 rfl rfl <| b4p rfl rfl <| A5 rfl rfl ?_
  refine D5 rfl rfl (fun hg0 => ?_) (fun hg0 => ?_)
  ·have hg := hg0; try simp only [SG] at hg
   refine A5 rfl rfl <| gT rfl rfl ?_
   have hp0 : 0 < (ps.getD i default).length := List.length_pos_iff.2 (by assumption)
   refine N4 (n := 0) rfl rfl rfl hp0 <| gT rfl rfl <| T3 rfl rfl <| F4 rfl (by assumption) rfl rfl <| A3 rfl rfl rfl ?_
   refine A6 ⟨nofun, _, kS [4,5,6,7,8] [4,5] rfl, ?_⟩
   refine A4 <| A4 <| A0 <| A5 rfl rfl ?_
   refine A6 ⟨nofun, _, kS [4,5,6,7,8,31] [4,5] rfl, ?_⟩
   refine A8 rfl (fun hc => ?_) (fun hc => ?_)
   ·try simp only [SG, List.length_map] at hc
    obtain ⟨hng, hup⟩ := d3m (p := (ps.getD i default)) (by assumption) (by omega)
    have hul := b6j (ps.getD i default)
    rw [hup] at hul
    refine A0 <| A5 rfl rfl <| S4 rfl rfl H6 (H4 (n := 1) rfl) (by omega) <| A3 rfl rfl rfl ?_
    refine A6 ⟨nofun, _, kS [4,5,6,7,8] [4,5] rfl, ?_⟩
    refine A4 <| A0 <| A3 rfl rfl rfl ?_
    refine A6 ⟨nofun, _, kS [4,5,6,7,8,9] [4,5] rfl, ?_⟩
    refine A4 <| A4 <| A0 <| A3 rfl rfl rfl ?_
    refine A6 ⟨nofun, _, kS [4,5,6,7,8,9,10] [4,5] rfl, ?_⟩
    refine E7 ?_
    have hup0 := hup
    refine N7 (β := Nat × Int) [(.t 4, _), (.t 5, _), (.t 6, _), (.t 7, _), (.t 8, _), (.h 4, _), (.h 5, _)] (fun (z : Nat × Int) => match z with | (k, a) => [(.t 10, iV k), (.t 9, iV a)]) (fun (z : Nat × Int) => match z with | (k, a) => k ≤ (unS (ps.getD i default)).length ∧ 0 ≤ a ∧ U0 0 ((unS (ps.getD i default)).take k) = some a.toNat) (fun (z : Nat × Int) => match z with | (k, a) => (unS (ps.getD i default)).length - k) (0, 0) ⟨rfl, rfl, rfl, rfl, rfl, rfl, rfl, rfl, rfl, trivial⟩ ⟨Nat.zero_le _, by decide, rfl⟩ ?_
    intro z hb
    obtain ⟨k, a⟩ := z
    try dsimp only at hb
    obtain ⟨hk1, ha0, hdg⟩ := hb
    have hab := a9y (by decide) hdg
    rw [hup] at hk1 hdg
    refine A4 <| A4 <| A0 <| A5 rfl rfl <| A5 rfl rfl <| a0c rfl rfl <| M1 rfl rfl ?_
    refine A6 ⟨nofun, _, kS [4,5,6,7,8,9,10,37] [4,5] rfl, ?_⟩
    refine A8 rfl (fun hc => ?_) (fun hc => ?_)
    ·try simp only [SG, List.length_map] at hc
     refine B9 <| A4 <| E7 <| A4 <| A4 <| A0 <| A5 rfl rfl <| A5 rfl rfl <| N4 rfl rfl rfl (by omega) <| M1 rfl rfl <| A5 rfl rfl ?_
     refine D5 rfl rfl (fun hg0 => ?_) (fun hg0 => ?_)
     ·have hg := hg0; try simp only [SG] at hg
      refine A5 rfl rfl <| gT rfl rfl <| A5 rfl rfl <| gT rfl rfl <| N4 rfl rfl rfl (by omega) <| gT rfl rfl <| V3 rfl rfl <| G3 rfl (by assumption) rfl rfl <| A5 rfl rfl ?_
      refine D5 rfl rfl (fun hg0 => ?_) (fun hg0 => ?_)
      ·have hg := hg0; try simp only [SG] at hg
       refine A5 rfl rfl <| gT rfl rfl <| V3 rfl rfl <| G3 rfl (by assumption) rfl rfl ?_
       refine A6 ⟨nofun, _, kS [4,5,6,7,8,9,10,53] [4,5] rfl, ?_⟩
       refine A8 rfl (fun hc => ?_) (fun hc => ?_)
       ·try simp only [SG, List.length_map] at hc
        refine A4 <| A0 ?_
        (refine B8 rfl rfl (fun _ => rfl) ?_; intro g2)
        refine A3 rfl rfl rfl ?_
        refine A6 ⟨nofun, _, kS [2,3] [2] rfl, ?_⟩
        refine B3 <| D8 (G7 rfl rfl (by simp) (by rfl) (D9 rfl rfl (F0 C6))) ?_
        rw [rdL, ← hps, J8 (show i < ps.length by omega) (U3 (by rw [hup]; exact R4 (by omega) hdg (by omega)))]
        rfl
       try simp only [SG, List.length_map] at hc
       refine B9 <| A0 <| A5 rfl rfl <| a8n rfl rfl (G2 (by omega)) <| A5 rfl rfl <| A5 rfl rfl <| N4 rfl rfl rfl (by omega) <| a0x rfl rfl (d1v (by omega)) <| a7o rfl rfl rfl (G2 (by omega)) <| L5 rfl rfl (G2 (by omega)) <| A3 rfl rfl rfl ?_
       refine A6 ⟨nofun, _, kS [4,5,6,7,8,9,10] [4,5] rfl, ?_⟩
       refine A0 <| A5 rfl rfl <| L5 rfl rfl (G2 (by omega)) <| A3 rfl rfl rfl ?_
       refine A6 ⟨nofun, _, kS [4,5,6,7,8,9,10] [4,5] rfl, ?_⟩
       refine ⟨(k + 1, _), ?_, (by simp only [hup]; omega), ⟨rfl, rfl, rfl, rfl, rfl, rfl, rfl, rfl, rfl, trivial⟩⟩
       rw [hup]
       have hds := a8a (by omega) hdg (by omega)
       exact ⟨by omega, by omega, hds.trans (congrArg some (by omega))⟩
      have hg := hg0; try simp only [SG] at hg
      refine gF rfl rfl <| F4 rfl (by assumption) rfl rfl ?_
      refine A6 ⟨nofun, _, kS [4,5,6,7,8,9,10,53] [4,5] rfl, ?_⟩
      refine A8 rfl (fun hc => ?_) (fun hc => absurd hc (by decide))
      refine A4 <| A0 ?_
      (refine B8 rfl rfl (fun _ => rfl) ?_; intro g2)
      refine A3 rfl rfl rfl ?_
      refine A6 ⟨nofun, _, kS [2,3] [2] rfl, ?_⟩
      refine B3 <| D8 (G7 rfl rfl (by simp) (by rfl) (D9 rfl rfl (F0 C6))) ?_
      rw [rdL, ← hps, J8 (show i < ps.length by omega) (U3 (by rw [hup]; exact R4 (by omega) hdg (by omega)))]
      rfl
     have hg := hg0; try simp only [SG] at hg
     refine gF rfl rfl <| gF rfl rfl <| gF rfl rfl <| F4 rfl (by assumption) rfl rfl <| A5 rfl rfl <| G5 rfl rfl rfl <| G5 rfl rfl rfl <| F4 rfl rfl rfl rfl ?_
     refine A6 ⟨nofun, _, kS [4,5,6,7,8,9,10,53] [4,5] rfl, ?_⟩
     refine A8 rfl (fun hc => ?_) (fun hc => absurd hc (by decide))
     refine A4 <| A0 ?_
     (refine B8 rfl rfl (fun _ => rfl) ?_; intro g2)
     refine A3 rfl rfl rfl ?_
     refine A6 ⟨nofun, _, kS [2,3] [2] rfl, ?_⟩
     refine B3 <| D8 (G7 rfl rfl (by simp) (by rfl) (D9 rfl rfl (F0 C6))) ?_
     rw [rdL, ← hps, J8 (show i < ps.length by omega) (U3 (by rw [hup]; exact R4 (by omega) hdg (by omega)))]
     rfl
    try simp only [SG, List.length_map] at hc
    have hdU : U0 0 (unS (ps.getD i default)) = some a.toNat := by rw [hup]; rw [List.take_of_length_le (by omega)] at hdg; exact hdg
    refine K6 <| A4 <| A4 <| A0 <| A5 rfl rfl ?_
    refine A6 ⟨nofun, _, kS [4,5,6,7,9,62] [4,5] rfl, ?_⟩
    refine A8 rfl (fun hc => ?_) (fun hc => absurd hc (by simp_all))
    refine A0 <| A5 rfl rfl <| d1h rfl (G2 (by omega)) <| A3 rfl rfl rfl ?_
    refine A6 ⟨nofun, _, kS [4,5,6,7,9] [4,5] rfl, ?_⟩
    refine A4 <| A4 <| A0 <| A5 rfl rfl <| b4r rfl rfl <| A5 rfl rfl ?_
    refine D5 rfl rfl (fun hg0 => ?_) (fun hg0 => ?_)
    ·have hg := hg0; try simp only [SG] at hg
     refine A5 rfl rfl <| gT rfl rfl ?_
     have hdl1 := T1 (m := -a) (by omega)
     have hdl2 := T1 (m := a) (by omega)
     apply C4 rfl
     ·apply A9
      ·exact B4 rfl
      exact C3
     ·exact a3k (-a) (by omega)
     ·exact ⟨rfl, rfl, rfl, of_decide_eq_true rfl, rfl⟩
     ·exact .inl rfl
     ·exact B1
     ·exact B7 rfl
     ·exact fun _ => rfl
     intro g69
     refine gT rfl rfl <| A5 rfl rfl <| gT rfl rfl <| A5 rfl rfl <| gT rfl rfl <| Y0 rfl rfl rfl rfl (by omega) (by (simp; done)) rfl <| gT rfl rfl <| X1 rfl rfl (by omega) (fun _ => rfl) (fun _ => rfl) rfl <| gT rfl rfl <| b4p rfl rfl <| G3 rfl (by assumption) rfl rfl ?_
     refine A6 ⟨fun _ => ⟨by (simp only [a1x, List.nil_append, List.append_nil, List.map_cons, List.map_nil, List.cons_append]; decide +kernel), by decide +kernel⟩, [(.t 4, _), (.t 5, _), (.t 6, _), (.t 9, _), (.t 75, _), (.h 4, _), (.h 5, _)], ⟨rfl, rfl, rfl, rfl, rfl, rfl, rfl, rfl, rfl, rfl, rfl, rfl, rfl, rfl, trivial⟩, ?_⟩
     refine A8 rfl (fun hc => ?_) (fun hc => ?_)
     ·try simp only [SG, List.length_map] at hc
      refine A4 <| A0 ?_
      (refine B8 rfl rfl (fun _ => rfl) ?_; intro g2)
      refine A3 rfl rfl rfl ?_
      refine A6 ⟨nofun, _, kS [2,3] [2] rfl, ?_⟩
      refine B3 <| D8 (G7 rfl rfl (by simp) (by rfl) (D9 rfl rfl (F0 C6))) ?_
      have hno : rdI (ps.getD i default) = none := by exact a7p (m := -a) hdU (by (rw [hng, if_pos rfl]; omega)) (by exact .inr (by assumption))
      rw [rdL, ← hps, J8 (show i < ps.length by omega) hno]
      rfl
     try simp only [SG, List.length_map] at hc
     have hri := c0h (m := -a) hdU (by (rw [hng, if_pos rfl]; omega)) (by rw [hup]; assumption) (by assumption)
     refine B9 <| A0 <| A5 rfl rfl <| A5 rfl rfl <| D7 (es := List.map iV [_]) rfl rfl (of_decide_eq_true rfl) rfl rfl (fun _ => B5 (B0 fun _ => rfl)) (fun _ => rfl) ?_
     intro g78
     refine H7 rfl rfl rfl rfl (by (simp; done)) (by simp) (by decide) rfl rfl rfl rfl (of_decide_eq_true rfl) (fun _ => ⟨rfl, rfl⟩) (by simp only [G8]; (simp only [List.length_nil, List.length_cons, List.length_append, Nat.zero_add, List.length_map]; omega)) (fun _ => rfl) ?_
     intro g79
     (refine C1 rfl rfl (by (simp; done)) rfl (fun _ => (B5 (by exact B0 fun _ => rfl))) (fun _ => rfl) ?_; intro g4)
     refine A6 ⟨nofun, _, kS [4,5,6] [4,5] rfl, ?_⟩
     refine A0 <| A5 rfl rfl <| L5 rfl rfl (G2 (by omega)) <| A3 rfl rfl rfl ?_
     refine A6 ⟨nofun, _, kS [4,5,6] [4,5] rfl, ?_⟩
     refine ⟨(i + 1, ns ++ [-a], _), ?_, (by simp only; omega), ⟨rfl, rfl, rfl, rfl, rfl, trivial⟩⟩
     exact ⟨by omega, a7n (by omega) hrd hri⟩
    have hg := hg0; try simp only [SG] at hg
    refine gF rfl rfl <| gF rfl rfl <| gF rfl rfl <| gF rfl rfl <| gF rfl rfl <| gF rfl rfl <| F4 rfl (by assumption) rfl rfl ?_
    refine A6 ⟨fun _ => ⟨by decide +kernel, by decide +kernel⟩, [(.t 4, _), (.t 5, _), (.t 6, _), (.t 9, _), (.t 75, _), (.h 4, _), (.h 5, _)], ⟨rfl, rfl, rfl, rfl, rfl, rfl, rfl, rfl, rfl, rfl, rfl, rfl, rfl, rfl, trivial⟩, ?_⟩
    refine A8 rfl (fun hc => ?_) (fun hc => absurd hc (by decide))
    refine A4 <| A0 ?_
    (refine B8 rfl rfl (fun _ => rfl) ?_; intro g2)
    refine A3 rfl rfl rfl ?_
    refine A6 ⟨nofun, _, kS [2,3] [2] rfl, ?_⟩
    refine B3 <| D8 (G7 rfl rfl (by simp) (by rfl) (D9 rfl rfl (F0 C6))) ?_
    have hno : rdI (ps.getD i default) = none := by exact a7p (m := -a) hdU (by (rw [hng, if_pos rfl]; omega)) (by exact .inl (by rw [hup]; assumption))
    rw [rdL, ← hps, J8 (show i < ps.length by omega) hno]
    rfl
   try simp only [SG, List.length_map] at hc
   obtain ⟨hng, hup⟩ := d1u (p := (ps.getD i default)) (by exact .inr (by omega))
   have hul := b6j (ps.getD i default)
   rw [hup] at hul
   refine B9 <| A4 <| A0 <| A3 rfl rfl rfl ?_
   refine A6 ⟨nofun, _, kS [4,5,6,7,8,9] [4,5] rfl, ?_⟩
   refine A4 <| A4 <| A0 <| A3 rfl rfl rfl ?_
   refine A6 ⟨nofun, _, kS [4,5,6,7,8,9,10] [4,5] rfl, ?_⟩
   refine E7 ?_
   have hup0 := hup
   refine N7 (β := Nat × Int) [(.t 4, _), (.t 5, _), (.t 6, _), (.t 7, _), (.t 8, _), (.h 4, _), (.h 5, _)] (fun (z : Nat × Int) => match z with | (k, a) => [(.t 10, iV k), (.t 9, iV a)]) (fun (z : Nat × Int) => match z with | (k, a) => k ≤ (unS (ps.getD i default)).length ∧ 0 ≤ a ∧ U0 0 ((unS (ps.getD i default)).take k) = some a.toNat) (fun (z : Nat × Int) => match z with | (k, a) => (unS (ps.getD i default)).length - k) (0, 0) ⟨rfl, rfl, rfl, rfl, rfl, rfl, rfl, rfl, rfl, trivial⟩ ⟨Nat.zero_le _, by decide, rfl⟩ ?_
   intro z hb
   obtain ⟨k, a⟩ := z
   try dsimp only at hb
   obtain ⟨hk1, ha0, hdg⟩ := hb
   have hab := a9y (by decide) hdg
   rw [hup] at hk1 hdg
   refine A4 <| A4 <| A0 <| A5 rfl rfl <| A5 rfl rfl <| a0c rfl rfl <| M1 rfl rfl ?_
   refine A6 ⟨nofun, _, kS [4,5,6,7,8,9,10,37] [4,5] rfl, ?_⟩
   refine A8 rfl (fun hc => ?_) (fun hc => ?_)
   ·try simp only [SG, List.length_map] at hc
    refine B9 <| A4 <| E7 <| A4 <| A4 <| A0 <| A5 rfl rfl <| A5 rfl rfl <| N4 rfl rfl rfl (by omega) <| M1 rfl rfl <| A5 rfl rfl ?_
    refine D5 rfl rfl (fun hg0 => ?_) (fun hg0 => ?_)
    ·have hg := hg0; try simp only [SG] at hg
     refine A5 rfl rfl <| gT rfl rfl <| A5 rfl rfl <| gT rfl rfl <| N4 rfl rfl rfl (by omega) <| gT rfl rfl <| V3 rfl rfl <| G3 rfl (by assumption) rfl rfl <| A5 rfl rfl ?_
     refine D5 rfl rfl (fun hg0 => ?_) (fun hg0 => ?_)
     ·have hg := hg0; try simp only [SG] at hg
      refine A5 rfl rfl <| gT rfl rfl <| V3 rfl rfl <| G3 rfl (by assumption) rfl rfl ?_
      refine A6 ⟨nofun, _, kS [4,5,6,7,8,9,10,53] [4,5] rfl, ?_⟩
      refine A8 rfl (fun hc => ?_) (fun hc => ?_)
      ·try simp only [SG, List.length_map] at hc
       refine A4 <| A0 ?_
       (refine B8 rfl rfl (fun _ => rfl) ?_; intro g2)
       refine A3 rfl rfl rfl ?_
       refine A6 ⟨nofun, _, kS [2,3] [2] rfl, ?_⟩
       refine B3 <| D8 (G7 rfl rfl (by simp) (by rfl) (D9 rfl rfl (F0 C6))) ?_
       rw [rdL, ← hps, J8 (show i < ps.length by omega) (U3 (by rw [hup]; exact R4 (by omega) hdg (by omega)))]
       rfl
      try simp only [SG, List.length_map] at hc
      refine B9 <| A0 <| A5 rfl rfl <| a8n rfl rfl (G2 (by omega)) <| A5 rfl rfl <| A5 rfl rfl <| N4 rfl rfl rfl (by omega) <| a0x rfl rfl (d1v (by omega)) <| a7o rfl rfl rfl (G2 (by omega)) <| L5 rfl rfl (G2 (by omega)) <| A3 rfl rfl rfl ?_
      refine A6 ⟨nofun, _, kS [4,5,6,7,8,9,10] [4,5] rfl, ?_⟩
      refine A0 <| A5 rfl rfl <| L5 rfl rfl (G2 (by omega)) <| A3 rfl rfl rfl ?_
      refine A6 ⟨nofun, _, kS [4,5,6,7,8,9,10] [4,5] rfl, ?_⟩
      refine ⟨(k + 1, _), ?_, (by simp only [hup]; omega), ⟨rfl, rfl, rfl, rfl, rfl, rfl, rfl, rfl, rfl, trivial⟩⟩
      rw [hup]
      have hds := a8a (by omega) hdg (by omega)
      exact ⟨by omega, by omega, hds.trans (congrArg some (by omega))⟩
     have hg := hg0; try simp only [SG] at hg
     refine gF rfl rfl <| F4 rfl (by assumption) rfl rfl ?_
     refine A6 ⟨nofun, _, kS [4,5,6,7,8,9,10,53] [4,5] rfl, ?_⟩
     refine A8 rfl (fun hc => ?_) (fun hc => absurd hc (by decide))
     refine A4 <| A0 ?_
     (refine B8 rfl rfl (fun _ => rfl) ?_; intro g2)
     refine A3 rfl rfl rfl ?_
     refine A6 ⟨nofun, _, kS [2,3] [2] rfl, ?_⟩
     refine B3 <| D8 (G7 rfl rfl (by simp) (by rfl) (D9 rfl rfl (F0 C6))) ?_
     rw [rdL, ← hps, J8 (show i < ps.length by omega) (U3 (by rw [hup]; exact R4 (by omega) hdg (by omega)))]
     rfl
    have hg := hg0; try simp only [SG] at hg
    refine gF rfl rfl <| gF rfl rfl <| gF rfl rfl <| F4 rfl (by assumption) rfl rfl <| A5 rfl rfl <| G5 rfl rfl rfl <| G5 rfl rfl rfl <| F4 rfl rfl rfl rfl ?_
    refine A6 ⟨nofun, _, kS [4,5,6,7,8,9,10,53] [4,5] rfl, ?_⟩
    refine A8 rfl (fun hc => ?_) (fun hc => absurd hc (by decide))
    refine A4 <| A0 ?_
    (refine B8 rfl rfl (fun _ => rfl) ?_; intro g2)
    refine A3 rfl rfl rfl ?_
    refine A6 ⟨nofun, _, kS [2,3] [2] rfl, ?_⟩
    refine B3 <| D8 (G7 rfl rfl (by simp) (by rfl) (D9 rfl rfl (F0 C6))) ?_
    rw [rdL, ← hps, J8 (show i < ps.length by omega) (U3 (by rw [hup]; exact R4 (by omega) hdg (by omega)))]
    rfl
   try simp only [SG, List.length_map] at hc
   have hdU : U0 0 (unS (ps.getD i default)) = some a.toNat := by rw [hup]; rw [List.take_of_length_le (by omega)] at hdg; exact hdg
   refine K6 <| A4 <| A4 <| A0 <| A5 rfl rfl ?_
   refine A6 ⟨nofun, _, kS [4,5,6,7,9,62] [4,5] rfl, ?_⟩
   refine A8 rfl (fun hc => absurd hc (by simp_all)) (fun hc => ?_)
   refine B9 <| A4 <| A4 <| A0 <| A5 rfl rfl <| b4r rfl rfl <| A5 rfl rfl ?_
   refine D5 rfl rfl (fun hg0 => ?_) (fun hg0 => ?_)
   ·have hg := hg0; try simp only [SG] at hg
    refine A5 rfl rfl <| gT rfl rfl ?_
    have hdl1 := T1 (m := -a) (by omega)
    have hdl2 := T1 (m := a) (by omega)
    apply C4 rfl
    ·apply A9
     ·exact B4 rfl
     exact C3
    ·exact a3k a (by omega)
    ·exact ⟨rfl, rfl, rfl, of_decide_eq_true rfl, rfl⟩
    ·exact .inl rfl
    ·exact B1
    ·exact B7 rfl
    ·exact fun _ => rfl
    intro g69
    refine gT rfl rfl <| A5 rfl rfl <| gT rfl rfl <| A5 rfl rfl <| gT rfl rfl <| Y0 rfl rfl rfl rfl (by omega) (by (simp; done)) rfl <| gT rfl rfl <| X1 rfl rfl (by omega) (fun _ => rfl) (fun _ => rfl) rfl <| gT rfl rfl <| b4p rfl rfl <| G3 rfl (by assumption) rfl rfl ?_
    refine A6 ⟨fun _ => ⟨by (simp only [a1x, List.nil_append, List.append_nil, List.map_cons, List.map_nil, List.cons_append]; decide +kernel), by decide +kernel⟩, [(.t 4, _), (.t 5, _), (.t 6, _), (.t 9, _), (.t 75, _), (.h 4, _), (.h 5, _)], ⟨rfl, rfl, rfl, rfl, rfl, rfl, rfl, rfl, rfl, rfl, rfl, rfl, rfl, rfl, trivial⟩, ?_⟩
    refine A8 rfl (fun hc => ?_) (fun hc => ?_)
    ·try simp only [SG, List.length_map] at hc
     refine A4 <| A0 ?_
     (refine B8 rfl rfl (fun _ => rfl) ?_; intro g2)
     refine A3 rfl rfl rfl ?_
     refine A6 ⟨nofun, _, kS [2,3] [2] rfl, ?_⟩
     refine B3 <| D8 (G7 rfl rfl (by simp) (by rfl) (D9 rfl rfl (F0 C6))) ?_
     have hno : rdI (ps.getD i default) = none := by exact a7p (m := a) hdU (by (rw [hng, if_neg (by decide)]; omega)) (by exact .inr (by assumption))
     rw [rdL, ← hps, J8 (show i < ps.length by omega) hno]
     rfl
    try simp only [SG, List.length_map] at hc
    have hri := c0h (m := a) hdU (by (rw [hng, if_neg (by decide)]; omega)) (by rw [hup]; assumption) (by assumption)
    refine B9 <| A0 <| A5 rfl rfl <| A5 rfl rfl <| D7 (es := List.map iV [_]) rfl rfl (of_decide_eq_true rfl) rfl rfl (fun _ => B5 (B0 fun _ => rfl)) (fun _ => rfl) ?_
    intro g78
    refine H7 rfl rfl rfl rfl (by (simp; done)) (by simp) (by decide) rfl rfl rfl rfl (of_decide_eq_true rfl) (fun _ => ⟨rfl, rfl⟩) (by simp only [G8]; (simp only [List.length_nil, List.length_cons, List.length_append, Nat.zero_add, List.length_map]; omega)) (fun _ => rfl) ?_
    intro g79
    (refine C1 rfl rfl (by (simp; done)) rfl (fun _ => (B5 (by exact B0 fun _ => rfl))) (fun _ => rfl) ?_; intro g4)
    refine A6 ⟨nofun, _, kS [4,5,6] [4,5] rfl, ?_⟩
    refine A0 <| A5 rfl rfl <| L5 rfl rfl (G2 (by omega)) <| A3 rfl rfl rfl ?_
    refine A6 ⟨nofun, _, kS [4,5,6] [4,5] rfl, ?_⟩
    refine ⟨(i + 1, ns ++ [a], _), ?_, (by simp only; omega), ⟨rfl, rfl, rfl, rfl, rfl, trivial⟩⟩
    exact ⟨by omega, a7n (by omega) hrd hri⟩
   have hg := hg0; try simp only [SG] at hg
   refine gF rfl rfl <| gF rfl rfl <| gF rfl rfl <| gF rfl rfl <| gF rfl rfl <| gF rfl rfl <| F4 rfl (by assumption) rfl rfl ?_
   refine A6 ⟨fun _ => ⟨by decide +kernel, by decide +kernel⟩, [(.t 4, _), (.t 5, _), (.t 6, _), (.t 9, _), (.t 75, _), (.h 4, _), (.h 5, _)], ⟨rfl, rfl, rfl, rfl, rfl, rfl, rfl, rfl, rfl, rfl, rfl, rfl, rfl, rfl, trivial⟩, ?_⟩
   refine A8 rfl (fun hc => ?_) (fun hc => absurd hc (by decide))
   refine A4 <| A0 ?_
   (refine B8 rfl rfl (fun _ => rfl) ?_; intro g2)
   refine A3 rfl rfl rfl ?_
   refine A6 ⟨nofun, _, kS [2,3] [2] rfl, ?_⟩
   refine B3 <| D8 (G7 rfl rfl (by simp) (by rfl) (D9 rfl rfl (F0 C6))) ?_
   have hno : rdI (ps.getD i default) = none := by exact a7p (m := a) hdU (by (rw [hng, if_neg (by decide)]; omega)) (by exact .inl (by rw [hup]; assumption))
   rw [rdL, ← hps, J8 (show i < ps.length by omega) hno]
   rfl
  have hg := hg0; try simp only [SG] at hg
  refine gF rfl rfl <| gF rfl rfl <| G3 rfl (by assumption) rfl rfl <| A3 rfl rfl rfl ?_
  refine A6 ⟨nofun, _, kS [4,5,6,7,8] [4,5] rfl, ?_⟩
  refine A4 <| A4 <| A0 <| A5 rfl rfl ?_
  refine A6 ⟨nofun, _, kS [4,5,6,7,8,31] [4,5] rfl, ?_⟩
  refine A8 rfl (fun hc => absurd hc (by decide)) (fun hc => ?_)
  refine B9 <| A4 <| A0 <| A3 rfl rfl rfl ?_
  refine A6 ⟨nofun, _, kS [4,5,6,7,8,9] [4,5] rfl, ?_⟩
  refine A4 <| A4 <| A0 <| A3 rfl rfl rfl ?_
  refine A6 ⟨nofun, _, kS [4,5,6,7,8,9,10] [4,5] rfl, ?_⟩
  refine E7 ?_
  (obtain ⟨hng, hup⟩ := d1u (p := (ps.getD i default)) (.inl (by assumption)); have hul := b6j (ps.getD i default); rw [hup] at hul)
  refine N7 (β := Nat × Int) [(.t 4, _), (.t 5, _), (.t 6, _), (.t 7, _), (.t 8, _), (.h 4, _), (.h 5, _)] (fun (z : Nat × Int) => match z with | (k, a) => [(.t 10, iV k), (.t 9, iV a)]) (fun (z : Nat × Int) => match z with | (k, a) => k ≤ (unS (ps.getD i default)).length ∧ 0 ≤ a ∧ U0 0 ((unS (ps.getD i default)).take k) = some a.toNat) (fun (z : Nat × Int) => match z with | (k, a) => (unS (ps.getD i default)).length - k) (0, 0) ⟨rfl, rfl, rfl, rfl, rfl, rfl, rfl, rfl, rfl, trivial⟩ ⟨Nat.zero_le _, by decide, rfl⟩ ?_
  intro z hb
  obtain ⟨k, a⟩ := z
  try dsimp only at hb
  obtain ⟨hk1, ha0, hdg⟩ := hb
  have hab := a9y (by decide) hdg
  rw [hup] at hk1 hdg
  refine A4 <| A4 <| A0 <| A5 rfl rfl <| A5 rfl rfl <| a0c rfl rfl <| M1 rfl rfl ?_
  refine A6 ⟨nofun, _, kS [4,5,6,7,8,9,10,37] [4,5] rfl, ?_⟩
  refine A8 rfl (fun hc => ?_) (fun hc => ?_)
  ·try simp only [SG, List.length_map] at hc
   refine B9 <| A4 <| E7 <| A4 <| A4 <| A0 <| A5 rfl rfl <| A5 rfl rfl <| N4 rfl rfl rfl (by omega) <| M1 rfl rfl <| A5 rfl rfl ?_
   refine D5 rfl rfl (fun hg0 => ?_) (fun hg0 => ?_)
   ·have hg := hg0; try simp only [SG] at hg
    refine A5 rfl rfl <| gT rfl rfl <| A5 rfl rfl <| gT rfl rfl <| N4 rfl rfl rfl (by omega) <| gT rfl rfl <| V3 rfl rfl <| G3 rfl (by assumption) rfl rfl <| A5 rfl rfl ?_
    refine D5 rfl rfl (fun hg0 => ?_) (fun hg0 => ?_)
    ·have hg := hg0; try simp only [SG] at hg
     refine A5 rfl rfl <| gT rfl rfl <| V3 rfl rfl <| G3 rfl (by assumption) rfl rfl ?_
     refine A6 ⟨nofun, _, kS [4,5,6,7,8,9,10,53] [4,5] rfl, ?_⟩
     refine A8 rfl (fun hc => ?_) (fun hc => ?_)
     ·try simp only [SG, List.length_map] at hc
      refine A4 <| A0 ?_
      (refine B8 rfl rfl (fun _ => rfl) ?_; intro g2)
      refine A3 rfl rfl rfl ?_
      refine A6 ⟨nofun, _, kS [2,3] [2] rfl, ?_⟩
      refine B3 <| D8 (G7 rfl rfl (by simp) (by rfl) (D9 rfl rfl (F0 C6))) ?_
      rw [rdL, ← hps, J8 (show i < ps.length by omega) (U3 (by rw [hup]; exact R4 (by omega) hdg (by omega)))]
      rfl
     try simp only [SG, List.length_map] at hc
     refine B9 <| A0 <| A5 rfl rfl <| a8n rfl rfl (G2 (by omega)) <| A5 rfl rfl <| A5 rfl rfl <| N4 rfl rfl rfl (by omega) <| a0x rfl rfl (d1v (by omega)) <| a7o rfl rfl rfl (G2 (by omega)) <| L5 rfl rfl (G2 (by omega)) <| A3 rfl rfl rfl ?_
     refine A6 ⟨nofun, _, kS [4,5,6,7,8,9,10] [4,5] rfl, ?_⟩
     refine A0 <| A5 rfl rfl <| L5 rfl rfl (G2 (by omega)) <| A3 rfl rfl rfl ?_
     refine A6 ⟨nofun, _, kS [4,5,6,7,8,9,10] [4,5] rfl, ?_⟩
     refine ⟨(k + 1, _), ?_, (by simp only [hup]; omega), ⟨rfl, rfl, rfl, rfl, rfl, rfl, rfl, rfl, rfl, trivial⟩⟩
     rw [hup]
     have hds := a8a (by omega) hdg (by omega)
     exact ⟨by omega, by omega, hds.trans (congrArg some (by omega))⟩
    have hg := hg0; try simp only [SG] at hg
    refine gF rfl rfl <| F4 rfl (by assumption) rfl rfl ?_
    refine A6 ⟨nofun, _, kS [4,5,6,7,8,9,10,53] [4,5] rfl, ?_⟩
    refine A8 rfl (fun hc => ?_) (fun hc => absurd hc (by decide))
    refine A4 <| A0 ?_
    (refine B8 rfl rfl (fun _ => rfl) ?_; intro g2)
    refine A3 rfl rfl rfl ?_
    refine A6 ⟨nofun, _, kS [2,3] [2] rfl, ?_⟩
    refine B3 <| D8 (G7 rfl rfl (by simp) (by rfl) (D9 rfl rfl (F0 C6))) ?_
    rw [rdL, ← hps, J8 (show i < ps.length by omega) (U3 (by rw [hup]; exact R4 (by omega) hdg (by omega)))]
    rfl
   have hg := hg0; try simp only [SG] at hg
   refine gF rfl rfl <| gF rfl rfl <| gF rfl rfl <| F4 rfl (by assumption) rfl rfl <| A5 rfl rfl <| G5 rfl rfl rfl <| G5 rfl rfl rfl <| F4 rfl rfl rfl rfl ?_
   refine A6 ⟨nofun, _, kS [4,5,6,7,8,9,10,53] [4,5] rfl, ?_⟩
   refine A8 rfl (fun hc => ?_) (fun hc => absurd hc (by decide))
   refine A4 <| A0 ?_
   (refine B8 rfl rfl (fun _ => rfl) ?_; intro g2)
   refine A3 rfl rfl rfl ?_
   refine A6 ⟨nofun, _, kS [2,3] [2] rfl, ?_⟩
   refine B3 <| D8 (G7 rfl rfl (by simp) (by rfl) (D9 rfl rfl (F0 C6))) ?_
   rw [rdL, ← hps, J8 (show i < ps.length by omega) (U3 (by rw [hup]; exact R4 (by omega) hdg (by omega)))]
   rfl
  try simp only [SG, List.length_map] at hc
  have hdU : U0 0 (unS (ps.getD i default)) = some a.toNat := by rw [hup]; rw [List.take_of_length_le (by omega)] at hdg; exact hdg
  refine K6 <| A4 <| A4 <| A0 <| A5 rfl rfl ?_
  refine A6 ⟨nofun, _, kS [4,5,6,7,9,62] [4,5] rfl, ?_⟩
  refine A8 rfl (fun hc => absurd hc (by decide)) (fun hc => ?_)
  refine B9 <| A4 <| A4 <| A0 <| A5 rfl rfl <| b4r rfl rfl <| A5 rfl rfl ?_
  refine D5 rfl rfl (fun hg0 => ?_) (fun hg0 => ?_)
  ·have hg := hg0; try simp only [SG] at hg
   refine A5 rfl rfl <| gT rfl rfl ?_
   have hdl1 := T1 (m := -a) (by omega)
   have hdl2 := T1 (m := a) (by omega)
   apply C4 rfl
   ·apply A9
    ·exact B4 rfl
    exact C3
   ·exact a3k a (by omega)
   ·exact ⟨rfl, rfl, rfl, of_decide_eq_true rfl, rfl⟩
   ·exact .inl rfl
   ·exact B1
   ·exact B7 rfl
   ·exact fun _ => rfl
   intro g69
   refine gT rfl rfl <| A5 rfl rfl <| gT rfl rfl <| A5 rfl rfl <| gT rfl rfl <| Y0 rfl rfl rfl rfl (by omega) (by (simp; done)) rfl <| gT rfl rfl <| X1 rfl rfl (by omega) (fun _ => rfl) (fun _ => rfl) rfl <| gT rfl rfl <| b4p rfl rfl <| G3 rfl (by assumption) rfl rfl ?_
   refine A6 ⟨fun _ => ⟨by (simp only [a1x, List.nil_append, List.append_nil, List.map_cons, List.map_nil, List.cons_append]; decide +kernel), by decide +kernel⟩, [(.t 4, _), (.t 5, _), (.t 6, _), (.t 9, _), (.t 75, _), (.h 4, _), (.h 5, _)], ⟨rfl, rfl, rfl, rfl, rfl, rfl, rfl, rfl, rfl, rfl, rfl, rfl, rfl, rfl, trivial⟩, ?_⟩
   refine A8 rfl (fun hc => ?_) (fun hc => ?_)
   ·try simp only [SG, List.length_map] at hc
    refine A4 <| A0 ?_
    (refine B8 rfl rfl (fun _ => rfl) ?_; intro g2)
    refine A3 rfl rfl rfl ?_
    refine A6 ⟨nofun, _, kS [2,3] [2] rfl, ?_⟩
    refine B3 <| D8 (G7 rfl rfl (by simp) (by rfl) (D9 rfl rfl (F0 C6))) ?_
    have hno : rdI (ps.getD i default) = none := by exact a7p (m := a) hdU (by (rw [hng, if_neg (by decide)]; omega)) (by exact .inl (by rw [hup]; assumption))
    rw [rdL, ← hps, J8 (show i < ps.length by omega) hno]
    rfl
   try simp only [SG, List.length_map] at hc
   have hri := c0h (m := a) hdU (by (rw [hng, if_neg (by decide)]; omega)) (by rw [hup]; assumption) (by assumption)
   refine B9 <| A0 <| A5 rfl rfl <| A5 rfl rfl <| D7 (es := List.map iV [_]) rfl rfl (of_decide_eq_true rfl) rfl rfl (fun _ => B5 (B0 fun _ => rfl)) (fun _ => rfl) ?_
   intro g78
   refine H7 rfl rfl rfl rfl (by (simp; done)) (by simp) (by decide) rfl rfl rfl rfl (of_decide_eq_true rfl) (fun _ => ⟨rfl, rfl⟩) (by simp only [G8]; (simp only [List.length_nil, List.length_cons, List.length_append, Nat.zero_add, List.length_map]; omega)) (fun _ => rfl) ?_
   intro g79
   (refine C1 rfl rfl (by (simp; done)) rfl (fun _ => (B5 (by exact B0 fun _ => rfl))) (fun _ => rfl) ?_; intro g4)
   refine A6 ⟨nofun, _, kS [4,5,6] [4,5] rfl, ?_⟩
   refine A0 <| A5 rfl rfl <| L5 rfl rfl (G2 (by omega)) <| A3 rfl rfl rfl ?_
   refine A6 ⟨nofun, _, kS [4,5,6] [4,5] rfl, ?_⟩
   refine ⟨(i + 1, ns ++ [a], _), ?_, (by simp only; omega), ⟨rfl, rfl, rfl, rfl, rfl, trivial⟩⟩
   exact ⟨by omega, a7n (by omega) hrd hri⟩
  have hg := hg0; try simp only [SG] at hg
  refine gF rfl rfl <| gF rfl rfl <| gF rfl rfl <| gF rfl rfl <| gF rfl rfl <| gF rfl rfl <| F4 rfl (by assumption) rfl rfl ?_
  refine A6 ⟨fun _ => ⟨by decide +kernel, by decide +kernel⟩, [(.t 4, _), (.t 5, _), (.t 6, _), (.t 9, _), (.t 75, _), (.h 4, _), (.h 5, _)], ⟨rfl, rfl, rfl, rfl, rfl, rfl, rfl, rfl, rfl, rfl, rfl, rfl, rfl, rfl, trivial⟩, ?_⟩
  refine A8 rfl (fun hc => ?_) (fun hc => absurd hc (by decide))
  refine A4 <| A0 ?_
  (refine B8 rfl rfl (fun _ => rfl) ?_; intro g2)
  refine A3 rfl rfl rfl ?_
  refine A6 ⟨nofun, _, kS [2,3] [2] rfl, ?_⟩
  refine B3 <| D8 (G7 rfl rfl (by simp) (by rfl) (D9 rfl rfl (F0 C6))) ?_
  have hno : rdI (ps.getD i default) = none := by exact a7p (m := a) hdU (by (rw [hng, if_neg (by decide)]; omega)) (by exact .inl (by rw [hup]; assumption))
  rw [rdL, ← hps, J8 (show i < ps.length by omega) hno]
  rfl
 try simp only [SG, List.length_map] at hc
 refine K6 <| A4 <| A0 <| A5 rfl rfl ?_
 (refine C1 rfl rfl (by (simp; done)) rfl (fun _ => (B5 (by exact B0 fun _ => rfl))) (fun _ => rfl) ?_; intro g2)
 refine A3 rfl rfl rfl ?_
 refine A6 ⟨nofun, _, kS [2,3] [2] rfl, ?_⟩
 refine B3 <| D8 (G7 rfl rfl (by simp) (by exact B0 fun _ => rfl) (D9 rfl rfl (F0 C6))) ?_
 have hil : i = ps.length := by omega
 rw [hil, List.take_length] at hrd
 rw [rdL, ← hps, hrd]
 rfl

theorem keep_s_readNums : G1 Tryd.f51 = [0, 2, 3, 4, 22, 24, 5, 6] := by kernel_rfl
set_option maxHeartbeats 20000000 in
theorem c0v (s : List UInt8) (hs : s.length ≤ 1048576) : CW (cxT oG) 51 [tV s] = some (.tup [.own 1 ((b9u s).map iV), bV (numsOf s).isSome], []) := by
 refine G6 rfl Tryd.func51 rfl ⟨by kernel_rfl, rfl, of_decide_eq_true rfl, of_decide_eq_true rfl, by decide⟩ keep_s_readNums <| A4 <| A0 ?_
 (refine B8 rfl rfl (fun _ => rfl) ?_; intro g2)
 refine A3 rfl rfl rfl ?_
 refine A6 ⟨nofun, _, kS [0] [] rfl, ?_⟩
 refine A4 <| A0 <| A5 rfl rfl <| a0c rfl rfl <| A3 rfl rfl rfl ?_
 refine A6 ⟨nofun, _, kS [0,4] [] rfl, ?_⟩
 refine A4 <| A4 <| A0 <| A5 rfl rfl <| M1 rfl rfl <| A5 rfl rfl ?_
 refine D5 rfl rfl (fun hg0 => ?_) (fun hg0 => ?_)
 ·have hg := hg0; try simp only [SG] at hg
  refine A5 rfl rfl <| gT rfl rfl <| N4 (n := 0) rfl rfl rfl (by omega) <| gT rfl rfl <| d1g rfl rfl <| G3 rfl (by assumption) rfl rfl <| A5 rfl rfl ?_
  refine D5 rfl rfl (fun hg0 => ?_) (fun hg0 => ?_)
  ·have hg := hg0; try simp only [SG] at hg
   refine A5 rfl rfl <| gT rfl rfl <| A5 rfl rfl <| gT rfl rfl <| a0x rfl rfl (G2 (by omega)) <| gT rfl rfl ?_
   rw [show ((s.length : Int) - 1) = ((s.length - 1 : Nat) : Int) by omega]
   refine N4 rfl rfl rfl (by omega) <| gT rfl rfl <| d1g rfl rfl <| G3 rfl (by assumption) rfl rfl ?_
   refine A6 ⟨nofun, _, kS [0,4,22] [] rfl, ?_⟩
   refine A8 rfl (fun hc => ?_) (fun hc => ?_)
   ·try simp only [SG, List.length_map] at hc
    refine A4 <| A0 ?_
    (refine B8 rfl rfl (fun _ => rfl) ?_; intro g2)
    refine A3 rfl rfl rfl ?_
    refine A6 ⟨nofun, _, kS [2,3] [2] rfl, ?_⟩
    refine B3 <| D8 (G7 rfl rfl (by simp) (by rfl) (D9 rfl rfl (F0 C6))) ?_
    obtain ⟨hn1, hn2⟩ := a4r (s := s) (by exact .inr (.inr (by omega)))
    rw [hn1, hn2]
    rfl
   try simp only [SG, List.length_map] at hc
   have hin := c4p (s := s) (by omega) (by omega) (by omega)
   refine B9 <| A4 <| A4 <| A0 <| A5 rfl rfl <| T3 rfl rfl ?_
   refine A6 ⟨nofun, _, kS [0,4,24] [] rfl, ?_⟩
   refine A8 rfl (fun hc => ?_) (fun hc => ?_)
   ·try simp only [SG, List.length_map] at hc
    refine A4 <| A0 <| D7 (es := List.map iV []) rfl rfl (of_decide_eq_true rfl) rfl rfl (fun _ => B5 (B0 fun _ => rfl)) (fun _ => rfl) ?_
    intro g25
    (refine C1 rfl rfl (by (simp; done)) rfl (fun _ => (B5 (by exact B0 fun _ => rfl))) (fun _ => rfl) ?_; intro g2)
    refine A3 rfl rfl rfl ?_
    refine A6 ⟨nofun, _, kS [2,3] [2] rfl, ?_⟩
    refine B3 <| D8 (G7 rfl rfl (by simp) (by rfl) (D9 rfl rfl (F0 C6))) ?_
    obtain ⟨hn1, hn2⟩ := hin.1 (by omega)
    rw [hn1, hn2]
    rfl
   try simp only [SG, List.length_map] at hc
   refine B9 <| A4 <| A0 <| A5 rfl rfl <| A5 rfl rfl <| a0x rfl rfl (G2 (by omega)) ?_
   rw [show ((s.length : Int) - 1) = ((s.length - 1 : Nat) : Int) by omega]
   have hrl := d0s ((s.drop 1).take (s.length - 1 - 1))
   have hin2 : ((s.drop 1).take (s.length - 1 - 1)).length ≤ s.length - 2 := by simp only [List.length_take, List.length_drop]; omega
   refine S4 rfl rfl (H4 rfl) (H4 (n := 1) rfl) (by omega) ?_
   apply C4 rfl
   ·apply A9
    ·exact B4 rfl
    exact C3
   ·exact c2b ((s.drop 1).take (s.length - 1 - 1)) (by omega)
   ·exact ⟨rfl, rfl, rfl, of_decide_eq_true rfl, rfl⟩
   ·exact .inr ⟨a1w _ _, rfl⟩
   ·exact B1
   ·exact J4 (S1 fun _ => J3 rfl R9)
   ·exact fun _ => rfl
   intro g31
   simp only [List.length_map]
   refine A5 rfl rfl <| B2 rfl rfl rfl <| B2 rfl rfl rfl ?_
   (refine C1 rfl rfl (by (simp; done)) rfl (fun _ => (B5 (by exact B0 fun _ => rfl))) (fun _ => rfl) ?_; intro g5)
   refine A3 rfl rfl rfl ?_
   refine A6 ⟨nofun, _, kS [5,6] [5] rfl, ?_⟩
   refine A4 <| A0 <| A5 rfl rfl <| A5 rfl rfl <| A5 rfl rfl ?_
   refine D5 rfl rfl (fun hg0 => ?_) (fun hg0 => ?_)
   ·have hg := hg0; try simp only [SG] at hg
    refine A5 rfl rfl <| gT rfl rfl ?_
    apply C4 rfl
    ·apply A9
     ·exact T5 rfl rfl rfl (by (simp; done)) (fun _ => rfl)
     exact C3
    ·exact b8a ((rdL ((s.drop 1).take (s.length - 1 - 1))).getD []) (by omega)
    ·exact ⟨rfl, rfl, rfl, of_decide_eq_true rfl, rfl⟩
    ·exact .inr ⟨rfl, rfl⟩
    ·exact B1
    ·exact B7 rfl
    ·exact fun _ => rfl
    intro g38
    refine F4 rfl (by assumption) rfl rfl ?_
    (refine C1 rfl rfl (by (simp; done)) rfl (fun _ => (B5 (by exact B0 fun _ => rfl))) (fun _ => rfl) ?_; intro g2)
    refine A3 rfl rfl rfl ?_
    refine A6 ⟨nofun, _, kS [2,3] [2] rfl, ?_⟩
    refine B3 <| D8 (G7 rfl rfl (by simp) (by exact B0 fun _ => rfl) (D9 rfl rfl (F0 C6))) ?_
    obtain ⟨hn1, hn2⟩ := hin.2 (by omega)
    rw [hn2, b1s hn1]
    simp_all
    try rfl
   have hg := hg0; try simp only [SG] at hg
   refine gF rfl rfl <| G3 rfl (by assumption) rfl rfl ?_
   (refine C1 rfl rfl (by (simp; done)) rfl (fun _ => (B5 (by exact B0 fun _ => rfl))) (fun _ => rfl) ?_; intro g2)
   refine A3 rfl rfl rfl ?_
   refine A6 ⟨nofun, _, kS [2,3] [2] rfl, ?_⟩
   refine B3 <| D8 (G7 rfl rfl (by simp) (by exact B0 fun _ => rfl) (D9 rfl rfl (F0 C6))) ?_
   obtain ⟨hn1, hn2⟩ := hin.2 (by omega)
   rw [hn2, b1s hn1]
   simp_all
   try rfl
  have hg := hg0; try simp only [SG] at hg
  refine gF rfl rfl <| gF rfl rfl <| gF rfl rfl <| gF rfl rfl <| F4 rfl (by assumption) rfl rfl ?_
  refine A6 ⟨nofun, _, kS [0,4,22] [] rfl, ?_⟩
  refine A8 rfl (fun hc => ?_) (fun hc => absurd hc (by decide))
  refine A4 <| A0 ?_
  (refine B8 rfl rfl (fun _ => rfl) ?_; intro g2)
  refine A3 rfl rfl rfl ?_
  refine A6 ⟨nofun, _, kS [2,3] [2] rfl, ?_⟩
  refine B3 <| D8 (G7 rfl rfl (by simp) (by rfl) (D9 rfl rfl (F0 C6))) ?_
  obtain ⟨hn1, hn2⟩ := a4r (s := s) (by exact .inr (.inl (by omega)))
  rw [hn1, hn2]
  rfl
 have hg := hg0; try simp only [SG] at hg
 refine gF rfl rfl <| gF rfl rfl <| F4 rfl (by assumption) rfl rfl <| A5 rfl rfl <| G5 rfl rfl rfl <| G5 rfl rfl rfl <| G5 rfl rfl rfl <| G5 rfl rfl rfl <| G5 rfl rfl rfl <| F4 rfl rfl rfl rfl ?_
 refine A6 ⟨nofun, _, kS [0,4,22] [] rfl, ?_⟩
 refine A8 rfl (fun hc => ?_) (fun hc => absurd hc (by decide))
 refine A4 <| A0 ?_
 (refine B8 rfl rfl (fun _ => rfl) ?_; intro g2)
 refine A3 rfl rfl rfl ?_
 refine A6 ⟨nofun, _, kS [2,3] [2] rfl, ?_⟩
 refine B3 <| D8 (G7 rfl rfl (by simp) (by rfl) (D9 rfl rfl (F0 C6))) ?_
 obtain ⟨hn1, hn2⟩ := a4r (s := s) (by exact .inl (by omega))
 rw [hn1, hn2]
 rfl

theorem keep_s_readTree : G1 Tryd.f39 = [0, 2, 3, 4, 15, 6, 24, 5, 7, 34, 43, 9, 12, 53, 8, 10, 11, 48, 59] := by kernel_rfl
set_option maxHeartbeats 20000000 in
theorem b0m (ws : List W8) (hws : ws.length ≤ 1048600 ∧ ∀ w ∈ ws, w.length ≤ 1048576) : CW (cxT oG) 39 [.list (ws.map tV)] = some (rtR (rdT ws), []) := by
 obtain ⟨kk, hkk⟩ : ∃ kk : Nat, ws.length < kk := ⟨_, Nat.lt_succ_self _⟩
 revert ws
 induction kk with
 | zero => intro ws hws hkk; exact absurd hkk (Nat.not_lt_zero _)
 | succ kk ih =>
  intro ws hws hkk
  refine G6 rfl Tryd.func39 rfl ⟨by kernel_rfl, rfl, of_decide_eq_true rfl, of_decide_eq_true rfl, by decide⟩ keep_s_readTree <| A4 <| A0 <| H2 rfl (fun _ => C0 rfl) (fun _ => rfl) ?_
  intro g2
  (refine B8 rfl rfl (fun _ => rfl) ?_; intro g3)
  refine A3 rfl rfl rfl ?_
  refine A6 ⟨nofun, _, kS [0,2] [2] rfl, ?_⟩
  refine A4 <| A4 <| A0 <| A5 rfl rfl <| H8 rfl rfl <| T3 rfl rfl ?_
  refine A6 ⟨nofun, _, kS [0,2,15] [2] rfl, ?_⟩
  refine A8 rfl (fun hc => ?_) (fun hc => ?_)
  ·try simp only [SG, List.length_map] at hc
   have hw0 : ws = [] := List.length_eq_zero_iff.1 (by simpa using hc)
   subst hw0
   refine A4 <| A0 <| K7 (fs := [_, _, _]) rfl rfl rfl rfl rfl <| C5 rfl rfl rfl rfl ⟨by decide, rfl, of_decide_eq_true rfl, of_decide_eq_true rfl, rfl⟩ rfl (by exact C0 rfl) ?_
   (refine B8 rfl rfl (fun _ => rfl) ?_; intro g3)
   refine A3 rfl rfl rfl ?_
   refine A6 ⟨nofun, _, kS [2,3,4] [2,3] rfl, ?_⟩
   refine B3 <| D8 (G9 rfl rfl rfl rfl (H0 rfl (H3 rfl (H3 rfl K0))) (G7 rfl rfl (by simp) (by rfl) (D9 rfl rfl (F0 C6)))) ?_
   rfl
  try simp only [SG, List.length_map] at hc
  obtain ⟨w, ws1, rfl⟩ : ∃ w ws1, ws = w :: ws1 := List.exists_cons_of_ne_nil (fun e => by subst e; simp at hc)
  have hw := hws.2 w (by simp)
  refine B9 <| A4 <| A0 <| A5 rfl rfl <| J0 rfl rfl rfl (fun _ => rfl) (by (change 0 < _; omega)) <| H1 rfl rfl rfl ?_
  apply C4 rfl
  ·apply A9
   ·exact B4 rfl
   exact C3
  ·exact c0v w (by omega)
  ·exact ⟨rfl, rfl, rfl, of_decide_eq_true rfl, rfl⟩
  ·exact .inr ⟨a1w _ _, rfl⟩
  ·exact B1
  ·exact J4 (S1 fun _ => J3 rfl R9)
  ·exact fun _ => rfl
  intro g21
  simp only [List.length_map]
  refine A5 rfl rfl <| B2 rfl rfl rfl <| B2 rfl rfl rfl ?_
  (refine C1 rfl rfl (by (simp; done)) rfl (fun _ => (B5 (by exact B0 fun _ => rfl))) (fun _ => rfl) ?_; intro g5)
  refine A3 rfl rfl rfl ?_
  refine A6 ⟨nofun, _, kS [0,2,5,6] [2,5] rfl, ?_⟩
  refine A4 <| A4 <| A0 <| A5 rfl rfl ?_
  refine A6 ⟨nofun, _, kS [0,2,5,24] [2,5] rfl, ?_⟩
  refine A8 rfl (fun hc => ?_) (fun hc => ?_)
  ·try simp only [SG, List.length_map] at hc
   obtain ⟨ns, hns⟩ := Option.isSome_iff_exists.1 hc
   have hraw := c9v hns
   refine A4 <| A0 <| A5 rfl rfl <| K7 (fs := [_, _, _]) rfl rfl rfl rfl rfl <| A5 rfl rfl <| L3 rfl rfl rfl (Mv.sized_map fun _ => rfl) H6 (H4 (n := 1) rfl) (by simp) ?_
   rw [show ((List.map tV (w :: ws1)).drop 1).take ((List.map tV (w :: ws1)).length - 1) = ws1.map tV from by rw [List.map_cons, List.drop_succ_cons, List.drop_zero, List.take_of_length_le (by simp)]]
   refine K2 rfl rfl rfl rfl (N6 rfl (a2m (by decide) (N6 rfl a0i))) (fun _ => rfl) ⟨by decide, rfl, of_decide_eq_true rfl, Nat.le_refl _⟩ (fun _ => rfl) (fun _ => rfl) (fun _ => (by rfl)) ?_
   intro z
   simp only [T4, List.cons_append, List.nil_append]
   refine A3 rfl rfl rfl <| A3 rfl rfl rfl ?_
   refine A6 ⟨fun _ => ⟨by (simp only [a1x, List.nil_append, List.append_nil, List.map_cons, List.map_nil, List.cons_append]; decide +kernel), by decide +kernel⟩, [(.t 2, _), (.t 3, _), (.t 4, _), (.h 2, _), (.h 5, _)], ⟨rfl, rfl, rfl, rfl, rfl, rfl, rfl, rfl, rfl, rfl, trivial⟩, ?_⟩
   refine B3 <| D8 (G9 rfl rfl rfl rfl (H0 rfl (a2k rfl rfl (by simp) (fun _ => rfl) (H3 rfl K0))) (D9 rfl rfl (D9 rfl rfl (F0 C6)))) ?_
   rw [b8l hns, hraw]
   rfl
  try simp only [SG, List.length_map] at hc
  have hnn : numsOf w = none := by simpa using hc
  refine B9 <| A4 <| A0 <| A5 rfl rfl <| J0 rfl rfl rfl (fun _ => rfl) (by (change 0 < _; omega)) <| H1 rfl rfl rfl ?_
  apply C4 rfl
  ·apply A9
   ·exact B4 rfl
   exact C3
  ·exact c5c (bA w)
  ·exact ⟨rfl, rfl, rfl, of_decide_eq_true rfl, rfl⟩
  ·exact .inl rfl
  ·exact B1
  ·exact B7 rfl
  ·exact fun _ => rfl
  intro g32
  refine A3 rfl rfl rfl ?_
  refine A6 ⟨nofun, _, kS [0,2,7] [2] rfl, ?_⟩
  refine A4 <| A4 <| A0 <| A5 rfl rfl <| M1 rfl rfl ?_
  refine A6 ⟨nofun, _, kS [0,2,7,34] [2] rfl, ?_⟩
  refine A8 rfl (fun hc => ?_) (fun hc => ?_)
  ·try simp only [SG, List.length_map] at hc
   refine A4 <| A0 <| K7 (fs := [_, _, _]) rfl rfl rfl rfl rfl <| C5 rfl rfl rfl rfl ⟨by decide, rfl, of_decide_eq_true rfl, of_decide_eq_true rfl, rfl⟩ rfl (by exact C0 rfl) ?_
   (refine B8 rfl rfl (fun _ => rfl) ?_; intro g3)
   refine A3 rfl rfl rfl ?_
   refine A6 ⟨nofun, _, kS [2,3,4] [2,3] rfl, ?_⟩
   refine B3 <| D8 (G9 rfl rfl rfl rfl (H0 rfl (H3 rfl (H3 rfl K0))) (G7 rfl rfl (by simp) (by rfl) (D9 rfl rfl (F0 C6)))) ?_
   rw [c3u hnn (by omega)]
   rfl
  try simp only [SG, List.length_map] at hc
  refine B9 <| A4 <| A0 <| A5 rfl rfl <| J0 rfl rfl rfl (fun _ => rfl) (by (change 0 < _; omega)) <| H1 rfl rfl rfl <| K7 (fs := [_, _, _]) rfl rfl rfl rfl rfl <| H2 rfl (fun _ => C0 rfl) (fun _ => rfl) ?_
  intro g8
  refine C5 rfl rfl rfl rfl ⟨by decide, rfl, of_decide_eq_true rfl, of_decide_eq_true rfl, rfl⟩ rfl (by exact C0 rfl) ?_
  refine A6 ⟨nofun, _, kS [0,2,7,8] [2,8] rfl, ?_⟩
  refine A4 <| A0 ?_
  rcases b3x (w := bA w) (by omega) with hn | hn | hn
  ·rw [hn]
   refine A5 rfl rfl <| L3 rfl rfl rfl (Mv.sized_map fun _ => rfl) H6 (H4 (n := 1) rfl) (by simp) ?_
   rw [show ((List.map tV (w :: ws1)).drop 1).take ((List.map tV (w :: ws1)).length - 1) = ws1.map tV from by rw [List.map_cons, List.drop_succ_cons, List.drop_zero, List.take_of_length_le (by simp)]]
   refine A3 rfl rfl rfl ?_
   refine A6 ⟨nofun, _, kS [2,7,8,9] [2,8] rfl, ?_⟩
   refine A4 <| E7 <| L9 <| A4 <| A4 <| A0 <| A5 rfl rfl <| V3 rfl rfl ?_
   refine A6 ⟨nofun, _, kS [2,7,8,9,43] [2,8] rfl, ?_⟩
   refine A8 rfl (fun hc => absurd hc (by decide)) (fun hc => ?_)
   refine K6 <| A4 <| A0 <| G4 rfl rfl rfl rfl rfl <| A5 rfl rfl <| C5 rfl rfl rfl rfl ⟨by decide, rfl, of_decide_eq_true rfl, of_decide_eq_true rfl, rfl⟩ rfl (by exact C0 rfl) <| A3 rfl rfl rfl <| A3 rfl rfl rfl ?_
   refine A6 ⟨nofun, _, kS [2,3,4] [2] rfl, ?_⟩
   refine B3 <| D8 (G9 rfl rfl rfl rfl (H0 rfl (H3 rfl (H3 rfl K0))) (D9 rfl rfl (D9 rfl rfl (F0 C6)))) ?_
   rw [c3c hnn hn]
   rfl
  ·rw [hn]
   refine A5 rfl rfl <| L3 rfl rfl rfl (Mv.sized_map fun _ => rfl) H6 (H4 (n := 1) rfl) (by simp) ?_
   rw [show ((List.map tV (w :: ws1)).drop 1).take ((List.map tV (w :: ws1)).length - 1) = ws1.map tV from by rw [List.map_cons, List.drop_succ_cons, List.drop_zero, List.take_of_length_le (by simp)]]
   refine A3 rfl rfl rfl ?_
   refine A6 ⟨nofun, _, kS [2,7,8,9] [2,8] rfl, ?_⟩
   refine A4 <| E7 <| L9 <| A4 <| A4 <| A0 <| A5 rfl rfl <| V3 rfl rfl ?_
   refine A6 ⟨nofun, _, kS [2,7,8,9,43] [2,8] rfl, ?_⟩
   refine A8 rfl (fun hc => ?_) (fun hc => absurd hc (by decide))
   refine B9 <| A4 <| E7 <| A4 <| A0 <| A5 rfl rfl ?_
   rcases hr1 : rdT ws1 with _ | ⟨k1, r1⟩
   ·skip
    apply C4 rfl
    ·apply A9
     ·exact B4 rfl
     exact C3
    ·exact (by have hi := ih ws1 ⟨by simp only [List.length_cons] at hws; omega, fun x hx => hws.2 x (List.mem_cons_of_mem _ hx)⟩ (by simp only [List.length_cons] at hkk; omega); rw [hr1] at hi; exact hi)
    ·exact ⟨rfl, rfl, rfl, of_decide_eq_true rfl, rfl⟩
    ·exact .inl rfl
    ·exact B1
    ·exact J4 (J3 rfl (S1 fun _ => J3 rfl R9))
    ·exact fun _ => D6 (B5 rfl) (by rfl)
    intro g48
    refine A5 rfl rfl <| B2 rfl rfl rfl <| B2 rfl rfl rfl <| B2 rfl rfl rfl <| H2 rfl (fun _ => C0 rfl) (fun _ => rfl) ?_
    intro g10
    refine C5 rfl rfl rfl rfl ⟨by decide, rfl, of_decide_eq_true rfl, of_decide_eq_true rfl, rfl⟩ rfl (by exact C0 rfl) ?_
    (refine C1 rfl rfl (by (simp; done)) rfl (fun _ => (B5 (by rfl))) (fun _ => rfl) ?_; intro g11)
    refine A3 rfl rfl rfl ?_
    refine A6 ⟨nofun, _, kS [2,7,8,10,11,12] [2,8,10] rfl, ?_⟩
    refine A4 <| A4 <| A0 <| A5 rfl rfl <| P2 rfl ?_
    refine A6 ⟨nofun, _, kS [2,7,8,10,11,53] [2,8,10] rfl, ?_⟩
    refine A8 rfl (fun hc => ?_) (fun hc => absurd hc (by decide))
    refine A4 <| A0 <| K7 (fs := [_, _, _]) rfl rfl rfl rfl rfl <| C5 rfl rfl rfl rfl ⟨by decide, rfl, of_decide_eq_true rfl, of_decide_eq_true rfl, rfl⟩ rfl (by exact C0 rfl) ?_
    (refine B8 rfl rfl (fun _ => rfl) ?_; intro g3)
    refine A3 rfl rfl rfl ?_
    refine A6 ⟨nofun, _, kS [2,3,4] [2,3] rfl, ?_⟩
    refine B3 <| D8 (G9 rfl rfl rfl rfl (H0 rfl (H3 rfl (H3 rfl K0))) (G7 rfl rfl (by simp) (by rfl) (D9 rfl rfl (F0 C6)))) ?_
    rw [b5n hnn hn, hr1]
    rfl
   skip
   apply C4 rfl
   ·apply A9
    ·exact B4 rfl
    exact C3
   ·exact (by have hi := ih ws1 ⟨by simp only [List.length_cons] at hws; omega, fun x hx => hws.2 x (List.mem_cons_of_mem _ hx)⟩ (by simp only [List.length_cons] at hkk; omega); rw [hr1] at hi; exact hi)
   ·exact ⟨rfl, rfl, rfl, of_decide_eq_true rfl, rfl⟩
   ·exact .inl rfl
   ·exact B1
   ·exact K4 rfl
   ·exact fun _ => rfl
   intro g48
   refine A5 rfl rfl <| B2 rfl rfl rfl <| B2 rfl rfl rfl <| B2 rfl rfl rfl <| H2 rfl (fun _ => C0 rfl) (fun _ => rfl) ?_
   intro g10
   refine C5 rfl rfl rfl rfl ⟨by decide, rfl, of_decide_eq_true rfl, of_decide_eq_true rfl, rfl⟩ rfl (by exact C0 rfl) <| A3 rfl rfl rfl <| A3 rfl rfl rfl ?_
   refine A6 ⟨nofun, _, kS [2,7,8,10,11,12] [2,8,10] rfl, ?_⟩
   refine A4 <| A4 <| A0 <| A5 rfl rfl <| P2 rfl ?_
   refine A6 ⟨nofun, _, kS [2,7,8,10,11,53] [2,8,10] rfl, ?_⟩
   refine A8 rfl (fun hc => absurd hc (by decide)) (fun hc => ?_)
   refine B9 <| A4 <| A0 <| E9 rfl rfl (of_decide_eq_true rfl) rfl rfl <| F7 rfl rfl rfl rfl rfl rfl <| G4 rfl rfl rfl rfl rfl <| a0z (es := List.map trV [_]) rfl rfl (of_decide_eq_true rfl) rfl rfl (fun _ => B5 (B0 fun _ => rfl)) (fun _ => rfl) ?_
   intro g58
   refine W9 rfl rfl rfl (by simp) (by decide) rfl rfl rfl (of_decide_eq_true rfl) (fun _ => ⟨rfl, rfl⟩) (by simp only [G8]; (simp only [List.length_nil, List.length_cons, List.length_append, Nat.zero_add, List.length_map]; omega)) (fun _ => rfl) ?_
   intro g59
   refine E9 rfl rfl (of_decide_eq_true rfl) rfl rfl <| Q3 rfl rfl rfl rfl rfl (Nat.le_refl _) rfl ?_
   refine A6 ⟨nofun, _, kS [2,7,8,11] [2,8,1000059] rfl, ?_⟩
   refine A0 <| A5 rfl rfl <| A3 rfl rfl rfl ?_
   refine A6 ⟨nofun, _, kS [2,7,8,9] [2,8,1000059] rfl, ?_⟩
   refine A0 <| A5 rfl rfl <| a0x rfl rfl (G2 (by omega)) <| A3 rfl rfl rfl ?_
   refine A6 ⟨nofun, _, kS [2,7,8,9] [2,8,1000059] rfl, ?_⟩
   refine L9 <| A4 <| A4 <| A0 <| A5 rfl rfl <| V3 rfl rfl ?_
   refine A6 ⟨nofun, _, kS [2,7,8,9,43] [2,8,1000059] rfl, ?_⟩
   refine A8 rfl (fun hc => absurd hc (by decide)) (fun hc => ?_)
   refine K6 <| A4 <| A0 <| G4 rfl rfl rfl rfl rfl <| A5 rfl rfl <| K2 rfl rfl rfl rfl (N6 rfl (N6 rfl (b0c (by decide) (by decide) rfl (by simp) fun _ => a0i))) (fun _ => rfl) ⟨by decide, rfl, of_decide_eq_true rfl, Nat.le_refl _⟩ (fun _ => rfl) (fun _ => rfl) (fun _ => D6 (by rfl) (D6 (B5 (B0 fun _ => rfl)) (by rfl))) ?_
   intro z
   simp only [T4, List.cons_append, List.nil_append]
   refine A3 rfl rfl rfl <| A3 rfl rfl rfl ?_
   refine A6 ⟨nofun, _, kS [2,3,4] [2,300002] rfl, ?_⟩
   refine B3 <| D8 (G9 rfl rfl rfl rfl (H0 rfl (H3 rfl (a2k rfl rfl (by simp) (fun _ => rfl) K0))) (D9 rfl rfl (D9 rfl rfl (F0 C6)))) ?_
   rw [b5n hnn hn, hr1]
   rfl
  rw [hn]
  refine A5 rfl rfl <| L3 rfl rfl rfl (Mv.sized_map fun _ => rfl) H6 (H4 (n := 1) rfl) (by simp) ?_
  rw [show ((List.map tV (w :: ws1)).drop 1).take ((List.map tV (w :: ws1)).length - 1) = ws1.map tV from by rw [List.map_cons, List.drop_succ_cons, List.drop_zero, List.take_of_length_le (by simp)]]
  refine A3 rfl rfl rfl ?_
  refine A6 ⟨nofun, _, kS [2,7,8,9] [2,8] rfl, ?_⟩
  refine A4 <| E7 <| L9 <| A4 <| A4 <| A0 <| A5 rfl rfl <| V3 rfl rfl ?_
  refine A6 ⟨nofun, _, kS [2,7,8,9,43] [2,8] rfl, ?_⟩
  refine A8 rfl (fun hc => ?_) (fun hc => absurd hc (by decide))
  refine B9 <| A4 <| E7 <| A4 <| A0 <| A5 rfl rfl ?_
  rcases hr1 : rdT ws1 with _ | ⟨k1, r1⟩
  ·skip
   apply C4 rfl
   ·apply A9
    ·exact B4 rfl
    exact C3
   ·exact (by have hi := ih ws1 ⟨by simp only [List.length_cons] at hws; omega, fun x hx => hws.2 x (List.mem_cons_of_mem _ hx)⟩ (by simp only [List.length_cons] at hkk; omega); rw [hr1] at hi; exact hi)
   ·exact ⟨rfl, rfl, rfl, of_decide_eq_true rfl, rfl⟩
   ·exact .inl rfl
   ·exact B1
   ·exact J4 (J3 rfl (S1 fun _ => J3 rfl R9))
   ·exact fun _ => D6 (B5 rfl) (by rfl)
   intro g48
   refine A5 rfl rfl <| B2 rfl rfl rfl <| B2 rfl rfl rfl <| B2 rfl rfl rfl <| H2 rfl (fun _ => C0 rfl) (fun _ => rfl) ?_
   intro g10
   refine C5 rfl rfl rfl rfl ⟨by decide, rfl, of_decide_eq_true rfl, of_decide_eq_true rfl, rfl⟩ rfl (by exact C0 rfl) ?_
   (refine C1 rfl rfl (by (simp; done)) rfl (fun _ => (B5 (by rfl))) (fun _ => rfl) ?_; intro g11)
   refine A3 rfl rfl rfl ?_
   refine A6 ⟨nofun, _, kS [2,7,8,10,11,12] [2,8,10] rfl, ?_⟩
   refine A4 <| A4 <| A0 <| A5 rfl rfl <| P2 rfl ?_
   refine A6 ⟨nofun, _, kS [2,7,8,10,11,53] [2,8,10] rfl, ?_⟩
   refine A8 rfl (fun hc => ?_) (fun hc => absurd hc (by decide))
   refine A4 <| A0 <| K7 (fs := [_, _, _]) rfl rfl rfl rfl rfl <| C5 rfl rfl rfl rfl ⟨by decide, rfl, of_decide_eq_true rfl, of_decide_eq_true rfl, rfl⟩ rfl (by exact C0 rfl) ?_
   (refine B8 rfl rfl (fun _ => rfl) ?_; intro g3)
   refine A3 rfl rfl rfl ?_
   refine A6 ⟨nofun, _, kS [2,3,4] [2,3] rfl, ?_⟩
   refine B3 <| D8 (G9 rfl rfl rfl rfl (H0 rfl (H3 rfl (H3 rfl K0))) (G7 rfl rfl (by simp) (by rfl) (D9 rfl rfl (F0 C6)))) ?_
   rw [a4i hnn hn, hr1]
   rfl
  skip
  apply C4 rfl
  ·apply A9
   ·exact B4 rfl
   exact C3
  ·exact (by have hi := ih ws1 ⟨by simp only [List.length_cons] at hws; omega, fun x hx => hws.2 x (List.mem_cons_of_mem _ hx)⟩ (by simp only [List.length_cons] at hkk; omega); rw [hr1] at hi; exact hi)
  ·exact ⟨rfl, rfl, rfl, of_decide_eq_true rfl, rfl⟩
  ·exact .inl rfl
  ·exact B1
  ·exact K4 rfl
  ·exact fun _ => rfl
  intro g48
  refine A5 rfl rfl <| B2 rfl rfl rfl <| B2 rfl rfl rfl <| B2 rfl rfl rfl <| H2 rfl (fun _ => C0 rfl) (fun _ => rfl) ?_
  intro g10
  refine C5 rfl rfl rfl rfl ⟨by decide, rfl, of_decide_eq_true rfl, of_decide_eq_true rfl, rfl⟩ rfl (by exact C0 rfl) <| A3 rfl rfl rfl <| A3 rfl rfl rfl ?_
  refine A6 ⟨nofun, _, kS [2,7,8,10,11,12] [2,8,10] rfl, ?_⟩
  refine A4 <| A4 <| A0 <| A5 rfl rfl <| P2 rfl ?_
  refine A6 ⟨nofun, _, kS [2,7,8,10,11,53] [2,8,10] rfl, ?_⟩
  refine A8 rfl (fun hc => absurd hc (by decide)) (fun hc => ?_)
  refine B9 <| A4 <| A0 <| E9 rfl rfl (of_decide_eq_true rfl) rfl rfl <| F7 rfl rfl rfl rfl rfl rfl <| G4 rfl rfl rfl rfl rfl <| a0z (es := List.map trV [_]) rfl rfl (of_decide_eq_true rfl) rfl rfl (fun _ => B5 (B0 fun _ => rfl)) (fun _ => rfl) ?_
  intro g58
  refine W9 rfl rfl rfl (by simp) (by decide) rfl rfl rfl (of_decide_eq_true rfl) (fun _ => ⟨rfl, rfl⟩) (by simp only [G8]; (simp only [List.length_nil, List.length_cons, List.length_append, Nat.zero_add, List.length_map]; omega)) (fun _ => rfl) ?_
  intro g59
  refine E9 rfl rfl (of_decide_eq_true rfl) rfl rfl <| Q3 rfl rfl rfl rfl rfl (Nat.le_refl _) rfl ?_
  refine A6 ⟨nofun, _, kS [2,7,8,11] [2,8,1000059] rfl, ?_⟩
  refine A0 <| A5 rfl rfl <| A3 rfl rfl rfl ?_
  refine A6 ⟨nofun, _, kS [2,7,8,9] [2,8,1000059] rfl, ?_⟩
  refine A0 <| A5 rfl rfl <| a0x rfl rfl (G2 (by omega)) <| A3 rfl rfl rfl ?_
  refine A6 ⟨nofun, _, kS [2,7,8,9] [2,8,1000059] rfl, ?_⟩
  refine L9 <| A4 <| A4 <| A0 <| A5 rfl rfl <| V3 rfl rfl ?_
  refine A6 ⟨nofun, _, kS [2,7,8,9,43] [2,8,1000059] rfl, ?_⟩
  refine A8 rfl (fun hc => ?_) (fun hc => absurd hc (by decide))
  refine B9 <| A4 <| E7 <| A4 <| A0 <| A5 rfl rfl ?_
  rcases hr2 : rdT r1 with _ | ⟨k2, r2⟩
  ·skip
   apply C4 rfl
   ·apply A9
    ·exact B4 rfl
    exact C3
   ·exact (by have hi := ih r1 ⟨by have := X4 hr1; simp only [List.length_cons] at hws; omega, fun x hx => hws.2 x (List.mem_cons_of_mem _ (a9z hr1 x hx))⟩ (by have := X4 hr1; simp only [List.length_cons] at hkk; omega); rw [hr2] at hi; exact hi)
   ·exact ⟨rfl, rfl, rfl, of_decide_eq_true rfl, rfl⟩
   ·exact .inl rfl
   ·exact B1
   ·exact J4 (J3 rfl (S1 fun _ => J3 rfl R9))
   ·exact fun _ => D6 (B5 rfl) (by rfl)
   intro g48
   refine A5 rfl rfl <| B2 rfl rfl rfl <| B2 rfl rfl rfl <| B2 rfl rfl rfl <| H2 rfl (fun _ => C0 rfl) (fun _ => rfl) ?_
   intro g10
   refine C5 rfl rfl rfl rfl ⟨by decide, rfl, of_decide_eq_true rfl, of_decide_eq_true rfl, rfl⟩ rfl (by exact C0 rfl) ?_
   (refine C1 rfl rfl (by (simp; done)) rfl (fun _ => (B5 (by rfl))) (fun _ => rfl) ?_; intro g11)
   refine A3 rfl rfl rfl ?_
   refine A6 ⟨nofun, _, kS [2,7,8,10,11,12] [2,8,1000059,10] rfl, ?_⟩
   refine A4 <| A4 <| A0 <| A5 rfl rfl <| P2 rfl ?_
   refine A6 ⟨nofun, _, kS [2,7,8,10,11,53] [2,8,1000059,10] rfl, ?_⟩
   refine A8 rfl (fun hc => ?_) (fun hc => absurd hc (by decide))
   refine A4 <| A0 <| K7 (fs := [_, _, _]) rfl rfl rfl rfl rfl <| C5 rfl rfl rfl rfl ⟨by decide, rfl, of_decide_eq_true rfl, of_decide_eq_true rfl, rfl⟩ rfl (by exact C0 rfl) ?_
   (refine B8 rfl rfl (fun _ => rfl) ?_; intro g3)
   refine A3 rfl rfl rfl ?_
   refine A6 ⟨nofun, _, kS [2,3,4] [2,3] rfl, ?_⟩
   refine B3 <| D8 (G9 rfl rfl rfl rfl (H0 rfl (H3 rfl (H3 rfl K0))) (G7 rfl rfl (by simp) (by rfl) (D9 rfl rfl (F0 C6)))) ?_
   rw [a4i hnn hn, hr1, Option.bind_some, hr2]
   rfl
  skip
  apply C4 rfl
  ·apply A9
   ·exact B4 rfl
   exact C3
  ·exact (by have hi := ih r1 ⟨by have := X4 hr1; simp only [List.length_cons] at hws; omega, fun x hx => hws.2 x (List.mem_cons_of_mem _ (a9z hr1 x hx))⟩ (by have := X4 hr1; simp only [List.length_cons] at hkk; omega); rw [hr2] at hi; exact hi)
  ·exact ⟨rfl, rfl, rfl, of_decide_eq_true rfl, rfl⟩
  ·exact .inl rfl
  ·exact B1
  ·exact K4 rfl
  ·exact fun _ => rfl
  intro g48
  refine A5 rfl rfl <| B2 rfl rfl rfl <| B2 rfl rfl rfl <| B2 rfl rfl rfl <| H2 rfl (fun _ => C0 rfl) (fun _ => rfl) ?_
  intro g10
  refine C5 rfl rfl rfl rfl ⟨by decide, rfl, of_decide_eq_true rfl, of_decide_eq_true rfl, rfl⟩ rfl (by exact C0 rfl) <| A3 rfl rfl rfl <| A3 rfl rfl rfl ?_
  refine A6 ⟨nofun, _, kS [2,7,8,10,11,12] [2,8,1000059,10] rfl, ?_⟩
  refine A4 <| A4 <| A0 <| A5 rfl rfl <| P2 rfl ?_
  refine A6 ⟨nofun, _, kS [2,7,8,10,11,53] [2,8,1000059,10] rfl, ?_⟩
  refine A8 rfl (fun hc => absurd hc (by decide)) (fun hc => ?_)
  refine B9 <| A4 <| A0 <| E9 rfl rfl (of_decide_eq_true rfl) rfl rfl <| F7 rfl rfl rfl rfl rfl rfl <| G4 rfl rfl rfl rfl rfl <| a0z (es := List.map trV [_]) rfl rfl (of_decide_eq_true rfl) rfl rfl (fun _ => B5 (B0 fun _ => rfl)) (fun _ => rfl) ?_
  intro g58
  refine H7 rfl rfl rfl rfl (by (simp; done)) (by simp) (by decide) rfl rfl rfl rfl (of_decide_eq_true rfl) (fun _ => ⟨rfl, rfl⟩) (by simp only [G8]; (simp only [List.length_nil, List.length_cons, List.length_append, Nat.zero_add, List.length_map]; omega)) (fun _ => rfl) ?_
  intro g59
  refine E9 rfl rfl (of_decide_eq_true rfl) rfl rfl <| Q3 rfl rfl rfl rfl rfl (Nat.le_refl _) rfl ?_
  refine A6 ⟨nofun, _, kS [2,7,8,11] [2,8,1000059] rfl, ?_⟩
  refine A0 <| A5 rfl rfl <| A3 rfl rfl rfl ?_
  refine A6 ⟨nofun, _, kS [2,7,8,9] [2,8,1000059] rfl, ?_⟩
  refine A0 <| A5 rfl rfl <| a0x rfl rfl (G2 (by omega)) <| A3 rfl rfl rfl ?_
  refine A6 ⟨nofun, _, kS [2,7,8,9] [2,8,1000059] rfl, ?_⟩
  refine L9 <| A4 <| A4 <| A0 <| A5 rfl rfl <| V3 rfl rfl ?_
  refine A6 ⟨nofun, _, kS [2,7,8,9,43] [2,8,1000059] rfl, ?_⟩
  refine A8 rfl (fun hc => absurd hc (by decide)) (fun hc => ?_)
  refine K6 <| A4 <| A0 <| G4 rfl rfl rfl rfl rfl <| A5 rfl rfl <| K2 rfl rfl rfl rfl (N6 rfl (N6 rfl (b0c (by decide) (by decide) rfl (by simp) fun _ => a0i))) (fun _ => rfl) ⟨by decide, rfl, of_decide_eq_true rfl, Nat.le_refl _⟩ (fun _ => rfl) (fun _ => rfl) (fun _ => D6 (by rfl) (D6 (B5 (B0 fun _ => rfl)) (by rfl))) ?_
  intro z
  simp only [T4, List.cons_append, List.nil_append]
  refine A3 rfl rfl rfl <| A3 rfl rfl rfl ?_
  refine A6 ⟨nofun, _, kS [2,3,4] [2,300002] rfl, ?_⟩
  refine B3 <| D8 (G9 rfl rfl rfl rfl (H0 rfl (H3 rfl (a2k rfl rfl (by simp) (fun _ => rfl) K0))) (D9 rfl rfl (D9 rfl rfl (F0 C6)))) ?_
  rw [a4i hnn hn, hr1, Option.bind_some, hr2]
  rfl

theorem keep_s_readPlan : G1 Tryd.f23 = [0, 2, 3, 4, 17, 6, 7, 5, 21] := by kernel_rfl
set_option maxHeartbeats 20000000 in
theorem c0m (s : List UInt8) (hs : s.length ≤ 1048576) : CW (cxT oG) 23 [tV s] = some (.tup [trV (rpT s), bV (rdPlan s).isSome], []) := by
 obtain ⟨ws, hws⟩ : ∃ ws, ws = splitB 32 s := ⟨_, rfl⟩
 have hwl := S5 32 s
 have hwp := X7 32 s
 rw [← hws] at hwl hwp
 refine G6 rfl Tryd.func23 rfl ⟨by kernel_rfl, rfl, of_decide_eq_true rfl, of_decide_eq_true rfl, by decide⟩ keep_s_readPlan <| A4 <| A0 <| H2 rfl (fun _ => C0 rfl) (fun _ => rfl) ?_
 intro g2
 refine A3 rfl rfl rfl ?_
 refine A6 ⟨nofun, _, kS [0,2] [2] rfl, ?_⟩
 refine A4 <| A0 <| A5 rfl rfl ?_
 apply C4 rfl
 ·apply A9
  ·exact B4 rfl
  apply A9
  ·exact B4 rfl
  exact C3
 ·exact b3q s (by omega) 32
 ·exact ⟨rfl, rfl, rfl, of_decide_eq_true rfl, rfl⟩
 ·exact .inl rfl
 ·exact B1
 ·exact Y2
 ·exact fun _ => rfl
 intro g9
 rw [← hws]
 try simp only [List.length_map]
 (refine C1 rfl rfl (by (simp; done)) rfl (fun _ => (B5 (by exact B0 fun _ => rfl))) (fun _ => rfl) ?_; intro g4)
 refine A6 ⟨nofun, _, kS [0,2,4] [2,4] rfl, ?_⟩
 refine A4 <| A4 <| A0 <| A5 rfl rfl <| a0c rfl rfl <| V3 rfl rfl <| A5 rfl rfl ?_
 refine D5 rfl rfl (fun hg0 => ?_) (fun hg0 => ?_)
 ·have hg := hg0; try simp only [SG] at hg
  refine A5 rfl rfl <| gT rfl rfl <| V2 rfl rfl <| gT rfl rfl <| V3 rfl rfl <| G3 rfl (by assumption) rfl rfl ?_
  refine A6 ⟨nofun, _, kS [2,4,17] [2,4] rfl, ?_⟩
  refine A8 rfl (fun hc => ?_) (fun hc => ?_)
  ·try simp only [SG, List.length_map] at hc
   refine A4 <| A0 <| K7 (fs := [_, _, _]) rfl rfl rfl rfl rfl <| C5 rfl rfl rfl rfl ⟨by decide, rfl, of_decide_eq_true rfl, of_decide_eq_true rfl, rfl⟩ rfl (by exact C0 rfl) <| A3 rfl rfl rfl ?_
   refine A6 ⟨nofun, _, kS [2,3] [2] rfl, ?_⟩
   refine B3 <| D8 (G9 rfl rfl rfl rfl (H0 rfl (H3 rfl (H3 rfl K0))) (D9 rfl rfl (F0 C6))) ?_
   obtain ⟨h1, h2⟩ := b0y (s := s) (by rw [hws] at *; omega)
   rw [h1, h2]
   rfl
  try simp only [SG, List.length_map] at hc
  have hin := c5l hws (by omega)
  refine B9 <| A4 <| A0 <| A5 rfl rfl ?_
  rcases hr : rdT ws with _ | ⟨t, r⟩
  ·skip
   apply C4 rfl
   ·apply A9
    ·exact H9 rfl rfl (by (simp; done)) (fun _ => rfl)
    exact C3
   ·exact (by have hi := b0m (oG := oG) ws ⟨by omega, fun w hw => by have := hwp w hw; omega⟩; rw [hr] at hi; exact hi)
   ·exact ⟨rfl, rfl, rfl, of_decide_eq_true rfl, rfl⟩
   ·exact .inl rfl
   ·exact B1
   ·exact J4 (J3 rfl (S1 fun _ => J3 rfl R9))
   ·exact fun _ => D6 (a4l (B0 fun _ => rfl) (by decide)) (by rfl)
   intro g21
   refine A5 rfl rfl <| B2 rfl rfl rfl <| B2 rfl rfl rfl <| B2 rfl rfl rfl <| H2 rfl (fun _ => C0 rfl) (fun _ => rfl) ?_
   intro g5
   refine C5 rfl rfl rfl rfl ⟨by decide, rfl, of_decide_eq_true rfl, of_decide_eq_true rfl, rfl⟩ rfl (by exact C0 rfl) ?_
   (refine C1 rfl rfl (by (simp; done)) rfl (fun _ => (B5 (by rfl))) (fun _ => rfl) ?_; intro g6)
   refine A3 rfl rfl rfl ?_
   refine A6 ⟨nofun, _, kS [2,5,6,7] [2,5] rfl, ?_⟩
   refine A4 <| A0 <| G4 rfl rfl rfl rfl rfl <| A5 rfl rfl <| A5 rfl rfl <| G5 rfl rfl rfl <| G5 rfl rfl rfl <| G5 rfl rfl rfl <| G3 rfl rfl rfl rfl <| C5 rfl rfl rfl rfl ⟨by decide, rfl, of_decide_eq_true rfl, of_decide_eq_true rfl, rfl⟩ rfl (by exact C0 rfl) <| A3 rfl rfl rfl ?_
   refine A6 ⟨nofun, _, kS [2,3] [2] rfl, ?_⟩
   refine B3 <| D8 (G9 rfl rfl rfl rfl (H0 rfl (H0 rfl (H0 rfl K0))) (D9 rfl rfl (F0 C6))) ?_
   obtain ⟨h1, h2⟩ := hin.1 hr
   rw [h1, h2]
   rfl
  skip
  apply C4 rfl
  ·apply A9
   ·exact H9 rfl rfl (by (simp; done)) (fun _ => rfl)
   exact C3
  ·exact (by have hi := b0m (oG := oG) ws ⟨by omega, fun w hw => by have := hwp w hw; omega⟩; rw [hr] at hi; exact hi)
  ·exact ⟨rfl, rfl, rfl, of_decide_eq_true rfl, rfl⟩
  ·exact .inl rfl
  ·exact B1
  ·exact K4 rfl
  ·exact fun _ => D6 (a4l (B0 fun _ => rfl) (by decide)) (by rfl)
  intro g21
  refine A5 rfl rfl <| B2 rfl rfl rfl <| B2 rfl rfl rfl <| B2 rfl rfl rfl <| H2 rfl (fun _ => C0 rfl) (fun _ => rfl) ?_
  intro g5
  refine C5 rfl rfl rfl rfl ⟨by decide, rfl, of_decide_eq_true rfl, of_decide_eq_true rfl, rfl⟩ rfl (by exact C0 rfl) <| A3 rfl rfl rfl <| A3 rfl rfl rfl ?_
  refine A6 ⟨nofun, _, kS [2,5,6,7] [2,5] rfl, ?_⟩
  refine A4 <| A0 <| G4 rfl rfl rfl rfl rfl <| A5 rfl rfl <| A5 rfl rfl <| T9 rfl rfl rfl <| A5 rfl rfl <| T9 rfl rfl rfl <| H8 rfl rfl <| T9 rfl rfl rfl <| T3 rfl rfl <| F4 rfl rfl rfl rfl <| C5 rfl rfl rfl rfl ⟨by decide, rfl, of_decide_eq_true rfl, of_decide_eq_true rfl, rfl⟩ rfl (by exact C0 rfl) <| A3 rfl rfl rfl ?_
  refine A6 ⟨nofun, _, kS [2,3] [2] rfl, ?_⟩
  refine B3 <| D8 (G9 rfl rfl rfl rfl (H0 rfl (H0 rfl (H0 rfl K0))) (D9 rfl rfl (F0 C6))) ?_
  obtain ⟨h1, h2⟩ := hin.2 t r hr
  rw [h1, h2]
  rfl
 have hg := hg0; try simp only [SG] at hg
 refine gF rfl rfl <| gF rfl rfl <| F4 rfl (by assumption) rfl rfl ?_
 refine A6 ⟨nofun, _, kS [2,4,17] [2,4] rfl, ?_⟩
 refine A8 rfl (fun hc => ?_) (fun hc => absurd hc (by decide))
 refine A4 <| A0 <| K7 (fs := [_, _, _]) rfl rfl rfl rfl rfl <| C5 rfl rfl rfl rfl ⟨by decide, rfl, of_decide_eq_true rfl, of_decide_eq_true rfl, rfl⟩ rfl (by exact C0 rfl) <| A3 rfl rfl rfl ?_
 refine A6 ⟨nofun, _, kS [2,3] [2] rfl, ?_⟩
 refine B3 <| D8 (G9 rfl rfl rfl rfl (H0 rfl (H3 rfl (H3 rfl K0))) (D9 rfl rfl (F0 C6))) ?_
 obtain ⟨h1, h2⟩ := b0y (s := s) (by rw [hws] at *; omega)
 rw [h1, h2]
 rfl

theorem keep_s_numbers : G1 Tryd.f54 = [0, 2, 8, 7, 9, 6, 5, 3] := by kernel_rfl
set_option maxHeartbeats 20000000 in
theorem c3y (ns : List Int) (hl : ns.length ≤ 1000000) (hnb : ∀ n ∈ ns, -1000000 ≤ n ∧ n ≤ 1000000) : CW (cxT oG) 54 [L ns] = some (tV (N3 ns), []) := by
 have hg := fun (i : Nat) (h : i < ns.length) => hnb _ (a1j h)
 have hll := Z8 (ns := ns) hnb
 refine G6 rfl Tryd.func54 rfl ⟨by kernel_rfl, rfl, of_decide_eq_true rfl, of_decide_eq_true rfl, by decide⟩ keep_s_numbers <| A4 <| A0 <| A3 rfl rfl rfl ?_
 refine A6 ⟨nofun, _, kS [0] [] rfl, ?_⟩
 refine A4 <| A0 ?_
 (refine B8 rfl rfl (fun _ => rfl) ?_; intro g3)
 refine A6 ⟨nofun, _, kS [0,3] [3] rfl, ?_⟩
 refine A4 <| A4 <| A0 <| A5 rfl rfl <| H8 rfl rfl <| A5 rfl rfl ?_
 refine A6 ⟨nofun, _, kS [3,6,7,8] [3] rfl, ?_⟩
 refine E7 <| N7 (β := Nat × List (List UInt8) × Nat) [(.t 6, _), (.t 7, _)] (fun (z : Nat × List (List UInt8) × Nat) => match z with | (i, ps, g) => [(.t 8, iV i), (.t 3, .sl 3 g none 0 ps.length), (.h 3, .obj g 0 1 (ps.map tV))]) (fun (z : Nat × List (List UInt8) × Nat) => match z with | (i, ps, g) => i ≤ ns.length ∧ ps = (ns.take i).map dec) (fun (z : Nat × List (List UInt8) × Nat) => match z with | (i, ps, g) => ns.length - i) (0, [], _) ⟨rfl, rfl, rfl, rfl, rfl, trivial⟩ ⟨Nat.zero_le _, rfl⟩ ?_
 intro z hb
 obtain ⟨i, ps, g⟩ := z
 try dsimp only at hb
 obtain ⟨hi1, hps⟩ := hb
 have hpl : ps.length = i := by rw [hps]; simp; omega
 refine A4 <| A0 <| M1 rfl rfl ?_
 refine A6 ⟨nofun, _, kS [3,6,7,8,9] [3] rfl, ?_⟩
 refine A4 ?_
 refine A8 rfl (fun hc => ?_) (fun hc => ?_)
 ·try simp only [SG, List.length_map] at hc
  refine B9 <| A4 <| E7 <| A4 <| A0 <| J0 rfl rfl rfl (fun _ => rfl) (by omega) <| H1 rfl rfl rfl <| A3 rfl rfl rfl ?_
  refine A6 ⟨nofun, _, kS [3,5,6,7,8] [3] rfl, ?_⟩
  refine A0 <| A5 rfl rfl <| A5 rfl rfl ?_
  have hgi := hg i (by omega)
  apply C4 rfl
  ·apply A9
   ·exact B4 rfl
   exact C3
  ·exact d2f (ns.getD i default) (by omega)
  ·exact ⟨rfl, rfl, rfl, of_decide_eq_true rfl, rfl⟩
  ·exact .inl rfl
  ·exact B1
  ·exact B7 rfl
  ·exact fun _ => rfl
  intro g14
  refine D7 (es := List.map tV [_]) rfl rfl (of_decide_eq_true rfl) rfl rfl (fun _ => B5 (B0 fun _ => rfl)) (fun _ => rfl) ?_
  intro g15
  refine H7 rfl rfl rfl rfl (by (simp; done)) (by simp) (by decide) rfl rfl rfl rfl (of_decide_eq_true rfl) (fun _ => ⟨rfl, rfl⟩) (by simp only [G8]; (simp only [List.length_nil, List.length_cons, List.length_append, Nat.zero_add, List.length_map]; omega)) (fun _ => rfl) ?_
  intro g16
  (refine C1 rfl rfl (by (simp; done)) rfl (fun _ => (B5 (by exact B0 fun _ => rfl))) (fun _ => rfl) ?_; intro g3)
  refine A6 ⟨nofun, _, kS [3,6,7,8] [3] rfl, ?_⟩
  refine A0 <| L5 rfl rfl (G2 (by omega)) <| A5 rfl rfl ?_
  refine A6 ⟨nofun, _, kS [3,6,7,8] [3] rfl, ?_⟩
  refine ⟨(i + 1, ps ++ [dec (ns.getD i default)], _), ?_, (by simp only; omega), ⟨rfl, rfl, rfl, rfl, rfl, trivial⟩⟩
  exact ⟨by omega, by rw [hps, ← b3d (by omega)]⟩
 try simp only [SG, List.length_map] at hc
 refine K6 <| A4 <| A0 <| A5 rfl rfl ?_
 have hpe : ps = ns.map dec := by rw [hps, List.take_of_length_le (by omega)]
 have hje : joinB 44 ps = N3 ns := by rw [hpe]; rfl
 apply C4 rfl
 ·apply A9
  ·exact T5 rfl rfl rfl (by (simp; done)) (fun _ => rfl)
  apply A9
  ·exact B4 rfl
  exact C3
 ·exact d2v ps 44 (by simp only [G8]; omega) (by rw [hje]; simp only [G8]; omega)
 ·exact ⟨rfl, rfl, rfl, of_decide_eq_true rfl, rfl⟩
 ·exact .inr ⟨rfl, rfl⟩
 ·exact B1
 ·exact B7 rfl
 ·exact fun _ => rfl
 intro g19
 refine A3 rfl rfl rfl ?_
 refine A6 ⟨nofun, _, kS [2] [] rfl, ?_⟩
 refine B3 <| D4 rfl rfl trivial ?_
 rw [hje]

theorem keep_s_listTextI : G1 Tryd.f42 = [0, 2] := by kernel_rfl
set_option maxHeartbeats 20000000 in
theorem a3z (ns : List Int) (hl : ns.length ≤ 1000000) (hnb : ∀ n ∈ ns, -1000000 ≤ n ∧ n ≤ 1000000) : CW (cxT oG) 42 [L ns] = some (tV (R8 ns), []) := by
 have hll := Z8 (ns := ns) hnb
 refine G6 rfl Tryd.func42 rfl ⟨by kernel_rfl, rfl, of_decide_eq_true rfl, of_decide_eq_true rfl, by decide⟩ keep_s_listTextI <| A4 <| A0 <| A3 rfl rfl rfl ?_
 refine A6 ⟨nofun, _, kS [0] [] rfl, ?_⟩
 refine A4 <| A0 <| A5 rfl rfl ?_
 apply C4 rfl
 ·apply A9
  ·exact B4 rfl
  exact C3
 ·exact c3y ns hl hnb
 ·exact ⟨rfl, rfl, rfl, of_decide_eq_true rfl, rfl⟩
 ·exact .inl rfl
 ·exact B1
 ·exact B7 rfl
 ·exact fun _ => rfl
 intro g4
 refine K1 rfl rfl (by simp only [G8, List.length_append, List.length_cons, List.length_nil]; omega) <| K1 rfl rfl (by simp only [G8, List.length_append, List.length_cons, List.length_nil]; omega) <| A3 rfl rfl rfl ?_
 refine A6 ⟨nofun, _, kS [2] [] rfl, ?_⟩
 refine B3 <| D4 rfl rfl trivial ?_
 rfl

theorem keep_s_readListI : G1 Tryd.f72 = [0, 2, 3, 4, 6, 5, 27, 29, 33, 32, 34, 31, 9, 11, 43, 10, 7] := by kernel_rfl
set_option maxHeartbeats 20000000 in
theorem b9y (w : List UInt8) (hs : w.length ≤ 1048576) : CW (cxT oG) 72 [tV w] = some (.tup [.own 1 ((rlX w).map iV), bV (okI w)], []) := by
 have hc1 := c8c 91 w
 have hc2 := c8a 93 (a2u 91 w)
 refine G6 rfl Tryd.func72 rfl ⟨by kernel_rfl, rfl, of_decide_eq_true rfl, of_decide_eq_true rfl, by decide⟩ keep_s_readListI <| A4 <| A0 ?_
 (refine B8 rfl rfl (fun _ => rfl) ?_; intro g2)
 refine A3 rfl rfl rfl ?_
 refine A6 ⟨nofun, _, kS [0] [] rfl, ?_⟩
 refine A4 <| A0 <| A5 rfl rfl ?_
 apply C4 rfl
 ·apply A9
  ·exact B4 rfl
  apply A9
  ·exact B4 rfl
  exact C3
 ·exact d2e w 91
 ·exact ⟨rfl, rfl, rfl, of_decide_eq_true rfl, rfl⟩
 ·exact .inl rfl
 ·exact B1
 ·exact K4 rfl
 ·exact fun _ => rfl
 intro g14
 refine A5 rfl rfl <| B2 rfl rfl rfl <| B2 rfl rfl rfl <| A3 rfl rfl rfl <| A3 rfl rfl rfl ?_
 refine A6 ⟨nofun, _, kS [0,4,5] [] rfl, ?_⟩
 refine A4 <| A0 <| A5 rfl rfl ?_
 apply C4 rfl
 ·apply A9
  ·exact B4 rfl
  apply A9
  ·exact B4 rfl
  exact C3
 ·exact d2s (a2u 91 w) 93 (by omega)
 ·exact ⟨rfl, rfl, rfl, of_decide_eq_true rfl, rfl⟩
 ·exact .inl rfl
 ·exact B1
 ·exact K4 rfl
 ·exact fun _ => rfl
 intro g19
 refine A5 rfl rfl <| B2 rfl rfl rfl <| B2 rfl rfl rfl <| A3 rfl rfl rfl <| A3 rfl rfl rfl ?_
 refine A6 ⟨nofun, _, kS [0,4,5,6] [] rfl, ?_⟩
 refine A4 <| A4 <| A0 <| A5 rfl rfl <| P2 rfl <| A5 rfl rfl ?_
 refine D5 rfl rfl (fun hg0 => ?_) (fun hg0 => ?_)
 ·have hg := hg0; try simp only [SG] at hg
  refine A5 rfl rfl <| gT rfl rfl <| P2 rfl <| G3 rfl (by assumption) rfl rfl ?_
  refine A6 ⟨nofun, _, kS [0,4,27] [] rfl, ?_⟩
  refine A8 rfl (fun hc => ?_) (fun hc => ?_)
  ·try simp only [SG, List.length_map] at hc
   refine A4 <| A0 ?_
   (refine B8 rfl rfl (fun _ => rfl) ?_; intro g2)
   refine A3 rfl rfl rfl ?_
   refine A6 ⟨nofun, _, kS [2,3] [2] rfl, ?_⟩
   refine B3 <| D8 (G7 rfl rfl (by simp) (by rfl) (D9 rfl rfl (F0 C6))) ?_
   obtain ⟨h1, h2⟩ := b6f (b7c (w := w) (by simp_all [okB]))
   rw [h1, h2]
   rfl
  try simp only [SG, List.length_map] at hc
  have hok : okB w = true := by simp [okB]; constructor <;> assumption
  obtain ⟨ps, hps0⟩ : ∃ ps, ps = splitB 44 (a3m w) := ⟨_, rfl⟩
  have hpl := S5 44 (a3m w)
  have hpp := X7 44 (a3m w)
  rw [← hps0] at hpl hpp
  have hil := c9e hok
  refine B9 <| A4 <| A0 ?_
  (refine B8 rfl rfl (fun _ => rfl) ?_; intro g7)
  refine A6 ⟨nofun, _, kS [0,4,7] [7] rfl, ?_⟩
  refine A4 <| A4 <| A0 <| A5 rfl rfl <| b4p rfl rfl ?_
  refine A6 ⟨nofun, _, kS [0,4,7,29] [7] rfl, ?_⟩
  refine A8 rfl (fun hc => ?_) (fun hc => ?_)
  ·try simp only [SG, List.length_map] at hc
   have hin : a3m w ≠ [] := hc
   refine A4 <| A0 <| A5 rfl rfl ?_
   have hps := hps0
   apply C4 rfl
   ·apply A9
    ·exact B4 rfl
    apply A9
    ·exact B4 rfl
    exact C3
   ·exact c3m (a3m w) 44 (by unfold a3m; omega)
   ·exact ⟨rfl, rfl, rfl, of_decide_eq_true rfl, rfl⟩
   ·exact .inl rfl
   ·exact B1
   ·exact Y2
   ·(intro _; exact D6 (B5 (B0 fun _ => rfl)) rfl)
   intro g31
   rw [← hps]
   try simp only [List.length_map]
   refine V2 rfl rfl <| A5 rfl rfl ?_
   refine A6 ⟨nofun, _, kS [0,7,31,32,33] [7,1000031] rfl, ?_⟩
   refine E7 <| N7 (β := Nat × List Int × Nat) [(.t 0, _), (.t 31, _), (.t 32, _), (.h 1000031, _)] (fun (z : Nat × List Int × Nat) => match z with | (i, ns, g) => [(.t 33, iV i), (.t 7, .sl 7 g none 0 ns.length), (.h 7, .obj g 0 1 (ns.map iV))]) (fun (z : Nat × List Int × Nat) => match z with | (i, ns, g) => i ≤ ps.length ∧ rdA (ps.take i) = some ns) (fun (z : Nat × List Int × Nat) => match z with | (i, ns, g) => ps.length - i) (0, [], _) ⟨rfl, rfl, rfl, rfl, rfl, rfl, rfl, trivial⟩ ⟨Nat.zero_le _, rfl⟩ ?_
   intro z hb
   obtain ⟨i, ns, g⟩ := z
   try dsimp only at hb
   obtain ⟨hi1, hrd⟩ := hb
   have hpi := fun h : i < ps.length => hpp _ (Z6 h)
   have hnl := b0s hrd
   rw [List.length_take] at hnl
   refine A4 <| A0 <| M1 rfl rfl ?_
   refine A6 ⟨nofun, _, kS [0,7,31,32,33,34] [7,1000031] rfl, ?_⟩
   refine A4 ?_
   refine A8 rfl (fun hc => ?_) (fun hc => ?_)
   ·try simp only [SG, List.length_map] at hc
    refine B9 <| A4 <| E7 <| A4 <| A0 <| Y0 rfl rfl rfl rfl (by omega) (by (simp; done)) rfl <| X1 rfl rfl (by omega) (fun _ => rfl) (fun _ => rfl) rfl <| A3 rfl rfl rfl ?_
    refine A6 ⟨nofun, _, kS [0,7,9,31,32,33] [7,1000031] rfl, ?_⟩
    refine A4 <| A0 <| A5 rfl rfl ?_
    rcases hat : Lib.atoiAll (ps.getD i default) with v | _ | _
    ·skip
     apply C4 rfl
     ·apply A9
      ·exact B4 rfl
      exact C3
     ·exact (by have hi := c1i (oG := oG) (ps.getD i default) (by omega); unfold atR at hi; rw [hat] at hi; exact hi)
     ·exact ⟨rfl, rfl, rfl, of_decide_eq_true rfl, rfl⟩
     ·exact .inl rfl
     ·exact B1
     ·exact K4 rfl
     ·exact fun _ => rfl
     intro g39
     refine A5 rfl rfl <| B2 rfl rfl rfl <| B2 rfl rfl rfl <| A3 rfl rfl rfl <| A3 rfl rfl rfl ?_
     refine A6 ⟨nofun, _, kS [0,7,10,11,31,32,33] [7,1000031] rfl, ?_⟩
     refine A4 <| A4 <| A0 <| A5 rfl rfl <| c6b rfl rfl rfl rfl ?_
     refine A6 ⟨nofun, _, kS [0,7,10,31,32,33,43] [7,1000031] rfl, ?_⟩
     refine A8 rfl (fun hc => absurd hc (by decide)) (fun hc => ?_)
     refine B9 <| A0 <| A5 rfl rfl <| A5 rfl rfl <| D7 (es := List.map iV [_]) rfl rfl (of_decide_eq_true rfl) rfl rfl (fun _ => B5 (B0 fun _ => rfl)) (fun _ => rfl) ?_
     intro g46
     refine H7 rfl rfl rfl rfl (by (simp; done)) (by simp) (by decide) rfl rfl rfl rfl (of_decide_eq_true rfl) (fun _ => ⟨rfl, rfl⟩) (by simp only [G8]; (simp only [List.length_nil, List.length_cons, List.length_append, Nat.zero_add, List.length_map]; omega)) (fun _ => rfl) ?_
     intro g47
     (refine C1 rfl rfl (by (simp; done)) rfl (fun _ => (B5 (by exact B0 fun _ => rfl))) (fun _ => rfl) ?_; intro g7)
     refine A6 ⟨nofun, _, kS [0,7,31,32,33] [7,1000031] rfl, ?_⟩
     refine A0 <| L5 rfl rfl (G2 (by omega)) <| A5 rfl rfl ?_
     refine A6 ⟨nofun, _, kS [0,7,31,32,33] [7,1000031] rfl, ?_⟩
     refine ⟨(i + 1, ns ++ [v], _), ?_, (by simp only; omega), ⟨rfl, rfl, rfl, rfl, rfl, rfl, rfl, trivial⟩⟩
     exact ⟨by omega, c7i (by omega) hrd hat⟩
    ·skip
     apply C4 rfl
     ·apply A9
      ·exact B4 rfl
      exact C3
     ·exact (by have hi := c1i (oG := oG) (ps.getD i default) (by omega); unfold atR at hi; rw [hat] at hi; exact hi)
     ·exact ⟨rfl, rfl, rfl, of_decide_eq_true rfl, rfl⟩
     ·exact .inl rfl
     ·exact B1
     ·exact K4 rfl
     ·exact fun _ => rfl
     intro g39
     refine A5 rfl rfl <| B2 rfl rfl rfl <| B2 rfl rfl rfl <| A3 rfl rfl rfl <| A3 rfl rfl rfl ?_
     refine A6 ⟨nofun, _, kS [0,7,10,11,31,32,33] [7,1000031] rfl, ?_⟩
     refine A4 <| A4 <| A0 <| A5 rfl rfl <| b6t rfl rfl rfl ?_
     refine A6 ⟨nofun, _, kS [0,7,10,31,32,33,43] [7,1000031] rfl, ?_⟩
     refine A8 rfl (fun hc => ?_) (fun hc => absurd hc (by decide))
     refine A4 <| A0 ?_
     (refine B8 rfl rfl (fun _ => rfl) ?_; intro g2)
     refine A3 rfl rfl rfl ?_
     refine A6 ⟨nofun, _, kS [2,3] [2] rfl, ?_⟩
     refine B3 <| D8 (G7 rfl rfl (by simp) (by rfl) (D9 rfl rfl (F0 C6))) ?_
     obtain ⟨h1, h2⟩ := b6f (w := w) (by rw [a9t hok hin, ← hps0]; exact b8t (i := i) (by omega) (by intro v hv; rw [hat] at hv; cases hv))
     rw [h1, h2]
     rfl
    skip
    apply C4 rfl
    ·apply A9
     ·exact B4 rfl
     exact C3
    ·exact (by have hi := c1i (oG := oG) (ps.getD i default) (by omega); unfold atR at hi; rw [hat] at hi; exact hi)
    ·exact ⟨rfl, rfl, rfl, of_decide_eq_true rfl, rfl⟩
    ·exact .inl rfl
    ·exact B1
    ·exact K4 rfl
    ·exact fun _ => rfl
    intro g39
    refine A5 rfl rfl <| B2 rfl rfl rfl <| B2 rfl rfl rfl <| A3 rfl rfl rfl <| A3 rfl rfl rfl ?_
    refine A6 ⟨nofun, _, kS [0,7,10,11,31,32,33] [7,1000031] rfl, ?_⟩
    refine A4 <| A4 <| A0 <| A5 rfl rfl <| b6t rfl rfl rfl ?_
    refine A6 ⟨nofun, _, kS [0,7,10,31,32,33,43] [7,1000031] rfl, ?_⟩
    refine A8 rfl (fun hc => ?_) (fun hc => absurd hc (by decide))
    refine A4 <| A0 ?_
    (refine B8 rfl rfl (fun _ => rfl) ?_; intro g2)
    refine A3 rfl rfl rfl ?_
    refine A6 ⟨nofun, _, kS [2,3] [2] rfl, ?_⟩
    refine B3 <| D8 (G7 rfl rfl (by simp) (by rfl) (D9 rfl rfl (F0 C6))) ?_
    obtain ⟨h1, h2⟩ := b6f (w := w) (by rw [a9t hok hin, ← hps0]; exact b8t (i := i) (by omega) (by intro v hv; rw [hat] at hv; cases hv))
    rw [h1, h2]
    rfl
   try simp only [SG, List.length_map] at hc
   refine K6 <| A4 <| A0 <| A5 rfl rfl <| A5 rfl rfl ?_
   apply C4 rfl
   ·apply A9
    ·exact T5 rfl rfl rfl (by (simp; done)) (fun _ => rfl)
    exact C3
   ·exact a5w ns (by omega)
   ·exact ⟨rfl, rfl, rfl, of_decide_eq_true rfl, rfl⟩
   ·exact .inr ⟨rfl, rfl⟩
   ·exact B1
   ·exact B7 rfl
   ·exact fun _ => rfl
   intro g51
   refine A5 rfl rfl ?_
   refine D5 rfl rfl (fun hg0 => ?_) (fun hg0 => ?_)
   ·have hg := hg0; try simp only [SG] at hg
    refine A5 rfl rfl <| gT rfl rfl ?_
    (have hnb := d1s (ns := ns) (by assumption); have hvl := c8m (show vd ns = true by assumption))
    apply C4 rfl
    ·apply A9
     ·exact T5 rfl rfl rfl (by (simp; done)) (fun _ => rfl)
     exact C3
    ·exact a3z ns (by omega) hnb
    ·exact ⟨rfl, rfl, rfl, of_decide_eq_true rfl, rfl⟩
    ·exact .inr ⟨rfl, rfl⟩
    ·exact B1
    ·exact B7 rfl
    ·exact fun _ => rfl
    intro g54
    refine gT rfl rfl <| A5 rfl rfl <| gT rfl rfl <| b4r rfl rfl <| F4 rfl (by assumption) rfl rfl ?_
    (refine C1 rfl rfl (by (simp; done)) rfl (fun _ => (B5 (by exact B0 fun _ => rfl))) (fun _ => rfl) ?_; intro g2)
    refine A3 rfl rfl rfl ?_
    refine A6 ⟨nofun, _, kS [2,3] [2] rfl, ?_⟩
    refine B3 <| D8 (G7 rfl rfl (by simp) (by exact B0 fun _ => rfl) (D9 rfl rfl (F0 C6))) ?_
    (have hx := hin; obtain ⟨h1, h2⟩ := a6g (ns := ns) (w := w) (by rw [a9t hok hx, ← hps0]; rw [List.take_of_length_le (by omega)] at hrd; exact hrd))
    (rw [h1, h2, hg, Bool.true_and]; rfl)
   have hg := hg0; try simp only [SG] at hg
   refine gF rfl rfl <| gF rfl rfl <| gF rfl rfl <| G3 rfl (by assumption) rfl rfl ?_
   (refine C1 rfl rfl (by (simp; done)) rfl (fun _ => (B5 (by exact B0 fun _ => rfl))) (fun _ => rfl) ?_; intro g2)
   refine A3 rfl rfl rfl ?_
   refine A6 ⟨nofun, _, kS [2,3] [2] rfl, ?_⟩
   refine B3 <| D8 (G7 rfl rfl (by simp) (by exact B0 fun _ => rfl) (D9 rfl rfl (F0 C6))) ?_
   (have hx := hin; obtain ⟨h1, h2⟩ := a6g (ns := ns) (w := w) (by rw [a9t hok hx, ← hps0]; rw [List.take_of_length_le (by omega)] at hrd; exact hrd))
   (rw [h1, h2, hg, Bool.false_and]; rfl)
  try simp only [SG, List.length_map] at hc
  have hie : a3m w = [] := hc
  refine B9 <| A4 <| A0 <| A5 rfl rfl <| A5 rfl rfl ?_
  apply C4 rfl
  ·apply A9
   ·exact b6e rfl rfl rfl rfl rfl
   exact C3
  ·exact a5w [] (by decide)
  ·exact ⟨rfl, rfl, rfl, of_decide_eq_true rfl, rfl⟩
  ·exact .inr ⟨rfl, rfl⟩
  ·exact B1
  ·exact B7 rfl
  ·exact fun _ => rfl
  intro g51
  refine A5 rfl rfl ?_
  refine D5 rfl rfl (fun hg0 => ?_) (fun hg0 => ?_)
  ·have hg := hg0; try simp only [SG] at hg
   refine A5 rfl rfl <| gT rfl rfl ?_
   skip
   apply C4 rfl
   ·apply A9
    ·exact b6e rfl rfl rfl rfl rfl
    exact C3
   ·exact a3z [] (by decide) (by simp)
   ·exact ⟨rfl, rfl, rfl, of_decide_eq_true rfl, rfl⟩
   ·exact .inr ⟨rfl, rfl⟩
   ·exact B1
   ·exact B7 rfl
   ·exact fun _ => rfl
   intro g54
   refine gT rfl rfl <| A5 rfl rfl <| gT rfl rfl <| b4r rfl rfl <| F4 rfl rfl rfl rfl ?_
   (refine C1 rfl rfl (by (simp; done)) rfl (fun _ => (B5 (by rfl))) (fun _ => rfl) ?_; intro g2)
   refine A3 rfl rfl rfl ?_
   refine A6 ⟨nofun, _, kS [2,3] [2] rfl, ?_⟩
   refine B3 <| D8 (G7 rfl rfl (by simp) (by rfl) (D9 rfl rfl (F0 C6))) ?_
   obtain ⟨h1, h2⟩ := a6g (ns := []) (w := w) (c2u hok hie)
   (rw [h1, h2, hg, Bool.true_and]; rfl)
  have hg := hg0; try simp only [SG] at hg
  refine gF rfl rfl <| gF rfl rfl <| gF rfl rfl <| G3 rfl (by assumption) rfl rfl ?_
  (refine C1 rfl rfl (by (simp; done)) rfl (fun _ => (B5 (by rfl))) (fun _ => rfl) ?_; intro g2)
  refine A3 rfl rfl rfl ?_
  refine A6 ⟨nofun, _, kS [2,3] [2] rfl, ?_⟩
  refine B3 <| D8 (G7 rfl rfl (by simp) (by rfl) (D9 rfl rfl (F0 C6))) ?_
  obtain ⟨h1, h2⟩ := a6g (ns := []) (w := w) (c2u hok hie)
  (rw [h1, h2, hg, Bool.false_and]; rfl)
 have hg := hg0; try simp only [SG] at hg
 refine gF rfl rfl <| F4 rfl (by assumption) rfl rfl ?_
 refine A6 ⟨nofun, _, kS [0,4,27] [] rfl, ?_⟩
 refine A8 rfl (fun hc => ?_) (fun hc => absurd hc (by decide))
 refine A4 <| A0 ?_
 (refine B8 rfl rfl (fun _ => rfl) ?_; intro g2)
 refine A3 rfl rfl rfl ?_
 refine A6 ⟨nofun, _, kS [2,3] [2] rfl, ?_⟩
 refine B3 <| D8 (G7 rfl rfl (by simp) (by rfl) (D9 rfl rfl (F0 C6))) ?_
 obtain ⟨h1, h2⟩ := b6f (b7c (w := w) (by simp_all [okB]))
 rw [h1, h2]
 rfl

theorem keep_s_readWord : G1 Tryd.f63 = [0, 2, 3, 4, 6, 12, 5] := by kernel_rfl
set_option maxHeartbeats 20000000 in
theorem a0k (w : List UInt8) (hs : w.length ≤ 1048576) : CW (cxT oG) 63 [tV w] = some (.tup [tV (if (numsOf w).isSome = true then lW else w), .own 1 (((numsOf w).getD []).map iV), bV ((numsOf w).isSome || decide (0 ≤ rch (bA w)))], []) := by
 refine G6 rfl Tryd.func63 rfl ⟨by kernel_rfl, rfl, of_decide_eq_true rfl, of_decide_eq_true rfl, by decide⟩ keep_s_readWord <| A4 <| A0 <| A3 rfl rfl rfl ?_
 (refine B8 rfl rfl (fun _ => rfl) ?_; intro g3)
 refine A3 rfl rfl rfl ?_
 refine A6 ⟨nofun, _, kS [0] [] rfl, ?_⟩
 refine A4 <| A4 <| A0 <| A5 rfl rfl ?_
 apply C4 rfl
 ·apply A9
  ·exact B4 rfl
  exact C3
 ·exact (by have hi := b9y (oG := oG) w hs; rw [d2c] at hi; exact hi)
 ·exact ⟨rfl, rfl, rfl, of_decide_eq_true rfl, rfl⟩
 ·exact .inr ⟨a1w _ _, rfl⟩
 ·exact B1
 ·exact J4 (S1 fun _ => J3 rfl R9)
 ·exact fun _ => rfl
 intro g9
 simp only [List.length_map]
 refine A5 rfl rfl <| B2 rfl rfl rfl <| B2 rfl rfl rfl ?_
 (refine C1 rfl rfl (by (simp; done)) rfl (fun _ => (B5 (by exact B0 fun _ => rfl))) (fun _ => rfl) ?_; intro g5)
 refine A3 rfl rfl rfl ?_
 refine A6 ⟨nofun, _, kS [0,5,6] [5] rfl, ?_⟩
 refine A4 <| A0 <| A5 rfl rfl ?_
 refine A6 ⟨nofun, _, kS [0,5,12] [5] rfl, ?_⟩
 refine A8 rfl (fun hc => ?_) (fun hc => ?_)
 ·try simp only [SG, List.length_map] at hc
  obtain ⟨ns, hns⟩ := Option.isSome_iff_exists.1 hc
  have hraw := d3f hns
  refine A4 <| A0 <| A5 rfl rfl <| A3 rfl rfl rfl ?_
  (refine C1 rfl rfl (by (simp; done)) rfl (fun _ => (B5 (by exact B0 fun _ => rfl))) (fun _ => rfl) ?_; intro g3)
  refine A3 rfl rfl rfl ?_
  refine A6 ⟨nofun, _, kS [2,3,4] [3] rfl, ?_⟩
  refine B3 <| D8 (D9 rfl rfl (G7 rfl rfl (by simp) (by exact B0 fun _ => rfl) (D9 rfl rfl (F0 C6)))) ?_
  rw [hns, hraw]
  rfl
 try simp only [SG, List.length_map] at hc
 have hnn : numsOf w = none := by simpa using hc
 have hwo := d0g w
 refine B9 <| A4 <| A0 <| A5 rfl rfl <| A5 rfl rfl <| b4p rfl rfl <| A5 rfl rfl ?_
 refine D5 rfl rfl (fun hg0 => ?_) (fun hg0 => ?_)
 ·have hg := hg0; try simp only [SG] at hg
  refine A5 rfl rfl <| gT rfl rfl ?_
  apply C4 rfl
  ·apply A9
   ·exact B4 rfl
   exact C3
  ·exact a5y (bA w)
  ·exact ⟨rfl, rfl, rfl, of_decide_eq_true rfl, rfl⟩
  ·exact .inl rfl
  ·exact B1
  ·exact B7 rfl
  ·exact fun _ => rfl
  intro g19
  refine gT rfl rfl <| c9a rfl rfl <| F4 rfl (by assumption) rfl rfl <| A3 rfl rfl rfl ?_
  (refine B8 rfl rfl (fun _ => rfl) ?_; intro g3)
  refine A3 rfl rfl rfl ?_
  refine A6 ⟨nofun, _, kS [2,3,4] [3] rfl, ?_⟩
  refine B3 <| D8 (D9 rfl rfl (G7 rfl rfl (by simp) (by rfl) (D9 rfl rfl (F0 C6)))) ?_
  rw [hnn, ← hwo]
  simp_all
  try rfl
 have hg := hg0; try simp only [SG] at hg
 refine gF rfl rfl <| gF rfl rfl <| G3 rfl (by assumption) rfl rfl <| A3 rfl rfl rfl ?_
 (refine B8 rfl rfl (fun _ => rfl) ?_; intro g3)
 refine A3 rfl rfl rfl ?_
 refine A6 ⟨nofun, _, kS [2,3,4] [3] rfl, ?_⟩
 refine B3 <| D8 (D9 rfl rfl (G7 rfl rfl (by simp) (by rfl) (D9 rfl rfl (F0 C6)))) ?_
 rw [hnn, ← hwo]
 simp_all
 try rfl

theorem keep_s_readWords : G1 Tryd.f53 = [0, 2, 3, 4, 15, 7, 26, 6, 5, 35, 34, 36, 9, 12, 44, 8, 10, 11, 39, 50] := by kernel_rfl
set_option maxHeartbeats 20000000 in
theorem a8g (ws : List W8) (hws : ws.length ≤ 1048600 ∧ ∀ w ∈ ws, w.length ≤ 1048576) : CW (cxT oG) 53 [.list (ws.map tV)] = some (rtR (rdT ws), []) := by
 obtain ⟨kk, hkk⟩ : ∃ kk : Nat, ws.length < kk := ⟨_, Nat.lt_succ_self _⟩
 revert ws
 induction kk with
 | zero => intro ws hws hkk; exact absurd hkk (Nat.not_lt_zero _)
 | succ kk ih =>
  intro ws hws hkk
  refine G6 rfl Tryd.func53 rfl ⟨by kernel_rfl, rfl, of_decide_eq_true rfl, of_decide_eq_true rfl, by decide⟩ keep_s_readWords <| A4 <| A0 <| H2 rfl (fun _ => C0 rfl) (fun _ => rfl) ?_
  intro g2
  (refine B8 rfl rfl (fun _ => rfl) ?_; intro g3)
  refine A3 rfl rfl rfl ?_
  refine A6 ⟨nofun, _, kS [0,2] [2] rfl, ?_⟩
  refine A4 <| A4 <| A0 <| A5 rfl rfl <| H8 rfl rfl <| T3 rfl rfl ?_
  refine A6 ⟨nofun, _, kS [0,2,15] [2] rfl, ?_⟩
  refine A8 rfl (fun hc => ?_) (fun hc => ?_)
  ·try simp only [SG, List.length_map] at hc
   have hw0 : ws = [] := List.length_eq_zero_iff.1 (by simpa using hc)
   subst hw0
   refine A4 <| A0 <| K7 (fs := [_, _, _]) rfl rfl rfl rfl rfl <| C5 rfl rfl rfl rfl ⟨by decide, rfl, of_decide_eq_true rfl, of_decide_eq_true rfl, rfl⟩ rfl (by exact C0 rfl) ?_
   (refine B8 rfl rfl (fun _ => rfl) ?_; intro g3)
   refine A3 rfl rfl rfl ?_
   refine A6 ⟨nofun, _, kS [2,3,4] [2,3] rfl, ?_⟩
   refine B3 <| D8 (G9 rfl rfl rfl rfl (H0 rfl (H3 rfl (H3 rfl K0))) (G7 rfl rfl (by simp) (by rfl) (D9 rfl rfl (F0 C6)))) ?_
   rfl
  try simp only [SG, List.length_map] at hc
  obtain ⟨w, ws1, rfl⟩ : ∃ w ws1, ws = w :: ws1 := List.exists_cons_of_ne_nil (fun e => by subst e; simp at hc)
  have hw := hws.2 w (by simp)
  refine B9 <| A4 <| A0 <| A5 rfl rfl <| J0 rfl rfl rfl (fun _ => rfl) (by (change 0 < _; omega)) <| H1 rfl rfl rfl ?_
  rcases c7q w with ⟨ns, hns⟩ | ⟨hnn, hn⟩ | ⟨hnn, hn⟩ | ⟨hnn, hn⟩ | ⟨hnn, hn⟩
  ·skip
   apply C4 rfl
   ·apply A9
    ·exact B4 rfl
    exact C3
   ·exact (show CW (cxT oG) 63 [tV w] = some (.tup [tV lW, .own 1 (ns.map iV), bV true], []) from by have hi := a0k (oG := oG) w (by omega); rw [hns] at hi; exact hi)
   ·exact ⟨rfl, rfl, rfl, of_decide_eq_true rfl, rfl⟩
   ·exact .inr ⟨by simp [hasList, E6], rfl⟩
   ·exact B1
   ·exact J4 (J3 rfl (S1 fun _ => J3 rfl R9))
   ·exact fun _ => D6 (B5 (B0 fun _ => rfl)) (by rfl)
   intro g21
   try simp only [List.length_map]
   refine A5 rfl rfl <| B2 rfl rfl rfl <| B2 rfl rfl rfl <| B2 rfl rfl rfl <| A3 rfl rfl rfl ?_
   (refine C1 rfl rfl (by (simp; done)) rfl (fun _ => (B5 (by exact B0 fun _ => rfl))) (fun _ => rfl) ?_; intro g6)
   refine A3 rfl rfl rfl ?_
   refine A6 ⟨nofun, _, kS [0,2,5,6,7] [2,6] rfl, ?_⟩
   refine A4 <| A4 <| A0 <| A5 rfl rfl <| P2 rfl ?_
   refine A6 ⟨nofun, _, kS [0,2,5,6,26] [2,6] rfl, ?_⟩
   refine A8 rfl (fun hc => absurd hc (by decide)) (fun hc => ?_)
   refine B9 <| A4 <| A0 <| A5 rfl rfl <| A5 rfl rfl <| K7 (fs := [_, _, _]) rfl rfl rfl rfl rfl <| A5 rfl rfl <| L3 rfl rfl rfl (Mv.sized_map fun _ => rfl) H6 (H4 (n := 1) rfl) (by simp) ?_
   rw [show ((List.map tV (w :: ws1)).drop 1).take ((List.map tV (w :: ws1)).length - 1) = ws1.map tV from by rw [List.map_cons, List.drop_succ_cons, List.drop_zero, List.take_of_length_le (by simp)]]
   refine H2 rfl (fun _ => C0 rfl) (fun _ => rfl) ?_
   intro g8
   refine K2 rfl rfl rfl rfl (N6 rfl (a2m (by decide) (N6 rfl a0i))) (fun _ => rfl) ⟨by decide, rfl, of_decide_eq_true rfl, Nat.le_refl _⟩ (fun _ => rfl) (fun _ => rfl) (fun _ => (by rfl)) ?_
   intro z
   simp only [T4, List.cons_append, List.nil_append]
   refine A3 rfl rfl rfl ?_
   refine A6 ⟨fun _ => ⟨by (simp only [a1x, List.nil_append, List.append_nil, List.map_cons, List.map_nil, List.cons_append]; decide +kernel), by decide +kernel⟩, [(.t 2, _), (.t 5, _), (.t 8, _), (.t 9, _), (.h 2, _), (.h 8, _), (.h 6, _)], ⟨rfl, rfl, rfl, rfl, rfl, rfl, rfl, rfl, rfl, rfl, rfl, rfl, rfl, rfl, trivial⟩, ?_⟩
   refine A4 <| A4 <| A0 <| A5 rfl rfl ?_
   apply C4 rfl
   ·apply A9
    ·exact B4 rfl
    exact C3
   ·exact a5y (bA lW)
   ·exact ⟨rfl, rfl, rfl, of_decide_eq_true rfl, rfl⟩
   ·exact .inl rfl
   ·exact B1
   ·exact B7 rfl
   ·exact fun _ => rfl
   intro g34
   rw [show nd (bA lW) = 0 from d1d rfl]
   refine A5 rfl rfl ?_
   refine A6 ⟨nofun, _, kS [2,8,9,34,35] [2,8,6] rfl, ?_⟩
   refine E7 <| L9 <| A4 <| A0 <| M1 rfl rfl ?_
   refine A6 ⟨nofun, _, kS [2,8,9,34,35,36] [2,8,6] rfl, ?_⟩
   refine A4 ?_
   refine A8 rfl (fun hc => absurd hc (by decide)) (fun hc => ?_)
   refine K6 <| A4 <| A0 <| G4 rfl rfl rfl rfl rfl <| A5 rfl rfl <| K2 rfl rfl rfl rfl (N6 rfl (a2m (by decide) (N6 rfl a0i))) (fun _ => rfl) ⟨by decide, rfl, of_decide_eq_true rfl, Nat.le_refl _⟩ (fun _ => rfl) (fun _ => rfl) (fun _ => (by rfl)) ?_
   intro z
   simp only [T4, List.cons_append, List.nil_append]
   refine A3 rfl rfl rfl <| A3 rfl rfl rfl ?_
   refine A6 ⟨nofun, _, kS [2,3,4] [2,6] rfl, ?_⟩
   refine B3 <| D8 (G9 rfl rfl rfl rfl (H0 rfl (a2k rfl rfl (by simp) (fun _ => rfl) (H3 rfl K0))) (D9 rfl rfl (D9 rfl rfl (F0 C6)))) ?_
   rw [b8l hns]
   rfl
  ·skip
   apply C4 rfl
   ·apply A9
    ·exact B4 rfl
    exact C3
   ·exact (show CW (cxT oG) 63 [tV w] = some (.tup [tV w, .own 1 [], bV true], []) from by have hi := a0k (oG := oG) w (by omega); rw [hnn] at hi; rw [show decide (0 ≤ rch (bA w)) = true from decide_eq_true (by omega)] at hi; exact hi)
   ·exact ⟨rfl, rfl, rfl, of_decide_eq_true rfl, rfl⟩
   ·exact .inr ⟨rfl, rfl⟩
   ·exact B1
   ·exact J4 (J3 rfl (S1 fun _ => J3 rfl R9))
   ·exact fun _ => D6 (B5 rfl) (by rfl)
   intro g21
   try simp only [List.length_map]
   refine A5 rfl rfl <| B2 rfl rfl rfl <| B2 rfl rfl rfl <| B2 rfl rfl rfl <| A3 rfl rfl rfl ?_
   (refine C1 rfl rfl (by (simp; done)) rfl (fun _ => (B5 (by rfl))) (fun _ => rfl) ?_; intro g6)
   refine A3 rfl rfl rfl ?_
   refine A6 ⟨nofun, _, kS [0,2,5,6,7] [2,6] rfl, ?_⟩
   refine A4 <| A4 <| A0 <| A5 rfl rfl <| P2 rfl ?_
   refine A6 ⟨nofun, _, kS [0,2,5,6,26] [2,6] rfl, ?_⟩
   refine A8 rfl (fun hc => absurd hc (by decide)) (fun hc => ?_)
   refine B9 <| A4 <| A0 <| A5 rfl rfl <| A5 rfl rfl <| K7 (fs := [_, _, _]) rfl rfl rfl rfl rfl <| A5 rfl rfl <| L3 rfl rfl rfl (Mv.sized_map fun _ => rfl) H6 (H4 (n := 1) rfl) (by simp) ?_
   rw [show ((List.map tV (w :: ws1)).drop 1).take ((List.map tV (w :: ws1)).length - 1) = ws1.map tV from by rw [List.map_cons, List.drop_succ_cons, List.drop_zero, List.take_of_length_le (by simp)]]
   refine H2 rfl (fun _ => C0 rfl) (fun _ => rfl) ?_
   intro g8
   refine K2 rfl rfl rfl rfl (N6 rfl (a2m (by decide) (N6 rfl a0i))) (fun _ => rfl) ⟨by decide, rfl, of_decide_eq_true rfl, Nat.le_refl _⟩ (fun _ => rfl) (fun _ => rfl) (fun _ => (by rfl)) ?_
   intro z
   simp only [T4, List.cons_append, List.nil_append]
   refine A3 rfl rfl rfl ?_
   refine A6 ⟨fun _ => ⟨by (simp only [a1x, List.nil_append, List.append_nil, List.map_cons, List.map_nil, List.cons_append]; decide +kernel), by decide +kernel⟩, [(.t 2, _), (.t 5, _), (.t 8, _), (.t 9, _), (.h 2, _), (.h 8, _), (.h 6, _)], ⟨rfl, rfl, rfl, rfl, rfl, rfl, rfl, rfl, rfl, rfl, rfl, rfl, rfl, rfl, trivial⟩, ?_⟩
   refine A4 <| A4 <| A0 <| A5 rfl rfl ?_
   apply C4 rfl
   ·apply A9
    ·exact B4 rfl
    exact C3
   ·exact a5y (bA w)
   ·exact ⟨rfl, rfl, rfl, of_decide_eq_true rfl, rfl⟩
   ·exact .inl rfl
   ·exact B1
   ·exact B7 rfl
   ·exact fun _ => rfl
   intro g34
   rw [show nd (bA w) = 0 from (a7j (by omega)).trans hn]
   refine A5 rfl rfl ?_
   refine A6 ⟨nofun, _, kS [2,8,9,34,35] [2,8,6] rfl, ?_⟩
   refine E7 <| L9 <| A4 <| A0 <| M1 rfl rfl ?_
   refine A6 ⟨nofun, _, kS [2,8,9,34,35,36] [2,8,6] rfl, ?_⟩
   refine A4 ?_
   refine A8 rfl (fun hc => absurd hc (by decide)) (fun hc => ?_)
   refine K6 <| A4 <| A0 <| G4 rfl rfl rfl rfl rfl <| A5 rfl rfl <| K2 rfl rfl rfl rfl (N6 rfl (a2m (by decide) (N6 rfl a0i))) (fun _ => rfl) ⟨by decide, rfl, of_decide_eq_true rfl, Nat.le_refl _⟩ (fun _ => rfl) (fun _ => rfl) (fun _ => (by rfl)) ?_
   intro z
   simp only [T4, List.cons_append, List.nil_append]
   refine A3 rfl rfl rfl <| A3 rfl rfl rfl ?_
   refine A6 ⟨nofun, _, kS [2,3,4] [2,6] rfl, ?_⟩
   refine B3 <| D8 (G9 rfl rfl rfl rfl (H0 rfl (b5j rfl rfl rfl (H3 rfl K0))) (D9 rfl rfl (D9 rfl rfl (F0 C6)))) ?_
   rw [c3c hnn hn]
   rfl
  ·skip
   apply C4 rfl
   ·apply A9
    ·exact B4 rfl
    exact C3
   ·exact (show CW (cxT oG) 63 [tV w] = some (.tup [tV w, .own 1 [], bV true], []) from by have hi := a0k (oG := oG) w (by omega); rw [hnn] at hi; rw [show decide (0 ≤ rch (bA w)) = true from decide_eq_true (by omega)] at hi; exact hi)
   ·exact ⟨rfl, rfl, rfl, of_decide_eq_true rfl, rfl⟩
   ·exact .inr ⟨rfl, rfl⟩
   ·exact B1
   ·exact J4 (J3 rfl (S1 fun _ => J3 rfl R9))
   ·exact fun _ => D6 (B5 rfl) (by rfl)
   intro g21
   try simp only [List.length_map]
   refine A5 rfl rfl <| B2 rfl rfl rfl <| B2 rfl rfl rfl <| B2 rfl rfl rfl <| A3 rfl rfl rfl ?_
   (refine C1 rfl rfl (by (simp; done)) rfl (fun _ => (B5 (by rfl))) (fun _ => rfl) ?_; intro g6)
   refine A3 rfl rfl rfl ?_
   refine A6 ⟨nofun, _, kS [0,2,5,6,7] [2,6] rfl, ?_⟩
   refine A4 <| A4 <| A0 <| A5 rfl rfl <| P2 rfl ?_
   refine A6 ⟨nofun, _, kS [0,2,5,6,26] [2,6] rfl, ?_⟩
   refine A8 rfl (fun hc => absurd hc (by decide)) (fun hc => ?_)
   refine B9 <| A4 <| A0 <| A5 rfl rfl <| A5 rfl rfl <| K7 (fs := [_, _, _]) rfl rfl rfl rfl rfl <| A5 rfl rfl <| L3 rfl rfl rfl (Mv.sized_map fun _ => rfl) H6 (H4 (n := 1) rfl) (by simp) ?_
   rw [show ((List.map tV (w :: ws1)).drop 1).take ((List.map tV (w :: ws1)).length - 1) = ws1.map tV from by rw [List.map_cons, List.drop_succ_cons, List.drop_zero, List.take_of_length_le (by simp)]]
   refine H2 rfl (fun _ => C0 rfl) (fun _ => rfl) ?_
   intro g8
   refine K2 rfl rfl rfl rfl (N6 rfl (a2m (by decide) (N6 rfl a0i))) (fun _ => rfl) ⟨by decide, rfl, of_decide_eq_true rfl, Nat.le_refl _⟩ (fun _ => rfl) (fun _ => rfl) (fun _ => (by rfl)) ?_
   intro z
   simp only [T4, List.cons_append, List.nil_append]
   refine A3 rfl rfl rfl ?_
   refine A6 ⟨fun _ => ⟨by (simp only [a1x, List.nil_append, List.append_nil, List.map_cons, List.map_nil, List.cons_append]; decide +kernel), by decide +kernel⟩, [(.t 2, _), (.t 5, _), (.t 8, _), (.t 9, _), (.h 2, _), (.h 8, _), (.h 6, _)], ⟨rfl, rfl, rfl, rfl, rfl, rfl, rfl, rfl, rfl, rfl, rfl, rfl, rfl, rfl, trivial⟩, ?_⟩
   refine A4 <| A4 <| A0 <| A5 rfl rfl ?_
   apply C4 rfl
   ·apply A9
    ·exact B4 rfl
    exact C3
   ·exact a5y (bA w)
   ·exact ⟨rfl, rfl, rfl, of_decide_eq_true rfl, rfl⟩
   ·exact .inl rfl
   ·exact B1
   ·exact B7 rfl
   ·exact fun _ => rfl
   intro g34
   rw [show nd (bA w) = 1 from (a7j (by omega)).trans hn]
   refine A5 rfl rfl ?_
   refine A6 ⟨nofun, _, kS [2,8,9,34,35] [2,8,6] rfl, ?_⟩
   refine E7 <| L9 <| A4 <| A0 <| M1 rfl rfl ?_
   refine A6 ⟨nofun, _, kS [2,8,9,34,35,36] [2,8,6] rfl, ?_⟩
   refine A4 ?_
   refine A8 rfl (fun hc => ?_) (fun hc => absurd hc (by decide))
   refine B9 <| A4 <| E7 <| A4 <| A0 <| A5 rfl rfl ?_
   rcases hr1 : rdT ws1 with _ | ⟨k1, r1⟩
   ·skip
    apply C4 rfl
    ·apply A9
     ·exact B4 rfl
     exact C3
    ·exact (by have hi := ih ws1 ⟨by simp only [List.length_cons] at hws; omega, fun x hx => hws.2 x (List.mem_cons_of_mem _ hx)⟩ (by simp only [List.length_cons] at hkk; omega); rw [hr1] at hi; exact hi)
    ·exact ⟨rfl, rfl, rfl, of_decide_eq_true rfl, rfl⟩
    ·exact .inl rfl
    ·exact B1
    ·exact J4 (J3 rfl (S1 fun _ => J3 rfl R9))
    ·exact fun _ => D6 (B5 rfl) (by rfl)
    intro g39
    refine A5 rfl rfl <| B2 rfl rfl rfl <| B2 rfl rfl rfl <| B2 rfl rfl rfl <| H2 rfl (fun _ => C0 rfl) (fun _ => rfl) ?_
    intro g10
    refine C5 rfl rfl rfl rfl ⟨by decide, rfl, of_decide_eq_true rfl, of_decide_eq_true rfl, rfl⟩ rfl (by exact C0 rfl) ?_
    (refine C1 rfl rfl (by (simp; done)) rfl (fun _ => (B5 (by rfl))) (fun _ => rfl) ?_; intro g11)
    refine A3 rfl rfl rfl ?_
    refine A6 ⟨nofun, _, kS [2,8,10,11,12,34,35] [2,8,6,10] rfl, ?_⟩
    refine A4 <| A4 <| A0 <| A5 rfl rfl <| P2 rfl ?_
    refine A6 ⟨nofun, _, kS [2,8,10,11,34,35,44] [2,8,6,10] rfl, ?_⟩
    refine A8 rfl (fun hc => ?_) (fun hc => absurd hc (by decide))
    refine A4 <| A0 <| K7 (fs := [_, _, _]) rfl rfl rfl rfl rfl <| C5 rfl rfl rfl rfl ⟨by decide, rfl, of_decide_eq_true rfl, of_decide_eq_true rfl, rfl⟩ rfl (by exact C0 rfl) ?_
    (refine B8 rfl rfl (fun _ => rfl) ?_; intro g3)
    refine A3 rfl rfl rfl ?_
    refine A6 ⟨nofun, _, kS [2,3,4] [2,3] rfl, ?_⟩
    refine B3 <| D8 (G9 rfl rfl rfl rfl (H0 rfl (H3 rfl (H3 rfl K0))) (G7 rfl rfl (by simp) (by rfl) (D9 rfl rfl (F0 C6)))) ?_
    rw [b5n hnn hn, hr1]
    rfl
   skip
   apply C4 rfl
   ·apply A9
    ·exact B4 rfl
    exact C3
   ·exact (by have hi := ih ws1 ⟨by simp only [List.length_cons] at hws; omega, fun x hx => hws.2 x (List.mem_cons_of_mem _ hx)⟩ (by simp only [List.length_cons] at hkk; omega); rw [hr1] at hi; exact hi)
   ·exact ⟨rfl, rfl, rfl, of_decide_eq_true rfl, rfl⟩
   ·exact .inl rfl
   ·exact B1
   ·exact K4 rfl
   ·exact fun _ => rfl
   intro g39
   refine A5 rfl rfl <| B2 rfl rfl rfl <| B2 rfl rfl rfl <| B2 rfl rfl rfl <| H2 rfl (fun _ => C0 rfl) (fun _ => rfl) ?_
   intro g10
   refine C5 rfl rfl rfl rfl ⟨by decide, rfl, of_decide_eq_true rfl, of_decide_eq_true rfl, rfl⟩ rfl (by exact C0 rfl) <| A3 rfl rfl rfl <| A3 rfl rfl rfl ?_
   refine A6 ⟨nofun, _, kS [2,8,10,11,12,34,35] [2,8,6,10] rfl, ?_⟩
   refine A4 <| A4 <| A0 <| A5 rfl rfl <| P2 rfl ?_
   refine A6 ⟨nofun, _, kS [2,8,10,11,34,35,44] [2,8,6,10] rfl, ?_⟩
   refine A8 rfl (fun hc => absurd hc (by decide)) (fun hc => ?_)
   refine B9 <| A4 <| A0 <| E9 rfl rfl (of_decide_eq_true rfl) rfl rfl <| F7 rfl rfl rfl rfl rfl rfl <| G4 rfl rfl rfl rfl rfl <| D7 (es := List.map trV [_]) rfl rfl (of_decide_eq_true rfl) rfl rfl (fun _ => B5 (B0 fun _ => rfl)) (fun _ => rfl) ?_
   intro g49
   refine W9 rfl rfl rfl (by simp) (by decide) rfl rfl rfl (of_decide_eq_true rfl) (fun _ => ⟨rfl, rfl⟩) (by simp only [G8]; (simp only [List.length_nil, List.length_cons, List.length_append, Nat.zero_add, List.length_map]; omega)) (fun _ => rfl) ?_
   intro g50
   refine E9 rfl rfl (of_decide_eq_true rfl) rfl rfl <| Q3 rfl rfl rfl rfl rfl (Nat.le_refl _) rfl ?_
   refine A6 ⟨nofun, _, kS [2,8,11,34,35] [2,8,6,1000050] rfl, ?_⟩
   refine A0 <| A5 rfl rfl <| A3 rfl rfl rfl ?_
   refine A6 ⟨nofun, _, kS [2,8,9,34,35] [2,8,6,1000050] rfl, ?_⟩
   refine A0 <| L5 rfl rfl (G2 (by omega)) <| A5 rfl rfl ?_
   refine A6 ⟨nofun, _, kS [2,8,9,34,35] [2,8,6,1000050] rfl, ?_⟩
   refine L9 <| A4 <| A0 <| M1 rfl rfl ?_
   refine A6 ⟨nofun, _, kS [2,8,9,34,35,36] [2,8,6,1000050] rfl, ?_⟩
   refine A4 ?_
   refine A8 rfl (fun hc => absurd hc (by decide)) (fun hc => ?_)
   refine K6 <| A4 <| A0 <| G4 rfl rfl rfl rfl rfl <| A5 rfl rfl <| K2 rfl rfl rfl rfl (N6 rfl (a2m (by decide) (b0c (by decide) (by decide) rfl (by simp) fun _ => a0i))) (fun _ => rfl) ⟨by decide, rfl, of_decide_eq_true rfl, Nat.le_refl _⟩ (fun _ => rfl) (fun _ => rfl) (fun _ => D6 (by rfl) (D6 (B5 (B0 fun _ => rfl)) (by rfl))) ?_
   intro z
   simp only [T4, List.cons_append, List.nil_append]
   refine A3 rfl rfl rfl <| A3 rfl rfl rfl ?_
   refine A6 ⟨nofun, _, kS [2,3,4] [2,6,300002] rfl, ?_⟩
   refine B3 <| D8 (G9 rfl rfl rfl rfl (H0 rfl (b5j rfl rfl rfl (a2k rfl rfl (by simp) (fun _ => rfl) K0))) (D9 rfl rfl (D9 rfl rfl (F0 C6)))) ?_
   rw [b5n hnn hn, hr1]
   rfl
  ·skip
   apply C4 rfl
   ·apply A9
    ·exact B4 rfl
    exact C3
   ·exact (show CW (cxT oG) 63 [tV w] = some (.tup [tV w, .own 1 [], bV true], []) from by have hi := a0k (oG := oG) w (by omega); rw [hnn] at hi; rw [show decide (0 ≤ rch (bA w)) = true from decide_eq_true (by omega)] at hi; exact hi)
   ·exact ⟨rfl, rfl, rfl, of_decide_eq_true rfl, rfl⟩
   ·exact .inr ⟨rfl, rfl⟩
   ·exact B1
   ·exact J4 (J3 rfl (S1 fun _ => J3 rfl R9))
   ·exact fun _ => D6 (B5 rfl) (by rfl)
   intro g21
   try simp only [List.length_map]
   refine A5 rfl rfl <| B2 rfl rfl rfl <| B2 rfl rfl rfl <| B2 rfl rfl rfl <| A3 rfl rfl rfl ?_
   (refine C1 rfl rfl (by (simp; done)) rfl (fun _ => (B5 (by rfl))) (fun _ => rfl) ?_; intro g6)
   refine A3 rfl rfl rfl ?_
   refine A6 ⟨nofun, _, kS [0,2,5,6,7] [2,6] rfl, ?_⟩
   refine A4 <| A4 <| A0 <| A5 rfl rfl <| P2 rfl ?_
   refine A6 ⟨nofun, _, kS [0,2,5,6,26] [2,6] rfl, ?_⟩
   refine A8 rfl (fun hc => absurd hc (by decide)) (fun hc => ?_)
   refine B9 <| A4 <| A0 <| A5 rfl rfl <| A5 rfl rfl <| K7 (fs := [_, _, _]) rfl rfl rfl rfl rfl <| A5 rfl rfl <| L3 rfl rfl rfl (Mv.sized_map fun _ => rfl) H6 (H4 (n := 1) rfl) (by simp) ?_
   rw [show ((List.map tV (w :: ws1)).drop 1).take ((List.map tV (w :: ws1)).length - 1) = ws1.map tV from by rw [List.map_cons, List.drop_succ_cons, List.drop_zero, List.take_of_length_le (by simp)]]
   refine H2 rfl (fun _ => C0 rfl) (fun _ => rfl) ?_
   intro g8
   refine K2 rfl rfl rfl rfl (N6 rfl (a2m (by decide) (N6 rfl a0i))) (fun _ => rfl) ⟨by decide, rfl, of_decide_eq_true rfl, Nat.le_refl _⟩ (fun _ => rfl) (fun _ => rfl) (fun _ => (by rfl)) ?_
   intro z
   simp only [T4, List.cons_append, List.nil_append]
   refine A3 rfl rfl rfl ?_
   refine A6 ⟨fun _ => ⟨by (simp only [a1x, List.nil_append, List.append_nil, List.map_cons, List.map_nil, List.cons_append]; decide +kernel), by decide +kernel⟩, [(.t 2, _), (.t 5, _), (.t 8, _), (.t 9, _), (.h 2, _), (.h 8, _), (.h 6, _)], ⟨rfl, rfl, rfl, rfl, rfl, rfl, rfl, rfl, rfl, rfl, rfl, rfl, rfl, rfl, trivial⟩, ?_⟩
   refine A4 <| A4 <| A0 <| A5 rfl rfl ?_
   apply C4 rfl
   ·apply A9
    ·exact B4 rfl
    exact C3
   ·exact a5y (bA w)
   ·exact ⟨rfl, rfl, rfl, of_decide_eq_true rfl, rfl⟩
   ·exact .inl rfl
   ·exact B1
   ·exact B7 rfl
   ·exact fun _ => rfl
   intro g34
   rw [show nd (bA w) = 2 from (a7j (by omega)).trans hn]
   refine A5 rfl rfl ?_
   refine A6 ⟨nofun, _, kS [2,8,9,34,35] [2,8,6] rfl, ?_⟩
   refine E7 <| L9 <| A4 <| A0 <| M1 rfl rfl ?_
   refine A6 ⟨nofun, _, kS [2,8,9,34,35,36] [2,8,6] rfl, ?_⟩
   refine A4 ?_
   refine A8 rfl (fun hc => ?_) (fun hc => absurd hc (by decide))
   refine B9 <| A4 <| E7 <| A4 <| A0 <| A5 rfl rfl ?_
   rcases hr1 : rdT ws1 with _ | ⟨k1, r1⟩
   ·skip
    apply C4 rfl
    ·apply A9
     ·exact B4 rfl
     exact C3
    ·exact (by have hi := ih ws1 ⟨by simp only [List.length_cons] at hws; omega, fun x hx => hws.2 x (List.mem_cons_of_mem _ hx)⟩ (by simp only [List.length_cons] at hkk; omega); rw [hr1] at hi; exact hi)
    ·exact ⟨rfl, rfl, rfl, of_decide_eq_true rfl, rfl⟩
    ·exact .inl rfl
    ·exact B1
    ·exact J4 (J3 rfl (S1 fun _ => J3 rfl R9))
    ·exact fun _ => D6 (B5 rfl) (by rfl)
    intro g39
    refine A5 rfl rfl <| B2 rfl rfl rfl <| B2 rfl rfl rfl <| B2 rfl rfl rfl <| H2 rfl (fun _ => C0 rfl) (fun _ => rfl) ?_
    intro g10
    refine C5 rfl rfl rfl rfl ⟨by decide, rfl, of_decide_eq_true rfl, of_decide_eq_true rfl, rfl⟩ rfl (by exact C0 rfl) ?_
    (refine C1 rfl rfl (by (simp; done)) rfl (fun _ => (B5 (by rfl))) (fun _ => rfl) ?_; intro g11)
    refine A3 rfl rfl rfl ?_
    refine A6 ⟨nofun, _, kS [2,8,10,11,12,34,35] [2,8,6,10] rfl, ?_⟩
    refine A4 <| A4 <| A0 <| A5 rfl rfl <| P2 rfl ?_
    refine A6 ⟨nofun, _, kS [2,8,10,11,34,35,44] [2,8,6,10] rfl, ?_⟩
    refine A8 rfl (fun hc => ?_) (fun hc => absurd hc (by decide))
    refine A4 <| A0 <| K7 (fs := [_, _, _]) rfl rfl rfl rfl rfl <| C5 rfl rfl rfl rfl ⟨by decide, rfl, of_decide_eq_true rfl, of_decide_eq_true rfl, rfl⟩ rfl (by exact C0 rfl) ?_
    (refine B8 rfl rfl (fun _ => rfl) ?_; intro g3)
    refine A3 rfl rfl rfl ?_
    refine A6 ⟨nofun, _, kS [2,3,4] [2,3] rfl, ?_⟩
    refine B3 <| D8 (G9 rfl rfl rfl rfl (H0 rfl (H3 rfl (H3 rfl K0))) (G7 rfl rfl (by simp) (by rfl) (D9 rfl rfl (F0 C6)))) ?_
    rw [a4i hnn hn, hr1]
    rfl
   skip
   apply C4 rfl
   ·apply A9
    ·exact B4 rfl
    exact C3
   ·exact (by have hi := ih ws1 ⟨by simp only [List.length_cons] at hws; omega, fun x hx => hws.2 x (List.mem_cons_of_mem _ hx)⟩ (by simp only [List.length_cons] at hkk; omega); rw [hr1] at hi; exact hi)
   ·exact ⟨rfl, rfl, rfl, of_decide_eq_true rfl, rfl⟩
   ·exact .inl rfl
   ·exact B1
   ·exact K4 rfl
   ·exact fun _ => rfl
   intro g39
   refine A5 rfl rfl <| B2 rfl rfl rfl <| B2 rfl rfl rfl <| B2 rfl rfl rfl <| H2 rfl (fun _ => C0 rfl) (fun _ => rfl) ?_
   intro g10
   refine C5 rfl rfl rfl rfl ⟨by decide, rfl, of_decide_eq_true rfl, of_decide_eq_true rfl, rfl⟩ rfl (by exact C0 rfl) <| A3 rfl rfl rfl <| A3 rfl rfl rfl ?_
   refine A6 ⟨nofun, _, kS [2,8,10,11,12,34,35] [2,8,6,10] rfl, ?_⟩
   refine A4 <| A4 <| A0 <| A5 rfl rfl <| P2 rfl ?_
   refine A6 ⟨nofun, _, kS [2,8,10,11,34,35,44] [2,8,6,10] rfl, ?_⟩
   refine A8 rfl (fun hc => absurd hc (by decide)) (fun hc => ?_)
   refine B9 <| A4 <| A0 <| E9 rfl rfl (of_decide_eq_true rfl) rfl rfl <| F7 rfl rfl rfl rfl rfl rfl <| G4 rfl rfl rfl rfl rfl <| D7 (es := List.map trV [_]) rfl rfl (of_decide_eq_true rfl) rfl rfl (fun _ => B5 (B0 fun _ => rfl)) (fun _ => rfl) ?_
   intro g49
   refine W9 rfl rfl rfl (by simp) (by decide) rfl rfl rfl (of_decide_eq_true rfl) (fun _ => ⟨rfl, rfl⟩) (by simp only [G8]; (simp only [List.length_nil, List.length_cons, List.length_append, Nat.zero_add, List.length_map]; omega)) (fun _ => rfl) ?_
   intro g50
   refine E9 rfl rfl (of_decide_eq_true rfl) rfl rfl <| Q3 rfl rfl rfl rfl rfl (Nat.le_refl _) rfl ?_
   refine A6 ⟨nofun, _, kS [2,8,11,34,35] [2,8,6,1000050] rfl, ?_⟩
   refine A0 <| A5 rfl rfl <| A3 rfl rfl rfl ?_
   refine A6 ⟨nofun, _, kS [2,8,9,34,35] [2,8,6,1000050] rfl, ?_⟩
   refine A0 <| L5 rfl rfl (G2 (by omega)) <| A5 rfl rfl ?_
   refine A6 ⟨nofun, _, kS [2,8,9,34,35] [2,8,6,1000050] rfl, ?_⟩
   refine L9 <| A4 <| A0 <| M1 rfl rfl ?_
   refine A6 ⟨nofun, _, kS [2,8,9,34,35,36] [2,8,6,1000050] rfl, ?_⟩
   refine A4 ?_
   refine A8 rfl (fun hc => ?_) (fun hc => absurd hc (by decide))
   refine B9 <| A4 <| E7 <| A4 <| A0 <| A5 rfl rfl ?_
   rcases hr2 : rdT r1 with _ | ⟨k2, r2⟩
   ·skip
    apply C4 rfl
    ·apply A9
     ·exact B4 rfl
     exact C3
    ·exact (by have hi := ih r1 ⟨by have := X4 hr1; simp only [List.length_cons] at hws; omega, fun x hx => hws.2 x (List.mem_cons_of_mem _ (a9z hr1 x hx))⟩ (by have := X4 hr1; simp only [List.length_cons] at hkk; omega); rw [hr2] at hi; exact hi)
    ·exact ⟨rfl, rfl, rfl, of_decide_eq_true rfl, rfl⟩
    ·exact .inl rfl
    ·exact B1
    ·exact J4 (J3 rfl (S1 fun _ => J3 rfl R9))
    ·exact fun _ => D6 (B5 rfl) (by rfl)
    intro g39
    refine A5 rfl rfl <| B2 rfl rfl rfl <| B2 rfl rfl rfl <| B2 rfl rfl rfl <| H2 rfl (fun _ => C0 rfl) (fun _ => rfl) ?_
    intro g10
    refine C5 rfl rfl rfl rfl ⟨by decide, rfl, of_decide_eq_true rfl, of_decide_eq_true rfl, rfl⟩ rfl (by exact C0 rfl) ?_
    (refine C1 rfl rfl (by (simp; done)) rfl (fun _ => (B5 (by rfl))) (fun _ => rfl) ?_; intro g11)
    refine A3 rfl rfl rfl ?_
    refine A6 ⟨nofun, _, kS [2,8,10,11,12,34,35] [2,8,6,1000050,10] rfl, ?_⟩
    refine A4 <| A4 <| A0 <| A5 rfl rfl <| P2 rfl ?_
    refine A6 ⟨nofun, _, kS [2,8,10,11,34,35,44] [2,8,6,1000050,10] rfl, ?_⟩
    refine A8 rfl (fun hc => ?_) (fun hc => absurd hc (by decide))
    refine A4 <| A0 <| K7 (fs := [_, _, _]) rfl rfl rfl rfl rfl <| C5 rfl rfl rfl rfl ⟨by decide, rfl, of_decide_eq_true rfl, of_decide_eq_true rfl, rfl⟩ rfl (by exact C0 rfl) ?_
    (refine B8 rfl rfl (fun _ => rfl) ?_; intro g3)
    refine A3 rfl rfl rfl ?_
    refine A6 ⟨nofun, _, kS [2,3,4] [2,3] rfl, ?_⟩
    refine B3 <| D8 (G9 rfl rfl rfl rfl (H0 rfl (H3 rfl (H3 rfl K0))) (G7 rfl rfl (by simp) (by rfl) (D9 rfl rfl (F0 C6)))) ?_
    rw [a4i hnn hn, hr1, Option.bind_some, hr2]
    rfl
   skip
   apply C4 rfl
   ·apply A9
    ·exact B4 rfl
    exact C3
   ·exact (by have hi := ih r1 ⟨by have := X4 hr1; simp only [List.length_cons] at hws; omega, fun x hx => hws.2 x (List.mem_cons_of_mem _ (a9z hr1 x hx))⟩ (by have := X4 hr1; simp only [List.length_cons] at hkk; omega); rw [hr2] at hi; exact hi)
   ·exact ⟨rfl, rfl, rfl, of_decide_eq_true rfl, rfl⟩
   ·exact .inl rfl
   ·exact B1
   ·exact K4 rfl
   ·exact fun _ => rfl
   intro g39
   refine A5 rfl rfl <| B2 rfl rfl rfl <| B2 rfl rfl rfl <| B2 rfl rfl rfl <| H2 rfl (fun _ => C0 rfl) (fun _ => rfl) ?_
   intro g10
   refine C5 rfl rfl rfl rfl ⟨by decide, rfl, of_decide_eq_true rfl, of_decide_eq_true rfl, rfl⟩ rfl (by exact C0 rfl) <| A3 rfl rfl rfl <| A3 rfl rfl rfl ?_
   refine A6 ⟨nofun, _, kS [2,8,10,11,12,34,35] [2,8,6,1000050,10] rfl, ?_⟩
   refine A4 <| A4 <| A0 <| A5 rfl rfl <| P2 rfl ?_
   refine A6 ⟨nofun, _, kS [2,8,10,11,34,35,44] [2,8,6,1000050,10] rfl, ?_⟩
   refine A8 rfl (fun hc => absurd hc (by decide)) (fun hc => ?_)
   refine B9 <| A4 <| A0 <| E9 rfl rfl (of_decide_eq_true rfl) rfl rfl <| F7 rfl rfl rfl rfl rfl rfl <| G4 rfl rfl rfl rfl rfl <| D7 (es := List.map trV [_]) rfl rfl (of_decide_eq_true rfl) rfl rfl (fun _ => B5 (B0 fun _ => rfl)) (fun _ => rfl) ?_
   intro g49
   refine H7 rfl rfl rfl rfl (by (simp; done)) (by simp) (by decide) rfl rfl rfl rfl (of_decide_eq_true rfl) (fun _ => ⟨rfl, rfl⟩) (by simp only [G8]; (simp only [List.length_nil, List.length_cons, List.length_append, Nat.zero_add, List.length_map]; omega)) (fun _ => rfl) ?_
   intro g50
   refine E9 rfl rfl (of_decide_eq_true rfl) rfl rfl <| Q3 rfl rfl rfl rfl rfl (Nat.le_refl _) rfl ?_
   refine A6 ⟨nofun, _, kS [2,8,11,34,35] [2,8,6,1000050] rfl, ?_⟩
   refine A0 <| A5 rfl rfl <| A3 rfl rfl rfl ?_
   refine A6 ⟨nofun, _, kS [2,8,9,34,35] [2,8,6,1000050] rfl, ?_⟩
   refine A0 <| L5 rfl rfl (G2 (by omega)) <| A5 rfl rfl ?_
   refine A6 ⟨nofun, _, kS [2,8,9,34,35] [2,8,6,1000050] rfl, ?_⟩
   refine L9 <| A4 <| A0 <| M1 rfl rfl ?_
   refine A6 ⟨nofun, _, kS [2,8,9,34,35,36] [2,8,6,1000050] rfl, ?_⟩
   refine A4 ?_
   refine A8 rfl (fun hc => absurd hc (by decide)) (fun hc => ?_)
   refine K6 <| A4 <| A0 <| G4 rfl rfl rfl rfl rfl <| A5 rfl rfl <| K2 rfl rfl rfl rfl (N6 rfl (a2m (by decide) (b0c (by decide) (by decide) rfl (by simp) fun _ => a0i))) (fun _ => rfl) ⟨by decide, rfl, of_decide_eq_true rfl, Nat.le_refl _⟩ (fun _ => rfl) (fun _ => rfl) (fun _ => D6 (by rfl) (D6 (B5 (B0 fun _ => rfl)) (by rfl))) ?_
   intro z
   simp only [T4, List.cons_append, List.nil_append]
   refine A3 rfl rfl rfl <| A3 rfl rfl rfl ?_
   refine A6 ⟨nofun, _, kS [2,3,4] [2,6,300002] rfl, ?_⟩
   refine B3 <| D8 (G9 rfl rfl rfl rfl (H0 rfl (b5j rfl rfl rfl (a2k rfl rfl (by simp) (fun _ => rfl) K0))) (D9 rfl rfl (D9 rfl rfl (F0 C6)))) ?_
   rw [a4i hnn hn, hr1, Option.bind_some, hr2]
   rfl
  skip
  apply C4 rfl
  ·apply A9
   ·exact B4 rfl
   exact C3
  ·exact (show CW (cxT oG) 63 [tV w] = some (.tup [tV w, .own 1 [], bV false], []) from by have hi := a0k (oG := oG) w (by omega); rw [hnn] at hi; rw [show decide (0 ≤ rch (bA w)) = false from decide_eq_false (by omega)] at hi; exact hi)
  ·exact ⟨rfl, rfl, rfl, of_decide_eq_true rfl, rfl⟩
  ·exact .inr ⟨rfl, rfl⟩
  ·exact B1
  ·exact J4 (J3 rfl (S1 fun _ => J3 rfl R9))
  ·exact fun _ => D6 (B5 rfl) (by rfl)
  intro g21
  try simp only [List.length_map]
  refine A5 rfl rfl <| B2 rfl rfl rfl <| B2 rfl rfl rfl <| B2 rfl rfl rfl <| A3 rfl rfl rfl ?_
  (refine C1 rfl rfl (by (simp; done)) rfl (fun _ => (B5 (by rfl))) (fun _ => rfl) ?_; intro g6)
  refine A3 rfl rfl rfl ?_
  refine A6 ⟨nofun, _, kS [0,2,5,6,7] [2,6] rfl, ?_⟩
  refine A4 <| A4 <| A0 <| A5 rfl rfl <| P2 rfl ?_
  refine A6 ⟨nofun, _, kS [0,2,5,6,26] [2,6] rfl, ?_⟩
  refine A8 rfl (fun hc => ?_) (fun hc => absurd hc (by decide))
  refine A4 <| A0 <| K7 (fs := [_, _, _]) rfl rfl rfl rfl rfl <| C5 rfl rfl rfl rfl ⟨by decide, rfl, of_decide_eq_true rfl, of_decide_eq_true rfl, rfl⟩ rfl (by exact C0 rfl) ?_
  (refine B8 rfl rfl (fun _ => rfl) ?_; intro g3)
  refine A3 rfl rfl rfl ?_
  refine A6 ⟨nofun, _, kS [2,3,4] [2,3] rfl, ?_⟩
  refine B3 <| D8 (G9 rfl rfl rfl rfl (H0 rfl (H3 rfl (H3 rfl K0))) (G7 rfl rfl (by simp) (by rfl) (D9 rfl rfl (F0 C6)))) ?_
  rw [c3u hnn hn]
  rfl

theorem keep_s_readPlanI : G1 Tryd.f40 = [0, 2, 3, 4, 6, 7, 5, 12] := by kernel_rfl
set_option maxHeartbeats 20000000 in
theorem b8r (s : List UInt8) (hs : s.length ≤ 1048576) : CW (cxT oG) 40 [tV s] = some (.tup [trV (ipT s), bV (c0l s)], []) := by
 obtain ⟨ws, hws⟩ : ∃ ws, ws = splitB 32 s := ⟨_, rfl⟩
 have hwl := S5 32 s
 have hwp := X7 32 s
 rw [← hws] at hwl hwp
 refine G6 rfl Tryd.func40 rfl ⟨by kernel_rfl, rfl, of_decide_eq_true rfl, of_decide_eq_true rfl, by decide⟩ keep_s_readPlanI <| A4 <| A0 <| H2 rfl (fun _ => C0 rfl) (fun _ => rfl) ?_
 intro g2
 refine A3 rfl rfl rfl ?_
 refine A6 ⟨nofun, _, kS [0,2] [2] rfl, ?_⟩
 refine A4 <| A0 <| A5 rfl rfl ?_
 apply C4 rfl
 ·apply A9
  ·exact B4 rfl
  apply A9
  ·exact B4 rfl
  exact C3
 ·exact c3m s 32 (by omega)
 ·exact ⟨rfl, rfl, rfl, of_decide_eq_true rfl, rfl⟩
 ·exact .inl rfl
 ·exact B1
 ·exact Y2
 ·exact fun _ => rfl
 intro g9
 rw [← hws]
 try simp only [List.length_map]
 (refine C1 rfl rfl (by (simp; done)) rfl (fun _ => (B5 (by exact B0 fun _ => rfl))) (fun _ => rfl) ?_; intro g4)
 refine A6 ⟨nofun, _, kS [2,4] [2,4] rfl, ?_⟩
 refine A4 <| A0 <| A5 rfl rfl ?_
 rcases hr : rdT ws with _ | ⟨t, r⟩
 ·skip
  apply C4 rfl
  ·apply A9
   ·exact H9 rfl rfl (by (simp; done)) (fun _ => rfl)
   exact C3
  ·exact (by have hi := a8g (oG := oG) ws ⟨by omega, fun w hw => by have := hwp w hw; omega⟩; rw [hr] at hi; exact hi)
  ·exact ⟨rfl, rfl, rfl, of_decide_eq_true rfl, rfl⟩
  ·exact .inl rfl
  ·exact B1
  ·exact J4 (J3 rfl (S1 fun _ => J3 rfl R9))
  ·exact fun _ => D6 (a4l (B0 fun _ => rfl) (by decide)) (by rfl)
  intro g12
  refine A5 rfl rfl <| B2 rfl rfl rfl <| B2 rfl rfl rfl <| B2 rfl rfl rfl <| H2 rfl (fun _ => C0 rfl) (fun _ => rfl) ?_
  intro g5
  refine C5 rfl rfl rfl rfl ⟨by decide, rfl, of_decide_eq_true rfl, of_decide_eq_true rfl, rfl⟩ rfl (by exact C0 rfl) ?_
  (refine C1 rfl rfl (by (simp; done)) rfl (fun _ => (B5 (by rfl))) (fun _ => rfl) ?_; intro g6)
  refine A3 rfl rfl rfl ?_
  refine A6 ⟨nofun, _, kS [2,4,5,6,7] [2,4,5] rfl, ?_⟩
  refine A4 <| A0 <| G4 rfl rfl rfl rfl rfl <| A5 rfl rfl <| A5 rfl rfl <| G5 rfl rfl rfl <| G5 rfl rfl rfl <| G5 rfl rfl rfl <| G3 rfl rfl rfl rfl <| A5 rfl rfl <| G5 rfl rfl rfl <| G5 rfl rfl rfl <| G5 rfl rfl rfl <| G3 rfl rfl rfl rfl <| C5 rfl rfl rfl rfl ⟨by decide, rfl, of_decide_eq_true rfl, of_decide_eq_true rfl, rfl⟩ rfl (by exact C0 rfl) <| A3 rfl rfl rfl ?_
  refine A6 ⟨nofun, _, kS [2,3] [2] rfl, ?_⟩
  refine B3 <| D8 (G9 rfl rfl rfl rfl (H0 rfl (H0 rfl (H0 rfl K0))) (D9 rfl rfl (F0 C6))) ?_
  obtain ⟨h1, h2⟩ := d0i hws hr
  rw [h1, h2]
  rfl
 skip
 apply C4 rfl
 ·apply A9
  ·exact H9 rfl rfl (by (simp; done)) (fun _ => rfl)
  exact C3
 ·exact (by have hi := a8g (oG := oG) ws ⟨by omega, fun w hw => by have := hwp w hw; omega⟩; rw [hr] at hi; exact hi)
 ·exact ⟨rfl, rfl, rfl, of_decide_eq_true rfl, rfl⟩
 ·exact .inl rfl
 ·exact B1
 ·exact K4 rfl
 ·exact fun _ => D6 (a4l (B0 fun _ => rfl) (by decide)) (by rfl)
 intro g12
 refine A5 rfl rfl <| B2 rfl rfl rfl <| B2 rfl rfl rfl <| B2 rfl rfl rfl <| H2 rfl (fun _ => C0 rfl) (fun _ => rfl) ?_
 intro g5
 refine C5 rfl rfl rfl rfl ⟨by decide, rfl, of_decide_eq_true rfl, of_decide_eq_true rfl, rfl⟩ rfl (by exact C0 rfl) <| A3 rfl rfl rfl <| A3 rfl rfl rfl ?_
 refine A6 ⟨nofun, _, kS [2,4,5,6,7] [2,4,5] rfl, ?_⟩
 refine A4 <| A0 <| G4 rfl rfl rfl rfl rfl <| A5 rfl rfl <| A5 rfl rfl <| T9 rfl rfl rfl <| A5 rfl rfl <| T9 rfl rfl rfl <| H8 rfl rfl <| T9 rfl rfl rfl <| T3 rfl rfl <| F4 rfl rfl rfl rfl <| A5 rfl rfl ?_
 refine D5 rfl rfl (fun hg0 => ?_) (fun hg0 => ?_)
 ·have hg := hg0; try simp only [SG] at hg
  refine A5 rfl rfl <| gT rfl rfl <| V2 rfl rfl <| gT rfl rfl <| b0z rfl rfl <| F4 rfl (by assumption) rfl rfl <| C5 rfl rfl rfl rfl ⟨by decide, rfl, of_decide_eq_true rfl, of_decide_eq_true rfl, rfl⟩ rfl (by exact C0 rfl) <| A3 rfl rfl rfl ?_
  refine A6 ⟨nofun, _, kS [2,3] [2] rfl, ?_⟩
  refine B3 <| D8 (G9 rfl rfl rfl rfl (H0 rfl (H0 rfl (H0 rfl K0))) (D9 rfl rfl (F0 C6))) ?_
  obtain ⟨h1, h2⟩ := c3b hws hr
  rw [h1, h2]
  simp_all
  try rfl
 have hg := hg0; try simp only [SG] at hg
 refine gF rfl rfl <| gF rfl rfl <| G3 rfl (by assumption) rfl rfl <| C5 rfl rfl rfl rfl ⟨by decide, rfl, of_decide_eq_true rfl, of_decide_eq_true rfl, rfl⟩ rfl (by exact C0 rfl) <| A3 rfl rfl rfl ?_
 refine A6 ⟨nofun, _, kS [2,3] [2] rfl, ?_⟩
 refine B3 <| D8 (G9 rfl rfl rfl rfl (H0 rfl (H0 rfl (H0 rfl K0))) (D9 rfl rfl (F0 C6))) ?_
 obtain ⟨h1, h2⟩ := c3b hws hr
 rw [h1, h2]
 simp_all
 try rfl

theorem keep_s_validPlan : G1 Tryd.f24 = [0, 2, 3, 5, 4, 8] := by kernel_rfl
set_option maxHeartbeats 20000000 in
theorem a9b (s : List UInt8) (hs : s.length ≤ 1048576) : CW (cxT oG) 24 [tV s] = some (.tup [trV (ipT s), bV (rdPlan s).isSome], []) := by
 have hip := d3t s
 refine G6 rfl Tryd.func24 rfl ⟨by kernel_rfl, rfl, of_decide_eq_true rfl, of_decide_eq_true rfl, by decide⟩ keep_s_validPlan <| A4 <| A0 <| H2 rfl (fun _ => C0 rfl) (fun _ => rfl) ?_
 intro g2
 refine A3 rfl rfl rfl ?_
 refine A6 ⟨nofun, _, kS [0,2] [2] rfl, ?_⟩
 refine A4 <| A0 <| A5 rfl rfl ?_
 apply C4 rfl
 ·apply A9
  ·exact B4 rfl
  exact C3
 ·exact b8r s hs
 ·exact ⟨rfl, rfl, rfl, of_decide_eq_true rfl, rfl⟩
 ·exact .inl rfl
 ·exact B1
 ·exact K4 rfl
 ·exact fun _ => rfl
 intro g8
 refine A5 rfl rfl <| B2 rfl rfl rfl <| B2 rfl rfl rfl <| H2 rfl (fun _ => C0 rfl) (fun _ => rfl) ?_
 intro g4
 refine C5 rfl rfl rfl rfl ⟨by decide, rfl, of_decide_eq_true rfl, of_decide_eq_true rfl, rfl⟩ rfl (by exact C0 rfl) <| A3 rfl rfl rfl ?_
 refine A6 ⟨nofun, _, kS [0,2,4,5] [2,4] rfl, ?_⟩
 refine A4 <| A0 <| G4 rfl rfl rfl rfl rfl <| A5 rfl rfl <| A5 rfl rfl ?_
 refine D5 rfl rfl (fun hg0 => ?_) (fun hg0 => ?_)
 ·have hg := hg0; try simp only [SG] at hg
  refine A5 rfl rfl <| gT rfl rfl <| a0c rfl rfl <| gT rfl rfl <| b0z rfl rfl <| F4 rfl (by assumption) rfl rfl <| C5 rfl rfl rfl rfl ⟨by decide, rfl, of_decide_eq_true rfl, of_decide_eq_true rfl, rfl⟩ rfl (by exact C0 rfl) <| A3 rfl rfl rfl ?_
  refine A6 ⟨nofun, _, kS [2,3] [2] rfl, ?_⟩
  refine B3 <| D8 (G9 rfl rfl rfl rfl (H0 rfl (H0 rfl (H0 rfl K0))) (D9 rfl rfl (F0 C6))) ?_
  rw [← hip]
  simp_all
  try rfl
 have hg := hg0; try simp only [SG] at hg
 refine gF rfl rfl <| gF rfl rfl <| G3 rfl (by assumption) rfl rfl <| C5 rfl rfl rfl rfl ⟨by decide, rfl, of_decide_eq_true rfl, of_decide_eq_true rfl, rfl⟩ rfl (by exact C0 rfl) <| A3 rfl rfl rfl ?_
 refine A6 ⟨nofun, _, kS [2,3] [2] rfl, ?_⟩
 refine B3 <| D8 (G9 rfl rfl rfl rfl (H0 rfl (H0 rfl (H0 rfl K0))) (D9 rfl rfl (F0 C6))) ?_
 rw [← hip]
 simp_all
 try rfl

theorem keep_s_ValidPlanI : G1 Tryd.f10 = [0, 2, 4, 7] := by kernel_rfl
set_option maxHeartbeats 20000000 in
theorem a7b (s : List UInt8) (hs : s.length ≤ 1048576) : CW (cxT oG) 10 [tV s] = some (bV (rdPlan s).isSome, []) := by
 refine G6 rfl Tryd.func10 rfl ⟨by kernel_rfl, rfl, of_decide_eq_true rfl, of_decide_eq_true rfl, by decide⟩ keep_s_ValidPlanI <| A4 <| A0 <| A3 rfl rfl rfl ?_
 refine A6 ⟨nofun, _, kS [0] [] rfl, ?_⟩
 refine A4 <| A0 <| A5 rfl rfl ?_
 apply C4 rfl
 ·apply A9
  ·exact B4 rfl
  exact C3
 ·exact a9b s hs
 ·exact ⟨rfl, rfl, rfl, of_decide_eq_true rfl, rfl⟩
 ·exact .inl rfl
 ·exact B1
 ·exact K4 rfl
 ·exact fun _ => rfl
 intro g7
 refine A5 rfl rfl <| B2 rfl rfl rfl <| B2 rfl rfl rfl <| H2 rfl (fun _ => C0 rfl) (fun _ => rfl) ?_
 intro g3
 refine C5 rfl rfl rfl rfl ⟨by decide, rfl, of_decide_eq_true rfl, of_decide_eq_true rfl, rfl⟩ rfl (by exact C0 rfl) <| A3 rfl rfl rfl ?_
 refine A6 ⟨nofun, _, kS [4] [] rfl, ?_⟩
 refine A4 <| A0 <| A5 rfl rfl <| A3 rfl rfl rfl ?_
 refine A6 ⟨nofun, _, kS [2] [] rfl, ?_⟩
 refine B3 <| D4 rfl rfl trivial ?_
 rfl

theorem keep_s_ValidPlanS : G1 Tryd.f9 = [0, 2, 4, 7] := by kernel_rfl
set_option maxHeartbeats 20000000 in
theorem a2p (s : List UInt8) (hs : s.length ≤ 1048576) : CW (cxT oG) 9 [tV s] = some (bV (rdPlan s).isSome, []) := by
 refine G6 rfl Tryd.func9 rfl ⟨by kernel_rfl, rfl, of_decide_eq_true rfl, of_decide_eq_true rfl, by decide⟩ keep_s_ValidPlanS <| A4 <| A0 <| A3 rfl rfl rfl ?_
 refine A6 ⟨nofun, _, kS [0] [] rfl, ?_⟩
 refine A4 <| A0 <| A5 rfl rfl ?_
 apply C4 rfl
 ·apply A9
  ·exact B4 rfl
  exact C3
 ·exact c0m s hs
 ·exact ⟨rfl, rfl, rfl, of_decide_eq_true rfl, rfl⟩
 ·exact .inl rfl
 ·exact B1
 ·exact K4 rfl
 ·exact fun _ => rfl
 intro g7
 refine A5 rfl rfl <| B2 rfl rfl rfl <| B2 rfl rfl rfl <| H2 rfl (fun _ => C0 rfl) (fun _ => rfl) ?_
 intro g3
 refine C5 rfl rfl rfl rfl ⟨by decide, rfl, of_decide_eq_true rfl, of_decide_eq_true rfl, rfl⟩ rfl (by exact C0 rfl) <| A3 rfl rfl rfl ?_
 refine A6 ⟨nofun, _, kS [4] [] rfl, ?_⟩
 refine A4 <| A0 <| A5 rfl rfl <| A3 rfl rfl rfl ?_
 refine A6 ⟨nofun, _, kS [2] [] rfl, ?_⟩
 refine B3 <| D4 rfl rfl trivial ?_
 rfl

theorem keep_s_codeI : G1 Tryd.f29 = [0, 2, 1, 9, 8, 10, 7, 5, 3, 20] := by kernel_rfl
set_option maxHeartbeats 20000000 in
theorem c9q (t : Pl) (ht : t.sz ≤ 1000) (hgd : t.good) : CW (cxT oG) 29 [trK t] = some (.own 1 ((a1v t).map tV), []) := by
 obtain ⟨kk, hkk⟩ : ∃ kk : Nat, t.sz < kk := ⟨_, Nat.lt_succ_self _⟩
 revert t
 induction kk with
 | zero => intro t ht hgd hkk; exact absurd hkk (Nat.not_lt_zero _)
 | succ kk ih =>
  intro t ht hgd hkk
  have hkl := c6i t
  have hcl := fun i => Q4 (t.kids.getD i default)
  have hkz := fun i => c9l (t := t) (i := i)
  have hkg := fun i => c8b hgd (i := i)
  have hnl := fun i => c5n (t := t) (i := i)
  have hco := fun h => c9d (t := t) h
  refine G6 rfl Tryd.func29 rfl ⟨by kernel_rfl, rfl, of_decide_eq_true rfl, of_decide_eq_true rfl, by decide⟩ keep_s_codeI <| A4 <| A0 <| b7t rfl rfl rfl (fun _ => C0 rfl) (fun _ => rfl) ?_
  intro g1
  (refine B8 rfl rfl (fun _ => rfl) ?_; intro g2)
  refine A6 ⟨nofun, _, kS [1] [1] rfl, ?_⟩
  refine A4 <| A0 ?_
  (refine B8 rfl rfl (fun _ => rfl) ?_; intro g3)
  refine A6 ⟨nofun, _, kS [1,3] [1,3] rfl, ?_⟩
  refine A4 <| A4 <| A0 <| E9 rfl rfl (of_decide_eq_true rfl) rfl rfl <| F7 rfl rfl rfl rfl rfl rfl <| H8 rfl rfl <| A5 rfl rfl ?_
  refine A6 ⟨nofun, _, kS [1,3,7,8,9] [1,3] rfl, ?_⟩
  refine E7 <| N7 (β := Nat × List W8 × Nat) [(.t 1, _), (.t 7, _), (.t 8, _), (.h 1, _)] (fun (z : Nat × List W8 × Nat) => match z with | (i, cs, g) => [(.t 9, iV i), (.h 3, .obj g 0 1 (cs.map tV)), (.t 3, .sl 3 g none 0 cs.length)]) (fun (z : Nat × List W8 × Nat) => match z with | (i, cs, g) => i ≤ t.kids.length ∧ cs = a3h t i) (fun (z : Nat × List W8 × Nat) => match z with | (i, cs, g) => t.kids.length - i) (0, [], _) ⟨rfl, rfl, rfl, rfl, rfl, rfl, rfl, trivial⟩ ⟨Nat.zero_le _, rfl⟩ ?_
  intro z hb
  obtain ⟨i, cs, g⟩ := z
  try dsimp only at hb
  obtain ⟨hi1, ha⟩ := hb
  have hnb := hnl i hi1
  rw [← ha] at hnb
  refine A4 <| A0 <| M1 rfl rfl ?_
  refine A6 ⟨nofun, _, kS [1,3,7,8,9,10] [1,3] rfl, ?_⟩
  refine A4 ?_
  refine A8 rfl (fun hc => ?_) (fun hc => ?_)
  ·try simp only [SG, List.length_map] at hc
   refine B9 <| A4 <| E7 <| A4 <| A0 <| J0 rfl rfl rfl (fun _ => rfl) (by omega) <| H1 rfl rfl rfl <| H2 rfl (fun _ => C0 rfl) (fun _ => rfl) ?_
   intro g5
   refine C5 rfl rfl rfl rfl ⟨by decide, rfl, of_decide_eq_true rfl, of_decide_eq_true rfl, rfl⟩ rfl (by exact C0 rfl) ?_
   refine A6 ⟨nofun, _, kS [1,3,5,7,8,9] [1,3,5] rfl, ?_⟩
   refine A0 <| A5 rfl rfl <| G4 rfl rfl rfl rfl rfl ?_
   have h1 := hcl i
   have h2 := hkz i (by omega)
   apply C4 rfl
   ·apply A9
    ·exact B4 rfl
    exact C3
   ·exact (by have hk2 := c9l (t := t) (i := i) (by omega); have hi := ih (t.kids.getD i default) (by omega) (hkg i (by omega)) (by omega); rw [← d1o] at hi; exact hi)
   ·exact ⟨rfl, rfl, rfl, of_decide_eq_true rfl, rfl⟩
   ·exact .inl rfl
   ·exact B1
   ·exact Y2
   ·exact fun _ => rfl
   intro g15
   simp only [List.length_map]
   refine H7 rfl rfl rfl rfl (by (simp; done)) (by simp) (by decide) rfl rfl rfl rfl (of_decide_eq_true rfl) (fun _ => ⟨rfl, rfl⟩) (by simp only [G8]; omega) (fun _ => rfl) ?_
   intro g16
   (refine C1 rfl rfl (by (simp; done)) rfl (fun _ => (B5 (by exact B0 fun _ => rfl))) (fun _ => rfl) ?_; intro g3)
   refine A6 ⟨nofun, _, kS [1,3,7,8,9] [1,3] rfl, ?_⟩
   refine A0 <| L5 rfl rfl (G2 (by omega)) <| A5 rfl rfl ?_
   refine A6 ⟨nofun, _, kS [1,3,7,8,9] [1,3] rfl, ?_⟩
   refine ⟨(i + 1, _, _), ⟨by omega, by rw [a3h, ← ha]⟩, (by simp only; omega), ⟨rfl, rfl, rfl, rfl, rfl, rfl, rfl, trivial⟩⟩
  try simp only [SG, List.length_map] at hc
  refine K6 <| A4 <| A4 <| A0 <| E9 rfl rfl (of_decide_eq_true rfl) rfl rfl <| F7 rfl rfl rfl rfl rfl rfl <| b4r rfl rfl ?_
  refine A6 ⟨nofun, _, kS [1,3,20] [1,3] rfl, ?_⟩
  refine A8 rfl (fun hc => ?_) (fun hc => ?_)
  ·try simp only [SG, List.length_map] at hc
   obtain ⟨ns, rfl, hv⟩ := c5j hgd (by assumption)
   refine A4 <| A0 <| A5 rfl rfl <| E9 rfl rfl (of_decide_eq_true rfl) rfl rfl <| F7 rfl rfl rfl rfl rfl rfl ?_
   have hl := c8m hv
   have hnb := d1s hv
   have hll := Z8 hnb
   apply C4 rfl
   ·apply A9
    ·exact B4 rfl
    exact C3
   ·exact a3z ns (by omega) hnb
   ·exact ⟨rfl, rfl, rfl, of_decide_eq_true rfl, rfl⟩
   ·exact .inl rfl
   ·exact B1
   ·exact B7 rfl
   ·exact fun _ => rfl
   intro g24
   refine D7 (es := List.map tV [_]) rfl rfl (of_decide_eq_true rfl) rfl rfl (fun _ => B5 (B0 fun _ => rfl)) (fun _ => rfl) ?_
   intro g25
   refine H7 rfl rfl rfl rfl (by (simp; done)) (by simp) (by decide) rfl rfl rfl rfl (of_decide_eq_true rfl) (fun _ => ⟨rfl, rfl⟩) (by simp only [G8]; (simp only [List.length_nil, List.length_cons, List.length_append, Nat.zero_add, List.length_map]; omega)) (fun _ => rfl) ?_
   intro g26
   (refine C1 rfl rfl (by (simp; done)) rfl (fun _ => (B5 (by exact B0 fun _ => rfl))) (fun _ => rfl) ?_; intro g2)
   refine A6 ⟨nofun, _, kS [2] [2] rfl, ?_⟩
   refine B3 <| a0m rfl rfl (by simp) (by exact B0 fun _ => rfl) trivial ?_
   rw [ha, c4o ns i hi1]
  try simp only [SG, List.length_map] at hc
  refine B9 <| A4 <| A0 <| A5 rfl rfl <| E9 rfl rfl (of_decide_eq_true rfl) rfl rfl <| F7 rfl rfl rfl rfl rfl rfl <| D7 (es := List.map tV [_]) rfl rfl (of_decide_eq_true rfl) rfl rfl (fun _ => B5 (B0 fun _ => rfl)) (fun _ => rfl) ?_
  intro g30
  refine H7 rfl rfl rfl rfl (by (simp; done)) (by simp) (by decide) rfl rfl rfl rfl (of_decide_eq_true rfl) (fun _ => ⟨rfl, rfl⟩) (by simp only [G8]; (simp only [List.length_nil, List.length_cons, List.length_append, Nat.zero_add, List.length_map]; omega)) (fun _ => rfl) ?_
  intro g31
  (refine C1 rfl rfl (by (simp; done)) rfl (fun _ => (B5 (by exact B0 fun _ => rfl))) (fun _ => rfl) ?_; intro g2)
  refine A6 ⟨nofun, _, kS [2] [2] rfl, ?_⟩
  refine B3 <| a0m rfl rfl (by simp) (by exact B0 fun _ => rfl) trivial ?_
  rw [ha, show i = t.kids.length by omega, hco (by assumption)]

theorem keep_s_ClipT : G1 Tryd.f28 = [0, 2] := by kernel_rfl
set_option maxHeartbeats 20000000 in
theorem d1e (xs : List W8) (hx : xs.length ≤ G8) : CW (cxT oG) 28 [.own 1 (xs.map tV)] = some (.own 1 (xs.map tV), []) := by
 refine G6 rfl Tryd.func28 rfl ⟨by kernel_rfl, rfl, of_decide_eq_true rfl, of_decide_eq_true rfl, by decide⟩ keep_s_ClipT <| A4 <| A0 ?_
 (refine B8 rfl rfl (fun _ => rfl) ?_; intro g2)
 refine A6 ⟨nofun, _, kS [0] [0] rfl, ?_⟩
 refine A4 <| A0 <| A5 rfl rfl <| A5 rfl rfl <| V2 rfl rfl <| A5 rfl rfl <| V2 rfl rfl ?_
 refine d1w rfl rfl rfl rfl rfl rfl (fun hz => ?_) (fun hz => ?_)
 ·skip
  (refine B8 rfl rfl (fun _ => rfl) ?_; intro g2)
  refine A6 ⟨nofun, _, kS [2] [0,2] rfl, ?_⟩
  refine B3 <| a0m rfl rfl (by (simp; done)) (by rfl) trivial ?_
  (have h0 : xs = [] := (by simpa using hz); subst h0; rfl)
 skip
 (refine C1 rfl rfl (by (simp; done)) rfl (fun _ => (B5 (by exact B0 fun _ => rfl))) (fun _ => rfl) ?_; intro g2)
 refine A6 ⟨nofun, _, kS [2] [0,2] rfl, ?_⟩
 refine B3 <| a0m rfl rfl (by (simp; done)) (by exact B0 fun _ => rfl) trivial ?_
 rfl

theorem keep_s_CodeOfI : G1 Tryd.f14 = [0, 2, 4, 11, 3, 7] := by kernel_rfl
set_option maxHeartbeats 20000000 in
theorem c5b (s : List UInt8) (hs : s.length ≤ 1048576) : CW (cxT oG) 14 [tV s] = some (.own 1 ((b4n s).map tV), []) := by
 refine G6 rfl Tryd.func14 rfl ⟨by kernel_rfl, rfl, of_decide_eq_true rfl, of_decide_eq_true rfl, by decide⟩ keep_s_CodeOfI <| A4 <| A0 ?_
 (refine B8 rfl rfl (fun _ => rfl) ?_; intro g2)
 refine A6 ⟨nofun, _, kS [0] [] rfl, ?_⟩
 refine A4 <| A0 <| A5 rfl rfl ?_
 apply C4 rfl
 ·apply A9
  ·exact B4 rfl
  exact C3
 ·exact a9b s hs
 ·exact ⟨rfl, rfl, rfl, of_decide_eq_true rfl, rfl⟩
 ·exact .inl rfl
 ·exact B1
 ·exact K4 rfl
 ·exact fun _ => rfl
 intro g7
 refine A5 rfl rfl <| B2 rfl rfl rfl <| B2 rfl rfl rfl <| H2 rfl (fun _ => C0 rfl) (fun _ => rfl) ?_
 intro g3
 refine C5 rfl rfl rfl rfl ⟨by decide, rfl, of_decide_eq_true rfl, of_decide_eq_true rfl, rfl⟩ rfl (by exact C0 rfl) <| A3 rfl rfl rfl ?_
 refine A6 ⟨nofun, _, kS [3,4] [3] rfl, ?_⟩
 refine A4 <| A4 <| A0 <| A5 rfl rfl <| P2 rfl ?_
 refine A6 ⟨nofun, _, kS [3,11] [3] rfl, ?_⟩
 refine A8 rfl (fun hc => ?_) (fun hc => ?_)
 ·try simp only [SG, List.length_map] at hc
  refine A4 <| A0 ?_
  (refine B8 rfl rfl (fun _ => rfl) ?_; intro g2)
  refine A6 ⟨nofun, _, kS [2] [2] rfl, ?_⟩
  refine B3 <| a0m rfl rfl (by simp) (by rfl) trivial ?_
  rw [c2l hc]
  rfl
 try simp only [SG, List.length_map] at hc
 refine B9 <| A4 <| A0 <| G4 rfl rfl rfl rfl rfl ?_
 obtain ⟨t, ht1, ht2, ht3⟩ := c2j hc
 have hpg := a8r hs ht1
 rw [d2n ht1, d1o]
 apply C4 rfl
 ·apply A9
  ·exact B4 rfl
  exact C3
 ·exact c9q t (by omega) hpg
 ·exact ⟨rfl, rfl, rfl, of_decide_eq_true rfl, rfl⟩
 ·exact .inl rfl
 ·exact B1
 ·exact Y2
 ·exact fun _ => rfl
 intro g13
 simp only [List.length_map]
 apply C4 rfl
 ·apply A9
  ·exact c9z rfl rfl (by (simp; done)) (B0 fun _ => rfl)
  exact C3
 ·exact d1e (a1v t) (by rw [Q4]; simp only [G8]; omega)
 ·exact ⟨rfl, rfl, rfl, of_decide_eq_true rfl, rfl⟩
 ·exact .inl rfl
 ·exact B1
 ·exact Y2
 ·exact fun _ => rfl
 intro g14
 simp only [List.length_map]
 (refine C1 rfl rfl (by (simp; done)) rfl (fun _ => (B5 (by exact B0 fun _ => rfl))) (fun _ => rfl) ?_; intro g2)
 refine A6 ⟨nofun, _, kS [2] [2] rfl, ?_⟩
 refine B3 <| a0m rfl rfl (by simp) (by exact B0 fun _ => rfl) trivial ?_
 rw [b2l ht1]

theorem keep_s_pick : G1 Tryd.f46 = [0, 1, 4, 24, 5, 36, 6] := by kernel_rfl
set_option maxHeartbeats 20000000 in
theorem Y4 (bs : List Int) (p : Int) (hbs : a2s bs) (hl : bs.length ≤ 1048576) (hp : 0 ≤ p ∧ p ≤ 1000000000) (n : Int) (hn : n ≤ 1000000000) : ∃ res outs, (fun res outs => ∃ k, res = iV k ∧ outs = [[rdr bs (p + 1)]] ∧ (1 ≤ n → 0 ≤ k ∧ k < n) ∧ (n < 1 → k = 0)) res outs ∧ CW (cxT oG) 46 [.ownp [rdr bs p] 0 0, iV n] = some (res, outs) := by
 refine Q5 rfl Tryd.func46 rfl ⟨by kernel_rfl, rfl, of_decide_eq_true rfl, of_decide_eq_true rfl, by decide⟩ keep_s_pick <| A4 <| A0 <| A3 rfl rfl rfl ?_
 refine A6 ⟨nofun, _, kS [0,1] [0] rfl, ?_⟩
 refine A4 <| A0 <| A5 rfl rfl <| A5 rfl rfl <| M2 rfl rfl rfl <| E9 rfl rfl (of_decide_eq_true rfl) rfl rfl <| F7 rfl rfl rfl rfl rfl rfl <| L5 rfl rfl (G2 (by omega)) <| M2 rfl rfl rfl <| E9 rfl rfl (of_decide_eq_true rfl) rfl rfl <| c3r rfl rfl rfl rfl rfl ⟨by decide, rfl, of_decide_eq_true rfl, of_decide_eq_true rfl, rfl⟩ (by exact c4r rfl) ?_
 refine A6 ⟨nofun, _, kS [0,1] [0] rfl, ?_⟩
 refine A4 <| A4 <| A0 <| A5 rfl rfl <| M1 rfl rfl <| A5 rfl rfl ?_
 refine D5 rfl rfl (fun hg0 => ?_) (fun hg0 => ?_)
 ·have hg := hg0; try simp only [SG] at hg
  refine A5 rfl rfl <| gT rfl rfl <| M2 rfl rfl rfl <| gT rfl rfl <| E9 rfl rfl (of_decide_eq_true rfl) rfl rfl <| gT rfl rfl <| F7 rfl rfl rfl rfl rfl rfl <| gT rfl rfl <| H8 rfl rfl <| gT rfl rfl <| T3 rfl rfl <| G3 rfl (by assumption) rfl rfl ?_
  refine A6 ⟨nofun, _, kS [0,1,24] [0] rfl, ?_⟩
  refine A8 rfl (fun hc => ?_) (fun hc => ?_)
  ·try simp only [SG, List.length_map] at hc
   refine A4 <| A0 <| A3 rfl rfl rfl ?_
   refine A6 ⟨nofun, _, kS [4] [0] rfl, ?_⟩
   refine B3 ?_
   refine ⟨_, _, ?_, I4 rfl rfl (I1 rfl rfl)⟩
   refine ⟨_, rfl, rfl, fun h => ?_, fun h => ?_⟩
   ·omega
   omega
  try simp only [SG, List.length_map] at hc
  refine B9 <| A4 <| A0 <| A5 rfl rfl <| M2 rfl rfl rfl <| E9 rfl rfl (of_decide_eq_true rfl) rfl rfl <| F7 rfl rfl rfl rfl rfl rfl <| a0x rfl rfl (G2 (by omega)) <| A3 rfl rfl rfl ?_
  refine A6 ⟨nofun, _, kS [0,1,5] [0] rfl, ?_⟩
  refine A4 <| A4 <| A0 <| A5 rfl rfl <| A5 rfl rfl <| M2 rfl rfl rfl <| E9 rfl rfl (of_decide_eq_true rfl) rfl rfl <| F7 rfl rfl rfl rfl rfl rfl <| H8 rfl rfl <| M1 rfl rfl ?_
  refine A6 ⟨nofun, _, kS [0,1,5,36] [0] rfl, ?_⟩
  refine A8 rfl (fun hc => ?_) (fun hc => ?_)
  ·try simp only [SG, List.length_map] at hc
   refine A4 <| A0 <| A5 rfl rfl <| M2 rfl rfl rfl <| E9 rfl rfl (of_decide_eq_true rfl) rfl rfl <| F7 rfl rfl rfl rfl rfl rfl <| A5 rfl rfl <| Q6 rfl rfl rfl (fun _ => rfl) (by omega) <| H1 rfl rfl rfl <| a7o rfl rfl rfl (G2 (by have := hbs.getD (p + 1 - 1).toNat; omega)) <| A5 rfl rfl ?_
   have hk := hbs.getD (p + 1 - 1).toNat
   refine b7m rfl rfl (by omega) <| A3 rfl rfl rfl ?_
   refine A6 ⟨nofun, _, kS [4] [0] rfl, ?_⟩
   refine B3 ?_
   refine ⟨_, _, ?_, I4 rfl rfl (I1 rfl rfl)⟩
   refine ⟨_, rfl, rfl, fun h => ?_, fun h => ?_⟩
   ·exact b0e (by omega) (by omega)
   omega
  try simp only [SG, List.length_map] at hc
  refine B9 <| A4 <| A0 <| A5 rfl rfl <| M2 rfl rfl rfl <| E9 rfl rfl (of_decide_eq_true rfl) rfl rfl <| F7 rfl rfl rfl rfl rfl rfl <| A5 rfl rfl <| A5 rfl rfl <| M2 rfl rfl rfl <| E9 rfl rfl (of_decide_eq_true rfl) rfl rfl <| F7 rfl rfl rfl rfl rfl rfl <| H8 rfl rfl ?_
  have hlen : 0 < (bs.length : Int) := by omega
  refine b7m rfl rfl (by omega) ?_
  have hm1 := b0e (a := p + 1 - 1) (by omega) hlen
  refine Q6 rfl rfl rfl (fun _ => rfl) (by omega) <| H1 rfl rfl rfl <| a7o rfl rfl rfl (G2 (by have := hbs.getD ((p + 1 - 1).tmod bs.length).toNat; omega)) ?_
  have hk := hbs.getD ((p + 1 - 1).tmod bs.length).toNat
  refine a8n rfl rfl (G2 (by omega)) <| A5 rfl rfl <| M2 rfl rfl rfl <| E9 rfl rfl (of_decide_eq_true rfl) rfl rfl <| F7 rfl rfl rfl rfl rfl rfl <| A5 rfl rfl <| a8n rfl rfl (G2 (by omega)) <| L5 rfl rfl (G2 (by omega)) <| A5 rfl rfl <| M2 rfl rfl rfl <| E9 rfl rfl (of_decide_eq_true rfl) rfl rfl <| F7 rfl rfl rfl rfl rfl rfl <| H8 rfl rfl <| b7m rfl rfl (by omega) ?_
  have hm2 := b0e (a := (p + 1 - 1) * 7 + 3) (by omega) hlen
  refine Q6 rfl rfl rfl (fun _ => rfl) (by omega) <| H1 rfl rfl rfl <| a7o rfl rfl rfl (G2 (by have := hbs.getD (((p + 1 - 1) * 7 + 3).tmod bs.length).toNat; omega)) ?_
  have hk2 := hbs.getD (((p + 1 - 1) * 7 + 3).tmod bs.length).toNat
  refine a8n rfl rfl (G2 (by omega)) <| L5 rfl rfl (G2 (by omega)) <| A5 rfl rfl <| a8n rfl rfl (G2 (by omega)) <| L5 rfl rfl (G2 (by omega)) <| A5 rfl rfl <| A5 rfl rfl <| M2 rfl rfl rfl <| E9 rfl rfl (of_decide_eq_true rfl) rfl rfl <| F7 rfl rfl rfl rfl rfl rfl <| H8 rfl rfl ?_
  have hd := c3v (a := p + 1 - 1) (b := bs.length) (by omega) (by omega)
  refine c6d rfl rfl ⟨by omega, G2 (by omega)⟩ <| a8n rfl rfl (G2 (by omega)) <| L5 rfl rfl (G2 (by omega)) <| A3 rfl rfl rfl ?_
  refine A6 ⟨fun _ => ⟨by decide +kernel, by decide +kernel⟩, [(.t 1, _), (.t 6, _), (.h 0, _)], ⟨rfl, rfl, rfl, rfl, rfl, rfl, trivial⟩, ?_⟩
  refine A4 <| A0 <| A5 rfl rfl <| A5 rfl rfl ?_
  have hd2 := c3v (a := (bs.getD ((p + 1 - 1).tmod bs.length).toNat default * 131 + bs.getD (((p + 1 - 1) * 7 + 3).tmod bs.length).toNat default * 1117 + (p + 1 - 1) * 29 + (p + 1 - 1).tdiv bs.length * 53)) (b := 64) (by omega) (by decide)
  refine c6d rfl rfl ⟨by omega, G2 (by omega)⟩ ?_
  have hx := d2u (x := (bs.getD ((p + 1 - 1).tmod bs.length).toNat default * 131 + bs.getD (((p + 1 - 1) * 7 + 3).tmod bs.length).toNat default * 1117 + (p + 1 - 1) * 29 + (p + 1 - 1).tdiv bs.length * 53)) (by omega) (y := (bs.getD ((p + 1 - 1).tmod bs.length).toNat default * 131 + bs.getD (((p + 1 - 1) * 7 + 3).tmod bs.length).toNat default * 1117 + (p + 1 - 1) * 29 + (p + 1 - 1).tdiv bs.length * 53).tdiv 64) (by omega)
  refine d3w rfl rfl <| A3 rfl rfl rfl ?_
  refine A6 ⟨nofun, _, kS [1,6] [0] rfl, ?_⟩
  refine A4 <| A0 <| A5 rfl rfl <| A5 rfl rfl <| b7m rfl rfl (by omega) <| A3 rfl rfl rfl ?_
  refine A6 ⟨nofun, _, kS [4] [0] rfl, ?_⟩
  refine B3 ?_
  refine ⟨_, _, ?_, I4 rfl rfl (I1 rfl rfl)⟩
  refine ⟨_, rfl, rfl, fun h => ?_, fun h => ?_⟩
  ·exact b0e (by omega) (by omega)
  omega
 have hg := hg0; try simp only [SG] at hg
 refine gF rfl rfl <| gF rfl rfl <| gF rfl rfl <| gF rfl rfl <| gF rfl rfl <| F4 rfl (by assumption) rfl rfl ?_
 refine A6 ⟨nofun, _, kS [0,1,24] [0] rfl, ?_⟩
 refine A8 rfl (fun hc => ?_) (fun hc => absurd hc (by decide))
 refine A4 <| A0 <| A3 rfl rfl rfl ?_
 refine A6 ⟨nofun, _, kS [4] [0] rfl, ?_⟩
 refine B3 ?_
 refine ⟨_, _, ?_, I4 rfl rfl (I1 rfl rfl)⟩
 refine ⟨_, rfl, rfl, fun h => ?_, fun h => ?_⟩
 ·omega
 omega

theorem keep_s_one : G1 Tryd.f45 = [0, 1, 4] := by kernel_rfl
set_option maxHeartbeats 20000000 in
theorem c8r (bs : List Int) (p : Int) (hbs : a2s bs) (hl : bs.length ≤ 1048576) (hp : 0 ≤ p ∧ p ≤ 1000000000) (xs : List Int) (hx : 1 ≤ xs.length ∧ xs.length ≤ 1000) : ∃ res outs, (fun res outs => ∃ k, res = iV k ∧ outs = [[rdr bs (p + 1)]] ∧ k ∈ xs) res outs ∧ CW (cxT oG) 45 [.ownp [rdr bs p] 0 0, L xs] = some (res, outs) := by
 refine Q5 rfl Tryd.func45 rfl ⟨by kernel_rfl, rfl, of_decide_eq_true rfl, of_decide_eq_true rfl, by decide⟩ keep_s_one <| A4 <| A0 <| A3 rfl rfl rfl ?_
 refine A6 ⟨nofun, _, kS [0,1] [0] rfl, ?_⟩
 refine A4 <| A0 <| A5 rfl rfl <| A5 rfl rfl <| A5 rfl rfl <| H8 rfl rfl ?_
 obtain ⟨_, _, ⟨k, rfl, rfl, hk1, hk2⟩, hC⟩ := Y4 (oG := oG) bs p hbs hl hp xs.length (by omega)
 have hk1 := hk1 (by omega)
 apply C4 rfl
 ·apply A9
  ·exact J2 rfl (by decide) rfl
  apply A9
  ·exact B4 rfl
  exact C3
 ·exact hC
 ·exact ⟨rfl, rfl, rfl, of_decide_eq_true rfl, rfl⟩
 ·exact .inl rfl
 ·exact F6 rfl rfl rfl B1
 ·exact B7 rfl
 ·exact fun _ => rfl
 intro g9
 refine Q6 rfl rfl rfl (fun _ => rfl) (by omega) <| H1 rfl rfl rfl <| A3 rfl rfl rfl ?_
 refine A6 ⟨nofun, _, kS [4] [0] rfl, ?_⟩
 refine B3 ?_
 refine ⟨_, _, ?_, I4 rfl rfl (I1 rfl rfl)⟩
 refine ⟨_, rfl, rfl, a1j (by omega)⟩

theorem keep_s_newReader : G1 Tryd.f35 = [0, 2, 5] := by kernel_rfl
set_option maxHeartbeats 20000000 in
theorem b7u (bs : List Int) (hl : bs.length ≤ 1048576) : ∃ res outs, (fun res outs => res = .ownp [rdr (bs.take 2000) 0] 0 0 ∧ outs = []) res outs ∧ CW (cxT oG) 35 [.list (bs.map uV)] = some (res, outs) := by
 refine Q5 rfl Tryd.func35 rfl ⟨by kernel_rfl, rfl, of_decide_eq_true rfl, of_decide_eq_true rfl, by decide⟩ keep_s_newReader <| A4 <| A0 <| A3 rfl rfl rfl ?_
 refine A6 ⟨nofun, _, kS [0] [] rfl, ?_⟩
 refine A4 <| A4 <| A0 <| A5 rfl rfl <| H8 rfl rfl <| V3 rfl rfl ?_
 refine A6 ⟨nofun, _, kS [0,5] [] rfl, ?_⟩
 refine A8 rfl (fun hc => ?_) (fun hc => ?_)
 ·try simp only [SG, List.length_map] at hc
  refine A0 <| A5 rfl rfl <| L3 rfl rfl rfl (Mv.sized_map fun _ => rfl) (H4 rfl) H6 (by (simp; omega)) <| A3 rfl rfl rfl ?_
  refine A6 ⟨nofun, _, kS [0] [] rfl, ?_⟩
  refine A4 <| A0 <| A5 rfl rfl <| K7 (fs := [_, _]) rfl rfl rfl rfl rfl <| b7t rfl rfl rfl (fun _ => C0 rfl) (fun _ => rfl) ?_
  intro g10
  (refine a5s rfl rfl rfl rfl (fun _ => C0 rfl) (fun _ => rfl) ?_; intro g2)
  refine A6 ⟨nofun, _, kS [2] [2] rfl, ?_⟩
  refine B3 ?_
  refine ⟨_, _, ?_, c3t rfl rfl rfl C6⟩
  have e : rdr (bs.take 2000) 0 = .agg [.list ((bs.map uV).take 2000), iV 0] := by unfold rdr; rw [List.map_take]
  rw [e]
  exact ⟨rfl, rfl⟩
 try simp only [SG, List.length_map] at hc
 refine B9 <| A4 <| A0 <| A5 rfl rfl <| K7 (fs := [_, _]) rfl rfl rfl rfl rfl <| b7t rfl rfl rfl (fun _ => C0 rfl) (fun _ => rfl) ?_
 intro g10
 (refine a5s rfl rfl rfl rfl (fun _ => C0 rfl) (fun _ => rfl) ?_; intro g2)
 refine A6 ⟨nofun, _, kS [2] [2] rfl, ?_⟩
 refine B3 ?_
 refine ⟨_, _, ?_, c3t rfl rfl rfl C6⟩
 have e : bs.take 2000 = bs := List.take_of_length_le (by omega)
 rw [e]
 exact ⟨rfl, rfl⟩

theorem keep_s_ofT : G1 Tryd.f56 = [0, 1, 4] := by kernel_rfl
set_option maxHeartbeats 20000000 in
theorem a8v (bs : List Int) (p : Int) (hbs : a2s bs) (hl : bs.length ≤ 1048576) (hp : 0 ≤ p ∧ p ≤ 1000000000) (ss : List W8) (hs : 1 ≤ ss.length ∧ ss.length ≤ 1000) : ∃ res outs, (fun res outs => ∃ k, res = tV k ∧ outs = [[rdr bs (p + 1)]] ∧ k ∈ ss) res outs ∧ CW (cxT oG) 56 [.ownp [rdr bs p] 0 0, .list (ss.map tV)] = some (res, outs) := by
 refine Q5 rfl Tryd.func56 rfl ⟨by kernel_rfl, rfl, of_decide_eq_true rfl, of_decide_eq_true rfl, by decide⟩ keep_s_ofT <| A4 <| A0 <| A3 rfl rfl rfl ?_
 refine A6 ⟨nofun, _, kS [0,1] [0] rfl, ?_⟩
 refine A4 <| A0 <| A5 rfl rfl <| A5 rfl rfl <| A5 rfl rfl <| H8 rfl rfl ?_
 obtain ⟨_, _, ⟨k, rfl, rfl, hk, -⟩, hC⟩ := Y4 (oG := oG) bs (p) hbs hl (by omega) (ss.length) (by omega)
 have hk := hk (by omega)
 apply C4 rfl
 ·apply A9
  ·exact J2 rfl (by decide) rfl
  apply A9
  ·exact B4 rfl
  exact C3
 ·exact hC
 ·exact ⟨rfl, rfl, rfl, of_decide_eq_true rfl, rfl⟩
 ·exact .inl rfl
 ·exact F6 rfl rfl rfl B1
 ·exact B7 rfl
 ·exact fun _ => rfl
 intro g9
 refine Q6 rfl rfl rfl (fun _ => rfl) (by omega) <| H1 rfl rfl rfl <| A3 rfl rfl rfl ?_
 refine A6 ⟨nofun, _, kS [4] [0] rfl, ?_⟩
 refine B3 ?_
 refine ⟨_, _, ?_, I4 rfl rfl (I1 rfl rfl)⟩
 refine ⟨_, rfl, rfl, Z6 (by omega)⟩

theorem keep_s_planText : G1 Tryd.f44 = [0, 1, 4, 15, 18, 6, 5, 29, 42, 7, 50, 8] := by kernel_rfl
set_option maxHeartbeats 20000000 in
theorem c1j (bs : List Int) (p : Int) (d : Nat) (hbs : a2s bs) (hl : bs.length ≤ 1048576) (hp : 0 ≤ p ∧ p + gN d ≤ 50000000)  (hd : d ≤ 5) : ∃ res outs, (fun res outs => ∃ (x : W8) (q : Int), res = tV x ∧ outs = [[rdr bs q]] ∧ p ≤ q ∧ q ≤ p + gN d ∧ x.length ≤ lN d) res outs ∧ CW (cxT oG) 44 [.ownp [rdr bs p] 0 0, iV d] = some (res, outs) := by
 obtain ⟨kk, hkk⟩ : ∃ kk : Nat, d < kk := ⟨_, Nat.lt_succ_self _⟩
 revert bs p d
 induction kk with
 | zero => intro bs p d hbs hl hp hd hkk; exact absurd hkk (Nat.not_lt_zero _)
 | succ kk ih =>
  intro bs p d hbs hl hp hd hkk
  have hgd := b5c d
  have hld := c0e d
  refine Q5 rfl Tryd.func44 rfl ⟨by kernel_rfl, rfl, of_decide_eq_true rfl, of_decide_eq_true rfl, by decide⟩ keep_s_planText <| A4 <| A0 <| A3 rfl rfl rfl ?_
  refine A6 ⟨nofun, _, kS [0,1] [0] rfl, ?_⟩
  refine A4 <| A4 <| A0 <| A5 rfl rfl <| T3 rfl rfl <| A5 rfl rfl ?_
  refine D5 rfl rfl (fun hg0 => ?_) (fun hg0 => ?_)
  ·have hg := hg0; try simp only [SG] at hg
   refine A5 rfl rfl <| gT rfl rfl ?_
   obtain ⟨_, _, ⟨k0, rfl, rfl, hk0, -⟩, hC0⟩ := Y4 (oG := oG) bs (p) hbs hl (by omega) (5) (by omega)
   have hk0 := hk0 (by omega)
   apply C4 rfl
   ·apply A9
    ·exact J2 rfl (by decide) rfl
    apply A9
    ·exact B4 rfl
    exact C3
   ·exact hC0
   ·exact ⟨rfl, rfl, rfl, of_decide_eq_true rfl, rfl⟩
   ·exact .inl rfl
   ·exact F6 rfl rfl rfl B1
   ·exact B7 rfl
   ·exact fun _ => rfl
   intro g13
   refine gT rfl rfl <| T3 rfl rfl <| G3 rfl (by assumption) rfl rfl ?_
   refine A6 ⟨nofun, _, kS [0,1,15] [0] rfl, ?_⟩
   refine A8 rfl (fun hc => ?_) (fun hc => ?_)
   ·try simp only [SG, List.length_map] at hc
    refine A4 <| A4 <| A0 <| A5 rfl rfl ?_
    obtain ⟨_, _, ⟨k1, rfl, rfl, hk1, -⟩, hC1⟩ := Y4 (oG := oG) bs (p + 1) hbs hl (by omega) (2) (by omega)
    have hk1 := hk1 (by omega)
    apply C4 rfl
    ·apply A9
     ·exact J2 rfl (by decide) rfl
     apply A9
     ·exact B4 rfl
     exact C3
    ·exact hC1
    ·exact ⟨rfl, rfl, rfl, of_decide_eq_true rfl, rfl⟩
    ·exact .inl rfl
    ·exact F6 rfl rfl rfl B1
    ·exact B7 rfl
    ·exact fun _ => rfl
    intro g17
    refine T3 rfl rfl ?_
    refine A6 ⟨nofun, _, kS [0,18] [0] rfl, ?_⟩
    refine A8 rfl (fun hc => ?_) (fun hc => ?_)
    ·try simp only [SG, List.length_map] at hc
     refine A4 <| A0 <| A5 rfl rfl <| D7 (es := List.map tV [[97], [98], [97], [99], [100]]) rfl rfl (of_decide_eq_true rfl) rfl rfl (fun _ => B5 (B0 fun _ => rfl)) (fun _ => rfl) ?_
     intro g20
     obtain ⟨_, _, ⟨w1, rfl, rfl, hw1⟩, hC2⟩ := a8v (oG := oG) bs (p + 1 + 1) hbs hl (by omega) [[97], [98], [97], [99], [100]] (by decide)
     have hw1b : w1.length ≤ 1 := by have hall : ∀ x ∈ ([[97], [98], [97], [99], [100]] : List W8), x.length ≤ 1 := (by decide); exact hall _ hw1
     apply C4 rfl
     ·apply A9
      ·exact J2 rfl (by decide) rfl
      apply A9
      ·exact H9 rfl rfl (by (simp; done)) (fun _ => rfl)
      exact C3
     ·exact hC2
     ·exact ⟨rfl, rfl, rfl, of_decide_eq_true rfl, rfl⟩
     ·exact .inl rfl
     ·exact F6 rfl rfl rfl B1
     ·exact B7 rfl
     ·exact fun _ => rfl
     intro g21
     refine A3 rfl rfl rfl ?_
     refine A6 ⟨nofun, _, kS [4] [0] rfl, ?_⟩
     refine B3 ?_
     refine ⟨_, _, ?_, I4 rfl rfl (I1 rfl rfl)⟩
     exact ⟨_, _, rfl, rfl, by omega, by omega, by omega⟩
    try simp only [SG, List.length_map] at hc
    refine B9 <| A4 <| A0 <| D7 (es := List.map iV []) rfl rfl (of_decide_eq_true rfl) rfl rfl (fun _ => B5 (B0 fun _ => rfl)) (fun _ => rfl) ?_
    intro g22
    (refine C1 rfl rfl (by (simp; done)) rfl (fun _ => (B5 (by exact B0 fun _ => rfl))) (fun _ => rfl) ?_; intro g5)
    refine A6 ⟨nofun, _, kS [0,5] [0,5] rfl, ?_⟩
    refine A4 <| A4 <| A0 <| A5 rfl rfl <| D7 (es := List.map iV [2, 3, 1, 0, 4]) rfl rfl (of_decide_eq_true rfl) rfl rfl (fun _ => B5 (B0 fun _ => rfl)) (fun _ => rfl) ?_
    intro g24
    obtain ⟨_, _, ⟨n1, rfl, rfl, hn1⟩, hC3⟩ := c8r (oG := oG) bs (p + 1 + 1) hbs hl (by omega) [2, 3, 1, 0, 4] (by decide)
    have hn1b : 0 ≤ n1 ∧ n1 ≤ 4 := by simp at hn1; omega
    apply C4 rfl
    ·apply A9
     ·exact J2 rfl (by decide) rfl
     apply A9
     ·exact H9 rfl rfl (by (simp; done)) (fun _ => rfl)
     exact C3
    ·exact hC3
    ·exact ⟨rfl, rfl, rfl, of_decide_eq_true rfl, rfl⟩
    ·exact .inl rfl
    ·exact F6 rfl rfl rfl B1
    ·exact B7 rfl
    ·exact fun _ => rfl
    intro g25
    refine A3 rfl rfl rfl ?_
    refine A6 ⟨nofun, _, kS [0,5,6] [0,5] rfl, ?_⟩
    refine E7 <| N7 (β := List Int × Nat × Int) [(.t 0, _), (.t 6, _)] (fun (z : List Int × Nat × Int) => match z with | (xs, g, q) => [(.h 0, .obj 1 4 0 [rdr bs q]), (.t 5, .sl 5 g none 0 xs.length), (.h 5, .obj g 0 1 (xs.map iV))]) (fun (z : List Int × Nat × Int) => match z with | (xs, g, q) => (xs.length : Int) ≤ n1 ∧ p ≤ q ∧ q ≤ p + 4 + xs.length ∧ ∀ x ∈ xs, -20 ≤ x ∧ x ≤ 20) (fun (z : List Int × Nat × Int) => match z with | (xs, g, q) => 5 - xs.length) ([], _, _) ⟨rfl, rfl, rfl, rfl, rfl, trivial⟩ ⟨by simp; omega, by omega, by omega, by simp⟩ ?_
    intro z hb
    obtain ⟨xs, g, q⟩ := z
    try dsimp only at hb
    obtain ⟨hx1, hq1, hq2, hxb⟩ := hb
    refine A4 <| A4 <| A0 <| A5 rfl rfl <| V2 rfl rfl <| A5 rfl rfl <| M1 rfl rfl ?_
    refine A6 ⟨nofun, _, kS [0,5,6,29] [0,5] rfl, ?_⟩
    refine A8 rfl (fun hc => ?_) (fun hc => ?_)
    ·try simp only [SG, List.length_map] at hc
     refine B9 <| E7 <| A0 <| A5 rfl rfl <| A5 rfl rfl ?_
     obtain ⟨_, _, ⟨k2, rfl, rfl, hk2, -⟩, hC4⟩ := Y4 (oG := oG) bs (q) hbs hl (by omega) (41) (by omega)
     have hk2 := hk2 (by omega)
     apply C4 rfl
     ·apply A9
      ·exact J2 rfl (by decide) rfl
      apply A9
      ·exact B4 rfl
      exact C3
     ·exact hC4
     ·exact ⟨rfl, rfl, rfl, of_decide_eq_true rfl, rfl⟩
     ·exact .inl rfl
     ·exact F6 rfl rfl rfl B1
     ·exact B7 rfl
     ·exact fun _ => rfl
     intro g32
     refine a0x rfl rfl (G2 (by omega)) <| D7 (es := List.map iV [k2 - 20]) rfl rfl (of_decide_eq_true rfl) rfl rfl (fun _ => B5 (B0 fun _ => rfl)) (fun _ => rfl) ?_
     intro g34
     refine H7 rfl rfl rfl rfl (by (simp; done)) (by simp) (by decide) rfl rfl rfl rfl (of_decide_eq_true rfl) (fun _ => ⟨rfl, rfl⟩) (by simp only [G8]; (simp only [List.length_nil, List.length_cons, List.length_append, Nat.zero_add, List.length_map]; omega)) (fun _ => rfl) ?_
     intro g35
     (refine C1 rfl rfl (by (simp; done)) rfl (fun _ => (B5 (by exact B0 fun _ => rfl))) (fun _ => rfl) ?_; intro g5)
     refine A6 ⟨nofun, _, kS [0,5,6] [0,5] rfl, ?_⟩
     refine ⟨(xs ++ [k2 - 20], _, q + 1), ?_, (by simp only [List.length_append, List.length_singleton]; omega), ⟨rfl, rfl, rfl, rfl, rfl, trivial⟩⟩
     refine ⟨?_, ?_, ?_, fun x hx => ?_⟩
     ·simp only [List.length_append, List.length_singleton]; omega
     ·omega
     ·simp only [List.length_append, List.length_singleton]; omega
     rcases List.mem_append.1 hx with hx | hx
     ·exact hxb x hx
     rw [List.mem_singleton.1 hx]; omega
    try simp only [SG, List.length_map] at hc
    refine K6 <| A4 <| A0 <| A5 rfl rfl ?_
    have hll := Z8 (ns := xs) (fun n hn => by have := hxb n hn; omega)
    apply C4 rfl
    ·apply A9
     ·exact T5 rfl rfl rfl (by (simp; done)) (fun _ => rfl)
     exact C3
    ·exact b1x xs (by omega) (fun n hn => by have := hxb n hn; omega)
    ·exact ⟨rfl, rfl, rfl, of_decide_eq_true rfl, rfl⟩
    ·exact .inr ⟨rfl, rfl⟩
    ·exact B1
    ·exact B7 rfl
    ·exact fun _ => rfl
    intro g37
    refine K1 rfl rfl (by simp only [G8, List.length_append, List.length_cons, List.length_nil]; omega) <| K1 rfl rfl (by simp only [G8, List.length_append, List.length_cons, List.length_nil]; omega) <| A3 rfl rfl rfl ?_
    refine A6 ⟨nofun, _, kS [4] [0] rfl, ?_⟩
    refine B3 ?_
    refine ⟨_, _, ?_, I4 rfl rfl (I1 rfl rfl)⟩
    exact ⟨_, _, rfl, rfl, by omega, by omega, by (simp only [List.length_append, List.length_cons, List.length_nil]; omega)⟩
   try simp only [SG, List.length_map] at hc
   obtain ⟨d1, rfl⟩ : ∃ d1, d = d1 + 1 := ⟨d - 1, by omega⟩
   have hge : gN (d1 + 1) = 2 * gN d1 + 20 := rfl
   have hle : lN (d1 + 1) = 2 * lN d1 + 60 := rfl
   have hgp := b5c d1
   have hlp := c0e d1
   have hlm := c3e (d := d1 + 1) hd
   refine B9 <| A4 <| A4 <| A0 <| A5 rfl rfl ?_
   obtain ⟨_, _, ⟨k3, rfl, rfl, hk3, -⟩, hC5⟩ := Y4 (oG := oG) bs (p + 1) hbs hl (by omega) (4) (by omega)
   have hk3 := hk3 (by omega)
   apply C4 rfl
   ·apply A9
    ·exact J2 rfl (by decide) rfl
    apply A9
    ·exact B4 rfl
    exact C3
   ·exact hC5
   ·exact ⟨rfl, rfl, rfl, of_decide_eq_true rfl, rfl⟩
   ·exact .inl rfl
   ·exact F6 rfl rfl rfl B1
   ·exact B7 rfl
   ·exact fun _ => rfl
   intro g41
   refine T3 rfl rfl ?_
   refine A6 ⟨nofun, _, kS [0,1,42] [0] rfl, ?_⟩
   refine A8 rfl (fun hc => ?_) (fun hc => ?_)
   ·try simp only [SG, List.length_map] at hc
    refine A4 <| A0 <| A5 rfl rfl <| A5 rfl rfl <| a0x rfl rfl (G2 (by omega)) ?_
    obtain ⟨_, _, ⟨x1, q1, rfl, rfl, hx11, hx12, hx13⟩, hC6⟩ := ih bs (p + 1 + 1) d1 hbs hl (by omega) (by omega) (by omega)
    rw [show ((d1 + 1 : Nat) : Int) - 1 = (d1 : Int) by omega]
    apply C4 rfl
    ·apply A9
     ·exact J2 rfl (by decide) rfl
     apply A9
     ·exact B4 rfl
     exact C3
    ·exact hC6
    ·exact ⟨rfl, rfl, rfl, of_decide_eq_true rfl, rfl⟩
    ·exact .inl rfl
    ·exact F6 rfl rfl rfl B1
    ·exact B7 rfl
    ·exact fun _ => rfl
    intro g46
    refine A3 rfl rfl rfl ?_
    refine A6 ⟨nofun, _, kS [0,1,7] [0] rfl, ?_⟩
    refine A4 <| A0 <| A5 rfl rfl <| A3 rfl rfl rfl ?_
    refine A6 ⟨nofun, _, kS [0,1,7,8] [0] rfl, ?_⟩
    refine A4 <| A4 <| A0 <| A5 rfl rfl ?_
    obtain ⟨_, _, ⟨k4, rfl, rfl, hk4, -⟩, hC7⟩ := Y4 (oG := oG) bs (q1) hbs hl (by omega) (2) (by omega)
    have hk4 := hk4 (by omega)
    apply C4 rfl
    ·apply A9
     ·exact J2 rfl (by decide) rfl
     apply A9
     ·exact B4 rfl
     exact C3
    ·exact hC7
    ·exact ⟨rfl, rfl, rfl, of_decide_eq_true rfl, rfl⟩
    ·exact .inl rfl
    ·exact F6 rfl rfl rfl B1
    ·exact B7 rfl
    ·exact fun _ => rfl
    intro g49
    refine T3 rfl rfl ?_
    refine A6 ⟨nofun, _, kS [0,1,7,8,50] [0] rfl, ?_⟩
    refine A8 rfl (fun hc => ?_) (fun hc => ?_)
    ·try simp only [SG, List.length_map] at hc
     refine A0 <| A5 rfl rfl <| A5 rfl rfl <| a0x rfl rfl (G2 (by omega)) ?_
     obtain ⟨_, _, ⟨x2, q2, rfl, rfl, hx21, hx22, hx23⟩, hC8⟩ := ih bs (q1 + 1) d1 hbs hl (by omega) (by omega) (by omega)
     rw [show ((d1 + 1 : Nat) : Int) - 1 = (d1 : Int) by omega]
     apply C4 rfl
     ·apply A9
      ·exact J2 rfl (by decide) rfl
      apply A9
      ·exact B4 rfl
      exact C3
     ·exact hC8
     ·exact ⟨rfl, rfl, rfl, of_decide_eq_true rfl, rfl⟩
     ·exact .inl rfl
     ·exact F6 rfl rfl rfl B1
     ·exact B7 rfl
     ·exact fun _ => rfl
     intro g54
     refine A3 rfl rfl rfl ?_
     refine A6 ⟨nofun, _, kS [0,7,8] [0] rfl, ?_⟩
     refine A4 <| A0 <| A5 rfl rfl <| D7 (es := List.map tV [[97, 100, 100], [106, 111, 105, 110], [106, 111, 105, 110]]) rfl rfl (of_decide_eq_true rfl) rfl rfl (fun _ => B5 (B0 fun _ => rfl)) (fun _ => rfl) ?_
     intro g56
     obtain ⟨_, _, ⟨w2, rfl, rfl, hw2⟩, hC9⟩ := a8v (oG := oG) bs (q2) hbs hl (by omega) [[97, 100, 100], [106, 111, 105, 110], [106, 111, 105, 110]] (by decide)
     have hw2b : w2.length ≤ 4 := by have hall : ∀ x ∈ ([[97, 100, 100], [106, 111, 105, 110], [106, 111, 105, 110]] : List W8), x.length ≤ 4 := (by decide); exact hall _ hw2
     apply C4 rfl
     ·apply A9
      ·exact J2 rfl (by decide) rfl
      apply A9
      ·exact H9 rfl rfl (by (simp; done)) (fun _ => rfl)
      exact C3
     ·exact hC9
     ·exact ⟨rfl, rfl, rfl, of_decide_eq_true rfl, rfl⟩
     ·exact .inl rfl
     ·exact F6 rfl rfl rfl B1
     ·exact B7 rfl
     ·exact fun _ => rfl
     intro g57
     refine K1 rfl rfl (by simp only [G8, List.length_append, List.length_cons, List.length_nil]; omega) <| A5 rfl rfl <| K1 rfl rfl (by simp only [G8, List.length_append, List.length_cons, List.length_nil]; omega) <| K1 rfl rfl (by simp only [G8, List.length_append, List.length_cons, List.length_nil]; omega) <| A5 rfl rfl <| K1 rfl rfl (by simp only [G8, List.length_append, List.length_cons, List.length_nil]; omega) <| A3 rfl rfl rfl ?_
     refine A6 ⟨nofun, _, kS [4] [0] rfl, ?_⟩
     refine B3 ?_
     refine ⟨_, _, ?_, I4 rfl rfl (I1 rfl rfl)⟩
     exact ⟨_, _, rfl, rfl, by omega, by omega, by (simp only [List.length_append, List.length_cons, List.length_nil]; omega)⟩
    try simp only [SG, List.length_map] at hc
    refine B9 <| A4 <| A0 <| A5 rfl rfl <| D7 (es := List.map tV [[97, 100, 100], [106, 111, 105, 110], [106, 111, 105, 110]]) rfl rfl (of_decide_eq_true rfl) rfl rfl (fun _ => B5 (B0 fun _ => rfl)) (fun _ => rfl) ?_
    intro g56
    obtain ⟨_, _, ⟨w2, rfl, rfl, hw2⟩, hC9⟩ := a8v (oG := oG) bs (q1 + 1) hbs hl (by omega) [[97, 100, 100], [106, 111, 105, 110], [106, 111, 105, 110]] (by decide)
    have hw2b : w2.length ≤ 4 := by have hall : ∀ x ∈ ([[97, 100, 100], [106, 111, 105, 110], [106, 111, 105, 110]] : List W8), x.length ≤ 4 := (by decide); exact hall _ hw2
    apply C4 rfl
    ·apply A9
     ·exact J2 rfl (by decide) rfl
     apply A9
     ·exact H9 rfl rfl (by (simp; done)) (fun _ => rfl)
     exact C3
    ·exact hC9
    ·exact ⟨rfl, rfl, rfl, of_decide_eq_true rfl, rfl⟩
    ·exact .inl rfl
    ·exact F6 rfl rfl rfl B1
    ·exact B7 rfl
    ·exact fun _ => rfl
    intro g57
    refine K1 rfl rfl (by simp only [G8, List.length_append, List.length_cons, List.length_nil]; omega) <| A5 rfl rfl <| K1 rfl rfl (by simp only [G8, List.length_append, List.length_cons, List.length_nil]; omega) <| K1 rfl rfl (by simp only [G8, List.length_append, List.length_cons, List.length_nil]; omega) <| A5 rfl rfl <| K1 rfl rfl (by simp only [G8, List.length_append, List.length_cons, List.length_nil]; omega) <| A3 rfl rfl rfl ?_
    refine A6 ⟨nofun, _, kS [4] [0] rfl, ?_⟩
    refine B3 ?_
    refine ⟨_, _, ?_, I4 rfl rfl (I1 rfl rfl)⟩
    exact ⟨_, _, rfl, rfl, by omega, by omega, by (simp only [List.length_append, List.length_cons, List.length_nil]; omega)⟩
   try simp only [SG, List.length_map] at hc
   refine B9 <| A4 <| A0 <| A5 rfl rfl <| D7 (es := List.map tV [[115, 111, 114, 116], [114, 101, 118], [110, 101, 103], [97, 98, 115], [100, 105, 102, 102], [115, 117, 109, 115], [114, 97, 110, 107, 115], [116, 111, 116, 97, 108], [115, 111, 114, 116], [114, 101, 118], [110, 101, 103], [97, 98, 115]]) rfl rfl (of_decide_eq_true rfl) rfl rfl (fun _ => B5 (B0 fun _ => rfl)) (fun _ => rfl) ?_
   intro g65
   obtain ⟨_, _, ⟨w3, rfl, rfl, hw3⟩, hC10⟩ := a8v (oG := oG) bs (p + 1 + 1) hbs hl (by omega) [[115, 111, 114, 116], [114, 101, 118], [110, 101, 103], [97, 98, 115], [100, 105, 102, 102], [115, 117, 109, 115], [114, 97, 110, 107, 115], [116, 111, 116, 97, 108], [115, 111, 114, 116], [114, 101, 118], [110, 101, 103], [97, 98, 115]] (by decide)
   have hw3b : w3.length ≤ 5 := by have hall : ∀ x ∈ ([[115, 111, 114, 116], [114, 101, 118], [110, 101, 103], [97, 98, 115], [100, 105, 102, 102], [115, 117, 109, 115], [114, 97, 110, 107, 115], [116, 111, 116, 97, 108], [115, 111, 114, 116], [114, 101, 118], [110, 101, 103], [97, 98, 115]] : List W8), x.length ≤ 5 := (by decide); exact hall _ hw3
   apply C4 rfl
   ·apply A9
    ·exact J2 rfl (by decide) rfl
    apply A9
    ·exact H9 rfl rfl (by (simp; done)) (fun _ => rfl)
    exact C3
   ·exact hC10
   ·exact ⟨rfl, rfl, rfl, of_decide_eq_true rfl, rfl⟩
   ·exact .inl rfl
   ·exact F6 rfl rfl rfl B1
   ·exact B7 rfl
   ·exact fun _ => rfl
   intro g66
   refine K1 rfl rfl (by simp only [G8, List.length_append, List.length_cons, List.length_nil]; omega) <| A5 rfl rfl <| A5 rfl rfl <| a0x rfl rfl (G2 (by omega)) ?_
   obtain ⟨_, _, ⟨x3, q3, rfl, rfl, hx31, hx32, hx33⟩, hC11⟩ := ih bs (p + 1 + 1 + 1) d1 hbs hl (by omega) (by omega) (by omega)
   rw [show ((d1 + 1 : Nat) : Int) - 1 = (d1 : Int) by omega]
   apply C4 rfl
   ·apply A9
    ·exact J2 rfl (by decide) rfl
    apply A9
    ·exact B4 rfl
    exact C3
   ·exact hC11
   ·exact ⟨rfl, rfl, rfl, of_decide_eq_true rfl, rfl⟩
   ·exact .inl rfl
   ·exact F6 rfl rfl rfl B1
   ·exact B7 rfl
   ·exact fun _ => rfl
   intro g71
   refine K1 rfl rfl (by simp only [G8, List.length_append, List.length_cons, List.length_nil]; omega) <| A3 rfl rfl rfl ?_
   refine A6 ⟨nofun, _, kS [4] [0] rfl, ?_⟩
   refine B3 ?_
   refine ⟨_, _, ?_, I4 rfl rfl (I1 rfl rfl)⟩
   exact ⟨_, _, rfl, rfl, by omega, by omega, by (simp only [List.length_append, List.length_cons, List.length_nil]; omega)⟩
  have hg := hg0; try simp only [SG] at hg
  refine gF rfl rfl <| gF rfl rfl <| F4 rfl (by assumption) rfl rfl ?_
  refine A6 ⟨nofun, _, kS [0,1,15] [0] rfl, ?_⟩
  refine A8 rfl (fun hc => ?_) (fun hc => absurd hc (by decide))
  refine A4 <| A4 <| A0 <| A5 rfl rfl ?_
  obtain ⟨_, _, ⟨k1, rfl, rfl, hk1, -⟩, hC1⟩ := Y4 (oG := oG) bs (p) hbs hl (by omega) (2) (by omega)
  have hk1 := hk1 (by omega)
  apply C4 rfl
  ·apply A9
   ·exact J2 rfl (by decide) rfl
   apply A9
   ·exact B4 rfl
   exact C3
  ·exact hC1
  ·exact ⟨rfl, rfl, rfl, of_decide_eq_true rfl, rfl⟩
  ·exact .inl rfl
  ·exact F6 rfl rfl rfl B1
  ·exact B7 rfl
  ·exact fun _ => rfl
  intro g17
  refine T3 rfl rfl ?_
  refine A6 ⟨nofun, _, kS [0,18] [0] rfl, ?_⟩
  refine A8 rfl (fun hc => ?_) (fun hc => ?_)
  ·try simp only [SG, List.length_map] at hc
   refine A4 <| A0 <| A5 rfl rfl <| D7 (es := List.map tV [[97], [98], [97], [99], [100]]) rfl rfl (of_decide_eq_true rfl) rfl rfl (fun _ => B5 (B0 fun _ => rfl)) (fun _ => rfl) ?_
   intro g20
   obtain ⟨_, _, ⟨w1, rfl, rfl, hw1⟩, hC2⟩ := a8v (oG := oG) bs (p + 1) hbs hl (by omega) [[97], [98], [97], [99], [100]] (by decide)
   have hw1b : w1.length ≤ 1 := by have hall : ∀ x ∈ ([[97], [98], [97], [99], [100]] : List W8), x.length ≤ 1 := (by decide); exact hall _ hw1
   apply C4 rfl
   ·apply A9
    ·exact J2 rfl (by decide) rfl
    apply A9
    ·exact H9 rfl rfl (by (simp; done)) (fun _ => rfl)
    exact C3
   ·exact hC2
   ·exact ⟨rfl, rfl, rfl, of_decide_eq_true rfl, rfl⟩
   ·exact .inl rfl
   ·exact F6 rfl rfl rfl B1
   ·exact B7 rfl
   ·exact fun _ => rfl
   intro g21
   refine A3 rfl rfl rfl ?_
   refine A6 ⟨nofun, _, kS [4] [0] rfl, ?_⟩
   refine B3 ?_
   refine ⟨_, _, ?_, I4 rfl rfl (I1 rfl rfl)⟩
   exact ⟨_, _, rfl, rfl, by omega, by omega, by omega⟩
  try simp only [SG, List.length_map] at hc
  refine B9 <| A4 <| A0 <| D7 (es := List.map iV []) rfl rfl (of_decide_eq_true rfl) rfl rfl (fun _ => B5 (B0 fun _ => rfl)) (fun _ => rfl) ?_
  intro g22
  (refine C1 rfl rfl (by (simp; done)) rfl (fun _ => (B5 (by exact B0 fun _ => rfl))) (fun _ => rfl) ?_; intro g5)
  refine A6 ⟨nofun, _, kS [0,5] [0,5] rfl, ?_⟩
  refine A4 <| A4 <| A0 <| A5 rfl rfl <| D7 (es := List.map iV [2, 3, 1, 0, 4]) rfl rfl (of_decide_eq_true rfl) rfl rfl (fun _ => B5 (B0 fun _ => rfl)) (fun _ => rfl) ?_
  intro g24
  obtain ⟨_, _, ⟨n1, rfl, rfl, hn1⟩, hC3⟩ := c8r (oG := oG) bs (p + 1) hbs hl (by omega) [2, 3, 1, 0, 4] (by decide)
  have hn1b : 0 ≤ n1 ∧ n1 ≤ 4 := by simp at hn1; omega
  apply C4 rfl
  ·apply A9
   ·exact J2 rfl (by decide) rfl
   apply A9
   ·exact H9 rfl rfl (by (simp; done)) (fun _ => rfl)
   exact C3
  ·exact hC3
  ·exact ⟨rfl, rfl, rfl, of_decide_eq_true rfl, rfl⟩
  ·exact .inl rfl
  ·exact F6 rfl rfl rfl B1
  ·exact B7 rfl
  ·exact fun _ => rfl
  intro g25
  refine A3 rfl rfl rfl ?_
  refine A6 ⟨nofun, _, kS [0,5,6] [0,5] rfl, ?_⟩
  refine E7 <| N7 (β := List Int × Nat × Int) [(.t 0, _), (.t 6, _)] (fun (z : List Int × Nat × Int) => match z with | (xs, g, q) => [(.h 0, .obj 1 4 0 [rdr bs q]), (.t 5, .sl 5 g none 0 xs.length), (.h 5, .obj g 0 1 (xs.map iV))]) (fun (z : List Int × Nat × Int) => match z with | (xs, g, q) => (xs.length : Int) ≤ n1 ∧ p ≤ q ∧ q ≤ p + 4 + xs.length ∧ ∀ x ∈ xs, -20 ≤ x ∧ x ≤ 20) (fun (z : List Int × Nat × Int) => match z with | (xs, g, q) => 5 - xs.length) ([], _, _) ⟨rfl, rfl, rfl, rfl, rfl, trivial⟩ ⟨by simp; omega, by omega, by omega, by simp⟩ ?_
  intro z hb
  obtain ⟨xs, g, q⟩ := z
  try dsimp only at hb
  obtain ⟨hx1, hq1, hq2, hxb⟩ := hb
  refine A4 <| A4 <| A0 <| A5 rfl rfl <| V2 rfl rfl <| A5 rfl rfl <| M1 rfl rfl ?_
  refine A6 ⟨nofun, _, kS [0,5,6,29] [0,5] rfl, ?_⟩
  refine A8 rfl (fun hc => ?_) (fun hc => ?_)
  ·try simp only [SG, List.length_map] at hc
   refine B9 <| E7 <| A0 <| A5 rfl rfl <| A5 rfl rfl ?_
   obtain ⟨_, _, ⟨k2, rfl, rfl, hk2, -⟩, hC4⟩ := Y4 (oG := oG) bs (q) hbs hl (by omega) (41) (by omega)
   have hk2 := hk2 (by omega)
   apply C4 rfl
   ·apply A9
    ·exact J2 rfl (by decide) rfl
    apply A9
    ·exact B4 rfl
    exact C3
   ·exact hC4
   ·exact ⟨rfl, rfl, rfl, of_decide_eq_true rfl, rfl⟩
   ·exact .inl rfl
   ·exact F6 rfl rfl rfl B1
   ·exact B7 rfl
   ·exact fun _ => rfl
   intro g32
   refine a0x rfl rfl (G2 (by omega)) <| D7 (es := List.map iV [k2 - 20]) rfl rfl (of_decide_eq_true rfl) rfl rfl (fun _ => B5 (B0 fun _ => rfl)) (fun _ => rfl) ?_
   intro g34
   refine H7 rfl rfl rfl rfl (by (simp; done)) (by simp) (by decide) rfl rfl rfl rfl (of_decide_eq_true rfl) (fun _ => ⟨rfl, rfl⟩) (by simp only [G8]; (simp only [List.length_nil, List.length_cons, List.length_append, Nat.zero_add, List.length_map]; omega)) (fun _ => rfl) ?_
   intro g35
   (refine C1 rfl rfl (by (simp; done)) rfl (fun _ => (B5 (by exact B0 fun _ => rfl))) (fun _ => rfl) ?_; intro g5)
   refine A6 ⟨nofun, _, kS [0,5,6] [0,5] rfl, ?_⟩
   refine ⟨(xs ++ [k2 - 20], _, q + 1), ?_, (by simp only [List.length_append, List.length_singleton]; omega), ⟨rfl, rfl, rfl, rfl, rfl, trivial⟩⟩
   refine ⟨?_, ?_, ?_, fun x hx => ?_⟩
   ·simp only [List.length_append, List.length_singleton]; omega
   ·omega
   ·simp only [List.length_append, List.length_singleton]; omega
   rcases List.mem_append.1 hx with hx | hx
   ·exact hxb x hx
   rw [List.mem_singleton.1 hx]; omega
  try simp only [SG, List.length_map] at hc
  refine K6 <| A4 <| A0 <| A5 rfl rfl ?_
  have hll := Z8 (ns := xs) (fun n hn => by have := hxb n hn; omega)
  apply C4 rfl
  ·apply A9
   ·exact T5 rfl rfl rfl (by (simp; done)) (fun _ => rfl)
   exact C3
  ·exact b1x xs (by omega) (fun n hn => by have := hxb n hn; omega)
  ·exact ⟨rfl, rfl, rfl, of_decide_eq_true rfl, rfl⟩
  ·exact .inr ⟨rfl, rfl⟩
  ·exact B1
  ·exact B7 rfl
  ·exact fun _ => rfl
  intro g37
  refine K1 rfl rfl (by simp only [G8, List.length_append, List.length_cons, List.length_nil]; omega) <| K1 rfl rfl (by simp only [G8, List.length_append, List.length_cons, List.length_nil]; omega) <| A3 rfl rfl rfl ?_
  refine A6 ⟨nofun, _, kS [4] [0] rfl, ?_⟩
  refine B3 ?_
  refine ⟨_, _, ?_, I4 rfl rfl (I1 rfl rfl)⟩
  exact ⟨_, _, rfl, rfl, by omega, by omega, by (simp only [List.length_append, List.length_cons, List.length_nil]; omega)⟩

theorem keep_s_mutate : G1 Tryd.f47 = [0, 1, 4, 12, 13, 5, 19, 32, 37] := by kernel_rfl
set_option maxHeartbeats 20000000 in
theorem c6p (bs : List Int) (p : Int) (hbs : a2s bs) (hl : bs.length ≤ 1048576) (hp : 0 ≤ p ∧ p ≤ 100000000) (s : W8) (hs : s.length ≤ 100000) : ∃ res outs, (fun res outs => ∃ (x : W8) (q : Int), res = tV x ∧ outs = [[rdr bs q]] ∧ p ≤ q ∧ q ≤ p + 10 ∧ x.length ≤ s.length + 10) res outs ∧ CW (cxT oG) 47 [.ownp [rdr bs p] 0 0, tV s] = some (res, outs) := by
 refine Q5 rfl Tryd.func47 rfl ⟨by kernel_rfl, rfl, of_decide_eq_true rfl, of_decide_eq_true rfl, by decide⟩ keep_s_mutate <| A4 <| A0 <| A3 rfl rfl rfl ?_
 refine A6 ⟨nofun, _, kS [0,1] [0] rfl, ?_⟩
 refine A4 <| A0 <| A5 rfl rfl <| A5 rfl rfl <| a0c rfl rfl <| L5 rfl rfl (G2 (by omega)) ?_
 obtain ⟨_, _, ⟨k0, rfl, rfl, hk0, -⟩, hC0⟩ := Y4 (oG := oG) bs (p) hbs hl (by omega) (s.length + 1) (by omega)
 have hk0 := hk0 (by omega)
 apply C4 rfl
 ·apply A9
  ·exact J2 rfl (by decide) rfl
  apply A9
  ·exact B4 rfl
  exact C3
 ·exact hC0
 ·exact ⟨rfl, rfl, rfl, of_decide_eq_true rfl, rfl⟩
 ·exact .inl rfl
 ·exact F6 rfl rfl rfl B1
 ·exact B7 rfl
 ·exact fun _ => rfl
 intro g10
 refine A3 rfl rfl rfl ?_
 refine A6 ⟨nofun, _, kS [0,1,5] [0] rfl, ?_⟩
 refine A4 <| A4 <| A0 <| A5 rfl rfl ?_
 obtain ⟨_, _, ⟨k1, rfl, rfl, hk1, -⟩, hC1⟩ := Y4 (oG := oG) bs (p + 1) hbs hl (by omega) (5) (by omega)
 have hk1 := hk1 (by omega)
 apply C4 rfl
 ·apply A9
  ·exact J2 rfl (by decide) rfl
  apply A9
  ·exact B4 rfl
  exact C3
 ·exact hC1
 ·exact ⟨rfl, rfl, rfl, of_decide_eq_true rfl, rfl⟩
 ·exact .inl rfl
 ·exact F6 rfl rfl rfl B1
 ·exact B7 rfl
 ·exact fun _ => rfl
 intro g12
 refine A6 ⟨nofun, _, kS [0,1,5,12] [0] rfl, ?_⟩
 refine E7 <| A4 <| A4 <| A0 <| T3 rfl rfl <| A3 rfl rfl rfl ?_
 refine A6 ⟨nofun, _, kS [0,1,5,12,13] [0] rfl, ?_⟩
 refine A8 rfl (fun hc => ?_) (fun hc => ?_)
 ·try simp only [SG, List.length_map] at hc
  refine B9 ?_
  refine A8 rfl (fun hc => ?_) (fun hc => absurd hc (by simp_all))
  refine A4 <| A0 <| A5 rfl rfl <| A5 rfl rfl <| a0c rfl rfl <| M1 rfl rfl ?_
  refine A6 ⟨nofun, _, kS [0,1,5,19] [0] rfl, ?_⟩
  refine A8 rfl (fun hc => ?_) (fun hc => ?_)
  ·try simp only [SG, List.length_map] at hc
   refine A4 <| A0 <| A5 rfl rfl <| A5 rfl rfl <| S4 rfl rfl (N9 rfl (by omega)) H6 (by omega) <| A5 rfl rfl <| D7 (es := List.map tV [[48], [49], [97], [44], [45], [93], [32]]) rfl rfl (of_decide_eq_true rfl) rfl rfl (fun _ => B5 (B0 fun _ => rfl)) (fun _ => rfl) ?_
   intro g24
   obtain ⟨_, _, ⟨w1, rfl, rfl, hw1⟩, hC2⟩ := a8v (oG := oG) bs (p + 1 + 1) hbs hl (by omega) [[48], [49], [97], [44], [45], [93], [32]] (by decide)
   have hw1b : w1.length ≤ 1 := by have hall : ∀ x ∈ ([[48], [49], [97], [44], [45], [93], [32]] : List W8), x.length ≤ 1 := (by decide); exact hall _ hw1
   apply C4 rfl
   ·apply A9
    ·exact J2 rfl (by decide) rfl
    apply A9
    ·exact H9 rfl rfl (by (simp; done)) (fun _ => rfl)
    exact C3
   ·exact hC2
   ·exact ⟨rfl, rfl, rfl, of_decide_eq_true rfl, rfl⟩
   ·exact .inl rfl
   ·exact F6 rfl rfl rfl B1
   ·exact B7 rfl
   ·exact fun _ => rfl
   intro g25
   refine K1 rfl rfl (by simp only [G8, List.length_append, List.length_take, List.length_drop]; omega) <| A5 rfl rfl <| A5 rfl rfl <| L5 rfl rfl (G2 (by omega)) <| S4 rfl rfl H6 (N9 rfl (by omega)) (by omega) <| K1 rfl rfl (by simp only [G8, List.length_append, List.length_take, List.length_drop]; omega) <| A3 rfl rfl rfl ?_
   refine A6 ⟨fun _ => ⟨by (simp only [a1x, List.nil_append, List.append_nil, List.map_cons, List.map_nil, List.cons_append]; decide +kernel), by decide +kernel⟩, [(.t 4, _), (.h 0, _)], ⟨rfl, rfl, rfl, rfl, trivial⟩, ?_⟩
   refine B3 ?_
   refine ⟨_, _, ?_, I4 rfl rfl (I1 rfl rfl)⟩
   exact ⟨_, _, rfl, rfl, by omega, by omega, by (simp only [List.length_append, List.length_cons, List.length_nil, List.length_take, List.length_drop]; omega)⟩
  try simp only [SG, List.length_map] at hc
  refine B9 <| A4 <| A0 <| A5 rfl rfl <| A3 rfl rfl rfl ?_
  refine A6 ⟨nofun, _, kS [4] [0] rfl, ?_⟩
  refine B3 ?_
  refine ⟨_, _, ?_, I4 rfl rfl (I1 rfl rfl)⟩
  exact ⟨_, _, rfl, rfl, by omega, by omega, by omega⟩
 try simp only [SG, List.length_map] at hc
 refine A0 <| T3 rfl rfl <| A3 rfl rfl rfl ?_
 refine A6 ⟨nofun, _, kS [0,1,5,12,13] [0] rfl, ?_⟩
 refine A8 rfl (fun hc => ?_) (fun hc => ?_)
 ·try simp only [SG, List.length_map] at hc
  refine A4 <| A0 <| A5 rfl rfl <| A5 rfl rfl <| a0c rfl rfl <| M1 rfl rfl ?_
  refine A6 ⟨nofun, _, kS [0,1,5,19] [0] rfl, ?_⟩
  refine A8 rfl (fun hc => ?_) (fun hc => ?_)
  ·try simp only [SG, List.length_map] at hc
   refine A4 <| A0 <| A5 rfl rfl <| A5 rfl rfl <| S4 rfl rfl (N9 rfl (by omega)) H6 (by omega) <| A5 rfl rfl <| D7 (es := List.map tV [[48], [49], [97], [44], [45], [93], [32]]) rfl rfl (of_decide_eq_true rfl) rfl rfl (fun _ => B5 (B0 fun _ => rfl)) (fun _ => rfl) ?_
   intro g24
   obtain ⟨_, _, ⟨w1, rfl, rfl, hw1⟩, hC2⟩ := a8v (oG := oG) bs (p + 1 + 1) hbs hl (by omega) [[48], [49], [97], [44], [45], [93], [32]] (by decide)
   have hw1b : w1.length ≤ 1 := by have hall : ∀ x ∈ ([[48], [49], [97], [44], [45], [93], [32]] : List W8), x.length ≤ 1 := (by decide); exact hall _ hw1
   apply C4 rfl
   ·apply A9
    ·exact J2 rfl (by decide) rfl
    apply A9
    ·exact H9 rfl rfl (by (simp; done)) (fun _ => rfl)
    exact C3
   ·exact hC2
   ·exact ⟨rfl, rfl, rfl, of_decide_eq_true rfl, rfl⟩
   ·exact .inl rfl
   ·exact F6 rfl rfl rfl B1
   ·exact B7 rfl
   ·exact fun _ => rfl
   intro g25
   refine K1 rfl rfl (by simp only [G8, List.length_append, List.length_take, List.length_drop]; omega) <| A5 rfl rfl <| A5 rfl rfl <| L5 rfl rfl (G2 (by omega)) <| S4 rfl rfl H6 (N9 rfl (by omega)) (by omega) <| K1 rfl rfl (by simp only [G8, List.length_append, List.length_take, List.length_drop]; omega) <| A3 rfl rfl rfl ?_
   refine A6 ⟨fun _ => ⟨by (simp only [a1x, List.nil_append, List.append_nil, List.map_cons, List.map_nil, List.cons_append]; decide +kernel), by decide +kernel⟩, [(.t 4, _), (.h 0, _)], ⟨rfl, rfl, rfl, rfl, trivial⟩, ?_⟩
   refine B3 ?_
   refine ⟨_, _, ?_, I4 rfl rfl (I1 rfl rfl)⟩
   exact ⟨_, _, rfl, rfl, by omega, by omega, by (simp only [List.length_append, List.length_cons, List.length_nil, List.length_take, List.length_drop]; omega)⟩
  try simp only [SG, List.length_map] at hc
  refine B9 <| A4 <| A0 <| A5 rfl rfl <| A3 rfl rfl rfl ?_
  refine A6 ⟨nofun, _, kS [4] [0] rfl, ?_⟩
  refine B3 ?_
  refine ⟨_, _, ?_, I4 rfl rfl (I1 rfl rfl)⟩
  exact ⟨_, _, rfl, rfl, by omega, by omega, by omega⟩
 try simp only [SG, List.length_map] at hc
 refine A4 <| A0 <| T3 rfl rfl <| A3 rfl rfl rfl ?_
 refine A6 ⟨nofun, _, kS [0,1,5,12,32] [0] rfl, ?_⟩
 refine A8 rfl (fun hc => ?_) (fun hc => ?_)
 ·try simp only [SG, List.length_map] at hc
  refine A4 <| A0 <| A5 rfl rfl <| A5 rfl rfl <| S4 rfl rfl (N9 rfl (by omega)) H6 (by omega) <| A3 rfl rfl rfl ?_
  refine A6 ⟨nofun, _, kS [4] [0] rfl, ?_⟩
  refine B3 ?_
  refine ⟨_, _, ?_, I4 rfl rfl (I1 rfl rfl)⟩
  exact ⟨_, _, rfl, rfl, by omega, by omega, by (simp only [List.length_append, List.length_cons, List.length_nil, List.length_take, List.length_drop]; omega)⟩
 try simp only [SG, List.length_map] at hc
 refine A4 <| A0 <| T3 rfl rfl <| A3 rfl rfl rfl ?_
 refine A6 ⟨nofun, _, kS [0,1,37] [0] rfl, ?_⟩
 refine A8 rfl (fun hc => ?_) (fun hc => ?_)
 ·try simp only [SG, List.length_map] at hc
  refine A4 <| A0 <| A5 rfl rfl <| A5 rfl rfl <| D7 (es := List.map tV [[48], [44], [32], [32, 97]]) rfl rfl (of_decide_eq_true rfl) rfl rfl (fun _ => B5 (B0 fun _ => rfl)) (fun _ => rfl) ?_
  intro g41
  obtain ⟨_, _, ⟨w2, rfl, rfl, hw2⟩, hC3⟩ := a8v (oG := oG) bs (p + 1 + 1) hbs hl (by omega) [[48], [44], [32], [32, 97]] (by decide)
  have hw2b : w2.length ≤ 2 := by have hall : ∀ x ∈ ([[48], [44], [32], [32, 97]] : List W8), x.length ≤ 2 := (by decide); exact hall _ hw2
  apply C4 rfl
  ·apply A9
   ·exact J2 rfl (by decide) rfl
   apply A9
   ·exact H9 rfl rfl (by (simp; done)) (fun _ => rfl)
   exact C3
  ·exact hC3
  ·exact ⟨rfl, rfl, rfl, of_decide_eq_true rfl, rfl⟩
  ·exact .inl rfl
  ·exact F6 rfl rfl rfl B1
  ·exact B7 rfl
  ·exact fun _ => rfl
  intro g42
  refine K1 rfl rfl (by simp only [G8, List.length_append, List.length_cons, List.length_nil]; omega) <| A3 rfl rfl rfl ?_
  refine A6 ⟨nofun, _, kS [4] [0] rfl, ?_⟩
  refine B3 ?_
  refine ⟨_, _, ?_, I4 rfl rfl (I1 rfl rfl)⟩
  exact ⟨_, _, rfl, rfl, by omega, by omega, by (simp only [List.length_append, List.length_cons, List.length_nil, List.length_take, List.length_drop]; omega)⟩
 try simp only [SG, List.length_map] at hc
 refine B9 <| A4 <| A0 <| A5 rfl rfl <| A3 rfl rfl rfl ?_
 refine A6 ⟨nofun, _, kS [4] [0] rfl, ?_⟩
 refine B3 ?_
 refine ⟨_, _, ?_, I4 rfl rfl (I1 rfl rfl)⟩
 exact ⟨_, _, rfl, rfl, by omega, by omega, by omega⟩

theorem keep_s_somePlan : G1 Tryd.f34 = [0, 2, 11, 3] := by kernel_rfl
set_option maxHeartbeats 20000000 in
theorem c1b (bs : List Int) (p : Int) (hbs : a2s bs) (hl : bs.length ≤ 1048576) (hp : 0 ≤ p ∧ p ≤ 1000000) : ∃ res outs, (fun res outs => ∃ (x : W8) (q : Int), res = tV x ∧ outs = [[rdr bs q]] ∧ p ≤ q ∧ q ≤ p + 3000 ∧ x.length ≤ 5000) res outs ∧ CW (cxT oG) 34 [.ownp [rdr bs p] 0 0] = some (res, outs) := by
 refine Q5 rfl Tryd.func34 rfl ⟨by kernel_rfl, rfl, of_decide_eq_true rfl, of_decide_eq_true rfl, by decide⟩ keep_s_somePlan <| A4 <| A0 <| A3 rfl rfl rfl ?_
 refine A6 ⟨nofun, _, kS [0] [0] rfl, ?_⟩
 refine A4 <| A0 <| A5 rfl rfl <| A5 rfl rfl <| D7 (es := List.map iV [3, 4, 2, 5, 1, 0]) rfl rfl (of_decide_eq_true rfl) rfl rfl (fun _ => B5 (B0 fun _ => rfl)) (fun _ => rfl) ?_
 intro g6
 obtain ⟨_, _, ⟨k0, rfl, rfl, hk0⟩, hC0⟩ := c8r (oG := oG) bs (p) hbs hl (by omega) [3, 4, 2, 5, 1, 0] (by decide)
 have hk0b : 0 ≤ k0 ∧ k0 ≤ 5 := by simp at hk0; omega
 obtain ⟨d, rfl⟩ : ∃ d : Nat, k0 = d := ⟨k0.toNat, by omega⟩
 have hgm := d0j (d := d) (by omega)
 have hlm := c3e (d := d) (by omega)
 have hgp := b5c d
 apply C4 rfl
 ·apply A9
  ·exact J2 rfl (by decide) rfl
  apply A9
  ·exact H9 rfl rfl (by (simp; done)) (fun _ => rfl)
  exact C3
 ·exact hC0
 ·exact ⟨rfl, rfl, rfl, of_decide_eq_true rfl, rfl⟩
 ·exact .inl rfl
 ·exact F6 rfl rfl rfl B1
 ·exact B7 rfl
 ·exact fun _ => rfl
 intro g7
 obtain ⟨_, _, ⟨x, q, rfl, rfl, hx1, hx2, hx3⟩, hC1⟩ := c1j (oG := oG) bs (p + 1) d hbs hl (by omega) (by omega)
 apply C4 rfl
 ·apply A9
  ·exact J2 rfl (by decide) rfl
  apply A9
  ·exact B4 rfl
  exact C3
 ·exact hC1
 ·exact ⟨rfl, rfl, rfl, of_decide_eq_true rfl, rfl⟩
 ·exact .inl rfl
 ·exact F6 rfl rfl rfl B1
 ·exact B7 rfl
 ·exact fun _ => rfl
 intro g8
 refine A3 rfl rfl rfl ?_
 refine A6 ⟨nofun, _, kS [0,3] [0] rfl, ?_⟩
 refine A4 <| A4 <| A0 <| A5 rfl rfl ?_
 obtain ⟨_, _, ⟨k1, rfl, rfl, hk1, -⟩, hC2⟩ := Y4 (oG := oG) bs (q) hbs hl (by omega) (16) (by omega)
 have hk1 := hk1 (by omega)
 apply C4 rfl
 ·apply A9
  ·exact J2 rfl (by decide) rfl
  apply A9
  ·exact B4 rfl
  exact C3
 ·exact hC2
 ·exact ⟨rfl, rfl, rfl, of_decide_eq_true rfl, rfl⟩
 ·exact .inl rfl
 ·exact F6 rfl rfl rfl B1
 ·exact B7 rfl
 ·exact fun _ => rfl
 intro g10
 refine T3 rfl rfl ?_
 refine A6 ⟨nofun, _, kS [0,3,11] [0] rfl, ?_⟩
 refine A8 rfl (fun hc => ?_) (fun hc => ?_)
 ·try simp only [SG, List.length_map] at hc
  refine A0 <| A5 rfl rfl <| A5 rfl rfl ?_
  obtain ⟨_, _, ⟨y, q2, rfl, rfl, hy1, hy2, hy3⟩, hC3⟩ := c6p (oG := oG) bs (q + 1) hbs hl (by omega) x (by omega)
  apply C4 rfl
  ·apply A9
   ·exact J2 rfl (by decide) rfl
   apply A9
   ·exact B4 rfl
   exact C3
  ·exact hC3
  ·exact ⟨rfl, rfl, rfl, of_decide_eq_true rfl, rfl⟩
  ·exact .inl rfl
  ·exact F6 rfl rfl rfl B1
  ·exact B7 rfl
  ·exact fun _ => rfl
  intro g14
  refine A3 rfl rfl rfl ?_
  refine A6 ⟨nofun, _, kS [3] [0] rfl, ?_⟩
  refine A4 <| A0 <| A5 rfl rfl <| A3 rfl rfl rfl ?_
  refine A6 ⟨nofun, _, kS [2] [0] rfl, ?_⟩
  refine B3 ?_
  refine ⟨_, _, ?_, I4 rfl rfl (I1 rfl rfl)⟩
  exact ⟨_, _, rfl, rfl, by omega, by omega, by omega⟩
 try simp only [SG, List.length_map] at hc
 refine B9 <| A4 <| A0 <| A5 rfl rfl <| A3 rfl rfl rfl ?_
 refine A6 ⟨nofun, _, kS [2] [0] rfl, ?_⟩
 refine B3 ?_
 refine ⟨_, _, ?_, I4 rfl rfl (I1 rfl rfl)⟩
 exact ⟨_, _, rfl, rfl, by omega, by omega, by omega⟩

theorem keep_s_drawValidPlan : G1 Tryd.f20 = [0, 2] := by kernel_rfl
set_option maxHeartbeats 20000000 in
theorem a9j (bs : List Int) (hbs : a2s bs) (hl : bs.length ≤ 1048576) : ∃ res outs, (fun res outs => ∃ x : W8, res = tV x ∧ outs = [] ∧ x.length ≤ 5000) res outs ∧ CW (cxT oG) 20 [.list (bs.map uV)] = some (res, outs) := by
 refine Q5 rfl Tryd.func20 rfl ⟨by kernel_rfl, rfl, of_decide_eq_true rfl, of_decide_eq_true rfl, by decide⟩ keep_s_drawValidPlan <| A4 <| A0 <| A3 rfl rfl rfl ?_
 refine A6 ⟨nofun, _, kS [0] [] rfl, ?_⟩
 refine A4 <| A0 <| A5 rfl rfl ?_
 obtain ⟨_, _, ⟨rfl, rfl⟩, hC0⟩ := b7u (oG := oG) bs hl
 have hbs2 : a2s (bs.take 2000) := fun b hb => hbs b (List.mem_of_mem_take hb)
 have hl2 : (bs.take 2000).length ≤ 1048576 := by simp; omega
 apply C4 rfl
 ·apply A9
  ·exact B4 rfl
  exact C3
 ·exact hC0
 ·exact ⟨rfl, rfl, rfl, of_decide_eq_true rfl, rfl⟩
 ·exact .inl rfl
 ·exact B1
 ·exact c8i
 ·exact fun _ => rfl
 intro g4
 obtain ⟨_, _, ⟨x, q, rfl, rfl, -, -, hx3⟩, hC1⟩ := c1b (oG := oG) (bs.take 2000) 0 hbs2 hl2 (by omega)
 apply C4 rfl
 ·apply A9
  ·exact J2 rfl (by decide) rfl
  exact C3
 ·exact hC1
 ·exact ⟨rfl, rfl, rfl, of_decide_eq_true rfl, rfl⟩
 ·exact .inl rfl
 ·exact F6 rfl rfl rfl B1
 ·exact B7 rfl
 ·exact fun _ => rfl
 intro g5
 refine A3 rfl rfl rfl ?_
 refine A6 ⟨nofun, _, kS [2] [] rfl, ?_⟩
 refine B3 ?_
 refine ⟨_, _, ?_, I4 rfl rfl C6⟩
 exact ⟨x, rfl, rfl, hx3⟩

theorem keep_s_FnValidPlan : G1 Tryd.f7 = [0, 2, 7, 3, 4, 19] := by kernel_rfl
set_option maxHeartbeats 20000000 in
theorem b3k (bs : List Int) (hbs : a2s bs) : CW (cxT oG) 7 [.list (bs.map uV)] = some (bV true, []) := by
 refine G6 rfl Tryd.func7 rfl ⟨by kernel_rfl, rfl, of_decide_eq_true rfl, of_decide_eq_true rfl, by decide⟩ keep_s_FnValidPlan <| A4 <| A0 <| A3 rfl rfl rfl ?_
 refine A6 ⟨nofun, _, kS [0] [] rfl, ?_⟩
 refine A4 <| A4 <| A0 <| A5 rfl rfl <| H8 rfl rfl <| V3 rfl rfl ?_
 refine A6 ⟨nofun, _, kS [0,7] [] rfl, ?_⟩
 refine A8 rfl (fun hc => ?_) (fun hc => ?_)
 ·try simp only [SG, List.length_map] at hc
  refine A4 <| A0 <| A3 rfl rfl rfl ?_
  refine A6 ⟨nofun, _, kS [2] [] rfl, ?_⟩
  refine B3 <| D4 rfl rfl trivial ?_
  rfl
 try simp only [SG, List.length_map] at hc
 refine B9 <| A4 <| A0 <| A5 rfl rfl ?_
 have hl2 : bs.length ≤ 1048576 := by omega
 obtain ⟨_, _, ⟨s, rfl, rfl, hs⟩, hC1⟩ := a9j (oG := oG) bs hbs hl2
 apply C4 rfl
 ·apply A9
  ·exact B4 rfl
  exact C3
 ·exact hC1
 ·exact ⟨rfl, rfl, rfl, of_decide_eq_true rfl, rfl⟩
 ·exact .inl rfl
 ·exact B1
 ·exact B7 rfl
 ·exact fun _ => rfl
 intro g9
 refine A3 rfl rfl rfl ?_
 refine A6 ⟨nofun, _, kS [3] [] rfl, ?_⟩
 refine A4 <| A0 <| A5 rfl rfl ?_
 apply C4 rfl
 ·apply A9
  ·exact B4 rfl
  exact C3
 ·exact a7b s (by omega)
 ·exact ⟨rfl, rfl, rfl, of_decide_eq_true rfl, rfl⟩
 ·exact .inl rfl
 ·exact B1
 ·exact B7 rfl
 ·exact fun _ => rfl
 intro g11
 refine A3 rfl rfl rfl ?_
 refine A6 ⟨nofun, _, kS [3,4] [] rfl, ?_⟩
 refine A4 <| A4 <| A0 <| A5 rfl rfl <| A5 rfl rfl ?_
 apply C4 rfl
 ·apply A9
  ·exact B4 rfl
  exact C3
 ·exact a2p s (by omega)
 ·exact ⟨rfl, rfl, rfl, of_decide_eq_true rfl, rfl⟩
 ·exact .inl rfl
 ·exact B1
 ·exact B7 rfl
 ·exact fun _ => rfl
 intro g14
 refine d3u rfl rfl rfl <| A5 rfl rfl ?_
 refine D5 rfl rfl (fun hg0 => ?_) (fun hg0 => ?_)
 ·have hg := hg0; try simp only [SG] at hg
  refine A5 rfl rfl <| gT rfl rfl <| P2 rfl <| G3 rfl (by assumption) rfl rfl ?_
  refine A6 ⟨nofun, _, kS [3,4,19] [] rfl, ?_⟩
  refine A8 rfl (fun hc => ?_) (fun hc => ?_)
  ·try simp only [SG, List.length_map] at hc
   refine A4 <| A0 <| A5 rfl rfl <| A5 rfl rfl ?_
   apply C4 rfl
   ·apply A9
    ·exact B4 rfl
    exact C3
   ·exact a2p s (by omega)
   ·exact ⟨rfl, rfl, rfl, of_decide_eq_true rfl, rfl⟩
   ·exact .inl rfl
   ·exact B1
   ·exact B7 rfl
   ·exact fun _ => rfl
   intro g22
   refine d1j rfl rfl rfl <| A3 rfl rfl rfl ?_
   refine A6 ⟨nofun, _, kS [2] [] rfl, ?_⟩
   refine B3 <| D4 rfl rfl trivial ?_
   (simp; done)
  try simp only [SG, List.length_map] at hc
  refine B9 <| A4 <| A0 <| A5 rfl rfl <| a0c rfl rfl <| L5 rfl rfl (G2 (by omega)) <| V3 rfl rfl <| A5 rfl rfl ?_
  refine D5 rfl rfl (fun hg0 => ?_) (fun hg0 => ?_)
  ·have hg := hg0; try simp only [SG] at hg
   refine A5 rfl rfl <| gT rfl rfl ?_
   apply C4 rfl
   ·apply A9
    ·exact B4 rfl
    exact C3
   ·exact c5b s (by omega)
   ·exact ⟨rfl, rfl, rfl, of_decide_eq_true rfl, rfl⟩
   ·exact .inl rfl
   ·exact B1
   ·exact Y2
   ·exact fun _ => rfl
   intro g30
   simp only [List.length_map]
   refine gT rfl rfl <| V2 rfl rfl <| gT rfl rfl <| T3 rfl rfl <| G3 rfl (by assumption) rfl rfl <| A5 rfl rfl ?_
   refine D5 rfl rfl (fun hg0 => ?_) (fun hg0 => ?_)
   ·have hg := hg0; try simp only [SG] at hg
    refine A5 rfl rfl <| gT rfl rfl <| K1 rfl rfl (by simp only [G8, List.length_append, List.length_cons, List.length_nil]; omega) <| gT rfl rfl ?_
    apply C4 rfl
    ·apply A9
     ·exact B4 rfl
     exact C3
    ·exact a7b ([110, 101, 103, 32] ++ s) (by simp only [List.length_append, List.length_cons, List.length_nil]; omega)
    ·exact ⟨rfl, rfl, rfl, of_decide_eq_true rfl, rfl⟩
    ·exact .inl rfl
    ·exact B1
    ·exact B7 rfl
    ·exact fun _ => rfl
    intro g37
    refine G3 rfl (by assumption) rfl rfl <| A3 rfl rfl rfl ?_
    refine A6 ⟨nofun, _, kS [2] [] rfl, ?_⟩
    refine B3 <| D4 rfl rfl trivial ?_
    rw [c5h hc (by omega) (by omega)]
   have hg := hg0; try simp only [SG] at hg
   refine gF rfl rfl <| gF rfl rfl <| F4 rfl (by assumption) rfl rfl <| A3 rfl rfl rfl ?_
   refine A6 ⟨nofun, _, kS [2] [] rfl, ?_⟩
   refine B3 <| D4 rfl rfl trivial ?_
   rfl
  have hg := hg0; try simp only [SG] at hg
  refine gF rfl rfl <| gF rfl rfl <| gF rfl rfl <| F4 rfl (by assumption) rfl rfl <| A5 rfl rfl <| G5 rfl rfl rfl <| G5 rfl rfl rfl <| G5 rfl rfl rfl <| F4 rfl rfl rfl rfl <| A3 rfl rfl rfl ?_
  refine A6 ⟨nofun, _, kS [2] [] rfl, ?_⟩
  refine B3 <| D4 rfl rfl trivial ?_
  rfl
 have hg := hg0; try simp only [SG] at hg
 refine gF rfl rfl <| F4 rfl (by assumption) rfl rfl ?_
 refine A6 ⟨nofun, _, kS [3,4,19] [] rfl, ?_⟩
 refine A8 rfl (fun hc => ?_) (fun hc => absurd hc (by decide))
 refine A4 <| A0 <| A5 rfl rfl <| A5 rfl rfl ?_
 apply C4 rfl
 ·apply A9
  ·exact B4 rfl
  exact C3
 ·exact a2p s (by omega)
 ·exact ⟨rfl, rfl, rfl, of_decide_eq_true rfl, rfl⟩
 ·exact .inl rfl
 ·exact B1
 ·exact B7 rfl
 ·exact fun _ => rfl
 intro g22
 refine d1j rfl rfl rfl <| A3 rfl rfl rfl ?_
 refine A6 ⟨nofun, _, kS [2] [] rfl, ?_⟩
 refine B3 <| D4 rfl rfl trivial ?_
 (simp; done)
end Go.Proofs.YtpjgdgnaeohmeaaDoor
