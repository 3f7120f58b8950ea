/- What each function of the program gives on the abstract machine, part 1 of 1. Conditions: those in front of each theorem. -/
import Derived.Test.YtpjgdgnaeohmeaaDoorMd
import Derived.Test.YtpjgdgnaeohmeaaDoorChecked
import Derived.KernelRfl

set_option linter.unusedVariables false
set_option linter.unusedSimpArgs false
namespace Go.Proofs.YtpjgdgnaeohmeaaDoor
open Go Go.Mv Go.Proofs
set_option maxRecDepth 100000

theorem SD : (∀ {p : Prop} [Decidable p], (decide p = true) = p) ∧ (∀ {p : Prop} {_ : Decidable p}, decide p = false ↔ ¬p) ∧ (∀ (b : Bool), ((!b) = true) = (b = false)) ∧ (∀ (b : Bool), ((!b) = false) = (b = true)) ∧ (∀ {α : Type} [BEq α] [LawfulBEq α] {a b : α}, (a != b) = true ↔ a ≠ b) ∧
    (∀ {α : Type} [BEq α] [LawfulBEq α] {a b : α}, (a == b) = true ↔ a = b) ∧ (∀ {α : Type} (a b : α), (a ≠ b) = ¬a = b) ∧ (!true) = false ∧ (!false) = true ∧ (∀ {α : Type} [BEq α] [LawfulBEq α] {a b : α}, (a == b) = false ↔ a ≠ b) ∧ (∀ {α : Type} [BEq α] [LawfulBEq α] {a b : α}, (a != b) = false ↔ a = b) ∧
    (∀ {p : Prop} [Decidable p], ¬¬p ↔ p) ∧ (∀ {a b : Int}, ¬a < b ↔ b ≤ a) ∧ (∀ {a b : Int}, ¬a ≤ b ↔ b < a) :=
  ⟨@decide_eq_true_eq, @decide_eq_false_iff_not, @Bool.not_eq_true', @Bool.not_eq_false', @bne_iff_ne, @beq_iff_eq, @ne_eq, @Bool.not_true, @Bool.not_false, @beq_eq_false_iff_ne, @bne_eq_false_iff_eq, @Decidable.not_not, @Int.not_lt, @Int.not_le⟩
theorem SG : ((∀ {p : Prop} [Decidable p], (decide p = true) = p) ∧ (∀ {p : Prop} {_ : Decidable p}, decide p = false ↔ ¬p) ∧ (∀ (b : Bool), ((!b) = true) = (b = false)) ∧ (∀ (b : Bool), ((!b) = false) = (b = true)) ∧ (∀ {α : Type} [BEq α] [LawfulBEq α] {a b : α}, (a != b) = true ↔ a ≠ b) ∧
    (∀ {α : Type} [BEq α] [LawfulBEq α] {a b : α}, (a == b) = true ↔ a = b) ∧ (∀ {α : Type} (a b : α), (a ≠ b) = ¬a = b) ∧ (!true) = false ∧ (!false) = true ∧ (∀ {α : Type} [BEq α] [LawfulBEq α] {a b : α}, (a == b) = false ↔ a ≠ b) ∧ (∀ {α : Type} [BEq α] [LawfulBEq α] {a b : α}, (a != b) = false ↔ a = b) ∧
    (∀ {p : Prop} [Decidable p], ¬¬p ↔ p) ∧ (∀ {a b : Int}, ¬a < b ↔ b ≤ a) ∧ (∀ {a b : Int}, ¬a ≤ b ↔ b < a)) ∧
    (∀ (a b : Bool), ((a && b) = true) = (a = true ∧ b = true)) ∧ (∀ {x y : Bool}, (x && y) = false ↔ x = false ∨ y = false) ∧ (∀ (a b : Bool), ((a || b) = true) = (a = true ∨ b = true)) ∧ (∀ {x y : Bool}, (x || y) = false ↔ x = false ∧ y = false) :=
  ⟨SD, @Bool.and_eq_true, @Bool.and_eq_false_iff, @Bool.or_eq_true, @Bool.or_eq_false_iff⟩
def c0s (keep : List Nat) (A : Asr) : List Mv.Loc → Asr → Option Asr
  | l :: ls, B => match keepLoc keep l, Mv.look A l with
    | true, some a => c0s keep A ls ((l, a) :: B)
    | _, _ => none
  | [], B => some B
theorem b6z {keep : List Nat} {A : Asr} : ∀ (ls : List Mv.Loc) {B C : Asr}, KeepL keep A B → c0s keep A ls B = some C → KeepL keep A C
  | [], B, C, h, e => by simp only [c0s, Option.some.injEq] at e; rw [← e]; exact h
  | l :: ls, B, C, h, e => by
    simp only [c0s] at e
    split at e
    · exact b6z ls (show KeepL keep A ((l, _) :: B) from ⟨by assumption, by assumption, h⟩) e
    · cases e
theorem kS (ts hs : List Nat) {keep : List Nat} {A B : Asr} (h : c0s keep A (ts.map .t ++ hs.map .h) [] = some B) : KeepL keep A B := b6z _ (show KeepL keep A [] from trivial) h
section
variable {cx : Cx} {keep : List Nat} {ops0 : Array Oper} {r : List Oper} {A : Asr} {Q : Asr → List Log → Prop}
variable {d ty : Nat} {pos : String} {aft : Array Edge}
theorem gT {op : Op} {dst : Option Nat} {g dg : Nat} {want b : Bool} (hd : (ops0[g]?).bind (·.dst) = some dg) (hb : Mv.look A (.t dg) = some (.val (.bool b)))
    (h : XR cx keep ops0 (⟨dst, op, ty, pos, aft, none⟩ :: r) A fun A' lg => Q A' (b7j (.t dg) lg)) (hw : b = want := by assumption) : XR cx keep ops0 (⟨dst, op, ty, pos, aft, some (g, want)⟩ :: r) A Q := R7 hd hb hw h
theorem gF {op : Op} {g dg : Nat} {want b : Bool} (hd : (ops0[g]?).bind (·.dst) = some dg) (hb : Mv.look A (.t dg) = some (.val (.bool b)))
    (h : XR cx keep ops0 r ((.t d, .val (.tuple #[])) :: A) fun A' lg => Q A' (([.t dg], [.t d]) :: lg)) (hw : b = !want := by assumption) : XR cx keep ops0 (⟨some d, op, ty, pos, aft, some (g, want)⟩ :: r) A Q := G9 hd hb hw h
end

def mdT : List (Nat × List Nat) := [(16, [1]), (23, [3, 3, 3, 3]), (24, [3, 3, 3, 3]), (28, [2]), (32, [3, 3, 3, 3]), (34, [3, 3, 3, 3]), (35, [3, 3, 3, 3]), (36, [3, 3, 3, 3]), (39, [3, 3, 3, 3]), (40, [3, 3, 3, 3]), (44, [3, 3, 3, 3]), (45, [3, 3, 3, 3]), (46, [3, 3, 3, 3]), (47, [3, 3, 3, 3]), (48, [3, 3, 3, 3]), (53, [3, 3, 3, 3]), (56, [3, 3, 3, 3])]
noncomputable def c5f : List (Nat × (List AV → Option (AV × List (List AV)))) := [(49, a4v), (50, a9w), (65, a4h), (80, b0w), (81, b1b), (82, a9x)]
noncomputable def cxT : Cx := { P := Tryd.prog, md := c6k mdT, ext := b7r c5f, it := fun _ => none, fz := fun k => [23, 24, 32, 39, 40, 48, 53].contains k }
noncomputable def cxE : Cx := { P := Tryd.prog, md := c6k mdT, ext := fun _ => none, fz := fun k => [23, 24, 32, 39, 40, 48, 53].contains k }
theorem b7o (l : List UInt8) (b : UInt8) (hl : l.length < 4294967281) : CW cxT 49 [tV l, tV [b]] = some (.own 1 ((splitB b l).map tV), []) := a2h cxT rfl (by show (if l.length < 4294967281 then some ((AV.own 1 ((splitB b l).map tV), []) : AV × List (List AV)) else none) = _; rw [if_pos hl])
theorem c5g (ps : List (List UInt8)) (b : UInt8) (h1 : ps.length ≤ J2) (h2 : (joinB b ps).length ≤ J2) : CW cxT 50 [.list (ps.map tV), tV [b]] = some (tV (joinB b ps), []) := a2h cxT rfl (by show ((unT (ps.map tV)).bind fun ps => if ps.length ≤ J2 ∧ (joinB b ps).length ≤ J2 then some ((tV (joinB b ps), []) : AV × List (List AV)) else none) = _; rw [c3a, Option.bind_some, if_pos ⟨h1, h2⟩])
theorem c4z (n : Int) (h : -9223372036854775808 ≤ n ∧ n ≤ 9223372036854775807) : CW cxT 65 [iV n] = some (tV (dec n), []) := a2h cxT rfl (by simp [a4h, h])
theorem c4y (l : List UInt8) (b : UInt8) : CW cxT 80 [tV l, tV [b]] = some (.tup [tV (n8 b l), bV (decide (l.head? = some b))], []) := a2h cxT rfl rfl
theorem c5v (l : List UInt8) (b : UInt8) (hl : l.length < 4294967281) : CW cxT 81 [tV l, tV [b]] = some (.tup [tV (a7g b l), bV (decide (l.getLast? = some b))], []) := a2h cxT rfl (by show (if l.length < 4294967281 then some ((AV.tup [tV (a7g b l), bV (decide (l.getLast? = some b))], []) : AV × List (List AV)) else none) = _; rw [if_pos hl])
theorem b5w (l : List UInt8) (hl : l.length < 4294967281) : CW cxT 82 [tV l] = some (atR l, []) := a2h cxT rfl (by show (if l.length < 4294967281 then some ((atR l, []) : AV × List (List AV)) else none) = _; rw [if_pos hl])

theorem keep_s_inRange : H1 Tryd.f71 = [0, 1, 2, 6] := by kernel_rfl
set_option maxHeartbeats 20000000 in
theorem b7y (n lo hi : Int) : CW cxT 71 [iV n, iV lo, iV hi] = some (bV (decide (lo ≤ n) && decide (n ≤ hi)), []) := by
 refine G3 rfl Tryd.func71 rfl ⟨by kernel_rfl, rfl, of_decide_eq_true rfl, of_decide_eq_true rfl, by decide⟩ keep_s_inRange <| A4 <| A0 <| A3 rfl rfl rfl ?_
 refine A5 ⟨nofun, _, kS [0,1,2] [] rfl, ?_⟩
 refine A4 <| A0 <| A6 rfl rfl <| A6 rfl rfl <| a6v rfl rfl <| A6 rfl rfl ?_
 refine E3 rfl rfl (fun hg0 => ?_) (fun hg0 => ?_)
 ·have hg := hg0; try simp only [SG] at hg
  refine A6 rfl rfl <| gT rfl rfl <| A6 rfl rfl <| gT rfl rfl <| a6v rfl rfl <| G1 rfl (by assumption) rfl rfl <| A3 rfl rfl rfl ?_
  refine A5 ⟨nofun, _, kS [6] [] rfl, ?_⟩
  refine B0 <| C0 rfl rfl trivial ?_
  simp_all [ofConst]; try omega
 have hg := hg0; try simp only [SG] at hg
 refine gF rfl rfl <| gF rfl rfl <| G8 rfl (by assumption) rfl rfl <| A3 rfl rfl rfl ?_
 refine A5 ⟨nofun, _, kS [6] [] rfl, ?_⟩
 refine B0 <| C0 rfl rfl trivial ?_
 simp_all [ofConst]; try omega

theorem keep_s_in : H1 Tryd.f110 = [0, 1, 2, 6] := by kernel_rfl
set_option maxHeartbeats 20000000 in
theorem c6w (n lo hi : Int) : CW cxT 110 [iV n, iV lo, iV hi] = some (bV (decide (lo ≤ n) && decide (n ≤ hi)), []) := by
 refine G3 rfl Tryd.func110 rfl ⟨by kernel_rfl, rfl, of_decide_eq_true rfl, of_decide_eq_true rfl, by decide⟩ keep_s_in <| A4 <| A0 <| A3 rfl rfl rfl ?_
 refine A5 ⟨nofun, _, kS [0,1,2] [] rfl, ?_⟩
 refine A4 <| A0 <| A6 rfl rfl <| A6 rfl rfl <| c2j rfl rfl <| A6 rfl rfl ?_
 refine E3 rfl rfl (fun hg0 => ?_) (fun hg0 => ?_)
 ·have hg := hg0; try simp only [SG] at hg
  refine A6 rfl rfl <| gT rfl rfl <| A6 rfl rfl <| gT rfl rfl <| a6v rfl rfl <| G1 rfl (by assumption) rfl rfl <| A3 rfl rfl rfl ?_
  refine A5 ⟨nofun, _, kS [6] [] rfl, ?_⟩
  refine B0 <| C0 rfl rfl trivial ?_
  simp_all [ofConst]; try omega
 have hg := hg0; try simp only [SG] at hg
 refine gF rfl rfl <| gF rfl rfl <| G8 rfl (by assumption) rfl rfl <| A3 rfl rfl rfl ?_
 refine A5 ⟨nofun, _, kS [6] [] rfl, ?_⟩
 refine B0 <| C0 rfl rfl trivial ?_
 simp_all [ofConst]; try omega

theorem keep_s_IndexFunc2 : H1 Tryd.f119 = [0, 1, 4, 8, 7, 9, 5, 16] := by kernel_rfl
set_option maxHeartbeats 20000000 in
theorem b0i (xs : List Int) (hl : xs.length ≤ 1000) (k : Nat) (a b : AV) (q : Int → Bool) (hq : ∀ x, CW cxT k [iV x, .ipt a 0, .ipt b 0] = some (bV (q x), [])) : ∃ res outs, (fun res outs => ∃ r : Int, res = iV r ∧ outs = [] ∧ decide (0 ≤ r) = xs.any q) res outs ∧ CW cxT 119 [L xs, .clo k [.ipt a 0, .ipt b 0]] = some (res, outs) := by
 refine b8x rfl Tryd.func119 rfl ⟨by kernel_rfl, rfl, of_decide_eq_true rfl, of_decide_eq_true rfl, by decide⟩ keep_s_IndexFunc2 <| A4 <| A0 <| A3 rfl rfl rfl ?_
 refine A5 ⟨nofun, _, kS [0,1] [] rfl, ?_⟩
 refine A4 <| A4 <| A0 <| A6 rfl rfl <| H6 rfl rfl <| A6 rfl rfl ?_
 refine A5 ⟨nofun, _, kS [0,1,7,8] [] rfl, ?_⟩
 refine C8 <| I7 (β := Nat) [(.t 0, _), (.t 1, _), (.t 7, _)] (fun (i : Nat) => [(.t 8, iV i)]) (fun (i : Nat) => i ≤ xs.length ∧ ∀ j, j < i → q (xs.getD j default) = false) (fun (i : Nat) => xs.length - i) 0 ⟨rfl, rfl, rfl, rfl, trivial⟩ ⟨Nat.zero_le _, fun j h => by omega⟩ ?_
 intro i hb
 obtain ⟨hi1, hi2⟩ := hb
 refine A4 <| A0 <| K4 rfl rfl ?_
 refine A5 ⟨nofun, _, kS [0,1,7,8,9] [] rfl, ?_⟩
 refine A4 ?_
 refine A8 rfl (fun hc => ?_) (fun hc => ?_)
 ·try simp only [SG, List.length_map] at hc
  refine B2 <| A4 <| C8 <| A4 <| A0 <| A6 rfl rfl <| A3 rfl rfl rfl ?_
  refine A5 ⟨nofun, _, kS [0,1,5,7,8] [] rfl, ?_⟩
  refine A4 <| A0 <| A6 rfl rfl <| A6 rfl rfl <| A6 rfl rfl <| F9 rfl rfl rfl (fun _ => rfl) (by omega) <| G4 rfl rfl rfl ?_
  apply c3d rfl rfl
  ·apply B6
   ·exact B3 rfl
   apply B6
   ·exact B3 rfl
   apply B6
   ·exact B3 rfl
   exact C9
  ·exact hq (xs.getD i default)
  ·exact ⟨rfl, rfl, rfl, of_decide_eq_true rfl, rfl⟩
  ·exact .inl rfl
  ·exact B7
  ·exact C7 rfl
  ·exact fun _ => rfl
  intro g16
  refine A5 ⟨nofun, _, kS [0,1,5,7,8,16] [] rfl, ?_⟩
  refine A8 rfl (fun hc => ?_) (fun hc => ?_)
  ·try simp only [SG, List.length_map] at hc
   refine A4 <| A0 <| A6 rfl rfl <| A3 rfl rfl rfl ?_
   refine A5 ⟨nofun, _, kS [4] [] rfl, ?_⟩
   refine B0 ?_
   refine ⟨_, _, ?_, b0u rfl rfl C5⟩
   exact ⟨_, rfl, rfl, c3r (by omega) hc⟩
  try simp only [SG, List.length_map] at hc
  refine B2 <| A0 <| I6 rfl rfl (H2 (by omega)) <| A6 rfl rfl ?_
  refine A5 ⟨nofun, _, kS [0,1,7,8] [] rfl, ?_⟩
  refine ⟨i + 1, ⟨by omega, fun a ha => by rcases Nat.lt_succ_iff_lt_or_eq.1 ha with h | h; exact hi2 a h; subst h; exact hc⟩, (by omega), ⟨rfl, rfl, rfl, rfl, trivial⟩⟩
 try simp only [SG, List.length_map] at hc
 refine H7 <| A4 <| A0 <| A3 rfl rfl rfl ?_
 refine A5 ⟨nofun, _, kS [4] [] rfl, ?_⟩
 refine B0 ?_
 refine ⟨_, _, ?_, b0u rfl rfl C5⟩
 exact ⟨-1, rfl, rfl, c0u fun j hj => hi2 j (by omega)⟩

theorem keep_s_ContainsFunc2 : H1 Tryd.f108 = [0, 1, 4] := by kernel_rfl
set_option maxHeartbeats 20000000 in
theorem a3y (xs : List Int) (hl : xs.length ≤ 1000) (k : Nat) (a b : AV) (q : Int → Bool) (hq : ∀ x, CW cxT k [iV x, .ipt a 0, .ipt b 0] = some (bV (q x), [])) : CW cxT 108 [L xs, .clo k [.ipt a 0, .ipt b 0]] = some (bV (xs.any q), []) := by
 obtain ⟨_, _, ⟨r, rfl, rfl, hr⟩, hC⟩ := b0i xs hl k a b q hq
 refine G3 rfl Tryd.func108 rfl ⟨by kernel_rfl, rfl, of_decide_eq_true rfl, of_decide_eq_true rfl, by decide⟩ keep_s_ContainsFunc2 <| A4 <| A0 <| A3 rfl rfl rfl ?_
 refine A5 ⟨nofun, _, kS [0,1] [] rfl, ?_⟩
 refine A4 <| A0 <| A6 rfl rfl <| A6 rfl rfl ?_
 apply D5 rfl
 ·apply B6
  ·exact B3 rfl
  apply B6
  ·exact c0k rfl (c2t (c2t c1q))
  exact C9
 ·exact hC
 ·exact ⟨rfl, rfl, rfl, of_decide_eq_true rfl, rfl⟩
 ·exact .inl rfl
 ·exact B7
 ·exact C7 rfl
 ·exact fun _ => rfl
 intro g7
 refine c2j rfl rfl <| A3 rfl rfl rfl ?_
 refine A5 ⟨nofun, _, kS [4] [] rfl, ?_⟩
 refine B0 <| C0 rfl rfl trivial ?_
 rw [← hr]

theorem keep_s_allIn1 : H1 Tryd.f109 = [0, 1, 2, 4] := by kernel_rfl
set_option maxHeartbeats 20000000 in
theorem c1g (x lo hi : Int) : CW cxT 109 [iV x, .ipt (iV lo) 0, .ipt (iV hi) 0] = some (bV (!(decide (lo ≤ x) && decide (x ≤ hi))), []) := by
 refine G3 rfl Tryd.func109 rfl ⟨by kernel_rfl, rfl, of_decide_eq_true rfl, of_decide_eq_true rfl, by decide⟩ keep_s_allIn1 <| A4 <| A0 <| A3 rfl rfl rfl ?_
 refine A5 ⟨nofun, _, kS [0,1,2] [] rfl, ?_⟩
 refine A4 <| A0 <| A6 rfl rfl <| G4 rfl rfl rfl <| G4 rfl rfl rfl ?_
 apply D5 rfl
 ·apply B6
  ·exact B3 rfl
  apply B6
  ·exact B3 rfl
  apply B6
  ·exact B3 rfl
  exact C9
 ·exact c6w _ _ _
 ·exact ⟨rfl, rfl, rfl, of_decide_eq_true rfl, rfl⟩
 ·exact .inl rfl
 ·exact B7
 ·exact C7 rfl
 ·exact fun _ => rfl
 intro g8
 refine O1 rfl <| A3 rfl rfl rfl ?_
 refine A5 ⟨nofun, _, kS [4] [] rfl, ?_⟩
 refine B0 <| C0 rfl rfl trivial ?_
 rfl

theorem keep_s_allIn : H1 Tryd.f94 = [0, 1, 2, 6, 4, 5] := by kernel_rfl
set_option maxHeartbeats 20000000 in
theorem c3q (xs : List Int) (hl : xs.length ≤ 1000) (lo hi : Int) : CW cxT 94 [L xs, iV lo, iV hi] = some (bV (w9 lo hi xs), []) := by
 refine G3 rfl Tryd.func94 rfl ⟨by kernel_rfl, rfl, of_decide_eq_true rfl, of_decide_eq_true rfl, by decide⟩ keep_s_allIn <| A4 <| A0 <| b7a rfl rfl rfl (fun _ => B1 rfl) (fun _ => rfl) ?_
 intro g4
 refine b7a rfl rfl rfl (fun _ => B1 rfl) (fun _ => rfl) ?_
 intro g5
 refine A3 rfl rfl rfl ?_
 refine A5 ⟨nofun, _, kS [0,4,5] [4,5] rfl, ?_⟩
 refine A4 <| A0 <| A6 rfl rfl <| b5h rfl rfl ?_
 apply D5 rfl
 ·apply B6
  ·exact B3 rfl
  apply B6
  ·exact c0k rfl (c1x rfl rfl (c1x rfl rfl c1q))
  exact C9
 ·exact a3y xs hl 109 (iV lo) (iV hi) _ (fun x => c1g x lo hi)
 ·exact ⟨rfl, rfl, rfl, of_decide_eq_true rfl, rfl⟩
 ·exact .inr ⟨rfl, rfl⟩
 ·exact B7
 ·exact C7 rfl
 ·exact fun _ => rfl
 intro g9
 refine O1 rfl <| A3 rfl rfl rfl ?_
 refine A5 ⟨nofun, _, kS [6] [] rfl, ?_⟩
 refine B0 <| C0 rfl rfl trivial ?_
 exact congrArg bV (c1e lo hi xs)

theorem keep_s_validData : H1 Tryd.f62 = [0, 2, 3, 7, 15] := by kernel_rfl
set_option maxHeartbeats 20000000 in
theorem b1o (xs : List Int) (hl : xs.length ≤ 1048576) : CW cxT 62 [L xs] = some (bV (vd xs), []) := by
 refine G3 rfl Tryd.func62 rfl ⟨by kernel_rfl, rfl, of_decide_eq_true rfl, of_decide_eq_true rfl, by decide⟩ keep_s_validData <| A4 <| A0 <| A3 rfl rfl rfl ?_
 refine A5 ⟨nofun, _, kS [0] [] rfl, ?_⟩
 refine A4 <| A4 <| A0 <| A3 rfl rfl rfl ?_
 refine A5 ⟨nofun, _, kS [0,3] [] rfl, ?_⟩
 refine C8 <| I7 (β := Nat) [(.t 0, _)] (fun (i : Nat) => [(.t 3, iV i)]) (fun (i : Nat) => i ≤ xs.length ∧ ∀ j, j < i → -200 ≤ xs.getD j default ∧ xs.getD j default ≤ 200) (fun (i : Nat) => xs.length - i) 0 ⟨rfl, rfl, trivial⟩ ⟨Nat.zero_le _, fun j h => by omega⟩ ?_
 intro i hb
 obtain ⟨hi1, hi2⟩ := hb
 refine A4 <| A4 <| A0 <| A6 rfl rfl <| A6 rfl rfl <| H6 rfl rfl <| K4 rfl rfl ?_
 refine A5 ⟨nofun, _, kS [0,3,7] [] rfl, ?_⟩
 refine A8 rfl (fun hc => ?_) (fun hc => ?_)
 ·try simp only [SG, List.length_map] at hc
  refine B2 <| A4 <| C8 <| A4 <| A0 <| A6 rfl rfl <| A6 rfl rfl <| F9 rfl rfl rfl (fun _ => rfl) (by omega) <| G4 rfl rfl rfl ?_
  apply D5 rfl
  ·apply B6
   ·exact B3 rfl
   apply B6
   ·exact B3 rfl
   apply B6
   ·exact B3 rfl
   exact C9
  ·exact b7y _ _ _
  ·exact ⟨rfl, rfl, rfl, of_decide_eq_true rfl, rfl⟩
  ·exact .inl rfl
  ·exact B7
  ·exact C7 rfl
  ·exact fun _ => rfl
  intro g14
  refine O1 rfl ?_
  refine A5 ⟨nofun, _, kS [0,3,15] [] rfl, ?_⟩
  refine A8 rfl (fun hc => ?_) (fun hc => ?_)
  ·try simp only [SG, List.length_map] at hc
   refine A4 <| A0 <| A3 rfl rfl rfl ?_
   refine A5 ⟨nofun, _, kS [2] [] rfl, ?_⟩
   refine B0 <| C0 rfl rfl trivial ?_
   rw [vd, c0m (show i < xs.length by omega) (by (simp_all; omega)), Bool.and_false]
   rfl
  try simp only [SG, List.length_map] at hc
  refine B2 <| A0 <| A6 rfl rfl <| I6 rfl rfl (H2 (by omega)) <| A3 rfl rfl rfl ?_
  refine A5 ⟨nofun, _, kS [0,3] [] rfl, ?_⟩
  refine ⟨i + 1, ⟨by omega, fun j hj => by rcases Nat.lt_succ_iff_lt_or_eq.1 hj with h | h; (· exact hi2 j h); (· subst h; assumption)⟩, (by omega), ⟨rfl, rfl, trivial⟩⟩
 try simp only [SG, List.length_map] at hc
 refine H7 <| A4 <| A0 <| A6 rfl rfl <| H6 rfl rfl <| a6v rfl rfl <| A3 rfl rfl rfl ?_
 refine A5 ⟨nofun, _, kS [2] [] rfl, ?_⟩
 refine B0 <| C0 rfl rfl trivial ?_
 rw [vd, c3s fun j hj => hi2 j (by omega), Bool.and_true]
 exact congrArg bV (decide_eq_decide.2 (by omega))

theorem keep_s_validDataI : H1 Tryd.f83 = [0, 2] := by kernel_rfl
set_option maxHeartbeats 20000000 in
theorem a0v (xs : List Int) (hl : xs.length ≤ 1048576) : CW cxT 83 [L xs] = some (bV (vd xs), []) := by
 refine G3 rfl Tryd.func83 rfl ⟨by kernel_rfl, rfl, of_decide_eq_true rfl, of_decide_eq_true rfl, by decide⟩ keep_s_validDataI <| A4 <| A0 <| A3 rfl rfl rfl ?_
 refine A5 ⟨nofun, _, kS [0] [] rfl, ?_⟩
 refine A4 <| A0 <| A6 rfl rfl <| H6 rfl rfl <| a6v rfl rfl <| A6 rfl rfl ?_
 refine E3 rfl rfl (fun hg0 => ?_) (fun hg0 => ?_)
 ·have hg := hg0; try simp only [SG] at hg
  refine A6 rfl rfl <| gT rfl rfl ?_
  apply D5 rfl
  ·apply B6
   ·exact B3 rfl
   apply B6
   ·exact B3 rfl
   apply B6
   ·exact B3 rfl
   exact C9
  ·exact c3q xs (by omega) (-200) 200
  ·exact ⟨rfl, rfl, rfl, of_decide_eq_true rfl, rfl⟩
  ·exact .inl rfl
  ·exact B7
  ·exact C7 rfl
  ·exact fun _ => rfl
  intro g8
  refine G1 rfl (by assumption) rfl rfl <| A3 rfl rfl rfl ?_
  refine A5 ⟨nofun, _, kS [2] [] rfl, ?_⟩
  refine B0 <| C0 rfl rfl trivial ?_
  cases hb : w9 (-200) 200 xs <;> simp_all [vd, ofConst] <;> omega
 have hg := hg0; try simp only [SG] at hg
 refine gF rfl rfl <| G8 rfl (by assumption) rfl rfl <| A3 rfl rfl rfl ?_
 refine A5 ⟨nofun, _, kS [2] [] rfl, ?_⟩
 refine B0 <| C0 rfl rfl trivial ?_
 cases hb : w9 (-200) 200 xs <;> simp_all [vd, ofConst] <;> omega

theorem keep_s_needs : H1 Tryd.f64 = [0, 2, 3, 4, 10, 19] := by kernel_rfl
set_option maxHeartbeats 20000000 in
theorem a0x (w : ByteArray) : CW cxT 64 [sV w] = some (iV (nd w), []) := by
 refine G3 rfl Tryd.func64 rfl ⟨by kernel_rfl, rfl, of_decide_eq_true rfl, of_decide_eq_true rfl, by decide⟩ keep_s_needs <| A4 <| A0 <| A3 rfl rfl rfl ?_
 refine A5 ⟨nofun, _, kS [0] [] rfl, ?_⟩
 refine A4 <| A4 <| A0 <| A6 rfl rfl ?_
 refine A5 ⟨nofun, _, kS [3] [] rfl, ?_⟩
 refine C8 <| A4 <| A4 <| A0 <| I8 rfl rfl <| A3 rfl rfl rfl ?_
 refine A5 ⟨nofun, _, kS [3,4] [] rfl, ?_⟩
 refine A8 rfl (fun hc => ?_) (fun hc => ?_)
 ·try simp only [SG, List.length_map] at hc
  refine B2 ?_
  refine A8 rfl (fun hc => ?_) (fun hc => absurd hc (by simp_all))
  refine A4 <| A0 <| A3 rfl rfl rfl ?_
  refine A5 ⟨nofun, _, kS [2] [] rfl, ?_⟩
  refine B0 <| C0 rfl rfl trivial <| congrArg iV ?_
  simp_all [nd]
 try simp only [SG, List.length_map] at hc
 refine A4 <| A0 <| I8 rfl rfl <| A3 rfl rfl rfl ?_
 refine A5 ⟨nofun, _, kS [3,4] [] rfl, ?_⟩
 refine A8 rfl (fun hc => ?_) (fun hc => ?_)
 ·try simp only [SG, List.length_map] at hc
  refine B2 ?_
  refine A8 rfl (fun hc => ?_) (fun hc => absurd hc (by simp_all))
  refine A4 <| A0 <| A3 rfl rfl rfl ?_
  refine A5 ⟨nofun, _, kS [2] [] rfl, ?_⟩
  refine B0 <| C0 rfl rfl trivial <| congrArg iV ?_
  simp_all [nd]
 try simp only [SG, List.length_map] at hc
 refine A4 <| A0 <| I8 rfl rfl <| A3 rfl rfl rfl ?_
 refine A5 ⟨nofun, _, kS [3,4] [] rfl, ?_⟩
 refine A8 rfl (fun hc => ?_) (fun hc => ?_)
 ·try simp only [SG, List.length_map] at hc
  refine B2 ?_
  refine A8 rfl (fun hc => ?_) (fun hc => absurd hc (by simp_all))
  refine A4 <| A0 <| A3 rfl rfl rfl ?_
  refine A5 ⟨nofun, _, kS [2] [] rfl, ?_⟩
  refine B0 <| C0 rfl rfl trivial <| congrArg iV ?_
  simp_all [nd]
 try simp only [SG, List.length_map] at hc
 refine A4 <| A0 <| I8 rfl rfl <| A3 rfl rfl rfl ?_
 refine A5 ⟨nofun, _, kS [3,4] [] rfl, ?_⟩
 refine A8 rfl (fun hc => ?_) (fun hc => ?_)
 ·try simp only [SG, List.length_map] at hc
  refine B2 ?_
  refine A8 rfl (fun hc => ?_) (fun hc => absurd hc (by simp_all))
  refine A4 <| A0 <| A3 rfl rfl rfl ?_
  refine A5 ⟨nofun, _, kS [2] [] rfl, ?_⟩
  refine B0 <| C0 rfl rfl trivial <| congrArg iV ?_
  simp_all [nd]
 try simp only [SG, List.length_map] at hc
 refine A0 <| I8 rfl rfl <| A3 rfl rfl rfl ?_
 refine A5 ⟨nofun, _, kS [3,4] [] rfl, ?_⟩
 refine A8 rfl (fun hc => ?_) (fun hc => ?_)
 ·try simp only [SG, List.length_map] at hc
  refine A4 <| A0 <| A3 rfl rfl rfl ?_
  refine A5 ⟨nofun, _, kS [2] [] rfl, ?_⟩
  refine B0 <| C0 rfl rfl trivial <| congrArg iV ?_
  simp_all [nd]
 try simp only [SG, List.length_map] at hc
 refine A4 <| A4 <| A0 <| I8 rfl rfl <| A3 rfl rfl rfl ?_
 refine A5 ⟨nofun, _, kS [3,10] [] rfl, ?_⟩
 refine A8 rfl (fun hc => ?_) (fun hc => ?_)
 ·try simp only [SG, List.length_map] at hc
  refine B2 ?_
  refine A8 rfl (fun hc => ?_) (fun hc => absurd hc (by simp_all))
  refine A4 <| A0 <| A3 rfl rfl rfl ?_
  refine A5 ⟨nofun, _, kS [2] [] rfl, ?_⟩
  refine B0 <| C0 rfl rfl trivial <| congrArg iV ?_
  simp_all [nd]
 try simp only [SG, List.length_map] at hc
 refine A4 <| A0 <| I8 rfl rfl <| A3 rfl rfl rfl ?_
 refine A5 ⟨nofun, _, kS [3,10] [] rfl, ?_⟩
 refine A8 rfl (fun hc => ?_) (fun hc => ?_)
 ·try simp only [SG, List.length_map] at hc
  refine B2 ?_
  refine A8 rfl (fun hc => ?_) (fun hc => absurd hc (by simp_all))
  refine A4 <| A0 <| A3 rfl rfl rfl ?_
  refine A5 ⟨nofun, _, kS [2] [] rfl, ?_⟩
  refine B0 <| C0 rfl rfl trivial <| congrArg iV ?_
  simp_all [nd]
 try simp only [SG, List.length_map] at hc
 refine A4 <| A0 <| I8 rfl rfl <| A3 rfl rfl rfl ?_
 refine A5 ⟨nofun, _, kS [3,10] [] rfl, ?_⟩
 refine A8 rfl (fun hc => ?_) (fun hc => ?_)
 ·try simp only [SG, List.length_map] at hc
  refine B2 ?_
  refine A8 rfl (fun hc => ?_) (fun hc => absurd hc (by simp_all))
  refine A4 <| A0 <| A3 rfl rfl rfl ?_
  refine A5 ⟨nofun, _, kS [2] [] rfl, ?_⟩
  refine B0 <| C0 rfl rfl trivial <| congrArg iV ?_
  simp_all [nd]
 try simp only [SG, List.length_map] at hc
 refine A4 <| A0 <| I8 rfl rfl <| A3 rfl rfl rfl ?_
 refine A5 ⟨nofun, _, kS [3,10] [] rfl, ?_⟩
 refine A8 rfl (fun hc => ?_) (fun hc => ?_)
 ·try simp only [SG, List.length_map] at hc
  refine B2 ?_
  refine A8 rfl (fun hc => ?_) (fun hc => absurd hc (by simp_all))
  refine A4 <| A0 <| A3 rfl rfl rfl ?_
  refine A5 ⟨nofun, _, kS [2] [] rfl, ?_⟩
  refine B0 <| C0 rfl rfl trivial <| congrArg iV ?_
  simp_all [nd]
 try simp only [SG, List.length_map] at hc
 refine A4 <| A0 <| I8 rfl rfl <| A3 rfl rfl rfl ?_
 refine A5 ⟨nofun, _, kS [3,10] [] rfl, ?_⟩
 refine A8 rfl (fun hc => ?_) (fun hc => ?_)
 ·try simp only [SG, List.length_map] at hc
  refine B2 ?_
  refine A8 rfl (fun hc => ?_) (fun hc => absurd hc (by simp_all))
  refine A4 <| A0 <| A3 rfl rfl rfl ?_
  refine A5 ⟨nofun, _, kS [2] [] rfl, ?_⟩
  refine B0 <| C0 rfl rfl trivial <| congrArg iV ?_
  simp_all [nd]
 try simp only [SG, List.length_map] at hc
 refine A4 <| A0 <| I8 rfl rfl <| A3 rfl rfl rfl ?_
 refine A5 ⟨nofun, _, kS [3,10] [] rfl, ?_⟩
 refine A8 rfl (fun hc => ?_) (fun hc => ?_)
 ·try simp only [SG, List.length_map] at hc
  refine B2 ?_
  refine A8 rfl (fun hc => ?_) (fun hc => absurd hc (by simp_all))
  refine A4 <| A0 <| A3 rfl rfl rfl ?_
  refine A5 ⟨nofun, _, kS [2] [] rfl, ?_⟩
  refine B0 <| C0 rfl rfl trivial <| congrArg iV ?_
  simp_all [nd]
 try simp only [SG, List.length_map] at hc
 refine A4 <| A0 <| I8 rfl rfl <| A3 rfl rfl rfl ?_
 refine A5 ⟨nofun, _, kS [3,10] [] rfl, ?_⟩
 refine A8 rfl (fun hc => ?_) (fun hc => ?_)
 ·try simp only [SG, List.length_map] at hc
  refine B2 ?_
  refine A8 rfl (fun hc => ?_) (fun hc => absurd hc (by simp_all))
  refine A4 <| A0 <| A3 rfl rfl rfl ?_
  refine A5 ⟨nofun, _, kS [2] [] rfl, ?_⟩
  refine B0 <| C0 rfl rfl trivial <| congrArg iV ?_
  simp_all [nd]
 try simp only [SG, List.length_map] at hc
 refine A0 <| I8 rfl rfl <| A3 rfl rfl rfl ?_
 refine A5 ⟨nofun, _, kS [3,10] [] rfl, ?_⟩
 refine A8 rfl (fun hc => ?_) (fun hc => ?_)
 ·try simp only [SG, List.length_map] at hc
  refine A4 <| A0 <| A3 rfl rfl rfl ?_
  refine A5 ⟨nofun, _, kS [2] [] rfl, ?_⟩
  refine B0 <| C0 rfl rfl trivial <| congrArg iV ?_
  simp_all [nd]
 try simp only [SG, List.length_map] at hc
 refine A4 <| A4 <| A0 <| I8 rfl rfl <| A3 rfl rfl rfl ?_
 refine A5 ⟨nofun, _, kS [3,19] [] rfl, ?_⟩
 refine A8 rfl (fun hc => ?_) (fun hc => ?_)
 ·try simp only [SG, List.length_map] at hc
  refine B2 ?_
  refine A8 rfl (fun hc => ?_) (fun hc => absurd hc (by simp_all))
  refine A4 <| A0 <| A3 rfl rfl rfl ?_
  refine A5 ⟨nofun, _, kS [2] [] rfl, ?_⟩
  refine B0 <| C0 rfl rfl trivial <| congrArg iV ?_
  simp_all [nd]
 try simp only [SG, List.length_map] at hc
 refine A0 <| I8 rfl rfl <| A3 rfl rfl rfl ?_
 refine A5 ⟨nofun, _, kS [19] [] rfl, ?_⟩
 refine A8 rfl (fun hc => ?_) (fun hc => ?_)
 ·try simp only [SG, List.length_map] at hc
  refine A4 <| A0 <| A3 rfl rfl rfl ?_
  refine A5 ⟨nofun, _, kS [2] [] rfl, ?_⟩
  refine B0 <| C0 rfl rfl trivial <| congrArg iV ?_
  simp_all [nd]
 try simp only [SG, List.length_map] at hc
 refine B2 <| A4 <| A0 <| A3 rfl rfl rfl ?_
 refine A5 ⟨nofun, _, kS [2] [] rfl, ?_⟩
 refine B0 <| C0 rfl rfl trivial <| congrArg iV ?_
 simp_all [nd]

theorem keep_s_reachOf : H1 Tryd.f52 = [0, 2, 3, 4, 13, 16] := by kernel_rfl
set_option maxHeartbeats 20000000 in
theorem b8j (w : ByteArray) : CW cxT 52 [sV w] = some (iV (rch w), []) := by
 refine G3 rfl Tryd.func52 rfl ⟨by kernel_rfl, rfl, of_decide_eq_true rfl, of_decide_eq_true rfl, by decide⟩ keep_s_reachOf <| A4 <| A0 <| A3 rfl rfl rfl ?_
 refine A5 ⟨nofun, _, kS [0] [] rfl, ?_⟩
 refine A4 <| A4 <| A0 <| A6 rfl rfl ?_
 refine A5 ⟨nofun, _, kS [3] [] rfl, ?_⟩
 refine C8 <| A4 <| A4 <| A0 <| I8 rfl rfl <| A3 rfl rfl rfl ?_
 refine A5 ⟨nofun, _, kS [3,4] [] rfl, ?_⟩
 refine A8 rfl (fun hc => ?_) (fun hc => ?_)
 ·try simp only [SG, List.length_map] at hc
  refine B2 ?_
  refine A8 rfl (fun hc => ?_) (fun hc => absurd hc (by simp_all))
  refine A4 <| A0 <| A3 rfl rfl rfl ?_
  refine A5 ⟨nofun, _, kS [2] [] rfl, ?_⟩
  refine B0 <| C0 rfl rfl trivial <| congrArg iV ?_
  simp_all [rch]
 try simp only [SG, List.length_map] at hc
 refine A4 <| A0 <| I8 rfl rfl <| A3 rfl rfl rfl ?_
 refine A5 ⟨nofun, _, kS [3,4] [] rfl, ?_⟩
 refine A8 rfl (fun hc => ?_) (fun hc => ?_)
 ·try simp only [SG, List.length_map] at hc
  refine B2 ?_
  refine A8 rfl (fun hc => ?_) (fun hc => absurd hc (by simp_all))
  refine A4 <| A0 <| A3 rfl rfl rfl ?_
  refine A5 ⟨nofun, _, kS [2] [] rfl, ?_⟩
  refine B0 <| C0 rfl rfl trivial <| congrArg iV ?_
  simp_all [rch]
 try simp only [SG, List.length_map] at hc
 refine A4 <| A0 <| I8 rfl rfl <| A3 rfl rfl rfl ?_
 refine A5 ⟨nofun, _, kS [3,4] [] rfl, ?_⟩
 refine A8 rfl (fun hc => ?_) (fun hc => ?_)
 ·try simp only [SG, List.length_map] at hc
  refine B2 ?_
  refine A8 rfl (fun hc => ?_) (fun hc => absurd hc (by simp_all))
  refine A4 <| A0 <| A3 rfl rfl rfl ?_
  refine A5 ⟨nofun, _, kS [2] [] rfl, ?_⟩
  refine B0 <| C0 rfl rfl trivial <| congrArg iV ?_
  simp_all [rch]
 try simp only [SG, List.length_map] at hc
 refine A4 <| A0 <| I8 rfl rfl <| A3 rfl rfl rfl ?_
 refine A5 ⟨nofun, _, kS [3,4] [] rfl, ?_⟩
 refine A8 rfl (fun hc => ?_) (fun hc => ?_)
 ·try simp only [SG, List.length_map] at hc
  refine B2 ?_
  refine A8 rfl (fun hc => ?_) (fun hc => absurd hc (by simp_all))
  refine A4 <| A0 <| A3 rfl rfl rfl ?_
  refine A5 ⟨nofun, _, kS [2] [] rfl, ?_⟩
  refine B0 <| C0 rfl rfl trivial <| congrArg iV ?_
  simp_all [rch]
 try simp only [SG, List.length_map] at hc
 refine A4 <| A0 <| I8 rfl rfl <| A3 rfl rfl rfl ?_
 refine A5 ⟨nofun, _, kS [3,4] [] rfl, ?_⟩
 refine A8 rfl (fun hc => ?_) (fun hc => ?_)
 ·try simp only [SG, List.length_map] at hc
  refine B2 ?_
  refine A8 rfl (fun hc => ?_) (fun hc => absurd hc (by simp_all))
  refine A4 <| A0 <| A3 rfl rfl rfl ?_
  refine A5 ⟨nofun, _, kS [2] [] rfl, ?_⟩
  refine B0 <| C0 rfl rfl trivial <| congrArg iV ?_
  simp_all [rch]
 try simp only [SG, List.length_map] at hc
 refine A4 <| A0 <| I8 rfl rfl <| A3 rfl rfl rfl ?_
 refine A5 ⟨nofun, _, kS [3,4] [] rfl, ?_⟩
 refine A8 rfl (fun hc => ?_) (fun hc => ?_)
 ·try simp only [SG, List.length_map] at hc
  refine B2 ?_
  refine A8 rfl (fun hc => ?_) (fun hc => absurd hc (by simp_all))
  refine A4 <| A0 <| A3 rfl rfl rfl ?_
  refine A5 ⟨nofun, _, kS [2] [] rfl, ?_⟩
  refine B0 <| C0 rfl rfl trivial <| congrArg iV ?_
  simp_all [rch]
 try simp only [SG, List.length_map] at hc
 refine A4 <| A0 <| I8 rfl rfl <| A3 rfl rfl rfl ?_
 refine A5 ⟨nofun, _, kS [3,4] [] rfl, ?_⟩
 refine A8 rfl (fun hc => ?_) (fun hc => ?_)
 ·try simp only [SG, List.length_map] at hc
  refine B2 ?_
  refine A8 rfl (fun hc => ?_) (fun hc => absurd hc (by simp_all))
  refine A4 <| A0 <| A3 rfl rfl rfl ?_
  refine A5 ⟨nofun, _, kS [2] [] rfl, ?_⟩
  refine B0 <| C0 rfl rfl trivial <| congrArg iV ?_
  simp_all [rch]
 try simp only [SG, List.length_map] at hc
 refine A0 <| I8 rfl rfl <| A3 rfl rfl rfl ?_
 refine A5 ⟨nofun, _, kS [3,4] [] rfl, ?_⟩
 refine A8 rfl (fun hc => ?_) (fun hc => ?_)
 ·try simp only [SG, List.length_map] at hc
  refine A4 <| A0 <| A3 rfl rfl rfl ?_
  refine A5 ⟨nofun, _, kS [2] [] rfl, ?_⟩
  refine B0 <| C0 rfl rfl trivial <| congrArg iV ?_
  simp_all [rch]
 try simp only [SG, List.length_map] at hc
 refine A4 <| A4 <| A0 <| I8 rfl rfl <| A3 rfl rfl rfl ?_
 refine A5 ⟨nofun, _, kS [3,13] [] rfl, ?_⟩
 refine A8 rfl (fun hc => ?_) (fun hc => ?_)
 ·try simp only [SG, List.length_map] at hc
  refine B2 ?_
  refine A8 rfl (fun hc => ?_) (fun hc => absurd hc (by simp_all))
  refine A4 <| A0 <| A3 rfl rfl rfl ?_
  refine A5 ⟨nofun, _, kS [2] [] rfl, ?_⟩
  refine B0 <| C0 rfl rfl trivial <| congrArg iV ?_
  simp_all [rch]
 try simp only [SG, List.length_map] at hc
 refine A0 <| I8 rfl rfl <| A3 rfl rfl rfl ?_
 refine A5 ⟨nofun, _, kS [3,13] [] rfl, ?_⟩
 refine A8 rfl (fun hc => ?_) (fun hc => ?_)
 ·try simp only [SG, List.length_map] at hc
  refine A4 <| A0 <| A3 rfl rfl rfl ?_
  refine A5 ⟨nofun, _, kS [2] [] rfl, ?_⟩
  refine B0 <| C0 rfl rfl trivial <| congrArg iV ?_
  simp_all [rch]
 try simp only [SG, List.length_map] at hc
 refine A4 <| A4 <| A0 <| I8 rfl rfl <| A3 rfl rfl rfl ?_
 refine A5 ⟨nofun, _, kS [3,16] [] rfl, ?_⟩
 refine A8 rfl (fun hc => ?_) (fun hc => ?_)
 ·try simp only [SG, List.length_map] at hc
  refine B2 ?_
  refine A8 rfl (fun hc => ?_) (fun hc => absurd hc (by simp_all))
  refine A4 <| A0 <| A3 rfl rfl rfl ?_
  refine A5 ⟨nofun, _, kS [2] [] rfl, ?_⟩
  refine B0 <| C0 rfl rfl trivial <| congrArg iV ?_
  simp_all [rch]
 try simp only [SG, List.length_map] at hc
 refine A4 <| A0 <| I8 rfl rfl <| A3 rfl rfl rfl ?_
 refine A5 ⟨nofun, _, kS [3,16] [] rfl, ?_⟩
 refine A8 rfl (fun hc => ?_) (fun hc => ?_)
 ·try simp only [SG, List.length_map] at hc
  refine B2 ?_
  refine A8 rfl (fun hc => ?_) (fun hc => absurd hc (by simp_all))
  refine A4 <| A0 <| A3 rfl rfl rfl ?_
  refine A5 ⟨nofun, _, kS [2] [] rfl, ?_⟩
  refine B0 <| C0 rfl rfl trivial <| congrArg iV ?_
  simp_all [rch]
 try simp only [SG, List.length_map] at hc
 refine A4 <| A0 <| I8 rfl rfl <| A3 rfl rfl rfl ?_
 refine A5 ⟨nofun, _, kS [3,16] [] rfl, ?_⟩
 refine A8 rfl (fun hc => ?_) (fun hc => ?_)
 ·try simp only [SG, List.length_map] at hc
  refine B2 ?_
  refine A8 rfl (fun hc => ?_) (fun hc => absurd hc (by simp_all))
  refine A4 <| A0 <| A3 rfl rfl rfl ?_
  refine A5 ⟨nofun, _, kS [2] [] rfl, ?_⟩
  refine B0 <| C0 rfl rfl trivial <| congrArg iV ?_
  simp_all [rch]
 try simp only [SG, List.length_map] at hc
 refine A0 <| I8 rfl rfl <| A3 rfl rfl rfl ?_
 refine A5 ⟨nofun, _, kS [16] [] rfl, ?_⟩
 refine A8 rfl (fun hc => ?_) (fun hc => ?_)
 ·try simp only [SG, List.length_map] at hc
  refine A4 <| A0 <| A3 rfl rfl rfl ?_
  refine A5 ⟨nofun, _, kS [2] [] rfl, ?_⟩
  refine B0 <| C0 rfl rfl trivial <| congrArg iV ?_
  simp_all [rch]
 try simp only [SG, List.length_map] at hc
 refine B2 <| A4 <| A0 <| A3 rfl rfl rfl ?_
 refine A5 ⟨nofun, _, kS [2] [] rfl, ?_⟩
 refine B0 <| C0 rfl rfl trivial <| congrArg iV ?_
 simp_all [rch]

theorem keep_s_number : H1 Tryd.f55 = [0, 2, 4, 10] := by kernel_rfl
set_option maxHeartbeats 20000000 in
theorem a5w (n : Int) (hn : -1000000 ≤ n ∧ n ≤ 1000000) : CW cxT 55 [iV n] = some (tV (dec n), []) := by
 obtain ⟨kk, hkk⟩ : ∃ kk : Nat, 2 * n.natAbs + (if n < 0 then 1 else 0) < kk := ⟨_, Nat.lt_succ_self _⟩
 revert n
 induction kk with
 | zero => intro n hn hkk; exact absurd hkk (Nat.not_lt_zero _)
 | succ kk ih =>
  intro n hn hkk
  refine G3 rfl Tryd.func55 rfl ⟨by kernel_rfl, rfl, of_decide_eq_true rfl, of_decide_eq_true rfl, by decide⟩ keep_s_number <| A4 <| A0 <| A3 rfl rfl rfl ?_
  refine A5 ⟨nofun, _, kS [0] [] rfl, ?_⟩
  refine A4 <| A4 <| A0 <| A6 rfl rfl <| K4 rfl rfl ?_
  refine A5 ⟨nofun, _, kS [0,4] [] rfl, ?_⟩
  refine A8 rfl (fun hc => ?_) (fun hc => ?_)
  ·try simp only [SG, List.length_map] at hc
   refine A4 <| A0 <| A6 rfl rfl <| c4j rfl (H2 (by omega)) ?_
   have hdl := V5 (m := -n) (by omega)
   apply D5 rfl
   ·apply B6
    ·exact B3 rfl
    exact C9
   ·exact ih (-n) (by omega) (by split at hkk <;> split <;> omega)
   ·exact ⟨rfl, rfl, rfl, of_decide_eq_true rfl, rfl⟩
   ·exact .inl rfl
   ·exact B7
   ·exact C7 rfl
   ·exact fun _ => rfl
   intro g7
   refine b0f rfl rfl (by simp only [J2, List.length_append, List.length_cons, List.length_nil]; omega) <| A3 rfl rfl rfl ?_
   refine A5 ⟨nofun, _, kS [2] [] rfl, ?_⟩
   refine B0 <| C0 rfl rfl trivial ?_
   exact congrArg tV (c3v (by assumption)).symm
  try simp only [SG, List.length_map] at hc
  refine B2 <| A4 <| A4 <| A0 <| A6 rfl rfl <| K4 rfl rfl ?_
  refine A5 ⟨nofun, _, kS [0,10] [] rfl, ?_⟩
  refine A8 rfl (fun hc => ?_) (fun hc => ?_)
  ·try simp only [SG, List.length_map] at hc
   refine A4 <| A0 <| A6 rfl rfl <| A6 rfl rfl <| I6 rfl rfl (H2 (by omega)) <| q8 rfl rfl (u0 rfl (by omega)) (u0 rfl (by omega)) (by (simp; omega)) <| A3 rfl rfl rfl ?_
   refine A5 ⟨nofun, _, kS [2] [] rfl, ?_⟩
   refine B0 <| C0 rfl rfl trivial ?_
   rw [c3y (by omega)]
  try simp only [SG, List.length_map] at hc
  refine B2 <| A4 <| A0 <| A6 rfl rfl ?_
  have hd10 : n.tdiv 10 = n / 10 := Int.tdiv_eq_ediv_of_nonneg (by omega)
  refine c6r rfl rfl ⟨by omega, H2 (by omega)⟩ ?_
  have hd10 : n.tdiv 10 = n / 10 := Int.tdiv_eq_ediv_of_nonneg (by omega)
  have hdl0 := V5 (m := n.tdiv 10) (by omega)
  apply D5 rfl
  ·apply B6
   ·exact B3 rfl
   exact C9
  ·exact ih (n.tdiv 10) (by omega) (by split at hkk <;> split <;> omega)
  ·exact ⟨rfl, rfl, rfl, of_decide_eq_true rfl, rfl⟩
  ·exact .inl rfl
  ·exact B7
  ·exact C7 rfl
  ·exact fun _ => rfl
  intro g17
  refine A6 rfl rfl <| c6q rfl rfl (by omega) ?_
  have hm10 : n.tmod 10 = n % 10 := Int.tmod_eq_emod_of_nonneg (by omega)
  have hdl1 := V5 (m := n.tmod 10) (by omega)
  apply D5 rfl
  ·apply B6
   ·exact B3 rfl
   exact C9
  ·exact ih (n.tmod 10) (by omega) (by split at hkk <;> split <;> omega)
  ·exact ⟨rfl, rfl, rfl, of_decide_eq_true rfl, rfl⟩
  ·exact .inl rfl
  ·exact B7
  ·exact C7 rfl
  ·exact fun _ => rfl
  intro g20
  refine b0f rfl rfl (by simp only [J2, List.length_append, List.length_cons, List.length_nil]; omega) <| A3 rfl rfl rfl ?_
  refine A5 ⟨nofun, _, kS [2] [] rfl, ?_⟩
  refine B0 <| C0 rfl rfl trivial ?_
  rw [← c5r (by omega)]

theorem keep_s_splitAt : H1 Tryd.f38 = [0, 1, 4, 7, 12, 19, 6, 5] := by kernel_rfl
set_option maxHeartbeats 20000000 in
theorem a8z (s : List UInt8) (hs : s.length ≤ 1048576) (c : UInt8) : CW cxT 38 [tV s, uV c.toNat] = some (.own 1 ((splitB c s).map tV), []) := by
 refine G3 rfl Tryd.func38 rfl ⟨by kernel_rfl, rfl, of_decide_eq_true rfl, of_decide_eq_true rfl, by decide⟩ keep_s_splitAt <| A4 <| A0 ?_
 (refine B9 rfl rfl (fun _ => rfl) ?_; intro g4)
 refine A5 ⟨nofun, _, kS [0,1] [] rfl, ?_⟩
 refine A4 <| A0 <| G5 (es := List.map tV []) rfl rfl (by decide) rfl rfl (fun _ => C1 (B8 fun _ => rfl)) (fun _ => rfl) ?_
 intro g8
 (refine C4 rfl rfl (by (simp; done)) rfl (fun _ => (C1 (by exact B8 fun _ => rfl))) (fun _ => rfl) ?_; intro g5)
 refine A5 ⟨nofun, _, kS [0,1,5] [5] rfl, ?_⟩
 refine A4 <| A0 <| A3 rfl rfl rfl ?_
 refine A5 ⟨nofun, _, kS [0,1,5,6] [5] rfl, ?_⟩
 refine A4 <| A4 <| A0 <| A3 rfl rfl rfl ?_
 refine A5 ⟨nofun, _, kS [0,1,5,6,7] [5] rfl, ?_⟩
 refine C8 <| I7 (β := Nat × Nat × List (List UInt8) × Nat) [(.t 0, _), (.t 1, _)] (fun (z : Nat × Nat × List (List UInt8) × Nat) => match z with | (i, fr, out, g) => [(.t 7, iV i), (.t 6, iV fr), (.t 5, .sl 5 g none 0 out.length), (.h 5, .obj g 0 1 (out.map tV))]) (fun (z : Nat × Nat × List (List UInt8) × Nat) => match z with | (i, fr, out, g) => i ≤ s.length ∧ fr ≤ i ∧ out.length ≤ i ∧ splitB c s = out ++ R8 ((s.drop fr).take (i - fr)) (splitB c (s.drop i))) (fun (z : Nat × Nat × List (List UInt8) × Nat) => match z with | (i, fr, out, g) => s.length - i) (0, 0, [], _) ⟨rfl, rfl, rfl, rfl, rfl, rfl, trivial⟩ ⟨Nat.zero_le _, Nat.le_refl _, Nat.le_refl _, by simp [a8k]⟩ ?_
 intro z hb
 obtain ⟨i, fr, out, g⟩ := z
 try dsimp only at hb
 obtain ⟨hi1, hfr, hol, hsp⟩ := hb
 refine A4 <| A4 <| A0 <| A6 rfl rfl <| A6 rfl rfl <| o5 rfl rfl <| K4 rfl rfl ?_
 refine A5 ⟨nofun, _, kS [0,1,5,6,7,12] [5] rfl, ?_⟩
 refine A8 rfl (fun hc => ?_) (fun hc => ?_)
 ·try simp only [SG, List.length_map] at hc
  refine B2 <| A4 <| C8 <| A4 <| A0 <| A6 rfl rfl <| A6 rfl rfl <| M7 rfl rfl rfl (by omega) <| A6 rfl rfl <| a4r rfl rfl ?_
  refine A5 ⟨nofun, _, kS [0,1,5,6,7,19] [5] rfl, ?_⟩
  refine A8 rfl (fun hc => ?_) (fun hc => ?_)
  ·try simp only [SG, List.length_map] at hc
   have hcb : s.getD i 0 = c := UInt8.toNat_inj.1 (by omega)
   refine A4 <| A0 <| A6 rfl rfl <| A6 rfl rfl <| A6 rfl rfl <| A6 rfl rfl <| q8 rfl rfl (H4 rfl) (H4 rfl) (by omega) <| G5 (es := List.map tV [_]) rfl rfl (by decide) rfl rfl (fun _ => C1 (B8 fun _ => rfl)) (fun _ => rfl) ?_
   intro g25
   refine K3 rfl rfl rfl rfl (by (simp; done)) (by simp) (by decide) rfl rfl rfl rfl (by decide) (fun _ => ⟨rfl, rfl⟩) (by simp only [J2]; (simp only [List.length_nil, List.length_cons, List.length_append, Nat.zero_add, List.length_map]; omega)) (fun _ => rfl) ?_
   intro g26
   (refine C4 rfl rfl (by (simp; done)) rfl (fun _ => (C1 (by exact B8 fun _ => rfl))) (fun _ => rfl) ?_; intro g5)
   refine A5 ⟨nofun, _, kS [0,1,5,7] [5] rfl, ?_⟩
   refine A0 <| A6 rfl rfl <| I6 rfl rfl (H2 (by omega)) <| A3 rfl rfl rfl ?_
   refine A5 ⟨nofun, _, kS [0,1,5,6,7] [5] rfl, ?_⟩
   refine A0 <| A6 rfl rfl <| I6 rfl rfl (H2 (by omega)) <| A3 rfl rfl rfl ?_
   refine A5 ⟨nofun, _, kS [0,1,5,6,7] [5] rfl, ?_⟩
   refine ⟨(i + 1, i + 1, out ++ [(s.drop fr).take (i - fr)], _), ?_, (by simp only; omega), ⟨rfl, rfl, rfl, rfl, rfl, rfl, trivial⟩⟩
   have hst := a6s (by omega) hfr hsp
   exact ⟨by omega, by omega, by simp; omega, hst.1 hcb⟩
  try simp only [SG, List.length_map] at hc
  have hcb : s.getD i 0 ≠ c := fun e => hc (by rw [e])
  refine B2 <| A0 <| A6 rfl rfl <| I6 rfl rfl (H2 (by omega)) <| A3 rfl rfl rfl ?_
  refine A5 ⟨nofun, _, kS [0,1,5,6,7] [5] rfl, ?_⟩
  refine ⟨(i + 1, fr, out, _), ?_, (by simp only; omega), ⟨rfl, rfl, rfl, rfl, rfl, rfl, trivial⟩⟩
  have hst := a6s (by omega) hfr hsp
  exact ⟨by omega, by omega, by omega, hst.2 hcb⟩
 try simp only [SG, List.length_map] at hc
 refine H7 <| A4 <| A0 <| A6 rfl rfl <| A6 rfl rfl <| A6 rfl rfl <| q8 rfl rfl K5 (H4 rfl) (by omega) <| G5 (es := List.map tV [_]) rfl rfl (by decide) rfl rfl (fun _ => C1 (B8 fun _ => rfl)) (fun _ => rfl) ?_
 intro g33
 refine K3 rfl rfl rfl rfl (by (simp; done)) (by simp) (by decide) rfl rfl rfl rfl (by decide) (fun _ => ⟨rfl, rfl⟩) (by simp only [J2]; (simp only [List.length_nil, List.length_cons, List.length_append, Nat.zero_add, List.length_map]; omega)) (fun _ => rfl) ?_
 intro g34
 (refine C4 rfl rfl (by (simp; done)) rfl (fun _ => (C1 (by exact B8 fun _ => rfl))) (fun _ => rfl) ?_; intro g4)
 refine A5 ⟨nofun, _, kS [4] [4] rfl, ?_⟩
 refine B0 <| c2o rfl rfl (by simp) (by exact B8 fun _ => rfl) trivial ?_
 have hil : i = s.length := by omega
 rw [hsp, hil, List.drop_length, splitB, R8, List.append_nil]

theorem keep_s_readList : H1 Tryd.f61 = [0, 2, 3, 5, 6, 17, 7, 8, 31, 10, 37, 9, 53, 62, 75, 4] := by kernel_rfl
set_option maxHeartbeats 20000000 in
theorem b5r (s : List UInt8) (hs : s.length ≤ 1048576) : CW cxT 61 [tV s] = some (.tup [.own 1 (((rdL s).getD []).map iV), bV (rdL s).isSome], []) := by
 obtain ⟨ps, hps⟩ : ∃ ps, ps = splitB 44 s := ⟨_, rfl⟩
 have hpl := Q8 44 s
 rw [← hps] at hpl
 have hpp := a7 44 s
 rw [← hps] at hpp
 refine G3 rfl Tryd.func61 rfl ⟨by kernel_rfl, rfl, of_decide_eq_true rfl, of_decide_eq_true rfl, by decide⟩ keep_s_readList <| A4 <| A0 ?_
 (refine B9 rfl rfl (fun _ => rfl) ?_; intro g2)
 refine A3 rfl rfl rfl ?_
 refine A5 ⟨nofun, _, kS [0] [] rfl, ?_⟩
 refine A4 <| A0 <| G5 (es := List.map iV []) rfl rfl (by decide) rfl rfl (fun _ => C1 (B8 fun _ => rfl)) (fun _ => rfl) ?_
 intro g11
 (refine C4 rfl rfl (by (simp; done)) rfl (fun _ => (C1 (by exact B8 fun _ => rfl))) (fun _ => rfl) ?_; intro g4)
 refine A5 ⟨nofun, _, kS [0,4] [4] rfl, ?_⟩
 refine A4 <| A0 <| A6 rfl rfl ?_
 apply D5 rfl
 ·apply B6
  ·exact B3 rfl
  apply B6
  ·exact B3 rfl
  exact C9
 ·exact a8z s hs 44
 ·exact ⟨rfl, rfl, rfl, of_decide_eq_true rfl, rfl⟩
 ·exact .inl rfl
 ·exact B7
 ·exact a1e
 ·exact fun _ => rfl
 intro g13
 rw [← hps]
 try simp only [List.length_map]
 (refine C4 rfl rfl (by (simp; done)) rfl (fun _ => (C1 (by exact B8 fun _ => rfl))) (fun _ => rfl) ?_; intro g5)
 refine A5 ⟨nofun, _, kS [4,5] [4,5] rfl, ?_⟩
 refine A4 <| A4 <| A0 <| A3 rfl rfl rfl ?_
 refine A5 ⟨nofun, _, kS [4,5,6] [4,5] rfl, ?_⟩
 refine C8 <| I7 (β := Nat × List Int × Nat) [(.t 5, _), (.h 5, _)] (fun (z : Nat × List Int × Nat) => match z with | (i, ns, g) => [(.t 6, iV i), (.t 4, .sl 4 g none 0 ns.length), (.h 4, .obj g 0 1 (ns.map iV))]) (fun (z : Nat × List Int × Nat) => match z with | (i, ns, g) => i ≤ ps.length ∧ Y4 (ps.take i) = some ns) (fun (z : Nat × List Int × Nat) => match z with | (i, ns, g) => ps.length - i) (0, [], _) ⟨rfl, rfl, rfl, rfl, rfl, trivial⟩ ⟨Nat.zero_le _, rfl⟩ ?_
 intro z hb
 obtain ⟨i, ns, g⟩ := z
 try dsimp only at hb
 obtain ⟨hi1, hrd⟩ := hb
 have hnl := a2z hrd
 rw [List.length_take] at hnl
 have hpi := fun h : i < ps.length => hpp _ (e9 h)
 refine A4 <| A4 <| A0 <| A6 rfl rfl <| A6 rfl rfl <| a0z rfl rfl <| K4 rfl rfl ?_
 refine A5 ⟨nofun, _, kS [4,5,6,17] [4,5] rfl, ?_⟩
 refine A8 rfl (fun hc => ?_) (fun hc => ?_)
 ·try simp only [SG, List.length_map] at hc
  refine B2 <| A4 <| C8 <| A4 <| A0 <| A6 rfl rfl <| A6 rfl rfl <| W5 rfl rfl rfl rfl (by omega) (by (simp; done)) rfl <| W4 rfl rfl (by omega) (fun _ => rfl) (fun _ => rfl) rfl <| A3 rfl rfl rfl ?_
  refine A5 ⟨nofun, _, kS [4,5,6,7] [4,5] rfl, ?_⟩
  refine A4 <| A0 <| A6 rfl rfl <| a8j rfl rfl <| A6 rfl rfl ?_
  refine E3 rfl rfl (fun hg0 => ?_) (fun hg0 => ?_)
  ·have hg := hg0; try simp only [SG] at hg
   refine A6 rfl rfl <| gT rfl rfl ?_
   have hp0 : 0 < (ps.getD i default).length := List.length_pos_iff.2 (by assumption)
   refine M7 (n := 0) rfl rfl rfl hp0 <| gT rfl rfl <| a4r rfl rfl <| G1 rfl (by assumption) rfl rfl <| A3 rfl rfl rfl ?_
   refine A5 ⟨nofun, _, kS [4,5,6,7,8] [4,5] rfl, ?_⟩
   refine A4 <| A4 <| A0 <| A6 rfl rfl ?_
   refine A5 ⟨nofun, _, kS [4,5,6,7,8,31] [4,5] rfl, ?_⟩
   refine A8 rfl (fun hc => ?_) (fun hc => ?_)
   ·try simp only [SG, List.length_map] at hc
    obtain ⟨hng, hup⟩ := c6m (p := (ps.getD i default)) (by assumption) (by omega)
    have hul := b1c (ps.getD i default)
    rw [hup] at hul
    refine A0 <| A6 rfl rfl <| q8 rfl rfl K5 (H4 (n := 1) rfl) (by omega) <| A3 rfl rfl rfl ?_
    refine A5 ⟨nofun, _, kS [4,5,6,7,8] [4,5] rfl, ?_⟩
    refine A4 <| A0 <| A3 rfl rfl rfl ?_
    refine A5 ⟨nofun, _, kS [4,5,6,7,8,9] [4,5] rfl, ?_⟩
    refine A4 <| A4 <| A0 <| A3 rfl rfl rfl ?_
    refine A5 ⟨nofun, _, kS [4,5,6,7,8,9,10] [4,5] rfl, ?_⟩
    refine C8 ?_
    have hup0 := hup
    refine I7 (β := Nat × Int) [(.t 4, _), (.t 5, _), (.t 6, _), (.t 7, _), (.t 8, _), (.h 4, _), (.h 5, _)] (fun (z : Nat × Int) => match z with | (k, a) => [(.t 10, iV k), (.t 9, iV a)]) (fun (z : Nat × Int) => match z with | (k, a) => k ≤ (unS (ps.getD i default)).length ∧ 0 ≤ a ∧ S2 0 ((unS (ps.getD i default)).take k) = some a.toNat) (fun (z : Nat × Int) => match z with | (k, a) => (unS (ps.getD i default)).length - k) (0, 0) ⟨rfl, rfl, rfl, rfl, rfl, rfl, rfl, rfl, rfl, trivial⟩ ⟨Nat.zero_le _, by decide, rfl⟩ ?_
    intro z hb
    obtain ⟨k, a⟩ := z
    try dsimp only at hb
    obtain ⟨hk1, ha0, hdg⟩ := hb
    have hab := a4g (by decide) hdg
    rw [hup] at hk1 hdg
    refine A4 <| A4 <| A0 <| A6 rfl rfl <| A6 rfl rfl <| o5 rfl rfl <| K4 rfl rfl ?_
    refine A5 ⟨nofun, _, kS [4,5,6,7,8,9,10,37] [4,5] rfl, ?_⟩
    refine A8 rfl (fun hc => ?_) (fun hc => ?_)
    ·try simp only [SG, List.length_map] at hc
     refine B2 <| A4 <| C8 <| A4 <| A4 <| A0 <| A6 rfl rfl <| A6 rfl rfl <| M7 rfl rfl rfl (by omega) <| K4 rfl rfl <| A6 rfl rfl ?_
     refine E3 rfl rfl (fun hg0 => ?_) (fun hg0 => ?_)
     ·have hg := hg0; try simp only [SG] at hg
      refine A6 rfl rfl <| gT rfl rfl <| A6 rfl rfl <| gT rfl rfl <| M7 rfl rfl rfl (by omega) <| gT rfl rfl <| Y0 rfl rfl <| G8 rfl (by assumption) rfl rfl <| A6 rfl rfl ?_
      refine E3 rfl rfl (fun hg0 => ?_) (fun hg0 => ?_)
      ·have hg := hg0; try simp only [SG] at hg
       refine A6 rfl rfl <| gT rfl rfl <| Y0 rfl rfl <| G8 rfl (by assumption) rfl rfl ?_
       refine A5 ⟨nofun, _, kS [4,5,6,7,8,9,10,53] [4,5] rfl, ?_⟩
       refine A8 rfl (fun hc => ?_) (fun hc => ?_)
       ·try simp only [SG, List.length_map] at hc
        refine A4 <| A0 ?_
        (refine B9 rfl rfl (fun _ => rfl) ?_; intro g2)
        refine A3 rfl rfl rfl ?_
        refine A5 ⟨nofun, _, kS [2,3] [2] rfl, ?_⟩
        refine B0 <| D4 (G2 rfl rfl (by simp) (by rfl) (D7 rfl rfl (E8 C5))) ?_
        rw [rdL, ← hps, J3 (show i < ps.length by omega) (S7 (by rw [hup]; exact P6 (by omega) hdg (by omega)))]
        rfl
       try simp only [SG, List.length_map] at hc
       refine B2 <| A0 <| A6 rfl rfl <| c1n rfl rfl (H2 (by omega)) <| A6 rfl rfl <| A6 rfl rfl <| M7 rfl rfl rfl (by omega) <| a3h rfl rfl (c5j (by omega)) <| b4j rfl rfl rfl (H2 (by omega)) <| I6 rfl rfl (H2 (by omega)) <| A3 rfl rfl rfl ?_
       refine A5 ⟨nofun, _, kS [4,5,6,7,8,9,10] [4,5] rfl, ?_⟩
       refine A0 <| A6 rfl rfl <| I6 rfl rfl (H2 (by omega)) <| A3 rfl rfl rfl ?_
       refine A5 ⟨nofun, _, kS [4,5,6,7,8,9,10] [4,5] rfl, ?_⟩
       refine ⟨(k + 1, _), ?_, (by simp only [hup]; omega), ⟨rfl, rfl, rfl, rfl, rfl, rfl, rfl, rfl, rfl, trivial⟩⟩
       rw [hup]
       have hds := a1s (by omega) hdg (by omega)
       exact ⟨by omega, by omega, hds.trans (congrArg some (by omega))⟩
      have hg := hg0; try simp only [SG] at hg
      refine gF rfl rfl <| G1 rfl (by assumption) rfl rfl ?_
      refine A5 ⟨nofun, _, kS [4,5,6,7,8,9,10,53] [4,5] rfl, ?_⟩
      refine A8 rfl (fun hc => ?_) (fun hc => absurd hc (by decide))
      refine A4 <| A0 ?_
      (refine B9 rfl rfl (fun _ => rfl) ?_; intro g2)
      refine A3 rfl rfl rfl ?_
      refine A5 ⟨nofun, _, kS [2,3] [2] rfl, ?_⟩
      refine B0 <| D4 (G2 rfl rfl (by simp) (by rfl) (D7 rfl rfl (E8 C5))) ?_
      rw [rdL, ← hps, J3 (show i < ps.length by omega) (S7 (by rw [hup]; exact P6 (by omega) hdg (by omega)))]
      rfl
     have hg := hg0; try simp only [SG] at hg
     refine gF rfl rfl <| gF rfl rfl <| gF rfl rfl <| G1 rfl (by assumption) rfl rfl <| A6 rfl rfl <| G9 rfl rfl rfl <| G9 rfl rfl rfl <| G1 rfl rfl rfl rfl ?_
     refine A5 ⟨nofun, _, kS [4,5,6,7,8,9,10,53] [4,5] rfl, ?_⟩
     refine A8 rfl (fun hc => ?_) (fun hc => absurd hc (by decide))
     refine A4 <| A0 ?_
     (refine B9 rfl rfl (fun _ => rfl) ?_; intro g2)
     refine A3 rfl rfl rfl ?_
     refine A5 ⟨nofun, _, kS [2,3] [2] rfl, ?_⟩
     refine B0 <| D4 (G2 rfl rfl (by simp) (by rfl) (D7 rfl rfl (E8 C5))) ?_
     rw [rdL, ← hps, J3 (show i < ps.length by omega) (S7 (by rw [hup]; exact P6 (by omega) hdg (by omega)))]
     rfl
    try simp only [SG, List.length_map] at hc
    have hdU : S2 0 (unS (ps.getD i default)) = some a.toNat := by rw [hup]; rw [List.take_of_length_le (by omega)] at hdg; exact hdg
    refine H7 <| A4 <| A4 <| A0 <| A6 rfl rfl ?_
    refine A5 ⟨nofun, _, kS [4,5,6,7,9,62] [4,5] rfl, ?_⟩
    refine A8 rfl (fun hc => ?_) (fun hc => absurd hc (by simp_all))
    refine A0 <| A6 rfl rfl <| c4j rfl (H2 (by omega)) <| A3 rfl rfl rfl ?_
    refine A5 ⟨nofun, _, kS [4,5,6,7,9] [4,5] rfl, ?_⟩
    refine A4 <| A4 <| A0 <| A6 rfl rfl <| n4 rfl rfl <| A6 rfl rfl ?_
    refine E3 rfl rfl (fun hg0 => ?_) (fun hg0 => ?_)
    ·have hg := hg0; try simp only [SG] at hg
     refine A6 rfl rfl <| gT rfl rfl ?_
     have hdl1 := V5 (m := -a) (by omega)
     have hdl2 := V5 (m := a) (by omega)
     apply D5 rfl
     ·apply B6
      ·exact B3 rfl
      exact C9
     ·exact a5w (-a) (by omega)
     ·exact ⟨rfl, rfl, rfl, of_decide_eq_true rfl, rfl⟩
     ·exact .inl rfl
     ·exact B7
     ·exact C7 rfl
     ·exact fun _ => rfl
     intro g69
     refine gT rfl rfl <| A6 rfl rfl <| gT rfl rfl <| A6 rfl rfl <| gT rfl rfl <| W5 rfl rfl rfl rfl (by omega) (by (simp; done)) rfl <| gT rfl rfl <| W4 rfl rfl (by omega) (fun _ => rfl) (fun _ => rfl) rfl <| gT rfl rfl <| a8j rfl rfl <| G8 rfl (by assumption) rfl rfl ?_
     refine A5 ⟨fun _ => ⟨by (simp only [u5, List.nil_append, List.append_nil, List.map_cons, List.map_nil, List.cons_append]; decide +kernel), by decide +kernel⟩, [(.t 4, _), (.t 5, _), (.t 6, _), (.t 9, _), (.t 75, _), (.h 4, _), (.h 5, _)], ⟨rfl, rfl, rfl, rfl, rfl, rfl, rfl, rfl, rfl, rfl, rfl, rfl, rfl, rfl, trivial⟩, ?_⟩
     refine A8 rfl (fun hc => ?_) (fun hc => ?_)
     ·try simp only [SG, List.length_map] at hc
      refine A4 <| A0 ?_
      (refine B9 rfl rfl (fun _ => rfl) ?_; intro g2)
      refine A3 rfl rfl rfl ?_
      refine A5 ⟨nofun, _, kS [2,3] [2] rfl, ?_⟩
      refine B0 <| D4 (G2 rfl rfl (by simp) (by rfl) (D7 rfl rfl (E8 C5))) ?_
      have hno : rdI (ps.getD i default) = none := by exact a1o (m := -a) hdU (by (rw [hng, if_pos rfl]; omega)) (by exact .inr (by assumption))
      rw [rdL, ← hps, J3 (show i < ps.length by omega) hno]
      rfl
     try simp only [SG, List.length_map] at hc
     have hri := b4w (m := -a) hdU (by (rw [hng, if_pos rfl]; omega)) (by rw [hup]; assumption) (by assumption)
     refine B2 <| A0 <| A6 rfl rfl <| A6 rfl rfl <| G5 (es := List.map iV [_]) rfl rfl (by decide) rfl rfl (fun _ => C1 (B8 fun _ => rfl)) (fun _ => rfl) ?_
     intro g78
     refine K3 rfl rfl rfl rfl (by (simp; done)) (by simp) (by decide) rfl rfl rfl rfl (by decide) (fun _ => ⟨rfl, rfl⟩) (by simp only [J2]; (simp only [List.length_nil, List.length_cons, List.length_append, Nat.zero_add, List.length_map]; omega)) (fun _ => rfl) ?_
     intro g79
     (refine C4 rfl rfl (by (simp; done)) rfl (fun _ => (C1 (by exact B8 fun _ => rfl))) (fun _ => rfl) ?_; intro g4)
     refine A5 ⟨nofun, _, kS [4,5,6] [4,5] rfl, ?_⟩
     refine A0 <| A6 rfl rfl <| I6 rfl rfl (H2 (by omega)) <| A3 rfl rfl rfl ?_
     refine A5 ⟨nofun, _, kS [4,5,6] [4,5] rfl, ?_⟩
     refine ⟨(i + 1, ns ++ [-a], _), ?_, (by simp only; omega), ⟨rfl, rfl, rfl, rfl, rfl, trivial⟩⟩
     exact ⟨by omega, a1y (by omega) hrd hri⟩
    have hg := hg0; try simp only [SG] at hg
    refine gF rfl rfl <| gF rfl rfl <| gF rfl rfl <| gF rfl rfl <| gF rfl rfl <| gF rfl rfl <| G1 rfl (by assumption) rfl rfl ?_
    refine A5 ⟨fun _ => ⟨by decide +kernel, by decide +kernel⟩, [(.t 4, _), (.t 5, _), (.t 6, _), (.t 9, _), (.t 75, _), (.h 4, _), (.h 5, _)], ⟨rfl, rfl, rfl, rfl, rfl, rfl, rfl, rfl, rfl, rfl, rfl, rfl, rfl, rfl, trivial⟩, ?_⟩
    refine A8 rfl (fun hc => ?_) (fun hc => absurd hc (by decide))
    refine A4 <| A0 ?_
    (refine B9 rfl rfl (fun _ => rfl) ?_; intro g2)
    refine A3 rfl rfl rfl ?_
    refine A5 ⟨nofun, _, kS [2,3] [2] rfl, ?_⟩
    refine B0 <| D4 (G2 rfl rfl (by simp) (by rfl) (D7 rfl rfl (E8 C5))) ?_
    have hno : rdI (ps.getD i default) = none := by exact a1o (m := -a) hdU (by (rw [hng, if_pos rfl]; omega)) (by exact .inl (by rw [hup]; assumption))
    rw [rdL, ← hps, J3 (show i < ps.length by omega) hno]
    rfl
   try simp only [SG, List.length_map] at hc
   obtain ⟨hng, hup⟩ := c4l (p := (ps.getD i default)) (by exact .inr (by omega))
   have hul := b1c (ps.getD i default)
   rw [hup] at hul
   refine B2 <| A4 <| A0 <| A3 rfl rfl rfl ?_
   refine A5 ⟨nofun, _, kS [4,5,6,7,8,9] [4,5] rfl, ?_⟩
   refine A4 <| A4 <| A0 <| A3 rfl rfl rfl ?_
   refine A5 ⟨nofun, _, kS [4,5,6,7,8,9,10] [4,5] rfl, ?_⟩
   refine C8 ?_
   have hup0 := hup
   refine I7 (β := Nat × Int) [(.t 4, _), (.t 5, _), (.t 6, _), (.t 7, _), (.t 8, _), (.h 4, _), (.h 5, _)] (fun (z : Nat × Int) => match z with | (k, a) => [(.t 10, iV k), (.t 9, iV a)]) (fun (z : Nat × Int) => match z with | (k, a) => k ≤ (unS (ps.getD i default)).length ∧ 0 ≤ a ∧ S2 0 ((unS (ps.getD i default)).take k) = some a.toNat) (fun (z : Nat × Int) => match z with | (k, a) => (unS (ps.getD i default)).length - k) (0, 0) ⟨rfl, rfl, rfl, rfl, rfl, rfl, rfl, rfl, rfl, trivial⟩ ⟨Nat.zero_le _, by decide, rfl⟩ ?_
   intro z hb
   obtain ⟨k, a⟩ := z
   try dsimp only at hb
   obtain ⟨hk1, ha0, hdg⟩ := hb
   have hab := a4g (by decide) hdg
   rw [hup] at hk1 hdg
   refine A4 <| A4 <| A0 <| A6 rfl rfl <| A6 rfl rfl <| o5 rfl rfl <| K4 rfl rfl ?_
   refine A5 ⟨nofun, _, kS [4,5,6,7,8,9,10,37] [4,5] rfl, ?_⟩
   refine A8 rfl (fun hc => ?_) (fun hc => ?_)
   ·try simp only [SG, List.length_map] at hc
    refine B2 <| A4 <| C8 <| A4 <| A4 <| A0 <| A6 rfl rfl <| A6 rfl rfl <| M7 rfl rfl rfl (by omega) <| K4 rfl rfl <| A6 rfl rfl ?_
    refine E3 rfl rfl (fun hg0 => ?_) (fun hg0 => ?_)
    ·have hg := hg0; try simp only [SG] at hg
     refine A6 rfl rfl <| gT rfl rfl <| A6 rfl rfl <| gT rfl rfl <| M7 rfl rfl rfl (by omega) <| gT rfl rfl <| Y0 rfl rfl <| G8 rfl (by assumption) rfl rfl <| A6 rfl rfl ?_
     refine E3 rfl rfl (fun hg0 => ?_) (fun hg0 => ?_)
     ·have hg := hg0; try simp only [SG] at hg
      refine A6 rfl rfl <| gT rfl rfl <| Y0 rfl rfl <| G8 rfl (by assumption) rfl rfl ?_
      refine A5 ⟨nofun, _, kS [4,5,6,7,8,9,10,53] [4,5] rfl, ?_⟩
      refine A8 rfl (fun hc => ?_) (fun hc => ?_)
      ·try simp only [SG, List.length_map] at hc
       refine A4 <| A0 ?_
       (refine B9 rfl rfl (fun _ => rfl) ?_; intro g2)
       refine A3 rfl rfl rfl ?_
       refine A5 ⟨nofun, _, kS [2,3] [2] rfl, ?_⟩
       refine B0 <| D4 (G2 rfl rfl (by simp) (by rfl) (D7 rfl rfl (E8 C5))) ?_
       rw [rdL, ← hps, J3 (show i < ps.length by omega) (S7 (by rw [hup]; exact P6 (by omega) hdg (by omega)))]
       rfl
      try simp only [SG, List.length_map] at hc
      refine B2 <| A0 <| A6 rfl rfl <| c1n rfl rfl (H2 (by omega)) <| A6 rfl rfl <| A6 rfl rfl <| M7 rfl rfl rfl (by omega) <| a3h rfl rfl (c5j (by omega)) <| b4j rfl rfl rfl (H2 (by omega)) <| I6 rfl rfl (H2 (by omega)) <| A3 rfl rfl rfl ?_
      refine A5 ⟨nofun, _, kS [4,5,6,7,8,9,10] [4,5] rfl, ?_⟩
      refine A0 <| A6 rfl rfl <| I6 rfl rfl (H2 (by omega)) <| A3 rfl rfl rfl ?_
      refine A5 ⟨nofun, _, kS [4,5,6,7,8,9,10] [4,5] rfl, ?_⟩
      refine ⟨(k + 1, _), ?_, (by simp only [hup]; omega), ⟨rfl, rfl, rfl, rfl, rfl, rfl, rfl, rfl, rfl, trivial⟩⟩
      rw [hup]
      have hds := a1s (by omega) hdg (by omega)
      exact ⟨by omega, by omega, hds.trans (congrArg some (by omega))⟩
     have hg := hg0; try simp only [SG] at hg
     refine gF rfl rfl <| G1 rfl (by assumption) rfl rfl ?_
     refine A5 ⟨nofun, _, kS [4,5,6,7,8,9,10,53] [4,5] rfl, ?_⟩
     refine A8 rfl (fun hc => ?_) (fun hc => absurd hc (by decide))
     refine A4 <| A0 ?_
     (refine B9 rfl rfl (fun _ => rfl) ?_; intro g2)
     refine A3 rfl rfl rfl ?_
     refine A5 ⟨nofun, _, kS [2,3] [2] rfl, ?_⟩
     refine B0 <| D4 (G2 rfl rfl (by simp) (by rfl) (D7 rfl rfl (E8 C5))) ?_
     rw [rdL, ← hps, J3 (show i < ps.length by omega) (S7 (by rw [hup]; exact P6 (by omega) hdg (by omega)))]
     rfl
    have hg := hg0; try simp only [SG] at hg
    refine gF rfl rfl <| gF rfl rfl <| gF rfl rfl <| G1 rfl (by assumption) rfl rfl <| A6 rfl rfl <| G9 rfl rfl rfl <| G9 rfl rfl rfl <| G1 rfl rfl rfl rfl ?_
    refine A5 ⟨nofun, _, kS [4,5,6,7,8,9,10,53] [4,5] rfl, ?_⟩
    refine A8 rfl (fun hc => ?_) (fun hc => absurd hc (by decide))
    refine A4 <| A0 ?_
    (refine B9 rfl rfl (fun _ => rfl) ?_; intro g2)
    refine A3 rfl rfl rfl ?_
    refine A5 ⟨nofun, _, kS [2,3] [2] rfl, ?_⟩
    refine B0 <| D4 (G2 rfl rfl (by simp) (by rfl) (D7 rfl rfl (E8 C5))) ?_
    rw [rdL, ← hps, J3 (show i < ps.length by omega) (S7 (by rw [hup]; exact P6 (by omega) hdg (by omega)))]
    rfl
   try simp only [SG, List.length_map] at hc
   have hdU : S2 0 (unS (ps.getD i default)) = some a.toNat := by rw [hup]; rw [List.take_of_length_le (by omega)] at hdg; exact hdg
   refine H7 <| A4 <| A4 <| A0 <| A6 rfl rfl ?_
   refine A5 ⟨nofun, _, kS [4,5,6,7,9,62] [4,5] rfl, ?_⟩
   refine A8 rfl (fun hc => absurd hc (by simp_all)) (fun hc => ?_)
   refine B2 <| A4 <| A4 <| A0 <| A6 rfl rfl <| n4 rfl rfl <| A6 rfl rfl ?_
   refine E3 rfl rfl (fun hg0 => ?_) (fun hg0 => ?_)
   ·have hg := hg0; try simp only [SG] at hg
    refine A6 rfl rfl <| gT rfl rfl ?_
    have hdl1 := V5 (m := -a) (by omega)
    have hdl2 := V5 (m := a) (by omega)
    apply D5 rfl
    ·apply B6
     ·exact B3 rfl
     exact C9
    ·exact a5w a (by omega)
    ·exact ⟨rfl, rfl, rfl, of_decide_eq_true rfl, rfl⟩
    ·exact .inl rfl
    ·exact B7
    ·exact C7 rfl
    ·exact fun _ => rfl
    intro g69
    refine gT rfl rfl <| A6 rfl rfl <| gT rfl rfl <| A6 rfl rfl <| gT rfl rfl <| W5 rfl rfl rfl rfl (by omega) (by (simp; done)) rfl <| gT rfl rfl <| W4 rfl rfl (by omega) (fun _ => rfl) (fun _ => rfl) rfl <| gT rfl rfl <| a8j rfl rfl <| G8 rfl (by assumption) rfl rfl ?_
    refine A5 ⟨fun _ => ⟨by (simp only [u5, List.nil_append, List.append_nil, List.map_cons, List.map_nil, List.cons_append]; decide +kernel), by decide +kernel⟩, [(.t 4, _), (.t 5, _), (.t 6, _), (.t 9, _), (.t 75, _), (.h 4, _), (.h 5, _)], ⟨rfl, rfl, rfl, rfl, rfl, rfl, rfl, rfl, rfl, rfl, rfl, rfl, rfl, rfl, trivial⟩, ?_⟩
    refine A8 rfl (fun hc => ?_) (fun hc => ?_)
    ·try simp only [SG, List.length_map] at hc
     refine A4 <| A0 ?_
     (refine B9 rfl rfl (fun _ => rfl) ?_; intro g2)
     refine A3 rfl rfl rfl ?_
     refine A5 ⟨nofun, _, kS [2,3] [2] rfl, ?_⟩
     refine B0 <| D4 (G2 rfl rfl (by simp) (by rfl) (D7 rfl rfl (E8 C5))) ?_
     have hno : rdI (ps.getD i default) = none := by exact a1o (m := a) hdU (by (rw [hng, if_neg (by decide)]; omega)) (by exact .inr (by assumption))
     rw [rdL, ← hps, J3 (show i < ps.length by omega) hno]
     rfl
    try simp only [SG, List.length_map] at hc
    have hri := b4w (m := a) hdU (by (rw [hng, if_neg (by decide)]; omega)) (by rw [hup]; assumption) (by assumption)
    refine B2 <| A0 <| A6 rfl rfl <| A6 rfl rfl <| G5 (es := List.map iV [_]) rfl rfl (by decide) rfl rfl (fun _ => C1 (B8 fun _ => rfl)) (fun _ => rfl) ?_
    intro g78
    refine K3 rfl rfl rfl rfl (by (simp; done)) (by simp) (by decide) rfl rfl rfl rfl (by decide) (fun _ => ⟨rfl, rfl⟩) (by simp only [J2]; (simp only [List.length_nil, List.length_cons, List.length_append, Nat.zero_add, List.length_map]; omega)) (fun _ => rfl) ?_
    intro g79
    (refine C4 rfl rfl (by (simp; done)) rfl (fun _ => (C1 (by exact B8 fun _ => rfl))) (fun _ => rfl) ?_; intro g4)
    refine A5 ⟨nofun, _, kS [4,5,6] [4,5] rfl, ?_⟩
    refine A0 <| A6 rfl rfl <| I6 rfl rfl (H2 (by omega)) <| A3 rfl rfl rfl ?_
    refine A5 ⟨nofun, _, kS [4,5,6] [4,5] rfl, ?_⟩
    refine ⟨(i + 1, ns ++ [a], _), ?_, (by simp only; omega), ⟨rfl, rfl, rfl, rfl, rfl, trivial⟩⟩
    exact ⟨by omega, a1y (by omega) hrd hri⟩
   have hg := hg0; try simp only [SG] at hg
   refine gF rfl rfl <| gF rfl rfl <| gF rfl rfl <| gF rfl rfl <| gF rfl rfl <| gF rfl rfl <| G1 rfl (by assumption) rfl rfl ?_
   refine A5 ⟨fun _ => ⟨by decide +kernel, by decide +kernel⟩, [(.t 4, _), (.t 5, _), (.t 6, _), (.t 9, _), (.t 75, _), (.h 4, _), (.h 5, _)], ⟨rfl, rfl, rfl, rfl, rfl, rfl, rfl, rfl, rfl, rfl, rfl, rfl, rfl, rfl, trivial⟩, ?_⟩
   refine A8 rfl (fun hc => ?_) (fun hc => absurd hc (by decide))
   refine A4 <| A0 ?_
   (refine B9 rfl rfl (fun _ => rfl) ?_; intro g2)
   refine A3 rfl rfl rfl ?_
   refine A5 ⟨nofun, _, kS [2,3] [2] rfl, ?_⟩
   refine B0 <| D4 (G2 rfl rfl (by simp) (by rfl) (D7 rfl rfl (E8 C5))) ?_
   have hno : rdI (ps.getD i default) = none := by exact a1o (m := a) hdU (by (rw [hng, if_neg (by decide)]; omega)) (by exact .inl (by rw [hup]; assumption))
   rw [rdL, ← hps, J3 (show i < ps.length by omega) hno]
   rfl
  have hg := hg0; try simp only [SG] at hg
  refine gF rfl rfl <| gF rfl rfl <| G8 rfl (by assumption) rfl rfl <| A3 rfl rfl rfl ?_
  refine A5 ⟨nofun, _, kS [4,5,6,7,8] [4,5] rfl, ?_⟩
  refine A4 <| A4 <| A0 <| A6 rfl rfl ?_
  refine A5 ⟨nofun, _, kS [4,5,6,7,8,31] [4,5] rfl, ?_⟩
  refine A8 rfl (fun hc => absurd hc (by decide)) (fun hc => ?_)
  refine B2 <| A4 <| A0 <| A3 rfl rfl rfl ?_
  refine A5 ⟨nofun, _, kS [4,5,6,7,8,9] [4,5] rfl, ?_⟩
  refine A4 <| A4 <| A0 <| A3 rfl rfl rfl ?_
  refine A5 ⟨nofun, _, kS [4,5,6,7,8,9,10] [4,5] rfl, ?_⟩
  refine C8 ?_
  (obtain ⟨hng, hup⟩ := c4l (p := (ps.getD i default)) (.inl (by assumption)); have hul := b1c (ps.getD i default); rw [hup] at hul)
  refine I7 (β := Nat × Int) [(.t 4, _), (.t 5, _), (.t 6, _), (.t 7, _), (.t 8, _), (.h 4, _), (.h 5, _)] (fun (z : Nat × Int) => match z with | (k, a) => [(.t 10, iV k), (.t 9, iV a)]) (fun (z : Nat × Int) => match z with | (k, a) => k ≤ (unS (ps.getD i default)).length ∧ 0 ≤ a ∧ S2 0 ((unS (ps.getD i default)).take k) = some a.toNat) (fun (z : Nat × Int) => match z with | (k, a) => (unS (ps.getD i default)).length - k) (0, 0) ⟨rfl, rfl, rfl, rfl, rfl, rfl, rfl, rfl, rfl, trivial⟩ ⟨Nat.zero_le _, by decide, rfl⟩ ?_
  intro z hb
  obtain ⟨k, a⟩ := z
  try dsimp only at hb
  obtain ⟨hk1, ha0, hdg⟩ := hb
  have hab := a4g (by decide) hdg
  rw [hup] at hk1 hdg
  refine A4 <| A4 <| A0 <| A6 rfl rfl <| A6 rfl rfl <| o5 rfl rfl <| K4 rfl rfl ?_
  refine A5 ⟨nofun, _, kS [4,5,6,7,8,9,10,37] [4,5] rfl, ?_⟩
  refine A8 rfl (fun hc => ?_) (fun hc => ?_)
  ·try simp only [SG, List.length_map] at hc
   refine B2 <| A4 <| C8 <| A4 <| A4 <| A0 <| A6 rfl rfl <| A6 rfl rfl <| M7 rfl rfl rfl (by omega) <| K4 rfl rfl <| A6 rfl rfl ?_
   refine E3 rfl rfl (fun hg0 => ?_) (fun hg0 => ?_)
   ·have hg := hg0; try simp only [SG] at hg
    refine A6 rfl rfl <| gT rfl rfl <| A6 rfl rfl <| gT rfl rfl <| M7 rfl rfl rfl (by omega) <| gT rfl rfl <| Y0 rfl rfl <| G8 rfl (by assumption) rfl rfl <| A6 rfl rfl ?_
    refine E3 rfl rfl (fun hg0 => ?_) (fun hg0 => ?_)
    ·have hg := hg0; try simp only [SG] at hg
     refine A6 rfl rfl <| gT rfl rfl <| Y0 rfl rfl <| G8 rfl (by assumption) rfl rfl ?_
     refine A5 ⟨nofun, _, kS [4,5,6,7,8,9,10,53] [4,5] rfl, ?_⟩
     refine A8 rfl (fun hc => ?_) (fun hc => ?_)
     ·try simp only [SG, List.length_map] at hc
      refine A4 <| A0 ?_
      (refine B9 rfl rfl (fun _ => rfl) ?_; intro g2)
      refine A3 rfl rfl rfl ?_
      refine A5 ⟨nofun, _, kS [2,3] [2] rfl, ?_⟩
      refine B0 <| D4 (G2 rfl rfl (by simp) (by rfl) (D7 rfl rfl (E8 C5))) ?_
      rw [rdL, ← hps, J3 (show i < ps.length by omega) (S7 (by rw [hup]; exact P6 (by omega) hdg (by omega)))]
      rfl
     try simp only [SG, List.length_map] at hc
     refine B2 <| A0 <| A6 rfl rfl <| c1n rfl rfl (H2 (by omega)) <| A6 rfl rfl <| A6 rfl rfl <| M7 rfl rfl rfl (by omega) <| a3h rfl rfl (c5j (by omega)) <| b4j rfl rfl rfl (H2 (by omega)) <| I6 rfl rfl (H2 (by omega)) <| A3 rfl rfl rfl ?_
     refine A5 ⟨nofun, _, kS [4,5,6,7,8,9,10] [4,5] rfl, ?_⟩
     refine A0 <| A6 rfl rfl <| I6 rfl rfl (H2 (by omega)) <| A3 rfl rfl rfl ?_
     refine A5 ⟨nofun, _, kS [4,5,6,7,8,9,10] [4,5] rfl, ?_⟩
     refine ⟨(k + 1, _), ?_, (by simp only [hup]; omega), ⟨rfl, rfl, rfl, rfl, rfl, rfl, rfl, rfl, rfl, trivial⟩⟩
     rw [hup]
     have hds := a1s (by omega) hdg (by omega)
     exact ⟨by omega, by omega, hds.trans (congrArg some (by omega))⟩
    have hg := hg0; try simp only [SG] at hg
    refine gF rfl rfl <| G1 rfl (by assumption) rfl rfl ?_
    refine A5 ⟨nofun, _, kS [4,5,6,7,8,9,10,53] [4,5] rfl, ?_⟩
    refine A8 rfl (fun hc => ?_) (fun hc => absurd hc (by decide))
    refine A4 <| A0 ?_
    (refine B9 rfl rfl (fun _ => rfl) ?_; intro g2)
    refine A3 rfl rfl rfl ?_
    refine A5 ⟨nofun, _, kS [2,3] [2] rfl, ?_⟩
    refine B0 <| D4 (G2 rfl rfl (by simp) (by rfl) (D7 rfl rfl (E8 C5))) ?_
    rw [rdL, ← hps, J3 (show i < ps.length by omega) (S7 (by rw [hup]; exact P6 (by omega) hdg (by omega)))]
    rfl
   have hg := hg0; try simp only [SG] at hg
   refine gF rfl rfl <| gF rfl rfl <| gF rfl rfl <| G1 rfl (by assumption) rfl rfl <| A6 rfl rfl <| G9 rfl rfl rfl <| G9 rfl rfl rfl <| G1 rfl rfl rfl rfl ?_
   refine A5 ⟨nofun, _, kS [4,5,6,7,8,9,10,53] [4,5] rfl, ?_⟩
   refine A8 rfl (fun hc => ?_) (fun hc => absurd hc (by decide))
   refine A4 <| A0 ?_
   (refine B9 rfl rfl (fun _ => rfl) ?_; intro g2)
   refine A3 rfl rfl rfl ?_
   refine A5 ⟨nofun, _, kS [2,3] [2] rfl, ?_⟩
   refine B0 <| D4 (G2 rfl rfl (by simp) (by rfl) (D7 rfl rfl (E8 C5))) ?_
   rw [rdL, ← hps, J3 (show i < ps.length by omega) (S7 (by rw [hup]; exact P6 (by omega) hdg (by omega)))]
   rfl
  try simp only [SG, List.length_map] at hc
  have hdU : S2 0 (unS (ps.getD i default)) = some a.toNat := by rw [hup]; rw [List.take_of_length_le (by omega)] at hdg; exact hdg
  refine H7 <| A4 <| A4 <| A0 <| A6 rfl rfl ?_
  refine A5 ⟨nofun, _, kS [4,5,6,7,9,62] [4,5] rfl, ?_⟩
  refine A8 rfl (fun hc => absurd hc (by decide)) (fun hc => ?_)
  refine B2 <| A4 <| A4 <| A0 <| A6 rfl rfl <| n4 rfl rfl <| A6 rfl rfl ?_
  refine E3 rfl rfl (fun hg0 => ?_) (fun hg0 => ?_)
  ·have hg := hg0; try simp only [SG] at hg
   refine A6 rfl rfl <| gT rfl rfl ?_
   have hdl1 := V5 (m := -a) (by omega)
   have hdl2 := V5 (m := a) (by omega)
   apply D5 rfl
   ·apply B6
    ·exact B3 rfl
    exact C9
   ·exact a5w a (by omega)
   ·exact ⟨rfl, rfl, rfl, of_decide_eq_true rfl, rfl⟩
   ·exact .inl rfl
   ·exact B7
   ·exact C7 rfl
   ·exact fun _ => rfl
   intro g69
   refine gT rfl rfl <| A6 rfl rfl <| gT rfl rfl <| A6 rfl rfl <| gT rfl rfl <| W5 rfl rfl rfl rfl (by omega) (by (simp; done)) rfl <| gT rfl rfl <| W4 rfl rfl (by omega) (fun _ => rfl) (fun _ => rfl) rfl <| gT rfl rfl <| a8j rfl rfl <| G8 rfl (by assumption) rfl rfl ?_
   refine A5 ⟨fun _ => ⟨by (simp only [u5, List.nil_append, List.append_nil, List.map_cons, List.map_nil, List.cons_append]; decide +kernel), by decide +kernel⟩, [(.t 4, _), (.t 5, _), (.t 6, _), (.t 9, _), (.t 75, _), (.h 4, _), (.h 5, _)], ⟨rfl, rfl, rfl, rfl, rfl, rfl, rfl, rfl, rfl, rfl, rfl, rfl, rfl, rfl, trivial⟩, ?_⟩
   refine A8 rfl (fun hc => ?_) (fun hc => ?_)
   ·try simp only [SG, List.length_map] at hc
    refine A4 <| A0 ?_
    (refine B9 rfl rfl (fun _ => rfl) ?_; intro g2)
    refine A3 rfl rfl rfl ?_
    refine A5 ⟨nofun, _, kS [2,3] [2] rfl, ?_⟩
    refine B0 <| D4 (G2 rfl rfl (by simp) (by rfl) (D7 rfl rfl (E8 C5))) ?_
    have hno : rdI (ps.getD i default) = none := by exact a1o (m := a) hdU (by (rw [hng, if_neg (by decide)]; omega)) (by exact .inl (by rw [hup]; assumption))
    rw [rdL, ← hps, J3 (show i < ps.length by omega) hno]
    rfl
   try simp only [SG, List.length_map] at hc
   have hri := b4w (m := a) hdU (by (rw [hng, if_neg (by decide)]; omega)) (by rw [hup]; assumption) (by assumption)
   refine B2 <| A0 <| A6 rfl rfl <| A6 rfl rfl <| G5 (es := List.map iV [_]) rfl rfl (by decide) rfl rfl (fun _ => C1 (B8 fun _ => rfl)) (fun _ => rfl) ?_
   intro g78
   refine K3 rfl rfl rfl rfl (by (simp; done)) (by simp) (by decide) rfl rfl rfl rfl (by decide) (fun _ => ⟨rfl, rfl⟩) (by simp only [J2]; (simp only [List.length_nil, List.length_cons, List.length_append, Nat.zero_add, List.length_map]; omega)) (fun _ => rfl) ?_
   intro g79
   (refine C4 rfl rfl (by (simp; done)) rfl (fun _ => (C1 (by exact B8 fun _ => rfl))) (fun _ => rfl) ?_; intro g4)
   refine A5 ⟨nofun, _, kS [4,5,6] [4,5] rfl, ?_⟩
   refine A0 <| A6 rfl rfl <| I6 rfl rfl (H2 (by omega)) <| A3 rfl rfl rfl ?_
   refine A5 ⟨nofun, _, kS [4,5,6] [4,5] rfl, ?_⟩
   refine ⟨(i + 1, ns ++ [a], _), ?_, (by simp only; omega), ⟨rfl, rfl, rfl, rfl, rfl, trivial⟩⟩
   exact ⟨by omega, a1y (by omega) hrd hri⟩
  have hg := hg0; try simp only [SG] at hg
  refine gF rfl rfl <| gF rfl rfl <| gF rfl rfl <| gF rfl rfl <| gF rfl rfl <| gF rfl rfl <| G1 rfl (by assumption) rfl rfl ?_
  refine A5 ⟨fun _ => ⟨by decide +kernel, by decide +kernel⟩, [(.t 4, _), (.t 5, _), (.t 6, _), (.t 9, _), (.t 75, _), (.h 4, _), (.h 5, _)], ⟨rfl, rfl, rfl, rfl, rfl, rfl, rfl, rfl, rfl, rfl, rfl, rfl, rfl, rfl, trivial⟩, ?_⟩
  refine A8 rfl (fun hc => ?_) (fun hc => absurd hc (by decide))
  refine A4 <| A0 ?_
  (refine B9 rfl rfl (fun _ => rfl) ?_; intro g2)
  refine A3 rfl rfl rfl ?_
  refine A5 ⟨nofun, _, kS [2,3] [2] rfl, ?_⟩
  refine B0 <| D4 (G2 rfl rfl (by simp) (by rfl) (D7 rfl rfl (E8 C5))) ?_
  have hno : rdI (ps.getD i default) = none := by exact a1o (m := a) hdU (by (rw [hng, if_neg (by decide)]; omega)) (by exact .inl (by rw [hup]; assumption))
  rw [rdL, ← hps, J3 (show i < ps.length by omega) hno]
  rfl
 try simp only [SG, List.length_map] at hc
 refine H7 <| A4 <| A0 <| A6 rfl rfl ?_
 (refine C4 rfl rfl (by (simp; done)) rfl (fun _ => (C1 (by exact B8 fun _ => rfl))) (fun _ => rfl) ?_; intro g2)
 refine A3 rfl rfl rfl ?_
 refine A5 ⟨nofun, _, kS [2,3] [2] rfl, ?_⟩
 refine B0 <| D4 (G2 rfl rfl (by simp) (by exact B8 fun _ => rfl) (D7 rfl rfl (E8 C5))) ?_
 have hil : i = ps.length := by omega
 rw [hil, List.take_length] at hrd
 rw [rdL, ← hps, hrd]
 rfl

theorem keep_s_readNums : H1 Tryd.f51 = [0, 2, 3, 4, 22, 24, 5, 6] := by kernel_rfl
set_option maxHeartbeats 20000000 in
theorem b5q (s : List UInt8) (hs : s.length ≤ 1048576) : CW cxT 51 [tV s] = some (.tup [.own 1 ((b4a s).map iV), bV (numsOf s).isSome], []) := by
 refine G3 rfl Tryd.func51 rfl ⟨by kernel_rfl, rfl, of_decide_eq_true rfl, of_decide_eq_true rfl, by decide⟩ keep_s_readNums <| A4 <| A0 ?_
 (refine B9 rfl rfl (fun _ => rfl) ?_; intro g2)
 refine A3 rfl rfl rfl ?_
 refine A5 ⟨nofun, _, kS [0] [] rfl, ?_⟩
 refine A4 <| A0 <| A6 rfl rfl <| o5 rfl rfl <| A3 rfl rfl rfl ?_
 refine A5 ⟨nofun, _, kS [0,4] [] rfl, ?_⟩
 refine A4 <| A4 <| A0 <| A6 rfl rfl <| K4 rfl rfl <| A6 rfl rfl ?_
 refine E3 rfl rfl (fun hg0 => ?_) (fun hg0 => ?_)
 ·have hg := hg0; try simp only [SG] at hg
  refine A6 rfl rfl <| gT rfl rfl <| M7 (n := 0) rfl rfl rfl (by omega) <| gT rfl rfl <| c1c rfl rfl <| G8 rfl (by assumption) rfl rfl <| A6 rfl rfl ?_
  refine E3 rfl rfl (fun hg0 => ?_) (fun hg0 => ?_)
  ·have hg := hg0; try simp only [SG] at hg
   refine A6 rfl rfl <| gT rfl rfl <| A6 rfl rfl <| gT rfl rfl <| a3h rfl rfl (H2 (by omega)) <| gT rfl rfl ?_
   rw [show ((s.length : Int) - 1) = ((s.length - 1 : Nat) : Int) by omega]
   refine M7 rfl rfl rfl (by omega) <| gT rfl rfl <| c1c rfl rfl <| G8 rfl (by assumption) rfl rfl ?_
   refine A5 ⟨nofun, _, kS [0,4,22] [] rfl, ?_⟩
   refine A8 rfl (fun hc => ?_) (fun hc => ?_)
   ·try simp only [SG, List.length_map] at hc
    refine A4 <| A0 ?_
    (refine B9 rfl rfl (fun _ => rfl) ?_; intro g2)
    refine A3 rfl rfl rfl ?_
    refine A5 ⟨nofun, _, kS [2,3] [2] rfl, ?_⟩
    refine B0 <| D4 (G2 rfl rfl (by simp) (by rfl) (D7 rfl rfl (E8 C5))) ?_
    obtain ⟨hn1, hn2⟩ := a2a (s := s) (by exact .inr (.inr (by omega)))
    rw [hn1, hn2]
    rfl
   try simp only [SG, List.length_map] at hc
   have hin := b8f (s := s) (by omega) (by omega) (by omega)
   refine B2 <| A4 <| A4 <| A0 <| A6 rfl rfl <| a4r rfl rfl ?_
   refine A5 ⟨nofun, _, kS [0,4,24] [] rfl, ?_⟩
   refine A8 rfl (fun hc => ?_) (fun hc => ?_)
   ·try simp only [SG, List.length_map] at hc
    refine A4 <| A0 <| G5 (es := List.map iV []) rfl rfl (by decide) rfl rfl (fun _ => C1 (B8 fun _ => rfl)) (fun _ => rfl) ?_
    intro g25
    (refine C4 rfl rfl (by (simp; done)) rfl (fun _ => (C1 (by exact B8 fun _ => rfl))) (fun _ => rfl) ?_; intro g2)
    refine A3 rfl rfl rfl ?_
    refine A5 ⟨nofun, _, kS [2,3] [2] rfl, ?_⟩
    refine B0 <| D4 (G2 rfl rfl (by simp) (by rfl) (D7 rfl rfl (E8 C5))) ?_
    obtain ⟨hn1, hn2⟩ := hin.1 (by omega)
    rw [hn1, hn2]
    rfl
   try simp only [SG, List.length_map] at hc
   refine B2 <| A4 <| A0 <| A6 rfl rfl <| A6 rfl rfl <| a3h rfl rfl (H2 (by omega)) ?_
   rw [show ((s.length : Int) - 1) = ((s.length - 1 : Nat) : Int) by omega]
   have hrl := c3e ((s.drop 1).take (s.length - 1 - 1))
   have hin2 : ((s.drop 1).take (s.length - 1 - 1)).length ≤ s.length - 2 := by simp only [List.length_take, List.length_drop]; omega
   refine q8 rfl rfl (H4 rfl) (H4 (n := 1) rfl) (by omega) ?_
   apply D5 rfl
   ·apply B6
    ·exact B3 rfl
    exact C9
   ·exact b5r ((s.drop 1).take (s.length - 1 - 1)) (by omega)
   ·exact ⟨rfl, rfl, rfl, of_decide_eq_true rfl, rfl⟩
   ·exact .inr ⟨m5 _ _, rfl⟩
   ·exact B7
   ·exact I5 (Q3 fun _ => I3 rfl Q4)
   ·exact fun _ => rfl
   intro g31
   simp only [List.length_map]
   refine A6 rfl rfl <| A9 rfl rfl rfl <| A9 rfl rfl rfl ?_
   (refine C4 rfl rfl (by (simp; done)) rfl (fun _ => (C1 (by exact B8 fun _ => rfl))) (fun _ => rfl) ?_; intro g5)
   refine A3 rfl rfl rfl ?_
   refine A5 ⟨nofun, _, kS [5,6] [5] rfl, ?_⟩
   refine A4 <| A0 <| A6 rfl rfl <| A6 rfl rfl <| A6 rfl rfl ?_
   refine E3 rfl rfl (fun hg0 => ?_) (fun hg0 => ?_)
   ·have hg := hg0; try simp only [SG] at hg
    refine A6 rfl rfl <| gT rfl rfl ?_
    apply D5 rfl
    ·apply B6
     ·exact Z8 rfl rfl rfl (by (simp; done)) (fun _ => rfl)
     exact C9
    ·exact b1o ((rdL ((s.drop 1).take (s.length - 1 - 1))).getD []) (by omega)
    ·exact ⟨rfl, rfl, rfl, of_decide_eq_true rfl, rfl⟩
    ·exact .inr ⟨rfl, rfl⟩
    ·exact B7
    ·exact C7 rfl
    ·exact fun _ => rfl
    intro g38
    refine G1 rfl (by assumption) rfl rfl ?_
    (refine C4 rfl rfl (by (simp; done)) rfl (fun _ => (C1 (by exact B8 fun _ => rfl))) (fun _ => rfl) ?_; intro g2)
    refine A3 rfl rfl rfl ?_
    refine A5 ⟨nofun, _, kS [2,3] [2] rfl, ?_⟩
    refine B0 <| D4 (G2 rfl rfl (by simp) (by exact B8 fun _ => rfl) (D7 rfl rfl (E8 C5))) ?_
    obtain ⟨hn1, hn2⟩ := hin.2 (by omega)
    rw [hn2, a5n hn1]
    simp_all
    try rfl
   have hg := hg0; try simp only [SG] at hg
   refine gF rfl rfl <| G8 rfl (by assumption) rfl rfl ?_
   (refine C4 rfl rfl (by (simp; done)) rfl (fun _ => (C1 (by exact B8 fun _ => rfl))) (fun _ => rfl) ?_; intro g2)
   refine A3 rfl rfl rfl ?_
   refine A5 ⟨nofun, _, kS [2,3] [2] rfl, ?_⟩
   refine B0 <| D4 (G2 rfl rfl (by simp) (by exact B8 fun _ => rfl) (D7 rfl rfl (E8 C5))) ?_
   obtain ⟨hn1, hn2⟩ := hin.2 (by omega)
   rw [hn2, a5n hn1]
   simp_all
   try rfl
  have hg := hg0; try simp only [SG] at hg
  refine gF rfl rfl <| gF rfl rfl <| gF rfl rfl <| gF rfl rfl <| G1 rfl (by assumption) rfl rfl ?_
  refine A5 ⟨nofun, _, kS [0,4,22] [] rfl, ?_⟩
  refine A8 rfl (fun hc => ?_) (fun hc => absurd hc (by decide))
  refine A4 <| A0 ?_
  (refine B9 rfl rfl (fun _ => rfl) ?_; intro g2)
  refine A3 rfl rfl rfl ?_
  refine A5 ⟨nofun, _, kS [2,3] [2] rfl, ?_⟩
  refine B0 <| D4 (G2 rfl rfl (by simp) (by rfl) (D7 rfl rfl (E8 C5))) ?_
  obtain ⟨hn1, hn2⟩ := a2a (s := s) (by exact .inr (.inl (by omega)))
  rw [hn1, hn2]
  rfl
 have hg := hg0; try simp only [SG] at hg
 refine gF rfl rfl <| gF rfl rfl <| G1 rfl (by assumption) rfl rfl <| A6 rfl rfl <| G9 rfl rfl rfl <| G9 rfl rfl rfl <| G9 rfl rfl rfl <| G9 rfl rfl rfl <| G9 rfl rfl rfl <| G1 rfl rfl rfl rfl ?_
 refine A5 ⟨nofun, _, kS [0,4,22] [] rfl, ?_⟩
 refine A8 rfl (fun hc => ?_) (fun hc => absurd hc (by decide))
 refine A4 <| A0 ?_
 (refine B9 rfl rfl (fun _ => rfl) ?_; intro g2)
 refine A3 rfl rfl rfl ?_
 refine A5 ⟨nofun, _, kS [2,3] [2] rfl, ?_⟩
 refine B0 <| D4 (G2 rfl rfl (by simp) (by rfl) (D7 rfl rfl (E8 C5))) ?_
 obtain ⟨hn1, hn2⟩ := a2a (s := s) (by exact .inl (by omega))
 rw [hn1, hn2]
 rfl

theorem keep_s_readTree : H1 Tryd.f39 = [0, 2, 3, 4, 15, 6, 24, 5, 7, 34, 43, 9, 12, 53, 8, 10, 11, 48, 59] := by kernel_rfl
set_option maxHeartbeats 20000000 in
theorem a6f (ws : List W8) (hws : ws.length ≤ 1048600 ∧ ∀ w ∈ ws, w.length ≤ 1048576) : CW cxT 39 [.list (ws.map tV)] = some (rtR (rdT ws), []) := by
 obtain ⟨kk, hkk⟩ : ∃ kk : Nat, ws.length < kk := ⟨_, Nat.lt_succ_self _⟩
 revert ws
 induction kk with
 | zero => intro ws hws hkk; exact absurd hkk (Nat.not_lt_zero _)
 | succ kk ih =>
  intro ws hws hkk
  refine G3 rfl Tryd.func39 rfl ⟨by kernel_rfl, rfl, of_decide_eq_true rfl, of_decide_eq_true rfl, by decide⟩ keep_s_readTree <| A4 <| A0 <| F7 rfl (fun _ => B1 rfl) (fun _ => rfl) ?_
  intro g2
  (refine B9 rfl rfl (fun _ => rfl) ?_; intro g3)
  refine A3 rfl rfl rfl ?_
  refine A5 ⟨nofun, _, kS [0,2] [2] rfl, ?_⟩
  refine A4 <| A4 <| A0 <| A6 rfl rfl <| H6 rfl rfl <| a4r rfl rfl ?_
  refine A5 ⟨nofun, _, kS [0,2,15] [2] rfl, ?_⟩
  refine A8 rfl (fun hc => ?_) (fun hc => ?_)
  ·try simp only [SG, List.length_map] at hc
   have hw0 : ws = [] := List.length_eq_zero_iff.1 (by simpa using hc)
   subst hw0
   refine A4 <| A0 <| L2 (fs := [_, _, _]) rfl rfl rfl rfl rfl <| B4 rfl rfl rfl rfl ⟨by decide, rfl, of_decide_eq_true rfl, of_decide_eq_true rfl, rfl⟩ rfl (by exact B1 rfl) ?_
   (refine B9 rfl rfl (fun _ => rfl) ?_; intro g3)
   refine A3 rfl rfl rfl ?_
   refine A5 ⟨nofun, _, kS [2,3,4] [2,3] rfl, ?_⟩
   refine B0 <| D4 (G6 rfl rfl rfl rfl (G7 rfl (H0 rfl (H0 rfl J0))) (G2 rfl rfl (by simp) (by rfl) (D7 rfl rfl (E8 C5)))) ?_
   rfl
  try simp only [SG, List.length_map] at hc
  obtain ⟨w, ws1, rfl⟩ : ∃ w ws1, ws = w :: ws1 := List.exists_cons_of_ne_nil (fun e => by subst e; simp at hc)
  have hw := hws.2 w (by simp)
  refine B2 <| A4 <| A0 <| A6 rfl rfl <| F9 rfl rfl rfl (fun _ => rfl) (by (change 0 < _; omega)) <| G4 rfl rfl rfl ?_
  apply D5 rfl
  ·apply B6
   ·exact B3 rfl
   exact C9
  ·exact b5q w (by omega)
  ·exact ⟨rfl, rfl, rfl, of_decide_eq_true rfl, rfl⟩
  ·exact .inr ⟨m5 _ _, rfl⟩
  ·exact B7
  ·exact I5 (Q3 fun _ => I3 rfl Q4)
  ·exact fun _ => rfl
  intro g21
  simp only [List.length_map]
  refine A6 rfl rfl <| A9 rfl rfl rfl <| A9 rfl rfl rfl ?_
  (refine C4 rfl rfl (by (simp; done)) rfl (fun _ => (C1 (by exact B8 fun _ => rfl))) (fun _ => rfl) ?_; intro g5)
  refine A3 rfl rfl rfl ?_
  refine A5 ⟨nofun, _, kS [0,2,5,6] [2,5] rfl, ?_⟩
  refine A4 <| A4 <| A0 <| A6 rfl rfl ?_
  refine A5 ⟨nofun, _, kS [0,2,5,24] [2,5] rfl, ?_⟩
  refine A8 rfl (fun hc => ?_) (fun hc => ?_)
  ·try simp only [SG, List.length_map] at hc
   obtain ⟨ns, hns⟩ := Option.isSome_iff_exists.1 hc
   have hraw := c3t hns
   refine A4 <| A0 <| A6 rfl rfl <| L2 (fs := [_, _, _]) rfl rfl rfl rfl rfl <| A6 rfl rfl <| L5 rfl rfl rfl (Mv.sized_map fun _ => rfl) K5 (H4 (n := 1) rfl) (by simp) ?_
   rw [show ((List.map tV (w :: ws1)).drop 1).take ((List.map tV (w :: ws1)).length - 1) = ws1.map tV from by rw [List.map_cons, List.drop_succ_cons, List.drop_zero, List.take_of_length_le (by simp)]]
   refine J7 rfl rfl rfl rfl (M4 rfl (l4 (by decide) (M4 rfl Y6))) (fun _ => rfl) ⟨by decide, rfl, of_decide_eq_true rfl, Nat.le_refl _⟩ (fun _ => rfl) (fun _ => rfl) (fun _ => (by rfl)) ?_
   intro z
   simp only [S0, List.cons_append, List.nil_append]
   refine A3 rfl rfl rfl <| A3 rfl rfl rfl ?_
   refine A5 ⟨fun _ => ⟨by (simp only [u5, List.nil_append, List.append_nil, List.map_cons, List.map_nil, List.cons_append]; decide +kernel), by decide +kernel⟩, [(.t 2, _), (.t 3, _), (.t 4, _), (.h 2, _), (.h 5, _)], ⟨rfl, rfl, rfl, rfl, rfl, rfl, rfl, rfl, rfl, rfl, trivial⟩, ?_⟩
   refine B0 <| D4 (G6 rfl rfl rfl rfl (G7 rfl (m7 rfl rfl (by simp) (fun _ => rfl) (H0 rfl J0))) (D7 rfl rfl (D7 rfl rfl (E8 C5)))) ?_
   rw [b1n hns, hraw]
   rfl
  try simp only [SG, List.length_map] at hc
  have hnn : numsOf w = none := by simpa using hc
  refine B2 <| A4 <| A0 <| A6 rfl rfl <| F9 rfl rfl rfl (fun _ => rfl) (by (change 0 < _; omega)) <| G4 rfl rfl rfl ?_
  apply D5 rfl
  ·apply B6
   ·exact B3 rfl
   exact C9
  ·exact b8j (bA w)
  ·exact ⟨rfl, rfl, rfl, of_decide_eq_true rfl, rfl⟩
  ·exact .inl rfl
  ·exact B7
  ·exact C7 rfl
  ·exact fun _ => rfl
  intro g32
  refine A3 rfl rfl rfl ?_
  refine A5 ⟨nofun, _, kS [0,2,7] [2] rfl, ?_⟩
  refine A4 <| A4 <| A0 <| A6 rfl rfl <| K4 rfl rfl ?_
  refine A5 ⟨nofun, _, kS [0,2,7,34] [2] rfl, ?_⟩
  refine A8 rfl (fun hc => ?_) (fun hc => ?_)
  ·try simp only [SG, List.length_map] at hc
   refine A4 <| A0 <| L2 (fs := [_, _, _]) rfl rfl rfl rfl rfl <| B4 rfl rfl rfl rfl ⟨by decide, rfl, of_decide_eq_true rfl, of_decide_eq_true rfl, rfl⟩ rfl (by exact B1 rfl) ?_
   (refine B9 rfl rfl (fun _ => rfl) ?_; intro g3)
   refine A3 rfl rfl rfl ?_
   refine A5 ⟨nofun, _, kS [2,3,4] [2,3] rfl, ?_⟩
   refine B0 <| D4 (G6 rfl rfl rfl rfl (G7 rfl (H0 rfl (H0 rfl J0))) (G2 rfl rfl (by simp) (by rfl) (D7 rfl rfl (E8 C5)))) ?_
   rw [b7k hnn (by omega)]
   rfl
  try simp only [SG, List.length_map] at hc
  refine B2 <| A4 <| A0 <| A6 rfl rfl <| F9 rfl rfl rfl (fun _ => rfl) (by (change 0 < _; omega)) <| G4 rfl rfl rfl <| L2 (fs := [_, _, _]) rfl rfl rfl rfl rfl <| F7 rfl (fun _ => B1 rfl) (fun _ => rfl) ?_
  intro g8
  refine B4 rfl rfl rfl rfl ⟨by decide, rfl, of_decide_eq_true rfl, of_decide_eq_true rfl, rfl⟩ rfl (by exact B1 rfl) ?_
  refine A5 ⟨nofun, _, kS [0,2,7,8] [2,8] rfl, ?_⟩
  refine A4 <| A0 ?_
  rcases a8x (w := bA w) (by omega) with hn | hn | hn
  ·rw [hn]
   refine A6 rfl rfl <| L5 rfl rfl rfl (Mv.sized_map fun _ => rfl) K5 (H4 (n := 1) rfl) (by simp) ?_
   rw [show ((List.map tV (w :: ws1)).drop 1).take ((List.map tV (w :: ws1)).length - 1) = ws1.map tV from by rw [List.map_cons, List.drop_succ_cons, List.drop_zero, List.take_of_length_le (by simp)]]
   refine A3 rfl rfl rfl ?_
   refine A5 ⟨nofun, _, kS [2,7,8,9] [2,8] rfl, ?_⟩
   refine A4 <| C8 <| K8 <| A4 <| A4 <| A0 <| A6 rfl rfl <| Y0 rfl rfl ?_
   refine A5 ⟨nofun, _, kS [2,7,8,9,43] [2,8] rfl, ?_⟩
   refine A8 rfl (fun hc => absurd hc (by decide)) (fun hc => ?_)
   refine H7 <| A4 <| A0 <| E5 rfl rfl rfl rfl rfl <| A6 rfl rfl <| B4 rfl rfl rfl rfl ⟨by decide, rfl, of_decide_eq_true rfl, of_decide_eq_true rfl, rfl⟩ rfl (by exact B1 rfl) <| A3 rfl rfl rfl <| A3 rfl rfl rfl ?_
   refine A5 ⟨nofun, _, kS [2,3,4] [2] rfl, ?_⟩
   refine B0 <| D4 (G6 rfl rfl rfl rfl (G7 rfl (H0 rfl (H0 rfl J0))) (D7 rfl rfl (D7 rfl rfl (E8 C5)))) ?_
   rw [b7b hnn hn]
   rfl
  ·rw [hn]
   refine A6 rfl rfl <| L5 rfl rfl rfl (Mv.sized_map fun _ => rfl) K5 (H4 (n := 1) rfl) (by simp) ?_
   rw [show ((List.map tV (w :: ws1)).drop 1).take ((List.map tV (w :: ws1)).length - 1) = ws1.map tV from by rw [List.map_cons, List.drop_succ_cons, List.drop_zero, List.take_of_length_le (by simp)]]
   refine A3 rfl rfl rfl ?_
   refine A5 ⟨nofun, _, kS [2,7,8,9] [2,8] rfl, ?_⟩
   refine A4 <| C8 <| K8 <| A4 <| A4 <| A0 <| A6 rfl rfl <| Y0 rfl rfl ?_
   refine A5 ⟨nofun, _, kS [2,7,8,9,43] [2,8] rfl, ?_⟩
   refine A8 rfl (fun hc => ?_) (fun hc => absurd hc (by decide))
   refine B2 <| A4 <| C8 <| A4 <| A0 <| A6 rfl rfl ?_
   rcases hr1 : rdT ws1 with _ | ⟨k1, r1⟩
   ·skip
    apply D5 rfl
    ·apply B6
     ·exact B3 rfl
     exact C9
    ·exact (by have hi := ih ws1 ⟨by simp only [List.length_cons] at hws; omega, fun x hx => hws.2 x (List.mem_cons_of_mem _ hx)⟩ (by simp only [List.length_cons] at hkk; omega); rw [hr1] at hi; exact hi)
    ·exact ⟨rfl, rfl, rfl, of_decide_eq_true rfl, rfl⟩
    ·exact .inl rfl
    ·exact B7
    ·exact I5 (I3 rfl (Q3 fun _ => I3 rfl Q4))
    ·exact fun _ => D8 (C1 rfl) (by rfl)
    intro g48
    refine A6 rfl rfl <| A9 rfl rfl rfl <| A9 rfl rfl rfl <| A9 rfl rfl rfl <| F7 rfl (fun _ => B1 rfl) (fun _ => rfl) ?_
    intro g10
    refine B4 rfl rfl rfl rfl ⟨by decide, rfl, of_decide_eq_true rfl, of_decide_eq_true rfl, rfl⟩ rfl (by exact B1 rfl) ?_
    (refine C4 rfl rfl (by (simp; done)) rfl (fun _ => (C1 (by rfl))) (fun _ => rfl) ?_; intro g11)
    refine A3 rfl rfl rfl ?_
    refine A5 ⟨nofun, _, kS [2,7,8,10,11,12] [2,8,10] rfl, ?_⟩
    refine A4 <| A4 <| A0 <| A6 rfl rfl <| O1 rfl ?_
    refine A5 ⟨nofun, _, kS [2,7,8,10,11,53] [2,8,10] rfl, ?_⟩
    refine A8 rfl (fun hc => ?_) (fun hc => absurd hc (by decide))
    refine A4 <| A0 <| L2 (fs := [_, _, _]) rfl rfl rfl rfl rfl <| B4 rfl rfl rfl rfl ⟨by decide, rfl, of_decide_eq_true rfl, of_decide_eq_true rfl, rfl⟩ rfl (by exact B1 rfl) ?_
    (refine B9 rfl rfl (fun _ => rfl) ?_; intro g3)
    refine A3 rfl rfl rfl ?_
    refine A5 ⟨nofun, _, kS [2,3,4] [2,3] rfl, ?_⟩
    refine B0 <| D4 (G6 rfl rfl rfl rfl (G7 rfl (H0 rfl (H0 rfl J0))) (G2 rfl rfl (by simp) (by rfl) (D7 rfl rfl (E8 C5)))) ?_
    rw [b1a hnn hn, hr1]
    rfl
   skip
   apply D5 rfl
   ·apply B6
    ·exact B3 rfl
    exact C9
   ·exact (by have hi := ih ws1 ⟨by simp only [List.length_cons] at hws; omega, fun x hx => hws.2 x (List.mem_cons_of_mem _ hx)⟩ (by simp only [List.length_cons] at hkk; omega); rw [hr1] at hi; exact hi)
   ·exact ⟨rfl, rfl, rfl, of_decide_eq_true rfl, rfl⟩
   ·exact .inl rfl
   ·exact B7
   ·exact K1 rfl
   ·exact fun _ => rfl
   intro g48
   refine A6 rfl rfl <| A9 rfl rfl rfl <| A9 rfl rfl rfl <| A9 rfl rfl rfl <| F7 rfl (fun _ => B1 rfl) (fun _ => rfl) ?_
   intro g10
   refine B4 rfl rfl rfl rfl ⟨by decide, rfl, of_decide_eq_true rfl, of_decide_eq_true rfl, rfl⟩ rfl (by exact B1 rfl) <| A3 rfl rfl rfl <| A3 rfl rfl rfl ?_
   refine A5 ⟨nofun, _, kS [2,7,8,10,11,12] [2,8,10] rfl, ?_⟩
   refine A4 <| A4 <| A0 <| A6 rfl rfl <| O1 rfl ?_
   refine A5 ⟨nofun, _, kS [2,7,8,10,11,53] [2,8,10] rfl, ?_⟩
   refine A8 rfl (fun hc => absurd hc (by decide)) (fun hc => ?_)
   refine B2 <| A4 <| A0 <| E9 rfl rfl (by decide) rfl rfl <| F8 rfl rfl rfl rfl rfl rfl <| E5 rfl rfl rfl rfl rfl <| G5 (es := List.map trV [_]) rfl rfl (by decide) rfl rfl (fun _ => C1 (B8 fun _ => rfl)) (fun _ => rfl) ?_
   intro g58
   refine V4 rfl rfl rfl (by simp) (by decide) rfl rfl rfl (by decide) (fun _ => ⟨rfl, rfl⟩) (by simp only [J2]; (simp only [List.length_nil, List.length_cons, List.length_append, Nat.zero_add, List.length_map]; omega)) (fun _ => rfl) ?_
   intro g59
   refine E9 rfl rfl (by decide) rfl rfl <| P4 rfl rfl rfl rfl rfl (Nat.le_refl _) rfl ?_
   refine A5 ⟨nofun, _, kS [2,7,8,11] [2,8,1000059] rfl, ?_⟩
   refine A0 <| A6 rfl rfl <| A3 rfl rfl rfl ?_
   refine A5 ⟨nofun, _, kS [2,7,8,9] [2,8,1000059] rfl, ?_⟩
   refine A0 <| A6 rfl rfl <| a3h rfl rfl (H2 (by omega)) <| A3 rfl rfl rfl ?_
   refine A5 ⟨nofun, _, kS [2,7,8,9] [2,8,1000059] rfl, ?_⟩
   refine K8 <| A4 <| A4 <| A0 <| A6 rfl rfl <| Y0 rfl rfl ?_
   refine A5 ⟨nofun, _, kS [2,7,8,9,43] [2,8,1000059] rfl, ?_⟩
   refine A8 rfl (fun hc => absurd hc (by decide)) (fun hc => ?_)
   refine H7 <| A4 <| A0 <| E5 rfl rfl rfl rfl rfl <| A6 rfl rfl <| J7 rfl rfl rfl rfl (M4 rfl (M4 rfl (a4l (by decide) (by decide) rfl (by simp) fun _ => Y6))) (fun _ => rfl) ⟨by decide, rfl, of_decide_eq_true rfl, Nat.le_refl _⟩ (fun _ => rfl) (fun _ => rfl) (fun _ => D8 (by rfl) (D8 (C1 (B8 fun _ => rfl)) (by rfl))) ?_
   intro z
   simp only [S0, List.cons_append, List.nil_append]
   refine A3 rfl rfl rfl <| A3 rfl rfl rfl ?_
   refine A5 ⟨nofun, _, kS [2,3,4] [2,300002] rfl, ?_⟩
   refine B0 <| D4 (G6 rfl rfl rfl rfl (G7 rfl (H0 rfl (m7 rfl rfl (by simp) (fun _ => rfl) J0))) (D7 rfl rfl (D7 rfl rfl (E8 C5)))) ?_
   rw [b1a hnn hn, hr1]
   rfl
  rw [hn]
  refine A6 rfl rfl <| L5 rfl rfl rfl (Mv.sized_map fun _ => rfl) K5 (H4 (n := 1) rfl) (by simp) ?_
  rw [show ((List.map tV (w :: ws1)).drop 1).take ((List.map tV (w :: ws1)).length - 1) = ws1.map tV from by rw [List.map_cons, List.drop_succ_cons, List.drop_zero, List.take_of_length_le (by simp)]]
  refine A3 rfl rfl rfl ?_
  refine A5 ⟨nofun, _, kS [2,7,8,9] [2,8] rfl, ?_⟩
  refine A4 <| C8 <| K8 <| A4 <| A4 <| A0 <| A6 rfl rfl <| Y0 rfl rfl ?_
  refine A5 ⟨nofun, _, kS [2,7,8,9,43] [2,8] rfl, ?_⟩
  refine A8 rfl (fun hc => ?_) (fun hc => absurd hc (by decide))
  refine B2 <| A4 <| C8 <| A4 <| A0 <| A6 rfl rfl ?_
  rcases hr1 : rdT ws1 with _ | ⟨k1, r1⟩
  ·skip
   apply D5 rfl
   ·apply B6
    ·exact B3 rfl
    exact C9
   ·exact (by have hi := ih ws1 ⟨by simp only [List.length_cons] at hws; omega, fun x hx => hws.2 x (List.mem_cons_of_mem _ hx)⟩ (by simp only [List.length_cons] at hkk; omega); rw [hr1] at hi; exact hi)
   ·exact ⟨rfl, rfl, rfl, of_decide_eq_true rfl, rfl⟩
   ·exact .inl rfl
   ·exact B7
   ·exact I5 (I3 rfl (Q3 fun _ => I3 rfl Q4))
   ·exact fun _ => D8 (C1 rfl) (by rfl)
   intro g48
   refine A6 rfl rfl <| A9 rfl rfl rfl <| A9 rfl rfl rfl <| A9 rfl rfl rfl <| F7 rfl (fun _ => B1 rfl) (fun _ => rfl) ?_
   intro g10
   refine B4 rfl rfl rfl rfl ⟨by decide, rfl, of_decide_eq_true rfl, of_decide_eq_true rfl, rfl⟩ rfl (by exact B1 rfl) ?_
   (refine C4 rfl rfl (by (simp; done)) rfl (fun _ => (C1 (by rfl))) (fun _ => rfl) ?_; intro g11)
   refine A3 rfl rfl rfl ?_
   refine A5 ⟨nofun, _, kS [2,7,8,10,11,12] [2,8,10] rfl, ?_⟩
   refine A4 <| A4 <| A0 <| A6 rfl rfl <| O1 rfl ?_
   refine A5 ⟨nofun, _, kS [2,7,8,10,11,53] [2,8,10] rfl, ?_⟩
   refine A8 rfl (fun hc => ?_) (fun hc => absurd hc (by decide))
   refine A4 <| A0 <| L2 (fs := [_, _, _]) rfl rfl rfl rfl rfl <| B4 rfl rfl rfl rfl ⟨by decide, rfl, of_decide_eq_true rfl, of_decide_eq_true rfl, rfl⟩ rfl (by exact B1 rfl) ?_
   (refine B9 rfl rfl (fun _ => rfl) ?_; intro g3)
   refine A3 rfl rfl rfl ?_
   refine A5 ⟨nofun, _, kS [2,3,4] [2,3] rfl, ?_⟩
   refine B0 <| D4 (G6 rfl rfl rfl rfl (G7 rfl (H0 rfl (H0 rfl J0))) (G2 rfl rfl (by simp) (by rfl) (D7 rfl rfl (E8 C5)))) ?_
   rw [w4 hnn hn, hr1]
   rfl
  skip
  apply D5 rfl
  ·apply B6
   ·exact B3 rfl
   exact C9
  ·exact (by have hi := ih ws1 ⟨by simp only [List.length_cons] at hws; omega, fun x hx => hws.2 x (List.mem_cons_of_mem _ hx)⟩ (by simp only [List.length_cons] at hkk; omega); rw [hr1] at hi; exact hi)
  ·exact ⟨rfl, rfl, rfl, of_decide_eq_true rfl, rfl⟩
  ·exact .inl rfl
  ·exact B7
  ·exact K1 rfl
  ·exact fun _ => rfl
  intro g48
  refine A6 rfl rfl <| A9 rfl rfl rfl <| A9 rfl rfl rfl <| A9 rfl rfl rfl <| F7 rfl (fun _ => B1 rfl) (fun _ => rfl) ?_
  intro g10
  refine B4 rfl rfl rfl rfl ⟨by decide, rfl, of_decide_eq_true rfl, of_decide_eq_true rfl, rfl⟩ rfl (by exact B1 rfl) <| A3 rfl rfl rfl <| A3 rfl rfl rfl ?_
  refine A5 ⟨nofun, _, kS [2,7,8,10,11,12] [2,8,10] rfl, ?_⟩
  refine A4 <| A4 <| A0 <| A6 rfl rfl <| O1 rfl ?_
  refine A5 ⟨nofun, _, kS [2,7,8,10,11,53] [2,8,10] rfl, ?_⟩
  refine A8 rfl (fun hc => absurd hc (by decide)) (fun hc => ?_)
  refine B2 <| A4 <| A0 <| E9 rfl rfl (by decide) rfl rfl <| F8 rfl rfl rfl rfl rfl rfl <| E5 rfl rfl rfl rfl rfl <| G5 (es := List.map trV [_]) rfl rfl (by decide) rfl rfl (fun _ => C1 (B8 fun _ => rfl)) (fun _ => rfl) ?_
  intro g58
  refine V4 rfl rfl rfl (by simp) (by decide) rfl rfl rfl (by decide) (fun _ => ⟨rfl, rfl⟩) (by simp only [J2]; (simp only [List.length_nil, List.length_cons, List.length_append, Nat.zero_add, List.length_map]; omega)) (fun _ => rfl) ?_
  intro g59
  refine E9 rfl rfl (by decide) rfl rfl <| P4 rfl rfl rfl rfl rfl (Nat.le_refl _) rfl ?_
  refine A5 ⟨nofun, _, kS [2,7,8,11] [2,8,1000059] rfl, ?_⟩
  refine A0 <| A6 rfl rfl <| A3 rfl rfl rfl ?_
  refine A5 ⟨nofun, _, kS [2,7,8,9] [2,8,1000059] rfl, ?_⟩
  refine A0 <| A6 rfl rfl <| a3h rfl rfl (H2 (by omega)) <| A3 rfl rfl rfl ?_
  refine A5 ⟨nofun, _, kS [2,7,8,9] [2,8,1000059] rfl, ?_⟩
  refine K8 <| A4 <| A4 <| A0 <| A6 rfl rfl <| Y0 rfl rfl ?_
  refine A5 ⟨nofun, _, kS [2,7,8,9,43] [2,8,1000059] rfl, ?_⟩
  refine A8 rfl (fun hc => ?_) (fun hc => absurd hc (by decide))
  refine B2 <| A4 <| C8 <| A4 <| A0 <| A6 rfl rfl ?_
  rcases hr2 : rdT r1 with _ | ⟨k2, r2⟩
  ·skip
   apply D5 rfl
   ·apply B6
    ·exact B3 rfl
    exact C9
   ·exact (by have hi := ih r1 ⟨by have := W1 hr1; simp only [List.length_cons] at hws; omega, fun x hx => hws.2 x (List.mem_cons_of_mem _ (a4m hr1 x hx))⟩ (by have := W1 hr1; simp only [List.length_cons] at hkk; omega); rw [hr2] at hi; exact hi)
   ·exact ⟨rfl, rfl, rfl, of_decide_eq_true rfl, rfl⟩
   ·exact .inl rfl
   ·exact B7
   ·exact I5 (I3 rfl (Q3 fun _ => I3 rfl Q4))
   ·exact fun _ => D8 (C1 rfl) (by rfl)
   intro g48
   refine A6 rfl rfl <| A9 rfl rfl rfl <| A9 rfl rfl rfl <| A9 rfl rfl rfl <| F7 rfl (fun _ => B1 rfl) (fun _ => rfl) ?_
   intro g10
   refine B4 rfl rfl rfl rfl ⟨by decide, rfl, of_decide_eq_true rfl, of_decide_eq_true rfl, rfl⟩ rfl (by exact B1 rfl) ?_
   (refine C4 rfl rfl (by (simp; done)) rfl (fun _ => (C1 (by rfl))) (fun _ => rfl) ?_; intro g11)
   refine A3 rfl rfl rfl ?_
   refine A5 ⟨nofun, _, kS [2,7,8,10,11,12] [2,8,1000059,10] rfl, ?_⟩
   refine A4 <| A4 <| A0 <| A6 rfl rfl <| O1 rfl ?_
   refine A5 ⟨nofun, _, kS [2,7,8,10,11,53] [2,8,1000059,10] rfl, ?_⟩
   refine A8 rfl (fun hc => ?_) (fun hc => absurd hc (by decide))
   refine A4 <| A0 <| L2 (fs := [_, _, _]) rfl rfl rfl rfl rfl <| B4 rfl rfl rfl rfl ⟨by decide, rfl, of_decide_eq_true rfl, of_decide_eq_true rfl, rfl⟩ rfl (by exact B1 rfl) ?_
   (refine B9 rfl rfl (fun _ => rfl) ?_; intro g3)
   refine A3 rfl rfl rfl ?_
   refine A5 ⟨nofun, _, kS [2,3,4] [2,3] rfl, ?_⟩
   refine B0 <| D4 (G6 rfl rfl rfl rfl (G7 rfl (H0 rfl (H0 rfl J0))) (G2 rfl rfl (by simp) (by rfl) (D7 rfl rfl (E8 C5)))) ?_
   rw [w4 hnn hn, hr1, Option.bind_some, hr2]
   rfl
  skip
  apply D5 rfl
  ·apply B6
   ·exact B3 rfl
   exact C9
  ·exact (by have hi := ih r1 ⟨by have := W1 hr1; simp only [List.length_cons] at hws; omega, fun x hx => hws.2 x (List.mem_cons_of_mem _ (a4m hr1 x hx))⟩ (by have := W1 hr1; simp only [List.length_cons] at hkk; omega); rw [hr2] at hi; exact hi)
  ·exact ⟨rfl, rfl, rfl, of_decide_eq_true rfl, rfl⟩
  ·exact .inl rfl
  ·exact B7
  ·exact K1 rfl
  ·exact fun _ => rfl
  intro g48
  refine A6 rfl rfl <| A9 rfl rfl rfl <| A9 rfl rfl rfl <| A9 rfl rfl rfl <| F7 rfl (fun _ => B1 rfl) (fun _ => rfl) ?_
  intro g10
  refine B4 rfl rfl rfl rfl ⟨by decide, rfl, of_decide_eq_true rfl, of_decide_eq_true rfl, rfl⟩ rfl (by exact B1 rfl) <| A3 rfl rfl rfl <| A3 rfl rfl rfl ?_
  refine A5 ⟨nofun, _, kS [2,7,8,10,11,12] [2,8,1000059,10] rfl, ?_⟩
  refine A4 <| A4 <| A0 <| A6 rfl rfl <| O1 rfl ?_
  refine A5 ⟨nofun, _, kS [2,7,8,10,11,53] [2,8,1000059,10] rfl, ?_⟩
  refine A8 rfl (fun hc => absurd hc (by decide)) (fun hc => ?_)
  refine B2 <| A4 <| A0 <| E9 rfl rfl (by decide) rfl rfl <| F8 rfl rfl rfl rfl rfl rfl <| E5 rfl rfl rfl rfl rfl <| G5 (es := List.map trV [_]) rfl rfl (by decide) rfl rfl (fun _ => C1 (B8 fun _ => rfl)) (fun _ => rfl) ?_
  intro g58
  refine K3 rfl rfl rfl rfl (by (simp; done)) (by simp) (by decide) rfl rfl rfl rfl (by decide) (fun _ => ⟨rfl, rfl⟩) (by simp only [J2]; (simp only [List.length_nil, List.length_cons, List.length_append, Nat.zero_add, List.length_map]; omega)) (fun _ => rfl) ?_
  intro g59
  refine E9 rfl rfl (by decide) rfl rfl <| P4 rfl rfl rfl rfl rfl (Nat.le_refl _) rfl ?_
  refine A5 ⟨nofun, _, kS [2,7,8,11] [2,8,1000059] rfl, ?_⟩
  refine A0 <| A6 rfl rfl <| A3 rfl rfl rfl ?_
  refine A5 ⟨nofun, _, kS [2,7,8,9] [2,8,1000059] rfl, ?_⟩
  refine A0 <| A6 rfl rfl <| a3h rfl rfl (H2 (by omega)) <| A3 rfl rfl rfl ?_
  refine A5 ⟨nofun, _, kS [2,7,8,9] [2,8,1000059] rfl, ?_⟩
  refine K8 <| A4 <| A4 <| A0 <| A6 rfl rfl <| Y0 rfl rfl ?_
  refine A5 ⟨nofun, _, kS [2,7,8,9,43] [2,8,1000059] rfl, ?_⟩
  refine A8 rfl (fun hc => absurd hc (by decide)) (fun hc => ?_)
  refine H7 <| A4 <| A0 <| E5 rfl rfl rfl rfl rfl <| A6 rfl rfl <| J7 rfl rfl rfl rfl (M4 rfl (M4 rfl (a4l (by decide) (by decide) rfl (by simp) fun _ => Y6))) (fun _ => rfl) ⟨by decide, rfl, of_decide_eq_true rfl, Nat.le_refl _⟩ (fun _ => rfl) (fun _ => rfl) (fun _ => D8 (by rfl) (D8 (C1 (B8 fun _ => rfl)) (by rfl))) ?_
  intro z
  simp only [S0, List.cons_append, List.nil_append]
  refine A3 rfl rfl rfl <| A3 rfl rfl rfl ?_
  refine A5 ⟨nofun, _, kS [2,3,4] [2,300002] rfl, ?_⟩
  refine B0 <| D4 (G6 rfl rfl rfl rfl (G7 rfl (H0 rfl (m7 rfl rfl (by simp) (fun _ => rfl) J0))) (D7 rfl rfl (D7 rfl rfl (E8 C5)))) ?_
  rw [w4 hnn hn, hr1, Option.bind_some, hr2]
  rfl

theorem keep_s_readPlan : H1 Tryd.f23 = [0, 2, 3, 4, 17, 6, 7, 5, 21] := by kernel_rfl
set_option maxHeartbeats 20000000 in
theorem b6n (s : List UInt8) (hs : s.length ≤ 1048576) : CW cxT 23 [tV s] = some (.tup [trV (rpT s), bV (rdPlan s).isSome], []) := by
 obtain ⟨ws, hws⟩ : ∃ ws, ws = splitB 32 s := ⟨_, rfl⟩
 have hwl := Q8 32 s
 have hwp := a7 32 s
 rw [← hws] at hwl hwp
 refine G3 rfl Tryd.func23 rfl ⟨by kernel_rfl, rfl, of_decide_eq_true rfl, of_decide_eq_true rfl, by decide⟩ keep_s_readPlan <| A4 <| A0 <| F7 rfl (fun _ => B1 rfl) (fun _ => rfl) ?_
 intro g2
 refine A3 rfl rfl rfl ?_
 refine A5 ⟨nofun, _, kS [0,2] [2] rfl, ?_⟩
 refine A4 <| A0 <| A6 rfl rfl ?_
 apply D5 rfl
 ·apply B6
  ·exact B3 rfl
  apply B6
  ·exact B3 rfl
  exact C9
 ·exact a8z s (by omega) 32
 ·exact ⟨rfl, rfl, rfl, of_decide_eq_true rfl, rfl⟩
 ·exact .inl rfl
 ·exact B7
 ·exact a1e
 ·exact fun _ => rfl
 intro g9
 rw [← hws]
 try simp only [List.length_map]
 (refine C4 rfl rfl (by (simp; done)) rfl (fun _ => (C1 (by exact B8 fun _ => rfl))) (fun _ => rfl) ?_; intro g4)
 refine A5 ⟨nofun, _, kS [0,2,4] [2,4] rfl, ?_⟩
 refine A4 <| A4 <| A0 <| A6 rfl rfl <| o5 rfl rfl <| Y0 rfl rfl <| A6 rfl rfl ?_
 refine E3 rfl rfl (fun hg0 => ?_) (fun hg0 => ?_)
 ·have hg := hg0; try simp only [SG] at hg
  refine A6 rfl rfl <| gT rfl rfl <| a0z rfl rfl <| gT rfl rfl <| Y0 rfl rfl <| G8 rfl (by assumption) rfl rfl ?_
  refine A5 ⟨nofun, _, kS [2,4,17] [2,4] rfl, ?_⟩
  refine A8 rfl (fun hc => ?_) (fun hc => ?_)
  ·try simp only [SG, List.length_map] at hc
   refine A4 <| A0 <| L2 (fs := [_, _, _]) rfl rfl rfl rfl rfl <| B4 rfl rfl rfl rfl ⟨by decide, rfl, of_decide_eq_true rfl, of_decide_eq_true rfl, rfl⟩ rfl (by exact B1 rfl) <| A3 rfl rfl rfl ?_
   refine A5 ⟨nofun, _, kS [2,3] [2] rfl, ?_⟩
   refine B0 <| D4 (G6 rfl rfl rfl rfl (G7 rfl (H0 rfl (H0 rfl J0))) (D7 rfl rfl (E8 C5))) ?_
   obtain ⟨h1, h2⟩ := a6h (s := s) (by rw [hws] at *; omega)
   rw [h1, h2]
   rfl
  try simp only [SG, List.length_map] at hc
  have hin := b7v hws (by omega)
  refine B2 <| A4 <| A0 <| A6 rfl rfl ?_
  rcases hr : rdT ws with _ | ⟨t, r⟩
  ·skip
   apply D5 rfl
   ·apply B6
    ·exact Z6 rfl rfl (by (simp; done)) (fun _ => rfl)
    exact C9
   ·exact (by have hi := a6f ws ⟨by omega, fun w hw => by have := hwp w hw; omega⟩; rw [hr] at hi; exact hi)
   ·exact ⟨rfl, rfl, rfl, of_decide_eq_true rfl, rfl⟩
   ·exact .inl rfl
   ·exact B7
   ·exact I5 (I3 rfl (Q3 fun _ => I3 rfl Q4))
   ·exact fun _ => D8 (w8 (B8 fun _ => rfl) (by decide)) (by rfl)
   intro g21
   refine A6 rfl rfl <| A9 rfl rfl rfl <| A9 rfl rfl rfl <| A9 rfl rfl rfl <| F7 rfl (fun _ => B1 rfl) (fun _ => rfl) ?_
   intro g5
   refine B4 rfl rfl rfl rfl ⟨by decide, rfl, of_decide_eq_true rfl, of_decide_eq_true rfl, rfl⟩ rfl (by exact B1 rfl) ?_
   (refine C4 rfl rfl (by (simp; done)) rfl (fun _ => (C1 (by rfl))) (fun _ => rfl) ?_; intro g6)
   refine A3 rfl rfl rfl ?_
   refine A5 ⟨nofun, _, kS [2,5,6,7] [2,5] rfl, ?_⟩
   refine A4 <| A0 <| E5 rfl rfl rfl rfl rfl <| A6 rfl rfl <| A6 rfl rfl <| G9 rfl rfl rfl <| G9 rfl rfl rfl <| G9 rfl rfl rfl <| G8 rfl rfl rfl rfl <| B4 rfl rfl rfl rfl ⟨by decide, rfl, of_decide_eq_true rfl, of_decide_eq_true rfl, rfl⟩ rfl (by exact B1 rfl) <| A3 rfl rfl rfl ?_
   refine A5 ⟨nofun, _, kS [2,3] [2] rfl, ?_⟩
   refine B0 <| D4 (G6 rfl rfl rfl rfl (G7 rfl (G7 rfl (G7 rfl J0))) (D7 rfl rfl (E8 C5))) ?_
   obtain ⟨h1, h2⟩ := hin.1 hr
   rw [h1, h2]
   rfl
  skip
  apply D5 rfl
  ·apply B6
   ·exact Z6 rfl rfl (by (simp; done)) (fun _ => rfl)
   exact C9
  ·exact (by have hi := a6f ws ⟨by omega, fun w hw => by have := hwp w hw; omega⟩; rw [hr] at hi; exact hi)
  ·exact ⟨rfl, rfl, rfl, of_decide_eq_true rfl, rfl⟩
  ·exact .inl rfl
  ·exact B7
  ·exact K1 rfl
  ·exact fun _ => D8 (w8 (B8 fun _ => rfl) (by decide)) (by rfl)
  intro g21
  refine A6 rfl rfl <| A9 rfl rfl rfl <| A9 rfl rfl rfl <| A9 rfl rfl rfl <| F7 rfl (fun _ => B1 rfl) (fun _ => rfl) ?_
  intro g5
  refine B4 rfl rfl rfl rfl ⟨by decide, rfl, of_decide_eq_true rfl, of_decide_eq_true rfl, rfl⟩ rfl (by exact B1 rfl) <| A3 rfl rfl rfl <| A3 rfl rfl rfl ?_
  refine A5 ⟨nofun, _, kS [2,5,6,7] [2,5] rfl, ?_⟩
  refine A4 <| A0 <| E5 rfl rfl rfl rfl rfl <| A6 rfl rfl <| A6 rfl rfl <| R7 rfl rfl rfl <| A6 rfl rfl <| R7 rfl rfl rfl <| H6 rfl rfl <| R7 rfl rfl rfl <| a4r rfl rfl <| G1 rfl rfl rfl rfl <| B4 rfl rfl rfl rfl ⟨by decide, rfl, of_decide_eq_true rfl, of_decide_eq_true rfl, rfl⟩ rfl (by exact B1 rfl) <| A3 rfl rfl rfl ?_
  refine A5 ⟨nofun, _, kS [2,3] [2] rfl, ?_⟩
  refine B0 <| D4 (G6 rfl rfl rfl rfl (G7 rfl (G7 rfl (G7 rfl J0))) (D7 rfl rfl (E8 C5))) ?_
  obtain ⟨h1, h2⟩ := hin.2 t r hr
  rw [h1, h2]
  rfl
 have hg := hg0; try simp only [SG] at hg
 refine gF rfl rfl <| gF rfl rfl <| G1 rfl (by assumption) rfl rfl ?_
 refine A5 ⟨nofun, _, kS [2,4,17] [2,4] rfl, ?_⟩
 refine A8 rfl (fun hc => ?_) (fun hc => absurd hc (by decide))
 refine A4 <| A0 <| L2 (fs := [_, _, _]) rfl rfl rfl rfl rfl <| B4 rfl rfl rfl rfl ⟨by decide, rfl, of_decide_eq_true rfl, of_decide_eq_true rfl, rfl⟩ rfl (by exact B1 rfl) <| A3 rfl rfl rfl ?_
 refine A5 ⟨nofun, _, kS [2,3] [2] rfl, ?_⟩
 refine B0 <| D4 (G6 rfl rfl rfl rfl (G7 rfl (H0 rfl (H0 rfl J0))) (D7 rfl rfl (E8 C5))) ?_
 obtain ⟨h1, h2⟩ := a6h (s := s) (by rw [hws] at *; omega)
 rw [h1, h2]
 rfl

theorem keep_s_numbers : H1 Tryd.f54 = [0, 2, 8, 7, 9, 6, 5, 3] := by kernel_rfl
set_option maxHeartbeats 20000000 in
theorem b9a (ns : List Int) (hl : ns.length ≤ 1000000) (hnb : ∀ n ∈ ns, -1000000 ≤ n ∧ n ≤ 1000000) : CW cxT 54 [L ns] = some (tV (S9 ns), []) := by
 have hg := fun (i : Nat) (h : i < ns.length) => hnb _ (a1d h)
 have hll := a8a (ns := ns) hnb
 refine G3 rfl Tryd.func54 rfl ⟨by kernel_rfl, rfl, of_decide_eq_true rfl, of_decide_eq_true rfl, by decide⟩ keep_s_numbers <| A4 <| A0 <| A3 rfl rfl rfl ?_
 refine A5 ⟨nofun, _, kS [0] [] rfl, ?_⟩
 refine A4 <| A0 ?_
 (refine B9 rfl rfl (fun _ => rfl) ?_; intro g3)
 refine A5 ⟨nofun, _, kS [0,3] [3] rfl, ?_⟩
 refine A4 <| A4 <| A0 <| A6 rfl rfl <| H6 rfl rfl <| A6 rfl rfl ?_
 refine A5 ⟨nofun, _, kS [3,6,7,8] [3] rfl, ?_⟩
 refine C8 <| I7 (β := Nat × List (List UInt8) × Nat) [(.t 6, _), (.t 7, _)] (fun (z : Nat × List (List UInt8) × Nat) => match z with | (i, ps, g) => [(.t 8, iV i), (.t 3, .sl 3 g none 0 ps.length), (.h 3, .obj g 0 1 (ps.map tV))]) (fun (z : Nat × List (List UInt8) × Nat) => match z with | (i, ps, g) => i ≤ ns.length ∧ ps = (ns.take i).map dec) (fun (z : Nat × List (List UInt8) × Nat) => match z with | (i, ps, g) => ns.length - i) (0, [], _) ⟨rfl, rfl, rfl, rfl, rfl, trivial⟩ ⟨Nat.zero_le _, rfl⟩ ?_
 intro z hb
 obtain ⟨i, ps, g⟩ := z
 try dsimp only at hb
 obtain ⟨hi1, hps⟩ := hb
 have hpl : ps.length = i := by rw [hps]; simp; omega
 refine A4 <| A0 <| K4 rfl rfl ?_
 refine A5 ⟨nofun, _, kS [3,6,7,8,9] [3] rfl, ?_⟩
 refine A4 ?_
 refine A8 rfl (fun hc => ?_) (fun hc => ?_)
 ·try simp only [SG, List.length_map] at hc
  refine B2 <| A4 <| C8 <| A4 <| A0 <| F9 rfl rfl rfl (fun _ => rfl) (by omega) <| G4 rfl rfl rfl <| A3 rfl rfl rfl ?_
  refine A5 ⟨nofun, _, kS [3,5,6,7,8] [3] rfl, ?_⟩
  refine A0 <| A6 rfl rfl <| A6 rfl rfl ?_
  have hgi := hg i (by omega)
  apply D5 rfl
  ·apply B6
   ·exact B3 rfl
   exact C9
  ·exact c4z (ns.getD i default) (by omega)
  ·exact ⟨rfl, rfl, rfl, of_decide_eq_true rfl, rfl⟩
  ·exact .inl rfl
  ·exact B7
  ·exact C7 rfl
  ·exact fun _ => rfl
  intro g14
  refine G5 (es := List.map tV [_]) rfl rfl (by decide) rfl rfl (fun _ => C1 (B8 fun _ => rfl)) (fun _ => rfl) ?_
  intro g15
  refine K3 rfl rfl rfl rfl (by (simp; done)) (by simp) (by decide) rfl rfl rfl rfl (by decide) (fun _ => ⟨rfl, rfl⟩) (by simp only [J2]; (simp only [List.length_nil, List.length_cons, List.length_append, Nat.zero_add, List.length_map]; omega)) (fun _ => rfl) ?_
  intro g16
  (refine C4 rfl rfl (by (simp; done)) rfl (fun _ => (C1 (by exact B8 fun _ => rfl))) (fun _ => rfl) ?_; intro g3)
  refine A5 ⟨nofun, _, kS [3,6,7,8] [3] rfl, ?_⟩
  refine A0 <| I6 rfl rfl (H2 (by omega)) <| A6 rfl rfl ?_
  refine A5 ⟨nofun, _, kS [3,6,7,8] [3] rfl, ?_⟩
  refine ⟨(i + 1, ps ++ [dec (ns.getD i default)], _), ?_, (by simp only; omega), ⟨rfl, rfl, rfl, rfl, rfl, trivial⟩⟩
  exact ⟨by omega, by rw [hps, ← a7f (by omega)]⟩
 try simp only [SG, List.length_map] at hc
 refine H7 <| A4 <| A0 <| A6 rfl rfl ?_
 have hpe : ps = ns.map dec := by rw [hps, List.take_of_length_le (by omega)]
 have hje : joinB 44 ps = S9 ns := by rw [hpe]; rfl
 apply D5 rfl
 ·apply B6
  ·exact Z8 rfl rfl rfl (by (simp; done)) (fun _ => rfl)
  apply B6
  ·exact B3 rfl
  exact C9
 ·exact c5g ps 44 (by simp only [J2]; omega) (by rw [hje]; simp only [J2]; omega)
 ·exact ⟨rfl, rfl, rfl, of_decide_eq_true rfl, rfl⟩
 ·exact .inr ⟨rfl, rfl⟩
 ·exact B7
 ·exact C7 rfl
 ·exact fun _ => rfl
 intro g19
 refine A3 rfl rfl rfl ?_
 refine A5 ⟨nofun, _, kS [2] [] rfl, ?_⟩
 refine B0 <| C0 rfl rfl trivial ?_
 rw [hje]

theorem keep_s_listTextI : H1 Tryd.f42 = [0, 2] := by kernel_rfl
set_option maxHeartbeats 20000000 in
theorem a3c (ns : List Int) (hl : ns.length ≤ 1000000) (hnb : ∀ n ∈ ns, -1000000 ≤ n ∧ n ≤ 1000000) : CW cxT 42 [L ns] = some (tV (X2 ns), []) := by
 have hll := a8a (ns := ns) hnb
 refine G3 rfl Tryd.func42 rfl ⟨by kernel_rfl, rfl, of_decide_eq_true rfl, of_decide_eq_true rfl, by decide⟩ keep_s_listTextI <| A4 <| A0 <| A3 rfl rfl rfl ?_
 refine A5 ⟨nofun, _, kS [0] [] rfl, ?_⟩
 refine A4 <| A0 <| A6 rfl rfl ?_
 apply D5 rfl
 ·apply B6
  ·exact B3 rfl
  exact C9
 ·exact b9a ns hl hnb
 ·exact ⟨rfl, rfl, rfl, of_decide_eq_true rfl, rfl⟩
 ·exact .inl rfl
 ·exact B7
 ·exact C7 rfl
 ·exact fun _ => rfl
 intro g4
 refine b0f rfl rfl (by simp only [J2, List.length_append, List.length_cons, List.length_nil]; omega) <| b0f rfl rfl (by simp only [J2, List.length_append, List.length_cons, List.length_nil]; omega) <| A3 rfl rfl rfl ?_
 refine A5 ⟨nofun, _, kS [2] [] rfl, ?_⟩
 refine B0 <| C0 rfl rfl trivial ?_
 rfl

theorem keep_s_readListI : H1 Tryd.f72 = [0, 2, 3, 4, 6, 5, 27, 29, 33, 32, 34, 31, 9, 11, 43, 10, 7] := by kernel_rfl
set_option maxHeartbeats 20000000 in
theorem b1i (w : List UInt8) (hs : w.length ≤ 1048576) : CW cxT 72 [tV w] = some (.tup [.own 1 ((rlX w).map iV), bV (okI w)], []) := by
 have hc1 := c0f 91 w
 have hc2 := c2m 93 (n8 91 w)
 refine G3 rfl Tryd.func72 rfl ⟨by kernel_rfl, rfl, of_decide_eq_true rfl, of_decide_eq_true rfl, by decide⟩ keep_s_readListI <| A4 <| A0 ?_
 (refine B9 rfl rfl (fun _ => rfl) ?_; intro g2)
 refine A3 rfl rfl rfl ?_
 refine A5 ⟨nofun, _, kS [0] [] rfl, ?_⟩
 refine A4 <| A0 <| A6 rfl rfl ?_
 apply D5 rfl
 ·apply B6
  ·exact B3 rfl
  apply B6
  ·exact B3 rfl
  exact C9
 ·exact c4y w 91
 ·exact ⟨rfl, rfl, rfl, of_decide_eq_true rfl, rfl⟩
 ·exact .inl rfl
 ·exact B7
 ·exact K1 rfl
 ·exact fun _ => rfl
 intro g14
 refine A6 rfl rfl <| A9 rfl rfl rfl <| A9 rfl rfl rfl <| A3 rfl rfl rfl <| A3 rfl rfl rfl ?_
 refine A5 ⟨nofun, _, kS [0,4,5] [] rfl, ?_⟩
 refine A4 <| A0 <| A6 rfl rfl ?_
 apply D5 rfl
 ·apply B6
  ·exact B3 rfl
  apply B6
  ·exact B3 rfl
  exact C9
 ·exact c5v (n8 91 w) 93 (by omega)
 ·exact ⟨rfl, rfl, rfl, of_decide_eq_true rfl, rfl⟩
 ·exact .inl rfl
 ·exact B7
 ·exact K1 rfl
 ·exact fun _ => rfl
 intro g19
 refine A6 rfl rfl <| A9 rfl rfl rfl <| A9 rfl rfl rfl <| A3 rfl rfl rfl <| A3 rfl rfl rfl ?_
 refine A5 ⟨nofun, _, kS [0,4,5,6] [] rfl, ?_⟩
 refine A4 <| A4 <| A0 <| A6 rfl rfl <| O1 rfl <| A6 rfl rfl ?_
 refine E3 rfl rfl (fun hg0 => ?_) (fun hg0 => ?_)
 ·have hg := hg0; try simp only [SG] at hg
  refine A6 rfl rfl <| gT rfl rfl <| O1 rfl <| G8 rfl (by assumption) rfl rfl ?_
  refine A5 ⟨nofun, _, kS [0,4,27] [] rfl, ?_⟩
  refine A8 rfl (fun hc => ?_) (fun hc => ?_)
  ·try simp only [SG, List.length_map] at hc
   refine A4 <| A0 ?_
   (refine B9 rfl rfl (fun _ => rfl) ?_; intro g2)
   refine A3 rfl rfl rfl ?_
   refine A5 ⟨nofun, _, kS [2,3] [2] rfl, ?_⟩
   refine B0 <| D4 (G2 rfl rfl (by simp) (by rfl) (D7 rfl rfl (E8 C5))) ?_
   obtain ⟨h1, h2⟩ := b0q (b3r (w := w) (by simp_all [okB]))
   rw [h1, h2]
   rfl
  try simp only [SG, List.length_map] at hc
  have hok : okB w = true := by simp [okB]; constructor <;> assumption
  obtain ⟨ps, hps0⟩ : ∃ ps, ps = splitB 44 (r8 w) := ⟨_, rfl⟩
  have hpl := Q8 44 (r8 w)
  have hpp := a7 44 (r8 w)
  rw [← hps0] at hpl hpp
  have hil := c2n hok
  refine B2 <| A4 <| A0 ?_
  (refine B9 rfl rfl (fun _ => rfl) ?_; intro g7)
  refine A5 ⟨nofun, _, kS [0,4,7] [7] rfl, ?_⟩
  refine A4 <| A4 <| A0 <| A6 rfl rfl <| a8j rfl rfl ?_
  refine A5 ⟨nofun, _, kS [0,4,7,29] [7] rfl, ?_⟩
  refine A8 rfl (fun hc => ?_) (fun hc => ?_)
  ·try simp only [SG, List.length_map] at hc
   have hin : r8 w ≠ [] := hc
   refine A4 <| A0 <| A6 rfl rfl ?_
   have hps := hps0
   apply D5 rfl
   ·apply B6
    ·exact B3 rfl
    apply B6
    ·exact B3 rfl
    exact C9
   ·exact b7o (r8 w) 44 (by unfold r8; omega)
   ·exact ⟨rfl, rfl, rfl, of_decide_eq_true rfl, rfl⟩
   ·exact .inl rfl
   ·exact B7
   ·exact a1e
   ·(intro _; exact D8 (C1 (B8 fun _ => rfl)) rfl)
   intro g31
   rw [← hps]
   try simp only [List.length_map]
   refine a0z rfl rfl <| A6 rfl rfl ?_
   refine A5 ⟨nofun, _, kS [0,7,31,32,33] [7,1000031] rfl, ?_⟩
   refine C8 <| I7 (β := Nat × List Int × Nat) [(.t 0, _), (.t 31, _), (.t 32, _), (.h 1000031, _)] (fun (z : Nat × List Int × Nat) => match z with | (i, ns, g) => [(.t 33, iV i), (.t 7, .sl 7 g none 0 ns.length), (.h 7, .obj g 0 1 (ns.map iV))]) (fun (z : Nat × List Int × Nat) => match z with | (i, ns, g) => i ≤ ps.length ∧ rdA (ps.take i) = some ns) (fun (z : Nat × List Int × Nat) => match z with | (i, ns, g) => ps.length - i) (0, [], _) ⟨rfl, rfl, rfl, rfl, rfl, rfl, rfl, trivial⟩ ⟨Nat.zero_le _, rfl⟩ ?_
   intro z hb
   obtain ⟨i, ns, g⟩ := z
   try dsimp only at hb
   obtain ⟨hi1, hrd⟩ := hb
   have hpi := fun h : i < ps.length => hpp _ (e9 h)
   have hnl := a5c hrd
   rw [List.length_take] at hnl
   refine A4 <| A0 <| K4 rfl rfl ?_
   refine A5 ⟨nofun, _, kS [0,7,31,32,33,34] [7,1000031] rfl, ?_⟩
   refine A4 ?_
   refine A8 rfl (fun hc => ?_) (fun hc => ?_)
   ·try simp only [SG, List.length_map] at hc
    refine B2 <| A4 <| C8 <| A4 <| A0 <| W5 rfl rfl rfl rfl (by omega) (by (simp; done)) rfl <| W4 rfl rfl (by omega) (fun _ => rfl) (fun _ => rfl) rfl <| A3 rfl rfl rfl ?_
    refine A5 ⟨nofun, _, kS [0,7,9,31,32,33] [7,1000031] rfl, ?_⟩
    refine A4 <| A0 <| A6 rfl rfl ?_
    rcases hat : Lib.atoiAll (ps.getD i default) with v | _ | _
    ·skip
     apply D5 rfl
     ·apply B6
      ·exact B3 rfl
      exact C9
     ·exact (by have hi := b5w (ps.getD i default) (by omega); unfold atR at hi; rw [hat] at hi; exact hi)
     ·exact ⟨rfl, rfl, rfl, of_decide_eq_true rfl, rfl⟩
     ·exact .inl rfl
     ·exact B7
     ·exact K1 rfl
     ·exact fun _ => rfl
     intro g39
     refine A6 rfl rfl <| A9 rfl rfl rfl <| A9 rfl rfl rfl <| A3 rfl rfl rfl <| A3 rfl rfl rfl ?_
     refine A5 ⟨nofun, _, kS [0,7,10,11,31,32,33] [7,1000031] rfl, ?_⟩
     refine A4 <| A4 <| A0 <| A6 rfl rfl <| c1u rfl rfl rfl rfl ?_
     refine A5 ⟨nofun, _, kS [0,7,10,31,32,33,43] [7,1000031] rfl, ?_⟩
     refine A8 rfl (fun hc => absurd hc (by decide)) (fun hc => ?_)
     refine B2 <| A0 <| A6 rfl rfl <| A6 rfl rfl <| G5 (es := List.map iV [_]) rfl rfl (by decide) rfl rfl (fun _ => C1 (B8 fun _ => rfl)) (fun _ => rfl) ?_
     intro g46
     refine K3 rfl rfl rfl rfl (by (simp; done)) (by simp) (by decide) rfl rfl rfl rfl (by decide) (fun _ => ⟨rfl, rfl⟩) (by simp only [J2]; (simp only [List.length_nil, List.length_cons, List.length_append, Nat.zero_add, List.length_map]; omega)) (fun _ => rfl) ?_
     intro g47
     (refine C4 rfl rfl (by (simp; done)) rfl (fun _ => (C1 (by exact B8 fun _ => rfl))) (fun _ => rfl) ?_; intro g7)
     refine A5 ⟨nofun, _, kS [0,7,31,32,33] [7,1000031] rfl, ?_⟩
     refine A0 <| I6 rfl rfl (H2 (by omega)) <| A6 rfl rfl ?_
     refine A5 ⟨nofun, _, kS [0,7,31,32,33] [7,1000031] rfl, ?_⟩
     refine ⟨(i + 1, ns ++ [v], _), ?_, (by simp only; omega), ⟨rfl, rfl, rfl, rfl, rfl, rfl, rfl, trivial⟩⟩
     exact ⟨by omega, c1y (by omega) hrd hat⟩
    ·skip
     apply D5 rfl
     ·apply B6
      ·exact B3 rfl
      exact C9
     ·exact (by have hi := b5w (ps.getD i default) (by omega); unfold atR at hi; rw [hat] at hi; exact hi)
     ·exact ⟨rfl, rfl, rfl, of_decide_eq_true rfl, rfl⟩
     ·exact .inl rfl
     ·exact B7
     ·exact K1 rfl
     ·exact fun _ => rfl
     intro g39
     refine A6 rfl rfl <| A9 rfl rfl rfl <| A9 rfl rfl rfl <| A3 rfl rfl rfl <| A3 rfl rfl rfl ?_
     refine A5 ⟨nofun, _, kS [0,7,10,11,31,32,33] [7,1000031] rfl, ?_⟩
     refine A4 <| A4 <| A0 <| A6 rfl rfl <| b4g rfl rfl rfl ?_
     refine A5 ⟨nofun, _, kS [0,7,10,31,32,33,43] [7,1000031] rfl, ?_⟩
     refine A8 rfl (fun hc => ?_) (fun hc => absurd hc (by decide))
     refine A4 <| A0 ?_
     (refine B9 rfl rfl (fun _ => rfl) ?_; intro g2)
     refine A3 rfl rfl rfl ?_
     refine A5 ⟨nofun, _, kS [2,3] [2] rfl, ?_⟩
     refine B0 <| D4 (G2 rfl rfl (by simp) (by rfl) (D7 rfl rfl (E8 C5))) ?_
     obtain ⟨h1, h2⟩ := b0q (w := w) (by rw [a4j hok hin, ← hps0]; exact b1f (i := i) (by omega) (by intro v hv; rw [hat] at hv; cases hv))
     rw [h1, h2]
     rfl
    skip
    apply D5 rfl
    ·apply B6
     ·exact B3 rfl
     exact C9
    ·exact (by have hi := b5w (ps.getD i default) (by omega); unfold atR at hi; rw [hat] at hi; exact hi)
    ·exact ⟨rfl, rfl, rfl, of_decide_eq_true rfl, rfl⟩
    ·exact .inl rfl
    ·exact B7
    ·exact K1 rfl
    ·exact fun _ => rfl
    intro g39
    refine A6 rfl rfl <| A9 rfl rfl rfl <| A9 rfl rfl rfl <| A3 rfl rfl rfl <| A3 rfl rfl rfl ?_
    refine A5 ⟨nofun, _, kS [0,7,10,11,31,32,33] [7,1000031] rfl, ?_⟩
    refine A4 <| A4 <| A0 <| A6 rfl rfl <| b4g rfl rfl rfl ?_
    refine A5 ⟨nofun, _, kS [0,7,10,31,32,33,43] [7,1000031] rfl, ?_⟩
    refine A8 rfl (fun hc => ?_) (fun hc => absurd hc (by decide))
    refine A4 <| A0 ?_
    (refine B9 rfl rfl (fun _ => rfl) ?_; intro g2)
    refine A3 rfl rfl rfl ?_
    refine A5 ⟨nofun, _, kS [2,3] [2] rfl, ?_⟩
    refine B0 <| D4 (G2 rfl rfl (by simp) (by rfl) (D7 rfl rfl (E8 C5))) ?_
    obtain ⟨h1, h2⟩ := b0q (w := w) (by rw [a4j hok hin, ← hps0]; exact b1f (i := i) (by omega) (by intro v hv; rw [hat] at hv; cases hv))
    rw [h1, h2]
    rfl
   try simp only [SG, List.length_map] at hc
   refine H7 <| A4 <| A0 <| A6 rfl rfl <| A6 rfl rfl ?_
   apply D5 rfl
   ·apply B6
    ·exact Z8 rfl rfl rfl (by (simp; done)) (fun _ => rfl)
    exact C9
   ·exact a0v ns (by omega)
   ·exact ⟨rfl, rfl, rfl, of_decide_eq_true rfl, rfl⟩
   ·exact .inr ⟨rfl, rfl⟩
   ·exact B7
   ·exact C7 rfl
   ·exact fun _ => rfl
   intro g51
   refine A6 rfl rfl ?_
   refine E3 rfl rfl (fun hg0 => ?_) (fun hg0 => ?_)
   ·have hg := hg0; try simp only [SG] at hg
    refine A6 rfl rfl <| gT rfl rfl ?_
    (have hnb := c6c (ns := ns) (by assumption); have hvl := c6b (show vd ns = true by assumption))
    apply D5 rfl
    ·apply B6
     ·exact Z8 rfl rfl rfl (by (simp; done)) (fun _ => rfl)
     exact C9
    ·exact a3c ns (by omega) hnb
    ·exact ⟨rfl, rfl, rfl, of_decide_eq_true rfl, rfl⟩
    ·exact .inr ⟨rfl, rfl⟩
    ·exact B7
    ·exact C7 rfl
    ·exact fun _ => rfl
    intro g54
    refine gT rfl rfl <| A6 rfl rfl <| gT rfl rfl <| n4 rfl rfl <| G1 rfl (by assumption) rfl rfl ?_
    (refine C4 rfl rfl (by (simp; done)) rfl (fun _ => (C1 (by exact B8 fun _ => rfl))) (fun _ => rfl) ?_; intro g2)
    refine A3 rfl rfl rfl ?_
    refine A5 ⟨nofun, _, kS [2,3] [2] rfl, ?_⟩
    refine B0 <| D4 (G2 rfl rfl (by simp) (by exact B8 fun _ => rfl) (D7 rfl rfl (E8 C5))) ?_
    (have hx := hin; obtain ⟨h1, h2⟩ := a0m (ns := ns) (w := w) (by rw [a4j hok hx, ← hps0]; rw [List.take_of_length_le (by omega)] at hrd; exact hrd))
    (rw [h1, h2, hg, Bool.true_and]; rfl)
   have hg := hg0; try simp only [SG] at hg
   refine gF rfl rfl <| gF rfl rfl <| gF rfl rfl <| G8 rfl (by assumption) rfl rfl ?_
   (refine C4 rfl rfl (by (simp; done)) rfl (fun _ => (C1 (by exact B8 fun _ => rfl))) (fun _ => rfl) ?_; intro g2)
   refine A3 rfl rfl rfl ?_
   refine A5 ⟨nofun, _, kS [2,3] [2] rfl, ?_⟩
   refine B0 <| D4 (G2 rfl rfl (by simp) (by exact B8 fun _ => rfl) (D7 rfl rfl (E8 C5))) ?_
   (have hx := hin; obtain ⟨h1, h2⟩ := a0m (ns := ns) (w := w) (by rw [a4j hok hx, ← hps0]; rw [List.take_of_length_le (by omega)] at hrd; exact hrd))
   (rw [h1, h2, hg, Bool.false_and]; rfl)
  try simp only [SG, List.length_map] at hc
  have hie : r8 w = [] := hc
  refine B2 <| A4 <| A0 <| A6 rfl rfl <| A6 rfl rfl ?_
  apply D5 rfl
  ·apply B6
   ·exact a9z rfl rfl rfl rfl rfl
   exact C9
  ·exact a0v [] (by decide)
  ·exact ⟨rfl, rfl, rfl, of_decide_eq_true rfl, rfl⟩
  ·exact .inr ⟨rfl, rfl⟩
  ·exact B7
  ·exact C7 rfl
  ·exact fun _ => rfl
  intro g51
  refine A6 rfl rfl ?_
  refine E3 rfl rfl (fun hg0 => ?_) (fun hg0 => ?_)
  ·have hg := hg0; try simp only [SG] at hg
   refine A6 rfl rfl <| gT rfl rfl ?_
   skip
   apply D5 rfl
   ·apply B6
    ·exact a9z rfl rfl rfl rfl rfl
    exact C9
   ·exact a3c [] (by decide) (by simp)
   ·exact ⟨rfl, rfl, rfl, of_decide_eq_true rfl, rfl⟩
   ·exact .inr ⟨rfl, rfl⟩
   ·exact B7
   ·exact C7 rfl
   ·exact fun _ => rfl
   intro g54
   refine gT rfl rfl <| A6 rfl rfl <| gT rfl rfl <| n4 rfl rfl <| G1 rfl rfl rfl rfl ?_
   (refine C4 rfl rfl (by (simp; done)) rfl (fun _ => (C1 (by rfl))) (fun _ => rfl) ?_; intro g2)
   refine A3 rfl rfl rfl ?_
   refine A5 ⟨nofun, _, kS [2,3] [2] rfl, ?_⟩
   refine B0 <| D4 (G2 rfl rfl (by simp) (by rfl) (D7 rfl rfl (E8 C5))) ?_
   obtain ⟨h1, h2⟩ := a0m (ns := []) (w := w) (b6t hok hie)
   (rw [h1, h2, hg, Bool.true_and]; rfl)
  have hg := hg0; try simp only [SG] at hg
  refine gF rfl rfl <| gF rfl rfl <| gF rfl rfl <| G8 rfl (by assumption) rfl rfl ?_
  (refine C4 rfl rfl (by (simp; done)) rfl (fun _ => (C1 (by rfl))) (fun _ => rfl) ?_; intro g2)
  refine A3 rfl rfl rfl ?_
  refine A5 ⟨nofun, _, kS [2,3] [2] rfl, ?_⟩
  refine B0 <| D4 (G2 rfl rfl (by simp) (by rfl) (D7 rfl rfl (E8 C5))) ?_
  obtain ⟨h1, h2⟩ := a0m (ns := []) (w := w) (b6t hok hie)
  (rw [h1, h2, hg, Bool.false_and]; rfl)
 have hg := hg0; try simp only [SG] at hg
 refine gF rfl rfl <| G1 rfl (by assumption) rfl rfl ?_
 refine A5 ⟨nofun, _, kS [0,4,27] [] rfl, ?_⟩
 refine A8 rfl (fun hc => ?_) (fun hc => absurd hc (by decide))
 refine A4 <| A0 ?_
 (refine B9 rfl rfl (fun _ => rfl) ?_; intro g2)
 refine A3 rfl rfl rfl ?_
 refine A5 ⟨nofun, _, kS [2,3] [2] rfl, ?_⟩
 refine B0 <| D4 (G2 rfl rfl (by simp) (by rfl) (D7 rfl rfl (E8 C5))) ?_
 obtain ⟨h1, h2⟩ := b0q (b3r (w := w) (by simp_all [okB]))
 rw [h1, h2]
 rfl

theorem keep_s_readWord : H1 Tryd.f63 = [0, 2, 3, 4, 6, 12, 5] := by kernel_rfl
set_option maxHeartbeats 20000000 in
theorem Y3 (w : List UInt8) (hs : w.length ≤ 1048576) : CW cxT 63 [tV w] = some (.tup [tV (if (numsOf w).isSome = true then lW else w), .own 1 (((numsOf w).getD []).map iV), bV ((numsOf w).isSome || decide (0 ≤ rch (bA w)))], []) := by
 refine G3 rfl Tryd.func63 rfl ⟨by kernel_rfl, rfl, of_decide_eq_true rfl, of_decide_eq_true rfl, by decide⟩ keep_s_readWord <| A4 <| A0 <| A3 rfl rfl rfl ?_
 (refine B9 rfl rfl (fun _ => rfl) ?_; intro g3)
 refine A3 rfl rfl rfl ?_
 refine A5 ⟨nofun, _, kS [0] [] rfl, ?_⟩
 refine A4 <| A4 <| A0 <| A6 rfl rfl ?_
 apply D5 rfl
 ·apply B6
  ·exact B3 rfl
  exact C9
 ·exact (by have hi := b1i w hs; rw [c5p] at hi; exact hi)
 ·exact ⟨rfl, rfl, rfl, of_decide_eq_true rfl, rfl⟩
 ·exact .inr ⟨m5 _ _, rfl⟩
 ·exact B7
 ·exact I5 (Q3 fun _ => I3 rfl Q4)
 ·exact fun _ => rfl
 intro g9
 simp only [List.length_map]
 refine A6 rfl rfl <| A9 rfl rfl rfl <| A9 rfl rfl rfl ?_
 (refine C4 rfl rfl (by (simp; done)) rfl (fun _ => (C1 (by exact B8 fun _ => rfl))) (fun _ => rfl) ?_; intro g5)
 refine A3 rfl rfl rfl ?_
 refine A5 ⟨nofun, _, kS [0,5,6] [5] rfl, ?_⟩
 refine A4 <| A0 <| A6 rfl rfl ?_
 refine A5 ⟨nofun, _, kS [0,5,12] [5] rfl, ?_⟩
 refine A8 rfl (fun hc => ?_) (fun hc => ?_)
 ·try simp only [SG, List.length_map] at hc
  obtain ⟨ns, hns⟩ := Option.isSome_iff_exists.1 hc
  have hraw := c5i hns
  refine A4 <| A0 <| A6 rfl rfl <| A3 rfl rfl rfl ?_
  (refine C4 rfl rfl (by (simp; done)) rfl (fun _ => (C1 (by exact B8 fun _ => rfl))) (fun _ => rfl) ?_; intro g3)
  refine A3 rfl rfl rfl ?_
  refine A5 ⟨nofun, _, kS [2,3,4] [3] rfl, ?_⟩
  refine B0 <| D4 (D7 rfl rfl (G2 rfl rfl (by simp) (by exact B8 fun _ => rfl) (D7 rfl rfl (E8 C5)))) ?_
  rw [hns, hraw]
  rfl
 try simp only [SG, List.length_map] at hc
 have hnn : numsOf w = none := by simpa using hc
 have hwo := c2w w
 refine B2 <| A4 <| A0 <| A6 rfl rfl <| A6 rfl rfl <| a8j rfl rfl <| A6 rfl rfl ?_
 refine E3 rfl rfl (fun hg0 => ?_) (fun hg0 => ?_)
 ·have hg := hg0; try simp only [SG] at hg
  refine A6 rfl rfl <| gT rfl rfl ?_
  apply D5 rfl
  ·apply B6
   ·exact B3 rfl
   exact C9
  ·exact a0x (bA w)
  ·exact ⟨rfl, rfl, rfl, of_decide_eq_true rfl, rfl⟩
  ·exact .inl rfl
  ·exact B7
  ·exact C7 rfl
  ·exact fun _ => rfl
  intro g19
  refine gT rfl rfl <| c2j rfl rfl <| G1 rfl (by assumption) rfl rfl <| A3 rfl rfl rfl ?_
  (refine B9 rfl rfl (fun _ => rfl) ?_; intro g3)
  refine A3 rfl rfl rfl ?_
  refine A5 ⟨nofun, _, kS [2,3,4] [3] rfl, ?_⟩
  refine B0 <| D4 (D7 rfl rfl (G2 rfl rfl (by simp) (by rfl) (D7 rfl rfl (E8 C5)))) ?_
  rw [hnn, ← hwo]
  simp_all
  try rfl
 have hg := hg0; try simp only [SG] at hg
 refine gF rfl rfl <| gF rfl rfl <| G8 rfl (by assumption) rfl rfl <| A3 rfl rfl rfl ?_
 (refine B9 rfl rfl (fun _ => rfl) ?_; intro g3)
 refine A3 rfl rfl rfl ?_
 refine A5 ⟨nofun, _, kS [2,3,4] [3] rfl, ?_⟩
 refine B0 <| D4 (D7 rfl rfl (G2 rfl rfl (by simp) (by rfl) (D7 rfl rfl (E8 C5)))) ?_
 rw [hnn, ← hwo]
 simp_all
 try rfl

theorem keep_s_readWords : H1 Tryd.f53 = [0, 2, 3, 4, 15, 7, 26, 6, 5, 35, 34, 36, 9, 12, 44, 8, 10, 11, 39, 50] := by kernel_rfl
set_option maxHeartbeats 20000000 in
theorem a3g (ws : List W8) (hws : ws.length ≤ 1048600 ∧ ∀ w ∈ ws, w.length ≤ 1048576) : CW cxT 53 [.list (ws.map tV)] = some (rtR (rdT ws), []) := by
 obtain ⟨kk, hkk⟩ : ∃ kk : Nat, ws.length < kk := ⟨_, Nat.lt_succ_self _⟩
 revert ws
 induction kk with
 | zero => intro ws hws hkk; exact absurd hkk (Nat.not_lt_zero _)
 | succ kk ih =>
  intro ws hws hkk
  refine G3 rfl Tryd.func53 rfl ⟨by kernel_rfl, rfl, of_decide_eq_true rfl, of_decide_eq_true rfl, by decide⟩ keep_s_readWords <| A4 <| A0 <| F7 rfl (fun _ => B1 rfl) (fun _ => rfl) ?_
  intro g2
  (refine B9 rfl rfl (fun _ => rfl) ?_; intro g3)
  refine A3 rfl rfl rfl ?_
  refine A5 ⟨nofun, _, kS [0,2] [2] rfl, ?_⟩
  refine A4 <| A4 <| A0 <| A6 rfl rfl <| H6 rfl rfl <| a4r rfl rfl ?_
  refine A5 ⟨nofun, _, kS [0,2,15] [2] rfl, ?_⟩
  refine A8 rfl (fun hc => ?_) (fun hc => ?_)
  ·try simp only [SG, List.length_map] at hc
   have hw0 : ws = [] := List.length_eq_zero_iff.1 (by simpa using hc)
   subst hw0
   refine A4 <| A0 <| L2 (fs := [_, _, _]) rfl rfl rfl rfl rfl <| B4 rfl rfl rfl rfl ⟨by decide, rfl, of_decide_eq_true rfl, of_decide_eq_true rfl, rfl⟩ rfl (by exact B1 rfl) ?_
   (refine B9 rfl rfl (fun _ => rfl) ?_; intro g3)
   refine A3 rfl rfl rfl ?_
   refine A5 ⟨nofun, _, kS [2,3,4] [2,3] rfl, ?_⟩
   refine B0 <| D4 (G6 rfl rfl rfl rfl (G7 rfl (H0 rfl (H0 rfl J0))) (G2 rfl rfl (by simp) (by rfl) (D7 rfl rfl (E8 C5)))) ?_
   rfl
  try simp only [SG, List.length_map] at hc
  obtain ⟨w, ws1, rfl⟩ : ∃ w ws1, ws = w :: ws1 := List.exists_cons_of_ne_nil (fun e => by subst e; simp at hc)
  have hw := hws.2 w (by simp)
  refine B2 <| A4 <| A0 <| A6 rfl rfl <| F9 rfl rfl rfl (fun _ => rfl) (by (change 0 < _; omega)) <| G4 rfl rfl rfl ?_
  rcases c0n w with ⟨ns, hns⟩ | ⟨hnn, hn⟩ | ⟨hnn, hn⟩ | ⟨hnn, hn⟩ | ⟨hnn, hn⟩
  ·skip
   apply D5 rfl
   ·apply B6
    ·exact B3 rfl
    exact C9
   ·exact (show CW cxT 63 [tV w] = some (.tup [tV lW, .own 1 (ns.map iV), bV true], []) from by have hi := Y3 w (by omega); rw [hns] at hi; exact hi)
   ·exact ⟨rfl, rfl, rfl, of_decide_eq_true rfl, rfl⟩
   ·exact .inr ⟨by simp [hasList, E4], rfl⟩
   ·exact B7
   ·exact I5 (I3 rfl (Q3 fun _ => I3 rfl Q4))
   ·exact fun _ => D8 (C1 (B8 fun _ => rfl)) (by rfl)
   intro g21
   try simp only [List.length_map]
   refine A6 rfl rfl <| A9 rfl rfl rfl <| A9 rfl rfl rfl <| A9 rfl rfl rfl <| A3 rfl rfl rfl ?_
   (refine C4 rfl rfl (by (simp; done)) rfl (fun _ => (C1 (by exact B8 fun _ => rfl))) (fun _ => rfl) ?_; intro g6)
   refine A3 rfl rfl rfl ?_
   refine A5 ⟨nofun, _, kS [0,2,5,6,7] [2,6] rfl, ?_⟩
   refine A4 <| A4 <| A0 <| A6 rfl rfl <| O1 rfl ?_
   refine A5 ⟨nofun, _, kS [0,2,5,6,26] [2,6] rfl, ?_⟩
   refine A8 rfl (fun hc => absurd hc (by decide)) (fun hc => ?_)
   refine B2 <| A4 <| A0 <| A6 rfl rfl <| A6 rfl rfl <| L2 (fs := [_, _, _]) rfl rfl rfl rfl rfl <| A6 rfl rfl <| L5 rfl rfl rfl (Mv.sized_map fun _ => rfl) K5 (H4 (n := 1) rfl) (by simp) ?_
   rw [show ((List.map tV (w :: ws1)).drop 1).take ((List.map tV (w :: ws1)).length - 1) = ws1.map tV from by rw [List.map_cons, List.drop_succ_cons, List.drop_zero, List.take_of_length_le (by simp)]]
   refine F7 rfl (fun _ => B1 rfl) (fun _ => rfl) ?_
   intro g8
   refine J7 rfl rfl rfl rfl (M4 rfl (l4 (by decide) (M4 rfl Y6))) (fun _ => rfl) ⟨by decide, rfl, of_decide_eq_true rfl, Nat.le_refl _⟩ (fun _ => rfl) (fun _ => rfl) (fun _ => (by rfl)) ?_
   intro z
   simp only [S0, List.cons_append, List.nil_append]
   refine A3 rfl rfl rfl ?_
   refine A5 ⟨fun _ => ⟨by (simp only [u5, List.nil_append, List.append_nil, List.map_cons, List.map_nil, List.cons_append]; decide +kernel), by decide +kernel⟩, [(.t 2, _), (.t 5, _), (.t 8, _), (.t 9, _), (.h 2, _), (.h 8, _), (.h 6, _)], ⟨rfl, rfl, rfl, rfl, rfl, rfl, rfl, rfl, rfl, rfl, rfl, rfl, rfl, rfl, trivial⟩, ?_⟩
   refine A4 <| A4 <| A0 <| A6 rfl rfl ?_
   apply D5 rfl
   ·apply B6
    ·exact B3 rfl
    exact C9
   ·exact a0x (bA lW)
   ·exact ⟨rfl, rfl, rfl, of_decide_eq_true rfl, rfl⟩
   ·exact .inl rfl
   ·exact B7
   ·exact C7 rfl
   ·exact fun _ => rfl
   intro g34
   rw [show nd (bA lW) = 0 from c3g rfl]
   refine A6 rfl rfl ?_
   refine A5 ⟨nofun, _, kS [2,8,9,34,35] [2,8,6] rfl, ?_⟩
   refine C8 <| K8 <| A4 <| A0 <| K4 rfl rfl ?_
   refine A5 ⟨nofun, _, kS [2,8,9,34,35,36] [2,8,6] rfl, ?_⟩
   refine A4 ?_
   refine A8 rfl (fun hc => absurd hc (by decide)) (fun hc => ?_)
   refine H7 <| A4 <| A0 <| E5 rfl rfl rfl rfl rfl <| A6 rfl rfl <| J7 rfl rfl rfl rfl (M4 rfl (l4 (by decide) (M4 rfl Y6))) (fun _ => rfl) ⟨by decide, rfl, of_decide_eq_true rfl, Nat.le_refl _⟩ (fun _ => rfl) (fun _ => rfl) (fun _ => (by rfl)) ?_
   intro z
   simp only [S0, List.cons_append, List.nil_append]
   refine A3 rfl rfl rfl <| A3 rfl rfl rfl ?_
   refine A5 ⟨nofun, _, kS [2,3,4] [2,6] rfl, ?_⟩
   refine B0 <| D4 (G6 rfl rfl rfl rfl (G7 rfl (m7 rfl rfl (by simp) (fun _ => rfl) (H0 rfl J0))) (D7 rfl rfl (D7 rfl rfl (E8 C5)))) ?_
   rw [b1n hns]
   rfl
  ·skip
   apply D5 rfl
   ·apply B6
    ·exact B3 rfl
    exact C9
   ·exact (show CW cxT 63 [tV w] = some (.tup [tV w, .own 1 [], bV true], []) from by have hi := Y3 w (by omega); rw [hnn] at hi; rw [show decide (0 ≤ rch (bA w)) = true from decide_eq_true (by omega)] at hi; exact hi)
   ·exact ⟨rfl, rfl, rfl, of_decide_eq_true rfl, rfl⟩
   ·exact .inr ⟨rfl, rfl⟩
   ·exact B7
   ·exact I5 (I3 rfl (Q3 fun _ => I3 rfl Q4))
   ·exact fun _ => D8 (C1 rfl) (by rfl)
   intro g21
   try simp only [List.length_map]
   refine A6 rfl rfl <| A9 rfl rfl rfl <| A9 rfl rfl rfl <| A9 rfl rfl rfl <| A3 rfl rfl rfl ?_
   (refine C4 rfl rfl (by (simp; done)) rfl (fun _ => (C1 (by rfl))) (fun _ => rfl) ?_; intro g6)
   refine A3 rfl rfl rfl ?_
   refine A5 ⟨nofun, _, kS [0,2,5,6,7] [2,6] rfl, ?_⟩
   refine A4 <| A4 <| A0 <| A6 rfl rfl <| O1 rfl ?_
   refine A5 ⟨nofun, _, kS [0,2,5,6,26] [2,6] rfl, ?_⟩
   refine A8 rfl (fun hc => absurd hc (by decide)) (fun hc => ?_)
   refine B2 <| A4 <| A0 <| A6 rfl rfl <| A6 rfl rfl <| L2 (fs := [_, _, _]) rfl rfl rfl rfl rfl <| A6 rfl rfl <| L5 rfl rfl rfl (Mv.sized_map fun _ => rfl) K5 (H4 (n := 1) rfl) (by simp) ?_
   rw [show ((List.map tV (w :: ws1)).drop 1).take ((List.map tV (w :: ws1)).length - 1) = ws1.map tV from by rw [List.map_cons, List.drop_succ_cons, List.drop_zero, List.take_of_length_le (by simp)]]
   refine F7 rfl (fun _ => B1 rfl) (fun _ => rfl) ?_
   intro g8
   refine J7 rfl rfl rfl rfl (M4 rfl (l4 (by decide) (M4 rfl Y6))) (fun _ => rfl) ⟨by decide, rfl, of_decide_eq_true rfl, Nat.le_refl _⟩ (fun _ => rfl) (fun _ => rfl) (fun _ => (by rfl)) ?_
   intro z
   simp only [S0, List.cons_append, List.nil_append]
   refine A3 rfl rfl rfl ?_
   refine A5 ⟨fun _ => ⟨by (simp only [u5, List.nil_append, List.append_nil, List.map_cons, List.map_nil, List.cons_append]; decide +kernel), by decide +kernel⟩, [(.t 2, _), (.t 5, _), (.t 8, _), (.t 9, _), (.h 2, _), (.h 8, _), (.h 6, _)], ⟨rfl, rfl, rfl, rfl, rfl, rfl, rfl, rfl, rfl, rfl, rfl, rfl, rfl, rfl, trivial⟩, ?_⟩
   refine A4 <| A4 <| A0 <| A6 rfl rfl ?_
   apply D5 rfl
   ·apply B6
    ·exact B3 rfl
    exact C9
   ·exact a0x (bA w)
   ·exact ⟨rfl, rfl, rfl, of_decide_eq_true rfl, rfl⟩
   ·exact .inl rfl
   ·exact B7
   ·exact C7 rfl
   ·exact fun _ => rfl
   intro g34
   rw [show nd (bA w) = 0 from (a1w (by omega)).trans hn]
   refine A6 rfl rfl ?_
   refine A5 ⟨nofun, _, kS [2,8,9,34,35] [2,8,6] rfl, ?_⟩
   refine C8 <| K8 <| A4 <| A0 <| K4 rfl rfl ?_
   refine A5 ⟨nofun, _, kS [2,8,9,34,35,36] [2,8,6] rfl, ?_⟩
   refine A4 ?_
   refine A8 rfl (fun hc => absurd hc (by decide)) (fun hc => ?_)
   refine H7 <| A4 <| A0 <| E5 rfl rfl rfl rfl rfl <| A6 rfl rfl <| J7 rfl rfl rfl rfl (M4 rfl (l4 (by decide) (M4 rfl Y6))) (fun _ => rfl) ⟨by decide, rfl, of_decide_eq_true rfl, Nat.le_refl _⟩ (fun _ => rfl) (fun _ => rfl) (fun _ => (by rfl)) ?_
   intro z
   simp only [S0, List.cons_append, List.nil_append]
   refine A3 rfl rfl rfl <| A3 rfl rfl rfl ?_
   refine A5 ⟨nofun, _, kS [2,3,4] [2,6] rfl, ?_⟩
   refine B0 <| D4 (G6 rfl rfl rfl rfl (G7 rfl (a9c rfl rfl rfl (H0 rfl J0))) (D7 rfl rfl (D7 rfl rfl (E8 C5)))) ?_
   rw [b7b hnn hn]
   rfl
  ·skip
   apply D5 rfl
   ·apply B6
    ·exact B3 rfl
    exact C9
   ·exact (show CW cxT 63 [tV w] = some (.tup [tV w, .own 1 [], bV true], []) from by have hi := Y3 w (by omega); rw [hnn] at hi; rw [show decide (0 ≤ rch (bA w)) = true from decide_eq_true (by omega)] at hi; exact hi)
   ·exact ⟨rfl, rfl, rfl, of_decide_eq_true rfl, rfl⟩
   ·exact .inr ⟨rfl, rfl⟩
   ·exact B7
   ·exact I5 (I3 rfl (Q3 fun _ => I3 rfl Q4))
   ·exact fun _ => D8 (C1 rfl) (by rfl)
   intro g21
   try simp only [List.length_map]
   refine A6 rfl rfl <| A9 rfl rfl rfl <| A9 rfl rfl rfl <| A9 rfl rfl rfl <| A3 rfl rfl rfl ?_
   (refine C4 rfl rfl (by (simp; done)) rfl (fun _ => (C1 (by rfl))) (fun _ => rfl) ?_; intro g6)
   refine A3 rfl rfl rfl ?_
   refine A5 ⟨nofun, _, kS [0,2,5,6,7] [2,6] rfl, ?_⟩
   refine A4 <| A4 <| A0 <| A6 rfl rfl <| O1 rfl ?_
   refine A5 ⟨nofun, _, kS [0,2,5,6,26] [2,6] rfl, ?_⟩
   refine A8 rfl (fun hc => absurd hc (by decide)) (fun hc => ?_)
   refine B2 <| A4 <| A0 <| A6 rfl rfl <| A6 rfl rfl <| L2 (fs := [_, _, _]) rfl rfl rfl rfl rfl <| A6 rfl rfl <| L5 rfl rfl rfl (Mv.sized_map fun _ => rfl) K5 (H4 (n := 1) rfl) (by simp) ?_
   rw [show ((List.map tV (w :: ws1)).drop 1).take ((List.map tV (w :: ws1)).length - 1) = ws1.map tV from by rw [List.map_cons, List.drop_succ_cons, List.drop_zero, List.take_of_length_le (by simp)]]
   refine F7 rfl (fun _ => B1 rfl) (fun _ => rfl) ?_
   intro g8
   refine J7 rfl rfl rfl rfl (M4 rfl (l4 (by decide) (M4 rfl Y6))) (fun _ => rfl) ⟨by decide, rfl, of_decide_eq_true rfl, Nat.le_refl _⟩ (fun _ => rfl) (fun _ => rfl) (fun _ => (by rfl)) ?_
   intro z
   simp only [S0, List.cons_append, List.nil_append]
   refine A3 rfl rfl rfl ?_
   refine A5 ⟨fun _ => ⟨by (simp only [u5, List.nil_append, List.append_nil, List.map_cons, List.map_nil, List.cons_append]; decide +kernel), by decide +kernel⟩, [(.t 2, _), (.t 5, _), (.t 8, _), (.t 9, _), (.h 2, _), (.h 8, _), (.h 6, _)], ⟨rfl, rfl, rfl, rfl, rfl, rfl, rfl, rfl, rfl, rfl, rfl, rfl, rfl, rfl, trivial⟩, ?_⟩
   refine A4 <| A4 <| A0 <| A6 rfl rfl ?_
   apply D5 rfl
   ·apply B6
    ·exact B3 rfl
    exact C9
   ·exact a0x (bA w)
   ·exact ⟨rfl, rfl, rfl, of_decide_eq_true rfl, rfl⟩
   ·exact .inl rfl
   ·exact B7
   ·exact C7 rfl
   ·exact fun _ => rfl
   intro g34
   rw [show nd (bA w) = 1 from (a1w (by omega)).trans hn]
   refine A6 rfl rfl ?_
   refine A5 ⟨nofun, _, kS [2,8,9,34,35] [2,8,6] rfl, ?_⟩
   refine C8 <| K8 <| A4 <| A0 <| K4 rfl rfl ?_
   refine A5 ⟨nofun, _, kS [2,8,9,34,35,36] [2,8,6] rfl, ?_⟩
   refine A4 ?_
   refine A8 rfl (fun hc => ?_) (fun hc => absurd hc (by decide))
   refine B2 <| A4 <| C8 <| A4 <| A0 <| A6 rfl rfl ?_
   rcases hr1 : rdT ws1 with _ | ⟨k1, r1⟩
   ·skip
    apply D5 rfl
    ·apply B6
     ·exact B3 rfl
     exact C9
    ·exact (by have hi := ih ws1 ⟨by simp only [List.length_cons] at hws; omega, fun x hx => hws.2 x (List.mem_cons_of_mem _ hx)⟩ (by simp only [List.length_cons] at hkk; omega); rw [hr1] at hi; exact hi)
    ·exact ⟨rfl, rfl, rfl, of_decide_eq_true rfl, rfl⟩
    ·exact .inl rfl
    ·exact B7
    ·exact I5 (I3 rfl (Q3 fun _ => I3 rfl Q4))
    ·exact fun _ => D8 (C1 rfl) (by rfl)
    intro g39
    refine A6 rfl rfl <| A9 rfl rfl rfl <| A9 rfl rfl rfl <| A9 rfl rfl rfl <| F7 rfl (fun _ => B1 rfl) (fun _ => rfl) ?_
    intro g10
    refine B4 rfl rfl rfl rfl ⟨by decide, rfl, of_decide_eq_true rfl, of_decide_eq_true rfl, rfl⟩ rfl (by exact B1 rfl) ?_
    (refine C4 rfl rfl (by (simp; done)) rfl (fun _ => (C1 (by rfl))) (fun _ => rfl) ?_; intro g11)
    refine A3 rfl rfl rfl ?_
    refine A5 ⟨nofun, _, kS [2,8,10,11,12,34,35] [2,8,6,10] rfl, ?_⟩
    refine A4 <| A4 <| A0 <| A6 rfl rfl <| O1 rfl ?_
    refine A5 ⟨nofun, _, kS [2,8,10,11,34,35,44] [2,8,6,10] rfl, ?_⟩
    refine A8 rfl (fun hc => ?_) (fun hc => absurd hc (by decide))
    refine A4 <| A0 <| L2 (fs := [_, _, _]) rfl rfl rfl rfl rfl <| B4 rfl rfl rfl rfl ⟨by decide, rfl, of_decide_eq_true rfl, of_decide_eq_true rfl, rfl⟩ rfl (by exact B1 rfl) ?_
    (refine B9 rfl rfl (fun _ => rfl) ?_; intro g3)
    refine A3 rfl rfl rfl ?_
    refine A5 ⟨nofun, _, kS [2,3,4] [2,3] rfl, ?_⟩
    refine B0 <| D4 (G6 rfl rfl rfl rfl (G7 rfl (H0 rfl (H0 rfl J0))) (G2 rfl rfl (by simp) (by rfl) (D7 rfl rfl (E8 C5)))) ?_
    rw [b1a hnn hn, hr1]
    rfl
   skip
   apply D5 rfl
   ·apply B6
    ·exact B3 rfl
    exact C9
   ·exact (by have hi := ih ws1 ⟨by simp only [List.length_cons] at hws; omega, fun x hx => hws.2 x (List.mem_cons_of_mem _ hx)⟩ (by simp only [List.length_cons] at hkk; omega); rw [hr1] at hi; exact hi)
   ·exact ⟨rfl, rfl, rfl, of_decide_eq_true rfl, rfl⟩
   ·exact .inl rfl
   ·exact B7
   ·exact K1 rfl
   ·exact fun _ => rfl
   intro g39
   refine A6 rfl rfl <| A9 rfl rfl rfl <| A9 rfl rfl rfl <| A9 rfl rfl rfl <| F7 rfl (fun _ => B1 rfl) (fun _ => rfl) ?_
   intro g10
   refine B4 rfl rfl rfl rfl ⟨by decide, rfl, of_decide_eq_true rfl, of_decide_eq_true rfl, rfl⟩ rfl (by exact B1 rfl) <| A3 rfl rfl rfl <| A3 rfl rfl rfl ?_
   refine A5 ⟨nofun, _, kS [2,8,10,11,12,34,35] [2,8,6,10] rfl, ?_⟩
   refine A4 <| A4 <| A0 <| A6 rfl rfl <| O1 rfl ?_
   refine A5 ⟨nofun, _, kS [2,8,10,11,34,35,44] [2,8,6,10] rfl, ?_⟩
   refine A8 rfl (fun hc => absurd hc (by decide)) (fun hc => ?_)
   refine B2 <| A4 <| A0 <| E9 rfl rfl (by decide) rfl rfl <| F8 rfl rfl rfl rfl rfl rfl <| E5 rfl rfl rfl rfl rfl <| G5 (es := List.map trV [_]) rfl rfl (by decide) rfl rfl (fun _ => C1 (B8 fun _ => rfl)) (fun _ => rfl) ?_
   intro g49
   refine V4 rfl rfl rfl (by simp) (by decide) rfl rfl rfl (by decide) (fun _ => ⟨rfl, rfl⟩) (by simp only [J2]; (simp only [List.length_nil, List.length_cons, List.length_append, Nat.zero_add, List.length_map]; omega)) (fun _ => rfl) ?_
   intro g50
   refine E9 rfl rfl (by decide) rfl rfl <| P4 rfl rfl rfl rfl rfl (Nat.le_refl _) rfl ?_
   refine A5 ⟨nofun, _, kS [2,8,11,34,35] [2,8,6,1000050] rfl, ?_⟩
   refine A0 <| A6 rfl rfl <| A3 rfl rfl rfl ?_
   refine A5 ⟨nofun, _, kS [2,8,9,34,35] [2,8,6,1000050] rfl, ?_⟩
   refine A0 <| I6 rfl rfl (H2 (by omega)) <| A6 rfl rfl ?_
   refine A5 ⟨nofun, _, kS [2,8,9,34,35] [2,8,6,1000050] rfl, ?_⟩
   refine K8 <| A4 <| A0 <| K4 rfl rfl ?_
   refine A5 ⟨nofun, _, kS [2,8,9,34,35,36] [2,8,6,1000050] rfl, ?_⟩
   refine A4 ?_
   refine A8 rfl (fun hc => absurd hc (by decide)) (fun hc => ?_)
   refine H7 <| A4 <| A0 <| E5 rfl rfl rfl rfl rfl <| A6 rfl rfl <| J7 rfl rfl rfl rfl (M4 rfl (l4 (by decide) (a4l (by decide) (by decide) rfl (by simp) fun _ => Y6))) (fun _ => rfl) ⟨by decide, rfl, of_decide_eq_true rfl, Nat.le_refl _⟩ (fun _ => rfl) (fun _ => rfl) (fun _ => D8 (by rfl) (D8 (C1 (B8 fun _ => rfl)) (by rfl))) ?_
   intro z
   simp only [S0, List.cons_append, List.nil_append]
   refine A3 rfl rfl rfl <| A3 rfl rfl rfl ?_
   refine A5 ⟨nofun, _, kS [2,3,4] [2,6,300002] rfl, ?_⟩
   refine B0 <| D4 (G6 rfl rfl rfl rfl (G7 rfl (a9c rfl rfl rfl (m7 rfl rfl (by simp) (fun _ => rfl) J0))) (D7 rfl rfl (D7 rfl rfl (E8 C5)))) ?_
   rw [b1a hnn hn, hr1]
   rfl
  ·skip
   apply D5 rfl
   ·apply B6
    ·exact B3 rfl
    exact C9
   ·exact (show CW cxT 63 [tV w] = some (.tup [tV w, .own 1 [], bV true], []) from by have hi := Y3 w (by omega); rw [hnn] at hi; rw [show decide (0 ≤ rch (bA w)) = true from decide_eq_true (by omega)] at hi; exact hi)
   ·exact ⟨rfl, rfl, rfl, of_decide_eq_true rfl, rfl⟩
   ·exact .inr ⟨rfl, rfl⟩
   ·exact B7
   ·exact I5 (I3 rfl (Q3 fun _ => I3 rfl Q4))
   ·exact fun _ => D8 (C1 rfl) (by rfl)
   intro g21
   try simp only [List.length_map]
   refine A6 rfl rfl <| A9 rfl rfl rfl <| A9 rfl rfl rfl <| A9 rfl rfl rfl <| A3 rfl rfl rfl ?_
   (refine C4 rfl rfl (by (simp; done)) rfl (fun _ => (C1 (by rfl))) (fun _ => rfl) ?_; intro g6)
   refine A3 rfl rfl rfl ?_
   refine A5 ⟨nofun, _, kS [0,2,5,6,7] [2,6] rfl, ?_⟩
   refine A4 <| A4 <| A0 <| A6 rfl rfl <| O1 rfl ?_
   refine A5 ⟨nofun, _, kS [0,2,5,6,26] [2,6] rfl, ?_⟩
   refine A8 rfl (fun hc => absurd hc (by decide)) (fun hc => ?_)
   refine B2 <| A4 <| A0 <| A6 rfl rfl <| A6 rfl rfl <| L2 (fs := [_, _, _]) rfl rfl rfl rfl rfl <| A6 rfl rfl <| L5 rfl rfl rfl (Mv.sized_map fun _ => rfl) K5 (H4 (n := 1) rfl) (by simp) ?_
   rw [show ((List.map tV (w :: ws1)).drop 1).take ((List.map tV (w :: ws1)).length - 1) = ws1.map tV from by rw [List.map_cons, List.drop_succ_cons, List.drop_zero, List.take_of_length_le (by simp)]]
   refine F7 rfl (fun _ => B1 rfl) (fun _ => rfl) ?_
   intro g8
   refine J7 rfl rfl rfl rfl (M4 rfl (l4 (by decide) (M4 rfl Y6))) (fun _ => rfl) ⟨by decide, rfl, of_decide_eq_true rfl, Nat.le_refl _⟩ (fun _ => rfl) (fun _ => rfl) (fun _ => (by rfl)) ?_
   intro z
   simp only [S0, List.cons_append, List.nil_append]
   refine A3 rfl rfl rfl ?_
   refine A5 ⟨fun _ => ⟨by (simp only [u5, List.nil_append, List.append_nil, List.map_cons, List.map_nil, List.cons_append]; decide +kernel), by decide +kernel⟩, [(.t 2, _), (.t 5, _), (.t 8, _), (.t 9, _), (.h 2, _), (.h 8, _), (.h 6, _)], ⟨rfl, rfl, rfl, rfl, rfl, rfl, rfl, rfl, rfl, rfl, rfl, rfl, rfl, rfl, trivial⟩, ?_⟩
   refine A4 <| A4 <| A0 <| A6 rfl rfl ?_
   apply D5 rfl
   ·apply B6
    ·exact B3 rfl
    exact C9
   ·exact a0x (bA w)
   ·exact ⟨rfl, rfl, rfl, of_decide_eq_true rfl, rfl⟩
   ·exact .inl rfl
   ·exact B7
   ·exact C7 rfl
   ·exact fun _ => rfl
   intro g34
   rw [show nd (bA w) = 2 from (a1w (by omega)).trans hn]
   refine A6 rfl rfl ?_
   refine A5 ⟨nofun, _, kS [2,8,9,34,35] [2,8,6] rfl, ?_⟩
   refine C8 <| K8 <| A4 <| A0 <| K4 rfl rfl ?_
   refine A5 ⟨nofun, _, kS [2,8,9,34,35,36] [2,8,6] rfl, ?_⟩
   refine A4 ?_
   refine A8 rfl (fun hc => ?_) (fun hc => absurd hc (by decide))
   refine B2 <| A4 <| C8 <| A4 <| A0 <| A6 rfl rfl ?_
   rcases hr1 : rdT ws1 with _ | ⟨k1, r1⟩
   ·skip
    apply D5 rfl
    ·apply B6
     ·exact B3 rfl
     exact C9
    ·exact (by have hi := ih ws1 ⟨by simp only [List.length_cons] at hws; omega, fun x hx => hws.2 x (List.mem_cons_of_mem _ hx)⟩ (by simp only [List.length_cons] at hkk; omega); rw [hr1] at hi; exact hi)
    ·exact ⟨rfl, rfl, rfl, of_decide_eq_true rfl, rfl⟩
    ·exact .inl rfl
    ·exact B7
    ·exact I5 (I3 rfl (Q3 fun _ => I3 rfl Q4))
    ·exact fun _ => D8 (C1 rfl) (by rfl)
    intro g39
    refine A6 rfl rfl <| A9 rfl rfl rfl <| A9 rfl rfl rfl <| A9 rfl rfl rfl <| F7 rfl (fun _ => B1 rfl) (fun _ => rfl) ?_
    intro g10
    refine B4 rfl rfl rfl rfl ⟨by decide, rfl, of_decide_eq_true rfl, of_decide_eq_true rfl, rfl⟩ rfl (by exact B1 rfl) ?_
    (refine C4 rfl rfl (by (simp; done)) rfl (fun _ => (C1 (by rfl))) (fun _ => rfl) ?_; intro g11)
    refine A3 rfl rfl rfl ?_
    refine A5 ⟨nofun, _, kS [2,8,10,11,12,34,35] [2,8,6,10] rfl, ?_⟩
    refine A4 <| A4 <| A0 <| A6 rfl rfl <| O1 rfl ?_
    refine A5 ⟨nofun, _, kS [2,8,10,11,34,35,44] [2,8,6,10] rfl, ?_⟩
    refine A8 rfl (fun hc => ?_) (fun hc => absurd hc (by decide))
    refine A4 <| A0 <| L2 (fs := [_, _, _]) rfl rfl rfl rfl rfl <| B4 rfl rfl rfl rfl ⟨by decide, rfl, of_decide_eq_true rfl, of_decide_eq_true rfl, rfl⟩ rfl (by exact B1 rfl) ?_
    (refine B9 rfl rfl (fun _ => rfl) ?_; intro g3)
    refine A3 rfl rfl rfl ?_
    refine A5 ⟨nofun, _, kS [2,3,4] [2,3] rfl, ?_⟩
    refine B0 <| D4 (G6 rfl rfl rfl rfl (G7 rfl (H0 rfl (H0 rfl J0))) (G2 rfl rfl (by simp) (by rfl) (D7 rfl rfl (E8 C5)))) ?_
    rw [w4 hnn hn, hr1]
    rfl
   skip
   apply D5 rfl
   ·apply B6
    ·exact B3 rfl
    exact C9
   ·exact (by have hi := ih ws1 ⟨by simp only [List.length_cons] at hws; omega, fun x hx => hws.2 x (List.mem_cons_of_mem _ hx)⟩ (by simp only [List.length_cons] at hkk; omega); rw [hr1] at hi; exact hi)
   ·exact ⟨rfl, rfl, rfl, of_decide_eq_true rfl, rfl⟩
   ·exact .inl rfl
   ·exact B7
   ·exact K1 rfl
   ·exact fun _ => rfl
   intro g39
   refine A6 rfl rfl <| A9 rfl rfl rfl <| A9 rfl rfl rfl <| A9 rfl rfl rfl <| F7 rfl (fun _ => B1 rfl) (fun _ => rfl) ?_
   intro g10
   refine B4 rfl rfl rfl rfl ⟨by decide, rfl, of_decide_eq_true rfl, of_decide_eq_true rfl, rfl⟩ rfl (by exact B1 rfl) <| A3 rfl rfl rfl <| A3 rfl rfl rfl ?_
   refine A5 ⟨nofun, _, kS [2,8,10,11,12,34,35] [2,8,6,10] rfl, ?_⟩
   refine A4 <| A4 <| A0 <| A6 rfl rfl <| O1 rfl ?_
   refine A5 ⟨nofun, _, kS [2,8,10,11,34,35,44] [2,8,6,10] rfl, ?_⟩
   refine A8 rfl (fun hc => absurd hc (by decide)) (fun hc => ?_)
   refine B2 <| A4 <| A0 <| E9 rfl rfl (by decide) rfl rfl <| F8 rfl rfl rfl rfl rfl rfl <| E5 rfl rfl rfl rfl rfl <| G5 (es := List.map trV [_]) rfl rfl (by decide) rfl rfl (fun _ => C1 (B8 fun _ => rfl)) (fun _ => rfl) ?_
   intro g49
   refine V4 rfl rfl rfl (by simp) (by decide) rfl rfl rfl (by decide) (fun _ => ⟨rfl, rfl⟩) (by simp only [J2]; (simp only [List.length_nil, List.length_cons, List.length_append, Nat.zero_add, List.length_map]; omega)) (fun _ => rfl) ?_
   intro g50
   refine E9 rfl rfl (by decide) rfl rfl <| P4 rfl rfl rfl rfl rfl (Nat.le_refl _) rfl ?_
   refine A5 ⟨nofun, _, kS [2,8,11,34,35] [2,8,6,1000050] rfl, ?_⟩
   refine A0 <| A6 rfl rfl <| A3 rfl rfl rfl ?_
   refine A5 ⟨nofun, _, kS [2,8,9,34,35] [2,8,6,1000050] rfl, ?_⟩
   refine A0 <| I6 rfl rfl (H2 (by omega)) <| A6 rfl rfl ?_
   refine A5 ⟨nofun, _, kS [2,8,9,34,35] [2,8,6,1000050] rfl, ?_⟩
   refine K8 <| A4 <| A0 <| K4 rfl rfl ?_
   refine A5 ⟨nofun, _, kS [2,8,9,34,35,36] [2,8,6,1000050] rfl, ?_⟩
   refine A4 ?_
   refine A8 rfl (fun hc => ?_) (fun hc => absurd hc (by decide))
   refine B2 <| A4 <| C8 <| A4 <| A0 <| A6 rfl rfl ?_
   rcases hr2 : rdT r1 with _ | ⟨k2, r2⟩
   ·skip
    apply D5 rfl
    ·apply B6
     ·exact B3 rfl
     exact C9
    ·exact (by have hi := ih r1 ⟨by have := W1 hr1; simp only [List.length_cons] at hws; omega, fun x hx => hws.2 x (List.mem_cons_of_mem _ (a4m hr1 x hx))⟩ (by have := W1 hr1; simp only [List.length_cons] at hkk; omega); rw [hr2] at hi; exact hi)
    ·exact ⟨rfl, rfl, rfl, of_decide_eq_true rfl, rfl⟩
    ·exact .inl rfl
    ·exact B7
    ·exact I5 (I3 rfl (Q3 fun _ => I3 rfl Q4))
    ·exact fun _ => D8 (C1 rfl) (by rfl)
    intro g39
    refine A6 rfl rfl <| A9 rfl rfl rfl <| A9 rfl rfl rfl <| A9 rfl rfl rfl <| F7 rfl (fun _ => B1 rfl) (fun _ => rfl) ?_
    intro g10
    refine B4 rfl rfl rfl rfl ⟨by decide, rfl, of_decide_eq_true rfl, of_decide_eq_true rfl, rfl⟩ rfl (by exact B1 rfl) ?_
    (refine C4 rfl rfl (by (simp; done)) rfl (fun _ => (C1 (by rfl))) (fun _ => rfl) ?_; intro g11)
    refine A3 rfl rfl rfl ?_
    refine A5 ⟨nofun, _, kS [2,8,10,11,12,34,35] [2,8,6,1000050,10] rfl, ?_⟩
    refine A4 <| A4 <| A0 <| A6 rfl rfl <| O1 rfl ?_
    refine A5 ⟨nofun, _, kS [2,8,10,11,34,35,44] [2,8,6,1000050,10] rfl, ?_⟩
    refine A8 rfl (fun hc => ?_) (fun hc => absurd hc (by decide))
    refine A4 <| A0 <| L2 (fs := [_, _, _]) rfl rfl rfl rfl rfl <| B4 rfl rfl rfl rfl ⟨by decide, rfl, of_decide_eq_true rfl, of_decide_eq_true rfl, rfl⟩ rfl (by exact B1 rfl) ?_
    (refine B9 rfl rfl (fun _ => rfl) ?_; intro g3)
    refine A3 rfl rfl rfl ?_
    refine A5 ⟨nofun, _, kS [2,3,4] [2,3] rfl, ?_⟩
    refine B0 <| D4 (G6 rfl rfl rfl rfl (G7 rfl (H0 rfl (H0 rfl J0))) (G2 rfl rfl (by simp) (by rfl) (D7 rfl rfl (E8 C5)))) ?_
    rw [w4 hnn hn, hr1, Option.bind_some, hr2]
    rfl
   skip
   apply D5 rfl
   ·apply B6
    ·exact B3 rfl
    exact C9
   ·exact (by have hi := ih r1 ⟨by have := W1 hr1; simp only [List.length_cons] at hws; omega, fun x hx => hws.2 x (List.mem_cons_of_mem _ (a4m hr1 x hx))⟩ (by have := W1 hr1; simp only [List.length_cons] at hkk; omega); rw [hr2] at hi; exact hi)
   ·exact ⟨rfl, rfl, rfl, of_decide_eq_true rfl, rfl⟩
   ·exact .inl rfl
   ·exact B7
   ·exact K1 rfl
   ·exact fun _ => rfl
   intro g39
   refine A6 rfl rfl <| A9 rfl rfl rfl <| A9 rfl rfl rfl <| A9 rfl rfl rfl <| F7 rfl (fun _ => B1 rfl) (fun _ => rfl) ?_
   intro g10
   refine B4 rfl rfl rfl rfl ⟨by decide, rfl, of_decide_eq_true rfl, of_decide_eq_true rfl, rfl⟩ rfl (by exact B1 rfl) <| A3 rfl rfl rfl <| A3 rfl rfl rfl ?_
   refine A5 ⟨nofun, _, kS [2,8,10,11,12,34,35] [2,8,6,1000050,10] rfl, ?_⟩
   refine A4 <| A4 <| A0 <| A6 rfl rfl <| O1 rfl ?_
   refine A5 ⟨nofun, _, kS [2,8,10,11,34,35,44] [2,8,6,1000050,10] rfl, ?_⟩
   refine A8 rfl (fun hc => absurd hc (by decide)) (fun hc => ?_)
   refine B2 <| A4 <| A0 <| E9 rfl rfl (by decide) rfl rfl <| F8 rfl rfl rfl rfl rfl rfl <| E5 rfl rfl rfl rfl rfl <| G5 (es := List.map trV [_]) rfl rfl (by decide) rfl rfl (fun _ => C1 (B8 fun _ => rfl)) (fun _ => rfl) ?_
   intro g49
   refine K3 rfl rfl rfl rfl (by (simp; done)) (by simp) (by decide) rfl rfl rfl rfl (by decide) (fun _ => ⟨rfl, rfl⟩) (by simp only [J2]; (simp only [List.length_nil, List.length_cons, List.length_append, Nat.zero_add, List.length_map]; omega)) (fun _ => rfl) ?_
   intro g50
   refine E9 rfl rfl (by decide) rfl rfl <| P4 rfl rfl rfl rfl rfl (Nat.le_refl _) rfl ?_
   refine A5 ⟨nofun, _, kS [2,8,11,34,35] [2,8,6,1000050] rfl, ?_⟩
   refine A0 <| A6 rfl rfl <| A3 rfl rfl rfl ?_
   refine A5 ⟨nofun, _, kS [2,8,9,34,35] [2,8,6,1000050] rfl, ?_⟩
   refine A0 <| I6 rfl rfl (H2 (by omega)) <| A6 rfl rfl ?_
   refine A5 ⟨nofun, _, kS [2,8,9,34,35] [2,8,6,1000050] rfl, ?_⟩
   refine K8 <| A4 <| A0 <| K4 rfl rfl ?_
   refine A5 ⟨nofun, _, kS [2,8,9,34,35,36] [2,8,6,1000050] rfl, ?_⟩
   refine A4 ?_
   refine A8 rfl (fun hc => absurd hc (by decide)) (fun hc => ?_)
   refine H7 <| A4 <| A0 <| E5 rfl rfl rfl rfl rfl <| A6 rfl rfl <| J7 rfl rfl rfl rfl (M4 rfl (l4 (by decide) (a4l (by decide) (by decide) rfl (by simp) fun _ => Y6))) (fun _ => rfl) ⟨by decide, rfl, of_decide_eq_true rfl, Nat.le_refl _⟩ (fun _ => rfl) (fun _ => rfl) (fun _ => D8 (by rfl) (D8 (C1 (B8 fun _ => rfl)) (by rfl))) ?_
   intro z
   simp only [S0, List.cons_append, List.nil_append]
   refine A3 rfl rfl rfl <| A3 rfl rfl rfl ?_
   refine A5 ⟨nofun, _, kS [2,3,4] [2,6,300002] rfl, ?_⟩
   refine B0 <| D4 (G6 rfl rfl rfl rfl (G7 rfl (a9c rfl rfl rfl (m7 rfl rfl (by simp) (fun _ => rfl) J0))) (D7 rfl rfl (D7 rfl rfl (E8 C5)))) ?_
   rw [w4 hnn hn, hr1, Option.bind_some, hr2]
   rfl
  skip
  apply D5 rfl
  ·apply B6
   ·exact B3 rfl
   exact C9
  ·exact (show CW cxT 63 [tV w] = some (.tup [tV w, .own 1 [], bV false], []) from by have hi := Y3 w (by omega); rw [hnn] at hi; rw [show decide (0 ≤ rch (bA w)) = false from decide_eq_false (by omega)] at hi; exact hi)
  ·exact ⟨rfl, rfl, rfl, of_decide_eq_true rfl, rfl⟩
  ·exact .inr ⟨rfl, rfl⟩
  ·exact B7
  ·exact I5 (I3 rfl (Q3 fun _ => I3 rfl Q4))
  ·exact fun _ => D8 (C1 rfl) (by rfl)
  intro g21
  try simp only [List.length_map]
  refine A6 rfl rfl <| A9 rfl rfl rfl <| A9 rfl rfl rfl <| A9 rfl rfl rfl <| A3 rfl rfl rfl ?_
  (refine C4 rfl rfl (by (simp; done)) rfl (fun _ => (C1 (by rfl))) (fun _ => rfl) ?_; intro g6)
  refine A3 rfl rfl rfl ?_
  refine A5 ⟨nofun, _, kS [0,2,5,6,7] [2,6] rfl, ?_⟩
  refine A4 <| A4 <| A0 <| A6 rfl rfl <| O1 rfl ?_
  refine A5 ⟨nofun, _, kS [0,2,5,6,26] [2,6] rfl, ?_⟩
  refine A8 rfl (fun hc => ?_) (fun hc => absurd hc (by decide))
  refine A4 <| A0 <| L2 (fs := [_, _, _]) rfl rfl rfl rfl rfl <| B4 rfl rfl rfl rfl ⟨by decide, rfl, of_decide_eq_true rfl, of_decide_eq_true rfl, rfl⟩ rfl (by exact B1 rfl) ?_
  (refine B9 rfl rfl (fun _ => rfl) ?_; intro g3)
  refine A3 rfl rfl rfl ?_
  refine A5 ⟨nofun, _, kS [2,3,4] [2,3] rfl, ?_⟩
  refine B0 <| D4 (G6 rfl rfl rfl rfl (G7 rfl (H0 rfl (H0 rfl J0))) (G2 rfl rfl (by simp) (by rfl) (D7 rfl rfl (E8 C5)))) ?_
  rw [b7k hnn hn]
  rfl

theorem keep_s_readPlanI : H1 Tryd.f40 = [0, 2, 3, 4, 6, 7, 5, 12] := by kernel_rfl
set_option maxHeartbeats 20000000 in
theorem b2o (s : List UInt8) (hs : s.length ≤ 1048576) : CW cxT 40 [tV s] = some (.tup [trV (ipT s), bV (b5s s)], []) := by
 obtain ⟨ws, hws⟩ : ∃ ws, ws = splitB 32 s := ⟨_, rfl⟩
 have hwl := Q8 32 s
 have hwp := a7 32 s
 rw [← hws] at hwl hwp
 refine G3 rfl Tryd.func40 rfl ⟨by kernel_rfl, rfl, of_decide_eq_true rfl, of_decide_eq_true rfl, by decide⟩ keep_s_readPlanI <| A4 <| A0 <| F7 rfl (fun _ => B1 rfl) (fun _ => rfl) ?_
 intro g2
 refine A3 rfl rfl rfl ?_
 refine A5 ⟨nofun, _, kS [0,2] [2] rfl, ?_⟩
 refine A4 <| A0 <| A6 rfl rfl ?_
 apply D5 rfl
 ·apply B6
  ·exact B3 rfl
  apply B6
  ·exact B3 rfl
  exact C9
 ·exact b7o s 32 (by omega)
 ·exact ⟨rfl, rfl, rfl, of_decide_eq_true rfl, rfl⟩
 ·exact .inl rfl
 ·exact B7
 ·exact a1e
 ·exact fun _ => rfl
 intro g9
 rw [← hws]
 try simp only [List.length_map]
 (refine C4 rfl rfl (by (simp; done)) rfl (fun _ => (C1 (by exact B8 fun _ => rfl))) (fun _ => rfl) ?_; intro g4)
 refine A5 ⟨nofun, _, kS [2,4] [2,4] rfl, ?_⟩
 refine A4 <| A0 <| A6 rfl rfl ?_
 rcases hr : rdT ws with _ | ⟨t, r⟩
 ·skip
  apply D5 rfl
  ·apply B6
   ·exact Z6 rfl rfl (by (simp; done)) (fun _ => rfl)
   exact C9
  ·exact (by have hi := a3g ws ⟨by omega, fun w hw => by have := hwp w hw; omega⟩; rw [hr] at hi; exact hi)
  ·exact ⟨rfl, rfl, rfl, of_decide_eq_true rfl, rfl⟩
  ·exact .inl rfl
  ·exact B7
  ·exact I5 (I3 rfl (Q3 fun _ => I3 rfl Q4))
  ·exact fun _ => D8 (w8 (B8 fun _ => rfl) (by decide)) (by rfl)
  intro g12
  refine A6 rfl rfl <| A9 rfl rfl rfl <| A9 rfl rfl rfl <| A9 rfl rfl rfl <| F7 rfl (fun _ => B1 rfl) (fun _ => rfl) ?_
  intro g5
  refine B4 rfl rfl rfl rfl ⟨by decide, rfl, of_decide_eq_true rfl, of_decide_eq_true rfl, rfl⟩ rfl (by exact B1 rfl) ?_
  (refine C4 rfl rfl (by (simp; done)) rfl (fun _ => (C1 (by rfl))) (fun _ => rfl) ?_; intro g6)
  refine A3 rfl rfl rfl ?_
  refine A5 ⟨nofun, _, kS [2,4,5,6,7] [2,4,5] rfl, ?_⟩
  refine A4 <| A0 <| E5 rfl rfl rfl rfl rfl <| A6 rfl rfl <| A6 rfl rfl <| G9 rfl rfl rfl <| G9 rfl rfl rfl <| G9 rfl rfl rfl <| G8 rfl rfl rfl rfl <| A6 rfl rfl <| G9 rfl rfl rfl <| G9 rfl rfl rfl <| G9 rfl rfl rfl <| G8 rfl rfl rfl rfl <| B4 rfl rfl rfl rfl ⟨by decide, rfl, of_decide_eq_true rfl, of_decide_eq_true rfl, rfl⟩ rfl (by exact B1 rfl) <| A3 rfl rfl rfl ?_
  refine A5 ⟨nofun, _, kS [2,3] [2] rfl, ?_⟩
  refine B0 <| D4 (G6 rfl rfl rfl rfl (G7 rfl (G7 rfl (G7 rfl J0))) (D7 rfl rfl (E8 C5))) ?_
  obtain ⟨h1, h2⟩ := c3u hws hr
  rw [h1, h2]
  rfl
 skip
 apply D5 rfl
 ·apply B6
  ·exact Z6 rfl rfl (by (simp; done)) (fun _ => rfl)
  exact C9
 ·exact (by have hi := a3g ws ⟨by omega, fun w hw => by have := hwp w hw; omega⟩; rw [hr] at hi; exact hi)
 ·exact ⟨rfl, rfl, rfl, of_decide_eq_true rfl, rfl⟩
 ·exact .inl rfl
 ·exact B7
 ·exact K1 rfl
 ·exact fun _ => D8 (w8 (B8 fun _ => rfl) (by decide)) (by rfl)
 intro g12
 refine A6 rfl rfl <| A9 rfl rfl rfl <| A9 rfl rfl rfl <| A9 rfl rfl rfl <| F7 rfl (fun _ => B1 rfl) (fun _ => rfl) ?_
 intro g5
 refine B4 rfl rfl rfl rfl ⟨by decide, rfl, of_decide_eq_true rfl, of_decide_eq_true rfl, rfl⟩ rfl (by exact B1 rfl) <| A3 rfl rfl rfl <| A3 rfl rfl rfl ?_
 refine A5 ⟨nofun, _, kS [2,4,5,6,7] [2,4,5] rfl, ?_⟩
 refine A4 <| A0 <| E5 rfl rfl rfl rfl rfl <| A6 rfl rfl <| A6 rfl rfl <| R7 rfl rfl rfl <| A6 rfl rfl <| R7 rfl rfl rfl <| H6 rfl rfl <| R7 rfl rfl rfl <| a4r rfl rfl <| G1 rfl rfl rfl rfl <| A6 rfl rfl ?_
 refine E3 rfl rfl (fun hg0 => ?_) (fun hg0 => ?_)
 ·have hg := hg0; try simp only [SG] at hg
  refine A6 rfl rfl <| gT rfl rfl <| a0z rfl rfl <| gT rfl rfl <| a6v rfl rfl <| G1 rfl (by assumption) rfl rfl <| B4 rfl rfl rfl rfl ⟨by decide, rfl, of_decide_eq_true rfl, of_decide_eq_true rfl, rfl⟩ rfl (by exact B1 rfl) <| A3 rfl rfl rfl ?_
  refine A5 ⟨nofun, _, kS [2,3] [2] rfl, ?_⟩
  refine B0 <| D4 (G6 rfl rfl rfl rfl (G7 rfl (G7 rfl (G7 rfl J0))) (D7 rfl rfl (E8 C5))) ?_
  obtain ⟨h1, h2⟩ := b7q hws hr
  rw [h1, h2]
  simp_all
  try rfl
 have hg := hg0; try simp only [SG] at hg
 refine gF rfl rfl <| gF rfl rfl <| G8 rfl (by assumption) rfl rfl <| B4 rfl rfl rfl rfl ⟨by decide, rfl, of_decide_eq_true rfl, of_decide_eq_true rfl, rfl⟩ rfl (by exact B1 rfl) <| A3 rfl rfl rfl ?_
 refine A5 ⟨nofun, _, kS [2,3] [2] rfl, ?_⟩
 refine B0 <| D4 (G6 rfl rfl rfl rfl (G7 rfl (G7 rfl (G7 rfl J0))) (D7 rfl rfl (E8 C5))) ?_
 obtain ⟨h1, h2⟩ := b7q hws hr
 rw [h1, h2]
 simp_all
 try rfl

theorem keep_s_validPlan : H1 Tryd.f24 = [0, 2, 3, 5, 4, 8] := by kernel_rfl
set_option maxHeartbeats 20000000 in
theorem b3w (s : List UInt8) (hs : s.length ≤ 1048576) : CW cxT 24 [tV s] = some (.tup [trV (ipT s), bV (rdPlan s).isSome], []) := by
 have hip := c6d s
 refine G3 rfl Tryd.func24 rfl ⟨by kernel_rfl, rfl, of_decide_eq_true rfl, of_decide_eq_true rfl, by decide⟩ keep_s_validPlan <| A4 <| A0 <| F7 rfl (fun _ => B1 rfl) (fun _ => rfl) ?_
 intro g2
 refine A3 rfl rfl rfl ?_
 refine A5 ⟨nofun, _, kS [0,2] [2] rfl, ?_⟩
 refine A4 <| A0 <| A6 rfl rfl ?_
 apply D5 rfl
 ·apply B6
  ·exact B3 rfl
  exact C9
 ·exact b2o s hs
 ·exact ⟨rfl, rfl, rfl, of_decide_eq_true rfl, rfl⟩
 ·exact .inl rfl
 ·exact B7
 ·exact K1 rfl
 ·exact fun _ => rfl
 intro g8
 refine A6 rfl rfl <| A9 rfl rfl rfl <| A9 rfl rfl rfl <| F7 rfl (fun _ => B1 rfl) (fun _ => rfl) ?_
 intro g4
 refine B4 rfl rfl rfl rfl ⟨by decide, rfl, of_decide_eq_true rfl, of_decide_eq_true rfl, rfl⟩ rfl (by exact B1 rfl) <| A3 rfl rfl rfl ?_
 refine A5 ⟨nofun, _, kS [0,2,4,5] [2,4] rfl, ?_⟩
 refine A4 <| A0 <| E5 rfl rfl rfl rfl rfl <| A6 rfl rfl <| A6 rfl rfl ?_
 refine E3 rfl rfl (fun hg0 => ?_) (fun hg0 => ?_)
 ·have hg := hg0; try simp only [SG] at hg
  refine A6 rfl rfl <| gT rfl rfl <| o5 rfl rfl <| gT rfl rfl <| a6v rfl rfl <| G1 rfl (by assumption) rfl rfl <| B4 rfl rfl rfl rfl ⟨by decide, rfl, of_decide_eq_true rfl, of_decide_eq_true rfl, rfl⟩ rfl (by exact B1 rfl) <| A3 rfl rfl rfl ?_
  refine A5 ⟨nofun, _, kS [2,3] [2] rfl, ?_⟩
  refine B0 <| D4 (G6 rfl rfl rfl rfl (G7 rfl (G7 rfl (G7 rfl J0))) (D7 rfl rfl (E8 C5))) ?_
  rw [← hip]
  simp_all
  try rfl
 have hg := hg0; try simp only [SG] at hg
 refine gF rfl rfl <| gF rfl rfl <| G8 rfl (by assumption) rfl rfl <| B4 rfl rfl rfl rfl ⟨by decide, rfl, of_decide_eq_true rfl, of_decide_eq_true rfl, rfl⟩ rfl (by exact B1 rfl) <| A3 rfl rfl rfl ?_
 refine A5 ⟨nofun, _, kS [2,3] [2] rfl, ?_⟩
 refine B0 <| D4 (G6 rfl rfl rfl rfl (G7 rfl (G7 rfl (G7 rfl J0))) (D7 rfl rfl (E8 C5))) ?_
 rw [← hip]
 simp_all
 try rfl

theorem keep_s_priceOf : H1 Tryd.f41 = [0, 2, 3, 4, 7] := by kernel_rfl
set_option maxHeartbeats 20000000 in
theorem b8d (w : ByteArray) : CW cxT 41 [sV w] = some (iV (pr w), []) := by
 refine G3 rfl Tryd.func41 rfl ⟨by kernel_rfl, rfl, of_decide_eq_true rfl, of_decide_eq_true rfl, by decide⟩ keep_s_priceOf <| A4 <| A0 <| A3 rfl rfl rfl ?_
 refine A5 ⟨nofun, _, kS [0] [] rfl, ?_⟩
 refine A4 <| A4 <| A0 <| A6 rfl rfl ?_
 refine A5 ⟨nofun, _, kS [3] [] rfl, ?_⟩
 refine C8 <| A4 <| A4 <| A0 <| I8 rfl rfl <| A3 rfl rfl rfl ?_
 refine A5 ⟨nofun, _, kS [3,4] [] rfl, ?_⟩
 refine A8 rfl (fun hc => ?_) (fun hc => ?_)
 ·try simp only [SG, List.length_map] at hc
  refine B2 ?_
  refine A8 rfl (fun hc => ?_) (fun hc => absurd hc (by simp_all))
  refine A4 <| A0 <| A3 rfl rfl rfl ?_
  refine A5 ⟨nofun, _, kS [2] [] rfl, ?_⟩
  refine B0 <| C0 rfl rfl trivial <| congrArg iV ?_
  simp_all [pr]
 try simp only [SG, List.length_map] at hc
 refine A0 <| I8 rfl rfl <| A3 rfl rfl rfl ?_
 refine A5 ⟨nofun, _, kS [3,4] [] rfl, ?_⟩
 refine A8 rfl (fun hc => ?_) (fun hc => ?_)
 ·try simp only [SG, List.length_map] at hc
  refine A4 <| A0 <| A3 rfl rfl rfl ?_
  refine A5 ⟨nofun, _, kS [2] [] rfl, ?_⟩
  refine B0 <| C0 rfl rfl trivial <| congrArg iV ?_
  simp_all [pr]
 try simp only [SG, List.length_map] at hc
 refine A4 <| A4 <| A0 <| I8 rfl rfl <| A3 rfl rfl rfl ?_
 refine A5 ⟨nofun, _, kS [3,7] [] rfl, ?_⟩
 refine A8 rfl (fun hc => ?_) (fun hc => ?_)
 ·try simp only [SG, List.length_map] at hc
  refine B2 ?_
  refine A8 rfl (fun hc => ?_) (fun hc => absurd hc (by simp_all))
  refine A4 <| A0 <| A3 rfl rfl rfl ?_
  refine A5 ⟨nofun, _, kS [2] [] rfl, ?_⟩
  refine B0 <| C0 rfl rfl trivial <| congrArg iV ?_
  simp_all [pr]
 try simp only [SG, List.length_map] at hc
 refine A4 <| A0 <| I8 rfl rfl <| A3 rfl rfl rfl ?_
 refine A5 ⟨nofun, _, kS [3,7] [] rfl, ?_⟩
 refine A8 rfl (fun hc => ?_) (fun hc => ?_)
 ·try simp only [SG, List.length_map] at hc
  refine B2 ?_
  refine A8 rfl (fun hc => ?_) (fun hc => absurd hc (by simp_all))
  refine A4 <| A0 <| A3 rfl rfl rfl ?_
  refine A5 ⟨nofun, _, kS [2] [] rfl, ?_⟩
  refine B0 <| C0 rfl rfl trivial <| congrArg iV ?_
  simp_all [pr]
 try simp only [SG, List.length_map] at hc
 refine A4 <| A0 <| I8 rfl rfl <| A3 rfl rfl rfl ?_
 refine A5 ⟨nofun, _, kS [3,7] [] rfl, ?_⟩
 refine A8 rfl (fun hc => ?_) (fun hc => ?_)
 ·try simp only [SG, List.length_map] at hc
  refine B2 ?_
  refine A8 rfl (fun hc => ?_) (fun hc => absurd hc (by simp_all))
  refine A4 <| A0 <| A3 rfl rfl rfl ?_
  refine A5 ⟨nofun, _, kS [2] [] rfl, ?_⟩
  refine B0 <| C0 rfl rfl trivial <| congrArg iV ?_
  simp_all [pr]
 try simp only [SG, List.length_map] at hc
 refine A4 <| A0 <| I8 rfl rfl <| A3 rfl rfl rfl ?_
 refine A5 ⟨nofun, _, kS [3,7] [] rfl, ?_⟩
 refine A8 rfl (fun hc => ?_) (fun hc => ?_)
 ·try simp only [SG, List.length_map] at hc
  refine B2 ?_
  refine A8 rfl (fun hc => ?_) (fun hc => absurd hc (by simp_all))
  refine A4 <| A0 <| A3 rfl rfl rfl ?_
  refine A5 ⟨nofun, _, kS [2] [] rfl, ?_⟩
  refine B0 <| C0 rfl rfl trivial <| congrArg iV ?_
  simp_all [pr]
 try simp only [SG, List.length_map] at hc
 refine A0 <| I8 rfl rfl <| A3 rfl rfl rfl ?_
 refine A5 ⟨nofun, _, kS [7] [] rfl, ?_⟩
 refine A8 rfl (fun hc => ?_) (fun hc => ?_)
 ·try simp only [SG, List.length_map] at hc
  refine A4 <| A0 <| A3 rfl rfl rfl ?_
  refine A5 ⟨nofun, _, kS [2] [] rfl, ?_⟩
  refine B0 <| C0 rfl rfl trivial <| congrArg iV ?_
  simp_all [pr]
 try simp only [SG, List.length_map] at hc
 refine B2 <| A4 <| A0 <| A3 rfl rfl rfl ?_
 refine A5 ⟨nofun, _, kS [2] [] rfl, ?_⟩
 refine B0 <| C0 rfl rfl trivial <| congrArg iV ?_
 simp_all [pr]

theorem keep_s_costS : H1 Tryd.f25 = [0, 2, 1, 4, 12, 3] := by kernel_rfl
set_option maxHeartbeats 20000000 in
theorem c3k (t : Pl) (ht : t.sz ≤ 1000) : CW cxT 25 [trK t] = some (iV (S6 t), []) := by
 obtain ⟨kk, hkk⟩ : ∃ kk : Nat, t.sz < kk := ⟨_, Nat.lt_succ_self _⟩
 revert t
 induction kk with
 | zero => intro t ht hkk; exact absurd hkk (Nat.not_lt_zero _)
 | succ kk ih =>
  intro t ht hkk
  have hkl := b2d t
  have hpb := Q5 t
  have hprb := a6o (bA t.op)
  have hkb := fun i => Q5 (t.kids.getD i default)
  have hkz := fun i => Y9 (t := t) (i := i)
  refine G3 rfl Tryd.func25 rfl ⟨by kernel_rfl, rfl, of_decide_eq_true rfl, of_decide_eq_true rfl, by decide⟩ keep_s_costS <| A4 <| A0 <| b7a rfl rfl rfl (fun _ => B1 rfl) (fun _ => rfl) ?_
  intro g1
  refine A3 rfl rfl rfl ?_
  refine A5 ⟨nofun, _, kS [1] [1] rfl, ?_⟩
  refine A4 <| A0 <| E9 rfl rfl (by decide) rfl rfl <| F8 rfl rfl rfl rfl rfl rfl ?_
  apply D5 rfl
  ·apply B6
   ·exact B3 rfl
   exact C9
  ·exact b8d (bA t.op)
  ·exact ⟨rfl, rfl, rfl, of_decide_eq_true rfl, rfl⟩
  ·exact .inl rfl
  ·exact B7
  ·exact C7 rfl
  ·exact fun _ => rfl
  intro g7
  refine A3 rfl rfl rfl ?_
  refine A5 ⟨nofun, _, kS [1,3] [1] rfl, ?_⟩
  refine A4 <| A4 <| A0 <| A3 rfl rfl rfl ?_
  refine A5 ⟨nofun, _, kS [1,3,4] [1] rfl, ?_⟩
  refine C8 <| I7 (β := Nat × Int) [(.t 1, _), (.h 1, _)] (fun (z : Nat × Int) => match z with | (i, a) => [(.t 4, iV i), (.t 3, iV a)]) (fun (z : Nat × Int) => match z with | (i, a) => i ≤ t.kids.length ∧ a = M6 t i) (fun (z : Nat × Int) => match z with | (i, a) => t.kids.length - i) (0, _) ⟨rfl, rfl, rfl, rfl, trivial⟩ ⟨Nat.zero_le _, rfl⟩ ?_
  intro z hb
  obtain ⟨i, a⟩ := z
  try dsimp only at hb
  obtain ⟨hi1, ha⟩ := hb
  have hnb := S3 hi1
  rw [← ha] at hnb
  refine A4 <| A4 <| A0 <| A6 rfl rfl <| E9 rfl rfl (by decide) rfl rfl <| F8 rfl rfl rfl rfl rfl rfl <| H6 rfl rfl <| K4 rfl rfl ?_
  refine A5 ⟨nofun, _, kS [1,3,4,12] [1] rfl, ?_⟩
  refine A8 rfl (fun hc => ?_) (fun hc => ?_)
  ·try simp only [SG, List.length_map] at hc
   refine B2 <| A4 <| C8 <| A0 <| A6 rfl rfl <| E9 rfl rfl (by decide) rfl rfl <| F8 rfl rfl rfl rfl rfl rfl <| A6 rfl rfl <| F9 rfl rfl rfl (fun _ => rfl) (by omega) <| G4 rfl rfl rfl ?_
   have h1 := hkb i
   have h2 := hkz i (by omega)
   apply D5 rfl
   ·apply B6
    ·exact B3 rfl
    exact C9
   ·exact (by have hk2 := Y9 (t := t) (i := i) (by omega); have hi := ih (t.kids.getD i default) (by omega) (by omega); rw [← s8] at hi; exact hi)
   ·exact ⟨rfl, rfl, rfl, of_decide_eq_true rfl, rfl⟩
   ·exact .inl rfl
   ·exact B7
   ·exact C7 rfl
   ·exact fun _ => rfl
   intro g21
   refine I6 rfl rfl (H2 (by omega)) <| A3 rfl rfl rfl ?_
   refine A5 ⟨nofun, _, kS [1,3,4] [1] rfl, ?_⟩
   refine A0 <| A6 rfl rfl <| I6 rfl rfl (H2 (by omega)) <| A3 rfl rfl rfl ?_
   refine A5 ⟨nofun, _, kS [1,3,4] [1] rfl, ?_⟩
   refine ⟨(i + 1, _), ⟨by omega, by rw [M6, ← ha]⟩, (by simp only; omega), ⟨rfl, rfl, rfl, rfl, trivial⟩⟩
  try simp only [SG, List.length_map] at hc
  refine H7 <| A4 <| A0 <| A6 rfl rfl <| A3 rfl rfl rfl ?_
  refine A5 ⟨nofun, _, kS [2] [] rfl, ?_⟩
  refine B0 <| C0 rfl rfl trivial ?_
  rw [ha, show i = t.kids.length by omega, P1]

theorem keep_s_costI : H1 Tryd.f26 = [0, 2, 1, 7, 8, 11, 20, 19, 21, 18, 5, 3] := by kernel_rfl
set_option maxHeartbeats 20000000 in
theorem c4a (t : Pl) (ht : t.sz ≤ 1000) : CW cxT 26 [trK t] = some (iV (S6 t), []) := by
 obtain ⟨kk, hkk⟩ : ∃ kk : Nat, t.sz < kk := ⟨_, Nat.lt_succ_self _⟩
 revert t
 induction kk with
 | zero => intro t ht hkk; exact absurd hkk (Nat.not_lt_zero _)
 | succ kk ih =>
  intro t ht hkk
  have hkl := b2d t
  have hpb := Q5 t
  have hprb := a6o (bA t.op)
  have hkb := fun i => Q5 (t.kids.getD i default)
  have hkz := fun i => Y9 (t := t) (i := i)
  refine G3 rfl Tryd.func26 rfl ⟨by kernel_rfl, rfl, of_decide_eq_true rfl, of_decide_eq_true rfl, by decide⟩ keep_s_costI <| A4 <| A0 <| b7a rfl rfl rfl (fun _ => B1 rfl) (fun _ => rfl) ?_
  intro g1
  refine A3 rfl rfl rfl ?_
  refine A5 ⟨nofun, _, kS [1] [1] rfl, ?_⟩
  refine A4 <| A0 <| A3 rfl rfl rfl ?_
  refine A5 ⟨nofun, _, kS [1,3] [1] rfl, ?_⟩
  refine A4 <| A4 <| A0 <| E9 rfl rfl (by decide) rfl rfl <| F8 rfl rfl rfl rfl rfl rfl ?_
  refine A5 ⟨nofun, _, kS [1,3,7] [1] rfl, ?_⟩
  refine C8 <| A4 <| A4 <| A0 <| n4 rfl rfl <| A3 rfl rfl rfl ?_
  refine A5 ⟨nofun, _, kS [1,3,7,8] [1] rfl, ?_⟩
  refine A8 rfl (fun hc => ?_) (fun hc => ?_)
  ·try simp only [SG, List.length_map] at hc
   refine B2 ?_
   refine A8 rfl (fun hc => ?_) (fun hc => absurd hc (by simp_all))
   refine A0 <| A3 rfl rfl rfl ?_
   refine A5 ⟨nofun, _, kS [1,3] [1] rfl, ?_⟩
   refine A4 <| A4 <| A0 <| E9 rfl rfl (by decide) rfl rfl <| F8 rfl rfl rfl rfl rfl rfl <| H6 rfl rfl <| A6 rfl rfl ?_
   refine A5 ⟨nofun, _, kS [3,18,19,20] [] rfl, ?_⟩
   refine C8 <| I7 (β := Nat × Int) [(.t 18, _), (.t 19, _)] (fun (z : Nat × Int) => match z with | (i, a) => [(.t 20, iV i), (.t 3, iV a)]) (fun (z : Nat × Int) => match z with | (i, a) => i ≤ t.kids.length ∧ a = M6 t i) (fun (z : Nat × Int) => match z with | (i, a) => t.kids.length - i) (0, _) ⟨rfl, rfl, rfl, rfl, trivial⟩ ⟨Nat.zero_le _, by show _ = pr (bA t.op); simp_all [pr]⟩ ?_
   intro z hb
   obtain ⟨i, a⟩ := z
   try dsimp only at hb
   obtain ⟨hi1, ha⟩ := hb
   have hnb := S3 hi1
   rw [← ha] at hnb
   refine A4 <| A0 <| K4 rfl rfl ?_
   refine A5 ⟨nofun, _, kS [3,18,19,20,21] [] rfl, ?_⟩
   refine A4 ?_
   refine A8 rfl (fun hc => ?_) (fun hc => ?_)
   ·try simp only [SG, List.length_map] at hc
    refine B2 <| A4 <| C8 <| A4 <| A0 <| F9 rfl rfl rfl (fun _ => rfl) (by omega) <| G4 rfl rfl rfl <| F7 rfl (fun _ => B1 rfl) (fun _ => rfl) ?_
    intro g5
    refine B4 rfl rfl rfl rfl ⟨by decide, rfl, of_decide_eq_true rfl, of_decide_eq_true rfl, rfl⟩ rfl (by exact B1 rfl) ?_
    refine A5 ⟨nofun, _, kS [3,5,18,19,20] [5] rfl, ?_⟩
    refine A0 <| A6 rfl rfl <| E5 rfl rfl rfl rfl rfl ?_
    have h1 := hkb i
    have h2 := hkz i (by omega)
    apply D5 rfl
    ·apply B6
     ·exact B3 rfl
     exact C9
    ·exact (by have hk2 := Y9 (t := t) (i := i) (by omega); have hi := ih (t.kids.getD i default) (by omega) (by omega); rw [← s8] at hi; exact hi)
    ·exact ⟨rfl, rfl, rfl, of_decide_eq_true rfl, rfl⟩
    ·exact .inl rfl
    ·exact B7
    ·exact C7 rfl
    ·exact fun _ => rfl
    intro g26
    refine I6 rfl rfl (H2 (by omega)) <| A3 rfl rfl rfl ?_
    refine A5 ⟨nofun, _, kS [3,18,19,20] [] rfl, ?_⟩
    refine A0 <| I6 rfl rfl (H2 (by omega)) <| A6 rfl rfl ?_
    refine A5 ⟨nofun, _, kS [3,18,19,20] [] rfl, ?_⟩
    refine ⟨(i + 1, _), ⟨by omega, by rw [M6, ← ha]⟩, (by simp only; omega), ⟨rfl, rfl, rfl, rfl, trivial⟩⟩
   try simp only [SG, List.length_map] at hc
   refine H7 <| A4 <| A0 <| A6 rfl rfl <| A3 rfl rfl rfl ?_
   refine A5 ⟨nofun, _, kS [2] [] rfl, ?_⟩
   refine B0 <| C0 rfl rfl trivial ?_
   rw [ha, show i = t.kids.length by omega, P1]
  try simp only [SG, List.length_map] at hc
  refine A0 <| n4 rfl rfl <| A3 rfl rfl rfl ?_
  refine A5 ⟨nofun, _, kS [1,3,7,8] [1] rfl, ?_⟩
  refine A8 rfl (fun hc => ?_) (fun hc => ?_)
  ·try simp only [SG, List.length_map] at hc
   refine A0 <| A3 rfl rfl rfl ?_
   refine A5 ⟨nofun, _, kS [1,3] [1] rfl, ?_⟩
   refine A4 <| A4 <| A0 <| E9 rfl rfl (by decide) rfl rfl <| F8 rfl rfl rfl rfl rfl rfl <| H6 rfl rfl <| A6 rfl rfl ?_
   refine A5 ⟨nofun, _, kS [3,18,19,20] [] rfl, ?_⟩
   refine C8 <| I7 (β := Nat × Int) [(.t 18, _), (.t 19, _)] (fun (z : Nat × Int) => match z with | (i, a) => [(.t 20, iV i), (.t 3, iV a)]) (fun (z : Nat × Int) => match z with | (i, a) => i ≤ t.kids.length ∧ a = M6 t i) (fun (z : Nat × Int) => match z with | (i, a) => t.kids.length - i) (0, _) ⟨rfl, rfl, rfl, rfl, trivial⟩ ⟨Nat.zero_le _, by show _ = pr (bA t.op); simp_all [pr]⟩ ?_
   intro z hb
   obtain ⟨i, a⟩ := z
   try dsimp only at hb
   obtain ⟨hi1, ha⟩ := hb
   have hnb := S3 hi1
   rw [← ha] at hnb
   refine A4 <| A0 <| K4 rfl rfl ?_
   refine A5 ⟨nofun, _, kS [3,18,19,20,21] [] rfl, ?_⟩
   refine A4 ?_
   refine A8 rfl (fun hc => ?_) (fun hc => ?_)
   ·try simp only [SG, List.length_map] at hc
    refine B2 <| A4 <| C8 <| A4 <| A0 <| F9 rfl rfl rfl (fun _ => rfl) (by omega) <| G4 rfl rfl rfl <| F7 rfl (fun _ => B1 rfl) (fun _ => rfl) ?_
    intro g5
    refine B4 rfl rfl rfl rfl ⟨by decide, rfl, of_decide_eq_true rfl, of_decide_eq_true rfl, rfl⟩ rfl (by exact B1 rfl) ?_
    refine A5 ⟨nofun, _, kS [3,5,18,19,20] [5] rfl, ?_⟩
    refine A0 <| A6 rfl rfl <| E5 rfl rfl rfl rfl rfl ?_
    have h1 := hkb i
    have h2 := hkz i (by omega)
    apply D5 rfl
    ·apply B6
     ·exact B3 rfl
     exact C9
    ·exact (by have hk2 := Y9 (t := t) (i := i) (by omega); have hi := ih (t.kids.getD i default) (by omega) (by omega); rw [← s8] at hi; exact hi)
    ·exact ⟨rfl, rfl, rfl, of_decide_eq_true rfl, rfl⟩
    ·exact .inl rfl
    ·exact B7
    ·exact C7 rfl
    ·exact fun _ => rfl
    intro g26
    refine I6 rfl rfl (H2 (by omega)) <| A3 rfl rfl rfl ?_
    refine A5 ⟨nofun, _, kS [3,18,19,20] [] rfl, ?_⟩
    refine A0 <| I6 rfl rfl (H2 (by omega)) <| A6 rfl rfl ?_
    refine A5 ⟨nofun, _, kS [3,18,19,20] [] rfl, ?_⟩
    refine ⟨(i + 1, _), ⟨by omega, by rw [M6, ← ha]⟩, (by simp only; omega), ⟨rfl, rfl, rfl, rfl, trivial⟩⟩
   try simp only [SG, List.length_map] at hc
   refine H7 <| A4 <| A0 <| A6 rfl rfl <| A3 rfl rfl rfl ?_
   refine A5 ⟨nofun, _, kS [2] [] rfl, ?_⟩
   refine B0 <| C0 rfl rfl trivial ?_
   rw [ha, show i = t.kids.length by omega, P1]
  try simp only [SG, List.length_map] at hc
  refine A4 <| A4 <| A0 <| n4 rfl rfl <| A3 rfl rfl rfl ?_
  refine A5 ⟨nofun, _, kS [1,3,7,11] [1] rfl, ?_⟩
  refine A8 rfl (fun hc => ?_) (fun hc => ?_)
  ·try simp only [SG, List.length_map] at hc
   refine B2 ?_
   refine A8 rfl (fun hc => ?_) (fun hc => absurd hc (by simp_all))
   refine A0 <| A3 rfl rfl rfl ?_
   refine A5 ⟨nofun, _, kS [1,3] [1] rfl, ?_⟩
   refine A4 <| A4 <| A0 <| E9 rfl rfl (by decide) rfl rfl <| F8 rfl rfl rfl rfl rfl rfl <| H6 rfl rfl <| A6 rfl rfl ?_
   refine A5 ⟨nofun, _, kS [3,18,19,20] [] rfl, ?_⟩
   refine C8 <| I7 (β := Nat × Int) [(.t 18, _), (.t 19, _)] (fun (z : Nat × Int) => match z with | (i, a) => [(.t 20, iV i), (.t 3, iV a)]) (fun (z : Nat × Int) => match z with | (i, a) => i ≤ t.kids.length ∧ a = M6 t i) (fun (z : Nat × Int) => match z with | (i, a) => t.kids.length - i) (0, _) ⟨rfl, rfl, rfl, rfl, trivial⟩ ⟨Nat.zero_le _, by show _ = pr (bA t.op); simp_all [pr]⟩ ?_
   intro z hb
   obtain ⟨i, a⟩ := z
   try dsimp only at hb
   obtain ⟨hi1, ha⟩ := hb
   have hnb := S3 hi1
   rw [← ha] at hnb
   refine A4 <| A0 <| K4 rfl rfl ?_
   refine A5 ⟨nofun, _, kS [3,18,19,20,21] [] rfl, ?_⟩
   refine A4 ?_
   refine A8 rfl (fun hc => ?_) (fun hc => ?_)
   ·try simp only [SG, List.length_map] at hc
    refine B2 <| A4 <| C8 <| A4 <| A0 <| F9 rfl rfl rfl (fun _ => rfl) (by omega) <| G4 rfl rfl rfl <| F7 rfl (fun _ => B1 rfl) (fun _ => rfl) ?_
    intro g5
    refine B4 rfl rfl rfl rfl ⟨by decide, rfl, of_decide_eq_true rfl, of_decide_eq_true rfl, rfl⟩ rfl (by exact B1 rfl) ?_
    refine A5 ⟨nofun, _, kS [3,5,18,19,20] [5] rfl, ?_⟩
    refine A0 <| A6 rfl rfl <| E5 rfl rfl rfl rfl rfl ?_
    have h1 := hkb i
    have h2 := hkz i (by omega)
    apply D5 rfl
    ·apply B6
     ·exact B3 rfl
     exact C9
    ·exact (by have hk2 := Y9 (t := t) (i := i) (by omega); have hi := ih (t.kids.getD i default) (by omega) (by omega); rw [← s8] at hi; exact hi)
    ·exact ⟨rfl, rfl, rfl, of_decide_eq_true rfl, rfl⟩
    ·exact .inl rfl
    ·exact B7
    ·exact C7 rfl
    ·exact fun _ => rfl
    intro g26
    refine I6 rfl rfl (H2 (by omega)) <| A3 rfl rfl rfl ?_
    refine A5 ⟨nofun, _, kS [3,18,19,20] [] rfl, ?_⟩
    refine A0 <| I6 rfl rfl (H2 (by omega)) <| A6 rfl rfl ?_
    refine A5 ⟨nofun, _, kS [3,18,19,20] [] rfl, ?_⟩
    refine ⟨(i + 1, _), ⟨by omega, by rw [M6, ← ha]⟩, (by simp only; omega), ⟨rfl, rfl, rfl, rfl, trivial⟩⟩
   try simp only [SG, List.length_map] at hc
   refine H7 <| A4 <| A0 <| A6 rfl rfl <| A3 rfl rfl rfl ?_
   refine A5 ⟨nofun, _, kS [2] [] rfl, ?_⟩
   refine B0 <| C0 rfl rfl trivial ?_
   rw [ha, show i = t.kids.length by omega, P1]
  try simp only [SG, List.length_map] at hc
  refine A4 <| A0 <| n4 rfl rfl <| A3 rfl rfl rfl ?_
  refine A5 ⟨nofun, _, kS [1,3,7,11] [1] rfl, ?_⟩
  refine A8 rfl (fun hc => ?_) (fun hc => ?_)
  ·try simp only [SG, List.length_map] at hc
   refine B2 ?_
   refine A8 rfl (fun hc => ?_) (fun hc => absurd hc (by simp_all))
   refine A0 <| A3 rfl rfl rfl ?_
   refine A5 ⟨nofun, _, kS [1,3] [1] rfl, ?_⟩
   refine A4 <| A4 <| A0 <| E9 rfl rfl (by decide) rfl rfl <| F8 rfl rfl rfl rfl rfl rfl <| H6 rfl rfl <| A6 rfl rfl ?_
   refine A5 ⟨nofun, _, kS [3,18,19,20] [] rfl, ?_⟩
   refine C8 <| I7 (β := Nat × Int) [(.t 18, _), (.t 19, _)] (fun (z : Nat × Int) => match z with | (i, a) => [(.t 20, iV i), (.t 3, iV a)]) (fun (z : Nat × Int) => match z with | (i, a) => i ≤ t.kids.length ∧ a = M6 t i) (fun (z : Nat × Int) => match z with | (i, a) => t.kids.length - i) (0, _) ⟨rfl, rfl, rfl, rfl, trivial⟩ ⟨Nat.zero_le _, by show _ = pr (bA t.op); simp_all [pr]⟩ ?_
   intro z hb
   obtain ⟨i, a⟩ := z
   try dsimp only at hb
   obtain ⟨hi1, ha⟩ := hb
   have hnb := S3 hi1
   rw [← ha] at hnb
   refine A4 <| A0 <| K4 rfl rfl ?_
   refine A5 ⟨nofun, _, kS [3,18,19,20,21] [] rfl, ?_⟩
   refine A4 ?_
   refine A8 rfl (fun hc => ?_) (fun hc => ?_)
   ·try simp only [SG, List.length_map] at hc
    refine B2 <| A4 <| C8 <| A4 <| A0 <| F9 rfl rfl rfl (fun _ => rfl) (by omega) <| G4 rfl rfl rfl <| F7 rfl (fun _ => B1 rfl) (fun _ => rfl) ?_
    intro g5
    refine B4 rfl rfl rfl rfl ⟨by decide, rfl, of_decide_eq_true rfl, of_decide_eq_true rfl, rfl⟩ rfl (by exact B1 rfl) ?_
    refine A5 ⟨nofun, _, kS [3,5,18,19,20] [5] rfl, ?_⟩
    refine A0 <| A6 rfl rfl <| E5 rfl rfl rfl rfl rfl ?_
    have h1 := hkb i
    have h2 := hkz i (by omega)
    apply D5 rfl
    ·apply B6
     ·exact B3 rfl
     exact C9
    ·exact (by have hk2 := Y9 (t := t) (i := i) (by omega); have hi := ih (t.kids.getD i default) (by omega) (by omega); rw [← s8] at hi; exact hi)
    ·exact ⟨rfl, rfl, rfl, of_decide_eq_true rfl, rfl⟩
    ·exact .inl rfl
    ·exact B7
    ·exact C7 rfl
    ·exact fun _ => rfl
    intro g26
    refine I6 rfl rfl (H2 (by omega)) <| A3 rfl rfl rfl ?_
    refine A5 ⟨nofun, _, kS [3,18,19,20] [] rfl, ?_⟩
    refine A0 <| I6 rfl rfl (H2 (by omega)) <| A6 rfl rfl ?_
    refine A5 ⟨nofun, _, kS [3,18,19,20] [] rfl, ?_⟩
    refine ⟨(i + 1, _), ⟨by omega, by rw [M6, ← ha]⟩, (by simp only; omega), ⟨rfl, rfl, rfl, rfl, trivial⟩⟩
   try simp only [SG, List.length_map] at hc
   refine H7 <| A4 <| A0 <| A6 rfl rfl <| A3 rfl rfl rfl ?_
   refine A5 ⟨nofun, _, kS [2] [] rfl, ?_⟩
   refine B0 <| C0 rfl rfl trivial ?_
   rw [ha, show i = t.kids.length by omega, P1]
  try simp only [SG, List.length_map] at hc
  refine A4 <| A0 <| n4 rfl rfl <| A3 rfl rfl rfl ?_
  refine A5 ⟨nofun, _, kS [1,3,7,11] [1] rfl, ?_⟩
  refine A8 rfl (fun hc => ?_) (fun hc => ?_)
  ·try simp only [SG, List.length_map] at hc
   refine B2 ?_
   refine A8 rfl (fun hc => ?_) (fun hc => absurd hc (by simp_all))
   refine A0 <| A3 rfl rfl rfl ?_
   refine A5 ⟨nofun, _, kS [1,3] [1] rfl, ?_⟩
   refine A4 <| A4 <| A0 <| E9 rfl rfl (by decide) rfl rfl <| F8 rfl rfl rfl rfl rfl rfl <| H6 rfl rfl <| A6 rfl rfl ?_
   refine A5 ⟨nofun, _, kS [3,18,19,20] [] rfl, ?_⟩
   refine C8 <| I7 (β := Nat × Int) [(.t 18, _), (.t 19, _)] (fun (z : Nat × Int) => match z with | (i, a) => [(.t 20, iV i), (.t 3, iV a)]) (fun (z : Nat × Int) => match z with | (i, a) => i ≤ t.kids.length ∧ a = M6 t i) (fun (z : Nat × Int) => match z with | (i, a) => t.kids.length - i) (0, _) ⟨rfl, rfl, rfl, rfl, trivial⟩ ⟨Nat.zero_le _, by show _ = pr (bA t.op); simp_all [pr]⟩ ?_
   intro z hb
   obtain ⟨i, a⟩ := z
   try dsimp only at hb
   obtain ⟨hi1, ha⟩ := hb
   have hnb := S3 hi1
   rw [← ha] at hnb
   refine A4 <| A0 <| K4 rfl rfl ?_
   refine A5 ⟨nofun, _, kS [3,18,19,20,21] [] rfl, ?_⟩
   refine A4 ?_
   refine A8 rfl (fun hc => ?_) (fun hc => ?_)
   ·try simp only [SG, List.length_map] at hc
    refine B2 <| A4 <| C8 <| A4 <| A0 <| F9 rfl rfl rfl (fun _ => rfl) (by omega) <| G4 rfl rfl rfl <| F7 rfl (fun _ => B1 rfl) (fun _ => rfl) ?_
    intro g5
    refine B4 rfl rfl rfl rfl ⟨by decide, rfl, of_decide_eq_true rfl, of_decide_eq_true rfl, rfl⟩ rfl (by exact B1 rfl) ?_
    refine A5 ⟨nofun, _, kS [3,5,18,19,20] [5] rfl, ?_⟩
    refine A0 <| A6 rfl rfl <| E5 rfl rfl rfl rfl rfl ?_
    have h1 := hkb i
    have h2 := hkz i (by omega)
    apply D5 rfl
    ·apply B6
     ·exact B3 rfl
     exact C9
    ·exact (by have hk2 := Y9 (t := t) (i := i) (by omega); have hi := ih (t.kids.getD i default) (by omega) (by omega); rw [← s8] at hi; exact hi)
    ·exact ⟨rfl, rfl, rfl, of_decide_eq_true rfl, rfl⟩
    ·exact .inl rfl
    ·exact B7
    ·exact C7 rfl
    ·exact fun _ => rfl
    intro g26
    refine I6 rfl rfl (H2 (by omega)) <| A3 rfl rfl rfl ?_
    refine A5 ⟨nofun, _, kS [3,18,19,20] [] rfl, ?_⟩
    refine A0 <| I6 rfl rfl (H2 (by omega)) <| A6 rfl rfl ?_
    refine A5 ⟨nofun, _, kS [3,18,19,20] [] rfl, ?_⟩
    refine ⟨(i + 1, _), ⟨by omega, by rw [M6, ← ha]⟩, (by simp only; omega), ⟨rfl, rfl, rfl, rfl, trivial⟩⟩
   try simp only [SG, List.length_map] at hc
   refine H7 <| A4 <| A0 <| A6 rfl rfl <| A3 rfl rfl rfl ?_
   refine A5 ⟨nofun, _, kS [2] [] rfl, ?_⟩
   refine B0 <| C0 rfl rfl trivial ?_
   rw [ha, show i = t.kids.length by omega, P1]
  try simp only [SG, List.length_map] at hc
  refine A4 <| A0 <| n4 rfl rfl <| A3 rfl rfl rfl ?_
  refine A5 ⟨nofun, _, kS [1,3,7,11] [1] rfl, ?_⟩
  refine A8 rfl (fun hc => ?_) (fun hc => ?_)
  ·try simp only [SG, List.length_map] at hc
   refine B2 ?_
   refine A8 rfl (fun hc => ?_) (fun hc => absurd hc (by simp_all))
   refine A0 <| A3 rfl rfl rfl ?_
   refine A5 ⟨nofun, _, kS [1,3] [1] rfl, ?_⟩
   refine A4 <| A4 <| A0 <| E9 rfl rfl (by decide) rfl rfl <| F8 rfl rfl rfl rfl rfl rfl <| H6 rfl rfl <| A6 rfl rfl ?_
   refine A5 ⟨nofun, _, kS [3,18,19,20] [] rfl, ?_⟩
   refine C8 <| I7 (β := Nat × Int) [(.t 18, _), (.t 19, _)] (fun (z : Nat × Int) => match z with | (i, a) => [(.t 20, iV i), (.t 3, iV a)]) (fun (z : Nat × Int) => match z with | (i, a) => i ≤ t.kids.length ∧ a = M6 t i) (fun (z : Nat × Int) => match z with | (i, a) => t.kids.length - i) (0, _) ⟨rfl, rfl, rfl, rfl, trivial⟩ ⟨Nat.zero_le _, by show _ = pr (bA t.op); simp_all [pr]⟩ ?_
   intro z hb
   obtain ⟨i, a⟩ := z
   try dsimp only at hb
   obtain ⟨hi1, ha⟩ := hb
   have hnb := S3 hi1
   rw [← ha] at hnb
   refine A4 <| A0 <| K4 rfl rfl ?_
   refine A5 ⟨nofun, _, kS [3,18,19,20,21] [] rfl, ?_⟩
   refine A4 ?_
   refine A8 rfl (fun hc => ?_) (fun hc => ?_)
   ·try simp only [SG, List.length_map] at hc
    refine B2 <| A4 <| C8 <| A4 <| A0 <| F9 rfl rfl rfl (fun _ => rfl) (by omega) <| G4 rfl rfl rfl <| F7 rfl (fun _ => B1 rfl) (fun _ => rfl) ?_
    intro g5
    refine B4 rfl rfl rfl rfl ⟨by decide, rfl, of_decide_eq_true rfl, of_decide_eq_true rfl, rfl⟩ rfl (by exact B1 rfl) ?_
    refine A5 ⟨nofun, _, kS [3,5,18,19,20] [5] rfl, ?_⟩
    refine A0 <| A6 rfl rfl <| E5 rfl rfl rfl rfl rfl ?_
    have h1 := hkb i
    have h2 := hkz i (by omega)
    apply D5 rfl
    ·apply B6
     ·exact B3 rfl
     exact C9
    ·exact (by have hk2 := Y9 (t := t) (i := i) (by omega); have hi := ih (t.kids.getD i default) (by omega) (by omega); rw [← s8] at hi; exact hi)
    ·exact ⟨rfl, rfl, rfl, of_decide_eq_true rfl, rfl⟩
    ·exact .inl rfl
    ·exact B7
    ·exact C7 rfl
    ·exact fun _ => rfl
    intro g26
    refine I6 rfl rfl (H2 (by omega)) <| A3 rfl rfl rfl ?_
    refine A5 ⟨nofun, _, kS [3,18,19,20] [] rfl, ?_⟩
    refine A0 <| I6 rfl rfl (H2 (by omega)) <| A6 rfl rfl ?_
    refine A5 ⟨nofun, _, kS [3,18,19,20] [] rfl, ?_⟩
    refine ⟨(i + 1, _), ⟨by omega, by rw [M6, ← ha]⟩, (by simp only; omega), ⟨rfl, rfl, rfl, rfl, trivial⟩⟩
   try simp only [SG, List.length_map] at hc
   refine H7 <| A4 <| A0 <| A6 rfl rfl <| A3 rfl rfl rfl ?_
   refine A5 ⟨nofun, _, kS [2] [] rfl, ?_⟩
   refine B0 <| C0 rfl rfl trivial ?_
   rw [ha, show i = t.kids.length by omega, P1]
  try simp only [SG, List.length_map] at hc
  refine A0 <| n4 rfl rfl <| A3 rfl rfl rfl ?_
  refine A5 ⟨nofun, _, kS [1,3,11] [1] rfl, ?_⟩
  refine A8 rfl (fun hc => ?_) (fun hc => ?_)
  ·try simp only [SG, List.length_map] at hc
   refine A0 <| A3 rfl rfl rfl ?_
   refine A5 ⟨nofun, _, kS [1,3] [1] rfl, ?_⟩
   refine A4 <| A4 <| A0 <| E9 rfl rfl (by decide) rfl rfl <| F8 rfl rfl rfl rfl rfl rfl <| H6 rfl rfl <| A6 rfl rfl ?_
   refine A5 ⟨nofun, _, kS [3,18,19,20] [] rfl, ?_⟩
   refine C8 <| I7 (β := Nat × Int) [(.t 18, _), (.t 19, _)] (fun (z : Nat × Int) => match z with | (i, a) => [(.t 20, iV i), (.t 3, iV a)]) (fun (z : Nat × Int) => match z with | (i, a) => i ≤ t.kids.length ∧ a = M6 t i) (fun (z : Nat × Int) => match z with | (i, a) => t.kids.length - i) (0, _) ⟨rfl, rfl, rfl, rfl, trivial⟩ ⟨Nat.zero_le _, by show _ = pr (bA t.op); simp_all [pr]⟩ ?_
   intro z hb
   obtain ⟨i, a⟩ := z
   try dsimp only at hb
   obtain ⟨hi1, ha⟩ := hb
   have hnb := S3 hi1
   rw [← ha] at hnb
   refine A4 <| A0 <| K4 rfl rfl ?_
   refine A5 ⟨nofun, _, kS [3,18,19,20,21] [] rfl, ?_⟩
   refine A4 ?_
   refine A8 rfl (fun hc => ?_) (fun hc => ?_)
   ·try simp only [SG, List.length_map] at hc
    refine B2 <| A4 <| C8 <| A4 <| A0 <| F9 rfl rfl rfl (fun _ => rfl) (by omega) <| G4 rfl rfl rfl <| F7 rfl (fun _ => B1 rfl) (fun _ => rfl) ?_
    intro g5
    refine B4 rfl rfl rfl rfl ⟨by decide, rfl, of_decide_eq_true rfl, of_decide_eq_true rfl, rfl⟩ rfl (by exact B1 rfl) ?_
    refine A5 ⟨nofun, _, kS [3,5,18,19,20] [5] rfl, ?_⟩
    refine A0 <| A6 rfl rfl <| E5 rfl rfl rfl rfl rfl ?_
    have h1 := hkb i
    have h2 := hkz i (by omega)
    apply D5 rfl
    ·apply B6
     ·exact B3 rfl
     exact C9
    ·exact (by have hk2 := Y9 (t := t) (i := i) (by omega); have hi := ih (t.kids.getD i default) (by omega) (by omega); rw [← s8] at hi; exact hi)
    ·exact ⟨rfl, rfl, rfl, of_decide_eq_true rfl, rfl⟩
    ·exact .inl rfl
    ·exact B7
    ·exact C7 rfl
    ·exact fun _ => rfl
    intro g26
    refine I6 rfl rfl (H2 (by omega)) <| A3 rfl rfl rfl ?_
    refine A5 ⟨nofun, _, kS [3,18,19,20] [] rfl, ?_⟩
    refine A0 <| I6 rfl rfl (H2 (by omega)) <| A6 rfl rfl ?_
    refine A5 ⟨nofun, _, kS [3,18,19,20] [] rfl, ?_⟩
    refine ⟨(i + 1, _), ⟨by omega, by rw [M6, ← ha]⟩, (by simp only; omega), ⟨rfl, rfl, rfl, rfl, trivial⟩⟩
   try simp only [SG, List.length_map] at hc
   refine H7 <| A4 <| A0 <| A6 rfl rfl <| A3 rfl rfl rfl ?_
   refine A5 ⟨nofun, _, kS [2] [] rfl, ?_⟩
   refine B0 <| C0 rfl rfl trivial ?_
   rw [ha, show i = t.kids.length by omega, P1]
  try simp only [SG, List.length_map] at hc
  refine B2 <| A4 <| A4 <| A0 <| E9 rfl rfl (by decide) rfl rfl <| F8 rfl rfl rfl rfl rfl rfl <| H6 rfl rfl <| A6 rfl rfl ?_
  refine A5 ⟨nofun, _, kS [3,18,19,20] [] rfl, ?_⟩
  refine C8 <| I7 (β := Nat × Int) [(.t 18, _), (.t 19, _)] (fun (z : Nat × Int) => match z with | (i, a) => [(.t 20, iV i), (.t 3, iV a)]) (fun (z : Nat × Int) => match z with | (i, a) => i ≤ t.kids.length ∧ a = M6 t i) (fun (z : Nat × Int) => match z with | (i, a) => t.kids.length - i) (0, _) ⟨rfl, rfl, rfl, rfl, trivial⟩ ⟨Nat.zero_le _, by show _ = pr (bA t.op); simp_all [pr]⟩ ?_
  intro z hb
  obtain ⟨i, a⟩ := z
  try dsimp only at hb
  obtain ⟨hi1, ha⟩ := hb
  have hnb := S3 hi1
  rw [← ha] at hnb
  refine A4 <| A0 <| K4 rfl rfl ?_
  refine A5 ⟨nofun, _, kS [3,18,19,20,21] [] rfl, ?_⟩
  refine A4 ?_
  refine A8 rfl (fun hc => ?_) (fun hc => ?_)
  ·try simp only [SG, List.length_map] at hc
   refine B2 <| A4 <| C8 <| A4 <| A0 <| F9 rfl rfl rfl (fun _ => rfl) (by omega) <| G4 rfl rfl rfl <| F7 rfl (fun _ => B1 rfl) (fun _ => rfl) ?_
   intro g5
   refine B4 rfl rfl rfl rfl ⟨by decide, rfl, of_decide_eq_true rfl, of_decide_eq_true rfl, rfl⟩ rfl (by exact B1 rfl) ?_
   refine A5 ⟨nofun, _, kS [3,5,18,19,20] [5] rfl, ?_⟩
   refine A0 <| A6 rfl rfl <| E5 rfl rfl rfl rfl rfl ?_
   have h1 := hkb i
   have h2 := hkz i (by omega)
   apply D5 rfl
   ·apply B6
    ·exact B3 rfl
    exact C9
   ·exact (by have hk2 := Y9 (t := t) (i := i) (by omega); have hi := ih (t.kids.getD i default) (by omega) (by omega); rw [← s8] at hi; exact hi)
   ·exact ⟨rfl, rfl, rfl, of_decide_eq_true rfl, rfl⟩
   ·exact .inl rfl
   ·exact B7
   ·exact C7 rfl
   ·exact fun _ => rfl
   intro g26
   refine I6 rfl rfl (H2 (by omega)) <| A3 rfl rfl rfl ?_
   refine A5 ⟨nofun, _, kS [3,18,19,20] [] rfl, ?_⟩
   refine A0 <| I6 rfl rfl (H2 (by omega)) <| A6 rfl rfl ?_
   refine A5 ⟨nofun, _, kS [3,18,19,20] [] rfl, ?_⟩
   refine ⟨(i + 1, _), ⟨by omega, by rw [M6, ← ha]⟩, (by simp only; omega), ⟨rfl, rfl, rfl, rfl, trivial⟩⟩
  try simp only [SG, List.length_map] at hc
  refine H7 <| A4 <| A0 <| A6 rfl rfl <| A3 rfl rfl rfl ?_
  refine A5 ⟨nofun, _, kS [2] [] rfl, ?_⟩
  refine B0 <| C0 rfl rfl trivial ?_
  rw [ha, show i = t.kids.length by omega, P1]

theorem keep_s_CostOfS : H1 Tryd.f11 = [0, 2, 4, 11, 3, 7] := by kernel_rfl
set_option maxHeartbeats 20000000 in
theorem b9c (s : List UInt8) (hs : s.length ≤ 1048576) : CW cxT 11 [tV s] = some (iV (a8u s), []) := by
 refine G3 rfl Tryd.func11 rfl ⟨by kernel_rfl, rfl, of_decide_eq_true rfl, of_decide_eq_true rfl, by decide⟩ keep_s_CostOfS <| A4 <| A0 <| A3 rfl rfl rfl ?_
 refine A5 ⟨nofun, _, kS [0] [] rfl, ?_⟩
 refine A4 <| A0 <| A6 rfl rfl ?_
 apply D5 rfl
 ·apply B6
  ·exact B3 rfl
  exact C9
 ·exact b6n s hs
 ·exact ⟨rfl, rfl, rfl, of_decide_eq_true rfl, rfl⟩
 ·exact .inl rfl
 ·exact B7
 ·exact K1 rfl
 ·exact fun _ => rfl
 intro g7
 refine A6 rfl rfl <| A9 rfl rfl rfl <| A9 rfl rfl rfl <| F7 rfl (fun _ => B1 rfl) (fun _ => rfl) ?_
 intro g3
 refine B4 rfl rfl rfl rfl ⟨by decide, rfl, of_decide_eq_true rfl, of_decide_eq_true rfl, rfl⟩ rfl (by exact B1 rfl) <| A3 rfl rfl rfl ?_
 refine A5 ⟨nofun, _, kS [3,4] [3] rfl, ?_⟩
 refine A4 <| A4 <| A0 <| A6 rfl rfl <| O1 rfl ?_
 refine A5 ⟨nofun, _, kS [3,11] [3] rfl, ?_⟩
 refine A8 rfl (fun hc => ?_) (fun hc => ?_)
 ·try simp only [SG, List.length_map] at hc
  refine A4 <| A0 <| A3 rfl rfl rfl ?_
  refine A5 ⟨nofun, _, kS [2] [] rfl, ?_⟩
  refine B0 <| C0 rfl rfl trivial ?_
  rw [a4y hc]
  rfl
 try simp only [SG, List.length_map] at hc
 refine B2 <| A4 <| A0 <| E5 rfl rfl rfl rfl rfl ?_
 obtain ⟨t, ht1, ht2, ht3⟩ := a4t hc
 rw [ht2, s8]
 apply D5 rfl
 ·apply B6
  ·exact B3 rfl
  exact C9
 ·exact c3k t (by omega)
 ·exact ⟨rfl, rfl, rfl, of_decide_eq_true rfl, rfl⟩
 ·exact .inl rfl
 ·exact B7
 ·exact C7 rfl
 ·exact fun _ => rfl
 intro g13
 refine A3 rfl rfl rfl ?_
 refine A5 ⟨nofun, _, kS [2] [] rfl, ?_⟩
 refine B0 <| C0 rfl rfl trivial ?_
 rw [a5f ht1]

theorem keep_s_CostOfI : H1 Tryd.f12 = [0, 2, 4, 11, 3, 7] := by kernel_rfl
set_option maxHeartbeats 20000000 in
theorem b8t (s : List UInt8) (hs : s.length ≤ 1048576) : CW cxT 12 [tV s] = some (iV (a8u s), []) := by
 refine G3 rfl Tryd.func12 rfl ⟨by kernel_rfl, rfl, of_decide_eq_true rfl, of_decide_eq_true rfl, by decide⟩ keep_s_CostOfI <| A4 <| A0 <| A3 rfl rfl rfl ?_
 refine A5 ⟨nofun, _, kS [0] [] rfl, ?_⟩
 refine A4 <| A0 <| A6 rfl rfl ?_
 apply D5 rfl
 ·apply B6
  ·exact B3 rfl
  exact C9
 ·exact b3w s hs
 ·exact ⟨rfl, rfl, rfl, of_decide_eq_true rfl, rfl⟩
 ·exact .inl rfl
 ·exact B7
 ·exact K1 rfl
 ·exact fun _ => rfl
 intro g7
 refine A6 rfl rfl <| A9 rfl rfl rfl <| A9 rfl rfl rfl <| F7 rfl (fun _ => B1 rfl) (fun _ => rfl) ?_
 intro g3
 refine B4 rfl rfl rfl rfl ⟨by decide, rfl, of_decide_eq_true rfl, of_decide_eq_true rfl, rfl⟩ rfl (by exact B1 rfl) <| A3 rfl rfl rfl ?_
 refine A5 ⟨nofun, _, kS [3,4] [3] rfl, ?_⟩
 refine A4 <| A4 <| A0 <| A6 rfl rfl <| O1 rfl ?_
 refine A5 ⟨nofun, _, kS [3,11] [3] rfl, ?_⟩
 refine A8 rfl (fun hc => ?_) (fun hc => ?_)
 ·try simp only [SG, List.length_map] at hc
  refine A4 <| A0 <| A3 rfl rfl rfl ?_
  refine A5 ⟨nofun, _, kS [2] [] rfl, ?_⟩
  refine B0 <| C0 rfl rfl trivial ?_
  rw [a4y hc]
  rfl
 try simp only [SG, List.length_map] at hc
 refine B2 <| A4 <| A0 <| E5 rfl rfl rfl rfl rfl ?_
 obtain ⟨t, ht1, ht2, ht3⟩ := a4t hc
 rw [c5c ht1, s8]
 apply D5 rfl
 ·apply B6
  ·exact B3 rfl
  exact C9
 ·exact c4a t (by omega)
 ·exact ⟨rfl, rfl, rfl, of_decide_eq_true rfl, rfl⟩
 ·exact .inl rfl
 ·exact B7
 ·exact C7 rfl
 ·exact fun _ => rfl
 intro g13
 refine A3 rfl rfl rfl ?_
 refine A5 ⟨nofun, _, kS [2] [] rfl, ?_⟩
 refine B0 <| C0 rfl rfl trivial ?_
 rw [a5f ht1]

theorem keep_s_FnExactCostOf : H1 Tryd.f4 = [0, 2, 7, 3, 4, 14] := by kernel_rfl
set_option maxHeartbeats 20000000 in
theorem a3q (s : List UInt8) : CW cxT 4 [tV s] = some (bV true, []) := by
 refine G3 rfl Tryd.func4 rfl ⟨by kernel_rfl, rfl, of_decide_eq_true rfl, of_decide_eq_true rfl, by decide⟩ keep_s_FnExactCostOf <| A4 <| A0 <| A3 rfl rfl rfl ?_
 refine A5 ⟨nofun, _, kS [0] [] rfl, ?_⟩
 refine A4 <| A4 <| A0 <| A6 rfl rfl <| o5 rfl rfl <| Y0 rfl rfl ?_
 refine A5 ⟨nofun, _, kS [0,7] [] rfl, ?_⟩
 refine A8 rfl (fun hc => ?_) (fun hc => ?_)
 ·try simp only [SG, List.length_map] at hc
  refine A4 <| A0 <| A3 rfl rfl rfl ?_
  refine A5 ⟨nofun, _, kS [2] [] rfl, ?_⟩
  refine B0 <| C0 rfl rfl trivial ?_
  rfl
 try simp only [SG, List.length_map] at hc
 refine B2 <| A4 <| A0 <| A6 rfl rfl ?_
 apply D5 rfl
 ·apply B6
  ·exact B3 rfl
  exact C9
 ·exact b9c s (by omega)
 ·exact ⟨rfl, rfl, rfl, of_decide_eq_true rfl, rfl⟩
 ·exact .inl rfl
 ·exact B7
 ·exact C7 rfl
 ·exact fun _ => rfl
 intro g9
 refine A3 rfl rfl rfl ?_
 refine A5 ⟨nofun, _, kS [0,3] [] rfl, ?_⟩
 refine A4 <| A0 <| A6 rfl rfl ?_
 apply D5 rfl
 ·apply B6
  ·exact B3 rfl
  exact C9
 ·exact b8t s (by omega)
 ·exact ⟨rfl, rfl, rfl, of_decide_eq_true rfl, rfl⟩
 ·exact .inl rfl
 ·exact B7
 ·exact C7 rfl
 ·exact fun _ => rfl
 intro g11
 refine A3 rfl rfl rfl ?_
 refine A5 ⟨nofun, _, kS [3,4] [] rfl, ?_⟩
 refine A4 <| A4 <| A0 <| A6 rfl rfl <| A6 rfl rfl <| c1c rfl rfl ?_
 refine A5 ⟨nofun, _, kS [14] [] rfl, ?_⟩
 refine A8 rfl (fun hc => ?_) (fun hc => ?_)
 ·try simp only [SG, List.length_map] at hc
  refine A4 <| A0 <| A3 rfl rfl rfl ?_
  refine A5 ⟨nofun, _, kS [2] [] rfl, ?_⟩
  refine B0 <| C0 rfl rfl trivial ?_
  (simp_all; done)
 try simp only [SG, List.length_map] at hc
 refine B2 <| A4 <| A0 <| A3 rfl rfl rfl ?_
 refine A5 ⟨nofun, _, kS [2] [] rfl, ?_⟩
 refine B0 <| C0 rfl rfl trivial ?_
 rfl
end Go.Proofs.YtpjgdgnaeohmeaaDoor
