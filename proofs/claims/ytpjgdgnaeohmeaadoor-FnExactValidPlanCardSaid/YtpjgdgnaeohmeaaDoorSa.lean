/- What each function of the program gives on the abstract machine, part 1 of 1. Conditions: those in front of each theorem. -/
import Derived.Test.YtpjgdgnaeohmeaaDoorMd
import Derived.Test.YtpjgdgnaeohmeaaDoorChecked
import Derived.KernelRfl

set_option linter.unusedVariables false
set_option linter.unusedSimpArgs false
namespace Go.Proofs.YtpjgdgnaeohmeaaDoor
open Go Go.Mv Go.Proofs
set_option maxRecDepth 100000

theorem SD : (∀ {p : Prop} [Decidable p], (decide p = true) = p) ∧ (∀ {p : Prop} {_ : Decidable p}, decide p = false ↔ ¬p) ∧ (∀ (b : Bool), ((!b) = true) = (b = false)) ∧ (∀ (b : Bool), ((!b) = false) = (b = true)) ∧ (∀ {α : Type} [BEq α] [LawfulBEq α] {a b : α}, (a != b) = true ↔ a ≠ b) ∧
    (∀ {α : Type} [BEq α] [LawfulBEq α] {a b : α}, (a == b) = true ↔ a = b) ∧ (∀ {α : Type} (a b : α), (a ≠ b) = ¬a = b) ∧ (!true) = false ∧ (!false) = true ∧ (∀ {α : Type} [BEq α] [LawfulBEq α] {a b : α}, (a == b) = false ↔ a ≠ b) ∧ (∀ {α : Type} [BEq α] [LawfulBEq α] {a b : α}, (a != b) = false ↔ a = b) ∧
    (∀ {p : Prop} [Decidable p], ¬¬p ↔ p) ∧ (∀ {a b : Int}, ¬a < b ↔ b ≤ a) ∧ (∀ {a b : Int}, ¬a ≤ b ↔ b < a) :=
  ⟨@decide_eq_true_eq, @decide_eq_false_iff_not, @Bool.not_eq_true', @Bool.not_eq_false', @bne_iff_ne, @beq_iff_eq, @ne_eq, @Bool.not_true, @Bool.not_false, @beq_eq_false_iff_ne, @bne_eq_false_iff_eq, @Decidable.not_not, @Int.not_lt, @Int.not_le⟩
theorem SG : ((∀ {p : Prop} [Decidable p], (decide p = true) = p) ∧ (∀ {p : Prop} {_ : Decidable p}, decide p = false ↔ ¬p) ∧ (∀ (b : Bool), ((!b) = true) = (b = false)) ∧ (∀ (b : Bool), ((!b) = false) = (b = true)) ∧ (∀ {α : Type} [BEq α] [LawfulBEq α] {a b : α}, (a != b) = true ↔ a ≠ b) ∧
    (∀ {α : Type} [BEq α] [LawfulBEq α] {a b : α}, (a == b) = true ↔ a = b) ∧ (∀ {α : Type} (a b : α), (a ≠ b) = ¬a = b) ∧ (!true) = false ∧ (!false) = true ∧ (∀ {α : Type} [BEq α] [LawfulBEq α] {a b : α}, (a == b) = false ↔ a ≠ b) ∧ (∀ {α : Type} [BEq α] [LawfulBEq α] {a b : α}, (a != b) = false ↔ a = b) ∧
    (∀ {p : Prop} [Decidable p], ¬¬p ↔ p) ∧ (∀ {a b : Int}, ¬a < b ↔ b ≤ a) ∧ (∀ {a b : Int}, ¬a ≤ b ↔ b < a)) ∧
    (∀ (a b : Bool), ((a && b) = true) = (a = true ∧ b = true)) ∧ (∀ {x y : Bool}, (x && y) = false ↔ x = false ∨ y = false) ∧ (∀ (a b : Bool), ((a || b) = true) = (a = true ∨ b = true)) ∧ (∀ {x y : Bool}, (x || y) = false ↔ x = false ∧ y = false) :=
  ⟨SD, @Bool.and_eq_true, @Bool.and_eq_false_iff, @Bool.or_eq_true, @Bool.or_eq_false_iff⟩
def c0w (keep : List Nat) (A : Asr) : List Mv.Loc → Asr → Option Asr
  | l :: ls, B => match keepLoc keep l, Mv.look A l with
    | true, some a => c0w keep A ls ((l, a) :: B)
    | _, _ => none
  | [], B => some B
theorem b6o {keep : List Nat} {A : Asr} : ∀ (ls : List Mv.Loc) {B C : Asr}, KeepL keep A B → c0w keep A ls B = some C → KeepL keep A C
  | [], B, C, h, e => by simp only [c0w, Option.some.injEq] at e; rw [← e]; exact h
  | l :: ls, B, C, h, e => by
    simp only [c0w] at e
    split at e
    · exact b6o ls (show KeepL keep A ((l, _) :: B) from ⟨by assumption, by assumption, h⟩) e
    · cases e
theorem kS (ts hs : List Nat) {keep : List Nat} {A B : Asr} (h : c0w keep A (ts.map .t ++ hs.map .h) [] = some B) : KeepL keep A B := b6o _ (show KeepL keep A [] from trivial) h
section
variable {cx : Cx} {keep : List Nat} {ops0 : Array Oper} {r : List Oper} {A : Asr} {Q : Asr → List Log → Prop}
variable {d ty : Nat} {pos : String} {aft : Array Edge}
theorem gT {op : Op} {dst : Option Nat} {g dg : Nat} {want b : Bool} (hd : (ops0[g]?).bind (·.dst) = some dg) (hb : Mv.look A (.t dg) = some (.val (.bool b)))
    (h : XR cx keep ops0 (⟨dst, op, ty, pos, aft, none⟩ :: r) A fun A' lg => Q A' (b6s (.t dg) lg)) (hw : b = want := by assumption) : XR cx keep ops0 (⟨dst, op, ty, pos, aft, some (g, want)⟩ :: r) A Q := Q8 hd hb hw h
theorem gF {op : Op} {g dg : Nat} {want b : Bool} (hd : (ops0[g]?).bind (·.dst) = some dg) (hb : Mv.look A (.t dg) = some (.val (.bool b)))
    (h : XR cx keep ops0 r ((.t d, .val (.tuple #[])) :: A) fun A' lg => Q A' (([.t dg], [.t d]) :: lg)) (hw : b = !want := by assumption) : XR cx keep ops0 (⟨some d, op, ty, pos, aft, some (g, want)⟩ :: r) A Q := G3 hd hb hw h
end

def mdT : List (Nat × List Nat) := [(16, [1]), (23, [3, 3, 3, 3]), (24, [3, 3, 3, 3]), (28, [2]), (32, [3, 3, 3, 3]), (34, [3, 3, 3, 3]), (35, [3, 3, 3, 3]), (36, [3, 3, 3, 3]), (39, [3, 3, 3, 3]), (40, [3, 3, 3, 3]), (44, [3, 3, 3, 3]), (45, [3, 3, 3, 3]), (46, [3, 3, 3, 3]), (47, [3, 3, 3, 3]), (48, [3, 3, 3, 3]), (53, [3, 3, 3, 3]), (56, [3, 3, 3, 3])]
noncomputable def c4n : List (Nat × (List AV → Option (AV × List (List AV)))) := [(49, a5b), (50, a9o), (65, a4i), (80, b0t), (81, a9s), (82, a9j)]
noncomputable def cxT : Cx := { P := Tryd.prog, md := c5x mdT, ext := b6x c4n, it := fun _ => none, fz := fun k => [23, 24, 32, 39, 40, 48, 53].contains k }
noncomputable def cxE : Cx := { P := Tryd.prog, md := c5x mdT, ext := fun _ => none, fz := fun k => [23, 24, 32, 39, 40, 48, 53].contains k }
theorem b7a (l : List UInt8) (b : UInt8) (hl : l.length < 4294967281) : CW cxT 49 [tV l, tV [b]] = some (.own 1 ((splitB b l).map tV), []) := a1n cxT rfl (by show (if l.length < 4294967281 then some ((AV.own 1 ((splitB b l).map tV), []) : AV × List (List AV)) else none) = _; rw [if_pos hl])
theorem c4i (ps : List (List UInt8)) (b : UInt8) (h1 : ps.length ≤ I2) (h2 : (joinB b ps).length ≤ I2) : CW cxT 50 [.list (ps.map tV), tV [b]] = some (tV (joinB b ps), []) := a1n cxT rfl (by show ((unT (ps.map tV)).bind fun ps => if ps.length ≤ I2 ∧ (joinB b ps).length ≤ I2 then some ((tV (joinB b ps), []) : AV × List (List AV)) else none) = _; rw [c2e, Option.bind_some, if_pos ⟨h1, h2⟩])
theorem c4l (n : Int) (h : -9223372036854775808 ≤ n ∧ n ≤ 9223372036854775807) : CW cxT 65 [iV n] = some (tV (dec n), []) := a1n cxT rfl (by simp [a4i, h])
theorem c4w (l : List UInt8) (b : UInt8) : CW cxT 80 [tV l, tV [b]] = some (.tup [tV (m9 b l), bV (decide (l.head? = some b))], []) := a1n cxT rfl rfl
theorem c5b (l : List UInt8) (b : UInt8) (hl : l.length < 4294967281) : CW cxT 81 [tV l, tV [b]] = some (.tup [tV (a7n b l), bV (decide (l.getLast? = some b))], []) := a1n cxT rfl (by show (if l.length < 4294967281 then some ((AV.tup [tV (a7n b l), bV (decide (l.getLast? = some b))], []) : AV × List (List AV)) else none) = _; rw [if_pos hl])
theorem b4i (l : List UInt8) (hl : l.length < 4294967281) : CW cxT 82 [tV l] = some (atR l, []) := a1n cxT rfl (by show (if l.length < 4294967281 then some ((atR l, []) : AV × List (List AV)) else none) = _; rw [if_pos hl])

theorem keep_s_inRange : G9 Tryd.f71 = [0, 1, 2, 6] := by kernel_rfl
set_option maxHeartbeats 20000000 in
theorem b8u (n lo hi : Int) : CW cxT 71 [iV n, iV lo, iV hi] = some (bV (decide (lo ≤ n) && decide (n ≤ hi)), []) := by
 refine G5 rfl Tryd.func71 rfl ⟨by kernel_rfl, rfl, of_decide_eq_true rfl, of_decide_eq_true rfl, by decide⟩ keep_s_inRange <| A4 <| A0 <| A3 rfl rfl rfl ?_
 refine A5 ⟨nofun, _, kS [0,1,2] [] rfl, ?_⟩
 refine A4 <| A0 <| A6 rfl rfl <| A6 rfl rfl <| a5k rfl rfl <| A6 rfl rfl ?_
 refine D6 rfl rfl (fun hg0 => ?_) (fun hg0 => ?_)
 ·have hg := hg0; try simp only [SG] at hg
  refine A6 rfl rfl <| gT rfl rfl <| A6 rfl rfl <| gT rfl rfl <| a5k rfl rfl <| F6 rfl (by assumption) rfl rfl <| A3 rfl rfl rfl ?_
  refine A5 ⟨nofun, _, kS [6] [] rfl, ?_⟩
  refine B1 <| C6 rfl rfl trivial ?_
  simp_all [ofConst]; try omega
 have hg := hg0; try simp only [SG] at hg
 refine gF rfl rfl <| gF rfl rfl <| G2 rfl (by assumption) rfl rfl <| A3 rfl rfl rfl ?_
 refine A5 ⟨nofun, _, kS [6] [] rfl, ?_⟩
 refine B1 <| C6 rfl rfl trivial ?_
 simp_all [ofConst]; try omega

theorem keep_s_in : G9 Tryd.f110 = [0, 1, 2, 6] := by kernel_rfl
set_option maxHeartbeats 20000000 in
theorem c6c (n lo hi : Int) : CW cxT 110 [iV n, iV lo, iV hi] = some (bV (decide (lo ≤ n) && decide (n ≤ hi)), []) := by
 refine G5 rfl Tryd.func110 rfl ⟨by kernel_rfl, rfl, of_decide_eq_true rfl, of_decide_eq_true rfl, by decide⟩ keep_s_in <| A4 <| A0 <| A3 rfl rfl rfl ?_
 refine A5 ⟨nofun, _, kS [0,1,2] [] rfl, ?_⟩
 refine A4 <| A0 <| A6 rfl rfl <| A6 rfl rfl <| c0f rfl rfl <| A6 rfl rfl ?_
 refine D6 rfl rfl (fun hg0 => ?_) (fun hg0 => ?_)
 ·have hg := hg0; try simp only [SG] at hg
  refine A6 rfl rfl <| gT rfl rfl <| A6 rfl rfl <| gT rfl rfl <| a5k rfl rfl <| F6 rfl (by assumption) rfl rfl <| A3 rfl rfl rfl ?_
  refine A5 ⟨nofun, _, kS [6] [] rfl, ?_⟩
  refine B1 <| C6 rfl rfl trivial ?_
  simp_all [ofConst]; try omega
 have hg := hg0; try simp only [SG] at hg
 refine gF rfl rfl <| gF rfl rfl <| G2 rfl (by assumption) rfl rfl <| A3 rfl rfl rfl ?_
 refine A5 ⟨nofun, _, kS [6] [] rfl, ?_⟩
 refine B1 <| C6 rfl rfl trivial ?_
 simp_all [ofConst]; try omega

theorem keep_s_IndexFunc2 : G9 Tryd.f119 = [0, 1, 4, 8, 7, 9, 5, 16] := by kernel_rfl
set_option maxHeartbeats 20000000 in
theorem a9l (xs : List Int) (hl : xs.length ≤ 1000) (k : Nat) (a b : AV) (q : Int → Bool) (hq : ∀ x, CW cxT k [iV x, .ipt a 0, .ipt b 0] = some (bV (q x), [])) : ∃ res outs, (fun res outs => ∃ r : Int, res = iV r ∧ outs = [] ∧ decide (0 ≤ r) = xs.any q) res outs ∧ CW cxT 119 [L xs, .clo k [.ipt a 0, .ipt b 0]] = some (res, outs) := by
 refine b8c rfl Tryd.func119 rfl ⟨by kernel_rfl, rfl, of_decide_eq_true rfl, of_decide_eq_true rfl, by decide⟩ keep_s_IndexFunc2 <| A4 <| A0 <| A3 rfl rfl rfl ?_
 refine A5 ⟨nofun, _, kS [0,1] [] rfl, ?_⟩
 refine A4 <| A4 <| A0 <| A6 rfl rfl <| P1 rfl rfl <| A6 rfl rfl ?_
 refine A5 ⟨nofun, _, kS [0,1,7,8] [] rfl, ?_⟩
 refine F0 <| S8 (β := Nat) [(.t 0, _), (.t 1, _), (.t 7, _)] (fun (i : Nat) => [(.t 8, iV i)]) (fun (i : Nat) => i ≤ xs.length ∧ ∀ j, j < i → q (xs.getD j default) = false) (fun (i : Nat) => xs.length - i) 0 ⟨rfl, rfl, rfl, rfl, trivial⟩ ⟨Nat.zero_le _, fun j h => by omega⟩ ?_
 intro i hb
 obtain ⟨hi1, hi2⟩ := hb
 refine A4 <| A0 <| O5 rfl rfl ?_
 refine A5 ⟨nofun, _, kS [0,1,7,8,9] [] rfl, ?_⟩
 refine A4 ?_
 refine A8 rfl (fun hc => ?_) (fun hc => ?_)
 ·try simp only [SG, List.length_map] at hc
  refine B9 <| A4 <| F0 <| A4 <| A0 <| A6 rfl rfl <| A3 rfl rfl rfl ?_
  refine A5 ⟨nofun, _, kS [0,1,5,7,8] [] rfl, ?_⟩
  refine A4 <| A0 <| A6 rfl rfl <| A6 rfl rfl <| A6 rfl rfl <| L4 rfl rfl rfl (fun _ => rfl) (by omega) <| K9 rfl rfl rfl ?_
  apply c2j rfl rfl
  ·apply B7
   ·exact B6 rfl
   apply B7
   ·exact B6 rfl
   apply B7
   ·exact B6 rfl
   exact D8
  ·exact hq (xs.getD i default)
  ·exact ⟨rfl, rfl, rfl, of_decide_eq_true rfl, rfl⟩
  ·exact .inl rfl
  ·exact C0
  ·exact E6 rfl
  ·exact fun _ => rfl
  intro g16
  refine A5 ⟨nofun, _, kS [0,1,5,7,8,16] [] rfl, ?_⟩
  refine A8 rfl (fun hc => ?_) (fun hc => ?_)
  ·try simp only [SG, List.length_map] at hc
   refine A4 <| A0 <| A6 rfl rfl <| A3 rfl rfl rfl ?_
   refine A5 ⟨nofun, _, kS [4] [] rfl, ?_⟩
   refine B1 ?_
   refine ⟨_, _, ?_, a9x rfl rfl C4⟩
   exact ⟨_, rfl, rfl, c2k (by omega) hc⟩
  try simp only [SG, List.length_map] at hc
  refine B9 <| A0 <| R4 rfl rfl (I9 (by omega)) <| A6 rfl rfl ?_
  refine A5 ⟨nofun, _, kS [0,1,7,8] [] rfl, ?_⟩
  refine ⟨i + 1, ⟨by omega, fun a ha => by rcases Nat.lt_succ_iff_lt_or_eq.1 ha with h | h; exact hi2 a h; subst h; exact hc⟩, (by omega), ⟨rfl, rfl, rfl, rfl, trivial⟩⟩
 try simp only [SG, List.length_map] at hc
 refine L8 <| A4 <| A0 <| A3 rfl rfl rfl ?_
 refine A5 ⟨nofun, _, kS [4] [] rfl, ?_⟩
 refine B1 ?_
 refine ⟨_, _, ?_, a9x rfl rfl C4⟩
 exact ⟨-1, rfl, rfl, c1v fun j hj => hi2 j (by omega)⟩

theorem keep_s_ContainsFunc2 : G9 Tryd.f108 = [0, 1, 4] := by kernel_rfl
set_option maxHeartbeats 20000000 in
theorem a3p (xs : List Int) (hl : xs.length ≤ 1000) (k : Nat) (a b : AV) (q : Int → Bool) (hq : ∀ x, CW cxT k [iV x, .ipt a 0, .ipt b 0] = some (bV (q x), [])) : CW cxT 108 [L xs, .clo k [.ipt a 0, .ipt b 0]] = some (bV (xs.any q), []) := by
 obtain ⟨_, _, ⟨r, rfl, rfl, hr⟩, hC⟩ := a9l xs hl k a b q hq
 refine G5 rfl Tryd.func108 rfl ⟨by kernel_rfl, rfl, of_decide_eq_true rfl, of_decide_eq_true rfl, by decide⟩ keep_s_ContainsFunc2 <| A4 <| A0 <| A3 rfl rfl rfl ?_
 refine A5 ⟨nofun, _, kS [0,1] [] rfl, ?_⟩
 refine A4 <| A0 <| A6 rfl rfl <| A6 rfl rfl ?_
 apply D9 rfl
 ·apply B7
  ·exact B6 rfl
  apply B7
  ·exact b9w rfl (c1k (c1k c1w))
  exact D8
 ·exact hC
 ·exact ⟨rfl, rfl, rfl, of_decide_eq_true rfl, rfl⟩
 ·exact .inl rfl
 ·exact C0
 ·exact E6 rfl
 ·exact fun _ => rfl
 intro g7
 refine c0f rfl rfl <| A3 rfl rfl rfl ?_
 refine A5 ⟨nofun, _, kS [4] [] rfl, ?_⟩
 refine B1 <| C6 rfl rfl trivial ?_
 rw [← hr]

theorem keep_s_allIn1 : G9 Tryd.f109 = [0, 1, 2, 4] := by kernel_rfl
set_option maxHeartbeats 20000000 in
theorem b9q (x lo hi : Int) : CW cxT 109 [iV x, .ipt (iV lo) 0, .ipt (iV hi) 0] = some (bV (!(decide (lo ≤ x) && decide (x ≤ hi))), []) := by
 refine G5 rfl Tryd.func109 rfl ⟨by kernel_rfl, rfl, of_decide_eq_true rfl, of_decide_eq_true rfl, by decide⟩ keep_s_allIn1 <| A4 <| A0 <| A3 rfl rfl rfl ?_
 refine A5 ⟨nofun, _, kS [0,1,2] [] rfl, ?_⟩
 refine A4 <| A0 <| A6 rfl rfl <| K9 rfl rfl rfl <| K9 rfl rfl rfl ?_
 apply D9 rfl
 ·apply B7
  ·exact B6 rfl
  apply B7
  ·exact B6 rfl
  apply B7
  ·exact B6 rfl
  exact D8
 ·exact c6c _ _ _
 ·exact ⟨rfl, rfl, rfl, of_decide_eq_true rfl, rfl⟩
 ·exact .inl rfl
 ·exact C0
 ·exact E6 rfl
 ·exact fun _ => rfl
 intro g8
 refine P4 rfl <| A3 rfl rfl rfl ?_
 refine A5 ⟨nofun, _, kS [4] [] rfl, ?_⟩
 refine B1 <| C6 rfl rfl trivial ?_
 rfl

theorem keep_s_allIn : G9 Tryd.f94 = [0, 1, 2, 6, 4, 5] := by kernel_rfl
set_option maxHeartbeats 20000000 in
theorem c3l (xs : List Int) (hl : xs.length ≤ 1000) (lo hi : Int) : CW cxT 94 [L xs, iV lo, iV hi] = some (bV (w3 lo hi xs), []) := by
 refine G5 rfl Tryd.func94 rfl ⟨by kernel_rfl, rfl, of_decide_eq_true rfl, of_decide_eq_true rfl, by decide⟩ keep_s_allIn <| A4 <| A0 <| c3p rfl rfl rfl (fun _ => B4 rfl) (fun _ => rfl) ?_
 intro g4
 refine c3p rfl rfl rfl (fun _ => B4 rfl) (fun _ => rfl) ?_
 intro g5
 refine A3 rfl rfl rfl ?_
 refine A5 ⟨nofun, _, kS [0,4,5] [4,5] rfl, ?_⟩
 refine A4 <| A0 <| A6 rfl rfl <| b5u rfl rfl ?_
 apply D9 rfl
 ·apply B7
  ·exact B6 rfl
  apply B7
  ·exact b9w rfl (c1r rfl rfl (c1r rfl rfl c1w))
  exact D8
 ·exact a3p xs hl 109 (iV lo) (iV hi) _ (fun x => b9q x lo hi)
 ·exact ⟨rfl, rfl, rfl, of_decide_eq_true rfl, rfl⟩
 ·exact .inr ⟨rfl, rfl⟩
 ·exact C0
 ·exact E6 rfl
 ·exact fun _ => rfl
 intro g9
 refine P4 rfl <| A3 rfl rfl rfl ?_
 refine A5 ⟨nofun, _, kS [6] [] rfl, ?_⟩
 refine B1 <| C6 rfl rfl trivial ?_
 exact congrArg bV (c2a lo hi xs)

theorem keep_s_validData : G9 Tryd.f62 = [0, 2, 3, 7, 15] := by kernel_rfl
set_option maxHeartbeats 20000000 in
theorem b0v (xs : List Int) (hl : xs.length ≤ 1048576) : CW cxT 62 [L xs] = some (bV (vd xs), []) := by
 refine G5 rfl Tryd.func62 rfl ⟨by kernel_rfl, rfl, of_decide_eq_true rfl, of_decide_eq_true rfl, by decide⟩ keep_s_validData <| A4 <| A0 <| A3 rfl rfl rfl ?_
 refine A5 ⟨nofun, _, kS [0] [] rfl, ?_⟩
 refine A4 <| A4 <| A0 <| A3 rfl rfl rfl ?_
 refine A5 ⟨nofun, _, kS [0,3] [] rfl, ?_⟩
 refine F0 <| S8 (β := Nat) [(.t 0, _)] (fun (i : Nat) => [(.t 3, iV i)]) (fun (i : Nat) => i ≤ xs.length ∧ ∀ j, j < i → -200 ≤ xs.getD j default ∧ xs.getD j default ≤ 200) (fun (i : Nat) => xs.length - i) 0 ⟨rfl, rfl, trivial⟩ ⟨Nat.zero_le _, fun j h => by omega⟩ ?_
 intro i hb
 obtain ⟨hi1, hi2⟩ := hb
 refine A4 <| A4 <| A0 <| A6 rfl rfl <| A6 rfl rfl <| P1 rfl rfl <| O5 rfl rfl ?_
 refine A5 ⟨nofun, _, kS [0,3,7] [] rfl, ?_⟩
 refine A8 rfl (fun hc => ?_) (fun hc => ?_)
 ·try simp only [SG, List.length_map] at hc
  refine B9 <| A4 <| F0 <| A4 <| A0 <| A6 rfl rfl <| A6 rfl rfl <| L4 rfl rfl rfl (fun _ => rfl) (by omega) <| K9 rfl rfl rfl ?_
  apply D9 rfl
  ·apply B7
   ·exact B6 rfl
   apply B7
   ·exact B6 rfl
   apply B7
   ·exact B6 rfl
   exact D8
  ·exact b8u _ _ _
  ·exact ⟨rfl, rfl, rfl, of_decide_eq_true rfl, rfl⟩
  ·exact .inl rfl
  ·exact C0
  ·exact E6 rfl
  ·exact fun _ => rfl
  intro g14
  refine P4 rfl ?_
  refine A5 ⟨nofun, _, kS [0,3,15] [] rfl, ?_⟩
  refine A8 rfl (fun hc => ?_) (fun hc => ?_)
  ·try simp only [SG, List.length_map] at hc
   refine A4 <| A0 <| A3 rfl rfl rfl ?_
   refine A5 ⟨nofun, _, kS [2] [] rfl, ?_⟩
   refine B1 <| C6 rfl rfl trivial ?_
   rw [vd, c2b (show i < xs.length by omega) (by (simp_all; omega)), Bool.and_false]
   rfl
  try simp only [SG, List.length_map] at hc
  refine B9 <| A0 <| A6 rfl rfl <| R4 rfl rfl (I9 (by omega)) <| A3 rfl rfl rfl ?_
  refine A5 ⟨nofun, _, kS [0,3] [] rfl, ?_⟩
  refine ⟨i + 1, ⟨by omega, fun j hj => by rcases Nat.lt_succ_iff_lt_or_eq.1 hj with h | h; (· exact hi2 j h); (· subst h; assumption)⟩, (by omega), ⟨rfl, rfl, trivial⟩⟩
 try simp only [SG, List.length_map] at hc
 refine L8 <| A4 <| A0 <| A6 rfl rfl <| P1 rfl rfl <| a5k rfl rfl <| A3 rfl rfl rfl ?_
 refine A5 ⟨nofun, _, kS [2] [] rfl, ?_⟩
 refine B1 <| C6 rfl rfl trivial ?_
 rw [vd, c2r fun j hj => hi2 j (by omega), Bool.and_true]
 exact congrArg bV (decide_eq_decide.2 (by omega))

theorem keep_s_validDataI : G9 Tryd.f83 = [0, 2] := by kernel_rfl
set_option maxHeartbeats 20000000 in
theorem a1a (xs : List Int) (hl : xs.length ≤ 1048576) : CW cxT 83 [L xs] = some (bV (vd xs), []) := by
 refine G5 rfl Tryd.func83 rfl ⟨by kernel_rfl, rfl, of_decide_eq_true rfl, of_decide_eq_true rfl, by decide⟩ keep_s_validDataI <| A4 <| A0 <| A3 rfl rfl rfl ?_
 refine A5 ⟨nofun, _, kS [0] [] rfl, ?_⟩
 refine A4 <| A0 <| A6 rfl rfl <| P1 rfl rfl <| a5k rfl rfl <| A6 rfl rfl ?_
 refine D6 rfl rfl (fun hg0 => ?_) (fun hg0 => ?_)
 ·have hg := hg0; try simp only [SG] at hg
  refine A6 rfl rfl <| gT rfl rfl ?_
  apply D9 rfl
  ·apply B7
   ·exact B6 rfl
   apply B7
   ·exact B6 rfl
   apply B7
   ·exact B6 rfl
   exact D8
  ·exact c3l xs (by omega) (-200) 200
  ·exact ⟨rfl, rfl, rfl, of_decide_eq_true rfl, rfl⟩
  ·exact .inl rfl
  ·exact C0
  ·exact E6 rfl
  ·exact fun _ => rfl
  intro g8
  refine F6 rfl (by assumption) rfl rfl <| A3 rfl rfl rfl ?_
  refine A5 ⟨nofun, _, kS [2] [] rfl, ?_⟩
  refine B1 <| C6 rfl rfl trivial ?_
  cases hb : w3 (-200) 200 xs <;> simp_all [vd, ofConst] <;> omega
 have hg := hg0; try simp only [SG] at hg
 refine gF rfl rfl <| G2 rfl (by assumption) rfl rfl <| A3 rfl rfl rfl ?_
 refine A5 ⟨nofun, _, kS [2] [] rfl, ?_⟩
 refine B1 <| C6 rfl rfl trivial ?_
 cases hb : w3 (-200) 200 xs <;> simp_all [vd, ofConst] <;> omega

theorem keep_s_needs : G9 Tryd.f64 = [0, 2, 3, 4, 10, 19] := by kernel_rfl
set_option maxHeartbeats 20000000 in
theorem a0l (w : ByteArray) : CW cxT 64 [sV w] = some (iV (nd w), []) := by
 refine G5 rfl Tryd.func64 rfl ⟨by kernel_rfl, rfl, of_decide_eq_true rfl, of_decide_eq_true rfl, by decide⟩ keep_s_needs <| A4 <| A0 <| A3 rfl rfl rfl ?_
 refine A5 ⟨nofun, _, kS [0] [] rfl, ?_⟩
 refine A4 <| A4 <| A0 <| A6 rfl rfl ?_
 refine A5 ⟨nofun, _, kS [3] [] rfl, ?_⟩
 refine F0 <| A4 <| A4 <| A0 <| K5 rfl rfl <| A3 rfl rfl rfl ?_
 refine A5 ⟨nofun, _, kS [3,4] [] rfl, ?_⟩
 refine A8 rfl (fun hc => ?_) (fun hc => ?_)
 ·try simp only [SG, List.length_map] at hc
  refine B9 ?_
  refine A8 rfl (fun hc => ?_) (fun hc => absurd hc (by simp_all))
  refine A4 <| A0 <| A3 rfl rfl rfl ?_
  refine A5 ⟨nofun, _, kS [2] [] rfl, ?_⟩
  refine B1 <| C6 rfl rfl trivial <| congrArg iV ?_
  simp_all [nd]
 try simp only [SG, List.length_map] at hc
 refine A4 <| A0 <| K5 rfl rfl <| A3 rfl rfl rfl ?_
 refine A5 ⟨nofun, _, kS [3,4] [] rfl, ?_⟩
 refine A8 rfl (fun hc => ?_) (fun hc => ?_)
 ·try simp only [SG, List.length_map] at hc
  refine B9 ?_
  refine A8 rfl (fun hc => ?_) (fun hc => absurd hc (by simp_all))
  refine A4 <| A0 <| A3 rfl rfl rfl ?_
  refine A5 ⟨nofun, _, kS [2] [] rfl, ?_⟩
  refine B1 <| C6 rfl rfl trivial <| congrArg iV ?_
  simp_all [nd]
 try simp only [SG, List.length_map] at hc
 refine A4 <| A0 <| K5 rfl rfl <| A3 rfl rfl rfl ?_
 refine A5 ⟨nofun, _, kS [3,4] [] rfl, ?_⟩
 refine A8 rfl (fun hc => ?_) (fun hc => ?_)
 ·try simp only [SG, List.length_map] at hc
  refine B9 ?_
  refine A8 rfl (fun hc => ?_) (fun hc => absurd hc (by simp_all))
  refine A4 <| A0 <| A3 rfl rfl rfl ?_
  refine A5 ⟨nofun, _, kS [2] [] rfl, ?_⟩
  refine B1 <| C6 rfl rfl trivial <| congrArg iV ?_
  simp_all [nd]
 try simp only [SG, List.length_map] at hc
 refine A4 <| A0 <| K5 rfl rfl <| A3 rfl rfl rfl ?_
 refine A5 ⟨nofun, _, kS [3,4] [] rfl, ?_⟩
 refine A8 rfl (fun hc => ?_) (fun hc => ?_)
 ·try simp only [SG, List.length_map] at hc
  refine B9 ?_
  refine A8 rfl (fun hc => ?_) (fun hc => absurd hc (by simp_all))
  refine A4 <| A0 <| A3 rfl rfl rfl ?_
  refine A5 ⟨nofun, _, kS [2] [] rfl, ?_⟩
  refine B1 <| C6 rfl rfl trivial <| congrArg iV ?_
  simp_all [nd]
 try simp only [SG, List.length_map] at hc
 refine A0 <| K5 rfl rfl <| A3 rfl rfl rfl ?_
 refine A5 ⟨nofun, _, kS [3,4] [] rfl, ?_⟩
 refine A8 rfl (fun hc => ?_) (fun hc => ?_)
 ·try simp only [SG, List.length_map] at hc
  refine A4 <| A0 <| A3 rfl rfl rfl ?_
  refine A5 ⟨nofun, _, kS [2] [] rfl, ?_⟩
  refine B1 <| C6 rfl rfl trivial <| congrArg iV ?_
  simp_all [nd]
 try simp only [SG, List.length_map] at hc
 refine A4 <| A4 <| A0 <| K5 rfl rfl <| A3 rfl rfl rfl ?_
 refine A5 ⟨nofun, _, kS [3,10] [] rfl, ?_⟩
 refine A8 rfl (fun hc => ?_) (fun hc => ?_)
 ·try simp only [SG, List.length_map] at hc
  refine B9 ?_
  refine A8 rfl (fun hc => ?_) (fun hc => absurd hc (by simp_all))
  refine A4 <| A0 <| A3 rfl rfl rfl ?_
  refine A5 ⟨nofun, _, kS [2] [] rfl, ?_⟩
  refine B1 <| C6 rfl rfl trivial <| congrArg iV ?_
  simp_all [nd]
 try simp only [SG, List.length_map] at hc
 refine A4 <| A0 <| K5 rfl rfl <| A3 rfl rfl rfl ?_
 refine A5 ⟨nofun, _, kS [3,10] [] rfl, ?_⟩
 refine A8 rfl (fun hc => ?_) (fun hc => ?_)
 ·try simp only [SG, List.length_map] at hc
  refine B9 ?_
  refine A8 rfl (fun hc => ?_) (fun hc => absurd hc (by simp_all))
  refine A4 <| A0 <| A3 rfl rfl rfl ?_
  refine A5 ⟨nofun, _, kS [2] [] rfl, ?_⟩
  refine B1 <| C6 rfl rfl trivial <| congrArg iV ?_
  simp_all [nd]
 try simp only [SG, List.length_map] at hc
 refine A4 <| A0 <| K5 rfl rfl <| A3 rfl rfl rfl ?_
 refine A5 ⟨nofun, _, kS [3,10] [] rfl, ?_⟩
 refine A8 rfl (fun hc => ?_) (fun hc => ?_)
 ·try simp only [SG, List.length_map] at hc
  refine B9 ?_
  refine A8 rfl (fun hc => ?_) (fun hc => absurd hc (by simp_all))
  refine A4 <| A0 <| A3 rfl rfl rfl ?_
  refine A5 ⟨nofun, _, kS [2] [] rfl, ?_⟩
  refine B1 <| C6 rfl rfl trivial <| congrArg iV ?_
  simp_all [nd]
 try simp only [SG, List.length_map] at hc
 refine A4 <| A0 <| K5 rfl rfl <| A3 rfl rfl rfl ?_
 refine A5 ⟨nofun, _, kS [3,10] [] rfl, ?_⟩
 refine A8 rfl (fun hc => ?_) (fun hc => ?_)
 ·try simp only [SG, List.length_map] at hc
  refine B9 ?_
  refine A8 rfl (fun hc => ?_) (fun hc => absurd hc (by simp_all))
  refine A4 <| A0 <| A3 rfl rfl rfl ?_
  refine A5 ⟨nofun, _, kS [2] [] rfl, ?_⟩
  refine B1 <| C6 rfl rfl trivial <| congrArg iV ?_
  simp_all [nd]
 try simp only [SG, List.length_map] at hc
 refine A4 <| A0 <| K5 rfl rfl <| A3 rfl rfl rfl ?_
 refine A5 ⟨nofun, _, kS [3,10] [] rfl, ?_⟩
 refine A8 rfl (fun hc => ?_) (fun hc => ?_)
 ·try simp only [SG, List.length_map] at hc
  refine B9 ?_
  refine A8 rfl (fun hc => ?_) (fun hc => absurd hc (by simp_all))
  refine A4 <| A0 <| A3 rfl rfl rfl ?_
  refine A5 ⟨nofun, _, kS [2] [] rfl, ?_⟩
  refine B1 <| C6 rfl rfl trivial <| congrArg iV ?_
  simp_all [nd]
 try simp only [SG, List.length_map] at hc
 refine A4 <| A0 <| K5 rfl rfl <| A3 rfl rfl rfl ?_
 refine A5 ⟨nofun, _, kS [3,10] [] rfl, ?_⟩
 refine A8 rfl (fun hc => ?_) (fun hc => ?_)
 ·try simp only [SG, List.length_map] at hc
  refine B9 ?_
  refine A8 rfl (fun hc => ?_) (fun hc => absurd hc (by simp_all))
  refine A4 <| A0 <| A3 rfl rfl rfl ?_
  refine A5 ⟨nofun, _, kS [2] [] rfl, ?_⟩
  refine B1 <| C6 rfl rfl trivial <| congrArg iV ?_
  simp_all [nd]
 try simp only [SG, List.length_map] at hc
 refine A4 <| A0 <| K5 rfl rfl <| A3 rfl rfl rfl ?_
 refine A5 ⟨nofun, _, kS [3,10] [] rfl, ?_⟩
 refine A8 rfl (fun hc => ?_) (fun hc => ?_)
 ·try simp only [SG, List.length_map] at hc
  refine B9 ?_
  refine A8 rfl (fun hc => ?_) (fun hc => absurd hc (by simp_all))
  refine A4 <| A0 <| A3 rfl rfl rfl ?_
  refine A5 ⟨nofun, _, kS [2] [] rfl, ?_⟩
  refine B1 <| C6 rfl rfl trivial <| congrArg iV ?_
  simp_all [nd]
 try simp only [SG, List.length_map] at hc
 refine A0 <| K5 rfl rfl <| A3 rfl rfl rfl ?_
 refine A5 ⟨nofun, _, kS [3,10] [] rfl, ?_⟩
 refine A8 rfl (fun hc => ?_) (fun hc => ?_)
 ·try simp only [SG, List.length_map] at hc
  refine A4 <| A0 <| A3 rfl rfl rfl ?_
  refine A5 ⟨nofun, _, kS [2] [] rfl, ?_⟩
  refine B1 <| C6 rfl rfl trivial <| congrArg iV ?_
  simp_all [nd]
 try simp only [SG, List.length_map] at hc
 refine A4 <| A4 <| A0 <| K5 rfl rfl <| A3 rfl rfl rfl ?_
 refine A5 ⟨nofun, _, kS [3,19] [] rfl, ?_⟩
 refine A8 rfl (fun hc => ?_) (fun hc => ?_)
 ·try simp only [SG, List.length_map] at hc
  refine B9 ?_
  refine A8 rfl (fun hc => ?_) (fun hc => absurd hc (by simp_all))
  refine A4 <| A0 <| A3 rfl rfl rfl ?_
  refine A5 ⟨nofun, _, kS [2] [] rfl, ?_⟩
  refine B1 <| C6 rfl rfl trivial <| congrArg iV ?_
  simp_all [nd]
 try simp only [SG, List.length_map] at hc
 refine A0 <| K5 rfl rfl <| A3 rfl rfl rfl ?_
 refine A5 ⟨nofun, _, kS [19] [] rfl, ?_⟩
 refine A8 rfl (fun hc => ?_) (fun hc => ?_)
 ·try simp only [SG, List.length_map] at hc
  refine A4 <| A0 <| A3 rfl rfl rfl ?_
  refine A5 ⟨nofun, _, kS [2] [] rfl, ?_⟩
  refine B1 <| C6 rfl rfl trivial <| congrArg iV ?_
  simp_all [nd]
 try simp only [SG, List.length_map] at hc
 refine B9 <| A4 <| A0 <| A3 rfl rfl rfl ?_
 refine A5 ⟨nofun, _, kS [2] [] rfl, ?_⟩
 refine B1 <| C6 rfl rfl trivial <| congrArg iV ?_
 simp_all [nd]

theorem keep_s_reachOf : G9 Tryd.f52 = [0, 2, 3, 4, 13, 16] := by kernel_rfl
set_option maxHeartbeats 20000000 in
theorem b8r (w : ByteArray) : CW cxT 52 [sV w] = some (iV (rch w), []) := by
 refine G5 rfl Tryd.func52 rfl ⟨by kernel_rfl, rfl, of_decide_eq_true rfl, of_decide_eq_true rfl, by decide⟩ keep_s_reachOf <| A4 <| A0 <| A3 rfl rfl rfl ?_
 refine A5 ⟨nofun, _, kS [0] [] rfl, ?_⟩
 refine A4 <| A4 <| A0 <| A6 rfl rfl ?_
 refine A5 ⟨nofun, _, kS [3] [] rfl, ?_⟩
 refine F0 <| A4 <| A4 <| A0 <| K5 rfl rfl <| A3 rfl rfl rfl ?_
 refine A5 ⟨nofun, _, kS [3,4] [] rfl, ?_⟩
 refine A8 rfl (fun hc => ?_) (fun hc => ?_)
 ·try simp only [SG, List.length_map] at hc
  refine B9 ?_
  refine A8 rfl (fun hc => ?_) (fun hc => absurd hc (by simp_all))
  refine A4 <| A0 <| A3 rfl rfl rfl ?_
  refine A5 ⟨nofun, _, kS [2] [] rfl, ?_⟩
  refine B1 <| C6 rfl rfl trivial <| congrArg iV ?_
  simp_all [rch]
 try simp only [SG, List.length_map] at hc
 refine A4 <| A0 <| K5 rfl rfl <| A3 rfl rfl rfl ?_
 refine A5 ⟨nofun, _, kS [3,4] [] rfl, ?_⟩
 refine A8 rfl (fun hc => ?_) (fun hc => ?_)
 ·try simp only [SG, List.length_map] at hc
  refine B9 ?_
  refine A8 rfl (fun hc => ?_) (fun hc => absurd hc (by simp_all))
  refine A4 <| A0 <| A3 rfl rfl rfl ?_
  refine A5 ⟨nofun, _, kS [2] [] rfl, ?_⟩
  refine B1 <| C6 rfl rfl trivial <| congrArg iV ?_
  simp_all [rch]
 try simp only [SG, List.length_map] at hc
 refine A4 <| A0 <| K5 rfl rfl <| A3 rfl rfl rfl ?_
 refine A5 ⟨nofun, _, kS [3,4] [] rfl, ?_⟩
 refine A8 rfl (fun hc => ?_) (fun hc => ?_)
 ·try simp only [SG, List.length_map] at hc
  refine B9 ?_
  refine A8 rfl (fun hc => ?_) (fun hc => absurd hc (by simp_all))
  refine A4 <| A0 <| A3 rfl rfl rfl ?_
  refine A5 ⟨nofun, _, kS [2] [] rfl, ?_⟩
  refine B1 <| C6 rfl rfl trivial <| congrArg iV ?_
  simp_all [rch]
 try simp only [SG, List.length_map] at hc
 refine A4 <| A0 <| K5 rfl rfl <| A3 rfl rfl rfl ?_
 refine A5 ⟨nofun, _, kS [3,4] [] rfl, ?_⟩
 refine A8 rfl (fun hc => ?_) (fun hc => ?_)
 ·try simp only [SG, List.length_map] at hc
  refine B9 ?_
  refine A8 rfl (fun hc => ?_) (fun hc => absurd hc (by simp_all))
  refine A4 <| A0 <| A3 rfl rfl rfl ?_
  refine A5 ⟨nofun, _, kS [2] [] rfl, ?_⟩
  refine B1 <| C6 rfl rfl trivial <| congrArg iV ?_
  simp_all [rch]
 try simp only [SG, List.length_map] at hc
 refine A4 <| A0 <| K5 rfl rfl <| A3 rfl rfl rfl ?_
 refine A5 ⟨nofun, _, kS [3,4] [] rfl, ?_⟩
 refine A8 rfl (fun hc => ?_) (fun hc => ?_)
 ·try simp only [SG, List.length_map] at hc
  refine B9 ?_
  refine A8 rfl (fun hc => ?_) (fun hc => absurd hc (by simp_all))
  refine A4 <| A0 <| A3 rfl rfl rfl ?_
  refine A5 ⟨nofun, _, kS [2] [] rfl, ?_⟩
  refine B1 <| C6 rfl rfl trivial <| congrArg iV ?_
  simp_all [rch]
 try simp only [SG, List.length_map] at hc
 refine A4 <| A0 <| K5 rfl rfl <| A3 rfl rfl rfl ?_
 refine A5 ⟨nofun, _, kS [3,4] [] rfl, ?_⟩
 refine A8 rfl (fun hc => ?_) (fun hc => ?_)
 ·try simp only [SG, List.length_map] at hc
  refine B9 ?_
  refine A8 rfl (fun hc => ?_) (fun hc => absurd hc (by simp_all))
  refine A4 <| A0 <| A3 rfl rfl rfl ?_
  refine A5 ⟨nofun, _, kS [2] [] rfl, ?_⟩
  refine B1 <| C6 rfl rfl trivial <| congrArg iV ?_
  simp_all [rch]
 try simp only [SG, List.length_map] at hc
 refine A4 <| A0 <| K5 rfl rfl <| A3 rfl rfl rfl ?_
 refine A5 ⟨nofun, _, kS [3,4] [] rfl, ?_⟩
 refine A8 rfl (fun hc => ?_) (fun hc => ?_)
 ·try simp only [SG, List.length_map] at hc
  refine B9 ?_
  refine A8 rfl (fun hc => ?_) (fun hc => absurd hc (by simp_all))
  refine A4 <| A0 <| A3 rfl rfl rfl ?_
  refine A5 ⟨nofun, _, kS [2] [] rfl, ?_⟩
  refine B1 <| C6 rfl rfl trivial <| congrArg iV ?_
  simp_all [rch]
 try simp only [SG, List.length_map] at hc
 refine A0 <| K5 rfl rfl <| A3 rfl rfl rfl ?_
 refine A5 ⟨nofun, _, kS [3,4] [] rfl, ?_⟩
 refine A8 rfl (fun hc => ?_) (fun hc => ?_)
 ·try simp only [SG, List.length_map] at hc
  refine A4 <| A0 <| A3 rfl rfl rfl ?_
  refine A5 ⟨nofun, _, kS [2] [] rfl, ?_⟩
  refine B1 <| C6 rfl rfl trivial <| congrArg iV ?_
  simp_all [rch]
 try simp only [SG, List.length_map] at hc
 refine A4 <| A4 <| A0 <| K5 rfl rfl <| A3 rfl rfl rfl ?_
 refine A5 ⟨nofun, _, kS [3,13] [] rfl, ?_⟩
 refine A8 rfl (fun hc => ?_) (fun hc => ?_)
 ·try simp only [SG, List.length_map] at hc
  refine B9 ?_
  refine A8 rfl (fun hc => ?_) (fun hc => absurd hc (by simp_all))
  refine A4 <| A0 <| A3 rfl rfl rfl ?_
  refine A5 ⟨nofun, _, kS [2] [] rfl, ?_⟩
  refine B1 <| C6 rfl rfl trivial <| congrArg iV ?_
  simp_all [rch]
 try simp only [SG, List.length_map] at hc
 refine A0 <| K5 rfl rfl <| A3 rfl rfl rfl ?_
 refine A5 ⟨nofun, _, kS [3,13] [] rfl, ?_⟩
 refine A8 rfl (fun hc => ?_) (fun hc => ?_)
 ·try simp only [SG, List.length_map] at hc
  refine A4 <| A0 <| A3 rfl rfl rfl ?_
  refine A5 ⟨nofun, _, kS [2] [] rfl, ?_⟩
  refine B1 <| C6 rfl rfl trivial <| congrArg iV ?_
  simp_all [rch]
 try simp only [SG, List.length_map] at hc
 refine A4 <| A4 <| A0 <| K5 rfl rfl <| A3 rfl rfl rfl ?_
 refine A5 ⟨nofun, _, kS [3,16] [] rfl, ?_⟩
 refine A8 rfl (fun hc => ?_) (fun hc => ?_)
 ·try simp only [SG, List.length_map] at hc
  refine B9 ?_
  refine A8 rfl (fun hc => ?_) (fun hc => absurd hc (by simp_all))
  refine A4 <| A0 <| A3 rfl rfl rfl ?_
  refine A5 ⟨nofun, _, kS [2] [] rfl, ?_⟩
  refine B1 <| C6 rfl rfl trivial <| congrArg iV ?_
  simp_all [rch]
 try simp only [SG, List.length_map] at hc
 refine A4 <| A0 <| K5 rfl rfl <| A3 rfl rfl rfl ?_
 refine A5 ⟨nofun, _, kS [3,16] [] rfl, ?_⟩
 refine A8 rfl (fun hc => ?_) (fun hc => ?_)
 ·try simp only [SG, List.length_map] at hc
  refine B9 ?_
  refine A8 rfl (fun hc => ?_) (fun hc => absurd hc (by simp_all))
  refine A4 <| A0 <| A3 rfl rfl rfl ?_
  refine A5 ⟨nofun, _, kS [2] [] rfl, ?_⟩
  refine B1 <| C6 rfl rfl trivial <| congrArg iV ?_
  simp_all [rch]
 try simp only [SG, List.length_map] at hc
 refine A4 <| A0 <| K5 rfl rfl <| A3 rfl rfl rfl ?_
 refine A5 ⟨nofun, _, kS [3,16] [] rfl, ?_⟩
 refine A8 rfl (fun hc => ?_) (fun hc => ?_)
 ·try simp only [SG, List.length_map] at hc
  refine B9 ?_
  refine A8 rfl (fun hc => ?_) (fun hc => absurd hc (by simp_all))
  refine A4 <| A0 <| A3 rfl rfl rfl ?_
  refine A5 ⟨nofun, _, kS [2] [] rfl, ?_⟩
  refine B1 <| C6 rfl rfl trivial <| congrArg iV ?_
  simp_all [rch]
 try simp only [SG, List.length_map] at hc
 refine A0 <| K5 rfl rfl <| A3 rfl rfl rfl ?_
 refine A5 ⟨nofun, _, kS [16] [] rfl, ?_⟩
 refine A8 rfl (fun hc => ?_) (fun hc => ?_)
 ·try simp only [SG, List.length_map] at hc
  refine A4 <| A0 <| A3 rfl rfl rfl ?_
  refine A5 ⟨nofun, _, kS [2] [] rfl, ?_⟩
  refine B1 <| C6 rfl rfl trivial <| congrArg iV ?_
  simp_all [rch]
 try simp only [SG, List.length_map] at hc
 refine B9 <| A4 <| A0 <| A3 rfl rfl rfl ?_
 refine A5 ⟨nofun, _, kS [2] [] rfl, ?_⟩
 refine B1 <| C6 rfl rfl trivial <| congrArg iV ?_
 simp_all [rch]

theorem keep_s_number : G9 Tryd.f55 = [0, 2, 4, 10] := by kernel_rfl
set_option maxHeartbeats 20000000 in
theorem a6l (n : Int) (hn : -1000000 ≤ n ∧ n ≤ 1000000) : CW cxT 55 [iV n] = some (tV (dec n), []) := by
 obtain ⟨kk, hkk⟩ : ∃ kk : Nat, 2 * n.natAbs + (if n < 0 then 1 else 0) < kk := ⟨_, Nat.lt_succ_self _⟩
 revert n
 induction kk with
 | zero => intro n hn hkk; exact absurd hkk (Nat.not_lt_zero _)
 | succ kk ih =>
  intro n hn hkk
  refine G5 rfl Tryd.func55 rfl ⟨by kernel_rfl, rfl, of_decide_eq_true rfl, of_decide_eq_true rfl, by decide⟩ keep_s_number <| A4 <| A0 <| A3 rfl rfl rfl ?_
  refine A5 ⟨nofun, _, kS [0] [] rfl, ?_⟩
  refine A4 <| A4 <| A0 <| A6 rfl rfl <| O5 rfl rfl ?_
  refine A5 ⟨nofun, _, kS [0,4] [] rfl, ?_⟩
  refine A8 rfl (fun hc => ?_) (fun hc => ?_)
  ·try simp only [SG, List.length_map] at hc
   refine A4 <| A0 <| A6 rfl rfl <| c3z rfl (I9 (by omega)) ?_
   have hdl := U8 (m := -n) (by omega)
   apply D9 rfl
   ·apply B7
    ·exact B6 rfl
    exact D8
   ·exact ih (-n) (by omega) (by split at hkk <;> split <;> omega)
   ·exact ⟨rfl, rfl, rfl, of_decide_eq_true rfl, rfl⟩
   ·exact .inl rfl
   ·exact C0
   ·exact E6 rfl
   ·exact fun _ => rfl
   intro g7
   refine a8x rfl rfl (by simp only [I2, List.length_append, List.length_cons, List.length_nil]; omega) <| A3 rfl rfl rfl ?_
   refine A5 ⟨nofun, _, kS [2] [] rfl, ?_⟩
   refine B1 <| C6 rfl rfl trivial ?_
   exact congrArg tV (c2z (by assumption)).symm
  try simp only [SG, List.length_map] at hc
  refine B9 <| A4 <| A4 <| A0 <| A6 rfl rfl <| O5 rfl rfl ?_
  refine A5 ⟨nofun, _, kS [0,10] [] rfl, ?_⟩
  refine A8 rfl (fun hc => ?_) (fun hc => ?_)
  ·try simp only [SG, List.length_map] at hc
   refine A4 <| A0 <| A6 rfl rfl <| A6 rfl rfl <| R4 rfl rfl (I9 (by omega)) <| r6 rfl rfl (p7 rfl (by omega)) (p7 rfl (by omega)) (by (simp; omega)) <| A3 rfl rfl rfl ?_
   refine A5 ⟨nofun, _, kS [2] [] rfl, ?_⟩
   refine B1 <| C6 rfl rfl trivial ?_
   rw [c3b (by omega)]
  try simp only [SG, List.length_map] at hc
  refine B9 <| A4 <| A0 <| A6 rfl rfl ?_
  have hd10 : n.tdiv 10 = n / 10 := Int.tdiv_eq_ediv_of_nonneg (by omega)
  refine c5t rfl rfl ⟨by omega, I9 (by omega)⟩ ?_
  have hd10 : n.tdiv 10 = n / 10 := Int.tdiv_eq_ediv_of_nonneg (by omega)
  have hdl0 := U8 (m := n.tdiv 10) (by omega)
  apply D9 rfl
  ·apply B7
   ·exact B6 rfl
   exact D8
  ·exact ih (n.tdiv 10) (by omega) (by split at hkk <;> split <;> omega)
  ·exact ⟨rfl, rfl, rfl, of_decide_eq_true rfl, rfl⟩
  ·exact .inl rfl
  ·exact C0
  ·exact E6 rfl
  ·exact fun _ => rfl
  intro g17
  refine A6 rfl rfl <| c5k rfl rfl (by omega) ?_
  have hm10 : n.tmod 10 = n % 10 := Int.tmod_eq_emod_of_nonneg (by omega)
  have hdl1 := U8 (m := n.tmod 10) (by omega)
  apply D9 rfl
  ·apply B7
   ·exact B6 rfl
   exact D8
  ·exact ih (n.tmod 10) (by omega) (by split at hkk <;> split <;> omega)
  ·exact ⟨rfl, rfl, rfl, of_decide_eq_true rfl, rfl⟩
  ·exact .inl rfl
  ·exact C0
  ·exact E6 rfl
  ·exact fun _ => rfl
  intro g20
  refine a8x rfl rfl (by simp only [I2, List.length_append, List.length_cons, List.length_nil]; omega) <| A3 rfl rfl rfl ?_
  refine A5 ⟨nofun, _, kS [2] [] rfl, ?_⟩
  refine B1 <| C6 rfl rfl trivial ?_
  rw [← c5g (by omega)]

theorem keep_s_splitAt : G9 Tryd.f38 = [0, 1, 4, 7, 12, 19, 6, 5] := by kernel_rfl
set_option maxHeartbeats 20000000 in
theorem a8j (s : List UInt8) (hs : s.length ≤ 1048576) (c : UInt8) : CW cxT 38 [tV s, uV c.toNat] = some (.own 1 ((splitB c s).map tV), []) := by
 refine G5 rfl Tryd.func38 rfl ⟨by kernel_rfl, rfl, of_decide_eq_true rfl, of_decide_eq_true rfl, by decide⟩ keep_s_splitAt <| A4 <| A0 ?_
 (refine B3 rfl rfl (fun _ => rfl) ?_; intro g4)
 refine A5 ⟨nofun, _, kS [0,1] [] rfl, ?_⟩
 refine A4 <| A0 <| F9 (es := List.map tV []) rfl rfl (by decide) rfl rfl (fun _ => B5 (B2 fun _ => rfl)) (fun _ => rfl) ?_
 intro g8
 (refine C3 rfl rfl (by (simp; done)) rfl (fun _ => (B5 (by exact B2 fun _ => rfl))) (fun _ => rfl) ?_; intro g5)
 refine A5 ⟨nofun, _, kS [0,1,5] [5] rfl, ?_⟩
 refine A4 <| A0 <| A3 rfl rfl rfl ?_
 refine A5 ⟨nofun, _, kS [0,1,5,6] [5] rfl, ?_⟩
 refine A4 <| A4 <| A0 <| A3 rfl rfl rfl ?_
 refine A5 ⟨nofun, _, kS [0,1,5,6,7] [5] rfl, ?_⟩
 refine F0 <| S8 (β := Nat × Nat × List (List UInt8) × Nat) [(.t 0, _), (.t 1, _)] (fun (z : Nat × Nat × List (List UInt8) × Nat) => match z with | (i, fr, out, g) => [(.t 7, iV i), (.t 6, iV fr), (.t 5, .sl 5 g none 0 out.length), (.h 5, .obj g 0 1 (out.map tV))]) (fun (z : Nat × Nat × List (List UInt8) × Nat) => match z with | (i, fr, out, g) => i ≤ s.length ∧ fr ≤ i ∧ out.length ≤ i ∧ splitB c s = out ++ R5 ((s.drop fr).take (i - fr)) (splitB c (s.drop i))) (fun (z : Nat × Nat × List (List UInt8) × Nat) => match z with | (i, fr, out, g) => s.length - i) (0, 0, [], _) ⟨rfl, rfl, rfl, rfl, rfl, rfl, trivial⟩ ⟨Nat.zero_le _, Nat.le_refl _, Nat.le_refl _, by simp [a7r]⟩ ?_
 intro z hb
 obtain ⟨i, fr, out, g⟩ := z
 try dsimp only at hb
 obtain ⟨hi1, hfr, hol, hsp⟩ := hb
 refine A4 <| A4 <| A0 <| A6 rfl rfl <| A6 rfl rfl <| s8 rfl rfl <| O5 rfl rfl ?_
 refine A5 ⟨nofun, _, kS [0,1,5,6,7,12] [5] rfl, ?_⟩
 refine A8 rfl (fun hc => ?_) (fun hc => ?_)
 ·try simp only [SG, List.length_map] at hc
  refine B9 <| A4 <| F0 <| A4 <| A0 <| A6 rfl rfl <| A6 rfl rfl <| L9 rfl rfl rfl (by omega) <| A6 rfl rfl <| a6o rfl rfl ?_
  refine A5 ⟨nofun, _, kS [0,1,5,6,7,19] [5] rfl, ?_⟩
  refine A8 rfl (fun hc => ?_) (fun hc => ?_)
  ·try simp only [SG, List.length_map] at hc
   have hcb : s.getD i 0 = c := UInt8.toNat_inj.1 (by omega)
   refine A4 <| A0 <| A6 rfl rfl <| A6 rfl rfl <| A6 rfl rfl <| A6 rfl rfl <| r6 rfl rfl (G8 rfl) (G8 rfl) (by omega) <| F9 (es := List.map tV [_]) rfl rfl (by decide) rfl rfl (fun _ => B5 (B2 fun _ => rfl)) (fun _ => rfl) ?_
   intro g25
   refine J5 rfl rfl rfl rfl (by (simp; done)) (by simp) (by decide) rfl rfl rfl rfl (by decide) (fun _ => ⟨rfl, rfl⟩) (by simp only [I2]; (simp only [List.length_nil, List.length_cons, List.length_append, Nat.zero_add, List.length_map]; omega)) (fun _ => rfl) ?_
   intro g26
   (refine C3 rfl rfl (by (simp; done)) rfl (fun _ => (B5 (by exact B2 fun _ => rfl))) (fun _ => rfl) ?_; intro g5)
   refine A5 ⟨nofun, _, kS [0,1,5,7] [5] rfl, ?_⟩
   refine A0 <| A6 rfl rfl <| R4 rfl rfl (I9 (by omega)) <| A3 rfl rfl rfl ?_
   refine A5 ⟨nofun, _, kS [0,1,5,6,7] [5] rfl, ?_⟩
   refine A0 <| A6 rfl rfl <| R4 rfl rfl (I9 (by omega)) <| A3 rfl rfl rfl ?_
   refine A5 ⟨nofun, _, kS [0,1,5,6,7] [5] rfl, ?_⟩
   refine ⟨(i + 1, i + 1, out ++ [(s.drop fr).take (i - fr)], _), ?_, (by simp only; omega), ⟨rfl, rfl, rfl, rfl, rfl, rfl, trivial⟩⟩
   have hst := a5t (by omega) hfr hsp
   exact ⟨by omega, by omega, by simp; omega, hst.1 hcb⟩
  try simp only [SG, List.length_map] at hc
  have hcb : s.getD i 0 ≠ c := fun e => hc (by rw [e])
  refine B9 <| A0 <| A6 rfl rfl <| R4 rfl rfl (I9 (by omega)) <| A3 rfl rfl rfl ?_
  refine A5 ⟨nofun, _, kS [0,1,5,6,7] [5] rfl, ?_⟩
  refine ⟨(i + 1, fr, out, _), ?_, (by simp only; omega), ⟨rfl, rfl, rfl, rfl, rfl, rfl, trivial⟩⟩
  have hst := a5t (by omega) hfr hsp
  exact ⟨by omega, by omega, by omega, hst.2 hcb⟩
 try simp only [SG, List.length_map] at hc
 refine L8 <| A4 <| A0 <| A6 rfl rfl <| A6 rfl rfl <| A6 rfl rfl <| r6 rfl rfl J7 (G8 rfl) (by omega) <| F9 (es := List.map tV [_]) rfl rfl (by decide) rfl rfl (fun _ => B5 (B2 fun _ => rfl)) (fun _ => rfl) ?_
 intro g33
 refine J5 rfl rfl rfl rfl (by (simp; done)) (by simp) (by decide) rfl rfl rfl rfl (by decide) (fun _ => ⟨rfl, rfl⟩) (by simp only [I2]; (simp only [List.length_nil, List.length_cons, List.length_append, Nat.zero_add, List.length_map]; omega)) (fun _ => rfl) ?_
 intro g34
 (refine C3 rfl rfl (by (simp; done)) rfl (fun _ => (B5 (by exact B2 fun _ => rfl))) (fun _ => rfl) ?_; intro g4)
 refine A5 ⟨nofun, _, kS [4] [4] rfl, ?_⟩
 refine B1 <| c1u rfl rfl (by simp) (by exact B2 fun _ => rfl) trivial ?_
 have hil : i = s.length := by omega
 rw [hsp, hil, List.drop_length, splitB, R5, List.append_nil]

theorem keep_s_readList : G9 Tryd.f61 = [0, 2, 3, 5, 6, 17, 7, 8, 31, 10, 37, 9, 53, 62, 75, 4] := by kernel_rfl
set_option maxHeartbeats 20000000 in
theorem b4w (s : List UInt8) (hs : s.length ≤ 1048576) : CW cxT 61 [tV s] = some (.tup [.own 1 (((rdL s).getD []).map iV), bV (rdL s).isSome], []) := by
 obtain ⟨ps, hps⟩ : ∃ ps, ps = splitB 44 s := ⟨_, rfl⟩
 have hpl := Q1 44 s
 rw [← hps] at hpl
 have hpp := Y8 44 s
 rw [← hps] at hpp
 refine G5 rfl Tryd.func61 rfl ⟨by kernel_rfl, rfl, of_decide_eq_true rfl, of_decide_eq_true rfl, by decide⟩ keep_s_readList <| A4 <| A0 ?_
 (refine B3 rfl rfl (fun _ => rfl) ?_; intro g2)
 refine A3 rfl rfl rfl ?_
 refine A5 ⟨nofun, _, kS [0] [] rfl, ?_⟩
 refine A4 <| A0 <| F9 (es := List.map iV []) rfl rfl (by decide) rfl rfl (fun _ => B5 (B2 fun _ => rfl)) (fun _ => rfl) ?_
 intro g11
 (refine C3 rfl rfl (by (simp; done)) rfl (fun _ => (B5 (by exact B2 fun _ => rfl))) (fun _ => rfl) ?_; intro g4)
 refine A5 ⟨nofun, _, kS [0,4] [4] rfl, ?_⟩
 refine A4 <| A0 <| A6 rfl rfl ?_
 apply D9 rfl
 ·apply B7
  ·exact B6 rfl
  apply B7
  ·exact B6 rfl
  exact D8
 ·exact a8j s hs 44
 ·exact ⟨rfl, rfl, rfl, of_decide_eq_true rfl, rfl⟩
 ·exact .inl rfl
 ·exact C0
 ·exact a0y
 ·exact fun _ => rfl
 intro g13
 rw [← hps]
 try simp only [List.length_map]
 (refine C3 rfl rfl (by (simp; done)) rfl (fun _ => (B5 (by exact B2 fun _ => rfl))) (fun _ => rfl) ?_; intro g5)
 refine A5 ⟨nofun, _, kS [4,5] [4,5] rfl, ?_⟩
 refine A4 <| A4 <| A0 <| A3 rfl rfl rfl ?_
 refine A5 ⟨nofun, _, kS [4,5,6] [4,5] rfl, ?_⟩
 refine F0 <| S8 (β := Nat × List Int × Nat) [(.t 5, _), (.h 5, _)] (fun (z : Nat × List Int × Nat) => match z with | (i, ns, g) => [(.t 6, iV i), (.t 4, .sl 4 g none 0 ns.length), (.h 4, .obj g 0 1 (ns.map iV))]) (fun (z : Nat × List Int × Nat) => match z with | (i, ns, g) => i ≤ ps.length ∧ Y5 (ps.take i) = some ns) (fun (z : Nat × List Int × Nat) => match z with | (i, ns, g) => ps.length - i) (0, [], _) ⟨rfl, rfl, rfl, rfl, rfl, trivial⟩ ⟨Nat.zero_le _, rfl⟩ ?_
 intro z hb
 obtain ⟨i, ns, g⟩ := z
 try dsimp only at hb
 obtain ⟨hi1, hrd⟩ := hb
 have hnl := a2k hrd
 rw [List.length_take] at hnl
 have hpi := fun h : i < ps.length => hpp _ (c8 h)
 refine A4 <| A4 <| A0 <| A6 rfl rfl <| A6 rfl rfl <| a0i rfl rfl <| O5 rfl rfl ?_
 refine A5 ⟨nofun, _, kS [4,5,6,17] [4,5] rfl, ?_⟩
 refine A8 rfl (fun hc => ?_) (fun hc => ?_)
 ·try simp only [SG, List.length_map] at hc
  refine B9 <| A4 <| F0 <| A4 <| A0 <| A6 rfl rfl <| A6 rfl rfl <| V8 rfl rfl rfl rfl (by omega) (by (simp; done)) rfl <| V4 rfl rfl (by omega) (fun _ => rfl) (fun _ => rfl) rfl <| A3 rfl rfl rfl ?_
  refine A5 ⟨nofun, _, kS [4,5,6,7] [4,5] rfl, ?_⟩
  refine A4 <| A0 <| A6 rfl rfl <| a7w rfl rfl <| A6 rfl rfl ?_
  refine D6 rfl rfl (fun hg0 => ?_) (fun hg0 => ?_)
  ·have hg := hg0; try simp only [SG] at hg
   refine A6 rfl rfl <| gT rfl rfl ?_
   have hp0 : 0 < (ps.getD i default).length := List.length_pos_iff.2 (by assumption)
   refine L9 (n := 0) rfl rfl rfl hp0 <| gT rfl rfl <| a6o rfl rfl <| F6 rfl (by assumption) rfl rfl <| A3 rfl rfl rfl ?_
   refine A5 ⟨nofun, _, kS [4,5,6,7,8] [4,5] rfl, ?_⟩
   refine A4 <| A4 <| A0 <| A6 rfl rfl ?_
   refine A5 ⟨nofun, _, kS [4,5,6,7,8,31] [4,5] rfl, ?_⟩
   refine A8 rfl (fun hc => ?_) (fun hc => ?_)
   ·try simp only [SG, List.length_map] at hc
    obtain ⟨hng, hup⟩ := c5l (p := (ps.getD i default)) (by assumption) (by omega)
    have hul := a9u (ps.getD i default)
    rw [hup] at hul
    refine A0 <| A6 rfl rfl <| r6 rfl rfl J7 (G8 (n := 1) rfl) (by omega) <| A3 rfl rfl rfl ?_
    refine A5 ⟨nofun, _, kS [4,5,6,7,8] [4,5] rfl, ?_⟩
    refine A4 <| A0 <| A3 rfl rfl rfl ?_
    refine A5 ⟨nofun, _, kS [4,5,6,7,8,9] [4,5] rfl, ?_⟩
    refine A4 <| A4 <| A0 <| A3 rfl rfl rfl ?_
    refine A5 ⟨nofun, _, kS [4,5,6,7,8,9,10] [4,5] rfl, ?_⟩
    refine F0 ?_
    have hup0 := hup
    refine S8 (β := Nat × Int) [(.t 4, _), (.t 5, _), (.t 6, _), (.t 7, _), (.t 8, _), (.h 4, _), (.h 5, _)] (fun (z : Nat × Int) => match z with | (k, a) => [(.t 10, iV k), (.t 9, iV a)]) (fun (z : Nat × Int) => match z with | (k, a) => k ≤ (unS (ps.getD i default)).length ∧ 0 ≤ a ∧ R8 0 ((unS (ps.getD i default)).take k) = some a.toNat) (fun (z : Nat × Int) => match z with | (k, a) => (unS (ps.getD i default)).length - k) (0, 0) ⟨rfl, rfl, rfl, rfl, rfl, rfl, rfl, rfl, rfl, trivial⟩ ⟨Nat.zero_le _, by decide, rfl⟩ ?_
    intro z hb
    obtain ⟨k, a⟩ := z
    try dsimp only at hb
    obtain ⟨hk1, ha0, hdg⟩ := hb
    have hab := a3x (by decide) hdg
    rw [hup] at hk1 hdg
    refine A4 <| A4 <| A0 <| A6 rfl rfl <| A6 rfl rfl <| s8 rfl rfl <| O5 rfl rfl ?_
    refine A5 ⟨nofun, _, kS [4,5,6,7,8,9,10,37] [4,5] rfl, ?_⟩
    refine A8 rfl (fun hc => ?_) (fun hc => ?_)
    ·try simp only [SG, List.length_map] at hc
     refine B9 <| A4 <| F0 <| A4 <| A4 <| A0 <| A6 rfl rfl <| A6 rfl rfl <| L9 rfl rfl rfl (by omega) <| O5 rfl rfl <| A6 rfl rfl ?_
     refine D6 rfl rfl (fun hg0 => ?_) (fun hg0 => ?_)
     ·have hg := hg0; try simp only [SG] at hg
      refine A6 rfl rfl <| gT rfl rfl <| A6 rfl rfl <| gT rfl rfl <| L9 rfl rfl rfl (by omega) <| gT rfl rfl <| X9 rfl rfl <| G2 rfl (by assumption) rfl rfl <| A6 rfl rfl ?_
      refine D6 rfl rfl (fun hg0 => ?_) (fun hg0 => ?_)
      ·have hg := hg0; try simp only [SG] at hg
       refine A6 rfl rfl <| gT rfl rfl <| X9 rfl rfl <| G2 rfl (by assumption) rfl rfl ?_
       refine A5 ⟨nofun, _, kS [4,5,6,7,8,9,10,53] [4,5] rfl, ?_⟩
       refine A8 rfl (fun hc => ?_) (fun hc => ?_)
       ·try simp only [SG, List.length_map] at hc
        refine A4 <| A0 ?_
        (refine B3 rfl rfl (fun _ => rfl) ?_; intro g2)
        refine A3 rfl rfl rfl ?_
        refine A5 ⟨nofun, _, kS [2,3] [2] rfl, ?_⟩
        refine B1 <| C9 (F7 rfl rfl (by simp) (by rfl) (D3 rfl rfl (E5 C4))) ?_
        rw [rdL, ← hps, I3 (show i < ps.length by omega) (S9 (by rw [hup]; exact P2 (by omega) hdg (by omega)))]
        rfl
       try simp only [SG, List.length_map] at hc
       refine B9 <| A0 <| A6 rfl rfl <| b9k rfl rfl (I9 (by omega)) <| A6 rfl rfl <| A6 rfl rfl <| L9 rfl rfl rfl (by omega) <| a2j rfl rfl (c4t (by omega)) <| b5x rfl rfl rfl (I9 (by omega)) <| R4 rfl rfl (I9 (by omega)) <| A3 rfl rfl rfl ?_
       refine A5 ⟨nofun, _, kS [4,5,6,7,8,9,10] [4,5] rfl, ?_⟩
       refine A0 <| A6 rfl rfl <| R4 rfl rfl (I9 (by omega)) <| A3 rfl rfl rfl ?_
       refine A5 ⟨nofun, _, kS [4,5,6,7,8,9,10] [4,5] rfl, ?_⟩
       refine ⟨(k + 1, _), ?_, (by simp only [hup]; omega), ⟨rfl, rfl, rfl, rfl, rfl, rfl, rfl, rfl, rfl, trivial⟩⟩
       rw [hup]
       have hds := a1y (by omega) hdg (by omega)
       exact ⟨by omega, by omega, hds.trans (congrArg some (by omega))⟩
      have hg := hg0; try simp only [SG] at hg
      refine gF rfl rfl <| F6 rfl (by assumption) rfl rfl ?_
      refine A5 ⟨nofun, _, kS [4,5,6,7,8,9,10,53] [4,5] rfl, ?_⟩
      refine A8 rfl (fun hc => ?_) (fun hc => absurd hc (by decide))
      refine A4 <| A0 ?_
      (refine B3 rfl rfl (fun _ => rfl) ?_; intro g2)
      refine A3 rfl rfl rfl ?_
      refine A5 ⟨nofun, _, kS [2,3] [2] rfl, ?_⟩
      refine B1 <| C9 (F7 rfl rfl (by simp) (by rfl) (D3 rfl rfl (E5 C4))) ?_
      rw [rdL, ← hps, I3 (show i < ps.length by omega) (S9 (by rw [hup]; exact P2 (by omega) hdg (by omega)))]
      rfl
     have hg := hg0; try simp only [SG] at hg
     refine gF rfl rfl <| gF rfl rfl <| gF rfl rfl <| F6 rfl (by assumption) rfl rfl <| A6 rfl rfl <| G3 rfl rfl rfl <| G3 rfl rfl rfl <| F6 rfl rfl rfl rfl ?_
     refine A5 ⟨nofun, _, kS [4,5,6,7,8,9,10,53] [4,5] rfl, ?_⟩
     refine A8 rfl (fun hc => ?_) (fun hc => absurd hc (by decide))
     refine A4 <| A0 ?_
     (refine B3 rfl rfl (fun _ => rfl) ?_; intro g2)
     refine A3 rfl rfl rfl ?_
     refine A5 ⟨nofun, _, kS [2,3] [2] rfl, ?_⟩
     refine B1 <| C9 (F7 rfl rfl (by simp) (by rfl) (D3 rfl rfl (E5 C4))) ?_
     rw [rdL, ← hps, I3 (show i < ps.length by omega) (S9 (by rw [hup]; exact P2 (by omega) hdg (by omega)))]
     rfl
    try simp only [SG, List.length_map] at hc
    have hdU : R8 0 (unS (ps.getD i default)) = some a.toNat := by rw [hup]; rw [List.take_of_length_le (by omega)] at hdg; exact hdg
    refine L8 <| A4 <| A4 <| A0 <| A6 rfl rfl ?_
    refine A5 ⟨nofun, _, kS [4,5,6,7,9,62] [4,5] rfl, ?_⟩
    refine A8 rfl (fun hc => ?_) (fun hc => absurd hc (by simp_all))
    refine A0 <| A6 rfl rfl <| c3z rfl (I9 (by omega)) <| A3 rfl rfl rfl ?_
    refine A5 ⟨nofun, _, kS [4,5,6,7,9] [4,5] rfl, ?_⟩
    refine A4 <| A4 <| A0 <| A6 rfl rfl <| b2c rfl rfl <| A6 rfl rfl ?_
    refine D6 rfl rfl (fun hg0 => ?_) (fun hg0 => ?_)
    ·have hg := hg0; try simp only [SG] at hg
     refine A6 rfl rfl <| gT rfl rfl ?_
     have hdl1 := U8 (m := -a) (by omega)
     have hdl2 := U8 (m := a) (by omega)
     apply D9 rfl
     ·apply B7
      ·exact B6 rfl
      exact D8
     ·exact a6l (-a) (by omega)
     ·exact ⟨rfl, rfl, rfl, of_decide_eq_true rfl, rfl⟩
     ·exact .inl rfl
     ·exact C0
     ·exact E6 rfl
     ·exact fun _ => rfl
     intro g69
     refine gT rfl rfl <| A6 rfl rfl <| gT rfl rfl <| A6 rfl rfl <| gT rfl rfl <| V8 rfl rfl rfl rfl (by omega) (by (simp; done)) rfl <| gT rfl rfl <| V4 rfl rfl (by omega) (fun _ => rfl) (fun _ => rfl) rfl <| gT rfl rfl <| a7w rfl rfl <| G2 rfl (by assumption) rfl rfl ?_
     refine A5 ⟨fun _ => ⟨by (simp only [n6, List.nil_append, List.append_nil, List.map_cons, List.map_nil, List.cons_append]; decide +kernel), by decide +kernel⟩, [(.t 4, _), (.t 5, _), (.t 6, _), (.t 9, _), (.t 75, _), (.h 4, _), (.h 5, _)], ⟨rfl, rfl, rfl, rfl, rfl, rfl, rfl, rfl, rfl, rfl, rfl, rfl, rfl, rfl, trivial⟩, ?_⟩
     refine A8 rfl (fun hc => ?_) (fun hc => ?_)
     ·try simp only [SG, List.length_map] at hc
      refine A4 <| A0 ?_
      (refine B3 rfl rfl (fun _ => rfl) ?_; intro g2)
      refine A3 rfl rfl rfl ?_
      refine A5 ⟨nofun, _, kS [2,3] [2] rfl, ?_⟩
      refine B1 <| C9 (F7 rfl rfl (by simp) (by rfl) (D3 rfl rfl (E5 C4))) ?_
      have hno : rdI (ps.getD i default) = none := by exact a1v (m := -a) hdU (by (rw [hng, if_pos rfl]; omega)) (by exact .inr (by assumption))
      rw [rdL, ← hps, I3 (show i < ps.length by omega) hno]
      rfl
     try simp only [SG, List.length_map] at hc
     have hri := b3y (m := -a) hdU (by (rw [hng, if_pos rfl]; omega)) (by rw [hup]; assumption) (by assumption)
     refine B9 <| A0 <| A6 rfl rfl <| A6 rfl rfl <| F9 (es := List.map iV [_]) rfl rfl (by decide) rfl rfl (fun _ => B5 (B2 fun _ => rfl)) (fun _ => rfl) ?_
     intro g78
     refine J5 rfl rfl rfl rfl (by (simp; done)) (by simp) (by decide) rfl rfl rfl rfl (by decide) (fun _ => ⟨rfl, rfl⟩) (by simp only [I2]; (simp only [List.length_nil, List.length_cons, List.length_append, Nat.zero_add, List.length_map]; omega)) (fun _ => rfl) ?_
     intro g79
     (refine C3 rfl rfl (by (simp; done)) rfl (fun _ => (B5 (by exact B2 fun _ => rfl))) (fun _ => rfl) ?_; intro g4)
     refine A5 ⟨nofun, _, kS [4,5,6] [4,5] rfl, ?_⟩
     refine A0 <| A6 rfl rfl <| R4 rfl rfl (I9 (by omega)) <| A3 rfl rfl rfl ?_
     refine A5 ⟨nofun, _, kS [4,5,6] [4,5] rfl, ?_⟩
     refine ⟨(i + 1, ns ++ [-a], _), ?_, (by simp only; omega), ⟨rfl, rfl, rfl, rfl, rfl, trivial⟩⟩
     exact ⟨by omega, a1i (by omega) hrd hri⟩
    have hg := hg0; try simp only [SG] at hg
    refine gF rfl rfl <| gF rfl rfl <| gF rfl rfl <| gF rfl rfl <| gF rfl rfl <| gF rfl rfl <| F6 rfl (by assumption) rfl rfl ?_
    refine A5 ⟨fun _ => ⟨by decide +kernel, by decide +kernel⟩, [(.t 4, _), (.t 5, _), (.t 6, _), (.t 9, _), (.t 75, _), (.h 4, _), (.h 5, _)], ⟨rfl, rfl, rfl, rfl, rfl, rfl, rfl, rfl, rfl, rfl, rfl, rfl, rfl, rfl, trivial⟩, ?_⟩
    refine A8 rfl (fun hc => ?_) (fun hc => absurd hc (by decide))
    refine A4 <| A0 ?_
    (refine B3 rfl rfl (fun _ => rfl) ?_; intro g2)
    refine A3 rfl rfl rfl ?_
    refine A5 ⟨nofun, _, kS [2,3] [2] rfl, ?_⟩
    refine B1 <| C9 (F7 rfl rfl (by simp) (by rfl) (D3 rfl rfl (E5 C4))) ?_
    have hno : rdI (ps.getD i default) = none := by exact a1v (m := -a) hdU (by (rw [hng, if_pos rfl]; omega)) (by exact .inl (by rw [hup]; assumption))
    rw [rdL, ← hps, I3 (show i < ps.length by omega) hno]
    rfl
   try simp only [SG, List.length_map] at hc
   obtain ⟨hng, hup⟩ := c3r (p := (ps.getD i default)) (by exact .inr (by omega))
   have hul := a9u (ps.getD i default)
   rw [hup] at hul
   refine B9 <| A4 <| A0 <| A3 rfl rfl rfl ?_
   refine A5 ⟨nofun, _, kS [4,5,6,7,8,9] [4,5] rfl, ?_⟩
   refine A4 <| A4 <| A0 <| A3 rfl rfl rfl ?_
   refine A5 ⟨nofun, _, kS [4,5,6,7,8,9,10] [4,5] rfl, ?_⟩
   refine F0 ?_
   have hup0 := hup
   refine S8 (β := Nat × Int) [(.t 4, _), (.t 5, _), (.t 6, _), (.t 7, _), (.t 8, _), (.h 4, _), (.h 5, _)] (fun (z : Nat × Int) => match z with | (k, a) => [(.t 10, iV k), (.t 9, iV a)]) (fun (z : Nat × Int) => match z with | (k, a) => k ≤ (unS (ps.getD i default)).length ∧ 0 ≤ a ∧ R8 0 ((unS (ps.getD i default)).take k) = some a.toNat) (fun (z : Nat × Int) => match z with | (k, a) => (unS (ps.getD i default)).length - k) (0, 0) ⟨rfl, rfl, rfl, rfl, rfl, rfl, rfl, rfl, rfl, trivial⟩ ⟨Nat.zero_le _, by decide, rfl⟩ ?_
   intro z hb
   obtain ⟨k, a⟩ := z
   try dsimp only at hb
   obtain ⟨hk1, ha0, hdg⟩ := hb
   have hab := a3x (by decide) hdg
   rw [hup] at hk1 hdg
   refine A4 <| A4 <| A0 <| A6 rfl rfl <| A6 rfl rfl <| s8 rfl rfl <| O5 rfl rfl ?_
   refine A5 ⟨nofun, _, kS [4,5,6,7,8,9,10,37] [4,5] rfl, ?_⟩
   refine A8 rfl (fun hc => ?_) (fun hc => ?_)
   ·try simp only [SG, List.length_map] at hc
    refine B9 <| A4 <| F0 <| A4 <| A4 <| A0 <| A6 rfl rfl <| A6 rfl rfl <| L9 rfl rfl rfl (by omega) <| O5 rfl rfl <| A6 rfl rfl ?_
    refine D6 rfl rfl (fun hg0 => ?_) (fun hg0 => ?_)
    ·have hg := hg0; try simp only [SG] at hg
     refine A6 rfl rfl <| gT rfl rfl <| A6 rfl rfl <| gT rfl rfl <| L9 rfl rfl rfl (by omega) <| gT rfl rfl <| X9 rfl rfl <| G2 rfl (by assumption) rfl rfl <| A6 rfl rfl ?_
     refine D6 rfl rfl (fun hg0 => ?_) (fun hg0 => ?_)
     ·have hg := hg0; try simp only [SG] at hg
      refine A6 rfl rfl <| gT rfl rfl <| X9 rfl rfl <| G2 rfl (by assumption) rfl rfl ?_
      refine A5 ⟨nofun, _, kS [4,5,6,7,8,9,10,53] [4,5] rfl, ?_⟩
      refine A8 rfl (fun hc => ?_) (fun hc => ?_)
      ·try simp only [SG, List.length_map] at hc
       refine A4 <| A0 ?_
       (refine B3 rfl rfl (fun _ => rfl) ?_; intro g2)
       refine A3 rfl rfl rfl ?_
       refine A5 ⟨nofun, _, kS [2,3] [2] rfl, ?_⟩
       refine B1 <| C9 (F7 rfl rfl (by simp) (by rfl) (D3 rfl rfl (E5 C4))) ?_
       rw [rdL, ← hps, I3 (show i < ps.length by omega) (S9 (by rw [hup]; exact P2 (by omega) hdg (by omega)))]
       rfl
      try simp only [SG, List.length_map] at hc
      refine B9 <| A0 <| A6 rfl rfl <| b9k rfl rfl (I9 (by omega)) <| A6 rfl rfl <| A6 rfl rfl <| L9 rfl rfl rfl (by omega) <| a2j rfl rfl (c4t (by omega)) <| b5x rfl rfl rfl (I9 (by omega)) <| R4 rfl rfl (I9 (by omega)) <| A3 rfl rfl rfl ?_
      refine A5 ⟨nofun, _, kS [4,5,6,7,8,9,10] [4,5] rfl, ?_⟩
      refine A0 <| A6 rfl rfl <| R4 rfl rfl (I9 (by omega)) <| A3 rfl rfl rfl ?_
      refine A5 ⟨nofun, _, kS [4,5,6,7,8,9,10] [4,5] rfl, ?_⟩
      refine ⟨(k + 1, _), ?_, (by simp only [hup]; omega), ⟨rfl, rfl, rfl, rfl, rfl, rfl, rfl, rfl, rfl, trivial⟩⟩
      rw [hup]
      have hds := a1y (by omega) hdg (by omega)
      exact ⟨by omega, by omega, hds.trans (congrArg some (by omega))⟩
     have hg := hg0; try simp only [SG] at hg
     refine gF rfl rfl <| F6 rfl (by assumption) rfl rfl ?_
     refine A5 ⟨nofun, _, kS [4,5,6,7,8,9,10,53] [4,5] rfl, ?_⟩
     refine A8 rfl (fun hc => ?_) (fun hc => absurd hc (by decide))
     refine A4 <| A0 ?_
     (refine B3 rfl rfl (fun _ => rfl) ?_; intro g2)
     refine A3 rfl rfl rfl ?_
     refine A5 ⟨nofun, _, kS [2,3] [2] rfl, ?_⟩
     refine B1 <| C9 (F7 rfl rfl (by simp) (by rfl) (D3 rfl rfl (E5 C4))) ?_
     rw [rdL, ← hps, I3 (show i < ps.length by omega) (S9 (by rw [hup]; exact P2 (by omega) hdg (by omega)))]
     rfl
    have hg := hg0; try simp only [SG] at hg
    refine gF rfl rfl <| gF rfl rfl <| gF rfl rfl <| F6 rfl (by assumption) rfl rfl <| A6 rfl rfl <| G3 rfl rfl rfl <| G3 rfl rfl rfl <| F6 rfl rfl rfl rfl ?_
    refine A5 ⟨nofun, _, kS [4,5,6,7,8,9,10,53] [4,5] rfl, ?_⟩
    refine A8 rfl (fun hc => ?_) (fun hc => absurd hc (by decide))
    refine A4 <| A0 ?_
    (refine B3 rfl rfl (fun _ => rfl) ?_; intro g2)
    refine A3 rfl rfl rfl ?_
    refine A5 ⟨nofun, _, kS [2,3] [2] rfl, ?_⟩
    refine B1 <| C9 (F7 rfl rfl (by simp) (by rfl) (D3 rfl rfl (E5 C4))) ?_
    rw [rdL, ← hps, I3 (show i < ps.length by omega) (S9 (by rw [hup]; exact P2 (by omega) hdg (by omega)))]
    rfl
   try simp only [SG, List.length_map] at hc
   have hdU : R8 0 (unS (ps.getD i default)) = some a.toNat := by rw [hup]; rw [List.take_of_length_le (by omega)] at hdg; exact hdg
   refine L8 <| A4 <| A4 <| A0 <| A6 rfl rfl ?_
   refine A5 ⟨nofun, _, kS [4,5,6,7,9,62] [4,5] rfl, ?_⟩
   refine A8 rfl (fun hc => absurd hc (by simp_all)) (fun hc => ?_)
   refine B9 <| A4 <| A4 <| A0 <| A6 rfl rfl <| b2c rfl rfl <| A6 rfl rfl ?_
   refine D6 rfl rfl (fun hg0 => ?_) (fun hg0 => ?_)
   ·have hg := hg0; try simp only [SG] at hg
    refine A6 rfl rfl <| gT rfl rfl ?_
    have hdl1 := U8 (m := -a) (by omega)
    have hdl2 := U8 (m := a) (by omega)
    apply D9 rfl
    ·apply B7
     ·exact B6 rfl
     exact D8
    ·exact a6l a (by omega)
    ·exact ⟨rfl, rfl, rfl, of_decide_eq_true rfl, rfl⟩
    ·exact .inl rfl
    ·exact C0
    ·exact E6 rfl
    ·exact fun _ => rfl
    intro g69
    refine gT rfl rfl <| A6 rfl rfl <| gT rfl rfl <| A6 rfl rfl <| gT rfl rfl <| V8 rfl rfl rfl rfl (by omega) (by (simp; done)) rfl <| gT rfl rfl <| V4 rfl rfl (by omega) (fun _ => rfl) (fun _ => rfl) rfl <| gT rfl rfl <| a7w rfl rfl <| G2 rfl (by assumption) rfl rfl ?_
    refine A5 ⟨fun _ => ⟨by (simp only [n6, List.nil_append, List.append_nil, List.map_cons, List.map_nil, List.cons_append]; decide +kernel), by decide +kernel⟩, [(.t 4, _), (.t 5, _), (.t 6, _), (.t 9, _), (.t 75, _), (.h 4, _), (.h 5, _)], ⟨rfl, rfl, rfl, rfl, rfl, rfl, rfl, rfl, rfl, rfl, rfl, rfl, rfl, rfl, trivial⟩, ?_⟩
    refine A8 rfl (fun hc => ?_) (fun hc => ?_)
    ·try simp only [SG, List.length_map] at hc
     refine A4 <| A0 ?_
     (refine B3 rfl rfl (fun _ => rfl) ?_; intro g2)
     refine A3 rfl rfl rfl ?_
     refine A5 ⟨nofun, _, kS [2,3] [2] rfl, ?_⟩
     refine B1 <| C9 (F7 rfl rfl (by simp) (by rfl) (D3 rfl rfl (E5 C4))) ?_
     have hno : rdI (ps.getD i default) = none := by exact a1v (m := a) hdU (by (rw [hng, if_neg (by decide)]; omega)) (by exact .inr (by assumption))
     rw [rdL, ← hps, I3 (show i < ps.length by omega) hno]
     rfl
    try simp only [SG, List.length_map] at hc
    have hri := b3y (m := a) hdU (by (rw [hng, if_neg (by decide)]; omega)) (by rw [hup]; assumption) (by assumption)
    refine B9 <| A0 <| A6 rfl rfl <| A6 rfl rfl <| F9 (es := List.map iV [_]) rfl rfl (by decide) rfl rfl (fun _ => B5 (B2 fun _ => rfl)) (fun _ => rfl) ?_
    intro g78
    refine J5 rfl rfl rfl rfl (by (simp; done)) (by simp) (by decide) rfl rfl rfl rfl (by decide) (fun _ => ⟨rfl, rfl⟩) (by simp only [I2]; (simp only [List.length_nil, List.length_cons, List.length_append, Nat.zero_add, List.length_map]; omega)) (fun _ => rfl) ?_
    intro g79
    (refine C3 rfl rfl (by (simp; done)) rfl (fun _ => (B5 (by exact B2 fun _ => rfl))) (fun _ => rfl) ?_; intro g4)
    refine A5 ⟨nofun, _, kS [4,5,6] [4,5] rfl, ?_⟩
    refine A0 <| A6 rfl rfl <| R4 rfl rfl (I9 (by omega)) <| A3 rfl rfl rfl ?_
    refine A5 ⟨nofun, _, kS [4,5,6] [4,5] rfl, ?_⟩
    refine ⟨(i + 1, ns ++ [a], _), ?_, (by simp only; omega), ⟨rfl, rfl, rfl, rfl, rfl, trivial⟩⟩
    exact ⟨by omega, a1i (by omega) hrd hri⟩
   have hg := hg0; try simp only [SG] at hg
   refine gF rfl rfl <| gF rfl rfl <| gF rfl rfl <| gF rfl rfl <| gF rfl rfl <| gF rfl rfl <| F6 rfl (by assumption) rfl rfl ?_
   refine A5 ⟨fun _ => ⟨by decide +kernel, by decide +kernel⟩, [(.t 4, _), (.t 5, _), (.t 6, _), (.t 9, _), (.t 75, _), (.h 4, _), (.h 5, _)], ⟨rfl, rfl, rfl, rfl, rfl, rfl, rfl, rfl, rfl, rfl, rfl, rfl, rfl, rfl, trivial⟩, ?_⟩
   refine A8 rfl (fun hc => ?_) (fun hc => absurd hc (by decide))
   refine A4 <| A0 ?_
   (refine B3 rfl rfl (fun _ => rfl) ?_; intro g2)
   refine A3 rfl rfl rfl ?_
   refine A5 ⟨nofun, _, kS [2,3] [2] rfl, ?_⟩
   refine B1 <| C9 (F7 rfl rfl (by simp) (by rfl) (D3 rfl rfl (E5 C4))) ?_
   have hno : rdI (ps.getD i default) = none := by exact a1v (m := a) hdU (by (rw [hng, if_neg (by decide)]; omega)) (by exact .inl (by rw [hup]; assumption))
   rw [rdL, ← hps, I3 (show i < ps.length by omega) hno]
   rfl
  have hg := hg0; try simp only [SG] at hg
  refine gF rfl rfl <| gF rfl rfl <| G2 rfl (by assumption) rfl rfl <| A3 rfl rfl rfl ?_
  refine A5 ⟨nofun, _, kS [4,5,6,7,8] [4,5] rfl, ?_⟩
  refine A4 <| A4 <| A0 <| A6 rfl rfl ?_
  refine A5 ⟨nofun, _, kS [4,5,6,7,8,31] [4,5] rfl, ?_⟩
  refine A8 rfl (fun hc => absurd hc (by decide)) (fun hc => ?_)
  refine B9 <| A4 <| A0 <| A3 rfl rfl rfl ?_
  refine A5 ⟨nofun, _, kS [4,5,6,7,8,9] [4,5] rfl, ?_⟩
  refine A4 <| A4 <| A0 <| A3 rfl rfl rfl ?_
  refine A5 ⟨nofun, _, kS [4,5,6,7,8,9,10] [4,5] rfl, ?_⟩
  refine F0 ?_
  (obtain ⟨hng, hup⟩ := c3r (p := (ps.getD i default)) (.inl (by assumption)); have hul := a9u (ps.getD i default); rw [hup] at hul)
  refine S8 (β := Nat × Int) [(.t 4, _), (.t 5, _), (.t 6, _), (.t 7, _), (.t 8, _), (.h 4, _), (.h 5, _)] (fun (z : Nat × Int) => match z with | (k, a) => [(.t 10, iV k), (.t 9, iV a)]) (fun (z : Nat × Int) => match z with | (k, a) => k ≤ (unS (ps.getD i default)).length ∧ 0 ≤ a ∧ R8 0 ((unS (ps.getD i default)).take k) = some a.toNat) (fun (z : Nat × Int) => match z with | (k, a) => (unS (ps.getD i default)).length - k) (0, 0) ⟨rfl, rfl, rfl, rfl, rfl, rfl, rfl, rfl, rfl, trivial⟩ ⟨Nat.zero_le _, by decide, rfl⟩ ?_
  intro z hb
  obtain ⟨k, a⟩ := z
  try dsimp only at hb
  obtain ⟨hk1, ha0, hdg⟩ := hb
  have hab := a3x (by decide) hdg
  rw [hup] at hk1 hdg
  refine A4 <| A4 <| A0 <| A6 rfl rfl <| A6 rfl rfl <| s8 rfl rfl <| O5 rfl rfl ?_
  refine A5 ⟨nofun, _, kS [4,5,6,7,8,9,10,37] [4,5] rfl, ?_⟩
  refine A8 rfl (fun hc => ?_) (fun hc => ?_)
  ·try simp only [SG, List.length_map] at hc
   refine B9 <| A4 <| F0 <| A4 <| A4 <| A0 <| A6 rfl rfl <| A6 rfl rfl <| L9 rfl rfl rfl (by omega) <| O5 rfl rfl <| A6 rfl rfl ?_
   refine D6 rfl rfl (fun hg0 => ?_) (fun hg0 => ?_)
   ·have hg := hg0; try simp only [SG] at hg
    refine A6 rfl rfl <| gT rfl rfl <| A6 rfl rfl <| gT rfl rfl <| L9 rfl rfl rfl (by omega) <| gT rfl rfl <| X9 rfl rfl <| G2 rfl (by assumption) rfl rfl <| A6 rfl rfl ?_
    refine D6 rfl rfl (fun hg0 => ?_) (fun hg0 => ?_)
    ·have hg := hg0; try simp only [SG] at hg
     refine A6 rfl rfl <| gT rfl rfl <| X9 rfl rfl <| G2 rfl (by assumption) rfl rfl ?_
     refine A5 ⟨nofun, _, kS [4,5,6,7,8,9,10,53] [4,5] rfl, ?_⟩
     refine A8 rfl (fun hc => ?_) (fun hc => ?_)
     ·try simp only [SG, List.length_map] at hc
      refine A4 <| A0 ?_
      (refine B3 rfl rfl (fun _ => rfl) ?_; intro g2)
      refine A3 rfl rfl rfl ?_
      refine A5 ⟨nofun, _, kS [2,3] [2] rfl, ?_⟩
      refine B1 <| C9 (F7 rfl rfl (by simp) (by rfl) (D3 rfl rfl (E5 C4))) ?_
      rw [rdL, ← hps, I3 (show i < ps.length by omega) (S9 (by rw [hup]; exact P2 (by omega) hdg (by omega)))]
      rfl
     try simp only [SG, List.length_map] at hc
     refine B9 <| A0 <| A6 rfl rfl <| b9k rfl rfl (I9 (by omega)) <| A6 rfl rfl <| A6 rfl rfl <| L9 rfl rfl rfl (by omega) <| a2j rfl rfl (c4t (by omega)) <| b5x rfl rfl rfl (I9 (by omega)) <| R4 rfl rfl (I9 (by omega)) <| A3 rfl rfl rfl ?_
     refine A5 ⟨nofun, _, kS [4,5,6,7,8,9,10] [4,5] rfl, ?_⟩
     refine A0 <| A6 rfl rfl <| R4 rfl rfl (I9 (by omega)) <| A3 rfl rfl rfl ?_
     refine A5 ⟨nofun, _, kS [4,5,6,7,8,9,10] [4,5] rfl, ?_⟩
     refine ⟨(k + 1, _), ?_, (by simp only [hup]; omega), ⟨rfl, rfl, rfl, rfl, rfl, rfl, rfl, rfl, rfl, trivial⟩⟩
     rw [hup]
     have hds := a1y (by omega) hdg (by omega)
     exact ⟨by omega, by omega, hds.trans (congrArg some (by omega))⟩
    have hg := hg0; try simp only [SG] at hg
    refine gF rfl rfl <| F6 rfl (by assumption) rfl rfl ?_
    refine A5 ⟨nofun, _, kS [4,5,6,7,8,9,10,53] [4,5] rfl, ?_⟩
    refine A8 rfl (fun hc => ?_) (fun hc => absurd hc (by decide))
    refine A4 <| A0 ?_
    (refine B3 rfl rfl (fun _ => rfl) ?_; intro g2)
    refine A3 rfl rfl rfl ?_
    refine A5 ⟨nofun, _, kS [2,3] [2] rfl, ?_⟩
    refine B1 <| C9 (F7 rfl rfl (by simp) (by rfl) (D3 rfl rfl (E5 C4))) ?_
    rw [rdL, ← hps, I3 (show i < ps.length by omega) (S9 (by rw [hup]; exact P2 (by omega) hdg (by omega)))]
    rfl
   have hg := hg0; try simp only [SG] at hg
   refine gF rfl rfl <| gF rfl rfl <| gF rfl rfl <| F6 rfl (by assumption) rfl rfl <| A6 rfl rfl <| G3 rfl rfl rfl <| G3 rfl rfl rfl <| F6 rfl rfl rfl rfl ?_
   refine A5 ⟨nofun, _, kS [4,5,6,7,8,9,10,53] [4,5] rfl, ?_⟩
   refine A8 rfl (fun hc => ?_) (fun hc => absurd hc (by decide))
   refine A4 <| A0 ?_
   (refine B3 rfl rfl (fun _ => rfl) ?_; intro g2)
   refine A3 rfl rfl rfl ?_
   refine A5 ⟨nofun, _, kS [2,3] [2] rfl, ?_⟩
   refine B1 <| C9 (F7 rfl rfl (by simp) (by rfl) (D3 rfl rfl (E5 C4))) ?_
   rw [rdL, ← hps, I3 (show i < ps.length by omega) (S9 (by rw [hup]; exact P2 (by omega) hdg (by omega)))]
   rfl
  try simp only [SG, List.length_map] at hc
  have hdU : R8 0 (unS (ps.getD i default)) = some a.toNat := by rw [hup]; rw [List.take_of_length_le (by omega)] at hdg; exact hdg
  refine L8 <| A4 <| A4 <| A0 <| A6 rfl rfl ?_
  refine A5 ⟨nofun, _, kS [4,5,6,7,9,62] [4,5] rfl, ?_⟩
  refine A8 rfl (fun hc => absurd hc (by decide)) (fun hc => ?_)
  refine B9 <| A4 <| A4 <| A0 <| A6 rfl rfl <| b2c rfl rfl <| A6 rfl rfl ?_
  refine D6 rfl rfl (fun hg0 => ?_) (fun hg0 => ?_)
  ·have hg := hg0; try simp only [SG] at hg
   refine A6 rfl rfl <| gT rfl rfl ?_
   have hdl1 := U8 (m := -a) (by omega)
   have hdl2 := U8 (m := a) (by omega)
   apply D9 rfl
   ·apply B7
    ·exact B6 rfl
    exact D8
   ·exact a6l a (by omega)
   ·exact ⟨rfl, rfl, rfl, of_decide_eq_true rfl, rfl⟩
   ·exact .inl rfl
   ·exact C0
   ·exact E6 rfl
   ·exact fun _ => rfl
   intro g69
   refine gT rfl rfl <| A6 rfl rfl <| gT rfl rfl <| A6 rfl rfl <| gT rfl rfl <| V8 rfl rfl rfl rfl (by omega) (by (simp; done)) rfl <| gT rfl rfl <| V4 rfl rfl (by omega) (fun _ => rfl) (fun _ => rfl) rfl <| gT rfl rfl <| a7w rfl rfl <| G2 rfl (by assumption) rfl rfl ?_
   refine A5 ⟨fun _ => ⟨by (simp only [n6, List.nil_append, List.append_nil, List.map_cons, List.map_nil, List.cons_append]; decide +kernel), by decide +kernel⟩, [(.t 4, _), (.t 5, _), (.t 6, _), (.t 9, _), (.t 75, _), (.h 4, _), (.h 5, _)], ⟨rfl, rfl, rfl, rfl, rfl, rfl, rfl, rfl, rfl, rfl, rfl, rfl, rfl, rfl, trivial⟩, ?_⟩
   refine A8 rfl (fun hc => ?_) (fun hc => ?_)
   ·try simp only [SG, List.length_map] at hc
    refine A4 <| A0 ?_
    (refine B3 rfl rfl (fun _ => rfl) ?_; intro g2)
    refine A3 rfl rfl rfl ?_
    refine A5 ⟨nofun, _, kS [2,3] [2] rfl, ?_⟩
    refine B1 <| C9 (F7 rfl rfl (by simp) (by rfl) (D3 rfl rfl (E5 C4))) ?_
    have hno : rdI (ps.getD i default) = none := by exact a1v (m := a) hdU (by (rw [hng, if_neg (by decide)]; omega)) (by exact .inl (by rw [hup]; assumption))
    rw [rdL, ← hps, I3 (show i < ps.length by omega) hno]
    rfl
   try simp only [SG, List.length_map] at hc
   have hri := b3y (m := a) hdU (by (rw [hng, if_neg (by decide)]; omega)) (by rw [hup]; assumption) (by assumption)
   refine B9 <| A0 <| A6 rfl rfl <| A6 rfl rfl <| F9 (es := List.map iV [_]) rfl rfl (by decide) rfl rfl (fun _ => B5 (B2 fun _ => rfl)) (fun _ => rfl) ?_
   intro g78
   refine J5 rfl rfl rfl rfl (by (simp; done)) (by simp) (by decide) rfl rfl rfl rfl (by decide) (fun _ => ⟨rfl, rfl⟩) (by simp only [I2]; (simp only [List.length_nil, List.length_cons, List.length_append, Nat.zero_add, List.length_map]; omega)) (fun _ => rfl) ?_
   intro g79
   (refine C3 rfl rfl (by (simp; done)) rfl (fun _ => (B5 (by exact B2 fun _ => rfl))) (fun _ => rfl) ?_; intro g4)
   refine A5 ⟨nofun, _, kS [4,5,6] [4,5] rfl, ?_⟩
   refine A0 <| A6 rfl rfl <| R4 rfl rfl (I9 (by omega)) <| A3 rfl rfl rfl ?_
   refine A5 ⟨nofun, _, kS [4,5,6] [4,5] rfl, ?_⟩
   refine ⟨(i + 1, ns ++ [a], _), ?_, (by simp only; omega), ⟨rfl, rfl, rfl, rfl, rfl, trivial⟩⟩
   exact ⟨by omega, a1i (by omega) hrd hri⟩
  have hg := hg0; try simp only [SG] at hg
  refine gF rfl rfl <| gF rfl rfl <| gF rfl rfl <| gF rfl rfl <| gF rfl rfl <| gF rfl rfl <| F6 rfl (by assumption) rfl rfl ?_
  refine A5 ⟨fun _ => ⟨by decide +kernel, by decide +kernel⟩, [(.t 4, _), (.t 5, _), (.t 6, _), (.t 9, _), (.t 75, _), (.h 4, _), (.h 5, _)], ⟨rfl, rfl, rfl, rfl, rfl, rfl, rfl, rfl, rfl, rfl, rfl, rfl, rfl, rfl, trivial⟩, ?_⟩
  refine A8 rfl (fun hc => ?_) (fun hc => absurd hc (by decide))
  refine A4 <| A0 ?_
  (refine B3 rfl rfl (fun _ => rfl) ?_; intro g2)
  refine A3 rfl rfl rfl ?_
  refine A5 ⟨nofun, _, kS [2,3] [2] rfl, ?_⟩
  refine B1 <| C9 (F7 rfl rfl (by simp) (by rfl) (D3 rfl rfl (E5 C4))) ?_
  have hno : rdI (ps.getD i default) = none := by exact a1v (m := a) hdU (by (rw [hng, if_neg (by decide)]; omega)) (by exact .inl (by rw [hup]; assumption))
  rw [rdL, ← hps, I3 (show i < ps.length by omega) hno]
  rfl
 try simp only [SG, List.length_map] at hc
 refine L8 <| A4 <| A0 <| A6 rfl rfl ?_
 (refine C3 rfl rfl (by (simp; done)) rfl (fun _ => (B5 (by exact B2 fun _ => rfl))) (fun _ => rfl) ?_; intro g2)
 refine A3 rfl rfl rfl ?_
 refine A5 ⟨nofun, _, kS [2,3] [2] rfl, ?_⟩
 refine B1 <| C9 (F7 rfl rfl (by simp) (by exact B2 fun _ => rfl) (D3 rfl rfl (E5 C4))) ?_
 have hil : i = ps.length := by omega
 rw [hil, List.take_length] at hrd
 rw [rdL, ← hps, hrd]
 rfl

theorem keep_s_readNums : G9 Tryd.f51 = [0, 2, 3, 4, 22, 24, 5, 6] := by kernel_rfl
set_option maxHeartbeats 20000000 in
theorem b4x (s : List UInt8) (hs : s.length ≤ 1048576) : CW cxT 51 [tV s] = some (.tup [.own 1 ((b1m s).map iV), bV (numsOf s).isSome], []) := by
 refine G5 rfl Tryd.func51 rfl ⟨by kernel_rfl, rfl, of_decide_eq_true rfl, of_decide_eq_true rfl, by decide⟩ keep_s_readNums <| A4 <| A0 ?_
 (refine B3 rfl rfl (fun _ => rfl) ?_; intro g2)
 refine A3 rfl rfl rfl ?_
 refine A5 ⟨nofun, _, kS [0] [] rfl, ?_⟩
 refine A4 <| A0 <| A6 rfl rfl <| s8 rfl rfl <| A3 rfl rfl rfl ?_
 refine A5 ⟨nofun, _, kS [0,4] [] rfl, ?_⟩
 refine A4 <| A4 <| A0 <| A6 rfl rfl <| O5 rfl rfl <| A6 rfl rfl ?_
 refine D6 rfl rfl (fun hg0 => ?_) (fun hg0 => ?_)
 ·have hg := hg0; try simp only [SG] at hg
  refine A6 rfl rfl <| gT rfl rfl <| L9 (n := 0) rfl rfl rfl (by omega) <| gT rfl rfl <| c3t rfl rfl <| G2 rfl (by assumption) rfl rfl <| A6 rfl rfl ?_
  refine D6 rfl rfl (fun hg0 => ?_) (fun hg0 => ?_)
  ·have hg := hg0; try simp only [SG] at hg
   refine A6 rfl rfl <| gT rfl rfl <| A6 rfl rfl <| gT rfl rfl <| a2j rfl rfl (I9 (by omega)) <| gT rfl rfl ?_
   rw [show ((s.length : Int) - 1) = ((s.length - 1 : Nat) : Int) by omega]
   refine L9 rfl rfl rfl (by omega) <| gT rfl rfl <| c3t rfl rfl <| G2 rfl (by assumption) rfl rfl ?_
   refine A5 ⟨nofun, _, kS [0,4,22] [] rfl, ?_⟩
   refine A8 rfl (fun hc => ?_) (fun hc => ?_)
   ·try simp only [SG, List.length_map] at hc
    refine A4 <| A0 ?_
    (refine B3 rfl rfl (fun _ => rfl) ?_; intro g2)
    refine A3 rfl rfl rfl ?_
    refine A5 ⟨nofun, _, kS [2,3] [2] rfl, ?_⟩
    refine B1 <| C9 (F7 rfl rfl (by simp) (by rfl) (D3 rfl rfl (E5 C4))) ?_
    obtain ⟨hn1, hn2⟩ := a2h (s := s) (by exact .inr (.inr (by omega)))
    rw [hn1, hn2]
    rfl
   try simp only [SG, List.length_map] at hc
   have hin := b7t (s := s) (by omega) (by omega) (by omega)
   refine B9 <| A4 <| A4 <| A0 <| A6 rfl rfl <| a6o rfl rfl ?_
   refine A5 ⟨nofun, _, kS [0,4,24] [] rfl, ?_⟩
   refine A8 rfl (fun hc => ?_) (fun hc => ?_)
   ·try simp only [SG, List.length_map] at hc
    refine A4 <| A0 <| F9 (es := List.map iV []) rfl rfl (by decide) rfl rfl (fun _ => B5 (B2 fun _ => rfl)) (fun _ => rfl) ?_
    intro g25
    (refine C3 rfl rfl (by (simp; done)) rfl (fun _ => (B5 (by exact B2 fun _ => rfl))) (fun _ => rfl) ?_; intro g2)
    refine A3 rfl rfl rfl ?_
    refine A5 ⟨nofun, _, kS [2,3] [2] rfl, ?_⟩
    refine B1 <| C9 (F7 rfl rfl (by simp) (by rfl) (D3 rfl rfl (E5 C4))) ?_
    obtain ⟨hn1, hn2⟩ := hin.1 (by omega)
    rw [hn1, hn2]
    rfl
   try simp only [SG, List.length_map] at hc
   refine B9 <| A4 <| A0 <| A6 rfl rfl <| A6 rfl rfl <| a2j rfl rfl (I9 (by omega)) ?_
   rw [show ((s.length : Int) - 1) = ((s.length - 1 : Nat) : Int) by omega]
   have hrl := c2h ((s.drop 1).take (s.length - 1 - 1))
   have hin2 : ((s.drop 1).take (s.length - 1 - 1)).length ≤ s.length - 2 := by simp only [List.length_take, List.length_drop]; omega
   refine r6 rfl rfl (G8 rfl) (G8 (n := 1) rfl) (by omega) ?_
   apply D9 rfl
   ·apply B7
    ·exact B6 rfl
    exact D8
   ·exact b4w ((s.drop 1).take (s.length - 1 - 1)) (by omega)
   ·exact ⟨rfl, rfl, rfl, of_decide_eq_true rfl, rfl⟩
   ·exact .inr ⟨j8 _ _, rfl⟩
   ·exact C0
   ·exact H8 (P9 fun _ => H7 rfl P7)
   ·exact fun _ => rfl
   intro g31
   simp only [List.length_map]
   refine A6 rfl rfl <| A9 rfl rfl rfl <| A9 rfl rfl rfl ?_
   (refine C3 rfl rfl (by (simp; done)) rfl (fun _ => (B5 (by exact B2 fun _ => rfl))) (fun _ => rfl) ?_; intro g5)
   refine A3 rfl rfl rfl ?_
   refine A5 ⟨nofun, _, kS [5,6] [5] rfl, ?_⟩
   refine A4 <| A0 <| A6 rfl rfl <| A6 rfl rfl <| A6 rfl rfl ?_
   refine D6 rfl rfl (fun hg0 => ?_) (fun hg0 => ?_)
   ·have hg := hg0; try simp only [SG] at hg
    refine A6 rfl rfl <| gT rfl rfl ?_
    apply D9 rfl
    ·apply B7
     ·exact Y9 rfl rfl rfl (by (simp; done)) (fun _ => rfl)
     exact D8
    ·exact b0v ((rdL ((s.drop 1).take (s.length - 1 - 1))).getD []) (by omega)
    ·exact ⟨rfl, rfl, rfl, of_decide_eq_true rfl, rfl⟩
    ·exact .inr ⟨rfl, rfl⟩
    ·exact C0
    ·exact E6 rfl
    ·exact fun _ => rfl
    intro g38
    refine F6 rfl (by assumption) rfl rfl ?_
    (refine C3 rfl rfl (by (simp; done)) rfl (fun _ => (B5 (by exact B2 fun _ => rfl))) (fun _ => rfl) ?_; intro g2)
    refine A3 rfl rfl rfl ?_
    refine A5 ⟨nofun, _, kS [2,3] [2] rfl, ?_⟩
    refine B1 <| C9 (F7 rfl rfl (by simp) (by exact B2 fun _ => rfl) (D3 rfl rfl (E5 C4))) ?_
    obtain ⟨hn1, hn2⟩ := hin.2 (by omega)
    rw [hn2, a6n hn1]
    simp_all
    try rfl
   have hg := hg0; try simp only [SG] at hg
   refine gF rfl rfl <| G2 rfl (by assumption) rfl rfl ?_
   (refine C3 rfl rfl (by (simp; done)) rfl (fun _ => (B5 (by exact B2 fun _ => rfl))) (fun _ => rfl) ?_; intro g2)
   refine A3 rfl rfl rfl ?_
   refine A5 ⟨nofun, _, kS [2,3] [2] rfl, ?_⟩
   refine B1 <| C9 (F7 rfl rfl (by simp) (by exact B2 fun _ => rfl) (D3 rfl rfl (E5 C4))) ?_
   obtain ⟨hn1, hn2⟩ := hin.2 (by omega)
   rw [hn2, a6n hn1]
   simp_all
   try rfl
  have hg := hg0; try simp only [SG] at hg
  refine gF rfl rfl <| gF rfl rfl <| gF rfl rfl <| gF rfl rfl <| F6 rfl (by assumption) rfl rfl ?_
  refine A5 ⟨nofun, _, kS [0,4,22] [] rfl, ?_⟩
  refine A8 rfl (fun hc => ?_) (fun hc => absurd hc (by decide))
  refine A4 <| A0 ?_
  (refine B3 rfl rfl (fun _ => rfl) ?_; intro g2)
  refine A3 rfl rfl rfl ?_
  refine A5 ⟨nofun, _, kS [2,3] [2] rfl, ?_⟩
  refine B1 <| C9 (F7 rfl rfl (by simp) (by rfl) (D3 rfl rfl (E5 C4))) ?_
  obtain ⟨hn1, hn2⟩ := a2h (s := s) (by exact .inr (.inl (by omega)))
  rw [hn1, hn2]
  rfl
 have hg := hg0; try simp only [SG] at hg
 refine gF rfl rfl <| gF rfl rfl <| F6 rfl (by assumption) rfl rfl <| A6 rfl rfl <| G3 rfl rfl rfl <| G3 rfl rfl rfl <| G3 rfl rfl rfl <| G3 rfl rfl rfl <| G3 rfl rfl rfl <| F6 rfl rfl rfl rfl ?_
 refine A5 ⟨nofun, _, kS [0,4,22] [] rfl, ?_⟩
 refine A8 rfl (fun hc => ?_) (fun hc => absurd hc (by decide))
 refine A4 <| A0 ?_
 (refine B3 rfl rfl (fun _ => rfl) ?_; intro g2)
 refine A3 rfl rfl rfl ?_
 refine A5 ⟨nofun, _, kS [2,3] [2] rfl, ?_⟩
 refine B1 <| C9 (F7 rfl rfl (by simp) (by rfl) (D3 rfl rfl (E5 C4))) ?_
 obtain ⟨hn1, hn2⟩ := a2h (s := s) (by exact .inl (by omega))
 rw [hn1, hn2]
 rfl

theorem keep_s_readTree : G9 Tryd.f39 = [0, 2, 3, 4, 15, 6, 24, 5, 7, 34, 43, 9, 12, 53, 8, 10, 11, 48, 59] := by kernel_rfl
set_option maxHeartbeats 20000000 in
theorem a4t (ws : List W8) (hws : ws.length ≤ 1048600 ∧ ∀ w ∈ ws, w.length ≤ 1048576) : CW cxT 39 [.list (ws.map tV)] = some (rtR (rdT ws), []) := by
 obtain ⟨kk, hkk⟩ : ∃ kk : Nat, ws.length < kk := ⟨_, Nat.lt_succ_self _⟩
 revert ws
 induction kk with
 | zero => intro ws hws hkk; exact absurd hkk (Nat.not_lt_zero _)
 | succ kk ih =>
  intro ws hws hkk
  refine G5 rfl Tryd.func39 rfl ⟨by kernel_rfl, rfl, of_decide_eq_true rfl, of_decide_eq_true rfl, by decide⟩ keep_s_readTree <| A4 <| A0 <| G7 rfl (fun _ => B4 rfl) (fun _ => rfl) ?_
  intro g2
  (refine B3 rfl rfl (fun _ => rfl) ?_; intro g3)
  refine A3 rfl rfl rfl ?_
  refine A5 ⟨nofun, _, kS [0,2] [2] rfl, ?_⟩
  refine A4 <| A4 <| A0 <| A6 rfl rfl <| P1 rfl rfl <| a6o rfl rfl ?_
  refine A5 ⟨nofun, _, kS [0,2,15] [2] rfl, ?_⟩
  refine A8 rfl (fun hc => ?_) (fun hc => ?_)
  ·try simp only [SG, List.length_map] at hc
   have hw0 : ws = [] := List.length_eq_zero_iff.1 (by simpa using hc)
   subst hw0
   refine A4 <| A0 <| K3 (fs := [_, _, _]) rfl rfl rfl rfl rfl <| B8 rfl rfl rfl rfl ⟨by decide, rfl, of_decide_eq_true rfl, of_decide_eq_true rfl, rfl⟩ rfl (by exact B4 rfl) ?_
   (refine B3 rfl rfl (fun _ => rfl) ?_; intro g3)
   refine A3 rfl rfl rfl ?_
   refine A5 ⟨nofun, _, kS [2,3,4] [2,3] rfl, ?_⟩
   refine B1 <| C9 (G1 rfl rfl rfl rfl (G0 rfl (G4 rfl (G4 rfl I5))) (F7 rfl rfl (by simp) (by rfl) (D3 rfl rfl (E5 C4)))) ?_
   rfl
  try simp only [SG, List.length_map] at hc
  obtain ⟨w, ws1, rfl⟩ : ∃ w ws1, ws = w :: ws1 := List.exists_cons_of_ne_nil (fun e => by subst e; simp at hc)
  have hw := hws.2 w (by simp)
  refine B9 <| A4 <| A0 <| A6 rfl rfl <| L4 rfl rfl rfl (fun _ => rfl) (by (change 0 < _; omega)) <| K9 rfl rfl rfl ?_
  apply D9 rfl
  ·apply B7
   ·exact B6 rfl
   exact D8
  ·exact b4x w (by omega)
  ·exact ⟨rfl, rfl, rfl, of_decide_eq_true rfl, rfl⟩
  ·exact .inr ⟨j8 _ _, rfl⟩
  ·exact C0
  ·exact H8 (P9 fun _ => H7 rfl P7)
  ·exact fun _ => rfl
  intro g21
  simp only [List.length_map]
  refine A6 rfl rfl <| A9 rfl rfl rfl <| A9 rfl rfl rfl ?_
  (refine C3 rfl rfl (by (simp; done)) rfl (fun _ => (B5 (by exact B2 fun _ => rfl))) (fun _ => rfl) ?_; intro g5)
  refine A3 rfl rfl rfl ?_
  refine A5 ⟨nofun, _, kS [0,2,5,6] [2,5] rfl, ?_⟩
  refine A4 <| A4 <| A0 <| A6 rfl rfl ?_
  refine A5 ⟨nofun, _, kS [0,2,5,24] [2,5] rfl, ?_⟩
  refine A8 rfl (fun hc => ?_) (fun hc => ?_)
  ·try simp only [SG, List.length_map] at hc
   obtain ⟨ns, hns⟩ := Option.isSome_iff_exists.1 hc
   have hraw := c2m hns
   refine A4 <| A0 <| A6 rfl rfl <| K3 (fs := [_, _, _]) rfl rfl rfl rfl rfl <| A6 rfl rfl <| K7 rfl rfl rfl (Mv.sized_map fun _ => rfl) J7 (G8 (n := 1) rfl) (by simp) ?_
   rw [show ((List.map tV (w :: ws1)).drop 1).take ((List.map tV (w :: ws1)).length - 1) = ws1.map tV from by rw [List.map_cons, List.drop_succ_cons, List.drop_zero, List.take_of_length_le (by simp)]]
   refine I7 rfl rfl rfl rfl (M1 rfl (k9 (by decide) (M1 rfl Y3))) (fun _ => rfl) ⟨by decide, rfl, of_decide_eq_true rfl, Nat.le_refl _⟩ (fun _ => rfl) (fun _ => rfl) (fun _ => (by rfl)) ?_
   intro z
   simp only [R7, List.cons_append, List.nil_append]
   refine A3 rfl rfl rfl <| A3 rfl rfl rfl ?_
   refine A5 ⟨fun _ => ⟨by (simp only [n6, List.nil_append, List.append_nil, List.map_cons, List.map_nil, List.cons_append]; decide +kernel), by decide +kernel⟩, [(.t 2, _), (.t 3, _), (.t 4, _), (.h 2, _), (.h 5, _)], ⟨rfl, rfl, rfl, rfl, rfl, rfl, rfl, rfl, rfl, rfl, trivial⟩, ?_⟩
   refine B1 <| C9 (G1 rfl rfl rfl rfl (G0 rfl (e6 rfl rfl (by simp) (fun _ => rfl) (G4 rfl I5))) (D3 rfl rfl (D3 rfl rfl (E5 C4)))) ?_
   rw [b1v hns, hraw]
   rfl
  try simp only [SG, List.length_map] at hc
  have hnn : numsOf w = none := by simpa using hc
  refine B9 <| A4 <| A0 <| A6 rfl rfl <| L4 rfl rfl rfl (fun _ => rfl) (by (change 0 < _; omega)) <| K9 rfl rfl rfl ?_
  apply D9 rfl
  ·apply B7
   ·exact B6 rfl
   exact D8
  ·exact b8r (bA w)
  ·exact ⟨rfl, rfl, rfl, of_decide_eq_true rfl, rfl⟩
  ·exact .inl rfl
  ·exact C0
  ·exact E6 rfl
  ·exact fun _ => rfl
  intro g32
  refine A3 rfl rfl rfl ?_
  refine A5 ⟨nofun, _, kS [0,2,7] [2] rfl, ?_⟩
  refine A4 <| A4 <| A0 <| A6 rfl rfl <| O5 rfl rfl ?_
  refine A5 ⟨nofun, _, kS [0,2,7,34] [2] rfl, ?_⟩
  refine A8 rfl (fun hc => ?_) (fun hc => ?_)
  ·try simp only [SG, List.length_map] at hc
   refine A4 <| A0 <| K3 (fs := [_, _, _]) rfl rfl rfl rfl rfl <| B8 rfl rfl rfl rfl ⟨by decide, rfl, of_decide_eq_true rfl, of_decide_eq_true rfl, rfl⟩ rfl (by exact B4 rfl) ?_
   (refine B3 rfl rfl (fun _ => rfl) ?_; intro g3)
   refine A3 rfl rfl rfl ?_
   refine A5 ⟨nofun, _, kS [2,3,4] [2,3] rfl, ?_⟩
   refine B1 <| C9 (G1 rfl rfl rfl rfl (G0 rfl (G4 rfl (G4 rfl I5))) (F7 rfl rfl (by simp) (by rfl) (D3 rfl rfl (E5 C4)))) ?_
   rw [b6m hnn (by omega)]
   rfl
  try simp only [SG, List.length_map] at hc
  refine B9 <| A4 <| A0 <| A6 rfl rfl <| L4 rfl rfl rfl (fun _ => rfl) (by (change 0 < _; omega)) <| K9 rfl rfl rfl <| K3 (fs := [_, _, _]) rfl rfl rfl rfl rfl <| G7 rfl (fun _ => B4 rfl) (fun _ => rfl) ?_
  intro g8
  refine B8 rfl rfl rfl rfl ⟨by decide, rfl, of_decide_eq_true rfl, of_decide_eq_true rfl, rfl⟩ rfl (by exact B4 rfl) ?_
  refine A5 ⟨nofun, _, kS [0,2,7,8] [2,8] rfl, ?_⟩
  refine A4 <| A0 ?_
  rcases a7q (w := bA w) (by omega) with hn | hn | hn
  ·rw [hn]
   refine A6 rfl rfl <| K7 rfl rfl rfl (Mv.sized_map fun _ => rfl) J7 (G8 (n := 1) rfl) (by simp) ?_
   rw [show ((List.map tV (w :: ws1)).drop 1).take ((List.map tV (w :: ws1)).length - 1) = ws1.map tV from by rw [List.map_cons, List.drop_succ_cons, List.drop_zero, List.take_of_length_le (by simp)]]
   refine A3 rfl rfl rfl ?_
   refine A5 ⟨nofun, _, kS [2,7,8,9] [2,8] rfl, ?_⟩
   refine A4 <| F0 <| K0 <| A4 <| A4 <| A0 <| A6 rfl rfl <| X9 rfl rfl ?_
   refine A5 ⟨nofun, _, kS [2,7,8,9,43] [2,8] rfl, ?_⟩
   refine A8 rfl (fun hc => absurd hc (by decide)) (fun hc => ?_)
   refine L8 <| A4 <| A0 <| F8 rfl rfl rfl rfl rfl <| A6 rfl rfl <| B8 rfl rfl rfl rfl ⟨by decide, rfl, of_decide_eq_true rfl, of_decide_eq_true rfl, rfl⟩ rfl (by exact B4 rfl) <| A3 rfl rfl rfl <| A3 rfl rfl rfl ?_
   refine A5 ⟨nofun, _, kS [2,3,4] [2] rfl, ?_⟩
   refine B1 <| C9 (G1 rfl rfl rfl rfl (G0 rfl (G4 rfl (G4 rfl I5))) (D3 rfl rfl (D3 rfl rfl (E5 C4)))) ?_
   rw [b6i hnn hn]
   rfl
  ·rw [hn]
   refine A6 rfl rfl <| K7 rfl rfl rfl (Mv.sized_map fun _ => rfl) J7 (G8 (n := 1) rfl) (by simp) ?_
   rw [show ((List.map tV (w :: ws1)).drop 1).take ((List.map tV (w :: ws1)).length - 1) = ws1.map tV from by rw [List.map_cons, List.drop_succ_cons, List.drop_zero, List.take_of_length_le (by simp)]]
   refine A3 rfl rfl rfl ?_
   refine A5 ⟨nofun, _, kS [2,7,8,9] [2,8] rfl, ?_⟩
   refine A4 <| F0 <| K0 <| A4 <| A4 <| A0 <| A6 rfl rfl <| X9 rfl rfl ?_
   refine A5 ⟨nofun, _, kS [2,7,8,9,43] [2,8] rfl, ?_⟩
   refine A8 rfl (fun hc => ?_) (fun hc => absurd hc (by decide))
   refine B9 <| A4 <| F0 <| A4 <| A0 <| A6 rfl rfl ?_
   rcases hr1 : rdT ws1 with _ | ⟨k1, r1⟩
   ·skip
    apply D9 rfl
    ·apply B7
     ·exact B6 rfl
     exact D8
    ·exact (by have hi := ih ws1 ⟨by simp only [List.length_cons] at hws; omega, fun x hx => hws.2 x (List.mem_cons_of_mem _ hx)⟩ (by simp only [List.length_cons] at hkk; omega); rw [hr1] at hi; exact hi)
    ·exact ⟨rfl, rfl, rfl, of_decide_eq_true rfl, rfl⟩
    ·exact .inl rfl
    ·exact C0
    ·exact H8 (H7 rfl (P9 fun _ => H7 rfl P7))
    ·exact fun _ => D4 (B5 rfl) (by rfl)
    intro g48
    refine A6 rfl rfl <| A9 rfl rfl rfl <| A9 rfl rfl rfl <| A9 rfl rfl rfl <| G7 rfl (fun _ => B4 rfl) (fun _ => rfl) ?_
    intro g10
    refine B8 rfl rfl rfl rfl ⟨by decide, rfl, of_decide_eq_true rfl, of_decide_eq_true rfl, rfl⟩ rfl (by exact B4 rfl) ?_
    (refine C3 rfl rfl (by (simp; done)) rfl (fun _ => (B5 (by rfl))) (fun _ => rfl) ?_; intro g11)
    refine A3 rfl rfl rfl ?_
    refine A5 ⟨nofun, _, kS [2,7,8,10,11,12] [2,8,10] rfl, ?_⟩
    refine A4 <| A4 <| A0 <| A6 rfl rfl <| P4 rfl ?_
    refine A5 ⟨nofun, _, kS [2,7,8,10,11,53] [2,8,10] rfl, ?_⟩
    refine A8 rfl (fun hc => ?_) (fun hc => absurd hc (by decide))
    refine A4 <| A0 <| K3 (fs := [_, _, _]) rfl rfl rfl rfl rfl <| B8 rfl rfl rfl rfl ⟨by decide, rfl, of_decide_eq_true rfl, of_decide_eq_true rfl, rfl⟩ rfl (by exact B4 rfl) ?_
    (refine B3 rfl rfl (fun _ => rfl) ?_; intro g3)
    refine A3 rfl rfl rfl ?_
    refine A5 ⟨nofun, _, kS [2,3,4] [2,3] rfl, ?_⟩
    refine B1 <| C9 (G1 rfl rfl rfl rfl (G0 rfl (G4 rfl (G4 rfl I5))) (F7 rfl rfl (by simp) (by rfl) (D3 rfl rfl (E5 C4)))) ?_
    rw [b0c hnn hn, hr1]
    rfl
   skip
   apply D9 rfl
   ·apply B7
    ·exact B6 rfl
    exact D8
   ·exact (by have hi := ih ws1 ⟨by simp only [List.length_cons] at hws; omega, fun x hx => hws.2 x (List.mem_cons_of_mem _ hx)⟩ (by simp only [List.length_cons] at hkk; omega); rw [hr1] at hi; exact hi)
   ·exact ⟨rfl, rfl, rfl, of_decide_eq_true rfl, rfl⟩
   ·exact .inl rfl
   ·exact C0
   ·exact J3 rfl
   ·exact fun _ => rfl
   intro g48
   refine A6 rfl rfl <| A9 rfl rfl rfl <| A9 rfl rfl rfl <| A9 rfl rfl rfl <| G7 rfl (fun _ => B4 rfl) (fun _ => rfl) ?_
   intro g10
   refine B8 rfl rfl rfl rfl ⟨by decide, rfl, of_decide_eq_true rfl, of_decide_eq_true rfl, rfl⟩ rfl (by exact B4 rfl) <| A3 rfl rfl rfl <| A3 rfl rfl rfl ?_
   refine A5 ⟨nofun, _, kS [2,7,8,10,11,12] [2,8,10] rfl, ?_⟩
   refine A4 <| A4 <| A0 <| A6 rfl rfl <| P4 rfl ?_
   refine A5 ⟨nofun, _, kS [2,7,8,10,11,53] [2,8,10] rfl, ?_⟩
   refine A8 rfl (fun hc => absurd hc (by decide)) (fun hc => ?_)
   refine B9 <| A4 <| A0 <| H9 rfl rfl (by decide) rfl rfl <| M3 rfl rfl rfl rfl rfl rfl <| F8 rfl rfl rfl rfl rfl <| F9 (es := List.map trV [_]) rfl rfl (by decide) rfl rfl (fun _ => B5 (B2 fun _ => rfl)) (fun _ => rfl) ?_
   intro g58
   refine V0 rfl rfl rfl (by simp) (by decide) rfl rfl rfl (by decide) (fun _ => ⟨rfl, rfl⟩) (by simp only [I2]; (simp only [List.length_nil, List.length_cons, List.length_append, Nat.zero_add, List.length_map]; omega)) (fun _ => rfl) ?_
   intro g59
   refine H9 rfl rfl (by decide) rfl rfl <| O9 rfl rfl rfl rfl rfl (Nat.le_refl _) rfl ?_
   refine A5 ⟨nofun, _, kS [2,7,8,11] [2,8,1000059] rfl, ?_⟩
   refine A0 <| A6 rfl rfl <| A3 rfl rfl rfl ?_
   refine A5 ⟨nofun, _, kS [2,7,8,9] [2,8,1000059] rfl, ?_⟩
   refine A0 <| A6 rfl rfl <| a2j rfl rfl (I9 (by omega)) <| A3 rfl rfl rfl ?_
   refine A5 ⟨nofun, _, kS [2,7,8,9] [2,8,1000059] rfl, ?_⟩
   refine K0 <| A4 <| A4 <| A0 <| A6 rfl rfl <| X9 rfl rfl ?_
   refine A5 ⟨nofun, _, kS [2,7,8,9,43] [2,8,1000059] rfl, ?_⟩
   refine A8 rfl (fun hc => absurd hc (by decide)) (fun hc => ?_)
   refine L8 <| A4 <| A0 <| F8 rfl rfl rfl rfl rfl <| A6 rfl rfl <| I7 rfl rfl rfl rfl (M1 rfl (M1 rfl (a3y (by decide) (by decide) rfl (by simp) fun _ => Y3))) (fun _ => rfl) ⟨by decide, rfl, of_decide_eq_true rfl, Nat.le_refl _⟩ (fun _ => rfl) (fun _ => rfl) (fun _ => D4 (by rfl) (D4 (B5 (B2 fun _ => rfl)) (by rfl))) ?_
   intro z
   simp only [R7, List.cons_append, List.nil_append]
   refine A3 rfl rfl rfl <| A3 rfl rfl rfl ?_
   refine A5 ⟨nofun, _, kS [2,3,4] [2,300002] rfl, ?_⟩
   refine B1 <| C9 (G1 rfl rfl rfl rfl (G0 rfl (G4 rfl (e6 rfl rfl (by simp) (fun _ => rfl) I5))) (D3 rfl rfl (D3 rfl rfl (E5 C4)))) ?_
   rw [b0c hnn hn, hr1]
   rfl
  rw [hn]
  refine A6 rfl rfl <| K7 rfl rfl rfl (Mv.sized_map fun _ => rfl) J7 (G8 (n := 1) rfl) (by simp) ?_
  rw [show ((List.map tV (w :: ws1)).drop 1).take ((List.map tV (w :: ws1)).length - 1) = ws1.map tV from by rw [List.map_cons, List.drop_succ_cons, List.drop_zero, List.take_of_length_le (by simp)]]
  refine A3 rfl rfl rfl ?_
  refine A5 ⟨nofun, _, kS [2,7,8,9] [2,8] rfl, ?_⟩
  refine A4 <| F0 <| K0 <| A4 <| A4 <| A0 <| A6 rfl rfl <| X9 rfl rfl ?_
  refine A5 ⟨nofun, _, kS [2,7,8,9,43] [2,8] rfl, ?_⟩
  refine A8 rfl (fun hc => ?_) (fun hc => absurd hc (by decide))
  refine B9 <| A4 <| F0 <| A4 <| A0 <| A6 rfl rfl ?_
  rcases hr1 : rdT ws1 with _ | ⟨k1, r1⟩
  ·skip
   apply D9 rfl
   ·apply B7
    ·exact B6 rfl
    exact D8
   ·exact (by have hi := ih ws1 ⟨by simp only [List.length_cons] at hws; omega, fun x hx => hws.2 x (List.mem_cons_of_mem _ hx)⟩ (by simp only [List.length_cons] at hkk; omega); rw [hr1] at hi; exact hi)
   ·exact ⟨rfl, rfl, rfl, of_decide_eq_true rfl, rfl⟩
   ·exact .inl rfl
   ·exact C0
   ·exact H8 (H7 rfl (P9 fun _ => H7 rfl P7))
   ·exact fun _ => D4 (B5 rfl) (by rfl)
   intro g48
   refine A6 rfl rfl <| A9 rfl rfl rfl <| A9 rfl rfl rfl <| A9 rfl rfl rfl <| G7 rfl (fun _ => B4 rfl) (fun _ => rfl) ?_
   intro g10
   refine B8 rfl rfl rfl rfl ⟨by decide, rfl, of_decide_eq_true rfl, of_decide_eq_true rfl, rfl⟩ rfl (by exact B4 rfl) ?_
   (refine C3 rfl rfl (by (simp; done)) rfl (fun _ => (B5 (by rfl))) (fun _ => rfl) ?_; intro g11)
   refine A3 rfl rfl rfl ?_
   refine A5 ⟨nofun, _, kS [2,7,8,10,11,12] [2,8,10] rfl, ?_⟩
   refine A4 <| A4 <| A0 <| A6 rfl rfl <| P4 rfl ?_
   refine A5 ⟨nofun, _, kS [2,7,8,10,11,53] [2,8,10] rfl, ?_⟩
   refine A8 rfl (fun hc => ?_) (fun hc => absurd hc (by decide))
   refine A4 <| A0 <| K3 (fs := [_, _, _]) rfl rfl rfl rfl rfl <| B8 rfl rfl rfl rfl ⟨by decide, rfl, of_decide_eq_true rfl, of_decide_eq_true rfl, rfl⟩ rfl (by exact B4 rfl) ?_
   (refine B3 rfl rfl (fun _ => rfl) ?_; intro g3)
   refine A3 rfl rfl rfl ?_
   refine A5 ⟨nofun, _, kS [2,3,4] [2,3] rfl, ?_⟩
   refine B1 <| C9 (G1 rfl rfl rfl rfl (G0 rfl (G4 rfl (G4 rfl I5))) (F7 rfl rfl (by simp) (by rfl) (D3 rfl rfl (E5 C4)))) ?_
   rw [v7 hnn hn, hr1]
   rfl
  skip
  apply D9 rfl
  ·apply B7
   ·exact B6 rfl
   exact D8
  ·exact (by have hi := ih ws1 ⟨by simp only [List.length_cons] at hws; omega, fun x hx => hws.2 x (List.mem_cons_of_mem _ hx)⟩ (by simp only [List.length_cons] at hkk; omega); rw [hr1] at hi; exact hi)
  ·exact ⟨rfl, rfl, rfl, of_decide_eq_true rfl, rfl⟩
  ·exact .inl rfl
  ·exact C0
  ·exact J3 rfl
  ·exact fun _ => rfl
  intro g48
  refine A6 rfl rfl <| A9 rfl rfl rfl <| A9 rfl rfl rfl <| A9 rfl rfl rfl <| G7 rfl (fun _ => B4 rfl) (fun _ => rfl) ?_
  intro g10
  refine B8 rfl rfl rfl rfl ⟨by decide, rfl, of_decide_eq_true rfl, of_decide_eq_true rfl, rfl⟩ rfl (by exact B4 rfl) <| A3 rfl rfl rfl <| A3 rfl rfl rfl ?_
  refine A5 ⟨nofun, _, kS [2,7,8,10,11,12] [2,8,10] rfl, ?_⟩
  refine A4 <| A4 <| A0 <| A6 rfl rfl <| P4 rfl ?_
  refine A5 ⟨nofun, _, kS [2,7,8,10,11,53] [2,8,10] rfl, ?_⟩
  refine A8 rfl (fun hc => absurd hc (by decide)) (fun hc => ?_)
  refine B9 <| A4 <| A0 <| H9 rfl rfl (by decide) rfl rfl <| M3 rfl rfl rfl rfl rfl rfl <| F8 rfl rfl rfl rfl rfl <| F9 (es := List.map trV [_]) rfl rfl (by decide) rfl rfl (fun _ => B5 (B2 fun _ => rfl)) (fun _ => rfl) ?_
  intro g58
  refine V0 rfl rfl rfl (by simp) (by decide) rfl rfl rfl (by decide) (fun _ => ⟨rfl, rfl⟩) (by simp only [I2]; (simp only [List.length_nil, List.length_cons, List.length_append, Nat.zero_add, List.length_map]; omega)) (fun _ => rfl) ?_
  intro g59
  refine H9 rfl rfl (by decide) rfl rfl <| O9 rfl rfl rfl rfl rfl (Nat.le_refl _) rfl ?_
  refine A5 ⟨nofun, _, kS [2,7,8,11] [2,8,1000059] rfl, ?_⟩
  refine A0 <| A6 rfl rfl <| A3 rfl rfl rfl ?_
  refine A5 ⟨nofun, _, kS [2,7,8,9] [2,8,1000059] rfl, ?_⟩
  refine A0 <| A6 rfl rfl <| a2j rfl rfl (I9 (by omega)) <| A3 rfl rfl rfl ?_
  refine A5 ⟨nofun, _, kS [2,7,8,9] [2,8,1000059] rfl, ?_⟩
  refine K0 <| A4 <| A4 <| A0 <| A6 rfl rfl <| X9 rfl rfl ?_
  refine A5 ⟨nofun, _, kS [2,7,8,9,43] [2,8,1000059] rfl, ?_⟩
  refine A8 rfl (fun hc => ?_) (fun hc => absurd hc (by decide))
  refine B9 <| A4 <| F0 <| A4 <| A0 <| A6 rfl rfl ?_
  rcases hr2 : rdT r1 with _ | ⟨k2, r2⟩
  ·skip
   apply D9 rfl
   ·apply B7
    ·exact B6 rfl
    exact D8
   ·exact (by have hi := ih r1 ⟨by have := V1 hr1; simp only [List.length_cons] at hws; omega, fun x hx => hws.2 x (List.mem_cons_of_mem _ (a4j hr1 x hx))⟩ (by have := V1 hr1; simp only [List.length_cons] at hkk; omega); rw [hr2] at hi; exact hi)
   ·exact ⟨rfl, rfl, rfl, of_decide_eq_true rfl, rfl⟩
   ·exact .inl rfl
   ·exact C0
   ·exact H8 (H7 rfl (P9 fun _ => H7 rfl P7))
   ·exact fun _ => D4 (B5 rfl) (by rfl)
   intro g48
   refine A6 rfl rfl <| A9 rfl rfl rfl <| A9 rfl rfl rfl <| A9 rfl rfl rfl <| G7 rfl (fun _ => B4 rfl) (fun _ => rfl) ?_
   intro g10
   refine B8 rfl rfl rfl rfl ⟨by decide, rfl, of_decide_eq_true rfl, of_decide_eq_true rfl, rfl⟩ rfl (by exact B4 rfl) ?_
   (refine C3 rfl rfl (by (simp; done)) rfl (fun _ => (B5 (by rfl))) (fun _ => rfl) ?_; intro g11)
   refine A3 rfl rfl rfl ?_
   refine A5 ⟨nofun, _, kS [2,7,8,10,11,12] [2,8,1000059,10] rfl, ?_⟩
   refine A4 <| A4 <| A0 <| A6 rfl rfl <| P4 rfl ?_
   refine A5 ⟨nofun, _, kS [2,7,8,10,11,53] [2,8,1000059,10] rfl, ?_⟩
   refine A8 rfl (fun hc => ?_) (fun hc => absurd hc (by decide))
   refine A4 <| A0 <| K3 (fs := [_, _, _]) rfl rfl rfl rfl rfl <| B8 rfl rfl rfl rfl ⟨by decide, rfl, of_decide_eq_true rfl, of_decide_eq_true rfl, rfl⟩ rfl (by exact B4 rfl) ?_
   (refine B3 rfl rfl (fun _ => rfl) ?_; intro g3)
   refine A3 rfl rfl rfl ?_
   refine A5 ⟨nofun, _, kS [2,3,4] [2,3] rfl, ?_⟩
   refine B1 <| C9 (G1 rfl rfl rfl rfl (G0 rfl (G4 rfl (G4 rfl I5))) (F7 rfl rfl (by simp) (by rfl) (D3 rfl rfl (E5 C4)))) ?_
   rw [v7 hnn hn, hr1, Option.bind_some, hr2]
   rfl
  skip
  apply D9 rfl
  ·apply B7
   ·exact B6 rfl
   exact D8
  ·exact (by have hi := ih r1 ⟨by have := V1 hr1; simp only [List.length_cons] at hws; omega, fun x hx => hws.2 x (List.mem_cons_of_mem _ (a4j hr1 x hx))⟩ (by have := V1 hr1; simp only [List.length_cons] at hkk; omega); rw [hr2] at hi; exact hi)
  ·exact ⟨rfl, rfl, rfl, of_decide_eq_true rfl, rfl⟩
  ·exact .inl rfl
  ·exact C0
  ·exact J3 rfl
  ·exact fun _ => rfl
  intro g48
  refine A6 rfl rfl <| A9 rfl rfl rfl <| A9 rfl rfl rfl <| A9 rfl rfl rfl <| G7 rfl (fun _ => B4 rfl) (fun _ => rfl) ?_
  intro g10
  refine B8 rfl rfl rfl rfl ⟨by decide, rfl, of_decide_eq_true rfl, of_decide_eq_true rfl, rfl⟩ rfl (by exact B4 rfl) <| A3 rfl rfl rfl <| A3 rfl rfl rfl ?_
  refine A5 ⟨nofun, _, kS [2,7,8,10,11,12] [2,8,1000059,10] rfl, ?_⟩
  refine A4 <| A4 <| A0 <| A6 rfl rfl <| P4 rfl ?_
  refine A5 ⟨nofun, _, kS [2,7,8,10,11,53] [2,8,1000059,10] rfl, ?_⟩
  refine A8 rfl (fun hc => absurd hc (by decide)) (fun hc => ?_)
  refine B9 <| A4 <| A0 <| H9 rfl rfl (by decide) rfl rfl <| M3 rfl rfl rfl rfl rfl rfl <| F8 rfl rfl rfl rfl rfl <| F9 (es := List.map trV [_]) rfl rfl (by decide) rfl rfl (fun _ => B5 (B2 fun _ => rfl)) (fun _ => rfl) ?_
  intro g58
  refine J5 rfl rfl rfl rfl (by (simp; done)) (by simp) (by decide) rfl rfl rfl rfl (by decide) (fun _ => ⟨rfl, rfl⟩) (by simp only [I2]; (simp only [List.length_nil, List.length_cons, List.length_append, Nat.zero_add, List.length_map]; omega)) (fun _ => rfl) ?_
  intro g59
  refine H9 rfl rfl (by decide) rfl rfl <| O9 rfl rfl rfl rfl rfl (Nat.le_refl _) rfl ?_
  refine A5 ⟨nofun, _, kS [2,7,8,11] [2,8,1000059] rfl, ?_⟩
  refine A0 <| A6 rfl rfl <| A3 rfl rfl rfl ?_
  refine A5 ⟨nofun, _, kS [2,7,8,9] [2,8,1000059] rfl, ?_⟩
  refine A0 <| A6 rfl rfl <| a2j rfl rfl (I9 (by omega)) <| A3 rfl rfl rfl ?_
  refine A5 ⟨nofun, _, kS [2,7,8,9] [2,8,1000059] rfl, ?_⟩
  refine K0 <| A4 <| A4 <| A0 <| A6 rfl rfl <| X9 rfl rfl ?_
  refine A5 ⟨nofun, _, kS [2,7,8,9,43] [2,8,1000059] rfl, ?_⟩
  refine A8 rfl (fun hc => absurd hc (by decide)) (fun hc => ?_)
  refine L8 <| A4 <| A0 <| F8 rfl rfl rfl rfl rfl <| A6 rfl rfl <| I7 rfl rfl rfl rfl (M1 rfl (M1 rfl (a3y (by decide) (by decide) rfl (by simp) fun _ => Y3))) (fun _ => rfl) ⟨by decide, rfl, of_decide_eq_true rfl, Nat.le_refl _⟩ (fun _ => rfl) (fun _ => rfl) (fun _ => D4 (by rfl) (D4 (B5 (B2 fun _ => rfl)) (by rfl))) ?_
  intro z
  simp only [R7, List.cons_append, List.nil_append]
  refine A3 rfl rfl rfl <| A3 rfl rfl rfl ?_
  refine A5 ⟨nofun, _, kS [2,3,4] [2,300002] rfl, ?_⟩
  refine B1 <| C9 (G1 rfl rfl rfl rfl (G0 rfl (G4 rfl (e6 rfl rfl (by simp) (fun _ => rfl) I5))) (D3 rfl rfl (D3 rfl rfl (E5 C4)))) ?_
  rw [v7 hnn hn, hr1, Option.bind_some, hr2]
  rfl

theorem keep_s_readPlan : G9 Tryd.f23 = [0, 2, 3, 4, 17, 6, 7, 5, 21] := by kernel_rfl
set_option maxHeartbeats 20000000 in
theorem b3z (s : List UInt8) (hs : s.length ≤ 1048576) : CW cxT 23 [tV s] = some (.tup [trV (rpT s), bV (Y4 s).isSome], []) := by
 obtain ⟨ws, hws⟩ : ∃ ws, ws = splitB 32 s := ⟨_, rfl⟩
 have hwl := Q1 32 s
 have hwp := Y8 32 s
 rw [← hws] at hwl hwp
 refine G5 rfl Tryd.func23 rfl ⟨by kernel_rfl, rfl, of_decide_eq_true rfl, of_decide_eq_true rfl, by decide⟩ keep_s_readPlan <| A4 <| A0 <| G7 rfl (fun _ => B4 rfl) (fun _ => rfl) ?_
 intro g2
 refine A3 rfl rfl rfl ?_
 refine A5 ⟨nofun, _, kS [0,2] [2] rfl, ?_⟩
 refine A4 <| A0 <| A6 rfl rfl ?_
 apply D9 rfl
 ·apply B7
  ·exact B6 rfl
  apply B7
  ·exact B6 rfl
  exact D8
 ·exact a8j s (by omega) 32
 ·exact ⟨rfl, rfl, rfl, of_decide_eq_true rfl, rfl⟩
 ·exact .inl rfl
 ·exact C0
 ·exact a0y
 ·exact fun _ => rfl
 intro g9
 rw [← hws]
 try simp only [List.length_map]
 (refine C3 rfl rfl (by (simp; done)) rfl (fun _ => (B5 (by exact B2 fun _ => rfl))) (fun _ => rfl) ?_; intro g4)
 refine A5 ⟨nofun, _, kS [0,2,4] [2,4] rfl, ?_⟩
 refine A4 <| A4 <| A0 <| A6 rfl rfl <| s8 rfl rfl <| X9 rfl rfl <| A6 rfl rfl ?_
 refine D6 rfl rfl (fun hg0 => ?_) (fun hg0 => ?_)
 ·have hg := hg0; try simp only [SG] at hg
  refine A6 rfl rfl <| gT rfl rfl <| a0i rfl rfl <| gT rfl rfl <| X9 rfl rfl <| G2 rfl (by assumption) rfl rfl ?_
  refine A5 ⟨nofun, _, kS [2,4,17] [2,4] rfl, ?_⟩
  refine A8 rfl (fun hc => ?_) (fun hc => ?_)
  ·try simp only [SG, List.length_map] at hc
   refine A4 <| A0 <| K3 (fs := [_, _, _]) rfl rfl rfl rfl rfl <| B8 rfl rfl rfl rfl ⟨by decide, rfl, of_decide_eq_true rfl, of_decide_eq_true rfl, rfl⟩ rfl (by exact B4 rfl) <| A3 rfl rfl rfl ?_
   refine A5 ⟨nofun, _, kS [2,3] [2] rfl, ?_⟩
   refine B1 <| C9 (G1 rfl rfl rfl rfl (G0 rfl (G4 rfl (G4 rfl I5))) (D3 rfl rfl (E5 C4))) ?_
   obtain ⟨h1, h2⟩ := a5d (s := s) (by rw [hws] at *; omega)
   rw [h1, h2]
   rfl
  try simp only [SG, List.length_map] at hc
  have hin := b8m hws (by omega)
  refine B9 <| A4 <| A0 <| A6 rfl rfl ?_
  rcases hr : rdT ws with _ | ⟨t, r⟩
  ·skip
   apply D9 rfl
   ·apply B7
    ·exact Z4 rfl rfl (by (simp; done)) (fun _ => rfl)
    exact D8
   ·exact (by have hi := a4t ws ⟨by omega, fun w hw => by have := hwp w hw; omega⟩; rw [hr] at hi; exact hi)
   ·exact ⟨rfl, rfl, rfl, of_decide_eq_true rfl, rfl⟩
   ·exact .inl rfl
   ·exact C0
   ·exact H8 (H7 rfl (P9 fun _ => H7 rfl P7))
   ·exact fun _ => D4 (u5 (B2 fun _ => rfl) (by decide)) (by rfl)
   intro g21
   refine A6 rfl rfl <| A9 rfl rfl rfl <| A9 rfl rfl rfl <| A9 rfl rfl rfl <| G7 rfl (fun _ => B4 rfl) (fun _ => rfl) ?_
   intro g5
   refine B8 rfl rfl rfl rfl ⟨by decide, rfl, of_decide_eq_true rfl, of_decide_eq_true rfl, rfl⟩ rfl (by exact B4 rfl) ?_
   (refine C3 rfl rfl (by (simp; done)) rfl (fun _ => (B5 (by rfl))) (fun _ => rfl) ?_; intro g6)
   refine A3 rfl rfl rfl ?_
   refine A5 ⟨nofun, _, kS [2,5,6,7] [2,5] rfl, ?_⟩
   refine A4 <| A0 <| F8 rfl rfl rfl rfl rfl <| A6 rfl rfl <| A6 rfl rfl <| G3 rfl rfl rfl <| G3 rfl rfl rfl <| G3 rfl rfl rfl <| G2 rfl rfl rfl rfl <| B8 rfl rfl rfl rfl ⟨by decide, rfl, of_decide_eq_true rfl, of_decide_eq_true rfl, rfl⟩ rfl (by exact B4 rfl) <| A3 rfl rfl rfl ?_
   refine A5 ⟨nofun, _, kS [2,3] [2] rfl, ?_⟩
   refine B1 <| C9 (G1 rfl rfl rfl rfl (G0 rfl (G0 rfl (G0 rfl I5))) (D3 rfl rfl (E5 C4))) ?_
   obtain ⟨h1, h2⟩ := hin.1 hr
   rw [h1, h2]
   rfl
  skip
  apply D9 rfl
  ·apply B7
   ·exact Z4 rfl rfl (by (simp; done)) (fun _ => rfl)
   exact D8
  ·exact (by have hi := a4t ws ⟨by omega, fun w hw => by have := hwp w hw; omega⟩; rw [hr] at hi; exact hi)
  ·exact ⟨rfl, rfl, rfl, of_decide_eq_true rfl, rfl⟩
  ·exact .inl rfl
  ·exact C0
  ·exact J3 rfl
  ·exact fun _ => D4 (u5 (B2 fun _ => rfl) (by decide)) (by rfl)
  intro g21
  refine A6 rfl rfl <| A9 rfl rfl rfl <| A9 rfl rfl rfl <| A9 rfl rfl rfl <| G7 rfl (fun _ => B4 rfl) (fun _ => rfl) ?_
  intro g5
  refine B8 rfl rfl rfl rfl ⟨by decide, rfl, of_decide_eq_true rfl, of_decide_eq_true rfl, rfl⟩ rfl (by exact B4 rfl) <| A3 rfl rfl rfl <| A3 rfl rfl rfl ?_
  refine A5 ⟨nofun, _, kS [2,5,6,7] [2,5] rfl, ?_⟩
  refine A4 <| A0 <| F8 rfl rfl rfl rfl rfl <| A6 rfl rfl <| A6 rfl rfl <| Q8 rfl rfl rfl <| A6 rfl rfl <| Q8 rfl rfl rfl <| P1 rfl rfl <| Q8 rfl rfl rfl <| a6o rfl rfl <| F6 rfl rfl rfl rfl <| B8 rfl rfl rfl rfl ⟨by decide, rfl, of_decide_eq_true rfl, of_decide_eq_true rfl, rfl⟩ rfl (by exact B4 rfl) <| A3 rfl rfl rfl ?_
  refine A5 ⟨nofun, _, kS [2,3] [2] rfl, ?_⟩
  refine B1 <| C9 (G1 rfl rfl rfl rfl (G0 rfl (G0 rfl (G0 rfl I5))) (D3 rfl rfl (E5 C4))) ?_
  obtain ⟨h1, h2⟩ := hin.2 t r hr
  rw [h1, h2]
  rfl
 have hg := hg0; try simp only [SG] at hg
 refine gF rfl rfl <| gF rfl rfl <| F6 rfl (by assumption) rfl rfl ?_
 refine A5 ⟨nofun, _, kS [2,4,17] [2,4] rfl, ?_⟩
 refine A8 rfl (fun hc => ?_) (fun hc => absurd hc (by decide))
 refine A4 <| A0 <| K3 (fs := [_, _, _]) rfl rfl rfl rfl rfl <| B8 rfl rfl rfl rfl ⟨by decide, rfl, of_decide_eq_true rfl, of_decide_eq_true rfl, rfl⟩ rfl (by exact B4 rfl) <| A3 rfl rfl rfl ?_
 refine A5 ⟨nofun, _, kS [2,3] [2] rfl, ?_⟩
 refine B1 <| C9 (G1 rfl rfl rfl rfl (G0 rfl (G4 rfl (G4 rfl I5))) (D3 rfl rfl (E5 C4))) ?_
 obtain ⟨h1, h2⟩ := a5d (s := s) (by rw [hws] at *; omega)
 rw [h1, h2]
 rfl

theorem keep_s_numbers : G9 Tryd.f54 = [0, 2, 8, 7, 9, 6, 5, 3] := by kernel_rfl
set_option maxHeartbeats 20000000 in
theorem b8t (ns : List Int) (hl : ns.length ≤ 1000000) (hnb : ∀ n ∈ ns, -1000000 ≤ n ∧ n ≤ 1000000) : CW cxT 54 [L ns] = some (tV (T2 ns), []) := by
 have hg := fun (i : Nat) (h : i < ns.length) => hnb _ (a0p h)
 have hll := a8e (ns := ns) hnb
 refine G5 rfl Tryd.func54 rfl ⟨by kernel_rfl, rfl, of_decide_eq_true rfl, of_decide_eq_true rfl, by decide⟩ keep_s_numbers <| A4 <| A0 <| A3 rfl rfl rfl ?_
 refine A5 ⟨nofun, _, kS [0] [] rfl, ?_⟩
 refine A4 <| A0 ?_
 (refine B3 rfl rfl (fun _ => rfl) ?_; intro g3)
 refine A5 ⟨nofun, _, kS [0,3] [3] rfl, ?_⟩
 refine A4 <| A4 <| A0 <| A6 rfl rfl <| P1 rfl rfl <| A6 rfl rfl ?_
 refine A5 ⟨nofun, _, kS [3,6,7,8] [3] rfl, ?_⟩
 refine F0 <| S8 (β := Nat × List (List UInt8) × Nat) [(.t 6, _), (.t 7, _)] (fun (z : Nat × List (List UInt8) × Nat) => match z with | (i, ps, g) => [(.t 8, iV i), (.t 3, .sl 3 g none 0 ps.length), (.h 3, .obj g 0 1 (ps.map tV))]) (fun (z : Nat × List (List UInt8) × Nat) => match z with | (i, ps, g) => i ≤ ns.length ∧ ps = (ns.take i).map dec) (fun (z : Nat × List (List UInt8) × Nat) => match z with | (i, ps, g) => ns.length - i) (0, [], _) ⟨rfl, rfl, rfl, rfl, rfl, trivial⟩ ⟨Nat.zero_le _, rfl⟩ ?_
 intro z hb
 obtain ⟨i, ps, g⟩ := z
 try dsimp only at hb
 obtain ⟨hi1, hps⟩ := hb
 have hpl : ps.length = i := by rw [hps]; simp; omega
 refine A4 <| A0 <| O5 rfl rfl ?_
 refine A5 ⟨nofun, _, kS [3,6,7,8,9] [3] rfl, ?_⟩
 refine A4 ?_
 refine A8 rfl (fun hc => ?_) (fun hc => ?_)
 ·try simp only [SG, List.length_map] at hc
  refine B9 <| A4 <| F0 <| A4 <| A0 <| L4 rfl rfl rfl (fun _ => rfl) (by omega) <| K9 rfl rfl rfl <| A3 rfl rfl rfl ?_
  refine A5 ⟨nofun, _, kS [3,5,6,7,8] [3] rfl, ?_⟩
  refine A0 <| A6 rfl rfl <| A6 rfl rfl ?_
  have hgi := hg i (by omega)
  apply D9 rfl
  ·apply B7
   ·exact B6 rfl
   exact D8
  ·exact c4l (ns.getD i default) (by omega)
  ·exact ⟨rfl, rfl, rfl, of_decide_eq_true rfl, rfl⟩
  ·exact .inl rfl
  ·exact C0
  ·exact E6 rfl
  ·exact fun _ => rfl
  intro g14
  refine F9 (es := List.map tV [_]) rfl rfl (by decide) rfl rfl (fun _ => B5 (B2 fun _ => rfl)) (fun _ => rfl) ?_
  intro g15
  refine J5 rfl rfl rfl rfl (by (simp; done)) (by simp) (by decide) rfl rfl rfl rfl (by decide) (fun _ => ⟨rfl, rfl⟩) (by simp only [I2]; (simp only [List.length_nil, List.length_cons, List.length_append, Nat.zero_add, List.length_map]; omega)) (fun _ => rfl) ?_
  intro g16
  (refine C3 rfl rfl (by (simp; done)) rfl (fun _ => (B5 (by exact B2 fun _ => rfl))) (fun _ => rfl) ?_; intro g3)
  refine A5 ⟨nofun, _, kS [3,6,7,8] [3] rfl, ?_⟩
  refine A0 <| R4 rfl rfl (I9 (by omega)) <| A6 rfl rfl ?_
  refine A5 ⟨nofun, _, kS [3,6,7,8] [3] rfl, ?_⟩
  refine ⟨(i + 1, ps ++ [dec (ns.getD i default)], _), ?_, (by simp only; omega), ⟨rfl, rfl, rfl, rfl, rfl, trivial⟩⟩
  exact ⟨by omega, by rw [hps, ← a7l (by omega)]⟩
 try simp only [SG, List.length_map] at hc
 refine L8 <| A4 <| A0 <| A6 rfl rfl ?_
 have hpe : ps = ns.map dec := by rw [hps, List.take_of_length_le (by omega)]
 have hje : joinB 44 ps = T2 ns := by rw [hpe]; rfl
 apply D9 rfl
 ·apply B7
  ·exact Y9 rfl rfl rfl (by (simp; done)) (fun _ => rfl)
  apply B7
  ·exact B6 rfl
  exact D8
 ·exact c4i ps 44 (by simp only [I2]; omega) (by rw [hje]; simp only [I2]; omega)
 ·exact ⟨rfl, rfl, rfl, of_decide_eq_true rfl, rfl⟩
 ·exact .inr ⟨rfl, rfl⟩
 ·exact C0
 ·exact E6 rfl
 ·exact fun _ => rfl
 intro g19
 refine A3 rfl rfl rfl ?_
 refine A5 ⟨nofun, _, kS [2] [] rfl, ?_⟩
 refine B1 <| C6 rfl rfl trivial ?_
 rw [hje]

theorem keep_s_listTextI : G9 Tryd.f42 = [0, 2] := by kernel_rfl
set_option maxHeartbeats 20000000 in
theorem a3j (ns : List Int) (hl : ns.length ≤ 1000000) (hnb : ∀ n ∈ ns, -1000000 ≤ n ∧ n ≤ 1000000) : CW cxT 42 [L ns] = some (tV (W6 ns), []) := by
 have hll := a8e (ns := ns) hnb
 refine G5 rfl Tryd.func42 rfl ⟨by kernel_rfl, rfl, of_decide_eq_true rfl, of_decide_eq_true rfl, by decide⟩ keep_s_listTextI <| A4 <| A0 <| A3 rfl rfl rfl ?_
 refine A5 ⟨nofun, _, kS [0] [] rfl, ?_⟩
 refine A4 <| A0 <| A6 rfl rfl ?_
 apply D9 rfl
 ·apply B7
  ·exact B6 rfl
  exact D8
 ·exact b8t ns hl hnb
 ·exact ⟨rfl, rfl, rfl, of_decide_eq_true rfl, rfl⟩
 ·exact .inl rfl
 ·exact C0
 ·exact E6 rfl
 ·exact fun _ => rfl
 intro g4
 refine a8x rfl rfl (by simp only [I2, List.length_append, List.length_cons, List.length_nil]; omega) <| a8x rfl rfl (by simp only [I2, List.length_append, List.length_cons, List.length_nil]; omega) <| A3 rfl rfl rfl ?_
 refine A5 ⟨nofun, _, kS [2] [] rfl, ?_⟩
 refine B1 <| C6 rfl rfl trivial ?_
 rfl

theorem keep_s_readListI : G9 Tryd.f72 = [0, 2, 3, 4, 6, 5, 27, 29, 33, 32, 34, 31, 9, 11, 43, 10, 7] := by kernel_rfl
set_option maxHeartbeats 20000000 in
theorem b1h (w : List UInt8) (hs : w.length ≤ 1048576) : CW cxT 72 [tV w] = some (.tup [.own 1 ((rlX w).map iV), bV (okI w)], []) := by
 have hc1 := c1s 91 w
 have hc2 := b9u 93 (m9 91 w)
 refine G5 rfl Tryd.func72 rfl ⟨by kernel_rfl, rfl, of_decide_eq_true rfl, of_decide_eq_true rfl, by decide⟩ keep_s_readListI <| A4 <| A0 ?_
 (refine B3 rfl rfl (fun _ => rfl) ?_; intro g2)
 refine A3 rfl rfl rfl ?_
 refine A5 ⟨nofun, _, kS [0] [] rfl, ?_⟩
 refine A4 <| A0 <| A6 rfl rfl ?_
 apply D9 rfl
 ·apply B7
  ·exact B6 rfl
  apply B7
  ·exact B6 rfl
  exact D8
 ·exact c4w w 91
 ·exact ⟨rfl, rfl, rfl, of_decide_eq_true rfl, rfl⟩
 ·exact .inl rfl
 ·exact C0
 ·exact J3 rfl
 ·exact fun _ => rfl
 intro g14
 refine A6 rfl rfl <| A9 rfl rfl rfl <| A9 rfl rfl rfl <| A3 rfl rfl rfl <| A3 rfl rfl rfl ?_
 refine A5 ⟨nofun, _, kS [0,4,5] [] rfl, ?_⟩
 refine A4 <| A0 <| A6 rfl rfl ?_
 apply D9 rfl
 ·apply B7
  ·exact B6 rfl
  apply B7
  ·exact B6 rfl
  exact D8
 ·exact c5b (m9 91 w) 93 (by omega)
 ·exact ⟨rfl, rfl, rfl, of_decide_eq_true rfl, rfl⟩
 ·exact .inl rfl
 ·exact C0
 ·exact J3 rfl
 ·exact fun _ => rfl
 intro g19
 refine A6 rfl rfl <| A9 rfl rfl rfl <| A9 rfl rfl rfl <| A3 rfl rfl rfl <| A3 rfl rfl rfl ?_
 refine A5 ⟨nofun, _, kS [0,4,5,6] [] rfl, ?_⟩
 refine A4 <| A4 <| A0 <| A6 rfl rfl <| P4 rfl <| A6 rfl rfl ?_
 refine D6 rfl rfl (fun hg0 => ?_) (fun hg0 => ?_)
 ·have hg := hg0; try simp only [SG] at hg
  refine A6 rfl rfl <| gT rfl rfl <| P4 rfl <| G2 rfl (by assumption) rfl rfl ?_
  refine A5 ⟨nofun, _, kS [0,4,27] [] rfl, ?_⟩
  refine A8 rfl (fun hc => ?_) (fun hc => ?_)
  ·try simp only [SG, List.length_map] at hc
   refine A4 <| A0 ?_
   (refine B3 rfl rfl (fun _ => rfl) ?_; intro g2)
   refine A3 rfl rfl rfl ?_
   refine A5 ⟨nofun, _, kS [2,3] [2] rfl, ?_⟩
   refine B1 <| C9 (F7 rfl rfl (by simp) (by rfl) (D3 rfl rfl (E5 C4))) ?_
   obtain ⟨h1, h2⟩ := b0j (b2z (w := w) (by simp_all [okB]))
   rw [h1, h2]
   rfl
  try simp only [SG, List.length_map] at hc
  have hok : okB w = true := by simp [okB]; constructor <;> assumption
  obtain ⟨ps, hps0⟩ : ∃ ps, ps = splitB 44 (o6 w) := ⟨_, rfl⟩
  have hpl := Q1 44 (o6 w)
  have hpp := Y8 44 (o6 w)
  rw [← hps0] at hpl hpp
  have hil := c0q hok
  refine B9 <| A4 <| A0 ?_
  (refine B3 rfl rfl (fun _ => rfl) ?_; intro g7)
  refine A5 ⟨nofun, _, kS [0,4,7] [7] rfl, ?_⟩
  refine A4 <| A4 <| A0 <| A6 rfl rfl <| a7w rfl rfl ?_
  refine A5 ⟨nofun, _, kS [0,4,7,29] [7] rfl, ?_⟩
  refine A8 rfl (fun hc => ?_) (fun hc => ?_)
  ·try simp only [SG, List.length_map] at hc
   have hin : o6 w ≠ [] := hc
   refine A4 <| A0 <| A6 rfl rfl ?_
   have hps := hps0
   apply D9 rfl
   ·apply B7
    ·exact B6 rfl
    apply B7
    ·exact B6 rfl
    exact D8
   ·exact b7a (o6 w) 44 (by unfold o6; omega)
   ·exact ⟨rfl, rfl, rfl, of_decide_eq_true rfl, rfl⟩
   ·exact .inl rfl
   ·exact C0
   ·exact a0y
   ·(intro _; exact D4 (B5 (B2 fun _ => rfl)) rfl)
   intro g31
   rw [← hps]
   try simp only [List.length_map]
   refine a0i rfl rfl <| A6 rfl rfl ?_
   refine A5 ⟨nofun, _, kS [0,7,31,32,33] [7,1000031] rfl, ?_⟩
   refine F0 <| S8 (β := Nat × List Int × Nat) [(.t 0, _), (.t 31, _), (.t 32, _), (.h 1000031, _)] (fun (z : Nat × List Int × Nat) => match z with | (i, ns, g) => [(.t 33, iV i), (.t 7, .sl 7 g none 0 ns.length), (.h 7, .obj g 0 1 (ns.map iV))]) (fun (z : Nat × List Int × Nat) => match z with | (i, ns, g) => i ≤ ps.length ∧ rdA (ps.take i) = some ns) (fun (z : Nat × List Int × Nat) => match z with | (i, ns, g) => ps.length - i) (0, [], _) ⟨rfl, rfl, rfl, rfl, rfl, rfl, rfl, trivial⟩ ⟨Nat.zero_le _, rfl⟩ ?_
   intro z hb
   obtain ⟨i, ns, g⟩ := z
   try dsimp only at hb
   obtain ⟨hi1, hrd⟩ := hb
   have hpi := fun h : i < ps.length => hpp _ (c8 h)
   have hnl := a5l hrd
   rw [List.length_take] at hnl
   refine A4 <| A0 <| O5 rfl rfl ?_
   refine A5 ⟨nofun, _, kS [0,7,31,32,33,34] [7,1000031] rfl, ?_⟩
   refine A4 ?_
   refine A8 rfl (fun hc => ?_) (fun hc => ?_)
   ·try simp only [SG, List.length_map] at hc
    refine B9 <| A4 <| F0 <| A4 <| A0 <| V8 rfl rfl rfl rfl (by omega) (by (simp; done)) rfl <| V4 rfl rfl (by omega) (fun _ => rfl) (fun _ => rfl) rfl <| A3 rfl rfl rfl ?_
    refine A5 ⟨nofun, _, kS [0,7,9,31,32,33] [7,1000031] rfl, ?_⟩
    refine A4 <| A0 <| A6 rfl rfl ?_
    rcases hat : Lib.atoiAll (ps.getD i default) with v | _ | _
    ·skip
     apply D9 rfl
     ·apply B7
      ·exact B6 rfl
      exact D8
     ·exact (by have hi := b4i (ps.getD i default) (by omega); unfold atR at hi; rw [hat] at hi; exact hi)
     ·exact ⟨rfl, rfl, rfl, of_decide_eq_true rfl, rfl⟩
     ·exact .inl rfl
     ·exact C0
     ·exact J3 rfl
     ·exact fun _ => rfl
     intro g39
     refine A6 rfl rfl <| A9 rfl rfl rfl <| A9 rfl rfl rfl <| A3 rfl rfl rfl <| A3 rfl rfl rfl ?_
     refine A5 ⟨nofun, _, kS [0,7,10,11,31,32,33] [7,1000031] rfl, ?_⟩
     refine A4 <| A4 <| A0 <| A6 rfl rfl <| c0h rfl rfl rfl rfl ?_
     refine A5 ⟨nofun, _, kS [0,7,10,31,32,33,43] [7,1000031] rfl, ?_⟩
     refine A8 rfl (fun hc => absurd hc (by decide)) (fun hc => ?_)
     refine B9 <| A0 <| A6 rfl rfl <| A6 rfl rfl <| F9 (es := List.map iV [_]) rfl rfl (by decide) rfl rfl (fun _ => B5 (B2 fun _ => rfl)) (fun _ => rfl) ?_
     intro g46
     refine J5 rfl rfl rfl rfl (by (simp; done)) (by simp) (by decide) rfl rfl rfl rfl (by decide) (fun _ => ⟨rfl, rfl⟩) (by simp only [I2]; (simp only [List.length_nil, List.length_cons, List.length_append, Nat.zero_add, List.length_map]; omega)) (fun _ => rfl) ?_
     intro g47
     (refine C3 rfl rfl (by (simp; done)) rfl (fun _ => (B5 (by exact B2 fun _ => rfl))) (fun _ => rfl) ?_; intro g7)
     refine A5 ⟨nofun, _, kS [0,7,31,32,33] [7,1000031] rfl, ?_⟩
     refine A0 <| R4 rfl rfl (I9 (by omega)) <| A6 rfl rfl ?_
     refine A5 ⟨nofun, _, kS [0,7,31,32,33] [7,1000031] rfl, ?_⟩
     refine ⟨(i + 1, ns ++ [v], _), ?_, (by simp only; omega), ⟨rfl, rfl, rfl, rfl, rfl, rfl, rfl, trivial⟩⟩
     exact ⟨by omega, c0x (by omega) hrd hat⟩
    ·skip
     apply D9 rfl
     ·apply B7
      ·exact B6 rfl
      exact D8
     ·exact (by have hi := b4i (ps.getD i default) (by omega); unfold atR at hi; rw [hat] at hi; exact hi)
     ·exact ⟨rfl, rfl, rfl, of_decide_eq_true rfl, rfl⟩
     ·exact .inl rfl
     ·exact C0
     ·exact J3 rfl
     ·exact fun _ => rfl
     intro g39
     refine A6 rfl rfl <| A9 rfl rfl rfl <| A9 rfl rfl rfl <| A3 rfl rfl rfl <| A3 rfl rfl rfl ?_
     refine A5 ⟨nofun, _, kS [0,7,10,11,31,32,33] [7,1000031] rfl, ?_⟩
     refine A4 <| A4 <| A0 <| A6 rfl rfl <| b1z rfl rfl rfl ?_
     refine A5 ⟨nofun, _, kS [0,7,10,31,32,33,43] [7,1000031] rfl, ?_⟩
     refine A8 rfl (fun hc => ?_) (fun hc => absurd hc (by decide))
     refine A4 <| A0 ?_
     (refine B3 rfl rfl (fun _ => rfl) ?_; intro g2)
     refine A3 rfl rfl rfl ?_
     refine A5 ⟨nofun, _, kS [2,3] [2] rfl, ?_⟩
     refine B1 <| C9 (F7 rfl rfl (by simp) (by rfl) (D3 rfl rfl (E5 C4))) ?_
     obtain ⟨h1, h2⟩ := b0j (w := w) (by rw [a4a hok hin, ← hps0]; exact b2i (i := i) (by omega) (by intro v hv; rw [hat] at hv; cases hv))
     rw [h1, h2]
     rfl
    skip
    apply D9 rfl
    ·apply B7
     ·exact B6 rfl
     exact D8
    ·exact (by have hi := b4i (ps.getD i default) (by omega); unfold atR at hi; rw [hat] at hi; exact hi)
    ·exact ⟨rfl, rfl, rfl, of_decide_eq_true rfl, rfl⟩
    ·exact .inl rfl
    ·exact C0
    ·exact J3 rfl
    ·exact fun _ => rfl
    intro g39
    refine A6 rfl rfl <| A9 rfl rfl rfl <| A9 rfl rfl rfl <| A3 rfl rfl rfl <| A3 rfl rfl rfl ?_
    refine A5 ⟨nofun, _, kS [0,7,10,11,31,32,33] [7,1000031] rfl, ?_⟩
    refine A4 <| A4 <| A0 <| A6 rfl rfl <| b1z rfl rfl rfl ?_
    refine A5 ⟨nofun, _, kS [0,7,10,31,32,33,43] [7,1000031] rfl, ?_⟩
    refine A8 rfl (fun hc => ?_) (fun hc => absurd hc (by decide))
    refine A4 <| A0 ?_
    (refine B3 rfl rfl (fun _ => rfl) ?_; intro g2)
    refine A3 rfl rfl rfl ?_
    refine A5 ⟨nofun, _, kS [2,3] [2] rfl, ?_⟩
    refine B1 <| C9 (F7 rfl rfl (by simp) (by rfl) (D3 rfl rfl (E5 C4))) ?_
    obtain ⟨h1, h2⟩ := b0j (w := w) (by rw [a4a hok hin, ← hps0]; exact b2i (i := i) (by omega) (by intro v hv; rw [hat] at hv; cases hv))
    rw [h1, h2]
    rfl
   try simp only [SG, List.length_map] at hc
   refine L8 <| A4 <| A0 <| A6 rfl rfl <| A6 rfl rfl ?_
   apply D9 rfl
   ·apply B7
    ·exact Y9 rfl rfl rfl (by (simp; done)) (fun _ => rfl)
    exact D8
   ·exact a1a ns (by omega)
   ·exact ⟨rfl, rfl, rfl, of_decide_eq_true rfl, rfl⟩
   ·exact .inr ⟨rfl, rfl⟩
   ·exact C0
   ·exact E6 rfl
   ·exact fun _ => rfl
   intro g51
   refine A6 rfl rfl ?_
   refine D6 rfl rfl (fun hg0 => ?_) (fun hg0 => ?_)
   ·have hg := hg0; try simp only [SG] at hg
    refine A6 rfl rfl <| gT rfl rfl ?_
    (have hnb := c5w (ns := ns) (by assumption); have hvl := c4k (show vd ns = true by assumption))
    apply D9 rfl
    ·apply B7
     ·exact Y9 rfl rfl rfl (by (simp; done)) (fun _ => rfl)
     exact D8
    ·exact a3j ns (by omega) hnb
    ·exact ⟨rfl, rfl, rfl, of_decide_eq_true rfl, rfl⟩
    ·exact .inr ⟨rfl, rfl⟩
    ·exact C0
    ·exact E6 rfl
    ·exact fun _ => rfl
    intro g54
    refine gT rfl rfl <| A6 rfl rfl <| gT rfl rfl <| b2c rfl rfl <| F6 rfl (by assumption) rfl rfl ?_
    (refine C3 rfl rfl (by (simp; done)) rfl (fun _ => (B5 (by exact B2 fun _ => rfl))) (fun _ => rfl) ?_; intro g2)
    refine A3 rfl rfl rfl ?_
    refine A5 ⟨nofun, _, kS [2,3] [2] rfl, ?_⟩
    refine B1 <| C9 (F7 rfl rfl (by simp) (by exact B2 fun _ => rfl) (D3 rfl rfl (E5 C4))) ?_
    (have hx := hin; obtain ⟨h1, h2⟩ := a0c (ns := ns) (w := w) (by rw [a4a hok hx, ← hps0]; rw [List.take_of_length_le (by omega)] at hrd; exact hrd))
    (rw [h1, h2, hg, Bool.true_and]; rfl)
   have hg := hg0; try simp only [SG] at hg
   refine gF rfl rfl <| gF rfl rfl <| gF rfl rfl <| G2 rfl (by assumption) rfl rfl ?_
   (refine C3 rfl rfl (by (simp; done)) rfl (fun _ => (B5 (by exact B2 fun _ => rfl))) (fun _ => rfl) ?_; intro g2)
   refine A3 rfl rfl rfl ?_
   refine A5 ⟨nofun, _, kS [2,3] [2] rfl, ?_⟩
   refine B1 <| C9 (F7 rfl rfl (by simp) (by exact B2 fun _ => rfl) (D3 rfl rfl (E5 C4))) ?_
   (have hx := hin; obtain ⟨h1, h2⟩ := a0c (ns := ns) (w := w) (by rw [a4a hok hx, ← hps0]; rw [List.take_of_length_le (by omega)] at hrd; exact hrd))
   (rw [h1, h2, hg, Bool.false_and]; rfl)
  try simp only [SG, List.length_map] at hc
  have hie : o6 w = [] := hc
  refine B9 <| A4 <| A0 <| A6 rfl rfl <| A6 rfl rfl ?_
  apply D9 rfl
  ·apply B7
   ·exact b0h rfl rfl rfl rfl rfl
   exact D8
  ·exact a1a [] (by decide)
  ·exact ⟨rfl, rfl, rfl, of_decide_eq_true rfl, rfl⟩
  ·exact .inr ⟨rfl, rfl⟩
  ·exact C0
  ·exact E6 rfl
  ·exact fun _ => rfl
  intro g51
  refine A6 rfl rfl ?_
  refine D6 rfl rfl (fun hg0 => ?_) (fun hg0 => ?_)
  ·have hg := hg0; try simp only [SG] at hg
   refine A6 rfl rfl <| gT rfl rfl ?_
   skip
   apply D9 rfl
   ·apply B7
    ·exact b0h rfl rfl rfl rfl rfl
    exact D8
   ·exact a3j [] (by decide) (by simp)
   ·exact ⟨rfl, rfl, rfl, of_decide_eq_true rfl, rfl⟩
   ·exact .inr ⟨rfl, rfl⟩
   ·exact C0
   ·exact E6 rfl
   ·exact fun _ => rfl
   intro g54
   refine gT rfl rfl <| A6 rfl rfl <| gT rfl rfl <| b2c rfl rfl <| F6 rfl rfl rfl rfl ?_
   (refine C3 rfl rfl (by (simp; done)) rfl (fun _ => (B5 (by rfl))) (fun _ => rfl) ?_; intro g2)
   refine A3 rfl rfl rfl ?_
   refine A5 ⟨nofun, _, kS [2,3] [2] rfl, ?_⟩
   refine B1 <| C9 (F7 rfl rfl (by simp) (by rfl) (D3 rfl rfl (E5 C4))) ?_
   obtain ⟨h1, h2⟩ := a0c (ns := []) (w := w) (b7b hok hie)
   (rw [h1, h2, hg, Bool.true_and]; rfl)
  have hg := hg0; try simp only [SG] at hg
  refine gF rfl rfl <| gF rfl rfl <| gF rfl rfl <| G2 rfl (by assumption) rfl rfl ?_
  (refine C3 rfl rfl (by (simp; done)) rfl (fun _ => (B5 (by rfl))) (fun _ => rfl) ?_; intro g2)
  refine A3 rfl rfl rfl ?_
  refine A5 ⟨nofun, _, kS [2,3] [2] rfl, ?_⟩
  refine B1 <| C9 (F7 rfl rfl (by simp) (by rfl) (D3 rfl rfl (E5 C4))) ?_
  obtain ⟨h1, h2⟩ := a0c (ns := []) (w := w) (b7b hok hie)
  (rw [h1, h2, hg, Bool.false_and]; rfl)
 have hg := hg0; try simp only [SG] at hg
 refine gF rfl rfl <| F6 rfl (by assumption) rfl rfl ?_
 refine A5 ⟨nofun, _, kS [0,4,27] [] rfl, ?_⟩
 refine A8 rfl (fun hc => ?_) (fun hc => absurd hc (by decide))
 refine A4 <| A0 ?_
 (refine B3 rfl rfl (fun _ => rfl) ?_; intro g2)
 refine A3 rfl rfl rfl ?_
 refine A5 ⟨nofun, _, kS [2,3] [2] rfl, ?_⟩
 refine B1 <| C9 (F7 rfl rfl (by simp) (by rfl) (D3 rfl rfl (E5 C4))) ?_
 obtain ⟨h1, h2⟩ := b0j (b2z (w := w) (by simp_all [okB]))
 rw [h1, h2]
 rfl

theorem keep_s_readWord : G9 Tryd.f63 = [0, 2, 3, 4, 6, 12, 5] := by kernel_rfl
set_option maxHeartbeats 20000000 in
theorem Y6 (w : List UInt8) (hs : w.length ≤ 1048576) : CW cxT 63 [tV w] = some (.tup [tV (if (numsOf w).isSome = true then lW else w), .own 1 (((numsOf w).getD []).map iV), bV ((numsOf w).isSome || decide (0 ≤ rch (bA w)))], []) := by
 refine G5 rfl Tryd.func63 rfl ⟨by kernel_rfl, rfl, of_decide_eq_true rfl, of_decide_eq_true rfl, by decide⟩ keep_s_readWord <| A4 <| A0 <| A3 rfl rfl rfl ?_
 (refine B3 rfl rfl (fun _ => rfl) ?_; intro g3)
 refine A3 rfl rfl rfl ?_
 refine A5 ⟨nofun, _, kS [0] [] rfl, ?_⟩
 refine A4 <| A4 <| A0 <| A6 rfl rfl ?_
 apply D9 rfl
 ·apply B7
  ·exact B6 rfl
  exact D8
 ·exact (by have hi := b1h w hs; rw [c5a] at hi; exact hi)
 ·exact ⟨rfl, rfl, rfl, of_decide_eq_true rfl, rfl⟩
 ·exact .inr ⟨j8 _ _, rfl⟩
 ·exact C0
 ·exact H8 (P9 fun _ => H7 rfl P7)
 ·exact fun _ => rfl
 intro g9
 simp only [List.length_map]
 refine A6 rfl rfl <| A9 rfl rfl rfl <| A9 rfl rfl rfl ?_
 (refine C3 rfl rfl (by (simp; done)) rfl (fun _ => (B5 (by exact B2 fun _ => rfl))) (fun _ => rfl) ?_; intro g5)
 refine A3 rfl rfl rfl ?_
 refine A5 ⟨nofun, _, kS [0,5,6] [5] rfl, ?_⟩
 refine A4 <| A0 <| A6 rfl rfl ?_
 refine A5 ⟨nofun, _, kS [0,5,12] [5] rfl, ?_⟩
 refine A8 rfl (fun hc => ?_) (fun hc => ?_)
 ·try simp only [SG, List.length_map] at hc
  obtain ⟨ns, hns⟩ := Option.isSome_iff_exists.1 hc
  have hraw := c4f hns
  refine A4 <| A0 <| A6 rfl rfl <| A3 rfl rfl rfl ?_
  (refine C3 rfl rfl (by (simp; done)) rfl (fun _ => (B5 (by exact B2 fun _ => rfl))) (fun _ => rfl) ?_; intro g3)
  refine A3 rfl rfl rfl ?_
  refine A5 ⟨nofun, _, kS [2,3,4] [3] rfl, ?_⟩
  refine B1 <| C9 (D3 rfl rfl (F7 rfl rfl (by simp) (by exact B2 fun _ => rfl) (D3 rfl rfl (E5 C4)))) ?_
  rw [hns, hraw]
  rfl
 try simp only [SG, List.length_map] at hc
 have hnn : numsOf w = none := by simpa using hc
 have hwo := c3j w
 refine B9 <| A4 <| A0 <| A6 rfl rfl <| A6 rfl rfl <| a7w rfl rfl <| A6 rfl rfl ?_
 refine D6 rfl rfl (fun hg0 => ?_) (fun hg0 => ?_)
 ·have hg := hg0; try simp only [SG] at hg
  refine A6 rfl rfl <| gT rfl rfl ?_
  apply D9 rfl
  ·apply B7
   ·exact B6 rfl
   exact D8
  ·exact a0l (bA w)
  ·exact ⟨rfl, rfl, rfl, of_decide_eq_true rfl, rfl⟩
  ·exact .inl rfl
  ·exact C0
  ·exact E6 rfl
  ·exact fun _ => rfl
  intro g19
  refine gT rfl rfl <| c0f rfl rfl <| F6 rfl (by assumption) rfl rfl <| A3 rfl rfl rfl ?_
  (refine B3 rfl rfl (fun _ => rfl) ?_; intro g3)
  refine A3 rfl rfl rfl ?_
  refine A5 ⟨nofun, _, kS [2,3,4] [3] rfl, ?_⟩
  refine B1 <| C9 (D3 rfl rfl (F7 rfl rfl (by simp) (by rfl) (D3 rfl rfl (E5 C4)))) ?_
  rw [hnn, ← hwo]
  simp_all
  try rfl
 have hg := hg0; try simp only [SG] at hg
 refine gF rfl rfl <| gF rfl rfl <| G2 rfl (by assumption) rfl rfl <| A3 rfl rfl rfl ?_
 (refine B3 rfl rfl (fun _ => rfl) ?_; intro g3)
 refine A3 rfl rfl rfl ?_
 refine A5 ⟨nofun, _, kS [2,3,4] [3] rfl, ?_⟩
 refine B1 <| C9 (D3 rfl rfl (F7 rfl rfl (by simp) (by rfl) (D3 rfl rfl (E5 C4)))) ?_
 rw [hnn, ← hwo]
 simp_all
 try rfl

theorem keep_s_readWords : G9 Tryd.f53 = [0, 2, 3, 4, 15, 7, 26, 6, 5, 35, 34, 36, 9, 12, 44, 8, 10, 11, 39, 50] := by kernel_rfl
set_option maxHeartbeats 20000000 in
theorem a2p (ws : List W8) (hws : ws.length ≤ 1048600 ∧ ∀ w ∈ ws, w.length ≤ 1048576) : CW cxT 53 [.list (ws.map tV)] = some (rtR (rdT ws), []) := by
 obtain ⟨kk, hkk⟩ : ∃ kk : Nat, ws.length < kk := ⟨_, Nat.lt_succ_self _⟩
 revert ws
 induction kk with
 | zero => intro ws hws hkk; exact absurd hkk (Nat.not_lt_zero _)
 | succ kk ih =>
  intro ws hws hkk
  refine G5 rfl Tryd.func53 rfl ⟨by kernel_rfl, rfl, of_decide_eq_true rfl, of_decide_eq_true rfl, by decide⟩ keep_s_readWords <| A4 <| A0 <| G7 rfl (fun _ => B4 rfl) (fun _ => rfl) ?_
  intro g2
  (refine B3 rfl rfl (fun _ => rfl) ?_; intro g3)
  refine A3 rfl rfl rfl ?_
  refine A5 ⟨nofun, _, kS [0,2] [2] rfl, ?_⟩
  refine A4 <| A4 <| A0 <| A6 rfl rfl <| P1 rfl rfl <| a6o rfl rfl ?_
  refine A5 ⟨nofun, _, kS [0,2,15] [2] rfl, ?_⟩
  refine A8 rfl (fun hc => ?_) (fun hc => ?_)
  ·try simp only [SG, List.length_map] at hc
   have hw0 : ws = [] := List.length_eq_zero_iff.1 (by simpa using hc)
   subst hw0
   refine A4 <| A0 <| K3 (fs := [_, _, _]) rfl rfl rfl rfl rfl <| B8 rfl rfl rfl rfl ⟨by decide, rfl, of_decide_eq_true rfl, of_decide_eq_true rfl, rfl⟩ rfl (by exact B4 rfl) ?_
   (refine B3 rfl rfl (fun _ => rfl) ?_; intro g3)
   refine A3 rfl rfl rfl ?_
   refine A5 ⟨nofun, _, kS [2,3,4] [2,3] rfl, ?_⟩
   refine B1 <| C9 (G1 rfl rfl rfl rfl (G0 rfl (G4 rfl (G4 rfl I5))) (F7 rfl rfl (by simp) (by rfl) (D3 rfl rfl (E5 C4)))) ?_
   rfl
  try simp only [SG, List.length_map] at hc
  obtain ⟨w, ws1, rfl⟩ : ∃ w ws1, ws = w :: ws1 := List.exists_cons_of_ne_nil (fun e => by subst e; simp at hc)
  have hw := hws.2 w (by simp)
  refine B9 <| A4 <| A0 <| A6 rfl rfl <| L4 rfl rfl rfl (fun _ => rfl) (by (change 0 < _; omega)) <| K9 rfl rfl rfl ?_
  rcases c1y w with ⟨ns, hns⟩ | ⟨hnn, hn⟩ | ⟨hnn, hn⟩ | ⟨hnn, hn⟩ | ⟨hnn, hn⟩
  ·skip
   apply D9 rfl
   ·apply B7
    ·exact B6 rfl
    exact D8
   ·exact (show CW cxT 63 [tV w] = some (.tup [tV lW, .own 1 (ns.map iV), bV true], []) from by have hi := Y6 w (by omega); rw [hns] at hi; exact hi)
   ·exact ⟨rfl, rfl, rfl, of_decide_eq_true rfl, rfl⟩
   ·exact .inr ⟨by simp [hasList, D7], rfl⟩
   ·exact C0
   ·exact H8 (H7 rfl (P9 fun _ => H7 rfl P7))
   ·exact fun _ => D4 (B5 (B2 fun _ => rfl)) (by rfl)
   intro g21
   try simp only [List.length_map]
   refine A6 rfl rfl <| A9 rfl rfl rfl <| A9 rfl rfl rfl <| A9 rfl rfl rfl <| A3 rfl rfl rfl ?_
   (refine C3 rfl rfl (by (simp; done)) rfl (fun _ => (B5 (by exact B2 fun _ => rfl))) (fun _ => rfl) ?_; intro g6)
   refine A3 rfl rfl rfl ?_
   refine A5 ⟨nofun, _, kS [0,2,5,6,7] [2,6] rfl, ?_⟩
   refine A4 <| A4 <| A0 <| A6 rfl rfl <| P4 rfl ?_
   refine A5 ⟨nofun, _, kS [0,2,5,6,26] [2,6] rfl, ?_⟩
   refine A8 rfl (fun hc => absurd hc (by decide)) (fun hc => ?_)
   refine B9 <| A4 <| A0 <| A6 rfl rfl <| A6 rfl rfl <| K3 (fs := [_, _, _]) rfl rfl rfl rfl rfl <| A6 rfl rfl <| K7 rfl rfl rfl (Mv.sized_map fun _ => rfl) J7 (G8 (n := 1) rfl) (by simp) ?_
   rw [show ((List.map tV (w :: ws1)).drop 1).take ((List.map tV (w :: ws1)).length - 1) = ws1.map tV from by rw [List.map_cons, List.drop_succ_cons, List.drop_zero, List.take_of_length_le (by simp)]]
   refine G7 rfl (fun _ => B4 rfl) (fun _ => rfl) ?_
   intro g8
   refine I7 rfl rfl rfl rfl (M1 rfl (k9 (by decide) (M1 rfl Y3))) (fun _ => rfl) ⟨by decide, rfl, of_decide_eq_true rfl, Nat.le_refl _⟩ (fun _ => rfl) (fun _ => rfl) (fun _ => (by rfl)) ?_
   intro z
   simp only [R7, List.cons_append, List.nil_append]
   refine A3 rfl rfl rfl ?_
   refine A5 ⟨fun _ => ⟨by (simp only [n6, List.nil_append, List.append_nil, List.map_cons, List.map_nil, List.cons_append]; decide +kernel), by decide +kernel⟩, [(.t 2, _), (.t 5, _), (.t 8, _), (.t 9, _), (.h 2, _), (.h 8, _), (.h 6, _)], ⟨rfl, rfl, rfl, rfl, rfl, rfl, rfl, rfl, rfl, rfl, rfl, rfl, rfl, rfl, trivial⟩, ?_⟩
   refine A4 <| A4 <| A0 <| A6 rfl rfl ?_
   apply D9 rfl
   ·apply B7
    ·exact B6 rfl
    exact D8
   ·exact a0l (bA lW)
   ·exact ⟨rfl, rfl, rfl, of_decide_eq_true rfl, rfl⟩
   ·exact .inl rfl
   ·exact C0
   ·exact E6 rfl
   ·exact fun _ => rfl
   intro g34
   rw [show nd (bA lW) = 0 from c3d rfl]
   refine A6 rfl rfl ?_
   refine A5 ⟨nofun, _, kS [2,8,9,34,35] [2,8,6] rfl, ?_⟩
   refine F0 <| K0 <| A4 <| A0 <| O5 rfl rfl ?_
   refine A5 ⟨nofun, _, kS [2,8,9,34,35,36] [2,8,6] rfl, ?_⟩
   refine A4 ?_
   refine A8 rfl (fun hc => absurd hc (by decide)) (fun hc => ?_)
   refine L8 <| A4 <| A0 <| F8 rfl rfl rfl rfl rfl <| A6 rfl rfl <| I7 rfl rfl rfl rfl (M1 rfl (k9 (by decide) (M1 rfl Y3))) (fun _ => rfl) ⟨by decide, rfl, of_decide_eq_true rfl, Nat.le_refl _⟩ (fun _ => rfl) (fun _ => rfl) (fun _ => (by rfl)) ?_
   intro z
   simp only [R7, List.cons_append, List.nil_append]
   refine A3 rfl rfl rfl <| A3 rfl rfl rfl ?_
   refine A5 ⟨nofun, _, kS [2,3,4] [2,6] rfl, ?_⟩
   refine B1 <| C9 (G1 rfl rfl rfl rfl (G0 rfl (e6 rfl rfl (by simp) (fun _ => rfl) (G4 rfl I5))) (D3 rfl rfl (D3 rfl rfl (E5 C4)))) ?_
   rw [b1v hns]
   rfl
  ·skip
   apply D9 rfl
   ·apply B7
    ·exact B6 rfl
    exact D8
   ·exact (show CW cxT 63 [tV w] = some (.tup [tV w, .own 1 [], bV true], []) from by have hi := Y6 w (by omega); rw [hnn] at hi; rw [show decide (0 ≤ rch (bA w)) = true from decide_eq_true (by omega)] at hi; exact hi)
   ·exact ⟨rfl, rfl, rfl, of_decide_eq_true rfl, rfl⟩
   ·exact .inr ⟨rfl, rfl⟩
   ·exact C0
   ·exact H8 (H7 rfl (P9 fun _ => H7 rfl P7))
   ·exact fun _ => D4 (B5 rfl) (by rfl)
   intro g21
   try simp only [List.length_map]
   refine A6 rfl rfl <| A9 rfl rfl rfl <| A9 rfl rfl rfl <| A9 rfl rfl rfl <| A3 rfl rfl rfl ?_
   (refine C3 rfl rfl (by (simp; done)) rfl (fun _ => (B5 (by rfl))) (fun _ => rfl) ?_; intro g6)
   refine A3 rfl rfl rfl ?_
   refine A5 ⟨nofun, _, kS [0,2,5,6,7] [2,6] rfl, ?_⟩
   refine A4 <| A4 <| A0 <| A6 rfl rfl <| P4 rfl ?_
   refine A5 ⟨nofun, _, kS [0,2,5,6,26] [2,6] rfl, ?_⟩
   refine A8 rfl (fun hc => absurd hc (by decide)) (fun hc => ?_)
   refine B9 <| A4 <| A0 <| A6 rfl rfl <| A6 rfl rfl <| K3 (fs := [_, _, _]) rfl rfl rfl rfl rfl <| A6 rfl rfl <| K7 rfl rfl rfl (Mv.sized_map fun _ => rfl) J7 (G8 (n := 1) rfl) (by simp) ?_
   rw [show ((List.map tV (w :: ws1)).drop 1).take ((List.map tV (w :: ws1)).length - 1) = ws1.map tV from by rw [List.map_cons, List.drop_succ_cons, List.drop_zero, List.take_of_length_le (by simp)]]
   refine G7 rfl (fun _ => B4 rfl) (fun _ => rfl) ?_
   intro g8
   refine I7 rfl rfl rfl rfl (M1 rfl (k9 (by decide) (M1 rfl Y3))) (fun _ => rfl) ⟨by decide, rfl, of_decide_eq_true rfl, Nat.le_refl _⟩ (fun _ => rfl) (fun _ => rfl) (fun _ => (by rfl)) ?_
   intro z
   simp only [R7, List.cons_append, List.nil_append]
   refine A3 rfl rfl rfl ?_
   refine A5 ⟨fun _ => ⟨by (simp only [n6, List.nil_append, List.append_nil, List.map_cons, List.map_nil, List.cons_append]; decide +kernel), by decide +kernel⟩, [(.t 2, _), (.t 5, _), (.t 8, _), (.t 9, _), (.h 2, _), (.h 8, _), (.h 6, _)], ⟨rfl, rfl, rfl, rfl, rfl, rfl, rfl, rfl, rfl, rfl, rfl, rfl, rfl, rfl, trivial⟩, ?_⟩
   refine A4 <| A4 <| A0 <| A6 rfl rfl ?_
   apply D9 rfl
   ·apply B7
    ·exact B6 rfl
    exact D8
   ·exact a0l (bA w)
   ·exact ⟨rfl, rfl, rfl, of_decide_eq_true rfl, rfl⟩
   ·exact .inl rfl
   ·exact C0
   ·exact E6 rfl
   ·exact fun _ => rfl
   intro g34
   rw [show nd (bA w) = 0 from (a2f (by omega)).trans hn]
   refine A6 rfl rfl ?_
   refine A5 ⟨nofun, _, kS [2,8,9,34,35] [2,8,6] rfl, ?_⟩
   refine F0 <| K0 <| A4 <| A0 <| O5 rfl rfl ?_
   refine A5 ⟨nofun, _, kS [2,8,9,34,35,36] [2,8,6] rfl, ?_⟩
   refine A4 ?_
   refine A8 rfl (fun hc => absurd hc (by decide)) (fun hc => ?_)
   refine L8 <| A4 <| A0 <| F8 rfl rfl rfl rfl rfl <| A6 rfl rfl <| I7 rfl rfl rfl rfl (M1 rfl (k9 (by decide) (M1 rfl Y3))) (fun _ => rfl) ⟨by decide, rfl, of_decide_eq_true rfl, Nat.le_refl _⟩ (fun _ => rfl) (fun _ => rfl) (fun _ => (by rfl)) ?_
   intro z
   simp only [R7, List.cons_append, List.nil_append]
   refine A3 rfl rfl rfl <| A3 rfl rfl rfl ?_
   refine A5 ⟨nofun, _, kS [2,3,4] [2,6] rfl, ?_⟩
   refine B1 <| C9 (G1 rfl rfl rfl rfl (G0 rfl (b0b rfl rfl rfl (G4 rfl I5))) (D3 rfl rfl (D3 rfl rfl (E5 C4)))) ?_
   rw [b6i hnn hn]
   rfl
  ·skip
   apply D9 rfl
   ·apply B7
    ·exact B6 rfl
    exact D8
   ·exact (show CW cxT 63 [tV w] = some (.tup [tV w, .own 1 [], bV true], []) from by have hi := Y6 w (by omega); rw [hnn] at hi; rw [show decide (0 ≤ rch (bA w)) = true from decide_eq_true (by omega)] at hi; exact hi)
   ·exact ⟨rfl, rfl, rfl, of_decide_eq_true rfl, rfl⟩
   ·exact .inr ⟨rfl, rfl⟩
   ·exact C0
   ·exact H8 (H7 rfl (P9 fun _ => H7 rfl P7))
   ·exact fun _ => D4 (B5 rfl) (by rfl)
   intro g21
   try simp only [List.length_map]
   refine A6 rfl rfl <| A9 rfl rfl rfl <| A9 rfl rfl rfl <| A9 rfl rfl rfl <| A3 rfl rfl rfl ?_
   (refine C3 rfl rfl (by (simp; done)) rfl (fun _ => (B5 (by rfl))) (fun _ => rfl) ?_; intro g6)
   refine A3 rfl rfl rfl ?_
   refine A5 ⟨nofun, _, kS [0,2,5,6,7] [2,6] rfl, ?_⟩
   refine A4 <| A4 <| A0 <| A6 rfl rfl <| P4 rfl ?_
   refine A5 ⟨nofun, _, kS [0,2,5,6,26] [2,6] rfl, ?_⟩
   refine A8 rfl (fun hc => absurd hc (by decide)) (fun hc => ?_)
   refine B9 <| A4 <| A0 <| A6 rfl rfl <| A6 rfl rfl <| K3 (fs := [_, _, _]) rfl rfl rfl rfl rfl <| A6 rfl rfl <| K7 rfl rfl rfl (Mv.sized_map fun _ => rfl) J7 (G8 (n := 1) rfl) (by simp) ?_
   rw [show ((List.map tV (w :: ws1)).drop 1).take ((List.map tV (w :: ws1)).length - 1) = ws1.map tV from by rw [List.map_cons, List.drop_succ_cons, List.drop_zero, List.take_of_length_le (by simp)]]
   refine G7 rfl (fun _ => B4 rfl) (fun _ => rfl) ?_
   intro g8
   refine I7 rfl rfl rfl rfl (M1 rfl (k9 (by decide) (M1 rfl Y3))) (fun _ => rfl) ⟨by decide, rfl, of_decide_eq_true rfl, Nat.le_refl _⟩ (fun _ => rfl) (fun _ => rfl) (fun _ => (by rfl)) ?_
   intro z
   simp only [R7, List.cons_append, List.nil_append]
   refine A3 rfl rfl rfl ?_
   refine A5 ⟨fun _ => ⟨by (simp only [n6, List.nil_append, List.append_nil, List.map_cons, List.map_nil, List.cons_append]; decide +kernel), by decide +kernel⟩, [(.t 2, _), (.t 5, _), (.t 8, _), (.t 9, _), (.h 2, _), (.h 8, _), (.h 6, _)], ⟨rfl, rfl, rfl, rfl, rfl, rfl, rfl, rfl, rfl, rfl, rfl, rfl, rfl, rfl, trivial⟩, ?_⟩
   refine A4 <| A4 <| A0 <| A6 rfl rfl ?_
   apply D9 rfl
   ·apply B7
    ·exact B6 rfl
    exact D8
   ·exact a0l (bA w)
   ·exact ⟨rfl, rfl, rfl, of_decide_eq_true rfl, rfl⟩
   ·exact .inl rfl
   ·exact C0
   ·exact E6 rfl
   ·exact fun _ => rfl
   intro g34
   rw [show nd (bA w) = 1 from (a2f (by omega)).trans hn]
   refine A6 rfl rfl ?_
   refine A5 ⟨nofun, _, kS [2,8,9,34,35] [2,8,6] rfl, ?_⟩
   refine F0 <| K0 <| A4 <| A0 <| O5 rfl rfl ?_
   refine A5 ⟨nofun, _, kS [2,8,9,34,35,36] [2,8,6] rfl, ?_⟩
   refine A4 ?_
   refine A8 rfl (fun hc => ?_) (fun hc => absurd hc (by decide))
   refine B9 <| A4 <| F0 <| A4 <| A0 <| A6 rfl rfl ?_
   rcases hr1 : rdT ws1 with _ | ⟨k1, r1⟩
   ·skip
    apply D9 rfl
    ·apply B7
     ·exact B6 rfl
     exact D8
    ·exact (by have hi := ih ws1 ⟨by simp only [List.length_cons] at hws; omega, fun x hx => hws.2 x (List.mem_cons_of_mem _ hx)⟩ (by simp only [List.length_cons] at hkk; omega); rw [hr1] at hi; exact hi)
    ·exact ⟨rfl, rfl, rfl, of_decide_eq_true rfl, rfl⟩
    ·exact .inl rfl
    ·exact C0
    ·exact H8 (H7 rfl (P9 fun _ => H7 rfl P7))
    ·exact fun _ => D4 (B5 rfl) (by rfl)
    intro g39
    refine A6 rfl rfl <| A9 rfl rfl rfl <| A9 rfl rfl rfl <| A9 rfl rfl rfl <| G7 rfl (fun _ => B4 rfl) (fun _ => rfl) ?_
    intro g10
    refine B8 rfl rfl rfl rfl ⟨by decide, rfl, of_decide_eq_true rfl, of_decide_eq_true rfl, rfl⟩ rfl (by exact B4 rfl) ?_
    (refine C3 rfl rfl (by (simp; done)) rfl (fun _ => (B5 (by rfl))) (fun _ => rfl) ?_; intro g11)
    refine A3 rfl rfl rfl ?_
    refine A5 ⟨nofun, _, kS [2,8,10,11,12,34,35] [2,8,6,10] rfl, ?_⟩
    refine A4 <| A4 <| A0 <| A6 rfl rfl <| P4 rfl ?_
    refine A5 ⟨nofun, _, kS [2,8,10,11,34,35,44] [2,8,6,10] rfl, ?_⟩
    refine A8 rfl (fun hc => ?_) (fun hc => absurd hc (by decide))
    refine A4 <| A0 <| K3 (fs := [_, _, _]) rfl rfl rfl rfl rfl <| B8 rfl rfl rfl rfl ⟨by decide, rfl, of_decide_eq_true rfl, of_decide_eq_true rfl, rfl⟩ rfl (by exact B4 rfl) ?_
    (refine B3 rfl rfl (fun _ => rfl) ?_; intro g3)
    refine A3 rfl rfl rfl ?_
    refine A5 ⟨nofun, _, kS [2,3,4] [2,3] rfl, ?_⟩
    refine B1 <| C9 (G1 rfl rfl rfl rfl (G0 rfl (G4 rfl (G4 rfl I5))) (F7 rfl rfl (by simp) (by rfl) (D3 rfl rfl (E5 C4)))) ?_
    rw [b0c hnn hn, hr1]
    rfl
   skip
   apply D9 rfl
   ·apply B7
    ·exact B6 rfl
    exact D8
   ·exact (by have hi := ih ws1 ⟨by simp only [List.length_cons] at hws; omega, fun x hx => hws.2 x (List.mem_cons_of_mem _ hx)⟩ (by simp only [List.length_cons] at hkk; omega); rw [hr1] at hi; exact hi)
   ·exact ⟨rfl, rfl, rfl, of_decide_eq_true rfl, rfl⟩
   ·exact .inl rfl
   ·exact C0
   ·exact J3 rfl
   ·exact fun _ => rfl
   intro g39
   refine A6 rfl rfl <| A9 rfl rfl rfl <| A9 rfl rfl rfl <| A9 rfl rfl rfl <| G7 rfl (fun _ => B4 rfl) (fun _ => rfl) ?_
   intro g10
   refine B8 rfl rfl rfl rfl ⟨by decide, rfl, of_decide_eq_true rfl, of_decide_eq_true rfl, rfl⟩ rfl (by exact B4 rfl) <| A3 rfl rfl rfl <| A3 rfl rfl rfl ?_
   refine A5 ⟨nofun, _, kS [2,8,10,11,12,34,35] [2,8,6,10] rfl, ?_⟩
   refine A4 <| A4 <| A0 <| A6 rfl rfl <| P4 rfl ?_
   refine A5 ⟨nofun, _, kS [2,8,10,11,34,35,44] [2,8,6,10] rfl, ?_⟩
   refine A8 rfl (fun hc => absurd hc (by decide)) (fun hc => ?_)
   refine B9 <| A4 <| A0 <| H9 rfl rfl (by decide) rfl rfl <| M3 rfl rfl rfl rfl rfl rfl <| F8 rfl rfl rfl rfl rfl <| F9 (es := List.map trV [_]) rfl rfl (by decide) rfl rfl (fun _ => B5 (B2 fun _ => rfl)) (fun _ => rfl) ?_
   intro g49
   refine V0 rfl rfl rfl (by simp) (by decide) rfl rfl rfl (by decide) (fun _ => ⟨rfl, rfl⟩) (by simp only [I2]; (simp only [List.length_nil, List.length_cons, List.length_append, Nat.zero_add, List.length_map]; omega)) (fun _ => rfl) ?_
   intro g50
   refine H9 rfl rfl (by decide) rfl rfl <| O9 rfl rfl rfl rfl rfl (Nat.le_refl _) rfl ?_
   refine A5 ⟨nofun, _, kS [2,8,11,34,35] [2,8,6,1000050] rfl, ?_⟩
   refine A0 <| A6 rfl rfl <| A3 rfl rfl rfl ?_
   refine A5 ⟨nofun, _, kS [2,8,9,34,35] [2,8,6,1000050] rfl, ?_⟩
   refine A0 <| R4 rfl rfl (I9 (by omega)) <| A6 rfl rfl ?_
   refine A5 ⟨nofun, _, kS [2,8,9,34,35] [2,8,6,1000050] rfl, ?_⟩
   refine K0 <| A4 <| A0 <| O5 rfl rfl ?_
   refine A5 ⟨nofun, _, kS [2,8,9,34,35,36] [2,8,6,1000050] rfl, ?_⟩
   refine A4 ?_
   refine A8 rfl (fun hc => absurd hc (by decide)) (fun hc => ?_)
   refine L8 <| A4 <| A0 <| F8 rfl rfl rfl rfl rfl <| A6 rfl rfl <| I7 rfl rfl rfl rfl (M1 rfl (k9 (by decide) (a3y (by decide) (by decide) rfl (by simp) fun _ => Y3))) (fun _ => rfl) ⟨by decide, rfl, of_decide_eq_true rfl, Nat.le_refl _⟩ (fun _ => rfl) (fun _ => rfl) (fun _ => D4 (by rfl) (D4 (B5 (B2 fun _ => rfl)) (by rfl))) ?_
   intro z
   simp only [R7, List.cons_append, List.nil_append]
   refine A3 rfl rfl rfl <| A3 rfl rfl rfl ?_
   refine A5 ⟨nofun, _, kS [2,3,4] [2,6,300002] rfl, ?_⟩
   refine B1 <| C9 (G1 rfl rfl rfl rfl (G0 rfl (b0b rfl rfl rfl (e6 rfl rfl (by simp) (fun _ => rfl) I5))) (D3 rfl rfl (D3 rfl rfl (E5 C4)))) ?_
   rw [b0c hnn hn, hr1]
   rfl
  ·skip
   apply D9 rfl
   ·apply B7
    ·exact B6 rfl
    exact D8
   ·exact (show CW cxT 63 [tV w] = some (.tup [tV w, .own 1 [], bV true], []) from by have hi := Y6 w (by omega); rw [hnn] at hi; rw [show decide (0 ≤ rch (bA w)) = true from decide_eq_true (by omega)] at hi; exact hi)
   ·exact ⟨rfl, rfl, rfl, of_decide_eq_true rfl, rfl⟩
   ·exact .inr ⟨rfl, rfl⟩
   ·exact C0
   ·exact H8 (H7 rfl (P9 fun _ => H7 rfl P7))
   ·exact fun _ => D4 (B5 rfl) (by rfl)
   intro g21
   try simp only [List.length_map]
   refine A6 rfl rfl <| A9 rfl rfl rfl <| A9 rfl rfl rfl <| A9 rfl rfl rfl <| A3 rfl rfl rfl ?_
   (refine C3 rfl rfl (by (simp; done)) rfl (fun _ => (B5 (by rfl))) (fun _ => rfl) ?_; intro g6)
   refine A3 rfl rfl rfl ?_
   refine A5 ⟨nofun, _, kS [0,2,5,6,7] [2,6] rfl, ?_⟩
   refine A4 <| A4 <| A0 <| A6 rfl rfl <| P4 rfl ?_
   refine A5 ⟨nofun, _, kS [0,2,5,6,26] [2,6] rfl, ?_⟩
   refine A8 rfl (fun hc => absurd hc (by decide)) (fun hc => ?_)
   refine B9 <| A4 <| A0 <| A6 rfl rfl <| A6 rfl rfl <| K3 (fs := [_, _, _]) rfl rfl rfl rfl rfl <| A6 rfl rfl <| K7 rfl rfl rfl (Mv.sized_map fun _ => rfl) J7 (G8 (n := 1) rfl) (by simp) ?_
   rw [show ((List.map tV (w :: ws1)).drop 1).take ((List.map tV (w :: ws1)).length - 1) = ws1.map tV from by rw [List.map_cons, List.drop_succ_cons, List.drop_zero, List.take_of_length_le (by simp)]]
   refine G7 rfl (fun _ => B4 rfl) (fun _ => rfl) ?_
   intro g8
   refine I7 rfl rfl rfl rfl (M1 rfl (k9 (by decide) (M1 rfl Y3))) (fun _ => rfl) ⟨by decide, rfl, of_decide_eq_true rfl, Nat.le_refl _⟩ (fun _ => rfl) (fun _ => rfl) (fun _ => (by rfl)) ?_
   intro z
   simp only [R7, List.cons_append, List.nil_append]
   refine A3 rfl rfl rfl ?_
   refine A5 ⟨fun _ => ⟨by (simp only [n6, List.nil_append, List.append_nil, List.map_cons, List.map_nil, List.cons_append]; decide +kernel), by decide +kernel⟩, [(.t 2, _), (.t 5, _), (.t 8, _), (.t 9, _), (.h 2, _), (.h 8, _), (.h 6, _)], ⟨rfl, rfl, rfl, rfl, rfl, rfl, rfl, rfl, rfl, rfl, rfl, rfl, rfl, rfl, trivial⟩, ?_⟩
   refine A4 <| A4 <| A0 <| A6 rfl rfl ?_
   apply D9 rfl
   ·apply B7
    ·exact B6 rfl
    exact D8
   ·exact a0l (bA w)
   ·exact ⟨rfl, rfl, rfl, of_decide_eq_true rfl, rfl⟩
   ·exact .inl rfl
   ·exact C0
   ·exact E6 rfl
   ·exact fun _ => rfl
   intro g34
   rw [show nd (bA w) = 2 from (a2f (by omega)).trans hn]
   refine A6 rfl rfl ?_
   refine A5 ⟨nofun, _, kS [2,8,9,34,35] [2,8,6] rfl, ?_⟩
   refine F0 <| K0 <| A4 <| A0 <| O5 rfl rfl ?_
   refine A5 ⟨nofun, _, kS [2,8,9,34,35,36] [2,8,6] rfl, ?_⟩
   refine A4 ?_
   refine A8 rfl (fun hc => ?_) (fun hc => absurd hc (by decide))
   refine B9 <| A4 <| F0 <| A4 <| A0 <| A6 rfl rfl ?_
   rcases hr1 : rdT ws1 with _ | ⟨k1, r1⟩
   ·skip
    apply D9 rfl
    ·apply B7
     ·exact B6 rfl
     exact D8
    ·exact (by have hi := ih ws1 ⟨by simp only [List.length_cons] at hws; omega, fun x hx => hws.2 x (List.mem_cons_of_mem _ hx)⟩ (by simp only [List.length_cons] at hkk; omega); rw [hr1] at hi; exact hi)
    ·exact ⟨rfl, rfl, rfl, of_decide_eq_true rfl, rfl⟩
    ·exact .inl rfl
    ·exact C0
    ·exact H8 (H7 rfl (P9 fun _ => H7 rfl P7))
    ·exact fun _ => D4 (B5 rfl) (by rfl)
    intro g39
    refine A6 rfl rfl <| A9 rfl rfl rfl <| A9 rfl rfl rfl <| A9 rfl rfl rfl <| G7 rfl (fun _ => B4 rfl) (fun _ => rfl) ?_
    intro g10
    refine B8 rfl rfl rfl rfl ⟨by decide, rfl, of_decide_eq_true rfl, of_decide_eq_true rfl, rfl⟩ rfl (by exact B4 rfl) ?_
    (refine C3 rfl rfl (by (simp; done)) rfl (fun _ => (B5 (by rfl))) (fun _ => rfl) ?_; intro g11)
    refine A3 rfl rfl rfl ?_
    refine A5 ⟨nofun, _, kS [2,8,10,11,12,34,35] [2,8,6,10] rfl, ?_⟩
    refine A4 <| A4 <| A0 <| A6 rfl rfl <| P4 rfl ?_
    refine A5 ⟨nofun, _, kS [2,8,10,11,34,35,44] [2,8,6,10] rfl, ?_⟩
    refine A8 rfl (fun hc => ?_) (fun hc => absurd hc (by decide))
    refine A4 <| A0 <| K3 (fs := [_, _, _]) rfl rfl rfl rfl rfl <| B8 rfl rfl rfl rfl ⟨by decide, rfl, of_decide_eq_true rfl, of_decide_eq_true rfl, rfl⟩ rfl (by exact B4 rfl) ?_
    (refine B3 rfl rfl (fun _ => rfl) ?_; intro g3)
    refine A3 rfl rfl rfl ?_
    refine A5 ⟨nofun, _, kS [2,3,4] [2,3] rfl, ?_⟩
    refine B1 <| C9 (G1 rfl rfl rfl rfl (G0 rfl (G4 rfl (G4 rfl I5))) (F7 rfl rfl (by simp) (by rfl) (D3 rfl rfl (E5 C4)))) ?_
    rw [v7 hnn hn, hr1]
    rfl
   skip
   apply D9 rfl
   ·apply B7
    ·exact B6 rfl
    exact D8
   ·exact (by have hi := ih ws1 ⟨by simp only [List.length_cons] at hws; omega, fun x hx => hws.2 x (List.mem_cons_of_mem _ hx)⟩ (by simp only [List.length_cons] at hkk; omega); rw [hr1] at hi; exact hi)
   ·exact ⟨rfl, rfl, rfl, of_decide_eq_true rfl, rfl⟩
   ·exact .inl rfl
   ·exact C0
   ·exact J3 rfl
   ·exact fun _ => rfl
   intro g39
   refine A6 rfl rfl <| A9 rfl rfl rfl <| A9 rfl rfl rfl <| A9 rfl rfl rfl <| G7 rfl (fun _ => B4 rfl) (fun _ => rfl) ?_
   intro g10
   refine B8 rfl rfl rfl rfl ⟨by decide, rfl, of_decide_eq_true rfl, of_decide_eq_true rfl, rfl⟩ rfl (by exact B4 rfl) <| A3 rfl rfl rfl <| A3 rfl rfl rfl ?_
   refine A5 ⟨nofun, _, kS [2,8,10,11,12,34,35] [2,8,6,10] rfl, ?_⟩
   refine A4 <| A4 <| A0 <| A6 rfl rfl <| P4 rfl ?_
   refine A5 ⟨nofun, _, kS [2,8,10,11,34,35,44] [2,8,6,10] rfl, ?_⟩
   refine A8 rfl (fun hc => absurd hc (by decide)) (fun hc => ?_)
   refine B9 <| A4 <| A0 <| H9 rfl rfl (by decide) rfl rfl <| M3 rfl rfl rfl rfl rfl rfl <| F8 rfl rfl rfl rfl rfl <| F9 (es := List.map trV [_]) rfl rfl (by decide) rfl rfl (fun _ => B5 (B2 fun _ => rfl)) (fun _ => rfl) ?_
   intro g49
   refine V0 rfl rfl rfl (by simp) (by decide) rfl rfl rfl (by decide) (fun _ => ⟨rfl, rfl⟩) (by simp only [I2]; (simp only [List.length_nil, List.length_cons, List.length_append, Nat.zero_add, List.length_map]; omega)) (fun _ => rfl) ?_
   intro g50
   refine H9 rfl rfl (by decide) rfl rfl <| O9 rfl rfl rfl rfl rfl (Nat.le_refl _) rfl ?_
   refine A5 ⟨nofun, _, kS [2,8,11,34,35] [2,8,6,1000050] rfl, ?_⟩
   refine A0 <| A6 rfl rfl <| A3 rfl rfl rfl ?_
   refine A5 ⟨nofun, _, kS [2,8,9,34,35] [2,8,6,1000050] rfl, ?_⟩
   refine A0 <| R4 rfl rfl (I9 (by omega)) <| A6 rfl rfl ?_
   refine A5 ⟨nofun, _, kS [2,8,9,34,35] [2,8,6,1000050] rfl, ?_⟩
   refine K0 <| A4 <| A0 <| O5 rfl rfl ?_
   refine A5 ⟨nofun, _, kS [2,8,9,34,35,36] [2,8,6,1000050] rfl, ?_⟩
   refine A4 ?_
   refine A8 rfl (fun hc => ?_) (fun hc => absurd hc (by decide))
   refine B9 <| A4 <| F0 <| A4 <| A0 <| A6 rfl rfl ?_
   rcases hr2 : rdT r1 with _ | ⟨k2, r2⟩
   ·skip
    apply D9 rfl
    ·apply B7
     ·exact B6 rfl
     exact D8
    ·exact (by have hi := ih r1 ⟨by have := V1 hr1; simp only [List.length_cons] at hws; omega, fun x hx => hws.2 x (List.mem_cons_of_mem _ (a4j hr1 x hx))⟩ (by have := V1 hr1; simp only [List.length_cons] at hkk; omega); rw [hr2] at hi; exact hi)
    ·exact ⟨rfl, rfl, rfl, of_decide_eq_true rfl, rfl⟩
    ·exact .inl rfl
    ·exact C0
    ·exact H8 (H7 rfl (P9 fun _ => H7 rfl P7))
    ·exact fun _ => D4 (B5 rfl) (by rfl)
    intro g39
    refine A6 rfl rfl <| A9 rfl rfl rfl <| A9 rfl rfl rfl <| A9 rfl rfl rfl <| G7 rfl (fun _ => B4 rfl) (fun _ => rfl) ?_
    intro g10
    refine B8 rfl rfl rfl rfl ⟨by decide, rfl, of_decide_eq_true rfl, of_decide_eq_true rfl, rfl⟩ rfl (by exact B4 rfl) ?_
    (refine C3 rfl rfl (by (simp; done)) rfl (fun _ => (B5 (by rfl))) (fun _ => rfl) ?_; intro g11)
    refine A3 rfl rfl rfl ?_
    refine A5 ⟨nofun, _, kS [2,8,10,11,12,34,35] [2,8,6,1000050,10] rfl, ?_⟩
    refine A4 <| A4 <| A0 <| A6 rfl rfl <| P4 rfl ?_
    refine A5 ⟨nofun, _, kS [2,8,10,11,34,35,44] [2,8,6,1000050,10] rfl, ?_⟩
    refine A8 rfl (fun hc => ?_) (fun hc => absurd hc (by decide))
    refine A4 <| A0 <| K3 (fs := [_, _, _]) rfl rfl rfl rfl rfl <| B8 rfl rfl rfl rfl ⟨by decide, rfl, of_decide_eq_true rfl, of_decide_eq_true rfl, rfl⟩ rfl (by exact B4 rfl) ?_
    (refine B3 rfl rfl (fun _ => rfl) ?_; intro g3)
    refine A3 rfl rfl rfl ?_
    refine A5 ⟨nofun, _, kS [2,3,4] [2,3] rfl, ?_⟩
    refine B1 <| C9 (G1 rfl rfl rfl rfl (G0 rfl (G4 rfl (G4 rfl I5))) (F7 rfl rfl (by simp) (by rfl) (D3 rfl rfl (E5 C4)))) ?_
    rw [v7 hnn hn, hr1, Option.bind_some, hr2]
    rfl
   skip
   apply D9 rfl
   ·apply B7
    ·exact B6 rfl
    exact D8
   ·exact (by have hi := ih r1 ⟨by have := V1 hr1; simp only [List.length_cons] at hws; omega, fun x hx => hws.2 x (List.mem_cons_of_mem _ (a4j hr1 x hx))⟩ (by have := V1 hr1; simp only [List.length_cons] at hkk; omega); rw [hr2] at hi; exact hi)
   ·exact ⟨rfl, rfl, rfl, of_decide_eq_true rfl, rfl⟩
   ·exact .inl rfl
   ·exact C0
   ·exact J3 rfl
   ·exact fun _ => rfl
   intro g39
   refine A6 rfl rfl <| A9 rfl rfl rfl <| A9 rfl rfl rfl <| A9 rfl rfl rfl <| G7 rfl (fun _ => B4 rfl) (fun _ => rfl) ?_
   intro g10
   refine B8 rfl rfl rfl rfl ⟨by decide, rfl, of_decide_eq_true rfl, of_decide_eq_true rfl, rfl⟩ rfl (by exact B4 rfl) <| A3 rfl rfl rfl <| A3 rfl rfl rfl ?_
   refine A5 ⟨nofun, _, kS [2,8,10,11,12,34,35] [2,8,6,1000050,10] rfl, ?_⟩
   refine A4 <| A4 <| A0 <| A6 rfl rfl <| P4 rfl ?_
   refine A5 ⟨nofun, _, kS [2,8,10,11,34,35,44] [2,8,6,1000050,10] rfl, ?_⟩
   refine A8 rfl (fun hc => absurd hc (by decide)) (fun hc => ?_)
   refine B9 <| A4 <| A0 <| H9 rfl rfl (by decide) rfl rfl <| M3 rfl rfl rfl rfl rfl rfl <| F8 rfl rfl rfl rfl rfl <| F9 (es := List.map trV [_]) rfl rfl (by decide) rfl rfl (fun _ => B5 (B2 fun _ => rfl)) (fun _ => rfl) ?_
   intro g49
   refine J5 rfl rfl rfl rfl (by (simp; done)) (by simp) (by decide) rfl rfl rfl rfl (by decide) (fun _ => ⟨rfl, rfl⟩) (by simp only [I2]; (simp only [List.length_nil, List.length_cons, List.length_append, Nat.zero_add, List.length_map]; omega)) (fun _ => rfl) ?_
   intro g50
   refine H9 rfl rfl (by decide) rfl rfl <| O9 rfl rfl rfl rfl rfl (Nat.le_refl _) rfl ?_
   refine A5 ⟨nofun, _, kS [2,8,11,34,35] [2,8,6,1000050] rfl, ?_⟩
   refine A0 <| A6 rfl rfl <| A3 rfl rfl rfl ?_
   refine A5 ⟨nofun, _, kS [2,8,9,34,35] [2,8,6,1000050] rfl, ?_⟩
   refine A0 <| R4 rfl rfl (I9 (by omega)) <| A6 rfl rfl ?_
   refine A5 ⟨nofun, _, kS [2,8,9,34,35] [2,8,6,1000050] rfl, ?_⟩
   refine K0 <| A4 <| A0 <| O5 rfl rfl ?_
   refine A5 ⟨nofun, _, kS [2,8,9,34,35,36] [2,8,6,1000050] rfl, ?_⟩
   refine A4 ?_
   refine A8 rfl (fun hc => absurd hc (by decide)) (fun hc => ?_)
   refine L8 <| A4 <| A0 <| F8 rfl rfl rfl rfl rfl <| A6 rfl rfl <| I7 rfl rfl rfl rfl (M1 rfl (k9 (by decide) (a3y (by decide) (by decide) rfl (by simp) fun _ => Y3))) (fun _ => rfl) ⟨by decide, rfl, of_decide_eq_true rfl, Nat.le_refl _⟩ (fun _ => rfl) (fun _ => rfl) (fun _ => D4 (by rfl) (D4 (B5 (B2 fun _ => rfl)) (by rfl))) ?_
   intro z
   simp only [R7, List.cons_append, List.nil_append]
   refine A3 rfl rfl rfl <| A3 rfl rfl rfl ?_
   refine A5 ⟨nofun, _, kS [2,3,4] [2,6,300002] rfl, ?_⟩
   refine B1 <| C9 (G1 rfl rfl rfl rfl (G0 rfl (b0b rfl rfl rfl (e6 rfl rfl (by simp) (fun _ => rfl) I5))) (D3 rfl rfl (D3 rfl rfl (E5 C4)))) ?_
   rw [v7 hnn hn, hr1, Option.bind_some, hr2]
   rfl
  skip
  apply D9 rfl
  ·apply B7
   ·exact B6 rfl
   exact D8
  ·exact (show CW cxT 63 [tV w] = some (.tup [tV w, .own 1 [], bV false], []) from by have hi := Y6 w (by omega); rw [hnn] at hi; rw [show decide (0 ≤ rch (bA w)) = false from decide_eq_false (by omega)] at hi; exact hi)
  ·exact ⟨rfl, rfl, rfl, of_decide_eq_true rfl, rfl⟩
  ·exact .inr ⟨rfl, rfl⟩
  ·exact C0
  ·exact H8 (H7 rfl (P9 fun _ => H7 rfl P7))
  ·exact fun _ => D4 (B5 rfl) (by rfl)
  intro g21
  try simp only [List.length_map]
  refine A6 rfl rfl <| A9 rfl rfl rfl <| A9 rfl rfl rfl <| A9 rfl rfl rfl <| A3 rfl rfl rfl ?_
  (refine C3 rfl rfl (by (simp; done)) rfl (fun _ => (B5 (by rfl))) (fun _ => rfl) ?_; intro g6)
  refine A3 rfl rfl rfl ?_
  refine A5 ⟨nofun, _, kS [0,2,5,6,7] [2,6] rfl, ?_⟩
  refine A4 <| A4 <| A0 <| A6 rfl rfl <| P4 rfl ?_
  refine A5 ⟨nofun, _, kS [0,2,5,6,26] [2,6] rfl, ?_⟩
  refine A8 rfl (fun hc => ?_) (fun hc => absurd hc (by decide))
  refine A4 <| A0 <| K3 (fs := [_, _, _]) rfl rfl rfl rfl rfl <| B8 rfl rfl rfl rfl ⟨by decide, rfl, of_decide_eq_true rfl, of_decide_eq_true rfl, rfl⟩ rfl (by exact B4 rfl) ?_
  (refine B3 rfl rfl (fun _ => rfl) ?_; intro g3)
  refine A3 rfl rfl rfl ?_
  refine A5 ⟨nofun, _, kS [2,3,4] [2,3] rfl, ?_⟩
  refine B1 <| C9 (G1 rfl rfl rfl rfl (G0 rfl (G4 rfl (G4 rfl I5))) (F7 rfl rfl (by simp) (by rfl) (D3 rfl rfl (E5 C4)))) ?_
  rw [b6m hnn hn]
  rfl

theorem keep_s_readPlanI : G9 Tryd.f40 = [0, 2, 3, 4, 6, 7, 5, 12] := by kernel_rfl
set_option maxHeartbeats 20000000 in
theorem b2s (s : List UInt8) (hs : s.length ≤ 1048576) : CW cxT 40 [tV s] = some (.tup [trV (ipT s), bV (b6e s)], []) := by
 obtain ⟨ws, hws⟩ : ∃ ws, ws = splitB 32 s := ⟨_, rfl⟩
 have hwl := Q1 32 s
 have hwp := Y8 32 s
 rw [← hws] at hwl hwp
 refine G5 rfl Tryd.func40 rfl ⟨by kernel_rfl, rfl, of_decide_eq_true rfl, of_decide_eq_true rfl, by decide⟩ keep_s_readPlanI <| A4 <| A0 <| G7 rfl (fun _ => B4 rfl) (fun _ => rfl) ?_
 intro g2
 refine A3 rfl rfl rfl ?_
 refine A5 ⟨nofun, _, kS [0,2] [2] rfl, ?_⟩
 refine A4 <| A0 <| A6 rfl rfl ?_
 apply D9 rfl
 ·apply B7
  ·exact B6 rfl
  apply B7
  ·exact B6 rfl
  exact D8
 ·exact b7a s 32 (by omega)
 ·exact ⟨rfl, rfl, rfl, of_decide_eq_true rfl, rfl⟩
 ·exact .inl rfl
 ·exact C0
 ·exact a0y
 ·exact fun _ => rfl
 intro g9
 rw [← hws]
 try simp only [List.length_map]
 (refine C3 rfl rfl (by (simp; done)) rfl (fun _ => (B5 (by exact B2 fun _ => rfl))) (fun _ => rfl) ?_; intro g4)
 refine A5 ⟨nofun, _, kS [2,4] [2,4] rfl, ?_⟩
 refine A4 <| A0 <| A6 rfl rfl ?_
 rcases hr : rdT ws with _ | ⟨t, r⟩
 ·skip
  apply D9 rfl
  ·apply B7
   ·exact Z4 rfl rfl (by (simp; done)) (fun _ => rfl)
   exact D8
  ·exact (by have hi := a2p ws ⟨by omega, fun w hw => by have := hwp w hw; omega⟩; rw [hr] at hi; exact hi)
  ·exact ⟨rfl, rfl, rfl, of_decide_eq_true rfl, rfl⟩
  ·exact .inl rfl
  ·exact C0
  ·exact H8 (H7 rfl (P9 fun _ => H7 rfl P7))
  ·exact fun _ => D4 (u5 (B2 fun _ => rfl) (by decide)) (by rfl)
  intro g12
  refine A6 rfl rfl <| A9 rfl rfl rfl <| A9 rfl rfl rfl <| A9 rfl rfl rfl <| G7 rfl (fun _ => B4 rfl) (fun _ => rfl) ?_
  intro g5
  refine B8 rfl rfl rfl rfl ⟨by decide, rfl, of_decide_eq_true rfl, of_decide_eq_true rfl, rfl⟩ rfl (by exact B4 rfl) ?_
  (refine C3 rfl rfl (by (simp; done)) rfl (fun _ => (B5 (by rfl))) (fun _ => rfl) ?_; intro g6)
  refine A3 rfl rfl rfl ?_
  refine A5 ⟨nofun, _, kS [2,4,5,6,7] [2,4,5] rfl, ?_⟩
  refine A4 <| A0 <| F8 rfl rfl rfl rfl rfl <| A6 rfl rfl <| A6 rfl rfl <| G3 rfl rfl rfl <| G3 rfl rfl rfl <| G3 rfl rfl rfl <| G2 rfl rfl rfl rfl <| A6 rfl rfl <| G3 rfl rfl rfl <| G3 rfl rfl rfl <| G3 rfl rfl rfl <| G2 rfl rfl rfl rfl <| B8 rfl rfl rfl rfl ⟨by decide, rfl, of_decide_eq_true rfl, of_decide_eq_true rfl, rfl⟩ rfl (by exact B4 rfl) <| A3 rfl rfl rfl ?_
  refine A5 ⟨nofun, _, kS [2,3] [2] rfl, ?_⟩
  refine B1 <| C9 (G1 rfl rfl rfl rfl (G0 rfl (G0 rfl (G0 rfl I5))) (D3 rfl rfl (E5 C4))) ?_
  obtain ⟨h1, h2⟩ := c2i hws hr
  rw [h1, h2]
  rfl
 skip
 apply D9 rfl
 ·apply B7
  ·exact Z4 rfl rfl (by (simp; done)) (fun _ => rfl)
  exact D8
 ·exact (by have hi := a2p ws ⟨by omega, fun w hw => by have := hwp w hw; omega⟩; rw [hr] at hi; exact hi)
 ·exact ⟨rfl, rfl, rfl, of_decide_eq_true rfl, rfl⟩
 ·exact .inl rfl
 ·exact C0
 ·exact J3 rfl
 ·exact fun _ => D4 (u5 (B2 fun _ => rfl) (by decide)) (by rfl)
 intro g12
 refine A6 rfl rfl <| A9 rfl rfl rfl <| A9 rfl rfl rfl <| A9 rfl rfl rfl <| G7 rfl (fun _ => B4 rfl) (fun _ => rfl) ?_
 intro g5
 refine B8 rfl rfl rfl rfl ⟨by decide, rfl, of_decide_eq_true rfl, of_decide_eq_true rfl, rfl⟩ rfl (by exact B4 rfl) <| A3 rfl rfl rfl <| A3 rfl rfl rfl ?_
 refine A5 ⟨nofun, _, kS [2,4,5,6,7] [2,4,5] rfl, ?_⟩
 refine A4 <| A0 <| F8 rfl rfl rfl rfl rfl <| A6 rfl rfl <| A6 rfl rfl <| Q8 rfl rfl rfl <| A6 rfl rfl <| Q8 rfl rfl rfl <| P1 rfl rfl <| Q8 rfl rfl rfl <| a6o rfl rfl <| F6 rfl rfl rfl rfl <| A6 rfl rfl ?_
 refine D6 rfl rfl (fun hg0 => ?_) (fun hg0 => ?_)
 ·have hg := hg0; try simp only [SG] at hg
  refine A6 rfl rfl <| gT rfl rfl <| a0i rfl rfl <| gT rfl rfl <| a5k rfl rfl <| F6 rfl (by assumption) rfl rfl <| B8 rfl rfl rfl rfl ⟨by decide, rfl, of_decide_eq_true rfl, of_decide_eq_true rfl, rfl⟩ rfl (by exact B4 rfl) <| A3 rfl rfl rfl ?_
  refine A5 ⟨nofun, _, kS [2,3] [2] rfl, ?_⟩
  refine B1 <| C9 (G1 rfl rfl rfl rfl (G0 rfl (G0 rfl (G0 rfl I5))) (D3 rfl rfl (E5 C4))) ?_
  obtain ⟨h1, h2⟩ := b6q hws hr
  rw [h1, h2]
  simp_all
  try rfl
 have hg := hg0; try simp only [SG] at hg
 refine gF rfl rfl <| gF rfl rfl <| G2 rfl (by assumption) rfl rfl <| B8 rfl rfl rfl rfl ⟨by decide, rfl, of_decide_eq_true rfl, of_decide_eq_true rfl, rfl⟩ rfl (by exact B4 rfl) <| A3 rfl rfl rfl ?_
 refine A5 ⟨nofun, _, kS [2,3] [2] rfl, ?_⟩
 refine B1 <| C9 (G1 rfl rfl rfl rfl (G0 rfl (G0 rfl (G0 rfl I5))) (D3 rfl rfl (E5 C4))) ?_
 obtain ⟨h1, h2⟩ := b6q hws hr
 rw [h1, h2]
 simp_all
 try rfl

theorem keep_s_validPlan : G9 Tryd.f24 = [0, 2, 3, 5, 4, 8] := by kernel_rfl
set_option maxHeartbeats 20000000 in
theorem b2w (s : List UInt8) (hs : s.length ≤ 1048576) : CW cxT 24 [tV s] = some (.tup [trV (ipT s), bV (Y4 s).isSome], []) := by
 have hip := c5z s
 refine G5 rfl Tryd.func24 rfl ⟨by kernel_rfl, rfl, of_decide_eq_true rfl, of_decide_eq_true rfl, by decide⟩ keep_s_validPlan <| A4 <| A0 <| G7 rfl (fun _ => B4 rfl) (fun _ => rfl) ?_
 intro g2
 refine A3 rfl rfl rfl ?_
 refine A5 ⟨nofun, _, kS [0,2] [2] rfl, ?_⟩
 refine A4 <| A0 <| A6 rfl rfl ?_
 apply D9 rfl
 ·apply B7
  ·exact B6 rfl
  exact D8
 ·exact b2s s hs
 ·exact ⟨rfl, rfl, rfl, of_decide_eq_true rfl, rfl⟩
 ·exact .inl rfl
 ·exact C0
 ·exact J3 rfl
 ·exact fun _ => rfl
 intro g8
 refine A6 rfl rfl <| A9 rfl rfl rfl <| A9 rfl rfl rfl <| G7 rfl (fun _ => B4 rfl) (fun _ => rfl) ?_
 intro g4
 refine B8 rfl rfl rfl rfl ⟨by decide, rfl, of_decide_eq_true rfl, of_decide_eq_true rfl, rfl⟩ rfl (by exact B4 rfl) <| A3 rfl rfl rfl ?_
 refine A5 ⟨nofun, _, kS [0,2,4,5] [2,4] rfl, ?_⟩
 refine A4 <| A0 <| F8 rfl rfl rfl rfl rfl <| A6 rfl rfl <| A6 rfl rfl ?_
 refine D6 rfl rfl (fun hg0 => ?_) (fun hg0 => ?_)
 ·have hg := hg0; try simp only [SG] at hg
  refine A6 rfl rfl <| gT rfl rfl <| s8 rfl rfl <| gT rfl rfl <| a5k rfl rfl <| F6 rfl (by assumption) rfl rfl <| B8 rfl rfl rfl rfl ⟨by decide, rfl, of_decide_eq_true rfl, of_decide_eq_true rfl, rfl⟩ rfl (by exact B4 rfl) <| A3 rfl rfl rfl ?_
  refine A5 ⟨nofun, _, kS [2,3] [2] rfl, ?_⟩
  refine B1 <| C9 (G1 rfl rfl rfl rfl (G0 rfl (G0 rfl (G0 rfl I5))) (D3 rfl rfl (E5 C4))) ?_
  rw [← hip]
  simp_all
  try rfl
 have hg := hg0; try simp only [SG] at hg
 refine gF rfl rfl <| gF rfl rfl <| G2 rfl (by assumption) rfl rfl <| B8 rfl rfl rfl rfl ⟨by decide, rfl, of_decide_eq_true rfl, of_decide_eq_true rfl, rfl⟩ rfl (by exact B4 rfl) <| A3 rfl rfl rfl ?_
 refine A5 ⟨nofun, _, kS [2,3] [2] rfl, ?_⟩
 refine B1 <| C9 (G1 rfl rfl rfl rfl (G0 rfl (G0 rfl (G0 rfl I5))) (D3 rfl rfl (E5 C4))) ?_
 rw [← hip]
 simp_all
 try rfl

theorem keep_s_ValidPlanI : G9 Tryd.f10 = [0, 2, 4, 7] := by kernel_rfl
set_option maxHeartbeats 20000000 in
theorem a9g (s : List UInt8) (hs : s.length ≤ 1048576) : CW cxT 10 [tV s] = some (bV (Y4 s).isSome, []) := by
 refine G5 rfl Tryd.func10 rfl ⟨by kernel_rfl, rfl, of_decide_eq_true rfl, of_decide_eq_true rfl, by decide⟩ keep_s_ValidPlanI <| A4 <| A0 <| A3 rfl rfl rfl ?_
 refine A5 ⟨nofun, _, kS [0] [] rfl, ?_⟩
 refine A4 <| A0 <| A6 rfl rfl ?_
 apply D9 rfl
 ·apply B7
  ·exact B6 rfl
  exact D8
 ·exact b2w s hs
 ·exact ⟨rfl, rfl, rfl, of_decide_eq_true rfl, rfl⟩
 ·exact .inl rfl
 ·exact C0
 ·exact J3 rfl
 ·exact fun _ => rfl
 intro g7
 refine A6 rfl rfl <| A9 rfl rfl rfl <| A9 rfl rfl rfl <| G7 rfl (fun _ => B4 rfl) (fun _ => rfl) ?_
 intro g3
 refine B8 rfl rfl rfl rfl ⟨by decide, rfl, of_decide_eq_true rfl, of_decide_eq_true rfl, rfl⟩ rfl (by exact B4 rfl) <| A3 rfl rfl rfl ?_
 refine A5 ⟨nofun, _, kS [4] [] rfl, ?_⟩
 refine A4 <| A0 <| A6 rfl rfl <| A3 rfl rfl rfl ?_
 refine A5 ⟨nofun, _, kS [2] [] rfl, ?_⟩
 refine B1 <| C6 rfl rfl trivial ?_
 rfl

theorem keep_s_ValidPlanS : G9 Tryd.f9 = [0, 2, 4, 7] := by kernel_rfl
set_option maxHeartbeats 20000000 in
theorem b0k (s : List UInt8) (hs : s.length ≤ 1048576) : CW cxT 9 [tV s] = some (bV (Y4 s).isSome, []) := by
 refine G5 rfl Tryd.func9 rfl ⟨by kernel_rfl, rfl, of_decide_eq_true rfl, of_decide_eq_true rfl, by decide⟩ keep_s_ValidPlanS <| A4 <| A0 <| A3 rfl rfl rfl ?_
 refine A5 ⟨nofun, _, kS [0] [] rfl, ?_⟩
 refine A4 <| A0 <| A6 rfl rfl ?_
 apply D9 rfl
 ·apply B7
  ·exact B6 rfl
  exact D8
 ·exact b3z s hs
 ·exact ⟨rfl, rfl, rfl, of_decide_eq_true rfl, rfl⟩
 ·exact .inl rfl
 ·exact C0
 ·exact J3 rfl
 ·exact fun _ => rfl
 intro g7
 refine A6 rfl rfl <| A9 rfl rfl rfl <| A9 rfl rfl rfl <| G7 rfl (fun _ => B4 rfl) (fun _ => rfl) ?_
 intro g3
 refine B8 rfl rfl rfl rfl ⟨by decide, rfl, of_decide_eq_true rfl, of_decide_eq_true rfl, rfl⟩ rfl (by exact B4 rfl) <| A3 rfl rfl rfl ?_
 refine A5 ⟨nofun, _, kS [4] [] rfl, ?_⟩
 refine A4 <| A0 <| A6 rfl rfl <| A3 rfl rfl rfl ?_
 refine A5 ⟨nofun, _, kS [2] [] rfl, ?_⟩
 refine B1 <| C6 rfl rfl trivial ?_
 rfl

theorem keep_s_FnExactValidPlan : G9 Tryd.f3 = [0, 2, 7, 3, 4, 14] := by kernel_rfl
set_option maxHeartbeats 20000000 in
theorem y3 (s : List UInt8) : CW cxT 3 [tV s] = some (bV true, []) := by
 refine G5 rfl Tryd.func3 rfl ⟨by kernel_rfl, rfl, of_decide_eq_true rfl, of_decide_eq_true rfl, by decide⟩ keep_s_FnExactValidPlan <| A4 <| A0 <| A3 rfl rfl rfl ?_
 refine A5 ⟨nofun, _, kS [0] [] rfl, ?_⟩
 refine A4 <| A4 <| A0 <| A6 rfl rfl <| s8 rfl rfl <| X9 rfl rfl ?_
 refine A5 ⟨nofun, _, kS [0,7] [] rfl, ?_⟩
 refine A8 rfl (fun hc => ?_) (fun hc => ?_)
 ·try simp only [SG, List.length_map] at hc
  refine A4 <| A0 <| A3 rfl rfl rfl ?_
  refine A5 ⟨nofun, _, kS [2] [] rfl, ?_⟩
  refine B1 <| C6 rfl rfl trivial ?_
  rfl
 try simp only [SG, List.length_map] at hc
 refine B9 <| A4 <| A0 <| A6 rfl rfl ?_
 apply D9 rfl
 ·apply B7
  ·exact B6 rfl
  exact D8
 ·exact b0k s (by omega)
 ·exact ⟨rfl, rfl, rfl, of_decide_eq_true rfl, rfl⟩
 ·exact .inl rfl
 ·exact C0
 ·exact E6 rfl
 ·exact fun _ => rfl
 intro g9
 refine A3 rfl rfl rfl ?_
 refine A5 ⟨nofun, _, kS [0,3] [] rfl, ?_⟩
 refine A4 <| A0 <| A6 rfl rfl ?_
 apply D9 rfl
 ·apply B7
  ·exact B6 rfl
  exact D8
 ·exact a9g s (by omega)
 ·exact ⟨rfl, rfl, rfl, of_decide_eq_true rfl, rfl⟩
 ·exact .inl rfl
 ·exact C0
 ·exact E6 rfl
 ·exact fun _ => rfl
 intro g11
 refine A3 rfl rfl rfl ?_
 refine A5 ⟨nofun, _, kS [3,4] [] rfl, ?_⟩
 refine A4 <| A4 <| A0 <| A6 rfl rfl <| A6 rfl rfl <| c5s rfl rfl rfl ?_
 refine A5 ⟨nofun, _, kS [14] [] rfl, ?_⟩
 refine A8 rfl (fun hc => ?_) (fun hc => ?_)
 ·try simp only [SG, List.length_map] at hc
  refine A4 <| A0 <| A3 rfl rfl rfl ?_
  refine A5 ⟨nofun, _, kS [2] [] rfl, ?_⟩
  refine B1 <| C6 rfl rfl trivial ?_
  (simp_all; done)
 try simp only [SG, List.length_map] at hc
 refine B9 <| A4 <| A0 <| A3 rfl rfl rfl ?_
 refine A5 ⟨nofun, _, kS [2] [] rfl, ?_⟩
 refine B1 <| C6 rfl rfl trivial ?_
 rfl
end Go.Proofs.YtpjgdgnaeohmeaaDoor
