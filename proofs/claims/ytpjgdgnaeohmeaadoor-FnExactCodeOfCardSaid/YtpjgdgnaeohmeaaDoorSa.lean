/- What each function of the program gives on the abstract machine, part 1 of 1. Conditions: those in front of each theorem. -/
import Derived.Test.YtpjgdgnaeohmeaaDoorMd
import Derived.Test.YtpjgdgnaeohmeaaDoorChecked
import Derived.KernelRfl

set_option linter.unusedVariables false
set_option linter.unusedSimpArgs false
namespace Go.Proofs.YtpjgdgnaeohmeaaDoor
open Go Go.Mv Go.Proofs
set_option maxRecDepth 100000

theorem SD : (∀ {p : Prop} [Decidable p], (decide p = true) = p) ∧ (∀ {p : Prop} {_ : Decidable p}, decide p = false ↔ ¬p) ∧ (∀ (b : Bool), ((!b) = true) = (b = false)) ∧ (∀ (b : Bool), ((!b) = false) = (b = true)) ∧ (∀ {α : Type} [BEq α] [LawfulBEq α] {a b : α}, (a != b) = true ↔ a ≠ b) ∧
    (∀ {α : Type} [BEq α] [LawfulBEq α] {a b : α}, (a == b) = true ↔ a = b) ∧ (∀ {α : Type} (a b : α), (a ≠ b) = ¬a = b) ∧ (!true) = false ∧ (!false) = true ∧ (∀ {α : Type} [BEq α] [LawfulBEq α] {a b : α}, (a == b) = false ↔ a ≠ b) ∧ (∀ {α : Type} [BEq α] [LawfulBEq α] {a b : α}, (a != b) = false ↔ a = b) ∧
    (∀ {p : Prop} [Decidable p], ¬¬p ↔ p) ∧ (∀ {a b : Int}, ¬a < b ↔ b ≤ a) ∧ (∀ {a b : Int}, ¬a ≤ b ↔ b < a) :=
  ⟨@decide_eq_true_eq, @decide_eq_false_iff_not, @Bool.not_eq_true', @Bool.not_eq_false', @bne_iff_ne, @beq_iff_eq, @ne_eq, @Bool.not_true, @Bool.not_false, @beq_eq_false_iff_ne, @bne_eq_false_iff_eq, @Decidable.not_not, @Int.not_lt, @Int.not_le⟩
theorem SG : ((∀ {p : Prop} [Decidable p], (decide p = true) = p) ∧ (∀ {p : Prop} {_ : Decidable p}, decide p = false ↔ ¬p) ∧ (∀ (b : Bool), ((!b) = true) = (b = false)) ∧ (∀ (b : Bool), ((!b) = false) = (b = true)) ∧ (∀ {α : Type} [BEq α] [LawfulBEq α] {a b : α}, (a != b) = true ↔ a ≠ b) ∧
    (∀ {α : Type} [BEq α] [LawfulBEq α] {a b : α}, (a == b) = true ↔ a = b) ∧ (∀ {α : Type} (a b : α), (a ≠ b) = ¬a = b) ∧ (!true) = false ∧ (!false) = true ∧ (∀ {α : Type} [BEq α] [LawfulBEq α] {a b : α}, (a == b) = false ↔ a ≠ b) ∧ (∀ {α : Type} [BEq α] [LawfulBEq α] {a b : α}, (a != b) = false ↔ a = b) ∧
    (∀ {p : Prop} [Decidable p], ¬¬p ↔ p) ∧ (∀ {a b : Int}, ¬a < b ↔ b ≤ a) ∧ (∀ {a b : Int}, ¬a ≤ b ↔ b < a)) ∧
    (∀ (a b : Bool), ((a && b) = true) = (a = true ∧ b = true)) ∧ (∀ {x y : Bool}, (x && y) = false ↔ x = false ∨ y = false) ∧ (∀ (a b : Bool), ((a || b) = true) = (a = true ∨ b = true)) ∧ (∀ {x y : Bool}, (x || y) = false ↔ x = false ∧ y = false) :=
  ⟨SD, @Bool.and_eq_true, @Bool.and_eq_false_iff, @Bool.or_eq_true, @Bool.or_eq_false_iff⟩
def c5n (keep : List Nat) (A : Asr) : List Mv.Loc → Asr → Option Asr
  | l :: ls, B => match keepLoc keep l, Mv.look A l with
    | true, some a => c5n keep A ls ((l, a) :: B)
    | _, _ => none
  | [], B => some B
theorem c3c {keep : List Nat} {A : Asr} : ∀ (ls : List Mv.Loc) {B C : Asr}, KeepL keep A B → c5n keep A ls B = some C → KeepL keep A C
  | [], B, C, h, e => by simp only [c5n, Option.some.injEq] at e; rw [← e]; exact h
  | l :: ls, B, C, h, e => by
    simp only [c5n] at e
    split at e
    · exact c3c ls (show KeepL keep A ((l, _) :: B) from ⟨by assumption, by assumption, h⟩) e
    · cases e
theorem kS (ts hs : List Nat) {keep : List Nat} {A B : Asr} (h : c5n keep A (ts.map .t ++ hs.map .h) [] = some B) : KeepL keep A B := c3c _ (show KeepL keep A [] from trivial) h
section
variable {cx : Cx} {keep : List Nat} {ops0 : Array Oper} {r : List Oper} {A : Asr} {Q : Asr → List Log → Prop}
variable {d ty : Nat} {pos : String} {aft : Array Edge}
theorem gT {op : Op} {dst : Option Nat} {g dg : Nat} {want b : Bool} (hd : (ops0[g]?).bind (·.dst) = some dg) (hb : Mv.look A (.t dg) = some (.val (.bool b)))
    (h : XR cx keep ops0 (⟨dst, op, ty, pos, aft, none⟩ :: r) A fun A' lg => Q A' (c2o (.t dg) lg)) (hw : b = want := by assumption) : XR cx keep ops0 (⟨dst, op, ty, pos, aft, some (g, want)⟩ :: r) A Q := S6 hd hb hw h
theorem gF {op : Op} {g dg : Nat} {want b : Bool} (hd : (ops0[g]?).bind (·.dst) = some dg) (hb : Mv.look A (.t dg) = some (.val (.bool b)))
    (h : XR cx keep ops0 r ((.t d, .val (.tuple #[])) :: A) fun A' lg => Q A' (([.t dg], [.t d]) :: lg)) (hw : b = !want := by assumption) : XR cx keep ops0 (⟨some d, op, ty, pos, aft, some (g, want)⟩ :: r) A Q := G8 hd hb hw h
end

def mdT : List (Nat × List Nat) := [(16, [1]), (23, [3, 3, 3, 3]), (24, [3, 3, 3, 3]), (28, [2]), (32, [3, 3, 3, 3]), (34, [3, 3, 3, 3]), (35, [3, 3, 3, 3]), (36, [3, 3, 3, 3]), (39, [3, 3, 3, 3]), (40, [3, 3, 3, 3]), (44, [3, 3, 3, 3]), (45, [3, 3, 3, 3]), (46, [3, 3, 3, 3]), (47, [3, 3, 3, 3]), (48, [3, 3, 3, 3]), (53, [3, 3, 3, 3]), (56, [3, 3, 3, 3])]
noncomputable def d0p : List (Nat × (List AV → Option (AV × List (List AV)))) := [(49, b0q), (50, b5k), (65, a9c), (80, b5p), (81, b5i), (82, b5o)]
noncomputable def cxT : Cx := { P := Tryd.prog, md := d2g mdT, ext := c2c d0p, it := fun _ => none, fz := fun k => [23, 24, 32, 39, 40, 48, 53].contains k }
noncomputable def cxE : Cx := { P := Tryd.prog, md := d2g mdT, ext := fun _ => none, fz := fun k => [23, 24, 32, 39, 40, 48, 53].contains k }
theorem c2z (l : List UInt8) (b : UInt8) (hl : l.length < 4294967281) : CW cxT 49 [tV l, tV [b]] = some (.own 1 ((splitB b l).map tV), []) := a7b cxT rfl (by show (if l.length < 4294967281 then some ((AV.own 1 ((splitB b l).map tV), []) : AV × List (List AV)) else none) = _; rw [if_pos hl])
theorem d1t (ps : List (List UInt8)) (b : UInt8) (h1 : ps.length ≤ H5) (h2 : (joinB b ps).length ≤ H5) : CW cxT 50 [.list (ps.map tV), tV [b]] = some (tV (joinB b ps), []) := a7b cxT rfl (by show ((unT (ps.map tV)).bind fun ps => if ps.length ≤ H5 ∧ (joinB b ps).length ≤ H5 then some ((tV (joinB b ps), []) : AV × List (List AV)) else none) = _; rw [c9b, Option.bind_some, if_pos ⟨h1, h2⟩])
theorem d1u (n : Int) (h : -9223372036854775808 ≤ n ∧ n ≤ 9223372036854775807) : CW cxT 65 [iV n] = some (tV (dec n), []) := a7b cxT rfl (by simp [a9c, h])
theorem d0x (l : List UInt8) (b : UInt8) : CW cxT 80 [tV l, tV [b]] = some (.tup [tV (a2b b l), bV (decide (l.head? = some b))], []) := a7b cxT rfl rfl
theorem d0s (l : List UInt8) (b : UInt8) (hl : l.length < 4294967281) : CW cxT 81 [tV l, tV [b]] = some (.tup [tV (b2k b l), bV (decide (l.getLast? = some b))], []) := a7b cxT rfl (by show (if l.length < 4294967281 then some ((AV.tup [tV (b2k b l), bV (decide (l.getLast? = some b))], []) : AV × List (List AV)) else none) = _; rw [if_pos hl])
theorem c1k (l : List UInt8) (hl : l.length < 4294967281) : CW cxT 82 [tV l] = some (atR l, []) := a7b cxT rfl (by show (if l.length < 4294967281 then some ((atR l, []) : AV × List (List AV)) else none) = _; rw [if_pos hl])

theorem keep_s_inRange : G0 Tryd.f71 = [0, 1, 2, 6] := by kernel_rfl
set_option maxHeartbeats 20000000 in
theorem c4f (n lo hi : Int) : CW cxT 71 [iV n, iV lo, iV hi] = some (bV (decide (lo ≤ n) && decide (n ≤ hi)), []) := by
 refine F6 rfl Tryd.func71 rfl ⟨by kernel_rfl, rfl, of_decide_eq_true rfl, of_decide_eq_true rfl, by decide⟩ keep_s_inRange <| A3 <| A0 <| A4 rfl rfl rfl ?_
 refine A5 ⟨nofun, _, kS [0,1,2] [] rfl, ?_⟩
 refine A3 <| A0 <| A6 rfl rfl <| A6 rfl rfl <| a7p rfl rfl <| A6 rfl rfl ?_
 refine E4 rfl rfl (fun hg0 => ?_) (fun hg0 => ?_)
 ·have hg := hg0; try simp only [SG] at hg
  refine A6 rfl rfl <| gT rfl rfl <| A6 rfl rfl <| gT rfl rfl <| a7p rfl rfl <| G1 rfl (by assumption) rfl rfl <| A4 rfl rfl rfl ?_
  refine A5 ⟨nofun, _, kS [6] [] rfl, ?_⟩
  refine B2 <| C6 rfl rfl trivial ?_
  simp_all [ofConst]; try omega
 have hg := hg0; try simp only [SG] at hg
 refine gF rfl rfl <| gF rfl rfl <| G7 rfl (by assumption) rfl rfl <| A4 rfl rfl rfl ?_
 refine A5 ⟨nofun, _, kS [6] [] rfl, ?_⟩
 refine B2 <| C6 rfl rfl trivial ?_
 simp_all [ofConst]; try omega

theorem keep_s_in : G0 Tryd.f110 = [0, 1, 2, 6] := by kernel_rfl
set_option maxHeartbeats 20000000 in
theorem d2m (n lo hi : Int) : CW cxT 110 [iV n, iV lo, iV hi] = some (bV (decide (lo ≤ n) && decide (n ≤ hi)), []) := by
 refine F6 rfl Tryd.func110 rfl ⟨by kernel_rfl, rfl, of_decide_eq_true rfl, of_decide_eq_true rfl, by decide⟩ keep_s_in <| A3 <| A0 <| A4 rfl rfl rfl ?_
 refine A5 ⟨nofun, _, kS [0,1,2] [] rfl, ?_⟩
 refine A3 <| A0 <| A6 rfl rfl <| A6 rfl rfl <| c7k rfl rfl <| A6 rfl rfl ?_
 refine E4 rfl rfl (fun hg0 => ?_) (fun hg0 => ?_)
 ·have hg := hg0; try simp only [SG] at hg
  refine A6 rfl rfl <| gT rfl rfl <| A6 rfl rfl <| gT rfl rfl <| a7p rfl rfl <| G1 rfl (by assumption) rfl rfl <| A4 rfl rfl rfl ?_
  refine A5 ⟨nofun, _, kS [6] [] rfl, ?_⟩
  refine B2 <| C6 rfl rfl trivial ?_
  simp_all [ofConst]; try omega
 have hg := hg0; try simp only [SG] at hg
 refine gF rfl rfl <| gF rfl rfl <| G7 rfl (by assumption) rfl rfl <| A4 rfl rfl rfl ?_
 refine A5 ⟨nofun, _, kS [6] [] rfl, ?_⟩
 refine B2 <| C6 rfl rfl trivial ?_
 simp_all [ofConst]; try omega

theorem keep_s_IndexFunc2 : G0 Tryd.f119 = [0, 1, 4, 8, 7, 9, 5, 16] := by kernel_rfl
set_option maxHeartbeats 20000000 in
theorem b4r (xs : List Int) (hl : xs.length ≤ 1000) (k : Nat) (a b : AV) (q : Int → Bool) (hq : ∀ x, CW cxT k [iV x, .ipt a 0, .ipt b 0] = some (bV (q x), [])) : ∃ res outs, (fun res outs => ∃ r : Int, res = iV r ∧ outs = [] ∧ decide (0 ≤ r) = xs.any q) res outs ∧ CW cxT 119 [L xs, .clo k [.ipt a 0, .ipt b 0]] = some (res, outs) := by
 refine b3e rfl Tryd.func119 rfl ⟨by kernel_rfl, rfl, of_decide_eq_true rfl, of_decide_eq_true rfl, by decide⟩ keep_s_IndexFunc2 <| A3 <| A0 <| A4 rfl rfl rfl ?_
 refine A5 ⟨nofun, _, kS [0,1] [] rfl, ?_⟩
 refine A3 <| A3 <| A0 <| A6 rfl rfl <| I8 rfl rfl <| A6 rfl rfl ?_
 refine A5 ⟨nofun, _, kS [0,1,7,8] [] rfl, ?_⟩
 refine D8 <| L0 (β := Nat) [(.t 0, _), (.t 1, _), (.t 7, _)] (fun (i : Nat) => [(.t 8, iV i)]) (fun (i : Nat) => i ≤ xs.length ∧ ∀ j, j < i → q (xs.getD j default) = false) (fun (i : Nat) => xs.length - i) 0 ⟨rfl, rfl, rfl, rfl, trivial⟩ ⟨Nat.zero_le _, fun j h => by omega⟩ ?_
 intro i hb
 obtain ⟨hi1, hi2⟩ := hb
 refine A3 <| A0 <| K9 rfl rfl ?_
 refine A5 ⟨nofun, _, kS [0,1,7,8,9] [] rfl, ?_⟩
 refine A3 ?_
 refine A8 rfl (fun hc => ?_) (fun hc => ?_)
 ·try simp only [SG, List.length_map] at hc
  refine B7 <| A3 <| D8 <| A3 <| A0 <| A6 rfl rfl <| A4 rfl rfl rfl ?_
  refine A5 ⟨nofun, _, kS [0,1,5,7,8] [] rfl, ?_⟩
  refine A3 <| A0 <| A6 rfl rfl <| A6 rfl rfl <| A6 rfl rfl <| G6 rfl rfl rfl (fun _ => rfl) (by omega) <| H3 rfl rfl rfl ?_
  apply c9j rfl rfl
  ·apply B4
   ·exact B5 rfl
   apply B4
   ·exact B5 rfl
   apply B4
   ·exact B5 rfl
   exact C8
  ·exact hq (xs.getD i default)
  ·exact ⟨rfl, rfl, rfl, of_decide_eq_true rfl, rfl⟩
  ·exact .inl rfl
  ·exact B8
  ·exact D4 rfl
  ·exact fun _ => rfl
  intro g16
  refine A5 ⟨nofun, _, kS [0,1,5,7,8,16] [] rfl, ?_⟩
  refine A8 rfl (fun hc => ?_) (fun hc => ?_)
  ·try simp only [SG, List.length_map] at hc
   refine A3 <| A0 <| A6 rfl rfl <| A4 rfl rfl rfl ?_
   refine A5 ⟨nofun, _, kS [4] [] rfl, ?_⟩
   refine B2 ?_
   refine ⟨_, _, ?_, a9b rfl rfl C4⟩
   exact ⟨_, rfl, rfl, c8v (by omega) hc⟩
  try simp only [SG, List.length_map] at hc
  refine B7 <| A0 <| L4 rfl rfl (H6 (by omega)) <| A6 rfl rfl ?_
  refine A5 ⟨nofun, _, kS [0,1,7,8] [] rfl, ?_⟩
  refine ⟨i + 1, ⟨by omega, fun a ha => by rcases Nat.lt_succ_iff_lt_or_eq.1 ha with h | h; exact hi2 a h; subst h; exact hc⟩, (by omega), ⟨rfl, rfl, rfl, rfl, trivial⟩⟩
 try simp only [SG, List.length_map] at hc
 refine I4 <| A3 <| A0 <| A4 rfl rfl rfl ?_
 refine A5 ⟨nofun, _, kS [4] [] rfl, ?_⟩
 refine B2 ?_
 refine ⟨_, _, ?_, a9b rfl rfl C4⟩
 exact ⟨-1, rfl, rfl, c6u fun j hj => hi2 j (by omega)⟩

theorem keep_s_ContainsFunc2 : G0 Tryd.f108 = [0, 1, 4] := by kernel_rfl
set_option maxHeartbeats 20000000 in
theorem a8s (xs : List Int) (hl : xs.length ≤ 1000) (k : Nat) (a b : AV) (q : Int → Bool) (hq : ∀ x, CW cxT k [iV x, .ipt a 0, .ipt b 0] = some (bV (q x), [])) : CW cxT 108 [L xs, .clo k [.ipt a 0, .ipt b 0]] = some (bV (xs.any q), []) := by
 obtain ⟨_, _, ⟨r, rfl, rfl, hr⟩, hC⟩ := b4r xs hl k a b q hq
 refine F6 rfl Tryd.func108 rfl ⟨by kernel_rfl, rfl, of_decide_eq_true rfl, of_decide_eq_true rfl, by decide⟩ keep_s_ContainsFunc2 <| A3 <| A0 <| A4 rfl rfl rfl ?_
 refine A5 ⟨nofun, _, kS [0,1] [] rfl, ?_⟩
 refine A3 <| A0 <| A6 rfl rfl <| A6 rfl rfl ?_
 apply C9 rfl
 ·apply B4
  ·exact B5 rfl
  apply B4
  ·exact c5o rfl (c8b (c8b c6n))
  exact C8
 ·exact hC
 ·exact ⟨rfl, rfl, rfl, of_decide_eq_true rfl, rfl⟩
 ·exact .inl rfl
 ·exact B8
 ·exact D4 rfl
 ·exact fun _ => rfl
 intro g7
 refine c7k rfl rfl <| A4 rfl rfl rfl ?_
 refine A5 ⟨nofun, _, kS [4] [] rfl, ?_⟩
 refine B2 <| C6 rfl rfl trivial ?_
 rw [← hr]

theorem keep_s_allIn1 : G0 Tryd.f109 = [0, 1, 2, 4] := by kernel_rfl
set_option maxHeartbeats 20000000 in
theorem c7w (x lo hi : Int) : CW cxT 109 [iV x, .ipt (iV lo) 0, .ipt (iV hi) 0] = some (bV (!(decide (lo ≤ x) && decide (x ≤ hi))), []) := by
 refine F6 rfl Tryd.func109 rfl ⟨by kernel_rfl, rfl, of_decide_eq_true rfl, of_decide_eq_true rfl, by decide⟩ keep_s_allIn1 <| A3 <| A0 <| A4 rfl rfl rfl ?_
 refine A5 ⟨nofun, _, kS [0,1,2] [] rfl, ?_⟩
 refine A3 <| A0 <| A6 rfl rfl <| H3 rfl rfl rfl <| H3 rfl rfl rfl ?_
 apply C9 rfl
 ·apply B4
  ·exact B5 rfl
  apply B4
  ·exact B5 rfl
  apply B4
  ·exact B5 rfl
  exact C8
 ·exact d2m _ _ _
 ·exact ⟨rfl, rfl, rfl, of_decide_eq_true rfl, rfl⟩
 ·exact .inl rfl
 ·exact B8
 ·exact D4 rfl
 ·exact fun _ => rfl
 intro g8
 refine N2 rfl <| A4 rfl rfl rfl ?_
 refine A5 ⟨nofun, _, kS [4] [] rfl, ?_⟩
 refine B2 <| C6 rfl rfl trivial ?_
 rfl

theorem keep_s_allIn : G0 Tryd.f94 = [0, 1, 2, 6, 4, 5] := by kernel_rfl
set_option maxHeartbeats 20000000 in
theorem c8x (xs : List Int) (hl : xs.length ≤ 1000) (lo hi : Int) : CW cxT 94 [L xs, iV lo, iV hi] = some (bV (a3w lo hi xs), []) := by
 refine F6 rfl Tryd.func94 rfl ⟨by kernel_rfl, rfl, of_decide_eq_true rfl, of_decide_eq_true rfl, by decide⟩ keep_s_allIn <| A3 <| A0 <| b6q rfl rfl rfl (fun _ => C0 rfl) (fun _ => rfl) ?_
 intro g4
 refine b6q rfl rfl rfl (fun _ => C0 rfl) (fun _ => rfl) ?_
 intro g5
 refine A4 rfl rfl rfl ?_
 refine A5 ⟨nofun, _, kS [0,4,5] [4,5] rfl, ?_⟩
 refine A3 <| A0 <| A6 rfl rfl <| c1y rfl rfl ?_
 apply C9 rfl
 ·apply B4
  ·exact B5 rfl
  apply B4
  ·exact c5o rfl (c6j rfl rfl (c6j rfl rfl c6n))
  exact C8
 ·exact a8s xs hl 109 (iV lo) (iV hi) _ (fun x => c7w x lo hi)
 ·exact ⟨rfl, rfl, rfl, of_decide_eq_true rfl, rfl⟩
 ·exact .inr ⟨rfl, rfl⟩
 ·exact B8
 ·exact D4 rfl
 ·exact fun _ => rfl
 intro g9
 refine N2 rfl <| A4 rfl rfl rfl ?_
 refine A5 ⟨nofun, _, kS [6] [] rfl, ?_⟩
 refine B2 <| C6 rfl rfl trivial ?_
 exact congrArg bV (c6v lo hi xs)

theorem keep_s_validData : G0 Tryd.f62 = [0, 2, 3, 7, 15] := by kernel_rfl
set_option maxHeartbeats 20000000 in
theorem b8q (xs : List Int) (hl : xs.length ≤ 1048576) : CW cxT 62 [L xs] = some (bV (vd xs), []) := by
 refine F6 rfl Tryd.func62 rfl ⟨by kernel_rfl, rfl, of_decide_eq_true rfl, of_decide_eq_true rfl, by decide⟩ keep_s_validData <| A3 <| A0 <| A4 rfl rfl rfl ?_
 refine A5 ⟨nofun, _, kS [0] [] rfl, ?_⟩
 refine A3 <| A3 <| A0 <| A4 rfl rfl rfl ?_
 refine A5 ⟨nofun, _, kS [0,3] [] rfl, ?_⟩
 refine D8 <| L0 (β := Nat) [(.t 0, _)] (fun (i : Nat) => [(.t 3, iV i)]) (fun (i : Nat) => i ≤ xs.length ∧ ∀ j, j < i → -200 ≤ xs.getD j default ∧ xs.getD j default ≤ 200) (fun (i : Nat) => xs.length - i) 0 ⟨rfl, rfl, trivial⟩ ⟨Nat.zero_le _, fun j h => by omega⟩ ?_
 intro i hb
 obtain ⟨hi1, hi2⟩ := hb
 refine A3 <| A3 <| A0 <| A6 rfl rfl <| A6 rfl rfl <| I8 rfl rfl <| K9 rfl rfl ?_
 refine A5 ⟨nofun, _, kS [0,3,7] [] rfl, ?_⟩
 refine A8 rfl (fun hc => ?_) (fun hc => ?_)
 ·try simp only [SG, List.length_map] at hc
  refine B7 <| A3 <| D8 <| A3 <| A0 <| A6 rfl rfl <| A6 rfl rfl <| G6 rfl rfl rfl (fun _ => rfl) (by omega) <| H3 rfl rfl rfl ?_
  apply C9 rfl
  ·apply B4
   ·exact B5 rfl
   apply B4
   ·exact B5 rfl
   apply B4
   ·exact B5 rfl
   exact C8
  ·exact c4f _ _ _
  ·exact ⟨rfl, rfl, rfl, of_decide_eq_true rfl, rfl⟩
  ·exact .inl rfl
  ·exact B8
  ·exact D4 rfl
  ·exact fun _ => rfl
  intro g14
  refine N2 rfl ?_
  refine A5 ⟨nofun, _, kS [0,3,15] [] rfl, ?_⟩
  refine A8 rfl (fun hc => ?_) (fun hc => ?_)
  ·try simp only [SG, List.length_map] at hc
   refine A3 <| A0 <| A4 rfl rfl rfl ?_
   refine A5 ⟨nofun, _, kS [2] [] rfl, ?_⟩
   refine B2 <| C6 rfl rfl trivial ?_
   rw [vd, c7j (show i < xs.length by omega) (by (simp_all; omega)), Bool.and_false]
   rfl
  try simp only [SG, List.length_map] at hc
  refine B7 <| A0 <| A6 rfl rfl <| L4 rfl rfl (H6 (by omega)) <| A4 rfl rfl rfl ?_
  refine A5 ⟨nofun, _, kS [0,3] [] rfl, ?_⟩
  refine ⟨i + 1, ⟨by omega, fun j hj => by rcases Nat.lt_succ_iff_lt_or_eq.1 hj with h | h; (· exact hi2 j h); (· subst h; assumption)⟩, (by omega), ⟨rfl, rfl, trivial⟩⟩
 try simp only [SG, List.length_map] at hc
 refine I4 <| A3 <| A0 <| A6 rfl rfl <| I8 rfl rfl <| a7p rfl rfl <| A4 rfl rfl rfl ?_
 refine A5 ⟨nofun, _, kS [2] [] rfl, ?_⟩
 refine B2 <| C6 rfl rfl trivial ?_
 rw [vd, c9g fun j hj => hi2 j (by omega), Bool.and_true]
 exact congrArg bV (decide_eq_decide.2 (by omega))

theorem keep_s_validDataI : G0 Tryd.f83 = [0, 2] := by kernel_rfl
set_option maxHeartbeats 20000000 in
theorem a6a (xs : List Int) (hl : xs.length ≤ 1048576) : CW cxT 83 [L xs] = some (bV (vd xs), []) := by
 refine F6 rfl Tryd.func83 rfl ⟨by kernel_rfl, rfl, of_decide_eq_true rfl, of_decide_eq_true rfl, by decide⟩ keep_s_validDataI <| A3 <| A0 <| A4 rfl rfl rfl ?_
 refine A5 ⟨nofun, _, kS [0] [] rfl, ?_⟩
 refine A3 <| A0 <| A6 rfl rfl <| I8 rfl rfl <| a7p rfl rfl <| A6 rfl rfl ?_
 refine E4 rfl rfl (fun hg0 => ?_) (fun hg0 => ?_)
 ·have hg := hg0; try simp only [SG] at hg
  refine A6 rfl rfl <| gT rfl rfl ?_
  apply C9 rfl
  ·apply B4
   ·exact B5 rfl
   apply B4
   ·exact B5 rfl
   apply B4
   ·exact B5 rfl
   exact C8
  ·exact c8x xs (by omega) (-200) 200
  ·exact ⟨rfl, rfl, rfl, of_decide_eq_true rfl, rfl⟩
  ·exact .inl rfl
  ·exact B8
  ·exact D4 rfl
  ·exact fun _ => rfl
  intro g8
  refine G1 rfl (by assumption) rfl rfl <| A4 rfl rfl rfl ?_
  refine A5 ⟨nofun, _, kS [2] [] rfl, ?_⟩
  refine B2 <| C6 rfl rfl trivial ?_
  cases hb : a3w (-200) 200 xs <;> simp_all [vd, ofConst] <;> omega
 have hg := hg0; try simp only [SG] at hg
 refine gF rfl rfl <| G7 rfl (by assumption) rfl rfl <| A4 rfl rfl rfl ?_
 refine A5 ⟨nofun, _, kS [2] [] rfl, ?_⟩
 refine B2 <| C6 rfl rfl trivial ?_
 cases hb : a3w (-200) 200 xs <;> simp_all [vd, ofConst] <;> omega

theorem keep_s_needs : G0 Tryd.f64 = [0, 2, 3, 4, 10, 19] := by kernel_rfl
set_option maxHeartbeats 20000000 in
theorem a4w (w : ByteArray) : CW cxT 64 [sV w] = some (iV (nd w), []) := by
 refine F6 rfl Tryd.func64 rfl ⟨by kernel_rfl, rfl, of_decide_eq_true rfl, of_decide_eq_true rfl, by decide⟩ keep_s_needs <| A3 <| A0 <| A4 rfl rfl rfl ?_
 refine A5 ⟨nofun, _, kS [0] [] rfl, ?_⟩
 refine A3 <| A3 <| A0 <| A6 rfl rfl ?_
 refine A5 ⟨nofun, _, kS [3] [] rfl, ?_⟩
 refine D8 <| A3 <| A3 <| A0 <| L5 rfl rfl <| A4 rfl rfl rfl ?_
 refine A5 ⟨nofun, _, kS [3,4] [] rfl, ?_⟩
 refine A8 rfl (fun hc => ?_) (fun hc => ?_)
 ·try simp only [SG, List.length_map] at hc
  refine B7 ?_
  refine A8 rfl (fun hc => ?_) (fun hc => absurd hc (by simp_all))
  refine A3 <| A0 <| A4 rfl rfl rfl ?_
  refine A5 ⟨nofun, _, kS [2] [] rfl, ?_⟩
  refine B2 <| C6 rfl rfl trivial <| congrArg iV ?_
  simp_all [nd]
 try simp only [SG, List.length_map] at hc
 refine A3 <| A0 <| L5 rfl rfl <| A4 rfl rfl rfl ?_
 refine A5 ⟨nofun, _, kS [3,4] [] rfl, ?_⟩
 refine A8 rfl (fun hc => ?_) (fun hc => ?_)
 ·try simp only [SG, List.length_map] at hc
  refine B7 ?_
  refine A8 rfl (fun hc => ?_) (fun hc => absurd hc (by simp_all))
  refine A3 <| A0 <| A4 rfl rfl rfl ?_
  refine A5 ⟨nofun, _, kS [2] [] rfl, ?_⟩
  refine B2 <| C6 rfl rfl trivial <| congrArg iV ?_
  simp_all [nd]
 try simp only [SG, List.length_map] at hc
 refine A3 <| A0 <| L5 rfl rfl <| A4 rfl rfl rfl ?_
 refine A5 ⟨nofun, _, kS [3,4] [] rfl, ?_⟩
 refine A8 rfl (fun hc => ?_) (fun hc => ?_)
 ·try simp only [SG, List.length_map] at hc
  refine B7 ?_
  refine A8 rfl (fun hc => ?_) (fun hc => absurd hc (by simp_all))
  refine A3 <| A0 <| A4 rfl rfl rfl ?_
  refine A5 ⟨nofun, _, kS [2] [] rfl, ?_⟩
  refine B2 <| C6 rfl rfl trivial <| congrArg iV ?_
  simp_all [nd]
 try simp only [SG, List.length_map] at hc
 refine A3 <| A0 <| L5 rfl rfl <| A4 rfl rfl rfl ?_
 refine A5 ⟨nofun, _, kS [3,4] [] rfl, ?_⟩
 refine A8 rfl (fun hc => ?_) (fun hc => ?_)
 ·try simp only [SG, List.length_map] at hc
  refine B7 ?_
  refine A8 rfl (fun hc => ?_) (fun hc => absurd hc (by simp_all))
  refine A3 <| A0 <| A4 rfl rfl rfl ?_
  refine A5 ⟨nofun, _, kS [2] [] rfl, ?_⟩
  refine B2 <| C6 rfl rfl trivial <| congrArg iV ?_
  simp_all [nd]
 try simp only [SG, List.length_map] at hc
 refine A0 <| L5 rfl rfl <| A4 rfl rfl rfl ?_
 refine A5 ⟨nofun, _, kS [3,4] [] rfl, ?_⟩
 refine A8 rfl (fun hc => ?_) (fun hc => ?_)
 ·try simp only [SG, List.length_map] at hc
  refine A3 <| A0 <| A4 rfl rfl rfl ?_
  refine A5 ⟨nofun, _, kS [2] [] rfl, ?_⟩
  refine B2 <| C6 rfl rfl trivial <| congrArg iV ?_
  simp_all [nd]
 try simp only [SG, List.length_map] at hc
 refine A3 <| A3 <| A0 <| L5 rfl rfl <| A4 rfl rfl rfl ?_
 refine A5 ⟨nofun, _, kS [3,10] [] rfl, ?_⟩
 refine A8 rfl (fun hc => ?_) (fun hc => ?_)
 ·try simp only [SG, List.length_map] at hc
  refine B7 ?_
  refine A8 rfl (fun hc => ?_) (fun hc => absurd hc (by simp_all))
  refine A3 <| A0 <| A4 rfl rfl rfl ?_
  refine A5 ⟨nofun, _, kS [2] [] rfl, ?_⟩
  refine B2 <| C6 rfl rfl trivial <| congrArg iV ?_
  simp_all [nd]
 try simp only [SG, List.length_map] at hc
 refine A3 <| A0 <| L5 rfl rfl <| A4 rfl rfl rfl ?_
 refine A5 ⟨nofun, _, kS [3,10] [] rfl, ?_⟩
 refine A8 rfl (fun hc => ?_) (fun hc => ?_)
 ·try simp only [SG, List.length_map] at hc
  refine B7 ?_
  refine A8 rfl (fun hc => ?_) (fun hc => absurd hc (by simp_all))
  refine A3 <| A0 <| A4 rfl rfl rfl ?_
  refine A5 ⟨nofun, _, kS [2] [] rfl, ?_⟩
  refine B2 <| C6 rfl rfl trivial <| congrArg iV ?_
  simp_all [nd]
 try simp only [SG, List.length_map] at hc
 refine A3 <| A0 <| L5 rfl rfl <| A4 rfl rfl rfl ?_
 refine A5 ⟨nofun, _, kS [3,10] [] rfl, ?_⟩
 refine A8 rfl (fun hc => ?_) (fun hc => ?_)
 ·try simp only [SG, List.length_map] at hc
  refine B7 ?_
  refine A8 rfl (fun hc => ?_) (fun hc => absurd hc (by simp_all))
  refine A3 <| A0 <| A4 rfl rfl rfl ?_
  refine A5 ⟨nofun, _, kS [2] [] rfl, ?_⟩
  refine B2 <| C6 rfl rfl trivial <| congrArg iV ?_
  simp_all [nd]
 try simp only [SG, List.length_map] at hc
 refine A3 <| A0 <| L5 rfl rfl <| A4 rfl rfl rfl ?_
 refine A5 ⟨nofun, _, kS [3,10] [] rfl, ?_⟩
 refine A8 rfl (fun hc => ?_) (fun hc => ?_)
 ·try simp only [SG, List.length_map] at hc
  refine B7 ?_
  refine A8 rfl (fun hc => ?_) (fun hc => absurd hc (by simp_all))
  refine A3 <| A0 <| A4 rfl rfl rfl ?_
  refine A5 ⟨nofun, _, kS [2] [] rfl, ?_⟩
  refine B2 <| C6 rfl rfl trivial <| congrArg iV ?_
  simp_all [nd]
 try simp only [SG, List.length_map] at hc
 refine A3 <| A0 <| L5 rfl rfl <| A4 rfl rfl rfl ?_
 refine A5 ⟨nofun, _, kS [3,10] [] rfl, ?_⟩
 refine A8 rfl (fun hc => ?_) (fun hc => ?_)
 ·try simp only [SG, List.length_map] at hc
  refine B7 ?_
  refine A8 rfl (fun hc => ?_) (fun hc => absurd hc (by simp_all))
  refine A3 <| A0 <| A4 rfl rfl rfl ?_
  refine A5 ⟨nofun, _, kS [2] [] rfl, ?_⟩
  refine B2 <| C6 rfl rfl trivial <| congrArg iV ?_
  simp_all [nd]
 try simp only [SG, List.length_map] at hc
 refine A3 <| A0 <| L5 rfl rfl <| A4 rfl rfl rfl ?_
 refine A5 ⟨nofun, _, kS [3,10] [] rfl, ?_⟩
 refine A8 rfl (fun hc => ?_) (fun hc => ?_)
 ·try simp only [SG, List.length_map] at hc
  refine B7 ?_
  refine A8 rfl (fun hc => ?_) (fun hc => absurd hc (by simp_all))
  refine A3 <| A0 <| A4 rfl rfl rfl ?_
  refine A5 ⟨nofun, _, kS [2] [] rfl, ?_⟩
  refine B2 <| C6 rfl rfl trivial <| congrArg iV ?_
  simp_all [nd]
 try simp only [SG, List.length_map] at hc
 refine A3 <| A0 <| L5 rfl rfl <| A4 rfl rfl rfl ?_
 refine A5 ⟨nofun, _, kS [3,10] [] rfl, ?_⟩
 refine A8 rfl (fun hc => ?_) (fun hc => ?_)
 ·try simp only [SG, List.length_map] at hc
  refine B7 ?_
  refine A8 rfl (fun hc => ?_) (fun hc => absurd hc (by simp_all))
  refine A3 <| A0 <| A4 rfl rfl rfl ?_
  refine A5 ⟨nofun, _, kS [2] [] rfl, ?_⟩
  refine B2 <| C6 rfl rfl trivial <| congrArg iV ?_
  simp_all [nd]
 try simp only [SG, List.length_map] at hc
 refine A0 <| L5 rfl rfl <| A4 rfl rfl rfl ?_
 refine A5 ⟨nofun, _, kS [3,10] [] rfl, ?_⟩
 refine A8 rfl (fun hc => ?_) (fun hc => ?_)
 ·try simp only [SG, List.length_map] at hc
  refine A3 <| A0 <| A4 rfl rfl rfl ?_
  refine A5 ⟨nofun, _, kS [2] [] rfl, ?_⟩
  refine B2 <| C6 rfl rfl trivial <| congrArg iV ?_
  simp_all [nd]
 try simp only [SG, List.length_map] at hc
 refine A3 <| A3 <| A0 <| L5 rfl rfl <| A4 rfl rfl rfl ?_
 refine A5 ⟨nofun, _, kS [3,19] [] rfl, ?_⟩
 refine A8 rfl (fun hc => ?_) (fun hc => ?_)
 ·try simp only [SG, List.length_map] at hc
  refine B7 ?_
  refine A8 rfl (fun hc => ?_) (fun hc => absurd hc (by simp_all))
  refine A3 <| A0 <| A4 rfl rfl rfl ?_
  refine A5 ⟨nofun, _, kS [2] [] rfl, ?_⟩
  refine B2 <| C6 rfl rfl trivial <| congrArg iV ?_
  simp_all [nd]
 try simp only [SG, List.length_map] at hc
 refine A0 <| L5 rfl rfl <| A4 rfl rfl rfl ?_
 refine A5 ⟨nofun, _, kS [19] [] rfl, ?_⟩
 refine A8 rfl (fun hc => ?_) (fun hc => ?_)
 ·try simp only [SG, List.length_map] at hc
  refine A3 <| A0 <| A4 rfl rfl rfl ?_
  refine A5 ⟨nofun, _, kS [2] [] rfl, ?_⟩
  refine B2 <| C6 rfl rfl trivial <| congrArg iV ?_
  simp_all [nd]
 try simp only [SG, List.length_map] at hc
 refine B7 <| A3 <| A0 <| A4 rfl rfl rfl ?_
 refine A5 ⟨nofun, _, kS [2] [] rfl, ?_⟩
 refine B2 <| C6 rfl rfl trivial <| congrArg iV ?_
 simp_all [nd]

theorem keep_s_reachOf : G0 Tryd.f52 = [0, 2, 3, 4, 13, 16] := by kernel_rfl
set_option maxHeartbeats 20000000 in
theorem c3u (w : ByteArray) : CW cxT 52 [sV w] = some (iV (rch w), []) := by
 refine F6 rfl Tryd.func52 rfl ⟨by kernel_rfl, rfl, of_decide_eq_true rfl, of_decide_eq_true rfl, by decide⟩ keep_s_reachOf <| A3 <| A0 <| A4 rfl rfl rfl ?_
 refine A5 ⟨nofun, _, kS [0] [] rfl, ?_⟩
 refine A3 <| A3 <| A0 <| A6 rfl rfl ?_
 refine A5 ⟨nofun, _, kS [3] [] rfl, ?_⟩
 refine D8 <| A3 <| A3 <| A0 <| L5 rfl rfl <| A4 rfl rfl rfl ?_
 refine A5 ⟨nofun, _, kS [3,4] [] rfl, ?_⟩
 refine A8 rfl (fun hc => ?_) (fun hc => ?_)
 ·try simp only [SG, List.length_map] at hc
  refine B7 ?_
  refine A8 rfl (fun hc => ?_) (fun hc => absurd hc (by simp_all))
  refine A3 <| A0 <| A4 rfl rfl rfl ?_
  refine A5 ⟨nofun, _, kS [2] [] rfl, ?_⟩
  refine B2 <| C6 rfl rfl trivial <| congrArg iV ?_
  simp_all [rch]
 try simp only [SG, List.length_map] at hc
 refine A3 <| A0 <| L5 rfl rfl <| A4 rfl rfl rfl ?_
 refine A5 ⟨nofun, _, kS [3,4] [] rfl, ?_⟩
 refine A8 rfl (fun hc => ?_) (fun hc => ?_)
 ·try simp only [SG, List.length_map] at hc
  refine B7 ?_
  refine A8 rfl (fun hc => ?_) (fun hc => absurd hc (by simp_all))
  refine A3 <| A0 <| A4 rfl rfl rfl ?_
  refine A5 ⟨nofun, _, kS [2] [] rfl, ?_⟩
  refine B2 <| C6 rfl rfl trivial <| congrArg iV ?_
  simp_all [rch]
 try simp only [SG, List.length_map] at hc
 refine A3 <| A0 <| L5 rfl rfl <| A4 rfl rfl rfl ?_
 refine A5 ⟨nofun, _, kS [3,4] [] rfl, ?_⟩
 refine A8 rfl (fun hc => ?_) (fun hc => ?_)
 ·try simp only [SG, List.length_map] at hc
  refine B7 ?_
  refine A8 rfl (fun hc => ?_) (fun hc => absurd hc (by simp_all))
  refine A3 <| A0 <| A4 rfl rfl rfl ?_
  refine A5 ⟨nofun, _, kS [2] [] rfl, ?_⟩
  refine B2 <| C6 rfl rfl trivial <| congrArg iV ?_
  simp_all [rch]
 try simp only [SG, List.length_map] at hc
 refine A3 <| A0 <| L5 rfl rfl <| A4 rfl rfl rfl ?_
 refine A5 ⟨nofun, _, kS [3,4] [] rfl, ?_⟩
 refine A8 rfl (fun hc => ?_) (fun hc => ?_)
 ·try simp only [SG, List.length_map] at hc
  refine B7 ?_
  refine A8 rfl (fun hc => ?_) (fun hc => absurd hc (by simp_all))
  refine A3 <| A0 <| A4 rfl rfl rfl ?_
  refine A5 ⟨nofun, _, kS [2] [] rfl, ?_⟩
  refine B2 <| C6 rfl rfl trivial <| congrArg iV ?_
  simp_all [rch]
 try simp only [SG, List.length_map] at hc
 refine A3 <| A0 <| L5 rfl rfl <| A4 rfl rfl rfl ?_
 refine A5 ⟨nofun, _, kS [3,4] [] rfl, ?_⟩
 refine A8 rfl (fun hc => ?_) (fun hc => ?_)
 ·try simp only [SG, List.length_map] at hc
  refine B7 ?_
  refine A8 rfl (fun hc => ?_) (fun hc => absurd hc (by simp_all))
  refine A3 <| A0 <| A4 rfl rfl rfl ?_
  refine A5 ⟨nofun, _, kS [2] [] rfl, ?_⟩
  refine B2 <| C6 rfl rfl trivial <| congrArg iV ?_
  simp_all [rch]
 try simp only [SG, List.length_map] at hc
 refine A3 <| A0 <| L5 rfl rfl <| A4 rfl rfl rfl ?_
 refine A5 ⟨nofun, _, kS [3,4] [] rfl, ?_⟩
 refine A8 rfl (fun hc => ?_) (fun hc => ?_)
 ·try simp only [SG, List.length_map] at hc
  refine B7 ?_
  refine A8 rfl (fun hc => ?_) (fun hc => absurd hc (by simp_all))
  refine A3 <| A0 <| A4 rfl rfl rfl ?_
  refine A5 ⟨nofun, _, kS [2] [] rfl, ?_⟩
  refine B2 <| C6 rfl rfl trivial <| congrArg iV ?_
  simp_all [rch]
 try simp only [SG, List.length_map] at hc
 refine A3 <| A0 <| L5 rfl rfl <| A4 rfl rfl rfl ?_
 refine A5 ⟨nofun, _, kS [3,4] [] rfl, ?_⟩
 refine A8 rfl (fun hc => ?_) (fun hc => ?_)
 ·try simp only [SG, List.length_map] at hc
  refine B7 ?_
  refine A8 rfl (fun hc => ?_) (fun hc => absurd hc (by simp_all))
  refine A3 <| A0 <| A4 rfl rfl rfl ?_
  refine A5 ⟨nofun, _, kS [2] [] rfl, ?_⟩
  refine B2 <| C6 rfl rfl trivial <| congrArg iV ?_
  simp_all [rch]
 try simp only [SG, List.length_map] at hc
 refine A0 <| L5 rfl rfl <| A4 rfl rfl rfl ?_
 refine A5 ⟨nofun, _, kS [3,4] [] rfl, ?_⟩
 refine A8 rfl (fun hc => ?_) (fun hc => ?_)
 ·try simp only [SG, List.length_map] at hc
  refine A3 <| A0 <| A4 rfl rfl rfl ?_
  refine A5 ⟨nofun, _, kS [2] [] rfl, ?_⟩
  refine B2 <| C6 rfl rfl trivial <| congrArg iV ?_
  simp_all [rch]
 try simp only [SG, List.length_map] at hc
 refine A3 <| A3 <| A0 <| L5 rfl rfl <| A4 rfl rfl rfl ?_
 refine A5 ⟨nofun, _, kS [3,13] [] rfl, ?_⟩
 refine A8 rfl (fun hc => ?_) (fun hc => ?_)
 ·try simp only [SG, List.length_map] at hc
  refine B7 ?_
  refine A8 rfl (fun hc => ?_) (fun hc => absurd hc (by simp_all))
  refine A3 <| A0 <| A4 rfl rfl rfl ?_
  refine A5 ⟨nofun, _, kS [2] [] rfl, ?_⟩
  refine B2 <| C6 rfl rfl trivial <| congrArg iV ?_
  simp_all [rch]
 try simp only [SG, List.length_map] at hc
 refine A0 <| L5 rfl rfl <| A4 rfl rfl rfl ?_
 refine A5 ⟨nofun, _, kS [3,13] [] rfl, ?_⟩
 refine A8 rfl (fun hc => ?_) (fun hc => ?_)
 ·try simp only [SG, List.length_map] at hc
  refine A3 <| A0 <| A4 rfl rfl rfl ?_
  refine A5 ⟨nofun, _, kS [2] [] rfl, ?_⟩
  refine B2 <| C6 rfl rfl trivial <| congrArg iV ?_
  simp_all [rch]
 try simp only [SG, List.length_map] at hc
 refine A3 <| A3 <| A0 <| L5 rfl rfl <| A4 rfl rfl rfl ?_
 refine A5 ⟨nofun, _, kS [3,16] [] rfl, ?_⟩
 refine A8 rfl (fun hc => ?_) (fun hc => ?_)
 ·try simp only [SG, List.length_map] at hc
  refine B7 ?_
  refine A8 rfl (fun hc => ?_) (fun hc => absurd hc (by simp_all))
  refine A3 <| A0 <| A4 rfl rfl rfl ?_
  refine A5 ⟨nofun, _, kS [2] [] rfl, ?_⟩
  refine B2 <| C6 rfl rfl trivial <| congrArg iV ?_
  simp_all [rch]
 try simp only [SG, List.length_map] at hc
 refine A3 <| A0 <| L5 rfl rfl <| A4 rfl rfl rfl ?_
 refine A5 ⟨nofun, _, kS [3,16] [] rfl, ?_⟩
 refine A8 rfl (fun hc => ?_) (fun hc => ?_)
 ·try simp only [SG, List.length_map] at hc
  refine B7 ?_
  refine A8 rfl (fun hc => ?_) (fun hc => absurd hc (by simp_all))
  refine A3 <| A0 <| A4 rfl rfl rfl ?_
  refine A5 ⟨nofun, _, kS [2] [] rfl, ?_⟩
  refine B2 <| C6 rfl rfl trivial <| congrArg iV ?_
  simp_all [rch]
 try simp only [SG, List.length_map] at hc
 refine A3 <| A0 <| L5 rfl rfl <| A4 rfl rfl rfl ?_
 refine A5 ⟨nofun, _, kS [3,16] [] rfl, ?_⟩
 refine A8 rfl (fun hc => ?_) (fun hc => ?_)
 ·try simp only [SG, List.length_map] at hc
  refine B7 ?_
  refine A8 rfl (fun hc => ?_) (fun hc => absurd hc (by simp_all))
  refine A3 <| A0 <| A4 rfl rfl rfl ?_
  refine A5 ⟨nofun, _, kS [2] [] rfl, ?_⟩
  refine B2 <| C6 rfl rfl trivial <| congrArg iV ?_
  simp_all [rch]
 try simp only [SG, List.length_map] at hc
 refine A0 <| L5 rfl rfl <| A4 rfl rfl rfl ?_
 refine A5 ⟨nofun, _, kS [16] [] rfl, ?_⟩
 refine A8 rfl (fun hc => ?_) (fun hc => ?_)
 ·try simp only [SG, List.length_map] at hc
  refine A3 <| A0 <| A4 rfl rfl rfl ?_
  refine A5 ⟨nofun, _, kS [2] [] rfl, ?_⟩
  refine B2 <| C6 rfl rfl trivial <| congrArg iV ?_
  simp_all [rch]
 try simp only [SG, List.length_map] at hc
 refine B7 <| A3 <| A0 <| A4 rfl rfl rfl ?_
 refine A5 ⟨nofun, _, kS [2] [] rfl, ?_⟩
 refine B2 <| C6 rfl rfl trivial <| congrArg iV ?_
 simp_all [rch]

theorem keep_s_number : G0 Tryd.f55 = [0, 2, 4, 10] := by kernel_rfl
set_option maxHeartbeats 20000000 in
theorem a3c (n : Int) (hn : -1000000 ≤ n ∧ n ≤ 1000000) : CW cxT 55 [iV n] = some (tV (dec n), []) := by
 obtain ⟨kk, hkk⟩ : ∃ kk : Nat, 2 * n.natAbs + (if n < 0 then 1 else 0) < kk := ⟨_, Nat.lt_succ_self _⟩
 revert n
 induction kk with
 | zero => intro n hn hkk; exact absurd hkk (Nat.not_lt_zero _)
 | succ kk ih =>
  intro n hn hkk
  refine F6 rfl Tryd.func55 rfl ⟨by kernel_rfl, rfl, of_decide_eq_true rfl, of_decide_eq_true rfl, by decide⟩ keep_s_number <| A3 <| A0 <| A4 rfl rfl rfl ?_
  refine A5 ⟨nofun, _, kS [0] [] rfl, ?_⟩
  refine A3 <| A3 <| A0 <| A6 rfl rfl <| K9 rfl rfl ?_
  refine A5 ⟨nofun, _, kS [0,4] [] rfl, ?_⟩
  refine A8 rfl (fun hc => ?_) (fun hc => ?_)
  ·try simp only [SG, List.length_map] at hc
   refine A3 <| A0 <| A6 rfl rfl <| d0k rfl (H6 (by omega)) ?_
   have hdl := S0 (m := -n) (by omega)
   apply C9 rfl
   ·apply B4
    ·exact B5 rfl
    exact C8
   ·exact ih (-n) (by omega) (by split at hkk <;> split <;> omega)
   ·exact ⟨rfl, rfl, rfl, of_decide_eq_true rfl, rfl⟩
   ·exact .inl rfl
   ·exact B8
   ·exact D4 rfl
   ·exact fun _ => rfl
   intro g7
   refine Z0 rfl rfl (by simp only [H5, List.length_append, List.length_cons, List.length_nil]; omega) <| A4 rfl rfl rfl ?_
   refine A5 ⟨nofun, _, kS [2] [] rfl, ?_⟩
   refine B2 <| C6 rfl rfl trivial ?_
   exact congrArg tV (c8s (by assumption)).symm
  try simp only [SG, List.length_map] at hc
  refine B7 <| A3 <| A3 <| A0 <| A6 rfl rfl <| K9 rfl rfl ?_
  refine A5 ⟨nofun, _, kS [0,10] [] rfl, ?_⟩
  refine A8 rfl (fun hc => ?_) (fun hc => ?_)
  ·try simp only [SG, List.length_map] at hc
   refine A3 <| A0 <| A6 rfl rfl <| A6 rfl rfl <| L4 rfl rfl (H6 (by omega)) <| a3h rfl rfl (a2p rfl (by omega)) (a2p rfl (by omega)) (by (simp; omega)) <| A4 rfl rfl rfl ?_
   refine A5 ⟨nofun, _, kS [2] [] rfl, ?_⟩
   refine B2 <| C6 rfl rfl trivial ?_
   rw [c9a (by omega)]
  try simp only [SG, List.length_map] at hc
  refine B7 <| A3 <| A0 <| A6 rfl rfl ?_
  have hd10 : n.tdiv 10 = n / 10 := Int.tdiv_eq_ediv_of_nonneg (by omega)
  refine d0h rfl rfl ⟨by omega, H6 (by omega)⟩ ?_
  have hd10 : n.tdiv 10 = n / 10 := Int.tdiv_eq_ediv_of_nonneg (by omega)
  have hdl0 := S0 (m := n.tdiv 10) (by omega)
  apply C9 rfl
  ·apply B4
   ·exact B5 rfl
   exact C8
  ·exact ih (n.tdiv 10) (by omega) (by split at hkk <;> split <;> omega)
  ·exact ⟨rfl, rfl, rfl, of_decide_eq_true rfl, rfl⟩
  ·exact .inl rfl
  ·exact B8
  ·exact D4 rfl
  ·exact fun _ => rfl
  intro g17
  refine A6 rfl rfl <| d0d rfl rfl (by omega) ?_
  have hm10 : n.tmod 10 = n % 10 := Int.tmod_eq_emod_of_nonneg (by omega)
  have hdl1 := S0 (m := n.tmod 10) (by omega)
  apply C9 rfl
  ·apply B4
   ·exact B5 rfl
   exact C8
  ·exact ih (n.tmod 10) (by omega) (by split at hkk <;> split <;> omega)
  ·exact ⟨rfl, rfl, rfl, of_decide_eq_true rfl, rfl⟩
  ·exact .inl rfl
  ·exact B8
  ·exact D4 rfl
  ·exact fun _ => rfl
  intro g20
  refine Z0 rfl rfl (by simp only [H5, List.length_append, List.length_cons, List.length_nil]; omega) <| A4 rfl rfl rfl ?_
  refine A5 ⟨nofun, _, kS [2] [] rfl, ?_⟩
  refine B2 <| C6 rfl rfl trivial ?_
  rw [← d1r (by omega)]

theorem keep_s_listText : G0 Tryd.f43 = [0, 2, 4, 8, 12, 3] := by kernel_rfl
set_option maxHeartbeats 20000000 in
theorem c1a (ns : List Int) (hl : ns.length ≤ 1000000) (hnb : ∀ n ∈ ns, -1000000 ≤ n ∧ n ≤ 1000000) : CW cxT 43 [L ns] = some (tV (M7 ns), []) := by
 have hg := fun (i : Nat) (h : i < ns.length) => hnb _ (a2y h)
 refine F6 rfl Tryd.func43 rfl ⟨by kernel_rfl, rfl, of_decide_eq_true rfl, of_decide_eq_true rfl, by decide⟩ keep_s_listText <| A3 <| A0 <| A4 rfl rfl rfl ?_
 refine A5 ⟨nofun, _, kS [0] [] rfl, ?_⟩
 refine A3 <| A0 <| A4 rfl rfl rfl ?_
 refine A5 ⟨nofun, _, kS [0,3] [] rfl, ?_⟩
 refine A3 <| A3 <| A0 <| A4 rfl rfl rfl ?_
 refine A5 ⟨nofun, _, kS [0,3,4] [] rfl, ?_⟩
 refine D8 <| L0 (β := Nat) [(.t 0, _)] (fun (i : Nat) => [(.t 4, iV i), (.t 3, tV (M7 (ns.take i)))]) (fun (i : Nat) => i ≤ ns.length) (fun (i : Nat) => ns.length - i) 0 ⟨rfl, rfl, rfl, trivial⟩ (Nat.zero_le _) ?_
 intro i hb
 have hi1 := hb
 have hll := a0u (ns := ns.take i) (fun n hn => hnb n (List.mem_of_mem_take hn))
 rw [List.length_take] at hll
 refine A3 <| A3 <| A0 <| A6 rfl rfl <| A6 rfl rfl <| I8 rfl rfl <| K9 rfl rfl ?_
 refine A5 ⟨nofun, _, kS [0,3,4,8] [] rfl, ?_⟩
 refine A8 rfl (fun hc => ?_) (fun hc => ?_)
 ·try simp only [SG, List.length_map] at hc
  refine B7 <| A3 <| D8 <| A3 <| A3 <| A0 <| A6 rfl rfl <| W0 rfl rfl ?_
  refine A5 ⟨nofun, _, kS [0,3,4,12] [] rfl, ?_⟩
  refine A8 rfl (fun hc => ?_) (fun hc => ?_)
  ·try simp only [SG, List.length_map] at hc
   have hi0 : 0 < i := by omega
   refine A0 <| A6 rfl rfl <| Z0 rfl rfl (by simp only [H5, List.length_append, List.length_cons, List.length_nil]; omega) <| A4 rfl rfl rfl ?_
   refine A5 ⟨nofun, _, kS [0,3,4] [] rfl, ?_⟩
   refine A0 <| A6 rfl rfl <| A6 rfl rfl <| A6 rfl rfl <| G6 rfl rfl rfl (fun _ => rfl) (by omega) <| H3 rfl rfl rfl ?_
   have hgi := hg i (by omega)
   have hdl := S0 hgi
   apply C9 rfl
   ·apply B4
    ·exact B5 rfl
    exact C8
   ·exact a3c (ns.getD i default) hgi
   ·exact ⟨rfl, rfl, rfl, of_decide_eq_true rfl, rfl⟩
   ·exact .inl rfl
   ·exact B8
   ·exact D4 rfl
   ·exact fun _ => rfl
   intro g20
   refine Z0 rfl rfl (by simp only [H5, List.length_append, List.length_cons, List.length_nil]; omega) <| A4 rfl rfl rfl ?_
   refine A5 ⟨nofun, _, kS [0,3,4] [] rfl, ?_⟩
   refine A0 <| A6 rfl rfl <| L4 rfl rfl (H6 (by omega)) <| A4 rfl rfl rfl ?_
   refine A5 ⟨nofun, _, kS [0,3,4] [] rfl, ?_⟩
   rw [← b6m (by omega) hi0]
   refine ⟨i + 1, ?_, (by omega), ⟨rfl, rfl, rfl, trivial⟩⟩
   omega
  try simp only [SG, List.length_map] at hc
  have hi0 : i = 0 := by omega
  refine B7 <| A0 <| A6 rfl rfl <| A6 rfl rfl <| A6 rfl rfl <| G6 rfl rfl rfl (fun _ => rfl) (by omega) <| H3 rfl rfl rfl ?_
  have hgi := hg i (by omega)
  have hdl := S0 hgi
  apply C9 rfl
  ·apply B4
   ·exact B5 rfl
   exact C8
  ·exact a3c (ns.getD i default) hgi
  ·exact ⟨rfl, rfl, rfl, of_decide_eq_true rfl, rfl⟩
  ·exact .inl rfl
  ·exact B8
  ·exact D4 rfl
  ·exact fun _ => rfl
  intro g20
  refine Z0 rfl rfl (by simp only [H5, List.length_append, List.length_cons, List.length_nil]; omega) <| A4 rfl rfl rfl ?_
  refine A5 ⟨nofun, _, kS [0,3,4] [] rfl, ?_⟩
  refine A0 <| A6 rfl rfl <| L4 rfl rfl (H6 (by omega)) <| A4 rfl rfl rfl ?_
  refine A5 ⟨nofun, _, kS [0,3,4] [] rfl, ?_⟩
  rw [← b8g (by omega) hi0]
  refine ⟨i + 1, ?_, (by omega), ⟨rfl, rfl, rfl, trivial⟩⟩
  omega
 try simp only [SG, List.length_map] at hc
 refine I4 <| A3 <| A0 <| A6 rfl rfl <| A4 rfl rfl rfl ?_
 refine A5 ⟨nofun, _, kS [2] [] rfl, ?_⟩
 refine B2 <| C6 rfl rfl trivial ?_
 rw [List.take_of_length_le (by omega)]

theorem keep_s_splitAt : G0 Tryd.f38 = [0, 1, 4, 7, 12, 19, 6, 5] := by kernel_rfl
set_option maxHeartbeats 20000000 in
theorem b3m (s : List UInt8) (hs : s.length ≤ 1048576) (c : UInt8) : CW cxT 38 [tV s, uV c.toNat] = some (.own 1 ((splitB c s).map tV), []) := by
 refine F6 rfl Tryd.func38 rfl ⟨by kernel_rfl, rfl, of_decide_eq_true rfl, of_decide_eq_true rfl, by decide⟩ keep_s_splitAt <| A3 <| A0 ?_
 (refine B3 rfl rfl (fun _ => rfl) ?_; intro g4)
 refine A5 ⟨nofun, _, kS [0,1] [] rfl, ?_⟩
 refine A3 <| A0 <| E8 (es := List.map tV []) rfl rfl (by decide) rfl rfl (fun _ => B1 (A9 fun _ => rfl)) (fun _ => rfl) ?_
 intro g8
 (refine B6 rfl rfl (by (simp; done)) rfl (fun _ => (B1 (by exact A9 fun _ => rfl))) (fun _ => rfl) ?_; intro g5)
 refine A5 ⟨nofun, _, kS [0,1,5] [5] rfl, ?_⟩
 refine A3 <| A0 <| A4 rfl rfl rfl ?_
 refine A5 ⟨nofun, _, kS [0,1,5,6] [5] rfl, ?_⟩
 refine A3 <| A3 <| A0 <| A4 rfl rfl rfl ?_
 refine A5 ⟨nofun, _, kS [0,1,5,6,7] [5] rfl, ?_⟩
 refine D8 <| L0 (β := Nat × Nat × List (List UInt8) × Nat) [(.t 0, _), (.t 1, _)] (fun (z : Nat × Nat × List (List UInt8) × Nat) => match z with | (i, fr, out, g) => [(.t 7, iV i), (.t 6, iV fr), (.t 5, .sl 5 g none 0 out.length), (.h 5, .obj g 0 1 (out.map tV))]) (fun (z : Nat × Nat × List (List UInt8) × Nat) => match z with | (i, fr, out, g) => i ≤ s.length ∧ fr ≤ i ∧ out.length ≤ i ∧ splitB c s = out ++ S3 ((s.drop fr).take (i - fr)) (splitB c (s.drop i))) (fun (z : Nat × Nat × List (List UInt8) × Nat) => match z with | (i, fr, out, g) => s.length - i) (0, 0, [], _) ⟨rfl, rfl, rfl, rfl, rfl, rfl, trivial⟩ ⟨Nat.zero_le _, Nat.le_refl _, Nat.le_refl _, by simp [b3q]⟩ ?_
 intro z hb
 obtain ⟨i, fr, out, g⟩ := z
 try dsimp only at hb
 obtain ⟨hi1, hfr, hol, hsp⟩ := hb
 refine A3 <| A3 <| A0 <| A6 rfl rfl <| A6 rfl rfl <| a3b rfl rfl <| K9 rfl rfl ?_
 refine A5 ⟨nofun, _, kS [0,1,5,6,7,12] [5] rfl, ?_⟩
 refine A8 rfl (fun hc => ?_) (fun hc => ?_)
 ·try simp only [SG, List.length_map] at hc
  refine B7 <| A3 <| D8 <| A3 <| A0 <| A6 rfl rfl <| A6 rfl rfl <| M8 rfl rfl rfl (by omega) <| A6 rfl rfl <| b0g rfl rfl ?_
  refine A5 ⟨nofun, _, kS [0,1,5,6,7,19] [5] rfl, ?_⟩
  refine A8 rfl (fun hc => ?_) (fun hc => ?_)
  ·try simp only [SG, List.length_map] at hc
   have hcb : s.getD i 0 = c := UInt8.toNat_inj.1 (by omega)
   refine A3 <| A0 <| A6 rfl rfl <| A6 rfl rfl <| A6 rfl rfl <| A6 rfl rfl <| a3h rfl rfl (H4 rfl) (H4 rfl) (by omega) <| E8 (es := List.map tV [_]) rfl rfl (by decide) rfl rfl (fun _ => B1 (A9 fun _ => rfl)) (fun _ => rfl) ?_
   intro g25
   refine G9 rfl rfl rfl rfl (by (simp; done)) (by simp) (by decide) rfl rfl rfl rfl (by decide) (fun _ => ⟨rfl, rfl⟩) (by simp only [H5]; (simp only [List.length_nil, List.length_cons, List.length_append, Nat.zero_add, List.length_map]; omega)) (fun _ => rfl) ?_
   intro g26
   (refine B6 rfl rfl (by (simp; done)) rfl (fun _ => (B1 (by exact A9 fun _ => rfl))) (fun _ => rfl) ?_; intro g5)
   refine A5 ⟨nofun, _, kS [0,1,5,7] [5] rfl, ?_⟩
   refine A0 <| A6 rfl rfl <| L4 rfl rfl (H6 (by omega)) <| A4 rfl rfl rfl ?_
   refine A5 ⟨nofun, _, kS [0,1,5,6,7] [5] rfl, ?_⟩
   refine A0 <| A6 rfl rfl <| L4 rfl rfl (H6 (by omega)) <| A4 rfl rfl rfl ?_
   refine A5 ⟨nofun, _, kS [0,1,5,6,7] [5] rfl, ?_⟩
   refine ⟨(i + 1, i + 1, out ++ [(s.drop fr).take (i - fr)], _), ?_, (by simp only; omega), ⟨rfl, rfl, rfl, rfl, rfl, rfl, trivial⟩⟩
   have hst := b0o (by omega) hfr hsp
   exact ⟨by omega, by omega, by simp; omega, hst.1 hcb⟩
  try simp only [SG, List.length_map] at hc
  have hcb : s.getD i 0 ≠ c := fun e => hc (by rw [e])
  refine B7 <| A0 <| A6 rfl rfl <| L4 rfl rfl (H6 (by omega)) <| A4 rfl rfl rfl ?_
  refine A5 ⟨nofun, _, kS [0,1,5,6,7] [5] rfl, ?_⟩
  refine ⟨(i + 1, fr, out, _), ?_, (by simp only; omega), ⟨rfl, rfl, rfl, rfl, rfl, rfl, trivial⟩⟩
  have hst := b0o (by omega) hfr hsp
  exact ⟨by omega, by omega, by omega, hst.2 hcb⟩
 try simp only [SG, List.length_map] at hc
 refine I4 <| A3 <| A0 <| A6 rfl rfl <| A6 rfl rfl <| A6 rfl rfl <| a3h rfl rfl K4 (H4 rfl) (by omega) <| E8 (es := List.map tV [_]) rfl rfl (by decide) rfl rfl (fun _ => B1 (A9 fun _ => rfl)) (fun _ => rfl) ?_
 intro g33
 refine G9 rfl rfl rfl rfl (by (simp; done)) (by simp) (by decide) rfl rfl rfl rfl (by decide) (fun _ => ⟨rfl, rfl⟩) (by simp only [H5]; (simp only [List.length_nil, List.length_cons, List.length_append, Nat.zero_add, List.length_map]; omega)) (fun _ => rfl) ?_
 intro g34
 (refine B6 rfl rfl (by (simp; done)) rfl (fun _ => (B1 (by exact A9 fun _ => rfl))) (fun _ => rfl) ?_; intro g4)
 refine A5 ⟨nofun, _, kS [4] [4] rfl, ?_⟩
 refine B2 <| P4 rfl rfl (by simp) (by exact A9 fun _ => rfl) trivial ?_
 have hil : i = s.length := by omega
 rw [hsp, hil, List.drop_length, splitB, S3, List.append_nil]

theorem keep_s_readList : G0 Tryd.f61 = [0, 2, 3, 5, 6, 17, 7, 8, 31, 10, 37, 9, 53, 62, 75, 4] := by kernel_rfl
set_option maxHeartbeats 20000000 in
theorem b9w (s : List UInt8) (hs : s.length ≤ 1048576) : CW cxT 61 [tV s] = some (.tup [.own 1 (((rdL s).getD []).map iV), bV (rdL s).isSome], []) := by
 obtain ⟨ps, hps⟩ : ∃ ps, ps = splitB 44 s := ⟨_, rfl⟩
 have hpl := R6 44 s
 rw [← hps] at hpl
 have hpp := W7 44 s
 rw [← hps] at hpp
 refine F6 rfl Tryd.func61 rfl ⟨by kernel_rfl, rfl, of_decide_eq_true rfl, of_decide_eq_true rfl, by decide⟩ keep_s_readList <| A3 <| A0 ?_
 (refine B3 rfl rfl (fun _ => rfl) ?_; intro g2)
 refine A4 rfl rfl rfl ?_
 refine A5 ⟨nofun, _, kS [0] [] rfl, ?_⟩
 refine A3 <| A0 <| E8 (es := List.map iV []) rfl rfl (by decide) rfl rfl (fun _ => B1 (A9 fun _ => rfl)) (fun _ => rfl) ?_
 intro g11
 (refine B6 rfl rfl (by (simp; done)) rfl (fun _ => (B1 (by exact A9 fun _ => rfl))) (fun _ => rfl) ?_; intro g4)
 refine A5 ⟨nofun, _, kS [0,4] [4] rfl, ?_⟩
 refine A3 <| A0 <| A6 rfl rfl ?_
 apply C9 rfl
 ·apply B4
  ·exact B5 rfl
  apply B4
  ·exact B5 rfl
  exact C8
 ·exact b3m s hs 44
 ·exact ⟨rfl, rfl, rfl, of_decide_eq_true rfl, rfl⟩
 ·exact .inl rfl
 ·exact B8
 ·exact O2
 ·exact fun _ => rfl
 intro g13
 rw [← hps]
 try simp only [List.length_map]
 (refine B6 rfl rfl (by (simp; done)) rfl (fun _ => (B1 (by exact A9 fun _ => rfl))) (fun _ => rfl) ?_; intro g5)
 refine A5 ⟨nofun, _, kS [4,5] [4,5] rfl, ?_⟩
 refine A3 <| A3 <| A0 <| A4 rfl rfl rfl ?_
 refine A5 ⟨nofun, _, kS [4,5,6] [4,5] rfl, ?_⟩
 refine D8 <| L0 (β := Nat × List Int × Nat) [(.t 5, _), (.h 5, _)] (fun (z : Nat × List Int × Nat) => match z with | (i, ns, g) => [(.t 6, iV i), (.t 4, .sl 4 g none 0 ns.length), (.h 4, .obj g 0 1 (ns.map iV))]) (fun (z : Nat × List Int × Nat) => match z with | (i, ns, g) => i ≤ ps.length ∧ Y5 (ps.take i) = some ns) (fun (z : Nat × List Int × Nat) => match z with | (i, ns, g) => ps.length - i) (0, [], _) ⟨rfl, rfl, rfl, rfl, rfl, trivial⟩ ⟨Nat.zero_le _, rfl⟩ ?_
 intro z hb
 obtain ⟨i, ns, g⟩ := z
 try dsimp only at hb
 obtain ⟨hi1, hrd⟩ := hb
 have hnl := a7g hrd
 rw [List.length_take] at hnl
 have hpi := fun h : i < ps.length => hpp _ (a0r h)
 refine A3 <| A3 <| A0 <| A6 rfl rfl <| A6 rfl rfl <| Y9 rfl rfl <| K9 rfl rfl ?_
 refine A5 ⟨nofun, _, kS [4,5,6,17] [4,5] rfl, ?_⟩
 refine A8 rfl (fun hc => ?_) (fun hc => ?_)
 ·try simp only [SG, List.length_map] at hc
  refine B7 <| A3 <| D8 <| A3 <| A0 <| A6 rfl rfl <| A6 rfl rfl <| S5 rfl rfl rfl rfl (by omega) (by (simp; done)) rfl <| W6 rfl rfl (by omega) (fun _ => rfl) (fun _ => rfl) rfl <| A4 rfl rfl rfl ?_
  refine A5 ⟨nofun, _, kS [4,5,6,7] [4,5] rfl, ?_⟩
  refine A3 <| A0 <| A6 rfl rfl <| a8j rfl rfl <| A6 rfl rfl ?_
  refine E4 rfl rfl (fun hg0 => ?_) (fun hg0 => ?_)
  ·have hg := hg0; try simp only [SG] at hg
   refine A6 rfl rfl <| gT rfl rfl ?_
   have hp0 : 0 < (ps.getD i default).length := List.length_pos_iff.2 (by assumption)
   refine M8 (n := 0) rfl rfl rfl hp0 <| gT rfl rfl <| b0g rfl rfl <| G1 rfl (by assumption) rfl rfl <| A4 rfl rfl rfl ?_
   refine A5 ⟨nofun, _, kS [4,5,6,7,8] [4,5] rfl, ?_⟩
   refine A3 <| A3 <| A0 <| A6 rfl rfl ?_
   refine A5 ⟨nofun, _, kS [4,5,6,7,8,31] [4,5] rfl, ?_⟩
   refine A8 rfl (fun hc => ?_) (fun hc => ?_)
   ·try simp only [SG, List.length_map] at hc
    obtain ⟨hng, hup⟩ := d2h (p := (ps.getD i default)) (by assumption) (by omega)
    have hul := b5e (ps.getD i default)
    rw [hup] at hul
    refine A0 <| A6 rfl rfl <| a3h rfl rfl K4 (H4 (n := 1) rfl) (by omega) <| A4 rfl rfl rfl ?_
    refine A5 ⟨nofun, _, kS [4,5,6,7,8] [4,5] rfl, ?_⟩
    refine A3 <| A0 <| A4 rfl rfl rfl ?_
    refine A5 ⟨nofun, _, kS [4,5,6,7,8,9] [4,5] rfl, ?_⟩
    refine A3 <| A3 <| A0 <| A4 rfl rfl rfl ?_
    refine A5 ⟨nofun, _, kS [4,5,6,7,8,9,10] [4,5] rfl, ?_⟩
    refine D8 ?_
    have hup0 := hup
    refine L0 (β := Nat × Int) [(.t 4, _), (.t 5, _), (.t 6, _), (.t 7, _), (.t 8, _), (.h 4, _), (.h 5, _)] (fun (z : Nat × Int) => match z with | (k, a) => [(.t 10, iV k), (.t 9, iV a)]) (fun (z : Nat × Int) => match z with | (k, a) => k ≤ (unS (ps.getD i default)).length ∧ 0 ≤ a ∧ S8 0 ((unS (ps.getD i default)).take k) = some a.toNat) (fun (z : Nat × Int) => match z with | (k, a) => (unS (ps.getD i default)).length - k) (0, 0) ⟨rfl, rfl, rfl, rfl, rfl, rfl, rfl, rfl, rfl, trivial⟩ ⟨Nat.zero_le _, by decide, rfl⟩ ?_
    intro z hb
    obtain ⟨k, a⟩ := z
    try dsimp only at hb
    obtain ⟨hk1, ha0, hdg⟩ := hb
    have hab := a9l (by decide) hdg
    rw [hup] at hk1 hdg
    refine A3 <| A3 <| A0 <| A6 rfl rfl <| A6 rfl rfl <| a3b rfl rfl <| K9 rfl rfl ?_
    refine A5 ⟨nofun, _, kS [4,5,6,7,8,9,10,37] [4,5] rfl, ?_⟩
    refine A8 rfl (fun hc => ?_) (fun hc => ?_)
    ·try simp only [SG, List.length_map] at hc
     refine B7 <| A3 <| D8 <| A3 <| A3 <| A0 <| A6 rfl rfl <| A6 rfl rfl <| M8 rfl rfl rfl (by omega) <| K9 rfl rfl <| A6 rfl rfl ?_
     refine E4 rfl rfl (fun hg0 => ?_) (fun hg0 => ?_)
     ·have hg := hg0; try simp only [SG] at hg
      refine A6 rfl rfl <| gT rfl rfl <| A6 rfl rfl <| gT rfl rfl <| M8 rfl rfl rfl (by omega) <| gT rfl rfl <| W0 rfl rfl <| G7 rfl (by assumption) rfl rfl <| A6 rfl rfl ?_
      refine E4 rfl rfl (fun hg0 => ?_) (fun hg0 => ?_)
      ·have hg := hg0; try simp only [SG] at hg
       refine A6 rfl rfl <| gT rfl rfl <| W0 rfl rfl <| G7 rfl (by assumption) rfl rfl ?_
       refine A5 ⟨nofun, _, kS [4,5,6,7,8,9,10,53] [4,5] rfl, ?_⟩
       refine A8 rfl (fun hc => ?_) (fun hc => ?_)
       ·try simp only [SG, List.length_map] at hc
        refine A3 <| A0 ?_
        (refine B3 rfl rfl (fun _ => rfl) ?_; intro g2)
        refine A4 rfl rfl rfl ?_
        refine A5 ⟨nofun, _, kS [2,3] [2] rfl, ?_⟩
        refine B2 <| D5 (G2 rfl rfl (by simp) (by rfl) (D7 rfl rfl (E7 C4))) ?_
        rw [rdL, ← hps, J3 (show i < ps.length by omega) (T2 (by rw [hup]; exact Q2 (by omega) hdg (by omega)))]
        rfl
       try simp only [SG, List.length_map] at hc
       refine B7 <| A0 <| A6 rfl rfl <| c6k rfl rfl (H6 (by omega)) <| A6 rfl rfl <| A6 rfl rfl <| M8 rfl rfl rfl (by omega) <| a8i rfl rfl (d1m (by omega)) <| b4p rfl rfl rfl (H6 (by omega)) <| L4 rfl rfl (H6 (by omega)) <| A4 rfl rfl rfl ?_
       refine A5 ⟨nofun, _, kS [4,5,6,7,8,9,10] [4,5] rfl, ?_⟩
       refine A0 <| A6 rfl rfl <| L4 rfl rfl (H6 (by omega)) <| A4 rfl rfl rfl ?_
       refine A5 ⟨nofun, _, kS [4,5,6,7,8,9,10] [4,5] rfl, ?_⟩
       refine ⟨(k + 1, _), ?_, (by simp only [hup]; omega), ⟨rfl, rfl, rfl, rfl, rfl, rfl, rfl, rfl, rfl, trivial⟩⟩
       rw [hup]
       have hds := a6g (by omega) hdg (by omega)
       exact ⟨by omega, by omega, hds.trans (congrArg some (by omega))⟩
      have hg := hg0; try simp only [SG] at hg
      refine gF rfl rfl <| G1 rfl (by assumption) rfl rfl ?_
      refine A5 ⟨nofun, _, kS [4,5,6,7,8,9,10,53] [4,5] rfl, ?_⟩
      refine A8 rfl (fun hc => ?_) (fun hc => absurd hc (by decide))
      refine A3 <| A0 ?_
      (refine B3 rfl rfl (fun _ => rfl) ?_; intro g2)
      refine A4 rfl rfl rfl ?_
      refine A5 ⟨nofun, _, kS [2,3] [2] rfl, ?_⟩
      refine B2 <| D5 (G2 rfl rfl (by simp) (by rfl) (D7 rfl rfl (E7 C4))) ?_
      rw [rdL, ← hps, J3 (show i < ps.length by omega) (T2 (by rw [hup]; exact Q2 (by omega) hdg (by omega)))]
      rfl
     have hg := hg0; try simp only [SG] at hg
     refine gF rfl rfl <| gF rfl rfl <| gF rfl rfl <| G1 rfl (by assumption) rfl rfl <| A6 rfl rfl <| G8 rfl rfl rfl <| G8 rfl rfl rfl <| G1 rfl rfl rfl rfl ?_
     refine A5 ⟨nofun, _, kS [4,5,6,7,8,9,10,53] [4,5] rfl, ?_⟩
     refine A8 rfl (fun hc => ?_) (fun hc => absurd hc (by decide))
     refine A3 <| A0 ?_
     (refine B3 rfl rfl (fun _ => rfl) ?_; intro g2)
     refine A4 rfl rfl rfl ?_
     refine A5 ⟨nofun, _, kS [2,3] [2] rfl, ?_⟩
     refine B2 <| D5 (G2 rfl rfl (by simp) (by rfl) (D7 rfl rfl (E7 C4))) ?_
     rw [rdL, ← hps, J3 (show i < ps.length by omega) (T2 (by rw [hup]; exact Q2 (by omega) hdg (by omega)))]
     rfl
    try simp only [SG, List.length_map] at hc
    have hdU : S8 0 (unS (ps.getD i default)) = some a.toNat := by rw [hup]; rw [List.take_of_length_le (by omega)] at hdg; exact hdg
    refine I4 <| A3 <| A3 <| A0 <| A6 rfl rfl ?_
    refine A5 ⟨nofun, _, kS [4,5,6,7,9,62] [4,5] rfl, ?_⟩
    refine A8 rfl (fun hc => ?_) (fun hc => absurd hc (by simp_all))
    refine A0 <| A6 rfl rfl <| d0k rfl (H6 (by omega)) <| A4 rfl rfl rfl ?_
    refine A5 ⟨nofun, _, kS [4,5,6,7,9] [4,5] rfl, ?_⟩
    refine A3 <| A3 <| A0 <| A6 rfl rfl <| a8e rfl rfl <| A6 rfl rfl ?_
    refine E4 rfl rfl (fun hg0 => ?_) (fun hg0 => ?_)
    ·have hg := hg0; try simp only [SG] at hg
     refine A6 rfl rfl <| gT rfl rfl ?_
     have hdl1 := S0 (m := -a) (by omega)
     have hdl2 := S0 (m := a) (by omega)
     apply C9 rfl
     ·apply B4
      ·exact B5 rfl
      exact C8
     ·exact a3c (-a) (by omega)
     ·exact ⟨rfl, rfl, rfl, of_decide_eq_true rfl, rfl⟩
     ·exact .inl rfl
     ·exact B8
     ·exact D4 rfl
     ·exact fun _ => rfl
     intro g69
     refine gT rfl rfl <| A6 rfl rfl <| gT rfl rfl <| A6 rfl rfl <| gT rfl rfl <| S5 rfl rfl rfl rfl (by omega) (by (simp; done)) rfl <| gT rfl rfl <| W6 rfl rfl (by omega) (fun _ => rfl) (fun _ => rfl) rfl <| gT rfl rfl <| a8j rfl rfl <| G7 rfl (by assumption) rfl rfl ?_
     refine A5 ⟨fun _ => ⟨by (simp only [a2d, List.nil_append, List.append_nil, List.map_cons, List.map_nil, List.cons_append]; decide +kernel), by decide +kernel⟩, [(.t 4, _), (.t 5, _), (.t 6, _), (.t 9, _), (.t 75, _), (.h 4, _), (.h 5, _)], ⟨rfl, rfl, rfl, rfl, rfl, rfl, rfl, rfl, rfl, rfl, rfl, rfl, rfl, rfl, trivial⟩, ?_⟩
     refine A8 rfl (fun hc => ?_) (fun hc => ?_)
     ·try simp only [SG, List.length_map] at hc
      refine A3 <| A0 ?_
      (refine B3 rfl rfl (fun _ => rfl) ?_; intro g2)
      refine A4 rfl rfl rfl ?_
      refine A5 ⟨nofun, _, kS [2,3] [2] rfl, ?_⟩
      refine B2 <| D5 (G2 rfl rfl (by simp) (by rfl) (D7 rfl rfl (E7 C4))) ?_
      have hno : rdI (ps.getD i default) = none := by exact a6x (m := -a) hdU (by (rw [hng, if_pos rfl]; omega)) (by exact .inr (by assumption))
      rw [rdL, ← hps, J3 (show i < ps.length by omega) hno]
      rfl
     try simp only [SG, List.length_map] at hc
     have hri := c1i (m := -a) hdU (by (rw [hng, if_pos rfl]; omega)) (by rw [hup]; assumption) (by assumption)
     refine B7 <| A0 <| A6 rfl rfl <| A6 rfl rfl <| E8 (es := List.map iV [_]) rfl rfl (by decide) rfl rfl (fun _ => B1 (A9 fun _ => rfl)) (fun _ => rfl) ?_
     intro g78
     refine G9 rfl rfl rfl rfl (by (simp; done)) (by simp) (by decide) rfl rfl rfl rfl (by decide) (fun _ => ⟨rfl, rfl⟩) (by simp only [H5]; (simp only [List.length_nil, List.length_cons, List.length_append, Nat.zero_add, List.length_map]; omega)) (fun _ => rfl) ?_
     intro g79
     (refine B6 rfl rfl (by (simp; done)) rfl (fun _ => (B1 (by exact A9 fun _ => rfl))) (fun _ => rfl) ?_; intro g4)
     refine A5 ⟨nofun, _, kS [4,5,6] [4,5] rfl, ?_⟩
     refine A0 <| A6 rfl rfl <| L4 rfl rfl (H6 (by omega)) <| A4 rfl rfl rfl ?_
     refine A5 ⟨nofun, _, kS [4,5,6] [4,5] rfl, ?_⟩
     refine ⟨(i + 1, ns ++ [-a], _), ?_, (by simp only; omega), ⟨rfl, rfl, rfl, rfl, rfl, trivial⟩⟩
     exact ⟨by omega, a7c (by omega) hrd hri⟩
    have hg := hg0; try simp only [SG] at hg
    refine gF rfl rfl <| gF rfl rfl <| gF rfl rfl <| gF rfl rfl <| gF rfl rfl <| gF rfl rfl <| G1 rfl (by assumption) rfl rfl ?_
    refine A5 ⟨fun _ => ⟨by decide +kernel, by decide +kernel⟩, [(.t 4, _), (.t 5, _), (.t 6, _), (.t 9, _), (.t 75, _), (.h 4, _), (.h 5, _)], ⟨rfl, rfl, rfl, rfl, rfl, rfl, rfl, rfl, rfl, rfl, rfl, rfl, rfl, rfl, trivial⟩, ?_⟩
    refine A8 rfl (fun hc => ?_) (fun hc => absurd hc (by decide))
    refine A3 <| A0 ?_
    (refine B3 rfl rfl (fun _ => rfl) ?_; intro g2)
    refine A4 rfl rfl rfl ?_
    refine A5 ⟨nofun, _, kS [2,3] [2] rfl, ?_⟩
    refine B2 <| D5 (G2 rfl rfl (by simp) (by rfl) (D7 rfl rfl (E7 C4))) ?_
    have hno : rdI (ps.getD i default) = none := by exact a6x (m := -a) hdU (by (rw [hng, if_pos rfl]; omega)) (by exact .inl (by rw [hup]; assumption))
    rw [rdL, ← hps, J3 (show i < ps.length by omega) hno]
    rfl
   try simp only [SG, List.length_map] at hc
   obtain ⟨hng, hup⟩ := d0b (p := (ps.getD i default)) (by exact .inr (by omega))
   have hul := b5e (ps.getD i default)
   rw [hup] at hul
   refine B7 <| A3 <| A0 <| A4 rfl rfl rfl ?_
   refine A5 ⟨nofun, _, kS [4,5,6,7,8,9] [4,5] rfl, ?_⟩
   refine A3 <| A3 <| A0 <| A4 rfl rfl rfl ?_
   refine A5 ⟨nofun, _, kS [4,5,6,7,8,9,10] [4,5] rfl, ?_⟩
   refine D8 ?_
   have hup0 := hup
   refine L0 (β := Nat × Int) [(.t 4, _), (.t 5, _), (.t 6, _), (.t 7, _), (.t 8, _), (.h 4, _), (.h 5, _)] (fun (z : Nat × Int) => match z with | (k, a) => [(.t 10, iV k), (.t 9, iV a)]) (fun (z : Nat × Int) => match z with | (k, a) => k ≤ (unS (ps.getD i default)).length ∧ 0 ≤ a ∧ S8 0 ((unS (ps.getD i default)).take k) = some a.toNat) (fun (z : Nat × Int) => match z with | (k, a) => (unS (ps.getD i default)).length - k) (0, 0) ⟨rfl, rfl, rfl, rfl, rfl, rfl, rfl, rfl, rfl, trivial⟩ ⟨Nat.zero_le _, by decide, rfl⟩ ?_
   intro z hb
   obtain ⟨k, a⟩ := z
   try dsimp only at hb
   obtain ⟨hk1, ha0, hdg⟩ := hb
   have hab := a9l (by decide) hdg
   rw [hup] at hk1 hdg
   refine A3 <| A3 <| A0 <| A6 rfl rfl <| A6 rfl rfl <| a3b rfl rfl <| K9 rfl rfl ?_
   refine A5 ⟨nofun, _, kS [4,5,6,7,8,9,10,37] [4,5] rfl, ?_⟩
   refine A8 rfl (fun hc => ?_) (fun hc => ?_)
   ·try simp only [SG, List.length_map] at hc
    refine B7 <| A3 <| D8 <| A3 <| A3 <| A0 <| A6 rfl rfl <| A6 rfl rfl <| M8 rfl rfl rfl (by omega) <| K9 rfl rfl <| A6 rfl rfl ?_
    refine E4 rfl rfl (fun hg0 => ?_) (fun hg0 => ?_)
    ·have hg := hg0; try simp only [SG] at hg
     refine A6 rfl rfl <| gT rfl rfl <| A6 rfl rfl <| gT rfl rfl <| M8 rfl rfl rfl (by omega) <| gT rfl rfl <| W0 rfl rfl <| G7 rfl (by assumption) rfl rfl <| A6 rfl rfl ?_
     refine E4 rfl rfl (fun hg0 => ?_) (fun hg0 => ?_)
     ·have hg := hg0; try simp only [SG] at hg
      refine A6 rfl rfl <| gT rfl rfl <| W0 rfl rfl <| G7 rfl (by assumption) rfl rfl ?_
      refine A5 ⟨nofun, _, kS [4,5,6,7,8,9,10,53] [4,5] rfl, ?_⟩
      refine A8 rfl (fun hc => ?_) (fun hc => ?_)
      ·try simp only [SG, List.length_map] at hc
       refine A3 <| A0 ?_
       (refine B3 rfl rfl (fun _ => rfl) ?_; intro g2)
       refine A4 rfl rfl rfl ?_
       refine A5 ⟨nofun, _, kS [2,3] [2] rfl, ?_⟩
       refine B2 <| D5 (G2 rfl rfl (by simp) (by rfl) (D7 rfl rfl (E7 C4))) ?_
       rw [rdL, ← hps, J3 (show i < ps.length by omega) (T2 (by rw [hup]; exact Q2 (by omega) hdg (by omega)))]
       rfl
      try simp only [SG, List.length_map] at hc
      refine B7 <| A0 <| A6 rfl rfl <| c6k rfl rfl (H6 (by omega)) <| A6 rfl rfl <| A6 rfl rfl <| M8 rfl rfl rfl (by omega) <| a8i rfl rfl (d1m (by omega)) <| b4p rfl rfl rfl (H6 (by omega)) <| L4 rfl rfl (H6 (by omega)) <| A4 rfl rfl rfl ?_
      refine A5 ⟨nofun, _, kS [4,5,6,7,8,9,10] [4,5] rfl, ?_⟩
      refine A0 <| A6 rfl rfl <| L4 rfl rfl (H6 (by omega)) <| A4 rfl rfl rfl ?_
      refine A5 ⟨nofun, _, kS [4,5,6,7,8,9,10] [4,5] rfl, ?_⟩
      refine ⟨(k + 1, _), ?_, (by simp only [hup]; omega), ⟨rfl, rfl, rfl, rfl, rfl, rfl, rfl, rfl, rfl, trivial⟩⟩
      rw [hup]
      have hds := a6g (by omega) hdg (by omega)
      exact ⟨by omega, by omega, hds.trans (congrArg some (by omega))⟩
     have hg := hg0; try simp only [SG] at hg
     refine gF rfl rfl <| G1 rfl (by assumption) rfl rfl ?_
     refine A5 ⟨nofun, _, kS [4,5,6,7,8,9,10,53] [4,5] rfl, ?_⟩
     refine A8 rfl (fun hc => ?_) (fun hc => absurd hc (by decide))
     refine A3 <| A0 ?_
     (refine B3 rfl rfl (fun _ => rfl) ?_; intro g2)
     refine A4 rfl rfl rfl ?_
     refine A5 ⟨nofun, _, kS [2,3] [2] rfl, ?_⟩
     refine B2 <| D5 (G2 rfl rfl (by simp) (by rfl) (D7 rfl rfl (E7 C4))) ?_
     rw [rdL, ← hps, J3 (show i < ps.length by omega) (T2 (by rw [hup]; exact Q2 (by omega) hdg (by omega)))]
     rfl
    have hg := hg0; try simp only [SG] at hg
    refine gF rfl rfl <| gF rfl rfl <| gF rfl rfl <| G1 rfl (by assumption) rfl rfl <| A6 rfl rfl <| G8 rfl rfl rfl <| G8 rfl rfl rfl <| G1 rfl rfl rfl rfl ?_
    refine A5 ⟨nofun, _, kS [4,5,6,7,8,9,10,53] [4,5] rfl, ?_⟩
    refine A8 rfl (fun hc => ?_) (fun hc => absurd hc (by decide))
    refine A3 <| A0 ?_
    (refine B3 rfl rfl (fun _ => rfl) ?_; intro g2)
    refine A4 rfl rfl rfl ?_
    refine A5 ⟨nofun, _, kS [2,3] [2] rfl, ?_⟩
    refine B2 <| D5 (G2 rfl rfl (by simp) (by rfl) (D7 rfl rfl (E7 C4))) ?_
    rw [rdL, ← hps, J3 (show i < ps.length by omega) (T2 (by rw [hup]; exact Q2 (by omega) hdg (by omega)))]
    rfl
   try simp only [SG, List.length_map] at hc
   have hdU : S8 0 (unS (ps.getD i default)) = some a.toNat := by rw [hup]; rw [List.take_of_length_le (by omega)] at hdg; exact hdg
   refine I4 <| A3 <| A3 <| A0 <| A6 rfl rfl ?_
   refine A5 ⟨nofun, _, kS [4,5,6,7,9,62] [4,5] rfl, ?_⟩
   refine A8 rfl (fun hc => absurd hc (by simp_all)) (fun hc => ?_)
   refine B7 <| A3 <| A3 <| A0 <| A6 rfl rfl <| a8e rfl rfl <| A6 rfl rfl ?_
   refine E4 rfl rfl (fun hg0 => ?_) (fun hg0 => ?_)
   ·have hg := hg0; try simp only [SG] at hg
    refine A6 rfl rfl <| gT rfl rfl ?_
    have hdl1 := S0 (m := -a) (by omega)
    have hdl2 := S0 (m := a) (by omega)
    apply C9 rfl
    ·apply B4
     ·exact B5 rfl
     exact C8
    ·exact a3c a (by omega)
    ·exact ⟨rfl, rfl, rfl, of_decide_eq_true rfl, rfl⟩
    ·exact .inl rfl
    ·exact B8
    ·exact D4 rfl
    ·exact fun _ => rfl
    intro g69
    refine gT rfl rfl <| A6 rfl rfl <| gT rfl rfl <| A6 rfl rfl <| gT rfl rfl <| S5 rfl rfl rfl rfl (by omega) (by (simp; done)) rfl <| gT rfl rfl <| W6 rfl rfl (by omega) (fun _ => rfl) (fun _ => rfl) rfl <| gT rfl rfl <| a8j rfl rfl <| G7 rfl (by assumption) rfl rfl ?_
    refine A5 ⟨fun _ => ⟨by (simp only [a2d, List.nil_append, List.append_nil, List.map_cons, List.map_nil, List.cons_append]; decide +kernel), by decide +kernel⟩, [(.t 4, _), (.t 5, _), (.t 6, _), (.t 9, _), (.t 75, _), (.h 4, _), (.h 5, _)], ⟨rfl, rfl, rfl, rfl, rfl, rfl, rfl, rfl, rfl, rfl, rfl, rfl, rfl, rfl, trivial⟩, ?_⟩
    refine A8 rfl (fun hc => ?_) (fun hc => ?_)
    ·try simp only [SG, List.length_map] at hc
     refine A3 <| A0 ?_
     (refine B3 rfl rfl (fun _ => rfl) ?_; intro g2)
     refine A4 rfl rfl rfl ?_
     refine A5 ⟨nofun, _, kS [2,3] [2] rfl, ?_⟩
     refine B2 <| D5 (G2 rfl rfl (by simp) (by rfl) (D7 rfl rfl (E7 C4))) ?_
     have hno : rdI (ps.getD i default) = none := by exact a6x (m := a) hdU (by (rw [hng, if_neg (by decide)]; omega)) (by exact .inr (by assumption))
     rw [rdL, ← hps, J3 (show i < ps.length by omega) hno]
     rfl
    try simp only [SG, List.length_map] at hc
    have hri := c1i (m := a) hdU (by (rw [hng, if_neg (by decide)]; omega)) (by rw [hup]; assumption) (by assumption)
    refine B7 <| A0 <| A6 rfl rfl <| A6 rfl rfl <| E8 (es := List.map iV [_]) rfl rfl (by decide) rfl rfl (fun _ => B1 (A9 fun _ => rfl)) (fun _ => rfl) ?_
    intro g78
    refine G9 rfl rfl rfl rfl (by (simp; done)) (by simp) (by decide) rfl rfl rfl rfl (by decide) (fun _ => ⟨rfl, rfl⟩) (by simp only [H5]; (simp only [List.length_nil, List.length_cons, List.length_append, Nat.zero_add, List.length_map]; omega)) (fun _ => rfl) ?_
    intro g79
    (refine B6 rfl rfl (by (simp; done)) rfl (fun _ => (B1 (by exact A9 fun _ => rfl))) (fun _ => rfl) ?_; intro g4)
    refine A5 ⟨nofun, _, kS [4,5,6] [4,5] rfl, ?_⟩
    refine A0 <| A6 rfl rfl <| L4 rfl rfl (H6 (by omega)) <| A4 rfl rfl rfl ?_
    refine A5 ⟨nofun, _, kS [4,5,6] [4,5] rfl, ?_⟩
    refine ⟨(i + 1, ns ++ [a], _), ?_, (by simp only; omega), ⟨rfl, rfl, rfl, rfl, rfl, trivial⟩⟩
    exact ⟨by omega, a7c (by omega) hrd hri⟩
   have hg := hg0; try simp only [SG] at hg
   refine gF rfl rfl <| gF rfl rfl <| gF rfl rfl <| gF rfl rfl <| gF rfl rfl <| gF rfl rfl <| G1 rfl (by assumption) rfl rfl ?_
   refine A5 ⟨fun _ => ⟨by decide +kernel, by decide +kernel⟩, [(.t 4, _), (.t 5, _), (.t 6, _), (.t 9, _), (.t 75, _), (.h 4, _), (.h 5, _)], ⟨rfl, rfl, rfl, rfl, rfl, rfl, rfl, rfl, rfl, rfl, rfl, rfl, rfl, rfl, trivial⟩, ?_⟩
   refine A8 rfl (fun hc => ?_) (fun hc => absurd hc (by decide))
   refine A3 <| A0 ?_
   (refine B3 rfl rfl (fun _ => rfl) ?_; intro g2)
   refine A4 rfl rfl rfl ?_
   refine A5 ⟨nofun, _, kS [2,3] [2] rfl, ?_⟩
   refine B2 <| D5 (G2 rfl rfl (by simp) (by rfl) (D7 rfl rfl (E7 C4))) ?_
   have hno : rdI (ps.getD i default) = none := by exact a6x (m := a) hdU (by (rw [hng, if_neg (by decide)]; omega)) (by exact .inl (by rw [hup]; assumption))
   rw [rdL, ← hps, J3 (show i < ps.length by omega) hno]
   rfl
  have hg := hg0; try simp only [SG] at hg
  refine gF rfl rfl <| gF rfl rfl <| G7 rfl (by assumption) rfl rfl <| A4 rfl rfl rfl ?_
  refine A5 ⟨nofun, _, kS [4,5,6,7,8] [4,5] rfl, ?_⟩
  refine A3 <| A3 <| A0 <| A6 rfl rfl ?_
  refine A5 ⟨nofun, _, kS [4,5,6,7,8,31] [4,5] rfl, ?_⟩
  refine A8 rfl (fun hc => absurd hc (by decide)) (fun hc => ?_)
  refine B7 <| A3 <| A0 <| A4 rfl rfl rfl ?_
  refine A5 ⟨nofun, _, kS [4,5,6,7,8,9] [4,5] rfl, ?_⟩
  refine A3 <| A3 <| A0 <| A4 rfl rfl rfl ?_
  refine A5 ⟨nofun, _, kS [4,5,6,7,8,9,10] [4,5] rfl, ?_⟩
  refine D8 ?_
  (obtain ⟨hng, hup⟩ := d0b (p := (ps.getD i default)) (.inl (by assumption)); have hul := b5e (ps.getD i default); rw [hup] at hul)
  refine L0 (β := Nat × Int) [(.t 4, _), (.t 5, _), (.t 6, _), (.t 7, _), (.t 8, _), (.h 4, _), (.h 5, _)] (fun (z : Nat × Int) => match z with | (k, a) => [(.t 10, iV k), (.t 9, iV a)]) (fun (z : Nat × Int) => match z with | (k, a) => k ≤ (unS (ps.getD i default)).length ∧ 0 ≤ a ∧ S8 0 ((unS (ps.getD i default)).take k) = some a.toNat) (fun (z : Nat × Int) => match z with | (k, a) => (unS (ps.getD i default)).length - k) (0, 0) ⟨rfl, rfl, rfl, rfl, rfl, rfl, rfl, rfl, rfl, trivial⟩ ⟨Nat.zero_le _, by decide, rfl⟩ ?_
  intro z hb
  obtain ⟨k, a⟩ := z
  try dsimp only at hb
  obtain ⟨hk1, ha0, hdg⟩ := hb
  have hab := a9l (by decide) hdg
  rw [hup] at hk1 hdg
  refine A3 <| A3 <| A0 <| A6 rfl rfl <| A6 rfl rfl <| a3b rfl rfl <| K9 rfl rfl ?_
  refine A5 ⟨nofun, _, kS [4,5,6,7,8,9,10,37] [4,5] rfl, ?_⟩
  refine A8 rfl (fun hc => ?_) (fun hc => ?_)
  ·try simp only [SG, List.length_map] at hc
   refine B7 <| A3 <| D8 <| A3 <| A3 <| A0 <| A6 rfl rfl <| A6 rfl rfl <| M8 rfl rfl rfl (by omega) <| K9 rfl rfl <| A6 rfl rfl ?_
   refine E4 rfl rfl (fun hg0 => ?_) (fun hg0 => ?_)
   ·have hg := hg0; try simp only [SG] at hg
    refine A6 rfl rfl <| gT rfl rfl <| A6 rfl rfl <| gT rfl rfl <| M8 rfl rfl rfl (by omega) <| gT rfl rfl <| W0 rfl rfl <| G7 rfl (by assumption) rfl rfl <| A6 rfl rfl ?_
    refine E4 rfl rfl (fun hg0 => ?_) (fun hg0 => ?_)
    ·have hg := hg0; try simp only [SG] at hg
     refine A6 rfl rfl <| gT rfl rfl <| W0 rfl rfl <| G7 rfl (by assumption) rfl rfl ?_
     refine A5 ⟨nofun, _, kS [4,5,6,7,8,9,10,53] [4,5] rfl, ?_⟩
     refine A8 rfl (fun hc => ?_) (fun hc => ?_)
     ·try simp only [SG, List.length_map] at hc
      refine A3 <| A0 ?_
      (refine B3 rfl rfl (fun _ => rfl) ?_; intro g2)
      refine A4 rfl rfl rfl ?_
      refine A5 ⟨nofun, _, kS [2,3] [2] rfl, ?_⟩
      refine B2 <| D5 (G2 rfl rfl (by simp) (by rfl) (D7 rfl rfl (E7 C4))) ?_
      rw [rdL, ← hps, J3 (show i < ps.length by omega) (T2 (by rw [hup]; exact Q2 (by omega) hdg (by omega)))]
      rfl
     try simp only [SG, List.length_map] at hc
     refine B7 <| A0 <| A6 rfl rfl <| c6k rfl rfl (H6 (by omega)) <| A6 rfl rfl <| A6 rfl rfl <| M8 rfl rfl rfl (by omega) <| a8i rfl rfl (d1m (by omega)) <| b4p rfl rfl rfl (H6 (by omega)) <| L4 rfl rfl (H6 (by omega)) <| A4 rfl rfl rfl ?_
     refine A5 ⟨nofun, _, kS [4,5,6,7,8,9,10] [4,5] rfl, ?_⟩
     refine A0 <| A6 rfl rfl <| L4 rfl rfl (H6 (by omega)) <| A4 rfl rfl rfl ?_
     refine A5 ⟨nofun, _, kS [4,5,6,7,8,9,10] [4,5] rfl, ?_⟩
     refine ⟨(k + 1, _), ?_, (by simp only [hup]; omega), ⟨rfl, rfl, rfl, rfl, rfl, rfl, rfl, rfl, rfl, trivial⟩⟩
     rw [hup]
     have hds := a6g (by omega) hdg (by omega)
     exact ⟨by omega, by omega, hds.trans (congrArg some (by omega))⟩
    have hg := hg0; try simp only [SG] at hg
    refine gF rfl rfl <| G1 rfl (by assumption) rfl rfl ?_
    refine A5 ⟨nofun, _, kS [4,5,6,7,8,9,10,53] [4,5] rfl, ?_⟩
    refine A8 rfl (fun hc => ?_) (fun hc => absurd hc (by decide))
    refine A3 <| A0 ?_
    (refine B3 rfl rfl (fun _ => rfl) ?_; intro g2)
    refine A4 rfl rfl rfl ?_
    refine A5 ⟨nofun, _, kS [2,3] [2] rfl, ?_⟩
    refine B2 <| D5 (G2 rfl rfl (by simp) (by rfl) (D7 rfl rfl (E7 C4))) ?_
    rw [rdL, ← hps, J3 (show i < ps.length by omega) (T2 (by rw [hup]; exact Q2 (by omega) hdg (by omega)))]
    rfl
   have hg := hg0; try simp only [SG] at hg
   refine gF rfl rfl <| gF rfl rfl <| gF rfl rfl <| G1 rfl (by assumption) rfl rfl <| A6 rfl rfl <| G8 rfl rfl rfl <| G8 rfl rfl rfl <| G1 rfl rfl rfl rfl ?_
   refine A5 ⟨nofun, _, kS [4,5,6,7,8,9,10,53] [4,5] rfl, ?_⟩
   refine A8 rfl (fun hc => ?_) (fun hc => absurd hc (by decide))
   refine A3 <| A0 ?_
   (refine B3 rfl rfl (fun _ => rfl) ?_; intro g2)
   refine A4 rfl rfl rfl ?_
   refine A5 ⟨nofun, _, kS [2,3] [2] rfl, ?_⟩
   refine B2 <| D5 (G2 rfl rfl (by simp) (by rfl) (D7 rfl rfl (E7 C4))) ?_
   rw [rdL, ← hps, J3 (show i < ps.length by omega) (T2 (by rw [hup]; exact Q2 (by omega) hdg (by omega)))]
   rfl
  try simp only [SG, List.length_map] at hc
  have hdU : S8 0 (unS (ps.getD i default)) = some a.toNat := by rw [hup]; rw [List.take_of_length_le (by omega)] at hdg; exact hdg
  refine I4 <| A3 <| A3 <| A0 <| A6 rfl rfl ?_
  refine A5 ⟨nofun, _, kS [4,5,6,7,9,62] [4,5] rfl, ?_⟩
  refine A8 rfl (fun hc => absurd hc (by decide)) (fun hc => ?_)
  refine B7 <| A3 <| A3 <| A0 <| A6 rfl rfl <| a8e rfl rfl <| A6 rfl rfl ?_
  refine E4 rfl rfl (fun hg0 => ?_) (fun hg0 => ?_)
  ·have hg := hg0; try simp only [SG] at hg
   refine A6 rfl rfl <| gT rfl rfl ?_
   have hdl1 := S0 (m := -a) (by omega)
   have hdl2 := S0 (m := a) (by omega)
   apply C9 rfl
   ·apply B4
    ·exact B5 rfl
    exact C8
   ·exact a3c a (by omega)
   ·exact ⟨rfl, rfl, rfl, of_decide_eq_true rfl, rfl⟩
   ·exact .inl rfl
   ·exact B8
   ·exact D4 rfl
   ·exact fun _ => rfl
   intro g69
   refine gT rfl rfl <| A6 rfl rfl <| gT rfl rfl <| A6 rfl rfl <| gT rfl rfl <| S5 rfl rfl rfl rfl (by omega) (by (simp; done)) rfl <| gT rfl rfl <| W6 rfl rfl (by omega) (fun _ => rfl) (fun _ => rfl) rfl <| gT rfl rfl <| a8j rfl rfl <| G7 rfl (by assumption) rfl rfl ?_
   refine A5 ⟨fun _ => ⟨by (simp only [a2d, List.nil_append, List.append_nil, List.map_cons, List.map_nil, List.cons_append]; decide +kernel), by decide +kernel⟩, [(.t 4, _), (.t 5, _), (.t 6, _), (.t 9, _), (.t 75, _), (.h 4, _), (.h 5, _)], ⟨rfl, rfl, rfl, rfl, rfl, rfl, rfl, rfl, rfl, rfl, rfl, rfl, rfl, rfl, trivial⟩, ?_⟩
   refine A8 rfl (fun hc => ?_) (fun hc => ?_)
   ·try simp only [SG, List.length_map] at hc
    refine A3 <| A0 ?_
    (refine B3 rfl rfl (fun _ => rfl) ?_; intro g2)
    refine A4 rfl rfl rfl ?_
    refine A5 ⟨nofun, _, kS [2,3] [2] rfl, ?_⟩
    refine B2 <| D5 (G2 rfl rfl (by simp) (by rfl) (D7 rfl rfl (E7 C4))) ?_
    have hno : rdI (ps.getD i default) = none := by exact a6x (m := a) hdU (by (rw [hng, if_neg (by decide)]; omega)) (by exact .inl (by rw [hup]; assumption))
    rw [rdL, ← hps, J3 (show i < ps.length by omega) hno]
    rfl
   try simp only [SG, List.length_map] at hc
   have hri := c1i (m := a) hdU (by (rw [hng, if_neg (by decide)]; omega)) (by rw [hup]; assumption) (by assumption)
   refine B7 <| A0 <| A6 rfl rfl <| A6 rfl rfl <| E8 (es := List.map iV [_]) rfl rfl (by decide) rfl rfl (fun _ => B1 (A9 fun _ => rfl)) (fun _ => rfl) ?_
   intro g78
   refine G9 rfl rfl rfl rfl (by (simp; done)) (by simp) (by decide) rfl rfl rfl rfl (by decide) (fun _ => ⟨rfl, rfl⟩) (by simp only [H5]; (simp only [List.length_nil, List.length_cons, List.length_append, Nat.zero_add, List.length_map]; omega)) (fun _ => rfl) ?_
   intro g79
   (refine B6 rfl rfl (by (simp; done)) rfl (fun _ => (B1 (by exact A9 fun _ => rfl))) (fun _ => rfl) ?_; intro g4)
   refine A5 ⟨nofun, _, kS [4,5,6] [4,5] rfl, ?_⟩
   refine A0 <| A6 rfl rfl <| L4 rfl rfl (H6 (by omega)) <| A4 rfl rfl rfl ?_
   refine A5 ⟨nofun, _, kS [4,5,6] [4,5] rfl, ?_⟩
   refine ⟨(i + 1, ns ++ [a], _), ?_, (by simp only; omega), ⟨rfl, rfl, rfl, rfl, rfl, trivial⟩⟩
   exact ⟨by omega, a7c (by omega) hrd hri⟩
  have hg := hg0; try simp only [SG] at hg
  refine gF rfl rfl <| gF rfl rfl <| gF rfl rfl <| gF rfl rfl <| gF rfl rfl <| gF rfl rfl <| G1 rfl (by assumption) rfl rfl ?_
  refine A5 ⟨fun _ => ⟨by decide +kernel, by decide +kernel⟩, [(.t 4, _), (.t 5, _), (.t 6, _), (.t 9, _), (.t 75, _), (.h 4, _), (.h 5, _)], ⟨rfl, rfl, rfl, rfl, rfl, rfl, rfl, rfl, rfl, rfl, rfl, rfl, rfl, rfl, trivial⟩, ?_⟩
  refine A8 rfl (fun hc => ?_) (fun hc => absurd hc (by decide))
  refine A3 <| A0 ?_
  (refine B3 rfl rfl (fun _ => rfl) ?_; intro g2)
  refine A4 rfl rfl rfl ?_
  refine A5 ⟨nofun, _, kS [2,3] [2] rfl, ?_⟩
  refine B2 <| D5 (G2 rfl rfl (by simp) (by rfl) (D7 rfl rfl (E7 C4))) ?_
  have hno : rdI (ps.getD i default) = none := by exact a6x (m := a) hdU (by (rw [hng, if_neg (by decide)]; omega)) (by exact .inl (by rw [hup]; assumption))
  rw [rdL, ← hps, J3 (show i < ps.length by omega) hno]
  rfl
 try simp only [SG, List.length_map] at hc
 refine I4 <| A3 <| A0 <| A6 rfl rfl ?_
 (refine B6 rfl rfl (by (simp; done)) rfl (fun _ => (B1 (by exact A9 fun _ => rfl))) (fun _ => rfl) ?_; intro g2)
 refine A4 rfl rfl rfl ?_
 refine A5 ⟨nofun, _, kS [2,3] [2] rfl, ?_⟩
 refine B2 <| D5 (G2 rfl rfl (by simp) (by exact A9 fun _ => rfl) (D7 rfl rfl (E7 C4))) ?_
 have hil : i = ps.length := by omega
 rw [hil, List.take_length] at hrd
 rw [rdL, ← hps, hrd]
 rfl

theorem keep_s_readNums : G0 Tryd.f51 = [0, 2, 3, 4, 22, 24, 5, 6] := by kernel_rfl
set_option maxHeartbeats 20000000 in
theorem c0j (s : List UInt8) (hs : s.length ≤ 1048576) : CW cxT 51 [tV s] = some (.tup [.own 1 ((b7s s).map iV), bV (numsOf s).isSome], []) := by
 refine F6 rfl Tryd.func51 rfl ⟨by kernel_rfl, rfl, of_decide_eq_true rfl, of_decide_eq_true rfl, by decide⟩ keep_s_readNums <| A3 <| A0 ?_
 (refine B3 rfl rfl (fun _ => rfl) ?_; intro g2)
 refine A4 rfl rfl rfl ?_
 refine A5 ⟨nofun, _, kS [0] [] rfl, ?_⟩
 refine A3 <| A0 <| A6 rfl rfl <| a3b rfl rfl <| A4 rfl rfl rfl ?_
 refine A5 ⟨nofun, _, kS [0,4] [] rfl, ?_⟩
 refine A3 <| A3 <| A0 <| A6 rfl rfl <| K9 rfl rfl <| A6 rfl rfl ?_
 refine E4 rfl rfl (fun hg0 => ?_) (fun hg0 => ?_)
 ·have hg := hg0; try simp only [SG] at hg
  refine A6 rfl rfl <| gT rfl rfl <| M8 (n := 0) rfl rfl rfl (by omega) <| gT rfl rfl <| b8y rfl rfl <| G7 rfl (by assumption) rfl rfl <| A6 rfl rfl ?_
  refine E4 rfl rfl (fun hg0 => ?_) (fun hg0 => ?_)
  ·have hg := hg0; try simp only [SG] at hg
   refine A6 rfl rfl <| gT rfl rfl <| A6 rfl rfl <| gT rfl rfl <| a8i rfl rfl (H6 (by omega)) <| gT rfl rfl ?_
   rw [show ((s.length : Int) - 1) = ((s.length - 1 : Nat) : Int) by omega]
   refine M8 rfl rfl rfl (by omega) <| gT rfl rfl <| b8y rfl rfl <| G7 rfl (by assumption) rfl rfl ?_
   refine A5 ⟨nofun, _, kS [0,4,22] [] rfl, ?_⟩
   refine A8 rfl (fun hc => ?_) (fun hc => ?_)
   ·try simp only [SG, List.length_map] at hc
    refine A3 <| A0 ?_
    (refine B3 rfl rfl (fun _ => rfl) ?_; intro g2)
    refine A4 rfl rfl rfl ?_
    refine A5 ⟨nofun, _, kS [2,3] [2] rfl, ?_⟩
    refine B2 <| D5 (G2 rfl rfl (by simp) (by rfl) (D7 rfl rfl (E7 C4))) ?_
    obtain ⟨hn1, hn2⟩ := a6n (s := s) (by exact .inr (.inr (by omega)))
    rw [hn1, hn2]
    rfl
   try simp only [SG, List.length_map] at hc
   have hin := c4g (s := s) (by omega) (by omega) (by omega)
   refine B7 <| A3 <| A3 <| A0 <| A6 rfl rfl <| b0g rfl rfl ?_
   refine A5 ⟨nofun, _, kS [0,4,24] [] rfl, ?_⟩
   refine A8 rfl (fun hc => ?_) (fun hc => ?_)
   ·try simp only [SG, List.length_map] at hc
    refine A3 <| A0 <| E8 (es := List.map iV []) rfl rfl (by decide) rfl rfl (fun _ => B1 (A9 fun _ => rfl)) (fun _ => rfl) ?_
    intro g25
    (refine B6 rfl rfl (by (simp; done)) rfl (fun _ => (B1 (by exact A9 fun _ => rfl))) (fun _ => rfl) ?_; intro g2)
    refine A4 rfl rfl rfl ?_
    refine A5 ⟨nofun, _, kS [2,3] [2] rfl, ?_⟩
    refine B2 <| D5 (G2 rfl rfl (by simp) (by rfl) (D7 rfl rfl (E7 C4))) ?_
    obtain ⟨hn1, hn2⟩ := hin.1 (by omega)
    rw [hn1, hn2]
    rfl
   try simp only [SG, List.length_map] at hc
   refine B7 <| A3 <| A0 <| A6 rfl rfl <| A6 rfl rfl <| a8i rfl rfl (H6 (by omega)) ?_
   rw [show ((s.length : Int) - 1) = ((s.length - 1 : Nat) : Int) by omega]
   have hrl := c8r ((s.drop 1).take (s.length - 1 - 1))
   have hin2 : ((s.drop 1).take (s.length - 1 - 1)).length ≤ s.length - 2 := by simp only [List.length_take, List.length_drop]; omega
   refine a3h rfl rfl (H4 rfl) (H4 (n := 1) rfl) (by omega) ?_
   apply C9 rfl
   ·apply B4
    ·exact B5 rfl
    exact C8
   ·exact b9w ((s.drop 1).take (s.length - 1 - 1)) (by omega)
   ·exact ⟨rfl, rfl, rfl, of_decide_eq_true rfl, rfl⟩
   ·exact .inr ⟨a1n _ _, rfl⟩
   ·exact B8
   ·exact I7 (Q8 fun _ => I6 rfl Q9)
   ·exact fun _ => rfl
   intro g31
   simp only [List.length_map]
   refine A6 rfl rfl <| B0 rfl rfl rfl <| B0 rfl rfl rfl ?_
   (refine B6 rfl rfl (by (simp; done)) rfl (fun _ => (B1 (by exact A9 fun _ => rfl))) (fun _ => rfl) ?_; intro g5)
   refine A4 rfl rfl rfl ?_
   refine A5 ⟨nofun, _, kS [5,6] [5] rfl, ?_⟩
   refine A3 <| A0 <| A6 rfl rfl <| A6 rfl rfl <| A6 rfl rfl ?_
   refine E4 rfl rfl (fun hg0 => ?_) (fun hg0 => ?_)
   ·have hg := hg0; try simp only [SG] at hg
    refine A6 rfl rfl <| gT rfl rfl ?_
    apply C9 rfl
    ·apply B4
     ·exact K2 rfl rfl rfl (by (simp; done)) (fun _ => rfl)
     exact C8
    ·exact b8q ((rdL ((s.drop 1).take (s.length - 1 - 1))).getD []) (by omega)
    ·exact ⟨rfl, rfl, rfl, of_decide_eq_true rfl, rfl⟩
    ·exact .inr ⟨rfl, rfl⟩
    ·exact B8
    ·exact D4 rfl
    ·exact fun _ => rfl
    intro g38
    refine G1 rfl (by assumption) rfl rfl ?_
    (refine B6 rfl rfl (by (simp; done)) rfl (fun _ => (B1 (by exact A9 fun _ => rfl))) (fun _ => rfl) ?_; intro g2)
    refine A4 rfl rfl rfl ?_
    refine A5 ⟨nofun, _, kS [2,3] [2] rfl, ?_⟩
    refine B2 <| D5 (G2 rfl rfl (by simp) (by exact A9 fun _ => rfl) (D7 rfl rfl (E7 C4))) ?_
    obtain ⟨hn1, hn2⟩ := hin.2 (by omega)
    rw [hn2, b1b hn1]
    simp_all
    try rfl
   have hg := hg0; try simp only [SG] at hg
   refine gF rfl rfl <| G7 rfl (by assumption) rfl rfl ?_
   (refine B6 rfl rfl (by (simp; done)) rfl (fun _ => (B1 (by exact A9 fun _ => rfl))) (fun _ => rfl) ?_; intro g2)
   refine A4 rfl rfl rfl ?_
   refine A5 ⟨nofun, _, kS [2,3] [2] rfl, ?_⟩
   refine B2 <| D5 (G2 rfl rfl (by simp) (by exact A9 fun _ => rfl) (D7 rfl rfl (E7 C4))) ?_
   obtain ⟨hn1, hn2⟩ := hin.2 (by omega)
   rw [hn2, b1b hn1]
   simp_all
   try rfl
  have hg := hg0; try simp only [SG] at hg
  refine gF rfl rfl <| gF rfl rfl <| gF rfl rfl <| gF rfl rfl <| G1 rfl (by assumption) rfl rfl ?_
  refine A5 ⟨nofun, _, kS [0,4,22] [] rfl, ?_⟩
  refine A8 rfl (fun hc => ?_) (fun hc => absurd hc (by decide))
  refine A3 <| A0 ?_
  (refine B3 rfl rfl (fun _ => rfl) ?_; intro g2)
  refine A4 rfl rfl rfl ?_
  refine A5 ⟨nofun, _, kS [2,3] [2] rfl, ?_⟩
  refine B2 <| D5 (G2 rfl rfl (by simp) (by rfl) (D7 rfl rfl (E7 C4))) ?_
  obtain ⟨hn1, hn2⟩ := a6n (s := s) (by exact .inr (.inl (by omega)))
  rw [hn1, hn2]
  rfl
 have hg := hg0; try simp only [SG] at hg
 refine gF rfl rfl <| gF rfl rfl <| G1 rfl (by assumption) rfl rfl <| A6 rfl rfl <| G8 rfl rfl rfl <| G8 rfl rfl rfl <| G8 rfl rfl rfl <| G8 rfl rfl rfl <| G8 rfl rfl rfl <| G1 rfl rfl rfl rfl ?_
 refine A5 ⟨nofun, _, kS [0,4,22] [] rfl, ?_⟩
 refine A8 rfl (fun hc => ?_) (fun hc => absurd hc (by decide))
 refine A3 <| A0 ?_
 (refine B3 rfl rfl (fun _ => rfl) ?_; intro g2)
 refine A4 rfl rfl rfl ?_
 refine A5 ⟨nofun, _, kS [2,3] [2] rfl, ?_⟩
 refine B2 <| D5 (G2 rfl rfl (by simp) (by rfl) (D7 rfl rfl (E7 C4))) ?_
 obtain ⟨hn1, hn2⟩ := a6n (s := s) (by exact .inl (by omega))
 rw [hn1, hn2]
 rfl

theorem keep_s_readTree : G0 Tryd.f39 = [0, 2, 3, 4, 15, 6, 24, 5, 7, 34, 43, 9, 12, 53, 8, 10, 11, 48, 59] := by kernel_rfl
set_option maxHeartbeats 20000000 in
theorem b1f (ws : List W8) (hws : ws.length ≤ 1048600 ∧ ∀ w ∈ ws, w.length ≤ 1048576) : CW cxT 39 [.list (ws.map tV)] = some (rtR (rdT ws), []) := by
 obtain ⟨kk, hkk⟩ : ∃ kk : Nat, ws.length < kk := ⟨_, Nat.lt_succ_self _⟩
 revert ws
 induction kk with
 | zero => intro ws hws hkk; exact absurd hkk (Nat.not_lt_zero _)
 | succ kk ih =>
  intro ws hws hkk
  refine F6 rfl Tryd.func39 rfl ⟨by kernel_rfl, rfl, of_decide_eq_true rfl, of_decide_eq_true rfl, by decide⟩ keep_s_readTree <| A3 <| A0 <| H1 rfl (fun _ => C0 rfl) (fun _ => rfl) ?_
  intro g2
  (refine B3 rfl rfl (fun _ => rfl) ?_; intro g3)
  refine A4 rfl rfl rfl ?_
  refine A5 ⟨nofun, _, kS [0,2] [2] rfl, ?_⟩
  refine A3 <| A3 <| A0 <| A6 rfl rfl <| I8 rfl rfl <| b0g rfl rfl ?_
  refine A5 ⟨nofun, _, kS [0,2,15] [2] rfl, ?_⟩
  refine A8 rfl (fun hc => ?_) (fun hc => ?_)
  ·try simp only [SG, List.length_map] at hc
   have hw0 : ws = [] := List.length_eq_zero_iff.1 (by simpa using hc)
   subst hw0
   refine A3 <| A0 <| L2 (fs := [_, _, _]) rfl rfl rfl rfl rfl <| C1 rfl rfl rfl rfl ⟨by decide, rfl, of_decide_eq_true rfl, of_decide_eq_true rfl, rfl⟩ rfl (by exact C0 rfl) ?_
   (refine B3 rfl rfl (fun _ => rfl) ?_; intro g3)
   refine A4 rfl rfl rfl ?_
   refine A5 ⟨nofun, _, kS [2,3,4] [2,3] rfl, ?_⟩
   refine B2 <| D5 (G5 rfl rfl rfl rfl (G4 rfl (H0 rfl (H0 rfl J1))) (G2 rfl rfl (by simp) (by rfl) (D7 rfl rfl (E7 C4)))) ?_
   rfl
  try simp only [SG, List.length_map] at hc
  obtain ⟨w, ws1, rfl⟩ : ∃ w ws1, ws = w :: ws1 := List.exists_cons_of_ne_nil (fun e => by subst e; simp at hc)
  have hw := hws.2 w (by simp)
  refine B7 <| A3 <| A0 <| A6 rfl rfl <| G6 rfl rfl rfl (fun _ => rfl) (by (change 0 < _; omega)) <| H3 rfl rfl rfl ?_
  apply C9 rfl
  ·apply B4
   ·exact B5 rfl
   exact C8
  ·exact c0j w (by omega)
  ·exact ⟨rfl, rfl, rfl, of_decide_eq_true rfl, rfl⟩
  ·exact .inr ⟨a1n _ _, rfl⟩
  ·exact B8
  ·exact I7 (Q8 fun _ => I6 rfl Q9)
  ·exact fun _ => rfl
  intro g21
  simp only [List.length_map]
  refine A6 rfl rfl <| B0 rfl rfl rfl <| B0 rfl rfl rfl ?_
  (refine B6 rfl rfl (by (simp; done)) rfl (fun _ => (B1 (by exact A9 fun _ => rfl))) (fun _ => rfl) ?_; intro g5)
  refine A4 rfl rfl rfl ?_
  refine A5 ⟨nofun, _, kS [0,2,5,6] [2,5] rfl, ?_⟩
  refine A3 <| A3 <| A0 <| A6 rfl rfl ?_
  refine A5 ⟨nofun, _, kS [0,2,5,24] [2,5] rfl, ?_⟩
  refine A8 rfl (fun hc => ?_) (fun hc => ?_)
  ·try simp only [SG, List.length_map] at hc
   obtain ⟨ns, hns⟩ := Option.isSome_iff_exists.1 hc
   have hraw := c9d hns
   refine A3 <| A0 <| A6 rfl rfl <| L2 (fs := [_, _, _]) rfl rfl rfl rfl rfl <| A6 rfl rfl <| M0 rfl rfl rfl (Mv.sized_map fun _ => rfl) K4 (H4 (n := 1) rfl) (by simp) ?_
   rw [show ((List.map tV (w :: ws1)).drop 1).take ((List.map tV (w :: ws1)).length - 1) = ws1.map tV from by rw [List.map_cons, List.drop_succ_cons, List.drop_zero, List.take_of_length_le (by simp)]]
   refine J4 rfl rfl rfl rfl (M9 rfl (a1h (by decide) (M9 rfl Z2))) (fun _ => rfl) ⟨by decide, rfl, of_decide_eq_true rfl, Nat.le_refl _⟩ (fun _ => rfl) (fun _ => rfl) (fun _ => (by rfl)) ?_
   intro z
   simp only [S2, List.cons_append, List.nil_append]
   refine A4 rfl rfl rfl <| A4 rfl rfl rfl ?_
   refine A5 ⟨fun _ => ⟨by (simp only [a2d, List.nil_append, List.append_nil, List.map_cons, List.map_nil, List.cons_append]; decide +kernel), by decide +kernel⟩, [(.t 2, _), (.t 3, _), (.t 4, _), (.h 2, _), (.h 5, _)], ⟨rfl, rfl, rfl, rfl, rfl, rfl, rfl, rfl, rfl, rfl, trivial⟩, ?_⟩
   refine B2 <| D5 (G5 rfl rfl rfl rfl (G4 rfl (a1k rfl rfl (by simp) (fun _ => rfl) (H0 rfl J1))) (D7 rfl rfl (D7 rfl rfl (E7 C4)))) ?_
   rw [b7j hns, hraw]
   rfl
  try simp only [SG, List.length_map] at hc
  have hnn : numsOf w = none := by simpa using hc
  refine B7 <| A3 <| A0 <| A6 rfl rfl <| G6 rfl rfl rfl (fun _ => rfl) (by (change 0 < _; omega)) <| H3 rfl rfl rfl ?_
  apply C9 rfl
  ·apply B4
   ·exact B5 rfl
   exact C8
  ·exact c3u (bA w)
  ·exact ⟨rfl, rfl, rfl, of_decide_eq_true rfl, rfl⟩
  ·exact .inl rfl
  ·exact B8
  ·exact D4 rfl
  ·exact fun _ => rfl
  intro g32
  refine A4 rfl rfl rfl ?_
  refine A5 ⟨nofun, _, kS [0,2,7] [2] rfl, ?_⟩
  refine A3 <| A3 <| A0 <| A6 rfl rfl <| K9 rfl rfl ?_
  refine A5 ⟨nofun, _, kS [0,2,7,34] [2] rfl, ?_⟩
  refine A8 rfl (fun hc => ?_) (fun hc => ?_)
  ·try simp only [SG, List.length_map] at hc
   refine A3 <| A0 <| L2 (fs := [_, _, _]) rfl rfl rfl rfl rfl <| C1 rfl rfl rfl rfl ⟨by decide, rfl, of_decide_eq_true rfl, of_decide_eq_true rfl, rfl⟩ rfl (by exact C0 rfl) ?_
   (refine B3 rfl rfl (fun _ => rfl) ?_; intro g3)
   refine A4 rfl rfl rfl ?_
   refine A5 ⟨nofun, _, kS [2,3,4] [2,3] rfl, ?_⟩
   refine B2 <| D5 (G5 rfl rfl rfl rfl (G4 rfl (H0 rfl (H0 rfl J1))) (G2 rfl rfl (by simp) (by rfl) (D7 rfl rfl (E7 C4)))) ?_
   rw [c2b hnn (by omega)]
   rfl
  try simp only [SG, List.length_map] at hc
  refine B7 <| A3 <| A0 <| A6 rfl rfl <| G6 rfl rfl rfl (fun _ => rfl) (by (change 0 < _; omega)) <| H3 rfl rfl rfl <| L2 (fs := [_, _, _]) rfl rfl rfl rfl rfl <| H1 rfl (fun _ => C0 rfl) (fun _ => rfl) ?_
  intro g8
  refine C1 rfl rfl rfl rfl ⟨by decide, rfl, of_decide_eq_true rfl, of_decide_eq_true rfl, rfl⟩ rfl (by exact C0 rfl) ?_
  refine A5 ⟨nofun, _, kS [0,2,7,8] [2,8] rfl, ?_⟩
  refine A3 <| A0 ?_
  rcases b3h (w := bA w) (by omega) with hn | hn | hn
  ·rw [hn]
   refine A6 rfl rfl <| M0 rfl rfl rfl (Mv.sized_map fun _ => rfl) K4 (H4 (n := 1) rfl) (by simp) ?_
   rw [show ((List.map tV (w :: ws1)).drop 1).take ((List.map tV (w :: ws1)).length - 1) = ws1.map tV from by rw [List.map_cons, List.drop_succ_cons, List.drop_zero, List.take_of_length_le (by simp)]]
   refine A4 rfl rfl rfl ?_
   refine A5 ⟨nofun, _, kS [2,7,8,9] [2,8] rfl, ?_⟩
   refine A3 <| D8 <| K8 <| A3 <| A3 <| A0 <| A6 rfl rfl <| W0 rfl rfl ?_
   refine A5 ⟨nofun, _, kS [2,7,8,9,43] [2,8] rfl, ?_⟩
   refine A8 rfl (fun hc => absurd hc (by decide)) (fun hc => ?_)
   refine I4 <| A3 <| A0 <| F5 rfl rfl rfl rfl rfl <| A6 rfl rfl <| C1 rfl rfl rfl rfl ⟨by decide, rfl, of_decide_eq_true rfl, of_decide_eq_true rfl, rfl⟩ rfl (by exact C0 rfl) <| A4 rfl rfl rfl <| A4 rfl rfl rfl ?_
   refine A5 ⟨nofun, _, kS [2,3,4] [2] rfl, ?_⟩
   refine B2 <| D5 (G5 rfl rfl rfl rfl (G4 rfl (H0 rfl (H0 rfl J1))) (D7 rfl rfl (D7 rfl rfl (E7 C4)))) ?_
   rw [c2s hnn hn]
   rfl
  ·rw [hn]
   refine A6 rfl rfl <| M0 rfl rfl rfl (Mv.sized_map fun _ => rfl) K4 (H4 (n := 1) rfl) (by simp) ?_
   rw [show ((List.map tV (w :: ws1)).drop 1).take ((List.map tV (w :: ws1)).length - 1) = ws1.map tV from by rw [List.map_cons, List.drop_succ_cons, List.drop_zero, List.take_of_length_le (by simp)]]
   refine A4 rfl rfl rfl ?_
   refine A5 ⟨nofun, _, kS [2,7,8,9] [2,8] rfl, ?_⟩
   refine A3 <| D8 <| K8 <| A3 <| A3 <| A0 <| A6 rfl rfl <| W0 rfl rfl ?_
   refine A5 ⟨nofun, _, kS [2,7,8,9,43] [2,8] rfl, ?_⟩
   refine A8 rfl (fun hc => ?_) (fun hc => absurd hc (by decide))
   refine B7 <| A3 <| D8 <| A3 <| A0 <| A6 rfl rfl ?_
   rcases hr1 : rdT ws1 with _ | ⟨k1, r1⟩
   ·skip
    apply C9 rfl
    ·apply B4
     ·exact B5 rfl
     exact C8
    ·exact (by have hi := ih ws1 ⟨by simp only [List.length_cons] at hws; omega, fun x hx => hws.2 x (List.mem_cons_of_mem _ hx)⟩ (by simp only [List.length_cons] at hkk; omega); rw [hr1] at hi; exact hi)
    ·exact ⟨rfl, rfl, rfl, of_decide_eq_true rfl, rfl⟩
    ·exact .inl rfl
    ·exact B8
    ·exact I7 (I6 rfl (Q8 fun _ => I6 rfl Q9))
    ·exact fun _ => D6 (B1 rfl) (by rfl)
    intro g48
    refine A6 rfl rfl <| B0 rfl rfl rfl <| B0 rfl rfl rfl <| B0 rfl rfl rfl <| H1 rfl (fun _ => C0 rfl) (fun _ => rfl) ?_
    intro g10
    refine C1 rfl rfl rfl rfl ⟨by decide, rfl, of_decide_eq_true rfl, of_decide_eq_true rfl, rfl⟩ rfl (by exact C0 rfl) ?_
    (refine B6 rfl rfl (by (simp; done)) rfl (fun _ => (B1 (by rfl))) (fun _ => rfl) ?_; intro g11)
    refine A4 rfl rfl rfl ?_
    refine A5 ⟨nofun, _, kS [2,7,8,10,11,12] [2,8,10] rfl, ?_⟩
    refine A3 <| A3 <| A0 <| A6 rfl rfl <| N2 rfl ?_
    refine A5 ⟨nofun, _, kS [2,7,8,10,11,53] [2,8,10] rfl, ?_⟩
    refine A8 rfl (fun hc => ?_) (fun hc => absurd hc (by decide))
    refine A3 <| A0 <| L2 (fs := [_, _, _]) rfl rfl rfl rfl rfl <| C1 rfl rfl rfl rfl ⟨by decide, rfl, of_decide_eq_true rfl, of_decide_eq_true rfl, rfl⟩ rfl (by exact C0 rfl) ?_
    (refine B3 rfl rfl (fun _ => rfl) ?_; intro g3)
    refine A4 rfl rfl rfl ?_
    refine A5 ⟨nofun, _, kS [2,3,4] [2,3] rfl, ?_⟩
    refine B2 <| D5 (G5 rfl rfl rfl rfl (G4 rfl (H0 rfl (H0 rfl J1))) (G2 rfl rfl (by simp) (by rfl) (D7 rfl rfl (E7 C4)))) ?_
    rw [b4b hnn hn, hr1]
    rfl
   skip
   apply C9 rfl
   ·apply B4
    ·exact B5 rfl
    exact C8
   ·exact (by have hi := ih ws1 ⟨by simp only [List.length_cons] at hws; omega, fun x hx => hws.2 x (List.mem_cons_of_mem _ hx)⟩ (by simp only [List.length_cons] at hkk; omega); rw [hr1] at hi; exact hi)
   ·exact ⟨rfl, rfl, rfl, of_decide_eq_true rfl, rfl⟩
   ·exact .inl rfl
   ·exact B8
   ·exact J9 rfl
   ·exact fun _ => rfl
   intro g48
   refine A6 rfl rfl <| B0 rfl rfl rfl <| B0 rfl rfl rfl <| B0 rfl rfl rfl <| H1 rfl (fun _ => C0 rfl) (fun _ => rfl) ?_
   intro g10
   refine C1 rfl rfl rfl rfl ⟨by decide, rfl, of_decide_eq_true rfl, of_decide_eq_true rfl, rfl⟩ rfl (by exact C0 rfl) <| A4 rfl rfl rfl <| A4 rfl rfl rfl ?_
   refine A5 ⟨nofun, _, kS [2,7,8,10,11,12] [2,8,10] rfl, ?_⟩
   refine A3 <| A3 <| A0 <| A6 rfl rfl <| N2 rfl ?_
   refine A5 ⟨nofun, _, kS [2,7,8,10,11,53] [2,8,10] rfl, ?_⟩
   refine A8 rfl (fun hc => absurd hc (by decide)) (fun hc => ?_)
   refine B7 <| A3 <| A0 <| F4 rfl rfl (by decide) rfl rfl <| G3 rfl rfl rfl rfl rfl rfl <| F5 rfl rfl rfl rfl rfl <| E8 (es := List.map trV [_]) rfl rfl (by decide) rfl rfl (fun _ => B1 (A9 fun _ => rfl)) (fun _ => rfl) ?_
   intro g58
   refine V3 rfl rfl rfl (by simp) (by decide) rfl rfl rfl (by decide) (fun _ => ⟨rfl, rfl⟩) (by simp only [H5]; (simp only [List.length_nil, List.length_cons, List.length_append, Nat.zero_add, List.length_map]; omega)) (fun _ => rfl) ?_
   intro g59
   refine F4 rfl rfl (by decide) rfl rfl <| Q4 rfl rfl rfl rfl rfl (Nat.le_refl _) rfl ?_
   refine A5 ⟨nofun, _, kS [2,7,8,11] [2,8,1000059] rfl, ?_⟩
   refine A0 <| A6 rfl rfl <| A4 rfl rfl rfl ?_
   refine A5 ⟨nofun, _, kS [2,7,8,9] [2,8,1000059] rfl, ?_⟩
   refine A0 <| A6 rfl rfl <| a8i rfl rfl (H6 (by omega)) <| A4 rfl rfl rfl ?_
   refine A5 ⟨nofun, _, kS [2,7,8,9] [2,8,1000059] rfl, ?_⟩
   refine K8 <| A3 <| A3 <| A0 <| A6 rfl rfl <| W0 rfl rfl ?_
   refine A5 ⟨nofun, _, kS [2,7,8,9,43] [2,8,1000059] rfl, ?_⟩
   refine A8 rfl (fun hc => absurd hc (by decide)) (fun hc => ?_)
   refine I4 <| A3 <| A0 <| F5 rfl rfl rfl rfl rfl <| A6 rfl rfl <| J4 rfl rfl rfl rfl (M9 rfl (M9 rfl (a9e (by decide) (by decide) rfl (by simp) fun _ => Z2))) (fun _ => rfl) ⟨by decide, rfl, of_decide_eq_true rfl, Nat.le_refl _⟩ (fun _ => rfl) (fun _ => rfl) (fun _ => D6 (by rfl) (D6 (B1 (A9 fun _ => rfl)) (by rfl))) ?_
   intro z
   simp only [S2, List.cons_append, List.nil_append]
   refine A4 rfl rfl rfl <| A4 rfl rfl rfl ?_
   refine A5 ⟨nofun, _, kS [2,3,4] [2,300002] rfl, ?_⟩
   refine B2 <| D5 (G5 rfl rfl rfl rfl (G4 rfl (H0 rfl (a1k rfl rfl (by simp) (fun _ => rfl) J1))) (D7 rfl rfl (D7 rfl rfl (E7 C4)))) ?_
   rw [b4b hnn hn, hr1]
   rfl
  rw [hn]
  refine A6 rfl rfl <| M0 rfl rfl rfl (Mv.sized_map fun _ => rfl) K4 (H4 (n := 1) rfl) (by simp) ?_
  rw [show ((List.map tV (w :: ws1)).drop 1).take ((List.map tV (w :: ws1)).length - 1) = ws1.map tV from by rw [List.map_cons, List.drop_succ_cons, List.drop_zero, List.take_of_length_le (by simp)]]
  refine A4 rfl rfl rfl ?_
  refine A5 ⟨nofun, _, kS [2,7,8,9] [2,8] rfl, ?_⟩
  refine A3 <| D8 <| K8 <| A3 <| A3 <| A0 <| A6 rfl rfl <| W0 rfl rfl ?_
  refine A5 ⟨nofun, _, kS [2,7,8,9,43] [2,8] rfl, ?_⟩
  refine A8 rfl (fun hc => ?_) (fun hc => absurd hc (by decide))
  refine B7 <| A3 <| D8 <| A3 <| A0 <| A6 rfl rfl ?_
  rcases hr1 : rdT ws1 with _ | ⟨k1, r1⟩
  ·skip
   apply C9 rfl
   ·apply B4
    ·exact B5 rfl
    exact C8
   ·exact (by have hi := ih ws1 ⟨by simp only [List.length_cons] at hws; omega, fun x hx => hws.2 x (List.mem_cons_of_mem _ hx)⟩ (by simp only [List.length_cons] at hkk; omega); rw [hr1] at hi; exact hi)
   ·exact ⟨rfl, rfl, rfl, of_decide_eq_true rfl, rfl⟩
   ·exact .inl rfl
   ·exact B8
   ·exact I7 (I6 rfl (Q8 fun _ => I6 rfl Q9))
   ·exact fun _ => D6 (B1 rfl) (by rfl)
   intro g48
   refine A6 rfl rfl <| B0 rfl rfl rfl <| B0 rfl rfl rfl <| B0 rfl rfl rfl <| H1 rfl (fun _ => C0 rfl) (fun _ => rfl) ?_
   intro g10
   refine C1 rfl rfl rfl rfl ⟨by decide, rfl, of_decide_eq_true rfl, of_decide_eq_true rfl, rfl⟩ rfl (by exact C0 rfl) ?_
   (refine B6 rfl rfl (by (simp; done)) rfl (fun _ => (B1 (by rfl))) (fun _ => rfl) ?_; intro g11)
   refine A4 rfl rfl rfl ?_
   refine A5 ⟨nofun, _, kS [2,7,8,10,11,12] [2,8,10] rfl, ?_⟩
   refine A3 <| A3 <| A0 <| A6 rfl rfl <| N2 rfl ?_
   refine A5 ⟨nofun, _, kS [2,7,8,10,11,53] [2,8,10] rfl, ?_⟩
   refine A8 rfl (fun hc => ?_) (fun hc => absurd hc (by decide))
   refine A3 <| A0 <| L2 (fs := [_, _, _]) rfl rfl rfl rfl rfl <| C1 rfl rfl rfl rfl ⟨by decide, rfl, of_decide_eq_true rfl, of_decide_eq_true rfl, rfl⟩ rfl (by exact C0 rfl) ?_
   (refine B3 rfl rfl (fun _ => rfl) ?_; intro g3)
   refine A4 rfl rfl rfl ?_
   refine A5 ⟨nofun, _, kS [2,3,4] [2,3] rfl, ?_⟩
   refine B2 <| D5 (G5 rfl rfl rfl rfl (G4 rfl (H0 rfl (H0 rfl J1))) (G2 rfl rfl (by simp) (by rfl) (D7 rfl rfl (E7 C4)))) ?_
   rw [a3q hnn hn, hr1]
   rfl
  skip
  apply C9 rfl
  ·apply B4
   ·exact B5 rfl
   exact C8
  ·exact (by have hi := ih ws1 ⟨by simp only [List.length_cons] at hws; omega, fun x hx => hws.2 x (List.mem_cons_of_mem _ hx)⟩ (by simp only [List.length_cons] at hkk; omega); rw [hr1] at hi; exact hi)
  ·exact ⟨rfl, rfl, rfl, of_decide_eq_true rfl, rfl⟩
  ·exact .inl rfl
  ·exact B8
  ·exact J9 rfl
  ·exact fun _ => rfl
  intro g48
  refine A6 rfl rfl <| B0 rfl rfl rfl <| B0 rfl rfl rfl <| B0 rfl rfl rfl <| H1 rfl (fun _ => C0 rfl) (fun _ => rfl) ?_
  intro g10
  refine C1 rfl rfl rfl rfl ⟨by decide, rfl, of_decide_eq_true rfl, of_decide_eq_true rfl, rfl⟩ rfl (by exact C0 rfl) <| A4 rfl rfl rfl <| A4 rfl rfl rfl ?_
  refine A5 ⟨nofun, _, kS [2,7,8,10,11,12] [2,8,10] rfl, ?_⟩
  refine A3 <| A3 <| A0 <| A6 rfl rfl <| N2 rfl ?_
  refine A5 ⟨nofun, _, kS [2,7,8,10,11,53] [2,8,10] rfl, ?_⟩
  refine A8 rfl (fun hc => absurd hc (by decide)) (fun hc => ?_)
  refine B7 <| A3 <| A0 <| F4 rfl rfl (by decide) rfl rfl <| G3 rfl rfl rfl rfl rfl rfl <| F5 rfl rfl rfl rfl rfl <| E8 (es := List.map trV [_]) rfl rfl (by decide) rfl rfl (fun _ => B1 (A9 fun _ => rfl)) (fun _ => rfl) ?_
  intro g58
  refine V3 rfl rfl rfl (by simp) (by decide) rfl rfl rfl (by decide) (fun _ => ⟨rfl, rfl⟩) (by simp only [H5]; (simp only [List.length_nil, List.length_cons, List.length_append, Nat.zero_add, List.length_map]; omega)) (fun _ => rfl) ?_
  intro g59
  refine F4 rfl rfl (by decide) rfl rfl <| Q4 rfl rfl rfl rfl rfl (Nat.le_refl _) rfl ?_
  refine A5 ⟨nofun, _, kS [2,7,8,11] [2,8,1000059] rfl, ?_⟩
  refine A0 <| A6 rfl rfl <| A4 rfl rfl rfl ?_
  refine A5 ⟨nofun, _, kS [2,7,8,9] [2,8,1000059] rfl, ?_⟩
  refine A0 <| A6 rfl rfl <| a8i rfl rfl (H6 (by omega)) <| A4 rfl rfl rfl ?_
  refine A5 ⟨nofun, _, kS [2,7,8,9] [2,8,1000059] rfl, ?_⟩
  refine K8 <| A3 <| A3 <| A0 <| A6 rfl rfl <| W0 rfl rfl ?_
  refine A5 ⟨nofun, _, kS [2,7,8,9,43] [2,8,1000059] rfl, ?_⟩
  refine A8 rfl (fun hc => ?_) (fun hc => absurd hc (by decide))
  refine B7 <| A3 <| D8 <| A3 <| A0 <| A6 rfl rfl ?_
  rcases hr2 : rdT r1 with _ | ⟨k2, r2⟩
  ·skip
   apply C9 rfl
   ·apply B4
    ·exact B5 rfl
    exact C8
   ·exact (by have hi := ih r1 ⟨by have := W3 hr1; simp only [List.length_cons] at hws; omega, fun x hx => hws.2 x (List.mem_cons_of_mem _ (a8z hr1 x hx))⟩ (by have := W3 hr1; simp only [List.length_cons] at hkk; omega); rw [hr2] at hi; exact hi)
   ·exact ⟨rfl, rfl, rfl, of_decide_eq_true rfl, rfl⟩
   ·exact .inl rfl
   ·exact B8
   ·exact I7 (I6 rfl (Q8 fun _ => I6 rfl Q9))
   ·exact fun _ => D6 (B1 rfl) (by rfl)
   intro g48
   refine A6 rfl rfl <| B0 rfl rfl rfl <| B0 rfl rfl rfl <| B0 rfl rfl rfl <| H1 rfl (fun _ => C0 rfl) (fun _ => rfl) ?_
   intro g10
   refine C1 rfl rfl rfl rfl ⟨by decide, rfl, of_decide_eq_true rfl, of_decide_eq_true rfl, rfl⟩ rfl (by exact C0 rfl) ?_
   (refine B6 rfl rfl (by (simp; done)) rfl (fun _ => (B1 (by rfl))) (fun _ => rfl) ?_; intro g11)
   refine A4 rfl rfl rfl ?_
   refine A5 ⟨nofun, _, kS [2,7,8,10,11,12] [2,8,1000059,10] rfl, ?_⟩
   refine A3 <| A3 <| A0 <| A6 rfl rfl <| N2 rfl ?_
   refine A5 ⟨nofun, _, kS [2,7,8,10,11,53] [2,8,1000059,10] rfl, ?_⟩
   refine A8 rfl (fun hc => ?_) (fun hc => absurd hc (by decide))
   refine A3 <| A0 <| L2 (fs := [_, _, _]) rfl rfl rfl rfl rfl <| C1 rfl rfl rfl rfl ⟨by decide, rfl, of_decide_eq_true rfl, of_decide_eq_true rfl, rfl⟩ rfl (by exact C0 rfl) ?_
   (refine B3 rfl rfl (fun _ => rfl) ?_; intro g3)
   refine A4 rfl rfl rfl ?_
   refine A5 ⟨nofun, _, kS [2,3,4] [2,3] rfl, ?_⟩
   refine B2 <| D5 (G5 rfl rfl rfl rfl (G4 rfl (H0 rfl (H0 rfl J1))) (G2 rfl rfl (by simp) (by rfl) (D7 rfl rfl (E7 C4)))) ?_
   rw [a3q hnn hn, hr1, Option.bind_some, hr2]
   rfl
  skip
  apply C9 rfl
  ·apply B4
   ·exact B5 rfl
   exact C8
  ·exact (by have hi := ih r1 ⟨by have := W3 hr1; simp only [List.length_cons] at hws; omega, fun x hx => hws.2 x (List.mem_cons_of_mem _ (a8z hr1 x hx))⟩ (by have := W3 hr1; simp only [List.length_cons] at hkk; omega); rw [hr2] at hi; exact hi)
  ·exact ⟨rfl, rfl, rfl, of_decide_eq_true rfl, rfl⟩
  ·exact .inl rfl
  ·exact B8
  ·exact J9 rfl
  ·exact fun _ => rfl
  intro g48
  refine A6 rfl rfl <| B0 rfl rfl rfl <| B0 rfl rfl rfl <| B0 rfl rfl rfl <| H1 rfl (fun _ => C0 rfl) (fun _ => rfl) ?_
  intro g10
  refine C1 rfl rfl rfl rfl ⟨by decide, rfl, of_decide_eq_true rfl, of_decide_eq_true rfl, rfl⟩ rfl (by exact C0 rfl) <| A4 rfl rfl rfl <| A4 rfl rfl rfl ?_
  refine A5 ⟨nofun, _, kS [2,7,8,10,11,12] [2,8,1000059,10] rfl, ?_⟩
  refine A3 <| A3 <| A0 <| A6 rfl rfl <| N2 rfl ?_
  refine A5 ⟨nofun, _, kS [2,7,8,10,11,53] [2,8,1000059,10] rfl, ?_⟩
  refine A8 rfl (fun hc => absurd hc (by decide)) (fun hc => ?_)
  refine B7 <| A3 <| A0 <| F4 rfl rfl (by decide) rfl rfl <| G3 rfl rfl rfl rfl rfl rfl <| F5 rfl rfl rfl rfl rfl <| E8 (es := List.map trV [_]) rfl rfl (by decide) rfl rfl (fun _ => B1 (A9 fun _ => rfl)) (fun _ => rfl) ?_
  intro g58
  refine G9 rfl rfl rfl rfl (by (simp; done)) (by simp) (by decide) rfl rfl rfl rfl (by decide) (fun _ => ⟨rfl, rfl⟩) (by simp only [H5]; (simp only [List.length_nil, List.length_cons, List.length_append, Nat.zero_add, List.length_map]; omega)) (fun _ => rfl) ?_
  intro g59
  refine F4 rfl rfl (by decide) rfl rfl <| Q4 rfl rfl rfl rfl rfl (Nat.le_refl _) rfl ?_
  refine A5 ⟨nofun, _, kS [2,7,8,11] [2,8,1000059] rfl, ?_⟩
  refine A0 <| A6 rfl rfl <| A4 rfl rfl rfl ?_
  refine A5 ⟨nofun, _, kS [2,7,8,9] [2,8,1000059] rfl, ?_⟩
  refine A0 <| A6 rfl rfl <| a8i rfl rfl (H6 (by omega)) <| A4 rfl rfl rfl ?_
  refine A5 ⟨nofun, _, kS [2,7,8,9] [2,8,1000059] rfl, ?_⟩
  refine K8 <| A3 <| A3 <| A0 <| A6 rfl rfl <| W0 rfl rfl ?_
  refine A5 ⟨nofun, _, kS [2,7,8,9,43] [2,8,1000059] rfl, ?_⟩
  refine A8 rfl (fun hc => absurd hc (by decide)) (fun hc => ?_)
  refine I4 <| A3 <| A0 <| F5 rfl rfl rfl rfl rfl <| A6 rfl rfl <| J4 rfl rfl rfl rfl (M9 rfl (M9 rfl (a9e (by decide) (by decide) rfl (by simp) fun _ => Z2))) (fun _ => rfl) ⟨by decide, rfl, of_decide_eq_true rfl, Nat.le_refl _⟩ (fun _ => rfl) (fun _ => rfl) (fun _ => D6 (by rfl) (D6 (B1 (A9 fun _ => rfl)) (by rfl))) ?_
  intro z
  simp only [S2, List.cons_append, List.nil_append]
  refine A4 rfl rfl rfl <| A4 rfl rfl rfl ?_
  refine A5 ⟨nofun, _, kS [2,3,4] [2,300002] rfl, ?_⟩
  refine B2 <| D5 (G5 rfl rfl rfl rfl (G4 rfl (H0 rfl (a1k rfl rfl (by simp) (fun _ => rfl) J1))) (D7 rfl rfl (D7 rfl rfl (E7 C4)))) ?_
  rw [a3q hnn hn, hr1, Option.bind_some, hr2]
  rfl

theorem keep_s_readPlan : G0 Tryd.f23 = [0, 2, 3, 4, 17, 6, 7, 5, 21] := by kernel_rfl
set_option maxHeartbeats 20000000 in
theorem c0y (s : List UInt8) (hs : s.length ≤ 1048576) : CW cxT 23 [tV s] = some (.tup [trV (rpT s), bV (rdPlan s).isSome], []) := by
 obtain ⟨ws, hws⟩ : ∃ ws, ws = splitB 32 s := ⟨_, rfl⟩
 have hwl := R6 32 s
 have hwp := W7 32 s
 rw [← hws] at hwl hwp
 refine F6 rfl Tryd.func23 rfl ⟨by kernel_rfl, rfl, of_decide_eq_true rfl, of_decide_eq_true rfl, by decide⟩ keep_s_readPlan <| A3 <| A0 <| H1 rfl (fun _ => C0 rfl) (fun _ => rfl) ?_
 intro g2
 refine A4 rfl rfl rfl ?_
 refine A5 ⟨nofun, _, kS [0,2] [2] rfl, ?_⟩
 refine A3 <| A0 <| A6 rfl rfl ?_
 apply C9 rfl
 ·apply B4
  ·exact B5 rfl
  apply B4
  ·exact B5 rfl
  exact C8
 ·exact b3m s (by omega) 32
 ·exact ⟨rfl, rfl, rfl, of_decide_eq_true rfl, rfl⟩
 ·exact .inl rfl
 ·exact B8
 ·exact O2
 ·exact fun _ => rfl
 intro g9
 rw [← hws]
 try simp only [List.length_map]
 (refine B6 rfl rfl (by (simp; done)) rfl (fun _ => (B1 (by exact A9 fun _ => rfl))) (fun _ => rfl) ?_; intro g4)
 refine A5 ⟨nofun, _, kS [0,2,4] [2,4] rfl, ?_⟩
 refine A3 <| A3 <| A0 <| A6 rfl rfl <| a3b rfl rfl <| W0 rfl rfl <| A6 rfl rfl ?_
 refine E4 rfl rfl (fun hg0 => ?_) (fun hg0 => ?_)
 ·have hg := hg0; try simp only [SG] at hg
  refine A6 rfl rfl <| gT rfl rfl <| Y9 rfl rfl <| gT rfl rfl <| W0 rfl rfl <| G7 rfl (by assumption) rfl rfl ?_
  refine A5 ⟨nofun, _, kS [2,4,17] [2,4] rfl, ?_⟩
  refine A8 rfl (fun hc => ?_) (fun hc => ?_)
  ·try simp only [SG, List.length_map] at hc
   refine A3 <| A0 <| L2 (fs := [_, _, _]) rfl rfl rfl rfl rfl <| C1 rfl rfl rfl rfl ⟨by decide, rfl, of_decide_eq_true rfl, of_decide_eq_true rfl, rfl⟩ rfl (by exact C0 rfl) <| A4 rfl rfl rfl ?_
   refine A5 ⟨nofun, _, kS [2,3] [2] rfl, ?_⟩
   refine B2 <| D5 (G5 rfl rfl rfl rfl (G4 rfl (H0 rfl (H0 rfl J1))) (D7 rfl rfl (E7 C4))) ?_
   obtain ⟨h1, h2⟩ := b0k (s := s) (by rw [hws] at *; omega)
   rw [h1, h2]
   rfl
  try simp only [SG, List.length_map] at hc
  have hin := c3n hws (by omega)
  refine B7 <| A3 <| A0 <| A6 rfl rfl ?_
  rcases hr : rdT ws with _ | ⟨t, r⟩
  ·skip
   apply C9 rfl
   ·apply B4
    ·exact a0a rfl rfl (by (simp; done)) (fun _ => rfl)
    exact C8
   ·exact (by have hi := b1f ws ⟨by omega, fun w hw => by have := hwp w hw; omega⟩; rw [hr] at hi; exact hi)
   ·exact ⟨rfl, rfl, rfl, of_decide_eq_true rfl, rfl⟩
   ·exact .inl rfl
   ·exact B8
   ·exact I7 (I6 rfl (Q8 fun _ => I6 rfl Q9))
   ·exact fun _ => D6 (a3p (A9 fun _ => rfl) (by decide)) (by rfl)
   intro g21
   refine A6 rfl rfl <| B0 rfl rfl rfl <| B0 rfl rfl rfl <| B0 rfl rfl rfl <| H1 rfl (fun _ => C0 rfl) (fun _ => rfl) ?_
   intro g5
   refine C1 rfl rfl rfl rfl ⟨by decide, rfl, of_decide_eq_true rfl, of_decide_eq_true rfl, rfl⟩ rfl (by exact C0 rfl) ?_
   (refine B6 rfl rfl (by (simp; done)) rfl (fun _ => (B1 (by rfl))) (fun _ => rfl) ?_; intro g6)
   refine A4 rfl rfl rfl ?_
   refine A5 ⟨nofun, _, kS [2,5,6,7] [2,5] rfl, ?_⟩
   refine A3 <| A0 <| F5 rfl rfl rfl rfl rfl <| A6 rfl rfl <| A6 rfl rfl <| G8 rfl rfl rfl <| G8 rfl rfl rfl <| G8 rfl rfl rfl <| G7 rfl rfl rfl rfl <| C1 rfl rfl rfl rfl ⟨by decide, rfl, of_decide_eq_true rfl, of_decide_eq_true rfl, rfl⟩ rfl (by exact C0 rfl) <| A4 rfl rfl rfl ?_
   refine A5 ⟨nofun, _, kS [2,3] [2] rfl, ?_⟩
   refine B2 <| D5 (G5 rfl rfl rfl rfl (G4 rfl (G4 rfl (G4 rfl J1))) (D7 rfl rfl (E7 C4))) ?_
   obtain ⟨h1, h2⟩ := hin.1 hr
   rw [h1, h2]
   rfl
  skip
  apply C9 rfl
  ·apply B4
   ·exact a0a rfl rfl (by (simp; done)) (fun _ => rfl)
   exact C8
  ·exact (by have hi := b1f ws ⟨by omega, fun w hw => by have := hwp w hw; omega⟩; rw [hr] at hi; exact hi)
  ·exact ⟨rfl, rfl, rfl, of_decide_eq_true rfl, rfl⟩
  ·exact .inl rfl
  ·exact B8
  ·exact J9 rfl
  ·exact fun _ => D6 (a3p (A9 fun _ => rfl) (by decide)) (by rfl)
  intro g21
  refine A6 rfl rfl <| B0 rfl rfl rfl <| B0 rfl rfl rfl <| B0 rfl rfl rfl <| H1 rfl (fun _ => C0 rfl) (fun _ => rfl) ?_
  intro g5
  refine C1 rfl rfl rfl rfl ⟨by decide, rfl, of_decide_eq_true rfl, of_decide_eq_true rfl, rfl⟩ rfl (by exact C0 rfl) <| A4 rfl rfl rfl <| A4 rfl rfl rfl ?_
  refine A5 ⟨nofun, _, kS [2,5,6,7] [2,5] rfl, ?_⟩
  refine A3 <| A0 <| F5 rfl rfl rfl rfl rfl <| A6 rfl rfl <| A6 rfl rfl <| S6 rfl rfl rfl <| A6 rfl rfl <| S6 rfl rfl rfl <| I8 rfl rfl <| S6 rfl rfl rfl <| b0g rfl rfl <| G1 rfl rfl rfl rfl <| C1 rfl rfl rfl rfl ⟨by decide, rfl, of_decide_eq_true rfl, of_decide_eq_true rfl, rfl⟩ rfl (by exact C0 rfl) <| A4 rfl rfl rfl ?_
  refine A5 ⟨nofun, _, kS [2,3] [2] rfl, ?_⟩
  refine B2 <| D5 (G5 rfl rfl rfl rfl (G4 rfl (G4 rfl (G4 rfl J1))) (D7 rfl rfl (E7 C4))) ?_
  obtain ⟨h1, h2⟩ := hin.2 t r hr
  rw [h1, h2]
  rfl
 have hg := hg0; try simp only [SG] at hg
 refine gF rfl rfl <| gF rfl rfl <| G1 rfl (by assumption) rfl rfl ?_
 refine A5 ⟨nofun, _, kS [2,4,17] [2,4] rfl, ?_⟩
 refine A8 rfl (fun hc => ?_) (fun hc => absurd hc (by decide))
 refine A3 <| A0 <| L2 (fs := [_, _, _]) rfl rfl rfl rfl rfl <| C1 rfl rfl rfl rfl ⟨by decide, rfl, of_decide_eq_true rfl, of_decide_eq_true rfl, rfl⟩ rfl (by exact C0 rfl) <| A4 rfl rfl rfl ?_
 refine A5 ⟨nofun, _, kS [2,3] [2] rfl, ?_⟩
 refine B2 <| D5 (G5 rfl rfl rfl rfl (G4 rfl (H0 rfl (H0 rfl J1))) (D7 rfl rfl (E7 C4))) ?_
 obtain ⟨h1, h2⟩ := b0k (s := s) (by rw [hws] at *; omega)
 rw [h1, h2]
 rfl

theorem keep_s_numbers : G0 Tryd.f54 = [0, 2, 8, 7, 9, 6, 5, 3] := by kernel_rfl
set_option maxHeartbeats 20000000 in
theorem c5e (ns : List Int) (hl : ns.length ≤ 1000000) (hnb : ∀ n ∈ ns, -1000000 ≤ n ∧ n ≤ 1000000) : CW cxT 54 [L ns] = some (tV (M7 ns), []) := by
 have hg := fun (i : Nat) (h : i < ns.length) => hnb _ (a2y h)
 have hll := a0u (ns := ns) hnb
 refine F6 rfl Tryd.func54 rfl ⟨by kernel_rfl, rfl, of_decide_eq_true rfl, of_decide_eq_true rfl, by decide⟩ keep_s_numbers <| A3 <| A0 <| A4 rfl rfl rfl ?_
 refine A5 ⟨nofun, _, kS [0] [] rfl, ?_⟩
 refine A3 <| A0 ?_
 (refine B3 rfl rfl (fun _ => rfl) ?_; intro g3)
 refine A5 ⟨nofun, _, kS [0,3] [3] rfl, ?_⟩
 refine A3 <| A3 <| A0 <| A6 rfl rfl <| I8 rfl rfl <| A6 rfl rfl ?_
 refine A5 ⟨nofun, _, kS [3,6,7,8] [3] rfl, ?_⟩
 refine D8 <| L0 (β := Nat × List (List UInt8) × Nat) [(.t 6, _), (.t 7, _)] (fun (z : Nat × List (List UInt8) × Nat) => match z with | (i, ps, g) => [(.t 8, iV i), (.t 3, .sl 3 g none 0 ps.length), (.h 3, .obj g 0 1 (ps.map tV))]) (fun (z : Nat × List (List UInt8) × Nat) => match z with | (i, ps, g) => i ≤ ns.length ∧ ps = (ns.take i).map dec) (fun (z : Nat × List (List UInt8) × Nat) => match z with | (i, ps, g) => ns.length - i) (0, [], _) ⟨rfl, rfl, rfl, rfl, rfl, trivial⟩ ⟨Nat.zero_le _, rfl⟩ ?_
 intro z hb
 obtain ⟨i, ps, g⟩ := z
 try dsimp only at hb
 obtain ⟨hi1, hps⟩ := hb
 have hpl : ps.length = i := by rw [hps]; simp; omega
 refine A3 <| A0 <| K9 rfl rfl ?_
 refine A5 ⟨nofun, _, kS [3,6,7,8,9] [3] rfl, ?_⟩
 refine A3 ?_
 refine A8 rfl (fun hc => ?_) (fun hc => ?_)
 ·try simp only [SG, List.length_map] at hc
  refine B7 <| A3 <| D8 <| A3 <| A0 <| G6 rfl rfl rfl (fun _ => rfl) (by omega) <| H3 rfl rfl rfl <| A4 rfl rfl rfl ?_
  refine A5 ⟨nofun, _, kS [3,5,6,7,8] [3] rfl, ?_⟩
  refine A0 <| A6 rfl rfl <| A6 rfl rfl ?_
  have hgi := hg i (by omega)
  apply C9 rfl
  ·apply B4
   ·exact B5 rfl
   exact C8
  ·exact d1u (ns.getD i default) (by omega)
  ·exact ⟨rfl, rfl, rfl, of_decide_eq_true rfl, rfl⟩
  ·exact .inl rfl
  ·exact B8
  ·exact D4 rfl
  ·exact fun _ => rfl
  intro g14
  refine E8 (es := List.map tV [_]) rfl rfl (by decide) rfl rfl (fun _ => B1 (A9 fun _ => rfl)) (fun _ => rfl) ?_
  intro g15
  refine G9 rfl rfl rfl rfl (by (simp; done)) (by simp) (by decide) rfl rfl rfl rfl (by decide) (fun _ => ⟨rfl, rfl⟩) (by simp only [H5]; (simp only [List.length_nil, List.length_cons, List.length_append, Nat.zero_add, List.length_map]; omega)) (fun _ => rfl) ?_
  intro g16
  (refine B6 rfl rfl (by (simp; done)) rfl (fun _ => (B1 (by exact A9 fun _ => rfl))) (fun _ => rfl) ?_; intro g3)
  refine A5 ⟨nofun, _, kS [3,6,7,8] [3] rfl, ?_⟩
  refine A0 <| L4 rfl rfl (H6 (by omega)) <| A6 rfl rfl ?_
  refine A5 ⟨nofun, _, kS [3,6,7,8] [3] rfl, ?_⟩
  refine ⟨(i + 1, ps ++ [dec (ns.getD i default)], _), ?_, (by simp only; omega), ⟨rfl, rfl, rfl, rfl, rfl, trivial⟩⟩
  exact ⟨by omega, by rw [hps, ← b2p (by omega)]⟩
 try simp only [SG, List.length_map] at hc
 refine I4 <| A3 <| A0 <| A6 rfl rfl ?_
 have hpe : ps = ns.map dec := by rw [hps, List.take_of_length_le (by omega)]
 have hje : joinB 44 ps = M7 ns := by rw [hpe]; rfl
 apply C9 rfl
 ·apply B4
  ·exact K2 rfl rfl rfl (by (simp; done)) (fun _ => rfl)
  apply B4
  ·exact B5 rfl
  exact C8
 ·exact d1t ps 44 (by simp only [H5]; omega) (by rw [hje]; simp only [H5]; omega)
 ·exact ⟨rfl, rfl, rfl, of_decide_eq_true rfl, rfl⟩
 ·exact .inr ⟨rfl, rfl⟩
 ·exact B8
 ·exact D4 rfl
 ·exact fun _ => rfl
 intro g19
 refine A4 rfl rfl rfl ?_
 refine A5 ⟨nofun, _, kS [2] [] rfl, ?_⟩
 refine B2 <| C6 rfl rfl trivial ?_
 rw [hje]

theorem keep_s_listTextI : G0 Tryd.f42 = [0, 2] := by kernel_rfl
set_option maxHeartbeats 20000000 in
theorem a2t (ns : List Int) (hl : ns.length ≤ 1000000) (hnb : ∀ n ∈ ns, -1000000 ≤ n ∧ n ≤ 1000000) : CW cxT 42 [L ns] = some (tV (T4 ns), []) := by
 have hll := a0u (ns := ns) hnb
 refine F6 rfl Tryd.func42 rfl ⟨by kernel_rfl, rfl, of_decide_eq_true rfl, of_decide_eq_true rfl, by decide⟩ keep_s_listTextI <| A3 <| A0 <| A4 rfl rfl rfl ?_
 refine A5 ⟨nofun, _, kS [0] [] rfl, ?_⟩
 refine A3 <| A0 <| A6 rfl rfl ?_
 apply C9 rfl
 ·apply B4
  ·exact B5 rfl
  exact C8
 ·exact c5e ns hl hnb
 ·exact ⟨rfl, rfl, rfl, of_decide_eq_true rfl, rfl⟩
 ·exact .inl rfl
 ·exact B8
 ·exact D4 rfl
 ·exact fun _ => rfl
 intro g4
 refine Z0 rfl rfl (by simp only [H5, List.length_append, List.length_cons, List.length_nil]; omega) <| Z0 rfl rfl (by simp only [H5, List.length_append, List.length_cons, List.length_nil]; omega) <| A4 rfl rfl rfl ?_
 refine A5 ⟨nofun, _, kS [2] [] rfl, ?_⟩
 refine B2 <| C6 rfl rfl trivial ?_
 rfl

theorem keep_s_readListI : G0 Tryd.f72 = [0, 2, 3, 4, 6, 5, 27, 29, 33, 32, 34, 31, 9, 11, 43, 10, 7] := by kernel_rfl
set_option maxHeartbeats 20000000 in
theorem b9j (w : List UInt8) (hs : w.length ≤ 1048576) : CW cxT 72 [tV w] = some (.tup [.own 1 ((rlX w).map iV), bV (okI w)], []) := by
 have hc1 := c7s 91 w
 have hc2 := c7f 93 (a2b 91 w)
 refine F6 rfl Tryd.func72 rfl ⟨by kernel_rfl, rfl, of_decide_eq_true rfl, of_decide_eq_true rfl, by decide⟩ keep_s_readListI <| A3 <| A0 ?_
 (refine B3 rfl rfl (fun _ => rfl) ?_; intro g2)
 refine A4 rfl rfl rfl ?_
 refine A5 ⟨nofun, _, kS [0] [] rfl, ?_⟩
 refine A3 <| A0 <| A6 rfl rfl ?_
 apply C9 rfl
 ·apply B4
  ·exact B5 rfl
  apply B4
  ·exact B5 rfl
  exact C8
 ·exact d0x w 91
 ·exact ⟨rfl, rfl, rfl, of_decide_eq_true rfl, rfl⟩
 ·exact .inl rfl
 ·exact B8
 ·exact J9 rfl
 ·exact fun _ => rfl
 intro g14
 refine A6 rfl rfl <| B0 rfl rfl rfl <| B0 rfl rfl rfl <| A4 rfl rfl rfl <| A4 rfl rfl rfl ?_
 refine A5 ⟨nofun, _, kS [0,4,5] [] rfl, ?_⟩
 refine A3 <| A0 <| A6 rfl rfl ?_
 apply C9 rfl
 ·apply B4
  ·exact B5 rfl
  apply B4
  ·exact B5 rfl
  exact C8
 ·exact d0s (a2b 91 w) 93 (by omega)
 ·exact ⟨rfl, rfl, rfl, of_decide_eq_true rfl, rfl⟩
 ·exact .inl rfl
 ·exact B8
 ·exact J9 rfl
 ·exact fun _ => rfl
 intro g19
 refine A6 rfl rfl <| B0 rfl rfl rfl <| B0 rfl rfl rfl <| A4 rfl rfl rfl <| A4 rfl rfl rfl ?_
 refine A5 ⟨nofun, _, kS [0,4,5,6] [] rfl, ?_⟩
 refine A3 <| A3 <| A0 <| A6 rfl rfl <| N2 rfl <| A6 rfl rfl ?_
 refine E4 rfl rfl (fun hg0 => ?_) (fun hg0 => ?_)
 ·have hg := hg0; try simp only [SG] at hg
  refine A6 rfl rfl <| gT rfl rfl <| N2 rfl <| G7 rfl (by assumption) rfl rfl ?_
  refine A5 ⟨nofun, _, kS [0,4,27] [] rfl, ?_⟩
  refine A8 rfl (fun hc => ?_) (fun hc => ?_)
  ·try simp only [SG, List.length_map] at hc
   refine A3 <| A0 ?_
   (refine B3 rfl rfl (fun _ => rfl) ?_; intro g2)
   refine A4 rfl rfl rfl ?_
   refine A5 ⟨nofun, _, kS [2,3] [2] rfl, ?_⟩
   refine B2 <| D5 (G2 rfl rfl (by simp) (by rfl) (D7 rfl rfl (E7 C4))) ?_
   obtain ⟨h1, h2⟩ := b4d (b7t (w := w) (by simp_all [okB]))
   rw [h1, h2]
   rfl
  try simp only [SG, List.length_map] at hc
  have hok : okB w = true := by simp [okB]; constructor <;> assumption
  obtain ⟨ps, hps0⟩ : ∃ ps, ps = splitB 44 (a2g w) := ⟨_, rfl⟩
  have hpl := R6 44 (a2g w)
  have hpp := W7 44 (a2g w)
  rw [← hps0] at hpl hpp
  have hil := c5z hok
  refine B7 <| A3 <| A0 ?_
  (refine B3 rfl rfl (fun _ => rfl) ?_; intro g7)
  refine A5 ⟨nofun, _, kS [0,4,7] [7] rfl, ?_⟩
  refine A3 <| A3 <| A0 <| A6 rfl rfl <| a8j rfl rfl ?_
  refine A5 ⟨nofun, _, kS [0,4,7,29] [7] rfl, ?_⟩
  refine A8 rfl (fun hc => ?_) (fun hc => ?_)
  ·try simp only [SG, List.length_map] at hc
   have hin : a2g w ≠ [] := hc
   refine A3 <| A0 <| A6 rfl rfl ?_
   have hps := hps0
   apply C9 rfl
   ·apply B4
    ·exact B5 rfl
    apply B4
    ·exact B5 rfl
    exact C8
   ·exact c2z (a2g w) 44 (by unfold a2g; omega)
   ·exact ⟨rfl, rfl, rfl, of_decide_eq_true rfl, rfl⟩
   ·exact .inl rfl
   ·exact B8
   ·exact O2
   ·(intro _; exact D6 (B1 (A9 fun _ => rfl)) rfl)
   intro g31
   rw [← hps]
   try simp only [List.length_map]
   refine Y9 rfl rfl <| A6 rfl rfl ?_
   refine A5 ⟨nofun, _, kS [0,7,31,32,33] [7,1000031] rfl, ?_⟩
   refine D8 <| L0 (β := Nat × List Int × Nat) [(.t 0, _), (.t 31, _), (.t 32, _), (.h 1000031, _)] (fun (z : Nat × List Int × Nat) => match z with | (i, ns, g) => [(.t 33, iV i), (.t 7, .sl 7 g none 0 ns.length), (.h 7, .obj g 0 1 (ns.map iV))]) (fun (z : Nat × List Int × Nat) => match z with | (i, ns, g) => i ≤ ps.length ∧ rdA (ps.take i) = some ns) (fun (z : Nat × List Int × Nat) => match z with | (i, ns, g) => ps.length - i) (0, [], _) ⟨rfl, rfl, rfl, rfl, rfl, rfl, rfl, trivial⟩ ⟨Nat.zero_le _, rfl⟩ ?_
   intro z hb
   obtain ⟨i, ns, g⟩ := z
   try dsimp only at hb
   obtain ⟨hi1, hrd⟩ := hb
   have hpi := fun h : i < ps.length => hpp _ (a0r h)
   have hnl := b0u hrd
   rw [List.length_take] at hnl
   refine A3 <| A0 <| K9 rfl rfl ?_
   refine A5 ⟨nofun, _, kS [0,7,31,32,33,34] [7,1000031] rfl, ?_⟩
   refine A3 ?_
   refine A8 rfl (fun hc => ?_) (fun hc => ?_)
   ·try simp only [SG, List.length_map] at hc
    refine B7 <| A3 <| D8 <| A3 <| A0 <| S5 rfl rfl rfl rfl (by omega) (by (simp; done)) rfl <| W6 rfl rfl (by omega) (fun _ => rfl) (fun _ => rfl) rfl <| A4 rfl rfl rfl ?_
    refine A5 ⟨nofun, _, kS [0,7,9,31,32,33] [7,1000031] rfl, ?_⟩
    refine A3 <| A0 <| A6 rfl rfl ?_
    rcases hat : Lib.atoiAll (ps.getD i default) with v | _ | _
    ·skip
     apply C9 rfl
     ·apply B4
      ·exact B5 rfl
      exact C8
     ·exact (by have hi := c1k (ps.getD i default) (by omega); unfold atR at hi; rw [hat] at hi; exact hi)
     ·exact ⟨rfl, rfl, rfl, of_decide_eq_true rfl, rfl⟩
     ·exact .inl rfl
     ·exact B8
     ·exact J9 rfl
     ·exact fun _ => rfl
     intro g39
     refine A6 rfl rfl <| B0 rfl rfl rfl <| B0 rfl rfl rfl <| A4 rfl rfl rfl <| A4 rfl rfl rfl ?_
     refine A5 ⟨nofun, _, kS [0,7,10,11,31,32,33] [7,1000031] rfl, ?_⟩
     refine A3 <| A3 <| A0 <| A6 rfl rfl <| c6t rfl rfl rfl rfl ?_
     refine A5 ⟨nofun, _, kS [0,7,10,31,32,33,43] [7,1000031] rfl, ?_⟩
     refine A8 rfl (fun hc => absurd hc (by decide)) (fun hc => ?_)
     refine B7 <| A0 <| A6 rfl rfl <| A6 rfl rfl <| E8 (es := List.map iV [_]) rfl rfl (by decide) rfl rfl (fun _ => B1 (A9 fun _ => rfl)) (fun _ => rfl) ?_
     intro g46
     refine G9 rfl rfl rfl rfl (by (simp; done)) (by simp) (by decide) rfl rfl rfl rfl (by decide) (fun _ => ⟨rfl, rfl⟩) (by simp only [H5]; (simp only [List.length_nil, List.length_cons, List.length_append, Nat.zero_add, List.length_map]; omega)) (fun _ => rfl) ?_
     intro g47
     (refine B6 rfl rfl (by (simp; done)) rfl (fun _ => (B1 (by exact A9 fun _ => rfl))) (fun _ => rfl) ?_; intro g7)
     refine A5 ⟨nofun, _, kS [0,7,31,32,33] [7,1000031] rfl, ?_⟩
     refine A0 <| L4 rfl rfl (H6 (by omega)) <| A6 rfl rfl ?_
     refine A5 ⟨nofun, _, kS [0,7,31,32,33] [7,1000031] rfl, ?_⟩
     refine ⟨(i + 1, ns ++ [v], _), ?_, (by simp only; omega), ⟨rfl, rfl, rfl, rfl, rfl, rfl, rfl, trivial⟩⟩
     exact ⟨by omega, c5r (by omega) hrd hat⟩
    ·skip
     apply C9 rfl
     ·apply B4
      ·exact B5 rfl
      exact C8
     ·exact (by have hi := c1k (ps.getD i default) (by omega); unfold atR at hi; rw [hat] at hi; exact hi)
     ·exact ⟨rfl, rfl, rfl, of_decide_eq_true rfl, rfl⟩
     ·exact .inl rfl
     ·exact B8
     ·exact J9 rfl
     ·exact fun _ => rfl
     intro g39
     refine A6 rfl rfl <| B0 rfl rfl rfl <| B0 rfl rfl rfl <| A4 rfl rfl rfl <| A4 rfl rfl rfl ?_
     refine A5 ⟨nofun, _, kS [0,7,10,11,31,32,33] [7,1000031] rfl, ?_⟩
     refine A3 <| A3 <| A0 <| A6 rfl rfl <| b7f rfl rfl rfl ?_
     refine A5 ⟨nofun, _, kS [0,7,10,31,32,33,43] [7,1000031] rfl, ?_⟩
     refine A8 rfl (fun hc => ?_) (fun hc => absurd hc (by decide))
     refine A3 <| A0 ?_
     (refine B3 rfl rfl (fun _ => rfl) ?_; intro g2)
     refine A4 rfl rfl rfl ?_
     refine A5 ⟨nofun, _, kS [2,3] [2] rfl, ?_⟩
     refine B2 <| D5 (G2 rfl rfl (by simp) (by rfl) (D7 rfl rfl (E7 C4))) ?_
     obtain ⟨h1, h2⟩ := b4d (w := w) (by rw [a9h hok hin, ← hps0]; exact b8u (i := i) (by omega) (by intro v hv; rw [hat] at hv; cases hv))
     rw [h1, h2]
     rfl
    skip
    apply C9 rfl
    ·apply B4
     ·exact B5 rfl
     exact C8
    ·exact (by have hi := c1k (ps.getD i default) (by omega); unfold atR at hi; rw [hat] at hi; exact hi)
    ·exact ⟨rfl, rfl, rfl, of_decide_eq_true rfl, rfl⟩
    ·exact .inl rfl
    ·exact B8
    ·exact J9 rfl
    ·exact fun _ => rfl
    intro g39
    refine A6 rfl rfl <| B0 rfl rfl rfl <| B0 rfl rfl rfl <| A4 rfl rfl rfl <| A4 rfl rfl rfl ?_
    refine A5 ⟨nofun, _, kS [0,7,10,11,31,32,33] [7,1000031] rfl, ?_⟩
    refine A3 <| A3 <| A0 <| A6 rfl rfl <| b7f rfl rfl rfl ?_
    refine A5 ⟨nofun, _, kS [0,7,10,31,32,33,43] [7,1000031] rfl, ?_⟩
    refine A8 rfl (fun hc => ?_) (fun hc => absurd hc (by decide))
    refine A3 <| A0 ?_
    (refine B3 rfl rfl (fun _ => rfl) ?_; intro g2)
    refine A4 rfl rfl rfl ?_
    refine A5 ⟨nofun, _, kS [2,3] [2] rfl, ?_⟩
    refine B2 <| D5 (G2 rfl rfl (by simp) (by rfl) (D7 rfl rfl (E7 C4))) ?_
    obtain ⟨h1, h2⟩ := b4d (w := w) (by rw [a9h hok hin, ← hps0]; exact b8u (i := i) (by omega) (by intro v hv; rw [hat] at hv; cases hv))
    rw [h1, h2]
    rfl
   try simp only [SG, List.length_map] at hc
   refine I4 <| A3 <| A0 <| A6 rfl rfl <| A6 rfl rfl ?_
   apply C9 rfl
   ·apply B4
    ·exact K2 rfl rfl rfl (by (simp; done)) (fun _ => rfl)
    exact C8
   ·exact a6a ns (by omega)
   ·exact ⟨rfl, rfl, rfl, of_decide_eq_true rfl, rfl⟩
   ·exact .inr ⟨rfl, rfl⟩
   ·exact B8
   ·exact D4 rfl
   ·exact fun _ => rfl
   intro g51
   refine A6 rfl rfl ?_
   refine E4 rfl rfl (fun hg0 => ?_) (fun hg0 => ?_)
   ·have hg := hg0; try simp only [SG] at hg
    refine A6 rfl rfl <| gT rfl rfl ?_
    (have hnb := c6p (ns := ns) (by assumption); have hvl := c1r (show vd ns = true by assumption))
    apply C9 rfl
    ·apply B4
     ·exact K2 rfl rfl rfl (by (simp; done)) (fun _ => rfl)
     exact C8
    ·exact a2t ns (by omega) hnb
    ·exact ⟨rfl, rfl, rfl, of_decide_eq_true rfl, rfl⟩
    ·exact .inr ⟨rfl, rfl⟩
    ·exact B8
    ·exact D4 rfl
    ·exact fun _ => rfl
    intro g54
    refine gT rfl rfl <| A6 rfl rfl <| gT rfl rfl <| a8e rfl rfl <| G1 rfl (by assumption) rfl rfl ?_
    (refine B6 rfl rfl (by (simp; done)) rfl (fun _ => (B1 (by exact A9 fun _ => rfl))) (fun _ => rfl) ?_; intro g2)
    refine A4 rfl rfl rfl ?_
    refine A5 ⟨nofun, _, kS [2,3] [2] rfl, ?_⟩
    refine B2 <| D5 (G2 rfl rfl (by simp) (by exact A9 fun _ => rfl) (D7 rfl rfl (E7 C4))) ?_
    (have hx := hin; obtain ⟨h1, h2⟩ := a5c (ns := ns) (w := w) (by rw [a9h hok hx, ← hps0]; rw [List.take_of_length_le (by omega)] at hrd; exact hrd))
    (rw [h1, h2, hg, Bool.true_and]; rfl)
   have hg := hg0; try simp only [SG] at hg
   refine gF rfl rfl <| gF rfl rfl <| gF rfl rfl <| G7 rfl (by assumption) rfl rfl ?_
   (refine B6 rfl rfl (by (simp; done)) rfl (fun _ => (B1 (by exact A9 fun _ => rfl))) (fun _ => rfl) ?_; intro g2)
   refine A4 rfl rfl rfl ?_
   refine A5 ⟨nofun, _, kS [2,3] [2] rfl, ?_⟩
   refine B2 <| D5 (G2 rfl rfl (by simp) (by exact A9 fun _ => rfl) (D7 rfl rfl (E7 C4))) ?_
   (have hx := hin; obtain ⟨h1, h2⟩ := a5c (ns := ns) (w := w) (by rw [a9h hok hx, ← hps0]; rw [List.take_of_length_le (by omega)] at hrd; exact hrd))
   (rw [h1, h2, hg, Bool.false_and]; rfl)
  try simp only [SG, List.length_map] at hc
  have hie : a2g w = [] := hc
  refine B7 <| A3 <| A0 <| A6 rfl rfl <| A6 rfl rfl ?_
  apply C9 rfl
  ·apply B4
   ·exact b5f rfl rfl rfl rfl rfl
   exact C8
  ·exact a6a [] (by decide)
  ·exact ⟨rfl, rfl, rfl, of_decide_eq_true rfl, rfl⟩
  ·exact .inr ⟨rfl, rfl⟩
  ·exact B8
  ·exact D4 rfl
  ·exact fun _ => rfl
  intro g51
  refine A6 rfl rfl ?_
  refine E4 rfl rfl (fun hg0 => ?_) (fun hg0 => ?_)
  ·have hg := hg0; try simp only [SG] at hg
   refine A6 rfl rfl <| gT rfl rfl ?_
   skip
   apply C9 rfl
   ·apply B4
    ·exact b5f rfl rfl rfl rfl rfl
    exact C8
   ·exact a2t [] (by decide) (by simp)
   ·exact ⟨rfl, rfl, rfl, of_decide_eq_true rfl, rfl⟩
   ·exact .inr ⟨rfl, rfl⟩
   ·exact B8
   ·exact D4 rfl
   ·exact fun _ => rfl
   intro g54
   refine gT rfl rfl <| A6 rfl rfl <| gT rfl rfl <| a8e rfl rfl <| G1 rfl rfl rfl rfl ?_
   (refine B6 rfl rfl (by (simp; done)) rfl (fun _ => (B1 (by rfl))) (fun _ => rfl) ?_; intro g2)
   refine A4 rfl rfl rfl ?_
   refine A5 ⟨nofun, _, kS [2,3] [2] rfl, ?_⟩
   refine B2 <| D5 (G2 rfl rfl (by simp) (by rfl) (D7 rfl rfl (E7 C4))) ?_
   obtain ⟨h1, h2⟩ := a5c (ns := []) (w := w) (c2a hok hie)
   (rw [h1, h2, hg, Bool.true_and]; rfl)
  have hg := hg0; try simp only [SG] at hg
  refine gF rfl rfl <| gF rfl rfl <| gF rfl rfl <| G7 rfl (by assumption) rfl rfl ?_
  (refine B6 rfl rfl (by (simp; done)) rfl (fun _ => (B1 (by rfl))) (fun _ => rfl) ?_; intro g2)
  refine A4 rfl rfl rfl ?_
  refine A5 ⟨nofun, _, kS [2,3] [2] rfl, ?_⟩
  refine B2 <| D5 (G2 rfl rfl (by simp) (by rfl) (D7 rfl rfl (E7 C4))) ?_
  obtain ⟨h1, h2⟩ := a5c (ns := []) (w := w) (c2a hok hie)
  (rw [h1, h2, hg, Bool.false_and]; rfl)
 have hg := hg0; try simp only [SG] at hg
 refine gF rfl rfl <| G1 rfl (by assumption) rfl rfl ?_
 refine A5 ⟨nofun, _, kS [0,4,27] [] rfl, ?_⟩
 refine A8 rfl (fun hc => ?_) (fun hc => absurd hc (by decide))
 refine A3 <| A0 ?_
 (refine B3 rfl rfl (fun _ => rfl) ?_; intro g2)
 refine A4 rfl rfl rfl ?_
 refine A5 ⟨nofun, _, kS [2,3] [2] rfl, ?_⟩
 refine B2 <| D5 (G2 rfl rfl (by simp) (by rfl) (D7 rfl rfl (E7 C4))) ?_
 obtain ⟨h1, h2⟩ := b4d (b7t (w := w) (by simp_all [okB]))
 rw [h1, h2]
 rfl

theorem keep_s_readWord : G0 Tryd.f63 = [0, 2, 3, 4, 6, 12, 5] := by kernel_rfl
set_option maxHeartbeats 20000000 in
theorem Z1 (w : List UInt8) (hs : w.length ≤ 1048576) : CW cxT 63 [tV w] = some (.tup [tV (if (numsOf w).isSome = true then lW else w), .own 1 (((numsOf w).getD []).map iV), bV ((numsOf w).isSome || decide (0 ≤ rch (bA w)))], []) := by
 refine F6 rfl Tryd.func63 rfl ⟨by kernel_rfl, rfl, of_decide_eq_true rfl, of_decide_eq_true rfl, by decide⟩ keep_s_readWord <| A3 <| A0 <| A4 rfl rfl rfl ?_
 (refine B3 rfl rfl (fun _ => rfl) ?_; intro g3)
 refine A4 rfl rfl rfl ?_
 refine A5 ⟨nofun, _, kS [0] [] rfl, ?_⟩
 refine A3 <| A3 <| A0 <| A6 rfl rfl ?_
 apply C9 rfl
 ·apply B4
  ·exact B5 rfl
  exact C8
 ·exact (by have hi := b9j w hs; rw [d1q] at hi; exact hi)
 ·exact ⟨rfl, rfl, rfl, of_decide_eq_true rfl, rfl⟩
 ·exact .inr ⟨a1n _ _, rfl⟩
 ·exact B8
 ·exact I7 (Q8 fun _ => I6 rfl Q9)
 ·exact fun _ => rfl
 intro g9
 simp only [List.length_map]
 refine A6 rfl rfl <| B0 rfl rfl rfl <| B0 rfl rfl rfl ?_
 (refine B6 rfl rfl (by (simp; done)) rfl (fun _ => (B1 (by exact A9 fun _ => rfl))) (fun _ => rfl) ?_; intro g5)
 refine A4 rfl rfl rfl ?_
 refine A5 ⟨nofun, _, kS [0,5,6] [5] rfl, ?_⟩
 refine A3 <| A0 <| A6 rfl rfl ?_
 refine A5 ⟨nofun, _, kS [0,5,12] [5] rfl, ?_⟩
 refine A8 rfl (fun hc => ?_) (fun hc => ?_)
 ·try simp only [SG, List.length_map] at hc
  obtain ⟨ns, hns⟩ := Option.isSome_iff_exists.1 hc
  have hraw := d1g hns
  refine A3 <| A0 <| A6 rfl rfl <| A4 rfl rfl rfl ?_
  (refine B6 rfl rfl (by (simp; done)) rfl (fun _ => (B1 (by exact A9 fun _ => rfl))) (fun _ => rfl) ?_; intro g3)
  refine A4 rfl rfl rfl ?_
  refine A5 ⟨nofun, _, kS [2,3,4] [3] rfl, ?_⟩
  refine B2 <| D5 (D7 rfl rfl (G2 rfl rfl (by simp) (by exact A9 fun _ => rfl) (D7 rfl rfl (E7 C4)))) ?_
  rw [hns, hraw]
  rfl
 try simp only [SG, List.length_map] at hc
 have hnn : numsOf w = none := by simpa using hc
 have hwo := c9r w
 refine B7 <| A3 <| A0 <| A6 rfl rfl <| A6 rfl rfl <| a8j rfl rfl <| A6 rfl rfl ?_
 refine E4 rfl rfl (fun hg0 => ?_) (fun hg0 => ?_)
 ·have hg := hg0; try simp only [SG] at hg
  refine A6 rfl rfl <| gT rfl rfl ?_
  apply C9 rfl
  ·apply B4
   ·exact B5 rfl
   exact C8
  ·exact a4w (bA w)
  ·exact ⟨rfl, rfl, rfl, of_decide_eq_true rfl, rfl⟩
  ·exact .inl rfl
  ·exact B8
  ·exact D4 rfl
  ·exact fun _ => rfl
  intro g19
  refine gT rfl rfl <| c7k rfl rfl <| G1 rfl (by assumption) rfl rfl <| A4 rfl rfl rfl ?_
  (refine B3 rfl rfl (fun _ => rfl) ?_; intro g3)
  refine A4 rfl rfl rfl ?_
  refine A5 ⟨nofun, _, kS [2,3,4] [3] rfl, ?_⟩
  refine B2 <| D5 (D7 rfl rfl (G2 rfl rfl (by simp) (by rfl) (D7 rfl rfl (E7 C4)))) ?_
  rw [hnn, ← hwo]
  simp_all
  try rfl
 have hg := hg0; try simp only [SG] at hg
 refine gF rfl rfl <| gF rfl rfl <| G7 rfl (by assumption) rfl rfl <| A4 rfl rfl rfl ?_
 (refine B3 rfl rfl (fun _ => rfl) ?_; intro g3)
 refine A4 rfl rfl rfl ?_
 refine A5 ⟨nofun, _, kS [2,3,4] [3] rfl, ?_⟩
 refine B2 <| D5 (D7 rfl rfl (G2 rfl rfl (by simp) (by rfl) (D7 rfl rfl (E7 C4)))) ?_
 rw [hnn, ← hwo]
 simp_all
 try rfl

theorem keep_s_readWords : G0 Tryd.f53 = [0, 2, 3, 4, 15, 7, 26, 6, 5, 35, 34, 36, 9, 12, 44, 8, 10, 11, 39, 50] := by kernel_rfl
set_option maxHeartbeats 20000000 in
theorem a7v (ws : List W8) (hws : ws.length ≤ 1048600 ∧ ∀ w ∈ ws, w.length ≤ 1048576) : CW cxT 53 [.list (ws.map tV)] = some (rtR (rdT ws), []) := by
 obtain ⟨kk, hkk⟩ : ∃ kk : Nat, ws.length < kk := ⟨_, Nat.lt_succ_self _⟩
 revert ws
 induction kk with
 | zero => intro ws hws hkk; exact absurd hkk (Nat.not_lt_zero _)
 | succ kk ih =>
  intro ws hws hkk
  refine F6 rfl Tryd.func53 rfl ⟨by kernel_rfl, rfl, of_decide_eq_true rfl, of_decide_eq_true rfl, by decide⟩ keep_s_readWords <| A3 <| A0 <| H1 rfl (fun _ => C0 rfl) (fun _ => rfl) ?_
  intro g2
  (refine B3 rfl rfl (fun _ => rfl) ?_; intro g3)
  refine A4 rfl rfl rfl ?_
  refine A5 ⟨nofun, _, kS [0,2] [2] rfl, ?_⟩
  refine A3 <| A3 <| A0 <| A6 rfl rfl <| I8 rfl rfl <| b0g rfl rfl ?_
  refine A5 ⟨nofun, _, kS [0,2,15] [2] rfl, ?_⟩
  refine A8 rfl (fun hc => ?_) (fun hc => ?_)
  ·try simp only [SG, List.length_map] at hc
   have hw0 : ws = [] := List.length_eq_zero_iff.1 (by simpa using hc)
   subst hw0
   refine A3 <| A0 <| L2 (fs := [_, _, _]) rfl rfl rfl rfl rfl <| C1 rfl rfl rfl rfl ⟨by decide, rfl, of_decide_eq_true rfl, of_decide_eq_true rfl, rfl⟩ rfl (by exact C0 rfl) ?_
   (refine B3 rfl rfl (fun _ => rfl) ?_; intro g3)
   refine A4 rfl rfl rfl ?_
   refine A5 ⟨nofun, _, kS [2,3,4] [2,3] rfl, ?_⟩
   refine B2 <| D5 (G5 rfl rfl rfl rfl (G4 rfl (H0 rfl (H0 rfl J1))) (G2 rfl rfl (by simp) (by rfl) (D7 rfl rfl (E7 C4)))) ?_
   rfl
  try simp only [SG, List.length_map] at hc
  obtain ⟨w, ws1, rfl⟩ : ∃ w ws1, ws = w :: ws1 := List.exists_cons_of_ne_nil (fun e => by subst e; simp at hc)
  have hw := hws.2 w (by simp)
  refine B7 <| A3 <| A0 <| A6 rfl rfl <| G6 rfl rfl rfl (fun _ => rfl) (by (change 0 < _; omega)) <| H3 rfl rfl rfl ?_
  rcases c5k w with ⟨ns, hns⟩ | ⟨hnn, hn⟩ | ⟨hnn, hn⟩ | ⟨hnn, hn⟩ | ⟨hnn, hn⟩
  ·skip
   apply C9 rfl
   ·apply B4
    ·exact B5 rfl
    exact C8
   ·exact (show CW cxT 63 [tV w] = some (.tup [tV lW, .own 1 (ns.map iV), bV true], []) from by have hi := Z1 w (by omega); rw [hns] at hi; exact hi)
   ·exact ⟨rfl, rfl, rfl, of_decide_eq_true rfl, rfl⟩
   ·exact .inr ⟨by simp [hasList, E6], rfl⟩
   ·exact B8
   ·exact I7 (I6 rfl (Q8 fun _ => I6 rfl Q9))
   ·exact fun _ => D6 (B1 (A9 fun _ => rfl)) (by rfl)
   intro g21
   try simp only [List.length_map]
   refine A6 rfl rfl <| B0 rfl rfl rfl <| B0 rfl rfl rfl <| B0 rfl rfl rfl <| A4 rfl rfl rfl ?_
   (refine B6 rfl rfl (by (simp; done)) rfl (fun _ => (B1 (by exact A9 fun _ => rfl))) (fun _ => rfl) ?_; intro g6)
   refine A4 rfl rfl rfl ?_
   refine A5 ⟨nofun, _, kS [0,2,5,6,7] [2,6] rfl, ?_⟩
   refine A3 <| A3 <| A0 <| A6 rfl rfl <| N2 rfl ?_
   refine A5 ⟨nofun, _, kS [0,2,5,6,26] [2,6] rfl, ?_⟩
   refine A8 rfl (fun hc => absurd hc (by decide)) (fun hc => ?_)
   refine B7 <| A3 <| A0 <| A6 rfl rfl <| A6 rfl rfl <| L2 (fs := [_, _, _]) rfl rfl rfl rfl rfl <| A6 rfl rfl <| M0 rfl rfl rfl (Mv.sized_map fun _ => rfl) K4 (H4 (n := 1) rfl) (by simp) ?_
   rw [show ((List.map tV (w :: ws1)).drop 1).take ((List.map tV (w :: ws1)).length - 1) = ws1.map tV from by rw [List.map_cons, List.drop_succ_cons, List.drop_zero, List.take_of_length_le (by simp)]]
   refine H1 rfl (fun _ => C0 rfl) (fun _ => rfl) ?_
   intro g8
   refine J4 rfl rfl rfl rfl (M9 rfl (a1h (by decide) (M9 rfl Z2))) (fun _ => rfl) ⟨by decide, rfl, of_decide_eq_true rfl, Nat.le_refl _⟩ (fun _ => rfl) (fun _ => rfl) (fun _ => (by rfl)) ?_
   intro z
   simp only [S2, List.cons_append, List.nil_append]
   refine A4 rfl rfl rfl ?_
   refine A5 ⟨fun _ => ⟨by (simp only [a2d, List.nil_append, List.append_nil, List.map_cons, List.map_nil, List.cons_append]; decide +kernel), by decide +kernel⟩, [(.t 2, _), (.t 5, _), (.t 8, _), (.t 9, _), (.h 2, _), (.h 8, _), (.h 6, _)], ⟨rfl, rfl, rfl, rfl, rfl, rfl, rfl, rfl, rfl, rfl, rfl, rfl, rfl, rfl, trivial⟩, ?_⟩
   refine A3 <| A3 <| A0 <| A6 rfl rfl ?_
   apply C9 rfl
   ·apply B4
    ·exact B5 rfl
    exact C8
   ·exact a4w (bA lW)
   ·exact ⟨rfl, rfl, rfl, of_decide_eq_true rfl, rfl⟩
   ·exact .inl rfl
   ·exact B8
   ·exact D4 rfl
   ·exact fun _ => rfl
   intro g34
   rw [show nd (bA lW) = 0 from c8n rfl]
   refine A6 rfl rfl ?_
   refine A5 ⟨nofun, _, kS [2,8,9,34,35] [2,8,6] rfl, ?_⟩
   refine D8 <| K8 <| A3 <| A0 <| K9 rfl rfl ?_
   refine A5 ⟨nofun, _, kS [2,8,9,34,35,36] [2,8,6] rfl, ?_⟩
   refine A3 ?_
   refine A8 rfl (fun hc => absurd hc (by decide)) (fun hc => ?_)
   refine I4 <| A3 <| A0 <| F5 rfl rfl rfl rfl rfl <| A6 rfl rfl <| J4 rfl rfl rfl rfl (M9 rfl (a1h (by decide) (M9 rfl Z2))) (fun _ => rfl) ⟨by decide, rfl, of_decide_eq_true rfl, Nat.le_refl _⟩ (fun _ => rfl) (fun _ => rfl) (fun _ => (by rfl)) ?_
   intro z
   simp only [S2, List.cons_append, List.nil_append]
   refine A4 rfl rfl rfl <| A4 rfl rfl rfl ?_
   refine A5 ⟨nofun, _, kS [2,3,4] [2,6] rfl, ?_⟩
   refine B2 <| D5 (G5 rfl rfl rfl rfl (G4 rfl (a1k rfl rfl (by simp) (fun _ => rfl) (H0 rfl J1))) (D7 rfl rfl (D7 rfl rfl (E7 C4)))) ?_
   rw [b7j hns]
   rfl
  ·skip
   apply C9 rfl
   ·apply B4
    ·exact B5 rfl
    exact C8
   ·exact (show CW cxT 63 [tV w] = some (.tup [tV w, .own 1 [], bV true], []) from by have hi := Z1 w (by omega); rw [hnn] at hi; rw [show decide (0 ≤ rch (bA w)) = true from decide_eq_true (by omega)] at hi; exact hi)
   ·exact ⟨rfl, rfl, rfl, of_decide_eq_true rfl, rfl⟩
   ·exact .inr ⟨rfl, rfl⟩
   ·exact B8
   ·exact I7 (I6 rfl (Q8 fun _ => I6 rfl Q9))
   ·exact fun _ => D6 (B1 rfl) (by rfl)
   intro g21
   try simp only [List.length_map]
   refine A6 rfl rfl <| B0 rfl rfl rfl <| B0 rfl rfl rfl <| B0 rfl rfl rfl <| A4 rfl rfl rfl ?_
   (refine B6 rfl rfl (by (simp; done)) rfl (fun _ => (B1 (by rfl))) (fun _ => rfl) ?_; intro g6)
   refine A4 rfl rfl rfl ?_
   refine A5 ⟨nofun, _, kS [0,2,5,6,7] [2,6] rfl, ?_⟩
   refine A3 <| A3 <| A0 <| A6 rfl rfl <| N2 rfl ?_
   refine A5 ⟨nofun, _, kS [0,2,5,6,26] [2,6] rfl, ?_⟩
   refine A8 rfl (fun hc => absurd hc (by decide)) (fun hc => ?_)
   refine B7 <| A3 <| A0 <| A6 rfl rfl <| A6 rfl rfl <| L2 (fs := [_, _, _]) rfl rfl rfl rfl rfl <| A6 rfl rfl <| M0 rfl rfl rfl (Mv.sized_map fun _ => rfl) K4 (H4 (n := 1) rfl) (by simp) ?_
   rw [show ((List.map tV (w :: ws1)).drop 1).take ((List.map tV (w :: ws1)).length - 1) = ws1.map tV from by rw [List.map_cons, List.drop_succ_cons, List.drop_zero, List.take_of_length_le (by simp)]]
   refine H1 rfl (fun _ => C0 rfl) (fun _ => rfl) ?_
   intro g8
   refine J4 rfl rfl rfl rfl (M9 rfl (a1h (by decide) (M9 rfl Z2))) (fun _ => rfl) ⟨by decide, rfl, of_decide_eq_true rfl, Nat.le_refl _⟩ (fun _ => rfl) (fun _ => rfl) (fun _ => (by rfl)) ?_
   intro z
   simp only [S2, List.cons_append, List.nil_append]
   refine A4 rfl rfl rfl ?_
   refine A5 ⟨fun _ => ⟨by (simp only [a2d, List.nil_append, List.append_nil, List.map_cons, List.map_nil, List.cons_append]; decide +kernel), by decide +kernel⟩, [(.t 2, _), (.t 5, _), (.t 8, _), (.t 9, _), (.h 2, _), (.h 8, _), (.h 6, _)], ⟨rfl, rfl, rfl, rfl, rfl, rfl, rfl, rfl, rfl, rfl, rfl, rfl, rfl, rfl, trivial⟩, ?_⟩
   refine A3 <| A3 <| A0 <| A6 rfl rfl ?_
   apply C9 rfl
   ·apply B4
    ·exact B5 rfl
    exact C8
   ·exact a4w (bA w)
   ·exact ⟨rfl, rfl, rfl, of_decide_eq_true rfl, rfl⟩
   ·exact .inl rfl
   ·exact B8
   ·exact D4 rfl
   ·exact fun _ => rfl
   intro g34
   rw [show nd (bA w) = 0 from (a6i (by omega)).trans hn]
   refine A6 rfl rfl ?_
   refine A5 ⟨nofun, _, kS [2,8,9,34,35] [2,8,6] rfl, ?_⟩
   refine D8 <| K8 <| A3 <| A0 <| K9 rfl rfl ?_
   refine A5 ⟨nofun, _, kS [2,8,9,34,35,36] [2,8,6] rfl, ?_⟩
   refine A3 ?_
   refine A8 rfl (fun hc => absurd hc (by decide)) (fun hc => ?_)
   refine I4 <| A3 <| A0 <| F5 rfl rfl rfl rfl rfl <| A6 rfl rfl <| J4 rfl rfl rfl rfl (M9 rfl (a1h (by decide) (M9 rfl Z2))) (fun _ => rfl) ⟨by decide, rfl, of_decide_eq_true rfl, Nat.le_refl _⟩ (fun _ => rfl) (fun _ => rfl) (fun _ => (by rfl)) ?_
   intro z
   simp only [S2, List.cons_append, List.nil_append]
   refine A4 rfl rfl rfl <| A4 rfl rfl rfl ?_
   refine A5 ⟨nofun, _, kS [2,3,4] [2,6] rfl, ?_⟩
   refine B2 <| D5 (G5 rfl rfl rfl rfl (G4 rfl (b4c rfl rfl rfl (H0 rfl J1))) (D7 rfl rfl (D7 rfl rfl (E7 C4)))) ?_
   rw [c2s hnn hn]
   rfl
  ·skip
   apply C9 rfl
   ·apply B4
    ·exact B5 rfl
    exact C8
   ·exact (show CW cxT 63 [tV w] = some (.tup [tV w, .own 1 [], bV true], []) from by have hi := Z1 w (by omega); rw [hnn] at hi; rw [show decide (0 ≤ rch (bA w)) = true from decide_eq_true (by omega)] at hi; exact hi)
   ·exact ⟨rfl, rfl, rfl, of_decide_eq_true rfl, rfl⟩
   ·exact .inr ⟨rfl, rfl⟩
   ·exact B8
   ·exact I7 (I6 rfl (Q8 fun _ => I6 rfl Q9))
   ·exact fun _ => D6 (B1 rfl) (by rfl)
   intro g21
   try simp only [List.length_map]
   refine A6 rfl rfl <| B0 rfl rfl rfl <| B0 rfl rfl rfl <| B0 rfl rfl rfl <| A4 rfl rfl rfl ?_
   (refine B6 rfl rfl (by (simp; done)) rfl (fun _ => (B1 (by rfl))) (fun _ => rfl) ?_; intro g6)
   refine A4 rfl rfl rfl ?_
   refine A5 ⟨nofun, _, kS [0,2,5,6,7] [2,6] rfl, ?_⟩
   refine A3 <| A3 <| A0 <| A6 rfl rfl <| N2 rfl ?_
   refine A5 ⟨nofun, _, kS [0,2,5,6,26] [2,6] rfl, ?_⟩
   refine A8 rfl (fun hc => absurd hc (by decide)) (fun hc => ?_)
   refine B7 <| A3 <| A0 <| A6 rfl rfl <| A6 rfl rfl <| L2 (fs := [_, _, _]) rfl rfl rfl rfl rfl <| A6 rfl rfl <| M0 rfl rfl rfl (Mv.sized_map fun _ => rfl) K4 (H4 (n := 1) rfl) (by simp) ?_
   rw [show ((List.map tV (w :: ws1)).drop 1).take ((List.map tV (w :: ws1)).length - 1) = ws1.map tV from by rw [List.map_cons, List.drop_succ_cons, List.drop_zero, List.take_of_length_le (by simp)]]
   refine H1 rfl (fun _ => C0 rfl) (fun _ => rfl) ?_
   intro g8
   refine J4 rfl rfl rfl rfl (M9 rfl (a1h (by decide) (M9 rfl Z2))) (fun _ => rfl) ⟨by decide, rfl, of_decide_eq_true rfl, Nat.le_refl _⟩ (fun _ => rfl) (fun _ => rfl) (fun _ => (by rfl)) ?_
   intro z
   simp only [S2, List.cons_append, List.nil_append]
   refine A4 rfl rfl rfl ?_
   refine A5 ⟨fun _ => ⟨by (simp only [a2d, List.nil_append, List.append_nil, List.map_cons, List.map_nil, List.cons_append]; decide +kernel), by decide +kernel⟩, [(.t 2, _), (.t 5, _), (.t 8, _), (.t 9, _), (.h 2, _), (.h 8, _), (.h 6, _)], ⟨rfl, rfl, rfl, rfl, rfl, rfl, rfl, rfl, rfl, rfl, rfl, rfl, rfl, rfl, trivial⟩, ?_⟩
   refine A3 <| A3 <| A0 <| A6 rfl rfl ?_
   apply C9 rfl
   ·apply B4
    ·exact B5 rfl
    exact C8
   ·exact a4w (bA w)
   ·exact ⟨rfl, rfl, rfl, of_decide_eq_true rfl, rfl⟩
   ·exact .inl rfl
   ·exact B8
   ·exact D4 rfl
   ·exact fun _ => rfl
   intro g34
   rw [show nd (bA w) = 1 from (a6i (by omega)).trans hn]
   refine A6 rfl rfl ?_
   refine A5 ⟨nofun, _, kS [2,8,9,34,35] [2,8,6] rfl, ?_⟩
   refine D8 <| K8 <| A3 <| A0 <| K9 rfl rfl ?_
   refine A5 ⟨nofun, _, kS [2,8,9,34,35,36] [2,8,6] rfl, ?_⟩
   refine A3 ?_
   refine A8 rfl (fun hc => ?_) (fun hc => absurd hc (by decide))
   refine B7 <| A3 <| D8 <| A3 <| A0 <| A6 rfl rfl ?_
   rcases hr1 : rdT ws1 with _ | ⟨k1, r1⟩
   ·skip
    apply C9 rfl
    ·apply B4
     ·exact B5 rfl
     exact C8
    ·exact (by have hi := ih ws1 ⟨by simp only [List.length_cons] at hws; omega, fun x hx => hws.2 x (List.mem_cons_of_mem _ hx)⟩ (by simp only [List.length_cons] at hkk; omega); rw [hr1] at hi; exact hi)
    ·exact ⟨rfl, rfl, rfl, of_decide_eq_true rfl, rfl⟩
    ·exact .inl rfl
    ·exact B8
    ·exact I7 (I6 rfl (Q8 fun _ => I6 rfl Q9))
    ·exact fun _ => D6 (B1 rfl) (by rfl)
    intro g39
    refine A6 rfl rfl <| B0 rfl rfl rfl <| B0 rfl rfl rfl <| B0 rfl rfl rfl <| H1 rfl (fun _ => C0 rfl) (fun _ => rfl) ?_
    intro g10
    refine C1 rfl rfl rfl rfl ⟨by decide, rfl, of_decide_eq_true rfl, of_decide_eq_true rfl, rfl⟩ rfl (by exact C0 rfl) ?_
    (refine B6 rfl rfl (by (simp; done)) rfl (fun _ => (B1 (by rfl))) (fun _ => rfl) ?_; intro g11)
    refine A4 rfl rfl rfl ?_
    refine A5 ⟨nofun, _, kS [2,8,10,11,12,34,35] [2,8,6,10] rfl, ?_⟩
    refine A3 <| A3 <| A0 <| A6 rfl rfl <| N2 rfl ?_
    refine A5 ⟨nofun, _, kS [2,8,10,11,34,35,44] [2,8,6,10] rfl, ?_⟩
    refine A8 rfl (fun hc => ?_) (fun hc => absurd hc (by decide))
    refine A3 <| A0 <| L2 (fs := [_, _, _]) rfl rfl rfl rfl rfl <| C1 rfl rfl rfl rfl ⟨by decide, rfl, of_decide_eq_true rfl, of_decide_eq_true rfl, rfl⟩ rfl (by exact C0 rfl) ?_
    (refine B3 rfl rfl (fun _ => rfl) ?_; intro g3)
    refine A4 rfl rfl rfl ?_
    refine A5 ⟨nofun, _, kS [2,3,4] [2,3] rfl, ?_⟩
    refine B2 <| D5 (G5 rfl rfl rfl rfl (G4 rfl (H0 rfl (H0 rfl J1))) (G2 rfl rfl (by simp) (by rfl) (D7 rfl rfl (E7 C4)))) ?_
    rw [b4b hnn hn, hr1]
    rfl
   skip
   apply C9 rfl
   ·apply B4
    ·exact B5 rfl
    exact C8
   ·exact (by have hi := ih ws1 ⟨by simp only [List.length_cons] at hws; omega, fun x hx => hws.2 x (List.mem_cons_of_mem _ hx)⟩ (by simp only [List.length_cons] at hkk; omega); rw [hr1] at hi; exact hi)
   ·exact ⟨rfl, rfl, rfl, of_decide_eq_true rfl, rfl⟩
   ·exact .inl rfl
   ·exact B8
   ·exact J9 rfl
   ·exact fun _ => rfl
   intro g39
   refine A6 rfl rfl <| B0 rfl rfl rfl <| B0 rfl rfl rfl <| B0 rfl rfl rfl <| H1 rfl (fun _ => C0 rfl) (fun _ => rfl) ?_
   intro g10
   refine C1 rfl rfl rfl rfl ⟨by decide, rfl, of_decide_eq_true rfl, of_decide_eq_true rfl, rfl⟩ rfl (by exact C0 rfl) <| A4 rfl rfl rfl <| A4 rfl rfl rfl ?_
   refine A5 ⟨nofun, _, kS [2,8,10,11,12,34,35] [2,8,6,10] rfl, ?_⟩
   refine A3 <| A3 <| A0 <| A6 rfl rfl <| N2 rfl ?_
   refine A5 ⟨nofun, _, kS [2,8,10,11,34,35,44] [2,8,6,10] rfl, ?_⟩
   refine A8 rfl (fun hc => absurd hc (by decide)) (fun hc => ?_)
   refine B7 <| A3 <| A0 <| F4 rfl rfl (by decide) rfl rfl <| G3 rfl rfl rfl rfl rfl rfl <| F5 rfl rfl rfl rfl rfl <| E8 (es := List.map trV [_]) rfl rfl (by decide) rfl rfl (fun _ => B1 (A9 fun _ => rfl)) (fun _ => rfl) ?_
   intro g49
   refine V3 rfl rfl rfl (by simp) (by decide) rfl rfl rfl (by decide) (fun _ => ⟨rfl, rfl⟩) (by simp only [H5]; (simp only [List.length_nil, List.length_cons, List.length_append, Nat.zero_add, List.length_map]; omega)) (fun _ => rfl) ?_
   intro g50
   refine F4 rfl rfl (by decide) rfl rfl <| Q4 rfl rfl rfl rfl rfl (Nat.le_refl _) rfl ?_
   refine A5 ⟨nofun, _, kS [2,8,11,34,35] [2,8,6,1000050] rfl, ?_⟩
   refine A0 <| A6 rfl rfl <| A4 rfl rfl rfl ?_
   refine A5 ⟨nofun, _, kS [2,8,9,34,35] [2,8,6,1000050] rfl, ?_⟩
   refine A0 <| L4 rfl rfl (H6 (by omega)) <| A6 rfl rfl ?_
   refine A5 ⟨nofun, _, kS [2,8,9,34,35] [2,8,6,1000050] rfl, ?_⟩
   refine K8 <| A3 <| A0 <| K9 rfl rfl ?_
   refine A5 ⟨nofun, _, kS [2,8,9,34,35,36] [2,8,6,1000050] rfl, ?_⟩
   refine A3 ?_
   refine A8 rfl (fun hc => absurd hc (by decide)) (fun hc => ?_)
   refine I4 <| A3 <| A0 <| F5 rfl rfl rfl rfl rfl <| A6 rfl rfl <| J4 rfl rfl rfl rfl (M9 rfl (a1h (by decide) (a9e (by decide) (by decide) rfl (by simp) fun _ => Z2))) (fun _ => rfl) ⟨by decide, rfl, of_decide_eq_true rfl, Nat.le_refl _⟩ (fun _ => rfl) (fun _ => rfl) (fun _ => D6 (by rfl) (D6 (B1 (A9 fun _ => rfl)) (by rfl))) ?_
   intro z
   simp only [S2, List.cons_append, List.nil_append]
   refine A4 rfl rfl rfl <| A4 rfl rfl rfl ?_
   refine A5 ⟨nofun, _, kS [2,3,4] [2,6,300002] rfl, ?_⟩
   refine B2 <| D5 (G5 rfl rfl rfl rfl (G4 rfl (b4c rfl rfl rfl (a1k rfl rfl (by simp) (fun _ => rfl) J1))) (D7 rfl rfl (D7 rfl rfl (E7 C4)))) ?_
   rw [b4b hnn hn, hr1]
   rfl
  ·skip
   apply C9 rfl
   ·apply B4
    ·exact B5 rfl
    exact C8
   ·exact (show CW cxT 63 [tV w] = some (.tup [tV w, .own 1 [], bV true], []) from by have hi := Z1 w (by omega); rw [hnn] at hi; rw [show decide (0 ≤ rch (bA w)) = true from decide_eq_true (by omega)] at hi; exact hi)
   ·exact ⟨rfl, rfl, rfl, of_decide_eq_true rfl, rfl⟩
   ·exact .inr ⟨rfl, rfl⟩
   ·exact B8
   ·exact I7 (I6 rfl (Q8 fun _ => I6 rfl Q9))
   ·exact fun _ => D6 (B1 rfl) (by rfl)
   intro g21
   try simp only [List.length_map]
   refine A6 rfl rfl <| B0 rfl rfl rfl <| B0 rfl rfl rfl <| B0 rfl rfl rfl <| A4 rfl rfl rfl ?_
   (refine B6 rfl rfl (by (simp; done)) rfl (fun _ => (B1 (by rfl))) (fun _ => rfl) ?_; intro g6)
   refine A4 rfl rfl rfl ?_
   refine A5 ⟨nofun, _, kS [0,2,5,6,7] [2,6] rfl, ?_⟩
   refine A3 <| A3 <| A0 <| A6 rfl rfl <| N2 rfl ?_
   refine A5 ⟨nofun, _, kS [0,2,5,6,26] [2,6] rfl, ?_⟩
   refine A8 rfl (fun hc => absurd hc (by decide)) (fun hc => ?_)
   refine B7 <| A3 <| A0 <| A6 rfl rfl <| A6 rfl rfl <| L2 (fs := [_, _, _]) rfl rfl rfl rfl rfl <| A6 rfl rfl <| M0 rfl rfl rfl (Mv.sized_map fun _ => rfl) K4 (H4 (n := 1) rfl) (by simp) ?_
   rw [show ((List.map tV (w :: ws1)).drop 1).take ((List.map tV (w :: ws1)).length - 1) = ws1.map tV from by rw [List.map_cons, List.drop_succ_cons, List.drop_zero, List.take_of_length_le (by simp)]]
   refine H1 rfl (fun _ => C0 rfl) (fun _ => rfl) ?_
   intro g8
   refine J4 rfl rfl rfl rfl (M9 rfl (a1h (by decide) (M9 rfl Z2))) (fun _ => rfl) ⟨by decide, rfl, of_decide_eq_true rfl, Nat.le_refl _⟩ (fun _ => rfl) (fun _ => rfl) (fun _ => (by rfl)) ?_
   intro z
   simp only [S2, List.cons_append, List.nil_append]
   refine A4 rfl rfl rfl ?_
   refine A5 ⟨fun _ => ⟨by (simp only [a2d, List.nil_append, List.append_nil, List.map_cons, List.map_nil, List.cons_append]; decide +kernel), by decide +kernel⟩, [(.t 2, _), (.t 5, _), (.t 8, _), (.t 9, _), (.h 2, _), (.h 8, _), (.h 6, _)], ⟨rfl, rfl, rfl, rfl, rfl, rfl, rfl, rfl, rfl, rfl, rfl, rfl, rfl, rfl, trivial⟩, ?_⟩
   refine A3 <| A3 <| A0 <| A6 rfl rfl ?_
   apply C9 rfl
   ·apply B4
    ·exact B5 rfl
    exact C8
   ·exact a4w (bA w)
   ·exact ⟨rfl, rfl, rfl, of_decide_eq_true rfl, rfl⟩
   ·exact .inl rfl
   ·exact B8
   ·exact D4 rfl
   ·exact fun _ => rfl
   intro g34
   rw [show nd (bA w) = 2 from (a6i (by omega)).trans hn]
   refine A6 rfl rfl ?_
   refine A5 ⟨nofun, _, kS [2,8,9,34,35] [2,8,6] rfl, ?_⟩
   refine D8 <| K8 <| A3 <| A0 <| K9 rfl rfl ?_
   refine A5 ⟨nofun, _, kS [2,8,9,34,35,36] [2,8,6] rfl, ?_⟩
   refine A3 ?_
   refine A8 rfl (fun hc => ?_) (fun hc => absurd hc (by decide))
   refine B7 <| A3 <| D8 <| A3 <| A0 <| A6 rfl rfl ?_
   rcases hr1 : rdT ws1 with _ | ⟨k1, r1⟩
   ·skip
    apply C9 rfl
    ·apply B4
     ·exact B5 rfl
     exact C8
    ·exact (by have hi := ih ws1 ⟨by simp only [List.length_cons] at hws; omega, fun x hx => hws.2 x (List.mem_cons_of_mem _ hx)⟩ (by simp only [List.length_cons] at hkk; omega); rw [hr1] at hi; exact hi)
    ·exact ⟨rfl, rfl, rfl, of_decide_eq_true rfl, rfl⟩
    ·exact .inl rfl
    ·exact B8
    ·exact I7 (I6 rfl (Q8 fun _ => I6 rfl Q9))
    ·exact fun _ => D6 (B1 rfl) (by rfl)
    intro g39
    refine A6 rfl rfl <| B0 rfl rfl rfl <| B0 rfl rfl rfl <| B0 rfl rfl rfl <| H1 rfl (fun _ => C0 rfl) (fun _ => rfl) ?_
    intro g10
    refine C1 rfl rfl rfl rfl ⟨by decide, rfl, of_decide_eq_true rfl, of_decide_eq_true rfl, rfl⟩ rfl (by exact C0 rfl) ?_
    (refine B6 rfl rfl (by (simp; done)) rfl (fun _ => (B1 (by rfl))) (fun _ => rfl) ?_; intro g11)
    refine A4 rfl rfl rfl ?_
    refine A5 ⟨nofun, _, kS [2,8,10,11,12,34,35] [2,8,6,10] rfl, ?_⟩
    refine A3 <| A3 <| A0 <| A6 rfl rfl <| N2 rfl ?_
    refine A5 ⟨nofun, _, kS [2,8,10,11,34,35,44] [2,8,6,10] rfl, ?_⟩
    refine A8 rfl (fun hc => ?_) (fun hc => absurd hc (by decide))
    refine A3 <| A0 <| L2 (fs := [_, _, _]) rfl rfl rfl rfl rfl <| C1 rfl rfl rfl rfl ⟨by decide, rfl, of_decide_eq_true rfl, of_decide_eq_true rfl, rfl⟩ rfl (by exact C0 rfl) ?_
    (refine B3 rfl rfl (fun _ => rfl) ?_; intro g3)
    refine A4 rfl rfl rfl ?_
    refine A5 ⟨nofun, _, kS [2,3,4] [2,3] rfl, ?_⟩
    refine B2 <| D5 (G5 rfl rfl rfl rfl (G4 rfl (H0 rfl (H0 rfl J1))) (G2 rfl rfl (by simp) (by rfl) (D7 rfl rfl (E7 C4)))) ?_
    rw [a3q hnn hn, hr1]
    rfl
   skip
   apply C9 rfl
   ·apply B4
    ·exact B5 rfl
    exact C8
   ·exact (by have hi := ih ws1 ⟨by simp only [List.length_cons] at hws; omega, fun x hx => hws.2 x (List.mem_cons_of_mem _ hx)⟩ (by simp only [List.length_cons] at hkk; omega); rw [hr1] at hi; exact hi)
   ·exact ⟨rfl, rfl, rfl, of_decide_eq_true rfl, rfl⟩
   ·exact .inl rfl
   ·exact B8
   ·exact J9 rfl
   ·exact fun _ => rfl
   intro g39
   refine A6 rfl rfl <| B0 rfl rfl rfl <| B0 rfl rfl rfl <| B0 rfl rfl rfl <| H1 rfl (fun _ => C0 rfl) (fun _ => rfl) ?_
   intro g10
   refine C1 rfl rfl rfl rfl ⟨by decide, rfl, of_decide_eq_true rfl, of_decide_eq_true rfl, rfl⟩ rfl (by exact C0 rfl) <| A4 rfl rfl rfl <| A4 rfl rfl rfl ?_
   refine A5 ⟨nofun, _, kS [2,8,10,11,12,34,35] [2,8,6,10] rfl, ?_⟩
   refine A3 <| A3 <| A0 <| A6 rfl rfl <| N2 rfl ?_
   refine A5 ⟨nofun, _, kS [2,8,10,11,34,35,44] [2,8,6,10] rfl, ?_⟩
   refine A8 rfl (fun hc => absurd hc (by decide)) (fun hc => ?_)
   refine B7 <| A3 <| A0 <| F4 rfl rfl (by decide) rfl rfl <| G3 rfl rfl rfl rfl rfl rfl <| F5 rfl rfl rfl rfl rfl <| E8 (es := List.map trV [_]) rfl rfl (by decide) rfl rfl (fun _ => B1 (A9 fun _ => rfl)) (fun _ => rfl) ?_
   intro g49
   refine V3 rfl rfl rfl (by simp) (by decide) rfl rfl rfl (by decide) (fun _ => ⟨rfl, rfl⟩) (by simp only [H5]; (simp only [List.length_nil, List.length_cons, List.length_append, Nat.zero_add, List.length_map]; omega)) (fun _ => rfl) ?_
   intro g50
   refine F4 rfl rfl (by decide) rfl rfl <| Q4 rfl rfl rfl rfl rfl (Nat.le_refl _) rfl ?_
   refine A5 ⟨nofun, _, kS [2,8,11,34,35] [2,8,6,1000050] rfl, ?_⟩
   refine A0 <| A6 rfl rfl <| A4 rfl rfl rfl ?_
   refine A5 ⟨nofun, _, kS [2,8,9,34,35] [2,8,6,1000050] rfl, ?_⟩
   refine A0 <| L4 rfl rfl (H6 (by omega)) <| A6 rfl rfl ?_
   refine A5 ⟨nofun, _, kS [2,8,9,34,35] [2,8,6,1000050] rfl, ?_⟩
   refine K8 <| A3 <| A0 <| K9 rfl rfl ?_
   refine A5 ⟨nofun, _, kS [2,8,9,34,35,36] [2,8,6,1000050] rfl, ?_⟩
   refine A3 ?_
   refine A8 rfl (fun hc => ?_) (fun hc => absurd hc (by decide))
   refine B7 <| A3 <| D8 <| A3 <| A0 <| A6 rfl rfl ?_
   rcases hr2 : rdT r1 with _ | ⟨k2, r2⟩
   ·skip
    apply C9 rfl
    ·apply B4
     ·exact B5 rfl
     exact C8
    ·exact (by have hi := ih r1 ⟨by have := W3 hr1; simp only [List.length_cons] at hws; omega, fun x hx => hws.2 x (List.mem_cons_of_mem _ (a8z hr1 x hx))⟩ (by have := W3 hr1; simp only [List.length_cons] at hkk; omega); rw [hr2] at hi; exact hi)
    ·exact ⟨rfl, rfl, rfl, of_decide_eq_true rfl, rfl⟩
    ·exact .inl rfl
    ·exact B8
    ·exact I7 (I6 rfl (Q8 fun _ => I6 rfl Q9))
    ·exact fun _ => D6 (B1 rfl) (by rfl)
    intro g39
    refine A6 rfl rfl <| B0 rfl rfl rfl <| B0 rfl rfl rfl <| B0 rfl rfl rfl <| H1 rfl (fun _ => C0 rfl) (fun _ => rfl) ?_
    intro g10
    refine C1 rfl rfl rfl rfl ⟨by decide, rfl, of_decide_eq_true rfl, of_decide_eq_true rfl, rfl⟩ rfl (by exact C0 rfl) ?_
    (refine B6 rfl rfl (by (simp; done)) rfl (fun _ => (B1 (by rfl))) (fun _ => rfl) ?_; intro g11)
    refine A4 rfl rfl rfl ?_
    refine A5 ⟨nofun, _, kS [2,8,10,11,12,34,35] [2,8,6,1000050,10] rfl, ?_⟩
    refine A3 <| A3 <| A0 <| A6 rfl rfl <| N2 rfl ?_
    refine A5 ⟨nofun, _, kS [2,8,10,11,34,35,44] [2,8,6,1000050,10] rfl, ?_⟩
    refine A8 rfl (fun hc => ?_) (fun hc => absurd hc (by decide))
    refine A3 <| A0 <| L2 (fs := [_, _, _]) rfl rfl rfl rfl rfl <| C1 rfl rfl rfl rfl ⟨by decide, rfl, of_decide_eq_true rfl, of_decide_eq_true rfl, rfl⟩ rfl (by exact C0 rfl) ?_
    (refine B3 rfl rfl (fun _ => rfl) ?_; intro g3)
    refine A4 rfl rfl rfl ?_
    refine A5 ⟨nofun, _, kS [2,3,4] [2,3] rfl, ?_⟩
    refine B2 <| D5 (G5 rfl rfl rfl rfl (G4 rfl (H0 rfl (H0 rfl J1))) (G2 rfl rfl (by simp) (by rfl) (D7 rfl rfl (E7 C4)))) ?_
    rw [a3q hnn hn, hr1, Option.bind_some, hr2]
    rfl
   skip
   apply C9 rfl
   ·apply B4
    ·exact B5 rfl
    exact C8
   ·exact (by have hi := ih r1 ⟨by have := W3 hr1; simp only [List.length_cons] at hws; omega, fun x hx => hws.2 x (List.mem_cons_of_mem _ (a8z hr1 x hx))⟩ (by have := W3 hr1; simp only [List.length_cons] at hkk; omega); rw [hr2] at hi; exact hi)
   ·exact ⟨rfl, rfl, rfl, of_decide_eq_true rfl, rfl⟩
   ·exact .inl rfl
   ·exact B8
   ·exact J9 rfl
   ·exact fun _ => rfl
   intro g39
   refine A6 rfl rfl <| B0 rfl rfl rfl <| B0 rfl rfl rfl <| B0 rfl rfl rfl <| H1 rfl (fun _ => C0 rfl) (fun _ => rfl) ?_
   intro g10
   refine C1 rfl rfl rfl rfl ⟨by decide, rfl, of_decide_eq_true rfl, of_decide_eq_true rfl, rfl⟩ rfl (by exact C0 rfl) <| A4 rfl rfl rfl <| A4 rfl rfl rfl ?_
   refine A5 ⟨nofun, _, kS [2,8,10,11,12,34,35] [2,8,6,1000050,10] rfl, ?_⟩
   refine A3 <| A3 <| A0 <| A6 rfl rfl <| N2 rfl ?_
   refine A5 ⟨nofun, _, kS [2,8,10,11,34,35,44] [2,8,6,1000050,10] rfl, ?_⟩
   refine A8 rfl (fun hc => absurd hc (by decide)) (fun hc => ?_)
   refine B7 <| A3 <| A0 <| F4 rfl rfl (by decide) rfl rfl <| G3 rfl rfl rfl rfl rfl rfl <| F5 rfl rfl rfl rfl rfl <| E8 (es := List.map trV [_]) rfl rfl (by decide) rfl rfl (fun _ => B1 (A9 fun _ => rfl)) (fun _ => rfl) ?_
   intro g49
   refine G9 rfl rfl rfl rfl (by (simp; done)) (by simp) (by decide) rfl rfl rfl rfl (by decide) (fun _ => ⟨rfl, rfl⟩) (by simp only [H5]; (simp only [List.length_nil, List.length_cons, List.length_append, Nat.zero_add, List.length_map]; omega)) (fun _ => rfl) ?_
   intro g50
   refine F4 rfl rfl (by decide) rfl rfl <| Q4 rfl rfl rfl rfl rfl (Nat.le_refl _) rfl ?_
   refine A5 ⟨nofun, _, kS [2,8,11,34,35] [2,8,6,1000050] rfl, ?_⟩
   refine A0 <| A6 rfl rfl <| A4 rfl rfl rfl ?_
   refine A5 ⟨nofun, _, kS [2,8,9,34,35] [2,8,6,1000050] rfl, ?_⟩
   refine A0 <| L4 rfl rfl (H6 (by omega)) <| A6 rfl rfl ?_
   refine A5 ⟨nofun, _, kS [2,8,9,34,35] [2,8,6,1000050] rfl, ?_⟩
   refine K8 <| A3 <| A0 <| K9 rfl rfl ?_
   refine A5 ⟨nofun, _, kS [2,8,9,34,35,36] [2,8,6,1000050] rfl, ?_⟩
   refine A3 ?_
   refine A8 rfl (fun hc => absurd hc (by decide)) (fun hc => ?_)
   refine I4 <| A3 <| A0 <| F5 rfl rfl rfl rfl rfl <| A6 rfl rfl <| J4 rfl rfl rfl rfl (M9 rfl (a1h (by decide) (a9e (by decide) (by decide) rfl (by simp) fun _ => Z2))) (fun _ => rfl) ⟨by decide, rfl, of_decide_eq_true rfl, Nat.le_refl _⟩ (fun _ => rfl) (fun _ => rfl) (fun _ => D6 (by rfl) (D6 (B1 (A9 fun _ => rfl)) (by rfl))) ?_
   intro z
   simp only [S2, List.cons_append, List.nil_append]
   refine A4 rfl rfl rfl <| A4 rfl rfl rfl ?_
   refine A5 ⟨nofun, _, kS [2,3,4] [2,6,300002] rfl, ?_⟩
   refine B2 <| D5 (G5 rfl rfl rfl rfl (G4 rfl (b4c rfl rfl rfl (a1k rfl rfl (by simp) (fun _ => rfl) J1))) (D7 rfl rfl (D7 rfl rfl (E7 C4)))) ?_
   rw [a3q hnn hn, hr1, Option.bind_some, hr2]
   rfl
  skip
  apply C9 rfl
  ·apply B4
   ·exact B5 rfl
   exact C8
  ·exact (show CW cxT 63 [tV w] = some (.tup [tV w, .own 1 [], bV false], []) from by have hi := Z1 w (by omega); rw [hnn] at hi; rw [show decide (0 ≤ rch (bA w)) = false from decide_eq_false (by omega)] at hi; exact hi)
  ·exact ⟨rfl, rfl, rfl, of_decide_eq_true rfl, rfl⟩
  ·exact .inr ⟨rfl, rfl⟩
  ·exact B8
  ·exact I7 (I6 rfl (Q8 fun _ => I6 rfl Q9))
  ·exact fun _ => D6 (B1 rfl) (by rfl)
  intro g21
  try simp only [List.length_map]
  refine A6 rfl rfl <| B0 rfl rfl rfl <| B0 rfl rfl rfl <| B0 rfl rfl rfl <| A4 rfl rfl rfl ?_
  (refine B6 rfl rfl (by (simp; done)) rfl (fun _ => (B1 (by rfl))) (fun _ => rfl) ?_; intro g6)
  refine A4 rfl rfl rfl ?_
  refine A5 ⟨nofun, _, kS [0,2,5,6,7] [2,6] rfl, ?_⟩
  refine A3 <| A3 <| A0 <| A6 rfl rfl <| N2 rfl ?_
  refine A5 ⟨nofun, _, kS [0,2,5,6,26] [2,6] rfl, ?_⟩
  refine A8 rfl (fun hc => ?_) (fun hc => absurd hc (by decide))
  refine A3 <| A0 <| L2 (fs := [_, _, _]) rfl rfl rfl rfl rfl <| C1 rfl rfl rfl rfl ⟨by decide, rfl, of_decide_eq_true rfl, of_decide_eq_true rfl, rfl⟩ rfl (by exact C0 rfl) ?_
  (refine B3 rfl rfl (fun _ => rfl) ?_; intro g3)
  refine A4 rfl rfl rfl ?_
  refine A5 ⟨nofun, _, kS [2,3,4] [2,3] rfl, ?_⟩
  refine B2 <| D5 (G5 rfl rfl rfl rfl (G4 rfl (H0 rfl (H0 rfl J1))) (G2 rfl rfl (by simp) (by rfl) (D7 rfl rfl (E7 C4)))) ?_
  rw [c2b hnn hn]
  rfl

theorem keep_s_readPlanI : G0 Tryd.f40 = [0, 2, 3, 4, 6, 7, 5, 12] := by kernel_rfl
set_option maxHeartbeats 20000000 in
theorem b8r (s : List UInt8) (hs : s.length ≤ 1048576) : CW cxT 40 [tV s] = some (.tup [trV (ipT s), bV (c1f s)], []) := by
 obtain ⟨ws, hws⟩ : ∃ ws, ws = splitB 32 s := ⟨_, rfl⟩
 have hwl := R6 32 s
 have hwp := W7 32 s
 rw [← hws] at hwl hwp
 refine F6 rfl Tryd.func40 rfl ⟨by kernel_rfl, rfl, of_decide_eq_true rfl, of_decide_eq_true rfl, by decide⟩ keep_s_readPlanI <| A3 <| A0 <| H1 rfl (fun _ => C0 rfl) (fun _ => rfl) ?_
 intro g2
 refine A4 rfl rfl rfl ?_
 refine A5 ⟨nofun, _, kS [0,2] [2] rfl, ?_⟩
 refine A3 <| A0 <| A6 rfl rfl ?_
 apply C9 rfl
 ·apply B4
  ·exact B5 rfl
  apply B4
  ·exact B5 rfl
  exact C8
 ·exact c2z s 32 (by omega)
 ·exact ⟨rfl, rfl, rfl, of_decide_eq_true rfl, rfl⟩
 ·exact .inl rfl
 ·exact B8
 ·exact O2
 ·exact fun _ => rfl
 intro g9
 rw [← hws]
 try simp only [List.length_map]
 (refine B6 rfl rfl (by (simp; done)) rfl (fun _ => (B1 (by exact A9 fun _ => rfl))) (fun _ => rfl) ?_; intro g4)
 refine A5 ⟨nofun, _, kS [2,4] [2,4] rfl, ?_⟩
 refine A3 <| A0 <| A6 rfl rfl ?_
 rcases hr : rdT ws with _ | ⟨t, r⟩
 ·skip
  apply C9 rfl
  ·apply B4
   ·exact a0a rfl rfl (by (simp; done)) (fun _ => rfl)
   exact C8
  ·exact (by have hi := a7v ws ⟨by omega, fun w hw => by have := hwp w hw; omega⟩; rw [hr] at hi; exact hi)
  ·exact ⟨rfl, rfl, rfl, of_decide_eq_true rfl, rfl⟩
  ·exact .inl rfl
  ·exact B8
  ·exact I7 (I6 rfl (Q8 fun _ => I6 rfl Q9))
  ·exact fun _ => D6 (a3p (A9 fun _ => rfl) (by decide)) (by rfl)
  intro g12
  refine A6 rfl rfl <| B0 rfl rfl rfl <| B0 rfl rfl rfl <| B0 rfl rfl rfl <| H1 rfl (fun _ => C0 rfl) (fun _ => rfl) ?_
  intro g5
  refine C1 rfl rfl rfl rfl ⟨by decide, rfl, of_decide_eq_true rfl, of_decide_eq_true rfl, rfl⟩ rfl (by exact C0 rfl) ?_
  (refine B6 rfl rfl (by (simp; done)) rfl (fun _ => (B1 (by rfl))) (fun _ => rfl) ?_; intro g6)
  refine A4 rfl rfl rfl ?_
  refine A5 ⟨nofun, _, kS [2,4,5,6,7] [2,4,5] rfl, ?_⟩
  refine A3 <| A0 <| F5 rfl rfl rfl rfl rfl <| A6 rfl rfl <| A6 rfl rfl <| G8 rfl rfl rfl <| G8 rfl rfl rfl <| G8 rfl rfl rfl <| G7 rfl rfl rfl rfl <| A6 rfl rfl <| G8 rfl rfl rfl <| G8 rfl rfl rfl <| G8 rfl rfl rfl <| G7 rfl rfl rfl rfl <| C1 rfl rfl rfl rfl ⟨by decide, rfl, of_decide_eq_true rfl, of_decide_eq_true rfl, rfl⟩ rfl (by exact C0 rfl) <| A4 rfl rfl rfl ?_
  refine A5 ⟨nofun, _, kS [2,3] [2] rfl, ?_⟩
  refine B2 <| D5 (G5 rfl rfl rfl rfl (G4 rfl (G4 rfl (G4 rfl J1))) (D7 rfl rfl (E7 C4))) ?_
  obtain ⟨h1, h2⟩ := c9o hws hr
  rw [h1, h2]
  rfl
 skip
 apply C9 rfl
 ·apply B4
  ·exact a0a rfl rfl (by (simp; done)) (fun _ => rfl)
  exact C8
 ·exact (by have hi := a7v ws ⟨by omega, fun w hw => by have := hwp w hw; omega⟩; rw [hr] at hi; exact hi)
 ·exact ⟨rfl, rfl, rfl, of_decide_eq_true rfl, rfl⟩
 ·exact .inl rfl
 ·exact B8
 ·exact J9 rfl
 ·exact fun _ => D6 (a3p (A9 fun _ => rfl) (by decide)) (by rfl)
 intro g12
 refine A6 rfl rfl <| B0 rfl rfl rfl <| B0 rfl rfl rfl <| B0 rfl rfl rfl <| H1 rfl (fun _ => C0 rfl) (fun _ => rfl) ?_
 intro g5
 refine C1 rfl rfl rfl rfl ⟨by decide, rfl, of_decide_eq_true rfl, of_decide_eq_true rfl, rfl⟩ rfl (by exact C0 rfl) <| A4 rfl rfl rfl <| A4 rfl rfl rfl ?_
 refine A5 ⟨nofun, _, kS [2,4,5,6,7] [2,4,5] rfl, ?_⟩
 refine A3 <| A0 <| F5 rfl rfl rfl rfl rfl <| A6 rfl rfl <| A6 rfl rfl <| S6 rfl rfl rfl <| A6 rfl rfl <| S6 rfl rfl rfl <| I8 rfl rfl <| S6 rfl rfl rfl <| b0g rfl rfl <| G1 rfl rfl rfl rfl <| A6 rfl rfl ?_
 refine E4 rfl rfl (fun hg0 => ?_) (fun hg0 => ?_)
 ·have hg := hg0; try simp only [SG] at hg
  refine A6 rfl rfl <| gT rfl rfl <| Y9 rfl rfl <| gT rfl rfl <| a7p rfl rfl <| G1 rfl (by assumption) rfl rfl <| C1 rfl rfl rfl rfl ⟨by decide, rfl, of_decide_eq_true rfl, of_decide_eq_true rfl, rfl⟩ rfl (by exact C0 rfl) <| A4 rfl rfl rfl ?_
  refine A5 ⟨nofun, _, kS [2,3] [2] rfl, ?_⟩
  refine B2 <| D5 (G5 rfl rfl rfl rfl (G4 rfl (G4 rfl (G4 rfl J1))) (D7 rfl rfl (E7 C4))) ?_
  obtain ⟨h1, h2⟩ := c3f hws hr
  rw [h1, h2]
  simp_all
  try rfl
 have hg := hg0; try simp only [SG] at hg
 refine gF rfl rfl <| gF rfl rfl <| G7 rfl (by assumption) rfl rfl <| C1 rfl rfl rfl rfl ⟨by decide, rfl, of_decide_eq_true rfl, of_decide_eq_true rfl, rfl⟩ rfl (by exact C0 rfl) <| A4 rfl rfl rfl ?_
 refine A5 ⟨nofun, _, kS [2,3] [2] rfl, ?_⟩
 refine B2 <| D5 (G5 rfl rfl rfl rfl (G4 rfl (G4 rfl (G4 rfl J1))) (D7 rfl rfl (E7 C4))) ?_
 obtain ⟨h1, h2⟩ := c3f hws hr
 rw [h1, h2]
 simp_all
 try rfl

theorem keep_s_validPlan : G0 Tryd.f24 = [0, 2, 3, 5, 4, 8] := by kernel_rfl
set_option maxHeartbeats 20000000 in
theorem b7q (s : List UInt8) (hs : s.length ≤ 1048576) : CW cxT 24 [tV s] = some (.tup [trV (ipT s), bV (rdPlan s).isSome], []) := by
 have hip := d2k s
 refine F6 rfl Tryd.func24 rfl ⟨by kernel_rfl, rfl, of_decide_eq_true rfl, of_decide_eq_true rfl, by decide⟩ keep_s_validPlan <| A3 <| A0 <| H1 rfl (fun _ => C0 rfl) (fun _ => rfl) ?_
 intro g2
 refine A4 rfl rfl rfl ?_
 refine A5 ⟨nofun, _, kS [0,2] [2] rfl, ?_⟩
 refine A3 <| A0 <| A6 rfl rfl ?_
 apply C9 rfl
 ·apply B4
  ·exact B5 rfl
  exact C8
 ·exact b8r s hs
 ·exact ⟨rfl, rfl, rfl, of_decide_eq_true rfl, rfl⟩
 ·exact .inl rfl
 ·exact B8
 ·exact J9 rfl
 ·exact fun _ => rfl
 intro g8
 refine A6 rfl rfl <| B0 rfl rfl rfl <| B0 rfl rfl rfl <| H1 rfl (fun _ => C0 rfl) (fun _ => rfl) ?_
 intro g4
 refine C1 rfl rfl rfl rfl ⟨by decide, rfl, of_decide_eq_true rfl, of_decide_eq_true rfl, rfl⟩ rfl (by exact C0 rfl) <| A4 rfl rfl rfl ?_
 refine A5 ⟨nofun, _, kS [0,2,4,5] [2,4] rfl, ?_⟩
 refine A3 <| A0 <| F5 rfl rfl rfl rfl rfl <| A6 rfl rfl <| A6 rfl rfl ?_
 refine E4 rfl rfl (fun hg0 => ?_) (fun hg0 => ?_)
 ·have hg := hg0; try simp only [SG] at hg
  refine A6 rfl rfl <| gT rfl rfl <| a3b rfl rfl <| gT rfl rfl <| a7p rfl rfl <| G1 rfl (by assumption) rfl rfl <| C1 rfl rfl rfl rfl ⟨by decide, rfl, of_decide_eq_true rfl, of_decide_eq_true rfl, rfl⟩ rfl (by exact C0 rfl) <| A4 rfl rfl rfl ?_
  refine A5 ⟨nofun, _, kS [2,3] [2] rfl, ?_⟩
  refine B2 <| D5 (G5 rfl rfl rfl rfl (G4 rfl (G4 rfl (G4 rfl J1))) (D7 rfl rfl (E7 C4))) ?_
  rw [← hip]
  simp_all
  try rfl
 have hg := hg0; try simp only [SG] at hg
 refine gF rfl rfl <| gF rfl rfl <| G7 rfl (by assumption) rfl rfl <| C1 rfl rfl rfl rfl ⟨by decide, rfl, of_decide_eq_true rfl, of_decide_eq_true rfl, rfl⟩ rfl (by exact C0 rfl) <| A4 rfl rfl rfl ?_
 refine A5 ⟨nofun, _, kS [2,3] [2] rfl, ?_⟩
 refine B2 <| D5 (G5 rfl rfl rfl rfl (G4 rfl (G4 rfl (G4 rfl J1))) (D7 rfl rfl (E7 C4))) ?_
 rw [← hip]
 simp_all
 try rfl

theorem keep_s_showTreeL : G0 Tryd.f31 = [0, 2, 1, 7, 4, 19, 3] := by kernel_rfl
set_option maxHeartbeats 20000000 in
theorem b8x (ns : List Int) (hv : vd ns = true) : CW cxT 31 [trK (.lst ns)] = some (tV (T4 ns), []) := by
 have hl := c1r hv
 have hnb := c6p hv
 have hll := a0u hnb
 refine F6 rfl Tryd.func31 rfl ⟨by kernel_rfl, rfl, of_decide_eq_true rfl, of_decide_eq_true rfl, by decide⟩ keep_s_showTreeL <| A3 <| A0 <| b6q rfl rfl rfl (fun _ => C0 rfl) (fun _ => rfl) ?_
 intro g1
 refine A4 rfl rfl rfl ?_
 refine A5 ⟨nofun, _, kS [1] [1] rfl, ?_⟩
 refine A3 <| A3 <| A0 <| F4 rfl rfl (by decide) rfl rfl <| G3 rfl rfl rfl rfl rfl rfl <| a8e rfl rfl ?_
 refine A5 ⟨nofun, _, kS [1,7] [1] rfl, ?_⟩
 refine A8 rfl (fun hc => ?_) (fun hc => ?_)
 ·try simp only [SG, List.length_map] at hc
  refine A3 <| A0 <| F4 rfl rfl (by decide) rfl rfl <| G3 rfl rfl rfl rfl rfl rfl ?_
  apply C9 rfl
  ·apply B4
   ·exact B5 rfl
   exact C8
  ·exact c1a ns (by omega) hnb
  ·exact ⟨rfl, rfl, rfl, of_decide_eq_true rfl, rfl⟩
  ·exact .inl rfl
  ·exact B8
  ·exact D4 rfl
  ·exact fun _ => rfl
  intro g10
  refine Z0 rfl rfl (by simp only [H5, List.length_append, List.length_cons, List.length_nil]; omega) <| Z0 rfl rfl (by simp only [H5, List.length_append, List.length_cons, List.length_nil]; omega) <| A4 rfl rfl rfl ?_
  refine A5 ⟨nofun, _, kS [2] [] rfl, ?_⟩
  refine B2 <| C6 rfl rfl trivial ?_
  rfl
 try simp only [SD] at hc
 exact absurd rfl hc

theorem keep_s_codeS : G0 Tryd.f27 = [0, 2, 1, 4, 10, 3, 23] := by kernel_rfl
set_option maxHeartbeats 20000000 in
theorem c9h (t : Pl) (ht : t.sz ≤ 1000) (hgd : t.good) : CW cxT 27 [trK t] = some (.own 1 ((Z8 t).map tV), []) := by
 obtain ⟨kk, hkk⟩ : ∃ kk : Nat, t.sz < kk := ⟨_, Nat.lt_succ_self _⟩
 revert t
 induction kk with
 | zero => intro t ht hgd hkk; exact absurd hkk (Nat.not_lt_zero _)
 | succ kk ih =>
  intro t ht hgd hkk
  have hkl := b6w t
  have hcl := fun i => O4 (t.kids.getD i default)
  have hkz := fun i => b5s (t := t) (i := i)
  have hkg := fun i => b6k hgd (i := i)
  have hnl := fun i => b3o (t := t) (i := i)
  have hco := fun h => b9i (t := t) h
  refine F6 rfl Tryd.func27 rfl ⟨by kernel_rfl, rfl, of_decide_eq_true rfl, of_decide_eq_true rfl, by decide⟩ keep_s_codeS <| A3 <| A0 <| b6q rfl rfl rfl (fun _ => C0 rfl) (fun _ => rfl) ?_
  intro g1
  (refine B3 rfl rfl (fun _ => rfl) ?_; intro g2)
  refine A5 ⟨nofun, _, kS [1] [1] rfl, ?_⟩
  refine A3 <| A0 <| E8 (es := List.map tV []) rfl rfl (by decide) rfl rfl (fun _ => B1 (A9 fun _ => rfl)) (fun _ => rfl) ?_
  intro g5
  (refine B6 rfl rfl (by (simp; done)) rfl (fun _ => (B1 (by exact A9 fun _ => rfl))) (fun _ => rfl) ?_; intro g3)
  refine A5 ⟨nofun, _, kS [1,3] [1,3] rfl, ?_⟩
  refine A3 <| A3 <| A0 <| A4 rfl rfl rfl ?_
  refine A5 ⟨nofun, _, kS [1,3,4] [1,3] rfl, ?_⟩
  refine D8 <| L0 (β := Nat × List W8 × Nat) [(.t 1, _), (.h 1, _)] (fun (z : Nat × List W8 × Nat) => match z with | (i, cs, g) => [(.t 4, iV i), (.h 3, .obj g 0 1 (cs.map tV)), (.t 3, .sl 3 g none 0 cs.length)]) (fun (z : Nat × List W8 × Nat) => match z with | (i, cs, g) => i ≤ t.kids.length ∧ cs = a1b t i) (fun (z : Nat × List W8 × Nat) => match z with | (i, cs, g) => t.kids.length - i) (0, [], _) ⟨rfl, rfl, rfl, rfl, rfl, trivial⟩ ⟨Nat.zero_le _, rfl⟩ ?_
  intro z hb
  obtain ⟨i, cs, g⟩ := z
  try dsimp only at hb
  obtain ⟨hi1, ha⟩ := hb
  have hnb := hnl i hi1
  rw [← ha] at hnb
  refine A3 <| A3 <| A0 <| A6 rfl rfl <| F4 rfl rfl (by decide) rfl rfl <| G3 rfl rfl rfl rfl rfl rfl <| I8 rfl rfl <| K9 rfl rfl ?_
  refine A5 ⟨nofun, _, kS [1,3,4,10] [1,3] rfl, ?_⟩
  refine A8 rfl (fun hc => ?_) (fun hc => ?_)
  ·try simp only [SG, List.length_map] at hc
   refine B7 <| A3 <| D8 <| A0 <| A6 rfl rfl <| F4 rfl rfl (by decide) rfl rfl <| G3 rfl rfl rfl rfl rfl rfl <| A6 rfl rfl <| G6 rfl rfl rfl (fun _ => rfl) (by omega) <| H3 rfl rfl rfl ?_
   have h1 := hcl i
   have h2 := hkz i (by omega)
   apply C9 rfl
   ·apply B4
    ·exact B5 rfl
    exact C8
   ·exact (by have hk2 := b5s (t := t) (i := i) (by omega); have hi := ih (t.kids.getD i default) (by omega) (hkg i (by omega)) (by omega); rw [← c3a] at hi; exact hi)
   ·exact ⟨rfl, rfl, rfl, of_decide_eq_true rfl, rfl⟩
   ·exact .inl rfl
   ·exact B8
   ·exact O2
   ·exact fun _ => rfl
   intro g19
   simp only [List.length_map]
   refine G9 rfl rfl rfl rfl (by (simp; done)) (by simp) (by decide) rfl rfl rfl rfl (by decide) (fun _ => ⟨rfl, rfl⟩) (by simp only [H5]; omega) (fun _ => rfl) ?_
   intro g20
   (refine B6 rfl rfl (by (simp; done)) rfl (fun _ => (B1 (by exact A9 fun _ => rfl))) (fun _ => rfl) ?_; intro g3)
   refine A5 ⟨nofun, _, kS [1,3,4] [1,3] rfl, ?_⟩
   refine A0 <| A6 rfl rfl <| L4 rfl rfl (H6 (by omega)) <| A4 rfl rfl rfl ?_
   refine A5 ⟨nofun, _, kS [1,3,4] [1,3] rfl, ?_⟩
   refine ⟨(i + 1, _, _), ⟨by omega, by rw [a1b, ← ha]⟩, (by simp only; omega), ⟨rfl, rfl, rfl, rfl, rfl, trivial⟩⟩
  try simp only [SG, List.length_map] at hc
  refine I4 <| A3 <| A3 <| A0 <| F4 rfl rfl (by decide) rfl rfl <| G3 rfl rfl rfl rfl rfl rfl <| a8e rfl rfl ?_
  refine A5 ⟨nofun, _, kS [1,3,23] [1,3] rfl, ?_⟩
  refine A8 rfl (fun hc => ?_) (fun hc => ?_)
  ·try simp only [SG, List.length_map] at hc
   obtain ⟨ns, rfl, hv⟩ := b2x hgd (by assumption)
   refine A3 <| A0 <| A6 rfl rfl <| F5 rfl rfl rfl rfl rfl ?_
   apply C9 rfl
   ·apply B4
    ·exact B5 rfl
    exact C8
   ·exact b8x ns hv
   ·exact ⟨rfl, rfl, rfl, of_decide_eq_true rfl, rfl⟩
   ·exact .inl rfl
   ·exact B8
   ·exact D4 rfl
   ·exact fun _ => rfl
   intro g26
   refine E8 (es := List.map tV [_]) rfl rfl (by decide) rfl rfl (fun _ => B1 (A9 fun _ => rfl)) (fun _ => rfl) ?_
   intro g27
   refine G9 rfl rfl rfl rfl (by (simp; done)) (by simp) (by decide) rfl rfl rfl rfl (by decide) (fun _ => ⟨rfl, rfl⟩) (by simp only [H5]; (simp only [List.length_nil, List.length_cons, List.length_append, Nat.zero_add, List.length_map]; omega)) (fun _ => rfl) ?_
   intro g28
   (refine B6 rfl rfl (by (simp; done)) rfl (fun _ => (B1 (by exact A9 fun _ => rfl))) (fun _ => rfl) ?_; intro g2)
   refine A5 ⟨nofun, _, kS [2] [2] rfl, ?_⟩
   refine B2 <| P4 rfl rfl (by simp) (by exact A9 fun _ => rfl) trivial ?_
   rw [ha, b3k ns i hi1]
  try simp only [SG, List.length_map] at hc
  refine B7 <| A3 <| A0 <| A6 rfl rfl <| F4 rfl rfl (by decide) rfl rfl <| G3 rfl rfl rfl rfl rfl rfl <| E8 (es := List.map tV [_]) rfl rfl (by decide) rfl rfl (fun _ => B1 (A9 fun _ => rfl)) (fun _ => rfl) ?_
  intro g32
  refine G9 rfl rfl rfl rfl (by (simp; done)) (by simp) (by decide) rfl rfl rfl rfl (by decide) (fun _ => ⟨rfl, rfl⟩) (by simp only [H5]; (simp only [List.length_nil, List.length_cons, List.length_append, Nat.zero_add, List.length_map]; omega)) (fun _ => rfl) ?_
  intro g33
  (refine B6 rfl rfl (by (simp; done)) rfl (fun _ => (B1 (by exact A9 fun _ => rfl))) (fun _ => rfl) ?_; intro g2)
  refine A5 ⟨nofun, _, kS [2] [2] rfl, ?_⟩
  refine B2 <| P4 rfl rfl (by simp) (by exact A9 fun _ => rfl) trivial ?_
  rw [ha, show i = t.kids.length by omega, hco (by assumption)]

theorem keep_s_codeI : G0 Tryd.f29 = [0, 2, 1, 9, 8, 10, 7, 5, 3, 20] := by kernel_rfl
set_option maxHeartbeats 20000000 in
theorem c9i (t : Pl) (ht : t.sz ≤ 1000) (hgd : t.good) : CW cxT 29 [trK t] = some (.own 1 ((Z8 t).map tV), []) := by
 obtain ⟨kk, hkk⟩ : ∃ kk : Nat, t.sz < kk := ⟨_, Nat.lt_succ_self _⟩
 revert t
 induction kk with
 | zero => intro t ht hgd hkk; exact absurd hkk (Nat.not_lt_zero _)
 | succ kk ih =>
  intro t ht hgd hkk
  have hkl := b6w t
  have hcl := fun i => O4 (t.kids.getD i default)
  have hkz := fun i => b5s (t := t) (i := i)
  have hkg := fun i => b6k hgd (i := i)
  have hnl := fun i => b3o (t := t) (i := i)
  have hco := fun h => b9i (t := t) h
  refine F6 rfl Tryd.func29 rfl ⟨by kernel_rfl, rfl, of_decide_eq_true rfl, of_decide_eq_true rfl, by decide⟩ keep_s_codeI <| A3 <| A0 <| b6q rfl rfl rfl (fun _ => C0 rfl) (fun _ => rfl) ?_
  intro g1
  (refine B3 rfl rfl (fun _ => rfl) ?_; intro g2)
  refine A5 ⟨nofun, _, kS [1] [1] rfl, ?_⟩
  refine A3 <| A0 ?_
  (refine B3 rfl rfl (fun _ => rfl) ?_; intro g3)
  refine A5 ⟨nofun, _, kS [1,3] [1,3] rfl, ?_⟩
  refine A3 <| A3 <| A0 <| F4 rfl rfl (by decide) rfl rfl <| G3 rfl rfl rfl rfl rfl rfl <| I8 rfl rfl <| A6 rfl rfl ?_
  refine A5 ⟨nofun, _, kS [1,3,7,8,9] [1,3] rfl, ?_⟩
  refine D8 <| L0 (β := Nat × List W8 × Nat) [(.t 1, _), (.t 7, _), (.t 8, _), (.h 1, _)] (fun (z : Nat × List W8 × Nat) => match z with | (i, cs, g) => [(.t 9, iV i), (.h 3, .obj g 0 1 (cs.map tV)), (.t 3, .sl 3 g none 0 cs.length)]) (fun (z : Nat × List W8 × Nat) => match z with | (i, cs, g) => i ≤ t.kids.length ∧ cs = a1b t i) (fun (z : Nat × List W8 × Nat) => match z with | (i, cs, g) => t.kids.length - i) (0, [], _) ⟨rfl, rfl, rfl, rfl, rfl, rfl, rfl, trivial⟩ ⟨Nat.zero_le _, rfl⟩ ?_
  intro z hb
  obtain ⟨i, cs, g⟩ := z
  try dsimp only at hb
  obtain ⟨hi1, ha⟩ := hb
  have hnb := hnl i hi1
  rw [← ha] at hnb
  refine A3 <| A0 <| K9 rfl rfl ?_
  refine A5 ⟨nofun, _, kS [1,3,7,8,9,10] [1,3] rfl, ?_⟩
  refine A3 ?_
  refine A8 rfl (fun hc => ?_) (fun hc => ?_)
  ·try simp only [SG, List.length_map] at hc
   refine B7 <| A3 <| D8 <| A3 <| A0 <| G6 rfl rfl rfl (fun _ => rfl) (by omega) <| H3 rfl rfl rfl <| H1 rfl (fun _ => C0 rfl) (fun _ => rfl) ?_
   intro g5
   refine C1 rfl rfl rfl rfl ⟨by decide, rfl, of_decide_eq_true rfl, of_decide_eq_true rfl, rfl⟩ rfl (by exact C0 rfl) ?_
   refine A5 ⟨nofun, _, kS [1,3,5,7,8,9] [1,3,5] rfl, ?_⟩
   refine A0 <| A6 rfl rfl <| F5 rfl rfl rfl rfl rfl ?_
   have h1 := hcl i
   have h2 := hkz i (by omega)
   apply C9 rfl
   ·apply B4
    ·exact B5 rfl
    exact C8
   ·exact (by have hk2 := b5s (t := t) (i := i) (by omega); have hi := ih (t.kids.getD i default) (by omega) (hkg i (by omega)) (by omega); rw [← c3a] at hi; exact hi)
   ·exact ⟨rfl, rfl, rfl, of_decide_eq_true rfl, rfl⟩
   ·exact .inl rfl
   ·exact B8
   ·exact O2
   ·exact fun _ => rfl
   intro g15
   simp only [List.length_map]
   refine G9 rfl rfl rfl rfl (by (simp; done)) (by simp) (by decide) rfl rfl rfl rfl (by decide) (fun _ => ⟨rfl, rfl⟩) (by simp only [H5]; omega) (fun _ => rfl) ?_
   intro g16
   (refine B6 rfl rfl (by (simp; done)) rfl (fun _ => (B1 (by exact A9 fun _ => rfl))) (fun _ => rfl) ?_; intro g3)
   refine A5 ⟨nofun, _, kS [1,3,7,8,9] [1,3] rfl, ?_⟩
   refine A0 <| L4 rfl rfl (H6 (by omega)) <| A6 rfl rfl ?_
   refine A5 ⟨nofun, _, kS [1,3,7,8,9] [1,3] rfl, ?_⟩
   refine ⟨(i + 1, _, _), ⟨by omega, by rw [a1b, ← ha]⟩, (by simp only; omega), ⟨rfl, rfl, rfl, rfl, rfl, rfl, rfl, trivial⟩⟩
  try simp only [SG, List.length_map] at hc
  refine I4 <| A3 <| A3 <| A0 <| F4 rfl rfl (by decide) rfl rfl <| G3 rfl rfl rfl rfl rfl rfl <| a8e rfl rfl ?_
  refine A5 ⟨nofun, _, kS [1,3,20] [1,3] rfl, ?_⟩
  refine A8 rfl (fun hc => ?_) (fun hc => ?_)
  ·try simp only [SG, List.length_map] at hc
   obtain ⟨ns, rfl, hv⟩ := b2x hgd (by assumption)
   refine A3 <| A0 <| A6 rfl rfl <| F4 rfl rfl (by decide) rfl rfl <| G3 rfl rfl rfl rfl rfl rfl ?_
   have hl := c1r hv
   have hnb := c6p hv
   have hll := a0u hnb
   apply C9 rfl
   ·apply B4
    ·exact B5 rfl
    exact C8
   ·exact a2t ns (by omega) hnb
   ·exact ⟨rfl, rfl, rfl, of_decide_eq_true rfl, rfl⟩
   ·exact .inl rfl
   ·exact B8
   ·exact D4 rfl
   ·exact fun _ => rfl
   intro g24
   refine E8 (es := List.map tV [_]) rfl rfl (by decide) rfl rfl (fun _ => B1 (A9 fun _ => rfl)) (fun _ => rfl) ?_
   intro g25
   refine G9 rfl rfl rfl rfl (by (simp; done)) (by simp) (by decide) rfl rfl rfl rfl (by decide) (fun _ => ⟨rfl, rfl⟩) (by simp only [H5]; (simp only [List.length_nil, List.length_cons, List.length_append, Nat.zero_add, List.length_map]; omega)) (fun _ => rfl) ?_
   intro g26
   (refine B6 rfl rfl (by (simp; done)) rfl (fun _ => (B1 (by exact A9 fun _ => rfl))) (fun _ => rfl) ?_; intro g2)
   refine A5 ⟨nofun, _, kS [2] [2] rfl, ?_⟩
   refine B2 <| P4 rfl rfl (by simp) (by exact A9 fun _ => rfl) trivial ?_
   rw [ha, b3k ns i hi1]
  try simp only [SG, List.length_map] at hc
  refine B7 <| A3 <| A0 <| A6 rfl rfl <| F4 rfl rfl (by decide) rfl rfl <| G3 rfl rfl rfl rfl rfl rfl <| E8 (es := List.map tV [_]) rfl rfl (by decide) rfl rfl (fun _ => B1 (A9 fun _ => rfl)) (fun _ => rfl) ?_
  intro g30
  refine G9 rfl rfl rfl rfl (by (simp; done)) (by simp) (by decide) rfl rfl rfl rfl (by decide) (fun _ => ⟨rfl, rfl⟩) (by simp only [H5]; (simp only [List.length_nil, List.length_cons, List.length_append, Nat.zero_add, List.length_map]; omega)) (fun _ => rfl) ?_
  intro g31
  (refine B6 rfl rfl (by (simp; done)) rfl (fun _ => (B1 (by exact A9 fun _ => rfl))) (fun _ => rfl) ?_; intro g2)
  refine A5 ⟨nofun, _, kS [2] [2] rfl, ?_⟩
  refine B2 <| P4 rfl rfl (by simp) (by exact A9 fun _ => rfl) trivial ?_
  rw [ha, show i = t.kids.length by omega, hco (by assumption)]

theorem keep_s_CodeOfS : G0 Tryd.f13 = [0, 2, 4, 11, 3, 7] := by kernel_rfl
set_option maxHeartbeats 20000000 in
theorem c4y (s : List UInt8) (hs : s.length ≤ 1048576) : CW cxT 13 [tV s] = some (.own 1 ((a0f s).map tV), []) := by
 refine F6 rfl Tryd.func13 rfl ⟨by kernel_rfl, rfl, of_decide_eq_true rfl, of_decide_eq_true rfl, by decide⟩ keep_s_CodeOfS <| A3 <| A0 ?_
 (refine B3 rfl rfl (fun _ => rfl) ?_; intro g2)
 refine A5 ⟨nofun, _, kS [0] [] rfl, ?_⟩
 refine A3 <| A0 <| A6 rfl rfl ?_
 apply C9 rfl
 ·apply B4
  ·exact B5 rfl
  exact C8
 ·exact c0y s hs
 ·exact ⟨rfl, rfl, rfl, of_decide_eq_true rfl, rfl⟩
 ·exact .inl rfl
 ·exact B8
 ·exact J9 rfl
 ·exact fun _ => rfl
 intro g7
 refine A6 rfl rfl <| B0 rfl rfl rfl <| B0 rfl rfl rfl <| H1 rfl (fun _ => C0 rfl) (fun _ => rfl) ?_
 intro g3
 refine C1 rfl rfl rfl rfl ⟨by decide, rfl, of_decide_eq_true rfl, of_decide_eq_true rfl, rfl⟩ rfl (by exact C0 rfl) <| A4 rfl rfl rfl ?_
 refine A5 ⟨nofun, _, kS [3,4] [3] rfl, ?_⟩
 refine A3 <| A3 <| A0 <| A6 rfl rfl <| N2 rfl ?_
 refine A5 ⟨nofun, _, kS [3,11] [3] rfl, ?_⟩
 refine A8 rfl (fun hc => ?_) (fun hc => ?_)
 ·try simp only [SG, List.length_map] at hc
  refine A3 <| A0 ?_
  (refine B3 rfl rfl (fun _ => rfl) ?_; intro g2)
  refine A5 ⟨nofun, _, kS [2] [2] rfl, ?_⟩
  refine B2 <| P4 rfl rfl (by simp) (by rfl) trivial ?_
  rw [b0v hc]
  rfl
 try simp only [SG, List.length_map] at hc
 refine B7 <| A3 <| A0 <| F5 rfl rfl rfl rfl rfl ?_
 obtain ⟨t, ht1, ht2, ht3⟩ := b1o hc
 have hpg := a7z hs ht1
 rw [ht2, c3a]
 apply C9 rfl
 ·apply B4
  ·exact B5 rfl
  exact C8
 ·exact c9h t (by omega) hpg
 ·exact ⟨rfl, rfl, rfl, of_decide_eq_true rfl, rfl⟩
 ·exact .inl rfl
 ·exact B8
 ·exact O2
 ·exact fun _ => rfl
 intro g13
 simp only [List.length_map]
 (refine B6 rfl rfl (by (simp; done)) rfl (fun _ => (B1 (by exact A9 fun _ => rfl))) (fun _ => rfl) ?_; intro g2)
 refine A5 ⟨nofun, _, kS [2] [2] rfl, ?_⟩
 refine B2 <| P4 rfl rfl (by simp) (by exact A9 fun _ => rfl) trivial ?_
 rw [b1n ht1]

theorem keep_s_ClipT : G0 Tryd.f28 = [0, 2] := by kernel_rfl
set_option maxHeartbeats 20000000 in
theorem c9y (xs : List W8) (hx : xs.length ≤ H5) : CW cxT 28 [.own 1 (xs.map tV)] = some (.own 1 (xs.map tV), []) := by
 refine F6 rfl Tryd.func28 rfl ⟨by kernel_rfl, rfl, of_decide_eq_true rfl, of_decide_eq_true rfl, by decide⟩ keep_s_ClipT <| A3 <| A0 ?_
 (refine B3 rfl rfl (fun _ => rfl) ?_; intro g2)
 refine A5 ⟨nofun, _, kS [0] [0] rfl, ?_⟩
 refine A3 <| A0 <| A6 rfl rfl <| A6 rfl rfl <| Y9 rfl rfl <| A6 rfl rfl <| Y9 rfl rfl ?_
 refine d1j rfl rfl rfl rfl rfl rfl (fun hz => ?_) (fun hz => ?_)
 ·skip
  (refine B3 rfl rfl (fun _ => rfl) ?_; intro g2)
  refine A5 ⟨nofun, _, kS [2] [0,2] rfl, ?_⟩
  refine B2 <| P4 rfl rfl (by (simp; done)) (by rfl) trivial ?_
  (have h0 : xs = [] := (by simpa using hz); subst h0; rfl)
 skip
 (refine B6 rfl rfl (by (simp; done)) rfl (fun _ => (B1 (by exact A9 fun _ => rfl))) (fun _ => rfl) ?_; intro g2)
 refine A5 ⟨nofun, _, kS [2] [0,2] rfl, ?_⟩
 refine B2 <| P4 rfl rfl (by (simp; done)) (by exact A9 fun _ => rfl) trivial ?_
 rfl

theorem keep_s_CodeOfI : G0 Tryd.f14 = [0, 2, 4, 11, 3, 7] := by kernel_rfl
set_option maxHeartbeats 20000000 in
theorem b3t (s : List UInt8) (hs : s.length ≤ 1048576) : CW cxT 14 [tV s] = some (.own 1 ((a0f s).map tV), []) := by
 refine F6 rfl Tryd.func14 rfl ⟨by kernel_rfl, rfl, of_decide_eq_true rfl, of_decide_eq_true rfl, by decide⟩ keep_s_CodeOfI <| A3 <| A0 ?_
 (refine B3 rfl rfl (fun _ => rfl) ?_; intro g2)
 refine A5 ⟨nofun, _, kS [0] [] rfl, ?_⟩
 refine A3 <| A0 <| A6 rfl rfl ?_
 apply C9 rfl
 ·apply B4
  ·exact B5 rfl
  exact C8
 ·exact b7q s hs
 ·exact ⟨rfl, rfl, rfl, of_decide_eq_true rfl, rfl⟩
 ·exact .inl rfl
 ·exact B8
 ·exact J9 rfl
 ·exact fun _ => rfl
 intro g7
 refine A6 rfl rfl <| B0 rfl rfl rfl <| B0 rfl rfl rfl <| H1 rfl (fun _ => C0 rfl) (fun _ => rfl) ?_
 intro g3
 refine C1 rfl rfl rfl rfl ⟨by decide, rfl, of_decide_eq_true rfl, of_decide_eq_true rfl, rfl⟩ rfl (by exact C0 rfl) <| A4 rfl rfl rfl ?_
 refine A5 ⟨nofun, _, kS [3,4] [3] rfl, ?_⟩
 refine A3 <| A3 <| A0 <| A6 rfl rfl <| N2 rfl ?_
 refine A5 ⟨nofun, _, kS [3,11] [3] rfl, ?_⟩
 refine A8 rfl (fun hc => ?_) (fun hc => ?_)
 ·try simp only [SG, List.length_map] at hc
  refine A3 <| A0 ?_
  (refine B3 rfl rfl (fun _ => rfl) ?_; intro g2)
  refine A5 ⟨nofun, _, kS [2] [2] rfl, ?_⟩
  refine B2 <| P4 rfl rfl (by simp) (by rfl) trivial ?_
  rw [b0v hc]
  rfl
 try simp only [SG, List.length_map] at hc
 refine B7 <| A3 <| A0 <| F5 rfl rfl rfl rfl rfl ?_
 obtain ⟨t, ht1, ht2, ht3⟩ := b1o hc
 have hpg := a7z hs ht1
 rw [d1i ht1, c3a]
 apply C9 rfl
 ·apply B4
  ·exact B5 rfl
  exact C8
 ·exact c9i t (by omega) hpg
 ·exact ⟨rfl, rfl, rfl, of_decide_eq_true rfl, rfl⟩
 ·exact .inl rfl
 ·exact B8
 ·exact O2
 ·exact fun _ => rfl
 intro g13
 simp only [List.length_map]
 apply C9 rfl
 ·apply B4
  ·exact c8w rfl rfl (by (simp; done)) (A9 fun _ => rfl)
  exact C8
 ·exact c9y (Z8 t) (by rw [O4]; simp only [H5]; omega)
 ·exact ⟨rfl, rfl, rfl, of_decide_eq_true rfl, rfl⟩
 ·exact .inl rfl
 ·exact B8
 ·exact O2
 ·exact fun _ => rfl
 intro g14
 simp only [List.length_map]
 (refine B6 rfl rfl (by (simp; done)) rfl (fun _ => (B1 (by exact A9 fun _ => rfl))) (fun _ => rfl) ?_; intro g2)
 refine A5 ⟨nofun, _, kS [2] [2] rfl, ?_⟩
 refine B2 <| P4 rfl rfl (by simp) (by exact A9 fun _ => rfl) trivial ?_
 rw [b1n ht1]

theorem keep_s_markTextT : G0 Tryd.f30 = [0, 2, 5, 7, 3] := by kernel_rfl
set_option maxHeartbeats 20000000 in
theorem a8b (k : Int) (hk : k ≤ 1000000) : CW cxT 30 [iV k] = some (tV (mT k), []) := by
 refine F6 rfl Tryd.func30 rfl ⟨by kernel_rfl, rfl, of_decide_eq_true rfl, of_decide_eq_true rfl, by decide⟩ keep_s_markTextT <| A3 <| A0 <| A4 rfl rfl rfl ?_
 refine A5 ⟨nofun, _, kS [0] [] rfl, ?_⟩
 refine A3 <| A3 <| A0 <| A6 rfl rfl <| a7p rfl rfl ?_
 refine A5 ⟨nofun, _, kS [0,5] [] rfl, ?_⟩
 refine A8 rfl (fun hc => ?_) (fun hc => ?_)
 ·try simp only [SG, List.length_map] at hc
  refine A3 <| A0 <| A4 rfl rfl rfl ?_
  refine A5 ⟨nofun, _, kS [2] [] rfl, ?_⟩
  refine B2 <| C6 rfl rfl trivial ?_
  rw [mT, if_pos (by omega)]
  rfl
 try simp only [SG, List.length_map] at hc
 refine B7 <| A3 <| A0 <| A4 rfl rfl rfl ?_
 refine A5 ⟨nofun, _, kS [0,3] [] rfl, ?_⟩
 refine A3 <| D8 <| c2k (β := Int × List UInt8) (fun (z : Int × List UInt8) => match z with | (q, s) => [(.t 0, iV q), (.t 3, tV s)]) (fun (z : Int × List UInt8) => match z with | (q, s) => 0 ≤ q ∧ q + s.length ≤ 1000001 ∧ mkS k q s) (fun (z : Int × List UInt8) => match z with | (q, s) => q.toNat) (k, []) ⟨rfl, rfl, trivial⟩ ⟨by omega, by show k + ((0 : Nat) : Int) ≤ _; omega, by rw [mkS, if_neg (by omega), List.append_nil]⟩ ?_
 intro z hb
 obtain ⟨q, s⟩ := z
 try dsimp only at hb
 obtain ⟨hq0, hq, hmk⟩ := hb
 refine A3 <| A3 <| A0 <| A6 rfl rfl <| W0 rfl rfl ?_
 refine A5 ⟨nofun, _, kS [0,3,7] [] rfl, ?_⟩
 refine A8 rfl (fun hc => ?_) (fun hc => ?_)
 ·try simp only [SG, List.length_map] at hc
  refine B7 <| D8 <| A3 <| A0 <| A6 rfl rfl ?_
  have hm1 : 0 ≤ q.tmod 10 ∧ q.tmod 10 < 10 := ⟨Int.tmod_nonneg _ (by omega), Int.tmod_lt_of_pos _ (by decide)⟩
  have hd1 : q.tdiv 10 = q / 10 := Int.tdiv_eq_ediv_of_nonneg (by omega)
  refine d0d rfl rfl (by omega) <| L4 rfl rfl (H6 (by omega)) ?_
  refine b4p rfl rfl rfl (by constructor <;> simp [IntKind.min, IntKind.max, IntKind.signed, IntKind.bits] <;> omega) ?_
  refine E8 (es := List.map uV [_]) rfl rfl (by decide) rfl rfl (fun _ => B1 (A9 fun _ => rfl)) (fun _ => rfl) ?_
  intro g12
  refine c9n rfl rfl rfl rfl rfl rfl (by simp) (d0z (by omega)) <| A6 rfl rfl <| Z0 rfl rfl (by simp only [H5, List.length_append, List.length_cons, List.length_nil]; omega) <| A4 rfl rfl rfl ?_
  refine A5 ⟨nofun, _, kS [0,3] [] rfl, ?_⟩
  refine A0 <| A6 rfl rfl <| d0h rfl rfl ⟨by omega, H6 (by omega)⟩ <| A4 rfl rfl rfl ?_
  refine A5 ⟨nofun, _, kS [0,3] [] rfl, ?_⟩
  refine ⟨(q.tdiv 10, _), ⟨by omega, by simp only [List.length_append, List.length_cons, List.length_nil]; omega, c7y hmk (by omega)⟩, (by simp only; omega), ⟨rfl, rfl, trivial⟩⟩
 try simp only [SG, List.length_map] at hc
 refine I4 <| A3 <| A0 <| A6 rfl rfl <| Z0 rfl rfl (by simp only [H5, List.length_append, List.length_cons, List.length_nil]; omega) <| A4 rfl rfl rfl ?_
 refine A5 ⟨nofun, _, kS [2] [] rfl, ?_⟩
 refine B2 <| C6 rfl rfl trivial ?_
 rw [← c8z hmk (by omega) (by omega)]
 rfl

theorem keep_s_eqStringS : G0 Tryd.f15 = [0, 1, 4, 10, 5, 14, 25] := by kernel_rfl
set_option maxHeartbeats 20000000 in
theorem a7m (cs : List W8) (hl : cs.length ≤ 100) : CW cxT 15 [.list (cs.map tV), .list (cs.map tV)] = some (bV true, []) := by
 refine F6 rfl Tryd.func15 rfl ⟨by kernel_rfl, rfl, of_decide_eq_true rfl, of_decide_eq_true rfl, by decide⟩ keep_s_eqStringS <| A3 <| A0 <| A4 rfl rfl rfl ?_
 refine A5 ⟨nofun, _, kS [0,1] [] rfl, ?_⟩
 refine A3 <| A3 <| A0 <| A6 rfl rfl <| I8 rfl rfl <| A6 rfl rfl <| I8 rfl rfl <| b8y rfl rfl ?_
 refine A5 ⟨nofun, _, kS [0,1,10] [] rfl, ?_⟩
 refine A8 rfl (fun hc => ?_) (fun hc => ?_)
 ·try simp only [SD] at hc
  exact absurd trivial hc
 try simp only [SG, List.length_map] at hc
 refine B7 <| A3 <| A3 <| A0 <| A4 rfl rfl rfl ?_
 refine A5 ⟨nofun, _, kS [0,1,5] [] rfl, ?_⟩
 refine D8 <| L0 (β := Nat) [(.t 0, _), (.t 1, _)] (fun (i : Nat) => [(.t 5, iV i)]) (fun (i : Nat) => i ≤ cs.length) (fun (i : Nat) => cs.length - i) 0 ⟨rfl, rfl, rfl, trivial⟩ (Nat.zero_le _) ?_
 intro i hb
 have hi1 := hb
 refine A3 <| A3 <| A0 <| A6 rfl rfl <| A6 rfl rfl <| I8 rfl rfl <| K9 rfl rfl ?_
 refine A5 ⟨nofun, _, kS [0,1,5,14] [] rfl, ?_⟩
 refine A8 rfl (fun hc => ?_) (fun hc => ?_)
 ·try simp only [SG, List.length_map] at hc
  refine B7 <| A3 <| D8 <| A3 <| A0 <| A6 rfl rfl <| A6 rfl rfl <| G6 rfl rfl rfl (fun _ => rfl) (by omega) <| H3 rfl rfl rfl <| A6 rfl rfl <| A6 rfl rfl <| G6 rfl rfl rfl (fun _ => rfl) (by omega) <| H3 rfl rfl rfl <| a8j rfl rfl ?_
  refine A5 ⟨fun _ => ⟨by decide +kernel, by decide +kernel⟩, [(.t 0, _), (.t 1, _), (.t 5, _), (.t 25, _)], ⟨rfl, rfl, rfl, rfl, rfl, rfl, rfl, rfl, trivial⟩, ?_⟩
  refine A8 rfl (fun hc => ?_) (fun hc => ?_)
  ·try simp only [SD] at hc
   exact absurd trivial hc
  try simp only [SG, List.length_map] at hc
  refine B7 <| A0 <| A6 rfl rfl <| L4 rfl rfl (H6 (by omega)) <| A4 rfl rfl rfl ?_
  refine A5 ⟨nofun, _, kS [0,1,5] [] rfl, ?_⟩
  refine ⟨i + 1, (by omega), (by omega), ⟨rfl, rfl, rfl, trivial⟩⟩
 try simp only [SG, List.length_map] at hc
 refine I4 <| A3 <| A0 <| A4 rfl rfl rfl ?_
 refine A5 ⟨nofun, _, kS [4] [] rfl, ?_⟩
 refine B2 <| C6 rfl rfl trivial ?_
 rfl

theorem keep_s_markStringS : G0 Tryd.f16 = [0, 1, 4, 5, 9, 15] := by kernel_rfl
set_option maxHeartbeats 20000000 in
theorem b2n (cs : List W8) (hl : cs.length ≤ 100) (k : Int) (hk : 0 ≤ k ∧ k ≤ 1000) : ∃ res outs, (fun res outs => res = iV (k + cs.length) ∧ outs = [(mkT k cs.length).map tV]) res outs ∧ CW cxT 16 [.own 1 (cs.map tV), iV k] = some (res, outs) := by
 refine b3e rfl Tryd.func16 rfl ⟨by kernel_rfl, rfl, of_decide_eq_true rfl, of_decide_eq_true rfl, by decide⟩ keep_s_markStringS <| A3 <| A0 <| A4 rfl rfl rfl ?_
 refine A5 ⟨nofun, _, kS [0,1] [0] rfl, ?_⟩
 refine A3 <| A3 <| A0 <| A4 rfl rfl rfl ?_
 refine A5 ⟨nofun, _, kS [0,1,5] [0] rfl, ?_⟩
 refine D8 <| L0 (β := Nat × List W8 × Int) [(.t 0, _)] (fun (z : Nat × List W8 × Int) => match z with | (i, ys, q) => [(.t 5, iV i), (.t 1, iV q), (.h 0, .obj 1 1 1 (ys.map tV))]) (fun (z : Nat × List W8 × Int) => match z with | (i, ys, q) => i ≤ cs.length ∧ ys.length = cs.length ∧ q = k + i ∧ ∀ j, j < i → ys.getD j default = mT (k + j)) (fun (z : Nat × List W8 × Int) => match z with | (i, ys, q) => cs.length - i) (0, cs, k) ⟨rfl, rfl, rfl, rfl, trivial⟩ ⟨Nat.zero_le _, rfl, by simp, fun j h => by omega⟩ ?_
 intro z hb
 obtain ⟨i, ys, q⟩ := z
 try dsimp only at hb
 obtain ⟨hi1, hi2, hq, hi3⟩ := hb
 refine A3 <| A3 <| A0 <| A6 rfl rfl <| A6 rfl rfl <| Y9 rfl rfl <| K9 rfl rfl ?_
 refine A5 ⟨nofun, _, kS [0,1,5,9] [0] rfl, ?_⟩
 refine A8 rfl (fun hc => ?_) (fun hc => ?_)
 ·try simp only [SG, List.length_map] at hc
  refine B7 <| A3 <| D8 <| A3 <| A0 <| A6 rfl rfl <| A6 rfl rfl <| A6 rfl rfl ?_
  apply C9 rfl
  ·apply B4
   ·exact B5 rfl
   exact C8
  ·exact a8b q (by omega)
  ·exact ⟨rfl, rfl, rfl, of_decide_eq_true rfl, rfl⟩
  ·exact .inl rfl
  ·exact B8
  ·exact D4 rfl
  ·exact fun _ => rfl
  intro g15
  refine S5 rfl rfl rfl rfl (by (simp; omega)) (by (simp; omega)) rfl <| b4l rfl rfl rfl (by omega) (fun _ _ => ⟨rfl, rfl, of_decide_eq_true rfl, of_decide_eq_true rfl, rfl, rfl⟩) (by decide) (by exact c4i (A9 fun _ => rfl)) ?_
  refine A5 ⟨nofun, _, kS [0,1,5] [0] rfl, ?_⟩
  refine A0 <| A6 rfl rfl <| L4 rfl rfl (H6 (by omega)) <| A4 rfl rfl rfl ?_
  refine A5 ⟨nofun, _, kS [0,1,5] [0] rfl, ?_⟩
  refine A0 <| A6 rfl rfl <| L4 rfl rfl (H6 (by omega)) <| A4 rfl rfl rfl ?_
  refine A5 ⟨nofun, _, kS [0,1,5] [0] rfl, ?_⟩
  refine ⟨(i + 1, ys.set i (mT q), q + 1), ⟨by omega, by simp [hi2], by omega, fun j hj => by rw [c3q (by omega)]; by_cases e : j = i; (· rw [if_pos e, e, hq]); (· rw [if_neg e]; exact hi3 j (by omega))⟩, (by simp only; omega), ⟨rfl, rfl, rfl, rfl, trivial⟩⟩
 try simp only [SG, List.length_map] at hc
 refine I4 <| A3 <| A0 <| A6 rfl rfl <| A4 rfl rfl rfl ?_
 refine A5 ⟨nofun, _, kS [4] [0] rfl, ?_⟩
 refine B2 ?_
 refine ⟨_, _, ?_, a9b rfl rfl (c5i rfl (a5m fun _ => rfl))⟩
 exact ⟨by rw [show q = k + (cs.length : Int) by omega], by rw [c4z (xs := ys) (ys := mkT k cs.length) (by simp [hi2, a4l]) fun j hj => by rw [hi3 j (by omega), b7a (by omega)]]⟩

theorem keep_s_heldStringS : G0 Tryd.f17 = [0, 1, 4, 5, 9, 18] := by kernel_rfl
set_option maxHeartbeats 20000000 in
theorem a4f (n : Nat) (hl : n ≤ 100) (k : Int) (hk : 0 ≤ k ∧ k ≤ 1000) : CW cxT 17 [.list ((mkT k n).map tV), iV k] = some (iV (k + n), []) := by
 have hml := a4l k n
 refine F6 rfl Tryd.func17 rfl ⟨by kernel_rfl, rfl, of_decide_eq_true rfl, of_decide_eq_true rfl, by decide⟩ keep_s_heldStringS <| A3 <| A0 <| A4 rfl rfl rfl ?_
 refine A5 ⟨nofun, _, kS [0,1] [] rfl, ?_⟩
 refine A3 <| A3 <| A0 <| A4 rfl rfl rfl ?_
 refine A5 ⟨nofun, _, kS [0,1,5] [] rfl, ?_⟩
 refine D8 <| L0 (β := Nat × Int) [(.t 0, _)] (fun (z : Nat × Int) => match z with | (i, q) => [(.t 5, iV i), (.t 1, iV q)]) (fun (z : Nat × Int) => match z with | (i, q) => i ≤ n ∧ q = k + i) (fun (z : Nat × Int) => match z with | (i, q) => n - i) (0, k) ⟨rfl, rfl, rfl, trivial⟩ ⟨Nat.zero_le _, by simp⟩ ?_
 intro z hb
 obtain ⟨i, q⟩ := z
 try dsimp only at hb
 obtain ⟨hi1, hq⟩ := hb
 have hgi : i < n → (mkT k n).getD i default = mT q := fun h => by rw [hq]; exact b7a (k := k) h
 refine A3 <| A3 <| A0 <| A6 rfl rfl <| A6 rfl rfl <| I8 rfl rfl <| K9 rfl rfl ?_
 refine A5 ⟨nofun, _, kS [0,1,5,9] [] rfl, ?_⟩
 refine A8 rfl (fun hc => ?_) (fun hc => ?_)
 ·try simp only [SG, List.length_map] at hc
  refine B7 <| A3 <| D8 <| A3 <| A3 <| A0 <| A6 rfl rfl <| A6 rfl rfl <| G6 rfl rfl rfl (fun _ => rfl) (by omega) <| H3 rfl rfl rfl <| A6 rfl rfl ?_
  apply C9 rfl
  ·apply B4
   ·exact B5 rfl
   exact C8
  ·exact a8b q (by omega)
  ·exact ⟨rfl, rfl, rfl, of_decide_eq_true rfl, rfl⟩
  ·exact .inl rfl
  ·exact B8
  ·exact D4 rfl
  ·exact fun _ => rfl
  intro g17
  refine a8j rfl rfl ?_
  refine A5 ⟨fun _ => ⟨by (simp only [a2d, List.nil_append, List.append_nil, List.map_cons, List.map_nil, List.cons_append]; decide +kernel), by decide +kernel⟩, [(.t 0, _), (.t 1, _), (.t 5, _), (.t 18, _)], ⟨rfl, rfl, rfl, rfl, rfl, rfl, rfl, rfl, trivial⟩, ?_⟩
  refine A8 rfl (fun hc => ?_) (fun hc => ?_)
  ·try simp only [SD] at hc
   exact absurd (by (rw [hgi (by omega)]; done)) hc
  try simp only [SG, List.length_map] at hc
  refine B7 <| A0 <| A6 rfl rfl <| L4 rfl rfl (H6 (by omega)) <| A4 rfl rfl rfl ?_
  refine A5 ⟨nofun, _, kS [0,1,5] [] rfl, ?_⟩
  refine A0 <| A6 rfl rfl <| L4 rfl rfl (H6 (by omega)) <| A4 rfl rfl rfl ?_
  refine A5 ⟨nofun, _, kS [0,1,5] [] rfl, ?_⟩
  refine ⟨(i + 1, q + 1), ⟨by omega, by omega⟩, (by simp only; omega), ⟨rfl, rfl, rfl, trivial⟩⟩
 try simp only [SG, List.length_map] at hc
 refine I4 <| A3 <| A0 <| A6 rfl rfl <| A4 rfl rfl rfl ?_
 refine A5 ⟨nofun, _, kS [4] [] rfl, ?_⟩
 refine B2 <| C6 rfl rfl trivial ?_
 rw [show q = k + (n : Int) by omega]

theorem keep_s_FnExactCodeOf : G0 Tryd.f5 = [0, 2, 10, 3, 4, 18, 5, 6, 26, 29, 7, 35, 40, 43] := by kernel_rfl
set_option maxHeartbeats 20000000 in
theorem a8r (s : List UInt8) : CW cxT 5 [tV s] = some (bV true, []) := by
 have hcl := c3z s
 have hml := a4l 1 (a0f s).length
 refine F6 rfl Tryd.func5 rfl ⟨by kernel_rfl, rfl, of_decide_eq_true rfl, of_decide_eq_true rfl, by decide⟩ keep_s_FnExactCodeOf <| A3 <| A0 <| A4 rfl rfl rfl ?_
 refine A5 ⟨nofun, _, kS [0] [] rfl, ?_⟩
 refine A3 <| A3 <| A0 <| A6 rfl rfl <| a3b rfl rfl <| W0 rfl rfl ?_
 refine A5 ⟨nofun, _, kS [0,10] [] rfl, ?_⟩
 refine A8 rfl (fun hc => ?_) (fun hc => ?_)
 ·try simp only [SG, List.length_map] at hc
  refine A3 <| A0 <| A4 rfl rfl rfl ?_
  refine A5 ⟨nofun, _, kS [2] [] rfl, ?_⟩
  refine B2 <| C6 rfl rfl trivial ?_
  rfl
 try simp only [SG, List.length_map] at hc
 refine B7 <| A3 <| A0 <| A6 rfl rfl ?_
 apply C9 rfl
 ·apply B4
  ·exact B5 rfl
  exact C8
 ·exact c4y s (by omega)
 ·exact ⟨rfl, rfl, rfl, of_decide_eq_true rfl, rfl⟩
 ·exact .inl rfl
 ·exact B8
 ·exact O2
 ·exact fun _ => rfl
 intro g12
 simp only [List.length_map]
 (refine B6 rfl rfl (by (simp; done)) rfl (fun _ => (B1 (by exact A9 fun _ => rfl))) (fun _ => rfl) ?_; intro g3)
 refine A5 ⟨nofun, _, kS [0,3] [3] rfl, ?_⟩
 refine A3 <| A0 <| A6 rfl rfl ?_
 apply C9 rfl
 ·apply B4
  ·exact B5 rfl
  exact C8
 ·exact b3t s (by omega)
 ·exact ⟨rfl, rfl, rfl, of_decide_eq_true rfl, rfl⟩
 ·exact .inl rfl
 ·exact B8
 ·exact O2
 ·exact fun _ => rfl
 intro g14
 simp only [List.length_map]
 (refine B6 rfl rfl (by (simp; done)) rfl (fun _ => (B1 (by exact A9 fun _ => rfl))) (fun _ => rfl) ?_; intro g4)
 refine A5 ⟨nofun, _, kS [0,3,4] [3,4] rfl, ?_⟩
 refine A3 <| A3 <| A0 <| A6 rfl rfl <| A6 rfl rfl ?_
 apply C9 rfl
 ·apply B4
  ·exact K2 rfl rfl rfl (by (simp; done)) (fun _ => rfl)
  apply B4
  ·exact K2 rfl rfl rfl (by (simp; done)) (fun _ => rfl)
  exact C8
 ·exact a7m (a0f s) (by omega)
 ·exact ⟨rfl, rfl, rfl, of_decide_eq_true rfl, rfl⟩
 ·exact .inr ⟨rfl, rfl⟩
 ·exact B8
 ·exact D4 rfl
 ·exact fun _ => rfl
 intro g17
 refine N2 rfl ?_
 refine A5 ⟨nofun, _, kS [0,3,4,18] [3,4] rfl, ?_⟩
 refine A8 rfl (fun hc => absurd hc (by decide)) (fun hc => ?_)
 refine B7 <| A3 <| A0 <| A4 rfl rfl rfl ?_
 refine A5 ⟨nofun, _, kS [0,3,4,5] [3,4] rfl, ?_⟩
 refine A3 <| A0 <| A6 rfl rfl <| A6 rfl rfl ?_
 obtain ⟨_, _, ⟨rfl, rfl⟩, hM⟩ := b2n (a0f s) (by omega) 1 (by omega)
 apply C9 rfl
 ·apply B4
  ·exact c7q rfl rfl (by decide) (by (simp; done)) (a5m fun _ => rfl)
  apply B4
  ·exact B5 rfl
  exact C8
 ·exact hM
 ·exact ⟨rfl, rfl, rfl, of_decide_eq_true rfl, rfl⟩
 ·exact .inl rfl
 ·exact c3h rfl (by simp) (b9u (fun _ => rfl) _ _) B8
 ·exact D4 rfl
 ·(intro _; exact D6 (B1 (A9 fun _ => rfl)) rfl)
 intro g21
 refine A4 rfl rfl rfl ?_
 refine A5 ⟨nofun, _, kS [0,3,4,5] [3,4] rfl, ?_⟩
 refine A3 <| A0 <| A4 rfl rfl rfl ?_
 refine A5 ⟨nofun, _, kS [0,3,4,5,6] [3,4] rfl, ?_⟩
 refine A3 <| A0 <| A6 rfl rfl <| A6 rfl rfl ?_
 apply C9 rfl
 ·apply B4
  ·exact K2 rfl rfl rfl (by (simp; done)) (fun _ => rfl)
  apply B4
  ·exact B5 rfl
  exact C8
 ·exact a4f (a0f s).length (by omega) 1 (by omega)
 ·exact ⟨rfl, rfl, rfl, of_decide_eq_true rfl, rfl⟩
 ·exact .inr ⟨rfl, rfl⟩
 ·exact B8
 ·exact D4 rfl
 ·exact fun _ => rfl
 intro g24
 refine A4 rfl rfl rfl ?_
 refine A5 ⟨nofun, _, kS [0,3,4,5,6] [3,4] rfl, ?_⟩
 refine A3 <| A3 <| A0 <| A6 rfl rfl <| K9 rfl rfl ?_
 refine A5 ⟨nofun, _, kS [0,3,4,5,6,26] [3,4] rfl, ?_⟩
 refine A8 rfl (fun hc => ?_) (fun hc => ?_)
 ·try simp only [SG, List.length_map] at hc
  refine A3 <| A0 <| A4 rfl rfl rfl ?_
  refine A5 ⟨nofun, _, kS [2] [] rfl, ?_⟩
  refine B2 <| C6 rfl rfl trivial ?_
  (exfalso; omega)
 try simp only [SG, List.length_map] at hc
 refine B7 <| A3 <| A3 <| A0 <| A6 rfl rfl <| A6 rfl rfl <| b8y rfl rfl ?_
 refine A5 ⟨nofun, _, kS [0,3,4,5,29] [3,4] rfl, ?_⟩
 refine A8 rfl (fun hc => ?_) (fun hc => ?_)
 ·try simp only [SG, List.length_map] at hc
  refine A3 <| A0 <| A4 rfl rfl rfl ?_
  refine A5 ⟨nofun, _, kS [2] [] rfl, ?_⟩
  refine B2 <| C6 rfl rfl trivial ?_
  (simp_all; done)
 try simp only [SG, List.length_map] at hc
 refine B7 <| A3 <| A0 <| A6 rfl rfl ?_
 apply C9 rfl
 ·apply B4
  ·exact B5 rfl
  exact C8
 ·exact b3t s (by omega)
 ·exact ⟨rfl, rfl, rfl, of_decide_eq_true rfl, rfl⟩
 ·exact .inl rfl
 ·exact B8
 ·exact O2
 ·exact fun _ => rfl
 intro g31
 simp only [List.length_map]
 (refine B6 rfl rfl (by (simp; done)) rfl (fun _ => (B1 (by exact A9 fun _ => rfl))) (fun _ => rfl) ?_; intro g7)
 refine A5 ⟨nofun, _, kS [3,4,5,7] [3,4,7] rfl, ?_⟩
 refine A3 <| A3 <| A0 <| A6 rfl rfl <| A6 rfl rfl ?_
 apply C9 rfl
 ·apply B4
  ·exact K2 rfl rfl rfl (by (simp; done)) (fun _ => rfl)
  apply B4
  ·exact K2 rfl rfl rfl (by (simp; done)) (fun _ => rfl)
  exact C8
 ·exact a7m (a0f s) (by omega)
 ·exact ⟨rfl, rfl, rfl, of_decide_eq_true rfl, rfl⟩
 ·exact .inr ⟨rfl, rfl⟩
 ·exact B8
 ·exact D4 rfl
 ·exact fun _ => rfl
 intro g34
 refine N2 rfl ?_
 refine A5 ⟨nofun, _, kS [4,5,35] [4] rfl, ?_⟩
 refine A8 rfl (fun hc => absurd hc (by decide)) (fun hc => ?_)
 refine B7 <| A3 <| A0 <| A4 rfl rfl rfl ?_
 refine A5 ⟨nofun, _, kS [4,5,6] [4] rfl, ?_⟩
 refine A3 <| A0 <| A6 rfl rfl <| A6 rfl rfl ?_
 apply C9 rfl
 ·apply B4
  ·exact K2 rfl rfl rfl (by (simp; done)) (fun _ => rfl)
  apply B4
  ·exact B5 rfl
  exact C8
 ·exact a4f (a0f s).length (by omega) 1 (by omega)
 ·exact ⟨rfl, rfl, rfl, of_decide_eq_true rfl, rfl⟩
 ·exact .inr ⟨rfl, rfl⟩
 ·exact B8
 ·exact D4 rfl
 ·exact fun _ => rfl
 intro g38
 refine A4 rfl rfl rfl ?_
 refine A5 ⟨nofun, _, kS [5,6] [] rfl, ?_⟩
 refine A3 <| A3 <| A0 <| A6 rfl rfl <| K9 rfl rfl ?_
 refine A5 ⟨nofun, _, kS [5,6,40] [] rfl, ?_⟩
 refine A8 rfl (fun hc => ?_) (fun hc => ?_)
 ·try simp only [SG, List.length_map] at hc
  refine A3 <| A0 <| A4 rfl rfl rfl ?_
  refine A5 ⟨nofun, _, kS [2] [] rfl, ?_⟩
  refine B2 <| C6 rfl rfl trivial ?_
  (exfalso; omega)
 try simp only [SG, List.length_map] at hc
 refine B7 <| A3 <| A3 <| A0 <| A6 rfl rfl <| A6 rfl rfl <| b8y rfl rfl ?_
 refine A5 ⟨nofun, _, kS [43] [] rfl, ?_⟩
 refine A8 rfl (fun hc => ?_) (fun hc => ?_)
 ·try simp only [SG, List.length_map] at hc
  refine A3 <| A0 <| A4 rfl rfl rfl ?_
  refine A5 ⟨nofun, _, kS [2] [] rfl, ?_⟩
  refine B2 <| C6 rfl rfl trivial ?_
  (simp_all; done)
 try simp only [SG, List.length_map] at hc
 refine B7 <| A3 <| A0 <| A4 rfl rfl rfl ?_
 refine A5 ⟨nofun, _, kS [2] [] rfl, ?_⟩
 refine B2 <| C6 rfl rfl trivial ?_
 rfl
end Go.Proofs.YtpjgdgnaeohmeaaDoor
