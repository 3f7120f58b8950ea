/- What each function of the program gives on the abstract machine, part 1 of 2. Conditions: those in front of each theorem. -/
import Derived.Test.YtpjgdgnaeohmeaaGreatDoorMd
import Derived.Test.YtpjgdgnaeohmeaaGreatDoorChecked
import Derived.KernelRfl

set_option linter.unusedVariables false
set_option linter.unusedSimpArgs false
namespace Go.Proofs.YtpjgdgnaeohmeaaGreatDoor
open Go Go.Mv Go.Proofs
set_option maxRecDepth 100000

theorem SD : (∀ {p : Prop} [Decidable p], (decide p = true) = p) ∧ (∀ {p : Prop} {_ : Decidable p}, decide p = false ↔ ¬p) ∧ (∀ (b : Bool), ((!b) = true) = (b = false)) ∧ (∀ (b : Bool), ((!b) = false) = (b = true)) ∧ (∀ {α : Type} [BEq α] [LawfulBEq α] {a b : α}, (a != b) = true ↔ a ≠ b) ∧
    (∀ {α : Type} [BEq α] [LawfulBEq α] {a b : α}, (a == b) = true ↔ a = b) ∧ (∀ {α : Type} (a b : α), (a ≠ b) = ¬a = b) ∧ (!true) = false ∧ (!false) = true ∧ (∀ {α : Type} [BEq α] [LawfulBEq α] {a b : α}, (a == b) = false ↔ a ≠ b) ∧ (∀ {α : Type} [BEq α] [LawfulBEq α] {a b : α}, (a != b) = false ↔ a = b) ∧
    (∀ {p : Prop} [Decidable p], ¬¬p ↔ p) ∧ (∀ {a b : Int}, ¬a < b ↔ b ≤ a) ∧ (∀ {a b : Int}, ¬a ≤ b ↔ b < a) :=
  ⟨@decide_eq_true_eq, @decide_eq_false_iff_not, @Bool.not_eq_true', @Bool.not_eq_false', @bne_iff_ne, @beq_iff_eq, @ne_eq, @Bool.not_true, @Bool.not_false, @beq_eq_false_iff_ne, @bne_eq_false_iff_eq, @Decidable.not_not, @Int.not_lt, @Int.not_le⟩
theorem SG : ((∀ {p : Prop} [Decidable p], (decide p = true) = p) ∧ (∀ {p : Prop} {_ : Decidable p}, decide p = false ↔ ¬p) ∧ (∀ (b : Bool), ((!b) = true) = (b = false)) ∧ (∀ (b : Bool), ((!b) = false) = (b = true)) ∧ (∀ {α : Type} [BEq α] [LawfulBEq α] {a b : α}, (a != b) = true ↔ a ≠ b) ∧
    (∀ {α : Type} [BEq α] [LawfulBEq α] {a b : α}, (a == b) = true ↔ a = b) ∧ (∀ {α : Type} (a b : α), (a ≠ b) = ¬a = b) ∧ (!true) = false ∧ (!false) = true ∧ (∀ {α : Type} [BEq α] [LawfulBEq α] {a b : α}, (a == b) = false ↔ a ≠ b) ∧ (∀ {α : Type} [BEq α] [LawfulBEq α] {a b : α}, (a != b) = false ↔ a = b) ∧
    (∀ {p : Prop} [Decidable p], ¬¬p ↔ p) ∧ (∀ {a b : Int}, ¬a < b ↔ b ≤ a) ∧ (∀ {a b : Int}, ¬a ≤ b ↔ b < a)) ∧
    (∀ (a b : Bool), ((a && b) = true) = (a = true ∧ b = true)) ∧ (∀ {x y : Bool}, (x && y) = false ↔ x = false ∨ y = false) ∧ (∀ (a b : Bool), ((a || b) = true) = (a = true ∨ b = true)) ∧ (∀ {x y : Bool}, (x || y) = false ↔ x = false ∧ y = false) :=
  ⟨SD, @Bool.and_eq_true, @Bool.and_eq_false_iff, @Bool.or_eq_true, @Bool.or_eq_false_iff⟩
def d1j (keep : List Nat) (A : Asr) : List Mv.Loc → Asr → Option Asr
  | l :: ls, B => match keepLoc keep l, Mv.look A l with
    | true, some a => d1j keep A ls ((l, a) :: B)
    | _, _ => none
  | [], B => some B
theorem c7q {keep : List Nat} {A : Asr} : ∀ (ls : List Mv.Loc) {B C : Asr}, KeepL keep A B → d1j keep A ls B = some C → KeepL keep A C
  | [], B, C, h, e => by simp only [d1j, Option.some.injEq] at e; rw [← e]; exact h
  | l :: ls, B, C, h, e => by
    simp only [d1j] at e
    split at e
    · exact c7q ls (show KeepL keep A ((l, _) :: B) from ⟨by assumption, by assumption, h⟩) e
    · cases e
theorem kS (ts hs : List Nat) {keep : List Nat} {A B : Asr} (h : d1j keep A (ts.map .t ++ hs.map .h) [] = some B) : KeepL keep A B := c7q _ (show KeepL keep A [] from trivial) h
section
variable {cx : Cx} {keep : List Nat} {ops0 : Array Oper} {r : List Oper} {A : Asr} {Q : Asr → List Log → Prop}
variable {d ty : Nat} {pos : String} {aft : Array Edge}
theorem gT {op : Op} {dst : Option Nat} {g dg : Nat} {want b : Bool} (hd : (ops0[g]?).bind (·.dst) = some dg) (hb : Mv.look A (.t dg) = some (.val (.bool b)))
    (h : XR cx keep ops0 (⟨dst, op, ty, pos, aft, none⟩ :: r) A fun A' lg => Q A' (c7u (.t dg) lg)) (hw : b = want := by assumption) : XR cx keep ops0 (⟨dst, op, ty, pos, aft, some (g, want)⟩ :: r) A Q := L0 hd hb hw h
theorem gF {op : Op} {g dg : Nat} {want b : Bool} (hd : (ops0[g]?).bind (·.dst) = some dg) (hb : Mv.look A (.t dg) = some (.val (.bool b)))
    (h : XR cx keep ops0 r ((.t d, .val (.tuple #[])) :: A) fun A' lg => Q A' (([.t dg], [.t d]) :: lg)) (hw : b = !want := by assumption) : XR cx keep ops0 (⟨some d, op, ty, pos, aft, some (g, want)⟩ :: r) A Q := G4 hd hb hw h
end

def mdT : List (Nat × List Nat) := [(11, [3, 3, 3, 3]), (14, [2]), (23, [3, 3, 3, 3]), (24, [3, 3, 3, 3]), (25, [3, 3, 3, 3]), (26, [2]), (28, [3, 3, 3, 3]), (30, [0, 2]), (31, [0, 2]), (32, [2]), (35, [1]), (40, [3, 3, 3, 3]), (44, [3, 3, 3, 3]), (45, [3, 3, 3, 3]), (46, [3, 3, 3, 3]), (47, [3, 3, 3, 3]), (48, [3, 3, 3, 3]), (51, [3, 3, 3, 3]), (59, [3, 3, 3, 3]), (63, [3, 3, 3, 3]), (64, [3, 3, 3, 3]), (68, [2]), (71, [3, 3, 3, 3])]
noncomputable def d6r : List (Nat × (List AV → Option (AV × List (List AV)))) := [(60, b2x), (61, b8o), (69, a8s), (78, b2k), (95, b9z), (96, b9l), (97, b9x)]
variable {oG : Option Nat} {rG : Nat}
noncomputable def cxT (oG : Option Nat) : Cx := { P := Tryz.prog, md := d8i mdT, ext := c6z d6r, it := fun _ => none, fz := fun k => [25, 28, 40, 48, 51, 64, 71].contains k, fzB := fun T d => [(46, 58), (28, 98)].contains (T, d), gl := fun g => match oG with | some r => if g = 0 then some (.val (.map (some r))) else none | none => none, mp := fun k => match oG with | some r => if k = r then some goneTb else none | none => none }
noncomputable def cxE : Cx := { P := Tryz.prog, md := d8i mdT, ext := fun _ => none, fz := fun k => [25, 28, 40, 48, 51, 64, 71].contains k }
theorem b8b (l : List UInt8) (b : UInt8) (hl : l.length < 4294967281) : CW (cxT oG) 60 [tV l, tV [b]] = some (.own 1 ((splitB b l).map tV), []) := a7d (cxT oG) rfl (by show (if l.length < 4294967281 then some ((AV.own 1 ((splitB b l).map tV), []) : AV × List (List AV)) else none) = _; rw [if_pos hl])
theorem d2p (ps : List (List UInt8)) (b : UInt8) (h1 : ps.length ≤ G7) (h2 : (joinB b ps).length ≤ G7) : CW (cxT oG) 61 [.list (ps.map tV), tV [b]] = some (tV (joinB b ps), []) := a7d (cxT oG) rfl (by show ((unT (ps.map tV)).bind fun ps => if ps.length ≤ G7 ∧ (joinB b ps).length ≤ G7 then some ((tV (joinB b ps), []) : AV × List (List AV)) else none) = _; rw [d5m, Option.bind_some, if_pos ⟨h1, h2⟩])
theorem s_Clone (xs : List Int) (hl : xs.length ≤ G7) : CW (cxT oG) 69 [.list (xs.map iV)] = some (.own 1 (xs.map iV), []) := a7d (cxT oG) rfl (by simp [a8s, d4i, hl])
theorem d6w (n : Int) (h : -9223372036854775808 ≤ n ∧ n ≤ 9223372036854775807) : CW (cxT oG) 78 [iV n] = some (tV (dec n), []) := a7d (cxT oG) rfl (by simp [b2k, h])
theorem d7w (l : List UInt8) (b : UInt8) : CW (cxT oG) 95 [tV l, tV [b]] = some (.tup [tV (a3o b l), bV (decide (l.head? = some b))], []) := a7d (cxT oG) rfl rfl
theorem d7p (l : List UInt8) (b : UInt8) (hl : l.length < 4294967281) : CW (cxT oG) 96 [tV l, tV [b]] = some (.tup [tV (b5o b l), bV (decide (l.getLast? = some b))], []) := a7d (cxT oG) rfl (by show (if l.length < 4294967281 then some ((AV.tup [tV (b5o b l), bV (decide (l.getLast? = some b))], []) : AV × List (List AV)) else none) = _; rw [if_pos hl])
theorem c4i (l : List UInt8) (hl : l.length < 4294967281) : CW (cxT oG) 97 [tV l] = some (atR l, []) := a7d (cxT oG) rfl (by show (if l.length < 4294967281 then some ((atR l, []) : AV × List (List AV)) else none) = _; rw [if_pos hl])

theorem keep_s_inRange : G3 Tryz.f88 = [0, 1, 2, 6] := by kernel_rfl
set_option maxHeartbeats 20000000 in
theorem d0g (n lo hi : Int) : CW (cxT oG) 88 [iV n, iV lo, iV hi] = some (bV (decide (lo ≤ n) && decide (n ≤ hi)), []) := by
 refine G5 rfl Tryz.func88 rfl ⟨by kernel_rfl, rfl, of_decide_eq_true rfl, of_decide_eq_true rfl, by decide⟩ keep_s_inRange <| A3 <| A0 <| A4 rfl rfl rfl ?_
 refine A5 ⟨nofun, _, kS [0,1,2] [] rfl, ?_⟩
 refine A3 <| A0 <| A6 rfl rfl <| A6 rfl rfl <| b4x rfl rfl <| A6 rfl rfl ?_
 refine D7 rfl rfl (fun hg0 => ?_) (fun hg0 => ?_)
 ·have hg := hg0; try simp only [SG] at hg
  refine A6 rfl rfl <| gT rfl rfl <| A6 rfl rfl <| gT rfl rfl <| b4x rfl rfl <| F9 rfl (by assumption) rfl rfl <| A4 rfl rfl rfl ?_
  refine A5 ⟨nofun, _, kS [6] [] rfl, ?_⟩
  refine B3 <| D5 rfl rfl trivial ?_
  simp_all [ofConst]; try omega
 have hg := hg0; try simp only [SG] at hg
 refine gF rfl rfl <| gF rfl rfl <| F7 rfl (by assumption) rfl rfl <| A4 rfl rfl rfl ?_
 refine A5 ⟨nofun, _, kS [6] [] rfl, ?_⟩
 refine B3 <| D5 rfl rfl trivial ?_
 simp_all [ofConst]; try omega

theorem keep_s_in : G3 Tryz.f125 = [0, 1, 2, 6] := by kernel_rfl
set_option maxHeartbeats 20000000 in
theorem d8u (n lo hi : Int) : CW (cxT oG) 125 [iV n, iV lo, iV hi] = some (bV (decide (lo ≤ n) && decide (n ≤ hi)), []) := by
 refine G5 rfl Tryz.func125 rfl ⟨by kernel_rfl, rfl, of_decide_eq_true rfl, of_decide_eq_true rfl, by decide⟩ keep_s_in <| A3 <| A0 <| A4 rfl rfl rfl ?_
 refine A5 ⟨nofun, _, kS [0,1,2] [] rfl, ?_⟩
 refine A3 <| A0 <| A6 rfl rfl <| A6 rfl rfl <| d1l rfl rfl <| A6 rfl rfl ?_
 refine D7 rfl rfl (fun hg0 => ?_) (fun hg0 => ?_)
 ·have hg := hg0; try simp only [SG] at hg
  refine A6 rfl rfl <| gT rfl rfl <| A6 rfl rfl <| gT rfl rfl <| b4x rfl rfl <| F9 rfl (by assumption) rfl rfl <| A4 rfl rfl rfl ?_
  refine A5 ⟨nofun, _, kS [6] [] rfl, ?_⟩
  refine B3 <| D5 rfl rfl trivial ?_
  simp_all [ofConst]; try omega
 have hg := hg0; try simp only [SG] at hg
 refine gF rfl rfl <| gF rfl rfl <| F7 rfl (by assumption) rfl rfl <| A4 rfl rfl rfl ?_
 refine A5 ⟨nofun, _, kS [6] [] rfl, ?_⟩
 refine B3 <| D5 rfl rfl trivial ?_
 simp_all [ofConst]; try omega

theorem keep_s_IndexFunc2 : G3 Tryz.f134 = [0, 1, 4, 8, 7, 9, 5, 16] := by kernel_rfl
set_option maxHeartbeats 20000000 in
theorem b8z (xs : List Int) (hl : xs.length ≤ 1000) (k : Nat) (a b : AV) (q : Int → Bool) (hq : ∀ x, CW (cxT oG) k [iV x, .ipt a 0, .ipt b 0] = some (bV (q x), [])) : ∃ res outs, (fun res outs => ∃ r : Int, res = iV r ∧ outs = [] ∧ decide (0 ≤ r) = xs.any q) res outs ∧ CW (cxT oG) 134 [L xs, .clo k [.ipt a 0, .ipt b 0]] = some (res, outs) := by
 refine S5 rfl Tryz.func134 rfl ⟨by kernel_rfl, rfl, of_decide_eq_true rfl, of_decide_eq_true rfl, by decide⟩ keep_s_IndexFunc2 <| A3 <| A0 <| A4 rfl rfl rfl ?_
 refine A5 ⟨nofun, _, kS [0,1] [] rfl, ?_⟩
 refine A3 <| A3 <| A0 <| A6 rfl rfl <| H5 rfl rfl <| A6 rfl rfl ?_
 refine A5 ⟨nofun, _, kS [0,1,7,8] [] rfl, ?_⟩
 refine E3 <| J8 (β := Nat) [(.t 0, _), (.t 1, _), (.t 7, _)] (fun (i : Nat) => [(.t 8, iV i)]) (fun (i : Nat) => i ≤ xs.length ∧ ∀ j, j < i → q (xs.getD j default) = false) (fun (i : Nat) => xs.length - i) 0 ⟨rfl, rfl, rfl, rfl, trivial⟩ ⟨Nat.zero_le _, fun j h => by omega⟩ ?_
 intro i hb
 obtain ⟨hi1, hi2⟩ := hb
 refine A3 <| A0 <| K8 rfl rfl ?_
 refine A5 ⟨nofun, _, kS [0,1,7,8,9] [] rfl, ?_⟩
 refine A3 ?_
 refine A8 rfl (fun hc => ?_) (fun hc => ?_)
 ·try simp only [SG, List.length_map] at hc
  refine B9 <| A3 <| E3 <| A3 <| A0 <| A6 rfl rfl <| A4 rfl rfl rfl ?_
  refine A5 ⟨nofun, _, kS [0,1,5,7,8] [] rfl, ?_⟩
  refine A3 <| A0 <| A6 rfl rfl <| A6 rfl rfl <| A6 rfl rfl <| H7 rfl rfl rfl (fun _ => rfl) (by omega) <| G0 rfl rfl rfl ?_
  apply d5h rfl rfl
  ·apply B0
   ·exact B4 rfl
   apply B0
   ·exact B4 rfl
   apply B0
   ·exact B4 rfl
   exact C6
  ·exact hq (xs.getD i default)
  ·exact ⟨rfl, rfl, rfl, of_decide_eq_true rfl, rfl⟩
  ·exact .inl rfl
  ·exact B2
  ·exact C1 rfl
  ·exact fun _ => rfl
  intro g16
  refine A5 ⟨nofun, _, kS [0,1,5,7,8,16] [] rfl, ?_⟩
  refine A8 rfl (fun hc => ?_) (fun hc => ?_)
  ·try simp only [SG, List.length_map] at hc
   refine A3 <| A0 <| A6 rfl rfl <| A4 rfl rfl rfl ?_
   refine A5 ⟨nofun, _, kS [4] [] rfl, ?_⟩
   refine B3 ?_
   refine ⟨_, _, ?_, J2 rfl rfl C8⟩
   exact ⟨_, rfl, rfl, d5t (by omega) hc⟩
  try simp only [SG, List.length_map] at hc
  refine B9 <| A0 <| I3 rfl rfl (F8 (by omega)) <| A6 rfl rfl ?_
  refine A5 ⟨nofun, _, kS [0,1,7,8] [] rfl, ?_⟩
  refine ⟨i + 1, ⟨by omega, fun a ha => by rcases Nat.lt_succ_iff_lt_or_eq.1 ha with h | h; exact hi2 a h; subst h; exact hc⟩, (by omega), ⟨rfl, rfl, rfl, rfl, trivial⟩⟩
 try simp only [SG, List.length_map] at hc
 refine I5 <| A3 <| A0 <| A4 rfl rfl rfl ?_
 refine A5 ⟨nofun, _, kS [4] [] rfl, ?_⟩
 refine B3 ?_
 refine ⟨_, _, ?_, J2 rfl rfl C8⟩
 exact ⟨-1, rfl, rfl, d3s fun j hj => hi2 j (by omega)⟩

theorem keep_s_ContainsFunc2 : G3 Tryz.f123 = [0, 1, 4] := by kernel_rfl
set_option maxHeartbeats 20000000 in
theorem b1p (xs : List Int) (hl : xs.length ≤ 1000) (k : Nat) (a b : AV) (q : Int → Bool) (hq : ∀ x, CW (cxT oG) k [iV x, .ipt a 0, .ipt b 0] = some (bV (q x), [])) : CW (cxT oG) 123 [L xs, .clo k [.ipt a 0, .ipt b 0]] = some (bV (xs.any q), []) := by
 obtain ⟨_, _, ⟨r, rfl, rfl, hr⟩, hC⟩ := b8z (oG := oG) xs hl k a b q hq
 refine G5 rfl Tryz.func123 rfl ⟨by kernel_rfl, rfl, of_decide_eq_true rfl, of_decide_eq_true rfl, by decide⟩ keep_s_ContainsFunc2 <| A3 <| A0 <| A4 rfl rfl rfl ?_
 refine A5 ⟨nofun, _, kS [0,1] [] rfl, ?_⟩
 refine A3 <| A0 <| A6 rfl rfl <| A6 rfl rfl ?_
 apply C7 rfl
 ·apply B0
  ·exact B4 rfl
  apply B0
  ·exact d2c rfl (d3b (d3b d1m))
  exact C6
 ·exact hC
 ·exact ⟨rfl, rfl, rfl, of_decide_eq_true rfl, rfl⟩
 ·exact .inl rfl
 ·exact B2
 ·exact C1 rfl
 ·exact fun _ => rfl
 intro g7
 refine d1l rfl rfl <| A4 rfl rfl rfl ?_
 refine A5 ⟨nofun, _, kS [4] [] rfl, ?_⟩
 refine B3 <| D5 rfl rfl trivial ?_
 rw [← hr]

theorem keep_s_allIn1 : G3 Tryz.f124 = [0, 1, 2, 4] := by kernel_rfl
set_option maxHeartbeats 20000000 in
theorem d3c (x lo hi : Int) : CW (cxT oG) 124 [iV x, .ipt (iV lo) 0, .ipt (iV hi) 0] = some (bV (!(decide (lo ≤ x) && decide (x ≤ hi))), []) := by
 refine G5 rfl Tryz.func124 rfl ⟨by kernel_rfl, rfl, of_decide_eq_true rfl, of_decide_eq_true rfl, by decide⟩ keep_s_allIn1 <| A3 <| A0 <| A4 rfl rfl rfl ?_
 refine A5 ⟨nofun, _, kS [0,1,2] [] rfl, ?_⟩
 refine A3 <| A0 <| A6 rfl rfl <| G0 rfl rfl rfl <| G0 rfl rfl rfl ?_
 apply C7 rfl
 ·apply B0
  ·exact B4 rfl
  apply B0
  ·exact B4 rfl
  apply B0
  ·exact B4 rfl
  exact C6
 ·exact d8u _ _ _
 ·exact ⟨rfl, rfl, rfl, of_decide_eq_true rfl, rfl⟩
 ·exact .inl rfl
 ·exact B2
 ·exact C1 rfl
 ·exact fun _ => rfl
 intro g8
 refine M5 rfl <| A4 rfl rfl rfl ?_
 refine A5 ⟨nofun, _, kS [4] [] rfl, ?_⟩
 refine B3 <| D5 rfl rfl trivial ?_
 rfl

theorem keep_s_allIn : G3 Tryz.f109 = [0, 1, 2, 6, 4, 5] := by kernel_rfl
set_option maxHeartbeats 20000000 in
theorem d4x (xs : List Int) (hl : xs.length ≤ 1000) (lo hi : Int) : CW (cxT oG) 109 [L xs, iV lo, iV hi] = some (bV (a5z lo hi xs), []) := by
 refine G5 rfl Tryz.func109 rfl ⟨by kernel_rfl, rfl, of_decide_eq_true rfl, of_decide_eq_true rfl, by decide⟩ keep_s_allIn <| A3 <| A0 <| b0r rfl rfl rfl (fun _ => B7 rfl) (fun _ => rfl) ?_
 intro g4
 refine b0r rfl rfl rfl (fun _ => B7 rfl) (fun _ => rfl) ?_
 intro g5
 refine A4 rfl rfl rfl ?_
 refine A5 ⟨nofun, _, kS [0,4,5] [4,5] rfl, ?_⟩
 refine A3 <| A0 <| A6 rfl rfl <| c5t rfl rfl ?_
 apply C7 rfl
 ·apply B0
  ·exact B4 rfl
  apply B0
  ·exact d2c rfl (d3j rfl rfl (d3j rfl rfl d1m))
  exact C6
 ·exact b1p xs hl 124 (iV lo) (iV hi) _ (fun x => d3c x lo hi)
 ·exact ⟨rfl, rfl, rfl, of_decide_eq_true rfl, rfl⟩
 ·exact .inr ⟨rfl, rfl⟩
 ·exact B2
 ·exact C1 rfl
 ·exact fun _ => rfl
 intro g9
 refine M5 rfl <| A4 rfl rfl rfl ?_
 refine A5 ⟨nofun, _, kS [6] [] rfl, ?_⟩
 refine B3 <| D5 rfl rfl trivial ?_
 exact congrArg bV (d3k lo hi xs)

theorem keep_s_validData : G3 Tryz.f80 = [0, 2, 3, 7, 15] := by kernel_rfl
set_option maxHeartbeats 20000000 in
theorem c3y (xs : List Int) (hl : xs.length ≤ 1048576) : CW (cxT oG) 80 [L xs] = some (bV (vd xs), []) := by
 refine G5 rfl Tryz.func80 rfl ⟨by kernel_rfl, rfl, of_decide_eq_true rfl, of_decide_eq_true rfl, by decide⟩ keep_s_validData <| A3 <| A0 <| A4 rfl rfl rfl ?_
 refine A5 ⟨nofun, _, kS [0] [] rfl, ?_⟩
 refine A3 <| A3 <| A0 <| A4 rfl rfl rfl ?_
 refine A5 ⟨nofun, _, kS [0,3] [] rfl, ?_⟩
 refine E3 <| J8 (β := Nat) [(.t 0, _)] (fun (i : Nat) => [(.t 3, iV i)]) (fun (i : Nat) => i ≤ xs.length ∧ ∀ j, j < i → -200 ≤ xs.getD j default ∧ xs.getD j default ≤ 200) (fun (i : Nat) => xs.length - i) 0 ⟨rfl, rfl, trivial⟩ ⟨Nat.zero_le _, fun j h => by omega⟩ ?_
 intro i hb
 obtain ⟨hi1, hi2⟩ := hb
 refine A3 <| A3 <| A0 <| A6 rfl rfl <| A6 rfl rfl <| H5 rfl rfl <| K8 rfl rfl ?_
 refine A5 ⟨nofun, _, kS [0,3,7] [] rfl, ?_⟩
 refine A8 rfl (fun hc => ?_) (fun hc => ?_)
 ·try simp only [SG, List.length_map] at hc
  refine B9 <| A3 <| E3 <| A3 <| A0 <| A6 rfl rfl <| A6 rfl rfl <| H7 rfl rfl rfl (fun _ => rfl) (by omega) <| G0 rfl rfl rfl ?_
  apply C7 rfl
  ·apply B0
   ·exact B4 rfl
   apply B0
   ·exact B4 rfl
   apply B0
   ·exact B4 rfl
   exact C6
  ·exact d0g _ _ _
  ·exact ⟨rfl, rfl, rfl, of_decide_eq_true rfl, rfl⟩
  ·exact .inl rfl
  ·exact B2
  ·exact C1 rfl
  ·exact fun _ => rfl
  intro g14
  refine M5 rfl ?_
  refine A5 ⟨nofun, _, kS [0,3,15] [] rfl, ?_⟩
  refine A8 rfl (fun hc => ?_) (fun hc => ?_)
  ·try simp only [SG, List.length_map] at hc
   refine A3 <| A0 <| A4 rfl rfl rfl ?_
   refine A5 ⟨nofun, _, kS [2] [] rfl, ?_⟩
   refine B3 <| D5 rfl rfl trivial ?_
   rw [vd, d2t (show i < xs.length by omega) (by (simp_all; omega)), Bool.and_false]
   rfl
  try simp only [SG, List.length_map] at hc
  refine B9 <| A0 <| A6 rfl rfl <| I3 rfl rfl (F8 (by omega)) <| A4 rfl rfl rfl ?_
  refine A5 ⟨nofun, _, kS [0,3] [] rfl, ?_⟩
  refine ⟨i + 1, ⟨by omega, fun j hj => by rcases Nat.lt_succ_iff_lt_or_eq.1 hj with h | h; (· exact hi2 j h); (· subst h; assumption)⟩, (by omega), ⟨rfl, rfl, trivial⟩⟩
 try simp only [SG, List.length_map] at hc
 refine I5 <| A3 <| A0 <| A6 rfl rfl <| H5 rfl rfl <| b4x rfl rfl <| A4 rfl rfl rfl ?_
 refine A5 ⟨nofun, _, kS [2] [] rfl, ?_⟩
 refine B3 <| D5 rfl rfl trivial ?_
 rw [vd, d5l fun j hj => hi2 j (by omega), Bool.and_true]
 exact congrArg bV (decide_eq_decide.2 (by omega))

theorem keep_s_validDataI : G3 Tryz.f98 = [0, 2] := by kernel_rfl
set_option maxHeartbeats 20000000 in
theorem a7w (xs : List Int) (hl : xs.length ≤ 1048576) : CW (cxT oG) 98 [L xs] = some (bV (vd xs), []) := by
 refine G5 rfl Tryz.func98 rfl ⟨by kernel_rfl, rfl, of_decide_eq_true rfl, of_decide_eq_true rfl, by decide⟩ keep_s_validDataI <| A3 <| A0 <| A4 rfl rfl rfl ?_
 refine A5 ⟨nofun, _, kS [0] [] rfl, ?_⟩
 refine A3 <| A0 <| A6 rfl rfl <| H5 rfl rfl <| b4x rfl rfl <| A6 rfl rfl ?_
 refine D7 rfl rfl (fun hg0 => ?_) (fun hg0 => ?_)
 ·have hg := hg0; try simp only [SG] at hg
  refine A6 rfl rfl <| gT rfl rfl ?_
  apply C7 rfl
  ·apply B0
   ·exact B4 rfl
   apply B0
   ·exact B4 rfl
   apply B0
   ·exact B4 rfl
   exact C6
  ·exact d4x xs (by omega) (-200) 200
  ·exact ⟨rfl, rfl, rfl, of_decide_eq_true rfl, rfl⟩
  ·exact .inl rfl
  ·exact B2
  ·exact C1 rfl
  ·exact fun _ => rfl
  intro g8
  refine F9 rfl (by assumption) rfl rfl <| A4 rfl rfl rfl ?_
  refine A5 ⟨nofun, _, kS [2] [] rfl, ?_⟩
  refine B3 <| D5 rfl rfl trivial ?_
  cases hb : a5z (-200) 200 xs <;> simp_all [vd, ofConst] <;> omega
 have hg := hg0; try simp only [SG] at hg
 refine gF rfl rfl <| F7 rfl (by assumption) rfl rfl <| A4 rfl rfl rfl ?_
 refine A5 ⟨nofun, _, kS [2] [] rfl, ?_⟩
 refine B3 <| D5 rfl rfl trivial ?_
 cases hb : a5z (-200) 200 xs <;> simp_all [vd, ofConst] <;> omega

theorem keep_s_needs : G3 Tryz.f77 = [0, 2, 3, 4, 10, 19] := by kernel_rfl
set_option maxHeartbeats 20000000 in
theorem a8i (w : ByteArray) : CW (cxT oG) 77 [sV w] = some (iV (nd w), []) := by
 refine G5 rfl Tryz.func77 rfl ⟨by kernel_rfl, rfl, of_decide_eq_true rfl, of_decide_eq_true rfl, by decide⟩ keep_s_needs <| A3 <| A0 <| A4 rfl rfl rfl ?_
 refine A5 ⟨nofun, _, kS [0] [] rfl, ?_⟩
 refine A3 <| A3 <| A0 <| A6 rfl rfl ?_
 refine A5 ⟨nofun, _, kS [3] [] rfl, ?_⟩
 refine E3 <| A3 <| A3 <| A0 <| N3 rfl rfl <| A4 rfl rfl rfl ?_
 refine A5 ⟨nofun, _, kS [3,4] [] rfl, ?_⟩
 refine A8 rfl (fun hc => ?_) (fun hc => ?_)
 ·try simp only [SG, List.length_map] at hc
  refine B9 ?_
  refine A8 rfl (fun hc => ?_) (fun hc => absurd hc (by simp_all))
  refine A3 <| A0 <| A4 rfl rfl rfl ?_
  refine A5 ⟨nofun, _, kS [2] [] rfl, ?_⟩
  refine B3 <| D5 rfl rfl trivial <| congrArg iV ?_
  simp_all [nd]
 try simp only [SG, List.length_map] at hc
 refine A3 <| A0 <| N3 rfl rfl <| A4 rfl rfl rfl ?_
 refine A5 ⟨nofun, _, kS [3,4] [] rfl, ?_⟩
 refine A8 rfl (fun hc => ?_) (fun hc => ?_)
 ·try simp only [SG, List.length_map] at hc
  refine B9 ?_
  refine A8 rfl (fun hc => ?_) (fun hc => absurd hc (by simp_all))
  refine A3 <| A0 <| A4 rfl rfl rfl ?_
  refine A5 ⟨nofun, _, kS [2] [] rfl, ?_⟩
  refine B3 <| D5 rfl rfl trivial <| congrArg iV ?_
  simp_all [nd]
 try simp only [SG, List.length_map] at hc
 refine A3 <| A0 <| N3 rfl rfl <| A4 rfl rfl rfl ?_
 refine A5 ⟨nofun, _, kS [3,4] [] rfl, ?_⟩
 refine A8 rfl (fun hc => ?_) (fun hc => ?_)
 ·try simp only [SG, List.length_map] at hc
  refine B9 ?_
  refine A8 rfl (fun hc => ?_) (fun hc => absurd hc (by simp_all))
  refine A3 <| A0 <| A4 rfl rfl rfl ?_
  refine A5 ⟨nofun, _, kS [2] [] rfl, ?_⟩
  refine B3 <| D5 rfl rfl trivial <| congrArg iV ?_
  simp_all [nd]
 try simp only [SG, List.length_map] at hc
 refine A3 <| A0 <| N3 rfl rfl <| A4 rfl rfl rfl ?_
 refine A5 ⟨nofun, _, kS [3,4] [] rfl, ?_⟩
 refine A8 rfl (fun hc => ?_) (fun hc => ?_)
 ·try simp only [SG, List.length_map] at hc
  refine B9 ?_
  refine A8 rfl (fun hc => ?_) (fun hc => absurd hc (by simp_all))
  refine A3 <| A0 <| A4 rfl rfl rfl ?_
  refine A5 ⟨nofun, _, kS [2] [] rfl, ?_⟩
  refine B3 <| D5 rfl rfl trivial <| congrArg iV ?_
  simp_all [nd]
 try simp only [SG, List.length_map] at hc
 refine A0 <| N3 rfl rfl <| A4 rfl rfl rfl ?_
 refine A5 ⟨nofun, _, kS [3,4] [] rfl, ?_⟩
 refine A8 rfl (fun hc => ?_) (fun hc => ?_)
 ·try simp only [SG, List.length_map] at hc
  refine A3 <| A0 <| A4 rfl rfl rfl ?_
  refine A5 ⟨nofun, _, kS [2] [] rfl, ?_⟩
  refine B3 <| D5 rfl rfl trivial <| congrArg iV ?_
  simp_all [nd]
 try simp only [SG, List.length_map] at hc
 refine A3 <| A3 <| A0 <| N3 rfl rfl <| A4 rfl rfl rfl ?_
 refine A5 ⟨nofun, _, kS [3,10] [] rfl, ?_⟩
 refine A8 rfl (fun hc => ?_) (fun hc => ?_)
 ·try simp only [SG, List.length_map] at hc
  refine B9 ?_
  refine A8 rfl (fun hc => ?_) (fun hc => absurd hc (by simp_all))
  refine A3 <| A0 <| A4 rfl rfl rfl ?_
  refine A5 ⟨nofun, _, kS [2] [] rfl, ?_⟩
  refine B3 <| D5 rfl rfl trivial <| congrArg iV ?_
  simp_all [nd]
 try simp only [SG, List.length_map] at hc
 refine A3 <| A0 <| N3 rfl rfl <| A4 rfl rfl rfl ?_
 refine A5 ⟨nofun, _, kS [3,10] [] rfl, ?_⟩
 refine A8 rfl (fun hc => ?_) (fun hc => ?_)
 ·try simp only [SG, List.length_map] at hc
  refine B9 ?_
  refine A8 rfl (fun hc => ?_) (fun hc => absurd hc (by simp_all))
  refine A3 <| A0 <| A4 rfl rfl rfl ?_
  refine A5 ⟨nofun, _, kS [2] [] rfl, ?_⟩
  refine B3 <| D5 rfl rfl trivial <| congrArg iV ?_
  simp_all [nd]
 try simp only [SG, List.length_map] at hc
 refine A3 <| A0 <| N3 rfl rfl <| A4 rfl rfl rfl ?_
 refine A5 ⟨nofun, _, kS [3,10] [] rfl, ?_⟩
 refine A8 rfl (fun hc => ?_) (fun hc => ?_)
 ·try simp only [SG, List.length_map] at hc
  refine B9 ?_
  refine A8 rfl (fun hc => ?_) (fun hc => absurd hc (by simp_all))
  refine A3 <| A0 <| A4 rfl rfl rfl ?_
  refine A5 ⟨nofun, _, kS [2] [] rfl, ?_⟩
  refine B3 <| D5 rfl rfl trivial <| congrArg iV ?_
  simp_all [nd]
 try simp only [SG, List.length_map] at hc
 refine A3 <| A0 <| N3 rfl rfl <| A4 rfl rfl rfl ?_
 refine A5 ⟨nofun, _, kS [3,10] [] rfl, ?_⟩
 refine A8 rfl (fun hc => ?_) (fun hc => ?_)
 ·try simp only [SG, List.length_map] at hc
  refine B9 ?_
  refine A8 rfl (fun hc => ?_) (fun hc => absurd hc (by simp_all))
  refine A3 <| A0 <| A4 rfl rfl rfl ?_
  refine A5 ⟨nofun, _, kS [2] [] rfl, ?_⟩
  refine B3 <| D5 rfl rfl trivial <| congrArg iV ?_
  simp_all [nd]
 try simp only [SG, List.length_map] at hc
 refine A3 <| A0 <| N3 rfl rfl <| A4 rfl rfl rfl ?_
 refine A5 ⟨nofun, _, kS [3,10] [] rfl, ?_⟩
 refine A8 rfl (fun hc => ?_) (fun hc => ?_)
 ·try simp only [SG, List.length_map] at hc
  refine B9 ?_
  refine A8 rfl (fun hc => ?_) (fun hc => absurd hc (by simp_all))
  refine A3 <| A0 <| A4 rfl rfl rfl ?_
  refine A5 ⟨nofun, _, kS [2] [] rfl, ?_⟩
  refine B3 <| D5 rfl rfl trivial <| congrArg iV ?_
  simp_all [nd]
 try simp only [SG, List.length_map] at hc
 refine A3 <| A0 <| N3 rfl rfl <| A4 rfl rfl rfl ?_
 refine A5 ⟨nofun, _, kS [3,10] [] rfl, ?_⟩
 refine A8 rfl (fun hc => ?_) (fun hc => ?_)
 ·try simp only [SG, List.length_map] at hc
  refine B9 ?_
  refine A8 rfl (fun hc => ?_) (fun hc => absurd hc (by simp_all))
  refine A3 <| A0 <| A4 rfl rfl rfl ?_
  refine A5 ⟨nofun, _, kS [2] [] rfl, ?_⟩
  refine B3 <| D5 rfl rfl trivial <| congrArg iV ?_
  simp_all [nd]
 try simp only [SG, List.length_map] at hc
 refine A3 <| A0 <| N3 rfl rfl <| A4 rfl rfl rfl ?_
 refine A5 ⟨nofun, _, kS [3,10] [] rfl, ?_⟩
 refine A8 rfl (fun hc => ?_) (fun hc => ?_)
 ·try simp only [SG, List.length_map] at hc
  refine B9 ?_
  refine A8 rfl (fun hc => ?_) (fun hc => absurd hc (by simp_all))
  refine A3 <| A0 <| A4 rfl rfl rfl ?_
  refine A5 ⟨nofun, _, kS [2] [] rfl, ?_⟩
  refine B3 <| D5 rfl rfl trivial <| congrArg iV ?_
  simp_all [nd]
 try simp only [SG, List.length_map] at hc
 refine A0 <| N3 rfl rfl <| A4 rfl rfl rfl ?_
 refine A5 ⟨nofun, _, kS [3,10] [] rfl, ?_⟩
 refine A8 rfl (fun hc => ?_) (fun hc => ?_)
 ·try simp only [SG, List.length_map] at hc
  refine A3 <| A0 <| A4 rfl rfl rfl ?_
  refine A5 ⟨nofun, _, kS [2] [] rfl, ?_⟩
  refine B3 <| D5 rfl rfl trivial <| congrArg iV ?_
  simp_all [nd]
 try simp only [SG, List.length_map] at hc
 refine A3 <| A3 <| A0 <| N3 rfl rfl <| A4 rfl rfl rfl ?_
 refine A5 ⟨nofun, _, kS [3,19] [] rfl, ?_⟩
 refine A8 rfl (fun hc => ?_) (fun hc => ?_)
 ·try simp only [SG, List.length_map] at hc
  refine B9 ?_
  refine A8 rfl (fun hc => ?_) (fun hc => absurd hc (by simp_all))
  refine A3 <| A0 <| A4 rfl rfl rfl ?_
  refine A5 ⟨nofun, _, kS [2] [] rfl, ?_⟩
  refine B3 <| D5 rfl rfl trivial <| congrArg iV ?_
  simp_all [nd]
 try simp only [SG, List.length_map] at hc
 refine A0 <| N3 rfl rfl <| A4 rfl rfl rfl ?_
 refine A5 ⟨nofun, _, kS [19] [] rfl, ?_⟩
 refine A8 rfl (fun hc => ?_) (fun hc => ?_)
 ·try simp only [SG, List.length_map] at hc
  refine A3 <| A0 <| A4 rfl rfl rfl ?_
  refine A5 ⟨nofun, _, kS [2] [] rfl, ?_⟩
  refine B3 <| D5 rfl rfl trivial <| congrArg iV ?_
  simp_all [nd]
 try simp only [SG, List.length_map] at hc
 refine B9 <| A3 <| A0 <| A4 rfl rfl rfl ?_
 refine A5 ⟨nofun, _, kS [2] [] rfl, ?_⟩
 refine B3 <| D5 rfl rfl trivial <| congrArg iV ?_
 simp_all [nd]

theorem keep_s_reachOf : G3 Tryz.f67 = [0, 2, 3, 4, 13, 16] := by kernel_rfl
set_option maxHeartbeats 20000000 in
theorem d0c (w : ByteArray) : CW (cxT oG) 67 [sV w] = some (iV (rch w), []) := by
 refine G5 rfl Tryz.func67 rfl ⟨by kernel_rfl, rfl, of_decide_eq_true rfl, of_decide_eq_true rfl, by decide⟩ keep_s_reachOf <| A3 <| A0 <| A4 rfl rfl rfl ?_
 refine A5 ⟨nofun, _, kS [0] [] rfl, ?_⟩
 refine A3 <| A3 <| A0 <| A6 rfl rfl ?_
 refine A5 ⟨nofun, _, kS [3] [] rfl, ?_⟩
 refine E3 <| A3 <| A3 <| A0 <| N3 rfl rfl <| A4 rfl rfl rfl ?_
 refine A5 ⟨nofun, _, kS [3,4] [] rfl, ?_⟩
 refine A8 rfl (fun hc => ?_) (fun hc => ?_)
 ·try simp only [SG, List.length_map] at hc
  refine B9 ?_
  refine A8 rfl (fun hc => ?_) (fun hc => absurd hc (by simp_all))
  refine A3 <| A0 <| A4 rfl rfl rfl ?_
  refine A5 ⟨nofun, _, kS [2] [] rfl, ?_⟩
  refine B3 <| D5 rfl rfl trivial <| congrArg iV ?_
  simp_all [rch]
 try simp only [SG, List.length_map] at hc
 refine A3 <| A0 <| N3 rfl rfl <| A4 rfl rfl rfl ?_
 refine A5 ⟨nofun, _, kS [3,4] [] rfl, ?_⟩
 refine A8 rfl (fun hc => ?_) (fun hc => ?_)
 ·try simp only [SG, List.length_map] at hc
  refine B9 ?_
  refine A8 rfl (fun hc => ?_) (fun hc => absurd hc (by simp_all))
  refine A3 <| A0 <| A4 rfl rfl rfl ?_
  refine A5 ⟨nofun, _, kS [2] [] rfl, ?_⟩
  refine B3 <| D5 rfl rfl trivial <| congrArg iV ?_
  simp_all [rch]
 try simp only [SG, List.length_map] at hc
 refine A3 <| A0 <| N3 rfl rfl <| A4 rfl rfl rfl ?_
 refine A5 ⟨nofun, _, kS [3,4] [] rfl, ?_⟩
 refine A8 rfl (fun hc => ?_) (fun hc => ?_)
 ·try simp only [SG, List.length_map] at hc
  refine B9 ?_
  refine A8 rfl (fun hc => ?_) (fun hc => absurd hc (by simp_all))
  refine A3 <| A0 <| A4 rfl rfl rfl ?_
  refine A5 ⟨nofun, _, kS [2] [] rfl, ?_⟩
  refine B3 <| D5 rfl rfl trivial <| congrArg iV ?_
  simp_all [rch]
 try simp only [SG, List.length_map] at hc
 refine A3 <| A0 <| N3 rfl rfl <| A4 rfl rfl rfl ?_
 refine A5 ⟨nofun, _, kS [3,4] [] rfl, ?_⟩
 refine A8 rfl (fun hc => ?_) (fun hc => ?_)
 ·try simp only [SG, List.length_map] at hc
  refine B9 ?_
  refine A8 rfl (fun hc => ?_) (fun hc => absurd hc (by simp_all))
  refine A3 <| A0 <| A4 rfl rfl rfl ?_
  refine A5 ⟨nofun, _, kS [2] [] rfl, ?_⟩
  refine B3 <| D5 rfl rfl trivial <| congrArg iV ?_
  simp_all [rch]
 try simp only [SG, List.length_map] at hc
 refine A3 <| A0 <| N3 rfl rfl <| A4 rfl rfl rfl ?_
 refine A5 ⟨nofun, _, kS [3,4] [] rfl, ?_⟩
 refine A8 rfl (fun hc => ?_) (fun hc => ?_)
 ·try simp only [SG, List.length_map] at hc
  refine B9 ?_
  refine A8 rfl (fun hc => ?_) (fun hc => absurd hc (by simp_all))
  refine A3 <| A0 <| A4 rfl rfl rfl ?_
  refine A5 ⟨nofun, _, kS [2] [] rfl, ?_⟩
  refine B3 <| D5 rfl rfl trivial <| congrArg iV ?_
  simp_all [rch]
 try simp only [SG, List.length_map] at hc
 refine A3 <| A0 <| N3 rfl rfl <| A4 rfl rfl rfl ?_
 refine A5 ⟨nofun, _, kS [3,4] [] rfl, ?_⟩
 refine A8 rfl (fun hc => ?_) (fun hc => ?_)
 ·try simp only [SG, List.length_map] at hc
  refine B9 ?_
  refine A8 rfl (fun hc => ?_) (fun hc => absurd hc (by simp_all))
  refine A3 <| A0 <| A4 rfl rfl rfl ?_
  refine A5 ⟨nofun, _, kS [2] [] rfl, ?_⟩
  refine B3 <| D5 rfl rfl trivial <| congrArg iV ?_
  simp_all [rch]
 try simp only [SG, List.length_map] at hc
 refine A3 <| A0 <| N3 rfl rfl <| A4 rfl rfl rfl ?_
 refine A5 ⟨nofun, _, kS [3,4] [] rfl, ?_⟩
 refine A8 rfl (fun hc => ?_) (fun hc => ?_)
 ·try simp only [SG, List.length_map] at hc
  refine B9 ?_
  refine A8 rfl (fun hc => ?_) (fun hc => absurd hc (by simp_all))
  refine A3 <| A0 <| A4 rfl rfl rfl ?_
  refine A5 ⟨nofun, _, kS [2] [] rfl, ?_⟩
  refine B3 <| D5 rfl rfl trivial <| congrArg iV ?_
  simp_all [rch]
 try simp only [SG, List.length_map] at hc
 refine A0 <| N3 rfl rfl <| A4 rfl rfl rfl ?_
 refine A5 ⟨nofun, _, kS [3,4] [] rfl, ?_⟩
 refine A8 rfl (fun hc => ?_) (fun hc => ?_)
 ·try simp only [SG, List.length_map] at hc
  refine A3 <| A0 <| A4 rfl rfl rfl ?_
  refine A5 ⟨nofun, _, kS [2] [] rfl, ?_⟩
  refine B3 <| D5 rfl rfl trivial <| congrArg iV ?_
  simp_all [rch]
 try simp only [SG, List.length_map] at hc
 refine A3 <| A3 <| A0 <| N3 rfl rfl <| A4 rfl rfl rfl ?_
 refine A5 ⟨nofun, _, kS [3,13] [] rfl, ?_⟩
 refine A8 rfl (fun hc => ?_) (fun hc => ?_)
 ·try simp only [SG, List.length_map] at hc
  refine B9 ?_
  refine A8 rfl (fun hc => ?_) (fun hc => absurd hc (by simp_all))
  refine A3 <| A0 <| A4 rfl rfl rfl ?_
  refine A5 ⟨nofun, _, kS [2] [] rfl, ?_⟩
  refine B3 <| D5 rfl rfl trivial <| congrArg iV ?_
  simp_all [rch]
 try simp only [SG, List.length_map] at hc
 refine A0 <| N3 rfl rfl <| A4 rfl rfl rfl ?_
 refine A5 ⟨nofun, _, kS [3,13] [] rfl, ?_⟩
 refine A8 rfl (fun hc => ?_) (fun hc => ?_)
 ·try simp only [SG, List.length_map] at hc
  refine A3 <| A0 <| A4 rfl rfl rfl ?_
  refine A5 ⟨nofun, _, kS [2] [] rfl, ?_⟩
  refine B3 <| D5 rfl rfl trivial <| congrArg iV ?_
  simp_all [rch]
 try simp only [SG, List.length_map] at hc
 refine A3 <| A3 <| A0 <| N3 rfl rfl <| A4 rfl rfl rfl ?_
 refine A5 ⟨nofun, _, kS [3,16] [] rfl, ?_⟩
 refine A8 rfl (fun hc => ?_) (fun hc => ?_)
 ·try simp only [SG, List.length_map] at hc
  refine B9 ?_
  refine A8 rfl (fun hc => ?_) (fun hc => absurd hc (by simp_all))
  refine A3 <| A0 <| A4 rfl rfl rfl ?_
  refine A5 ⟨nofun, _, kS [2] [] rfl, ?_⟩
  refine B3 <| D5 rfl rfl trivial <| congrArg iV ?_
  simp_all [rch]
 try simp only [SG, List.length_map] at hc
 refine A3 <| A0 <| N3 rfl rfl <| A4 rfl rfl rfl ?_
 refine A5 ⟨nofun, _, kS [3,16] [] rfl, ?_⟩
 refine A8 rfl (fun hc => ?_) (fun hc => ?_)
 ·try simp only [SG, List.length_map] at hc
  refine B9 ?_
  refine A8 rfl (fun hc => ?_) (fun hc => absurd hc (by simp_all))
  refine A3 <| A0 <| A4 rfl rfl rfl ?_
  refine A5 ⟨nofun, _, kS [2] [] rfl, ?_⟩
  refine B3 <| D5 rfl rfl trivial <| congrArg iV ?_
  simp_all [rch]
 try simp only [SG, List.length_map] at hc
 refine A3 <| A0 <| N3 rfl rfl <| A4 rfl rfl rfl ?_
 refine A5 ⟨nofun, _, kS [3,16] [] rfl, ?_⟩
 refine A8 rfl (fun hc => ?_) (fun hc => ?_)
 ·try simp only [SG, List.length_map] at hc
  refine B9 ?_
  refine A8 rfl (fun hc => ?_) (fun hc => absurd hc (by simp_all))
  refine A3 <| A0 <| A4 rfl rfl rfl ?_
  refine A5 ⟨nofun, _, kS [2] [] rfl, ?_⟩
  refine B3 <| D5 rfl rfl trivial <| congrArg iV ?_
  simp_all [rch]
 try simp only [SG, List.length_map] at hc
 refine A0 <| N3 rfl rfl <| A4 rfl rfl rfl ?_
 refine A5 ⟨nofun, _, kS [16] [] rfl, ?_⟩
 refine A8 rfl (fun hc => ?_) (fun hc => ?_)
 ·try simp only [SG, List.length_map] at hc
  refine A3 <| A0 <| A4 rfl rfl rfl ?_
  refine A5 ⟨nofun, _, kS [2] [] rfl, ?_⟩
  refine B3 <| D5 rfl rfl trivial <| congrArg iV ?_
  simp_all [rch]
 try simp only [SG, List.length_map] at hc
 refine B9 <| A3 <| A0 <| A4 rfl rfl rfl ?_
 refine A5 ⟨nofun, _, kS [2] [] rfl, ?_⟩
 refine B3 <| D5 rfl rfl trivial <| congrArg iV ?_
 simp_all [rch]

theorem keep_s_number : G3 Tryz.f70 = [0, 2, 4, 10] := by kernel_rfl
set_option maxHeartbeats 20000000 in
theorem a3z (n : Int) (hn : -1000000 ≤ n ∧ n ≤ 1000000) : CW (cxT oG) 70 [iV n] = some (tV (dec n), []) := by
 obtain ⟨kk, hkk⟩ : ∃ kk : Nat, 2 * n.natAbs + (if n < 0 then 1 else 0) < kk := ⟨_, Nat.lt_succ_self _⟩
 revert n
 induction kk with
 | zero => intro n hn hkk; exact absurd hkk (Nat.not_lt_zero _)
 | succ kk ih =>
  intro n hn hkk
  refine G5 rfl Tryz.func70 rfl ⟨by kernel_rfl, rfl, of_decide_eq_true rfl, of_decide_eq_true rfl, by decide⟩ keep_s_number <| A3 <| A0 <| A4 rfl rfl rfl ?_
  refine A5 ⟨nofun, _, kS [0] [] rfl, ?_⟩
  refine A3 <| A3 <| A0 <| A6 rfl rfl <| K8 rfl rfl ?_
  refine A5 ⟨nofun, _, kS [0,4] [] rfl, ?_⟩
  refine A8 rfl (fun hc => ?_) (fun hc => ?_)
  ·try simp only [SG, List.length_map] at hc
   refine A3 <| A0 <| A6 rfl rfl <| d6m rfl (F8 (by omega)) ?_
   have hdl := U2 (m := -n) (by omega)
   apply C7 rfl
   ·apply B0
    ·exact B4 rfl
    exact C6
   ·exact ih (-n) (by omega) (by split at hkk <;> split <;> omega)
   ·exact ⟨rfl, rfl, rfl, of_decide_eq_true rfl, rfl⟩
   ·exact .inl rfl
   ·exact B2
   ·exact C1 rfl
   ·exact fun _ => rfl
   intro g7
   refine I7 rfl rfl (by simp only [G7, List.length_append, List.length_cons, List.length_nil]; omega) <| A4 rfl rfl rfl ?_
   refine A5 ⟨nofun, _, kS [2] [] rfl, ?_⟩
   refine B3 <| D5 rfl rfl trivial ?_
   exact congrArg tV (d4o (by assumption)).symm
  try simp only [SG, List.length_map] at hc
  refine B9 <| A3 <| A3 <| A0 <| A6 rfl rfl <| K8 rfl rfl ?_
  refine A5 ⟨nofun, _, kS [0,10] [] rfl, ?_⟩
  refine A8 rfl (fun hc => ?_) (fun hc => ?_)
  ·try simp only [SG, List.length_map] at hc
   refine A3 <| A0 <| A6 rfl rfl <| A6 rfl rfl <| I3 rfl rfl (F8 (by omega)) <| T6 rfl rfl (O9 rfl (by omega)) (O9 rfl (by omega)) (by (simp; omega)) <| A4 rfl rfl rfl ?_
   refine A5 ⟨nofun, _, kS [2] [] rfl, ?_⟩
   refine B3 <| D5 rfl rfl trivial ?_
   rw [d5d (by omega)]
  try simp only [SG, List.length_map] at hc
  refine B9 <| A3 <| A0 <| A6 rfl rfl ?_
  have hd10 : n.tdiv 10 = n / 10 := Int.tdiv_eq_ediv_of_nonneg (by omega)
  refine d3w rfl rfl ⟨by omega, F8 (by omega)⟩ ?_
  have hd10 : n.tdiv 10 = n / 10 := Int.tdiv_eq_ediv_of_nonneg (by omega)
  have hdl0 := U2 (m := n.tdiv 10) (by omega)
  apply C7 rfl
  ·apply B0
   ·exact B4 rfl
   exact C6
  ·exact ih (n.tdiv 10) (by omega) (by split at hkk <;> split <;> omega)
  ·exact ⟨rfl, rfl, rfl, of_decide_eq_true rfl, rfl⟩
  ·exact .inl rfl
  ·exact B2
  ·exact C1 rfl
  ·exact fun _ => rfl
  intro g17
  refine A6 rfl rfl <| c0d rfl rfl (by omega) ?_
  have hm10 : n.tmod 10 = n % 10 := Int.tmod_eq_emod_of_nonneg (by omega)
  have hdl1 := U2 (m := n.tmod 10) (by omega)
  apply C7 rfl
  ·apply B0
   ·exact B4 rfl
   exact C6
  ·exact ih (n.tmod 10) (by omega) (by split at hkk <;> split <;> omega)
  ·exact ⟨rfl, rfl, rfl, of_decide_eq_true rfl, rfl⟩
  ·exact .inl rfl
  ·exact B2
  ·exact C1 rfl
  ·exact fun _ => rfl
  intro g20
  refine I7 rfl rfl (by simp only [G7, List.length_append, List.length_cons, List.length_nil]; omega) <| A4 rfl rfl rfl ?_
  refine A5 ⟨nofun, _, kS [2] [] rfl, ?_⟩
  refine B3 <| D5 rfl rfl trivial ?_
  rw [← d7b (by omega)]

theorem keep_s_listText : G3 Tryz.f58 = [0, 2, 4, 8, 12, 3] := by kernel_rfl
set_option maxHeartbeats 20000000 in
theorem a7b (ns : List Int) (hl : ns.length ≤ 1000000) (hnb : ∀ n ∈ ns, -1000000 ≤ n ∧ n ≤ 1000000) : CW (cxT oG) 58 [L ns] = some (tV (O5 ns), []) := by
 have hg := fun (i : Nat) (h : i < ns.length) => hnb _ (a1x h)
 refine G5 rfl Tryz.func58 rfl ⟨by kernel_rfl, rfl, of_decide_eq_true rfl, of_decide_eq_true rfl, by decide⟩ keep_s_listText <| A3 <| A0 <| A4 rfl rfl rfl ?_
 refine A5 ⟨nofun, _, kS [0] [] rfl, ?_⟩
 refine A3 <| A0 <| A4 rfl rfl rfl ?_
 refine A5 ⟨nofun, _, kS [0,3] [] rfl, ?_⟩
 refine A3 <| A3 <| A0 <| A4 rfl rfl rfl ?_
 refine A5 ⟨nofun, _, kS [0,3,4] [] rfl, ?_⟩
 refine E3 <| J8 (β := Nat) [(.t 0, _)] (fun (i : Nat) => [(.t 4, iV i), (.t 3, tV (O5 (ns.take i)))]) (fun (i : Nat) => i ≤ ns.length) (fun (i : Nat) => ns.length - i) 0 ⟨rfl, rfl, rfl, trivial⟩ (Nat.zero_le _) ?_
 intro i hb
 have hi1 := hb
 have hll := a0q (ns := ns.take i) (fun n hn => hnb n (List.mem_of_mem_take hn))
 rw [List.length_take] at hll
 refine A3 <| A3 <| A0 <| A6 rfl rfl <| A6 rfl rfl <| H5 rfl rfl <| K8 rfl rfl ?_
 refine A5 ⟨nofun, _, kS [0,3,4,8] [] rfl, ?_⟩
 refine A8 rfl (fun hc => ?_) (fun hc => ?_)
 ·try simp only [SG, List.length_map] at hc
  refine B9 <| A3 <| E3 <| A3 <| A3 <| A0 <| A6 rfl rfl <| W6 rfl rfl ?_
  refine A5 ⟨nofun, _, kS [0,3,4,12] [] rfl, ?_⟩
  refine A8 rfl (fun hc => ?_) (fun hc => ?_)
  ·try simp only [SG, List.length_map] at hc
   have hi0 : 0 < i := by omega
   refine A0 <| A6 rfl rfl <| I7 rfl rfl (by simp only [G7, List.length_append, List.length_cons, List.length_nil]; omega) <| A4 rfl rfl rfl ?_
   refine A5 ⟨nofun, _, kS [0,3,4] [] rfl, ?_⟩
   refine A0 <| A6 rfl rfl <| A6 rfl rfl <| A6 rfl rfl <| H7 rfl rfl rfl (fun _ => rfl) (by omega) <| G0 rfl rfl rfl ?_
   have hgi := hg i (by omega)
   have hdl := U2 hgi
   apply C7 rfl
   ·apply B0
    ·exact B4 rfl
    exact C6
   ·exact a3z (ns.getD i default) hgi
   ·exact ⟨rfl, rfl, rfl, of_decide_eq_true rfl, rfl⟩
   ·exact .inl rfl
   ·exact B2
   ·exact C1 rfl
   ·exact fun _ => rfl
   intro g20
   refine I7 rfl rfl (by simp only [G7, List.length_append, List.length_cons, List.length_nil]; omega) <| A4 rfl rfl rfl ?_
   refine A5 ⟨nofun, _, kS [0,3,4] [] rfl, ?_⟩
   refine A0 <| A6 rfl rfl <| I3 rfl rfl (F8 (by omega)) <| A4 rfl rfl rfl ?_
   refine A5 ⟨nofun, _, kS [0,3,4] [] rfl, ?_⟩
   rw [← c0c (by omega) hi0]
   refine ⟨i + 1, ?_, (by omega), ⟨rfl, rfl, rfl, trivial⟩⟩
   omega
  try simp only [SG, List.length_map] at hc
  have hi0 : i = 0 := by omega
  refine B9 <| A0 <| A6 rfl rfl <| A6 rfl rfl <| A6 rfl rfl <| H7 rfl rfl rfl (fun _ => rfl) (by omega) <| G0 rfl rfl rfl ?_
  have hgi := hg i (by omega)
  have hdl := U2 hgi
  apply C7 rfl
  ·apply B0
   ·exact B4 rfl
   exact C6
  ·exact a3z (ns.getD i default) hgi
  ·exact ⟨rfl, rfl, rfl, of_decide_eq_true rfl, rfl⟩
  ·exact .inl rfl
  ·exact B2
  ·exact C1 rfl
  ·exact fun _ => rfl
  intro g20
  refine I7 rfl rfl (by simp only [G7, List.length_append, List.length_cons, List.length_nil]; omega) <| A4 rfl rfl rfl ?_
  refine A5 ⟨nofun, _, kS [0,3,4] [] rfl, ?_⟩
  refine A0 <| A6 rfl rfl <| I3 rfl rfl (F8 (by omega)) <| A4 rfl rfl rfl ?_
  refine A5 ⟨nofun, _, kS [0,3,4] [] rfl, ?_⟩
  rw [← c0q (by omega) hi0]
  refine ⟨i + 1, ?_, (by omega), ⟨rfl, rfl, rfl, trivial⟩⟩
  omega
 try simp only [SG, List.length_map] at hc
 refine I5 <| A3 <| A0 <| A6 rfl rfl <| A4 rfl rfl rfl ?_
 refine A5 ⟨nofun, _, kS [2] [] rfl, ?_⟩
 refine B3 <| D5 rfl rfl trivial ?_
 rw [List.take_of_length_le (by omega)]

theorem keep_s_splitAt : G3 Tryz.f50 = [0, 1, 4, 7, 12, 19, 6, 5] := by kernel_rfl
set_option maxHeartbeats 20000000 in
theorem b7c (s : List UInt8) (hs : s.length ≤ 1048576) (c : UInt8) : CW (cxT oG) 50 [tV s, uV c.toNat] = some (.own 1 ((splitB c s).map tV), []) := by
 refine G5 rfl Tryz.func50 rfl ⟨by kernel_rfl, rfl, of_decide_eq_true rfl, of_decide_eq_true rfl, by decide⟩ keep_s_splitAt <| A3 <| A0 ?_
 (refine C3 rfl rfl (fun _ => rfl) ?_; intro g4)
 refine A5 ⟨nofun, _, kS [0,1] [] rfl, ?_⟩
 refine A3 <| A0 <| D3 (es := List.map tV []) rfl rfl (of_decide_eq_true rfl) rfl rfl (fun _ => B1 (A9 fun _ => rfl)) (fun _ => rfl) ?_
 intro g8
 (refine B6 rfl rfl (by (simp; done)) rfl (fun _ => (B1 (by exact A9 fun _ => rfl))) (fun _ => rfl) ?_; intro g5)
 refine A5 ⟨nofun, _, kS [0,1,5] [5] rfl, ?_⟩
 refine A3 <| A0 <| A4 rfl rfl rfl ?_
 refine A5 ⟨nofun, _, kS [0,1,5,6] [5] rfl, ?_⟩
 refine A3 <| A3 <| A0 <| A4 rfl rfl rfl ?_
 refine A5 ⟨nofun, _, kS [0,1,5,6,7] [5] rfl, ?_⟩
 refine E3 <| J8 (β := Nat × Nat × List (List UInt8) × Nat) [(.t 0, _), (.t 1, _)] (fun (z : Nat × Nat × List (List UInt8) × Nat) => match z with | (i, fr, out, g) => [(.t 7, iV i), (.t 6, iV fr), (.t 5, .sl 5 g none 0 out.length), (.h 5, .obj g 0 1 (out.map tV))]) (fun (z : Nat × Nat × List (List UInt8) × Nat) => match z with | (i, fr, out, g) => i ≤ s.length ∧ fr ≤ i ∧ out.length ≤ i ∧ splitB c s = out ++ V1 ((s.drop fr).take (i - fr)) (splitB c (s.drop i))) (fun (z : Nat × Nat × List (List UInt8) × Nat) => match z with | (i, fr, out, g) => s.length - i) (0, 0, [], _) ⟨rfl, rfl, rfl, rfl, rfl, rfl, trivial⟩ ⟨Nat.zero_le _, Nat.le_refl _, Nat.le_refl _, by simp [b6r]⟩ ?_
 intro z hb
 obtain ⟨i, fr, out, g⟩ := z
 try dsimp only at hb
 obtain ⟨hi1, hfr, hol, hsp⟩ := hb
 refine A3 <| A3 <| A0 <| A6 rfl rfl <| A6 rfl rfl <| a1o rfl rfl <| K8 rfl rfl ?_
 refine A5 ⟨nofun, _, kS [0,1,5,6,7,12] [5] rfl, ?_⟩
 refine A8 rfl (fun hc => ?_) (fun hc => ?_)
 ·try simp only [SG, List.length_map] at hc
  refine B9 <| A3 <| E3 <| A3 <| A0 <| A6 rfl rfl <| A6 rfl rfl <| O8 rfl rfl rfl (by omega) <| A6 rfl rfl <| P7 rfl rfl ?_
  refine A5 ⟨nofun, _, kS [0,1,5,6,7,19] [5] rfl, ?_⟩
  refine A8 rfl (fun hc => ?_) (fun hc => ?_)
  ·try simp only [SG, List.length_map] at hc
   have hcb : s.getD i 0 = c := UInt8.toNat_inj.1 (by omega)
   refine A3 <| A0 <| A6 rfl rfl <| A6 rfl rfl <| A6 rfl rfl <| A6 rfl rfl <| T6 rfl rfl (H8 rfl) (H8 rfl) (by omega) <| D3 (es := List.map tV [_]) rfl rfl (of_decide_eq_true rfl) rfl rfl (fun _ => B1 (A9 fun _ => rfl)) (fun _ => rfl) ?_
   intro g25
   refine H0 rfl rfl rfl rfl (by (simp; done)) (by simp) (by decide) rfl rfl rfl rfl (of_decide_eq_true rfl) (fun _ => ⟨rfl, rfl⟩) (by simp only [G7]; (simp only [List.length_nil, List.length_cons, List.length_append, Nat.zero_add, List.length_map]; omega)) (fun _ => rfl) ?_
   intro g26
   (refine B6 rfl rfl (by (simp; done)) rfl (fun _ => (B1 (by exact A9 fun _ => rfl))) (fun _ => rfl) ?_; intro g5)
   refine A5 ⟨nofun, _, kS [0,1,5,7] [5] rfl, ?_⟩
   refine A0 <| A6 rfl rfl <| I3 rfl rfl (F8 (by omega)) <| A4 rfl rfl rfl ?_
   refine A5 ⟨nofun, _, kS [0,1,5,6,7] [5] rfl, ?_⟩
   refine A0 <| A6 rfl rfl <| I3 rfl rfl (F8 (by omega)) <| A4 rfl rfl rfl ?_
   refine A5 ⟨nofun, _, kS [0,1,5,6,7] [5] rfl, ?_⟩
   refine ⟨(i + 1, i + 1, out ++ [(s.drop fr).take (i - fr)], _), ?_, (by simp only; omega), ⟨rfl, rfl, rfl, rfl, rfl, rfl, trivial⟩⟩
   have hst := b4z (by omega) hfr hsp
   exact ⟨by omega, by omega, by simp; omega, hst.1 hcb⟩
  try simp only [SG, List.length_map] at hc
  have hcb : s.getD i 0 ≠ c := fun e => hc (by rw [e])
  refine B9 <| A0 <| A6 rfl rfl <| I3 rfl rfl (F8 (by omega)) <| A4 rfl rfl rfl ?_
  refine A5 ⟨nofun, _, kS [0,1,5,6,7] [5] rfl, ?_⟩
  refine ⟨(i + 1, fr, out, _), ?_, (by simp only; omega), ⟨rfl, rfl, rfl, rfl, rfl, rfl, trivial⟩⟩
  have hst := b4z (by omega) hfr hsp
  exact ⟨by omega, by omega, by omega, hst.2 hcb⟩
 try simp only [SG, List.length_map] at hc
 refine I5 <| A3 <| A0 <| A6 rfl rfl <| A6 rfl rfl <| A6 rfl rfl <| T6 rfl rfl I0 (H8 rfl) (by omega) <| D3 (es := List.map tV [_]) rfl rfl (of_decide_eq_true rfl) rfl rfl (fun _ => B1 (A9 fun _ => rfl)) (fun _ => rfl) ?_
 intro g33
 refine H0 rfl rfl rfl rfl (by (simp; done)) (by simp) (by decide) rfl rfl rfl rfl (of_decide_eq_true rfl) (fun _ => ⟨rfl, rfl⟩) (by simp only [G7]; (simp only [List.length_nil, List.length_cons, List.length_append, Nat.zero_add, List.length_map]; omega)) (fun _ => rfl) ?_
 intro g34
 (refine B6 rfl rfl (by (simp; done)) rfl (fun _ => (B1 (by exact A9 fun _ => rfl))) (fun _ => rfl) ?_; intro g4)
 refine A5 ⟨nofun, _, kS [4] [4] rfl, ?_⟩
 refine B3 <| Z3 rfl rfl (by simp) (by exact A9 fun _ => rfl) trivial ?_
 have hil : i = s.length := by omega
 rw [hsp, hil, List.drop_length, splitB, V1, List.append_nil]

theorem keep_s_readList : G3 Tryz.f79 = [0, 2, 3, 5, 6, 17, 7, 8, 31, 10, 37, 9, 53, 62, 75, 4] := by kernel_rfl
set_option maxHeartbeats 20000000 in
theorem c4w (s : List UInt8) (hs : s.length ≤ 1048576) : CW (cxT oG) 79 [tV s] = some (.tup [.own 1 (((rdL s).getD []).map iV), bV (rdL s).isSome], []) := by
 obtain ⟨ps, hps⟩ : ∃ ps, ps = splitB 44 s := ⟨_, rfl⟩
 have hpl := U0 44 s
 rw [← hps] at hpl
 have hpp := V0 44 s
 rw [← hps] at hpp
 refine G5 rfl Tryz.func79 rfl ⟨by kernel_rfl, rfl, of_decide_eq_true rfl, of_decide_eq_true rfl, by decide⟩ keep_s_readList <| A3 <| A0 ?_
 (refine C3 rfl rfl (fun _ => rfl) ?_; intro g2)
 refine A4 rfl rfl rfl ?_
 refine A5 ⟨nofun, _, kS [0] [] rfl, ?_⟩
 refine A3 <| A0 <| D3 (es := List.map iV []) rfl rfl (of_decide_eq_true rfl) rfl rfl (fun _ => B1 (A9 fun _ => rfl)) (fun _ => rfl) ?_
 intro g11
 (refine B6 rfl rfl (by (simp; done)) rfl (fun _ => (B1 (by exact A9 fun _ => rfl))) (fun _ => rfl) ?_; intro g4)
 refine A5 ⟨nofun, _, kS [0,4] [4] rfl, ?_⟩
 refine A3 <| A0 <| A6 rfl rfl ?_
 apply C7 rfl
 ·apply B0
  ·exact B4 rfl
  apply B0
  ·exact B4 rfl
  exact C6
 ·exact b7c s hs 44
 ·exact ⟨rfl, rfl, rfl, of_decide_eq_true rfl, rfl⟩
 ·exact .inl rfl
 ·exact B2
 ·exact O7
 ·exact fun _ => rfl
 intro g13
 rw [← hps]
 try simp only [List.length_map]
 (refine B6 rfl rfl (by (simp; done)) rfl (fun _ => (B1 (by exact A9 fun _ => rfl))) (fun _ => rfl) ?_; intro g5)
 refine A5 ⟨nofun, _, kS [4,5] [4,5] rfl, ?_⟩
 refine A3 <| A3 <| A0 <| A4 rfl rfl rfl ?_
 refine A5 ⟨nofun, _, kS [4,5,6] [4,5] rfl, ?_⟩
 refine E3 <| J8 (β := Nat × List Int × Nat) [(.t 5, _), (.h 5, _)] (fun (z : Nat × List Int × Nat) => match z with | (i, ns, g) => [(.t 6, iV i), (.t 4, .sl 4 g none 0 ns.length), (.h 4, .obj g 0 1 (ns.map iV))]) (fun (z : Nat × List Int × Nat) => match z with | (i, ns, g) => i ≤ ps.length ∧ a0v (ps.take i) = some ns) (fun (z : Nat × List Int × Nat) => match z with | (i, ns, g) => ps.length - i) (0, [], _) ⟨rfl, rfl, rfl, rfl, rfl, trivial⟩ ⟨Nat.zero_le _, rfl⟩ ?_
 intro z hb
 obtain ⟨i, ns, g⟩ := z
 try dsimp only at hb
 obtain ⟨hi1, hrd⟩ := hb
 have hnl := b0j hrd
 rw [List.length_take] at hnl
 have hpi := fun h : i < ps.length => hpp _ (S7 h)
 refine A3 <| A3 <| A0 <| A6 rfl rfl <| A6 rfl rfl <| M3 rfl rfl <| K8 rfl rfl ?_
 refine A5 ⟨nofun, _, kS [4,5,6,17] [4,5] rfl, ?_⟩
 refine A8 rfl (fun hc => ?_) (fun hc => ?_)
 ·try simp only [SG, List.length_map] at hc
  refine B9 <| A3 <| E3 <| A3 <| A0 <| A6 rfl rfl <| A6 rfl rfl <| J3 rfl rfl rfl rfl (by omega) (by (simp; done)) rfl <| K6 rfl rfl (by omega) (fun _ => rfl) (fun _ => rfl) rfl <| A4 rfl rfl rfl ?_
  refine A5 ⟨nofun, _, kS [4,5,6,7] [4,5] rfl, ?_⟩
  refine A3 <| A0 <| A6 rfl rfl <| b0k rfl rfl <| A6 rfl rfl ?_
  refine D7 rfl rfl (fun hg0 => ?_) (fun hg0 => ?_)
  ·have hg := hg0; try simp only [SG] at hg
   refine A6 rfl rfl <| gT rfl rfl ?_
   have hp0 : 0 < (ps.getD i default).length := List.length_pos_iff.2 (by assumption)
   refine O8 (n := 0) rfl rfl rfl hp0 <| gT rfl rfl <| P7 rfl rfl <| F9 rfl (by assumption) rfl rfl <| A4 rfl rfl rfl ?_
   refine A5 ⟨nofun, _, kS [4,5,6,7,8] [4,5] rfl, ?_⟩
   refine A3 <| A3 <| A0 <| A6 rfl rfl ?_
   refine A5 ⟨nofun, _, kS [4,5,6,7,8,31] [4,5] rfl, ?_⟩
   refine A8 rfl (fun hc => ?_) (fun hc => ?_)
   ·try simp only [SG, List.length_map] at hc
    obtain ⟨hng, hup⟩ := d8f (p := (ps.getD i default)) (by assumption) (by omega)
    have hul := b9m (ps.getD i default)
    rw [hup] at hul
    refine A0 <| A6 rfl rfl <| T6 rfl rfl I0 (H8 (n := 1) rfl) (by omega) <| A4 rfl rfl rfl ?_
    refine A5 ⟨nofun, _, kS [4,5,6,7,8] [4,5] rfl, ?_⟩
    refine A3 <| A0 <| A4 rfl rfl rfl ?_
    refine A5 ⟨nofun, _, kS [4,5,6,7,8,9] [4,5] rfl, ?_⟩
    refine A3 <| A3 <| A0 <| A4 rfl rfl rfl ?_
    refine A5 ⟨nofun, _, kS [4,5,6,7,8,9,10] [4,5] rfl, ?_⟩
    refine E3 ?_
    have hup0 := hup
    refine J8 (β := Nat × Int) [(.t 4, _), (.t 5, _), (.t 6, _), (.t 7, _), (.t 8, _), (.h 4, _), (.h 5, _)] (fun (z : Nat × Int) => match z with | (k, a) => [(.t 10, iV k), (.t 9, iV a)]) (fun (z : Nat × Int) => match z with | (k, a) => k ≤ (unS (ps.getD i default)).length ∧ 0 ≤ a ∧ V2 0 ((unS (ps.getD i default)).take k) = some a.toNat) (fun (z : Nat × Int) => match z with | (k, a) => (unS (ps.getD i default)).length - k) (0, 0) ⟨rfl, rfl, rfl, rfl, rfl, rfl, rfl, rfl, rfl, trivial⟩ ⟨Nat.zero_le _, by decide, rfl⟩ ?_
    intro z hb
    obtain ⟨k, a⟩ := z
    try dsimp only at hb
    obtain ⟨hk1, ha0, hdg⟩ := hb
    have hab := b2l (by decide) hdg
    rw [hup] at hk1 hdg
    refine A3 <| A3 <| A0 <| A6 rfl rfl <| A6 rfl rfl <| a1o rfl rfl <| K8 rfl rfl ?_
    refine A5 ⟨nofun, _, kS [4,5,6,7,8,9,10,37] [4,5] rfl, ?_⟩
    refine A8 rfl (fun hc => ?_) (fun hc => ?_)
    ·try simp only [SG, List.length_map] at hc
     refine B9 <| A3 <| E3 <| A3 <| A3 <| A0 <| A6 rfl rfl <| A6 rfl rfl <| O8 rfl rfl rfl (by omega) <| K8 rfl rfl <| A6 rfl rfl ?_
     refine D7 rfl rfl (fun hg0 => ?_) (fun hg0 => ?_)
     ·have hg := hg0; try simp only [SG] at hg
      refine A6 rfl rfl <| gT rfl rfl <| A6 rfl rfl <| gT rfl rfl <| O8 rfl rfl rfl (by omega) <| gT rfl rfl <| W6 rfl rfl <| F7 rfl (by assumption) rfl rfl <| A6 rfl rfl ?_
      refine D7 rfl rfl (fun hg0 => ?_) (fun hg0 => ?_)
      ·have hg := hg0; try simp only [SG] at hg
       refine A6 rfl rfl <| gT rfl rfl <| W6 rfl rfl <| F7 rfl (by assumption) rfl rfl ?_
       refine A5 ⟨nofun, _, kS [4,5,6,7,8,9,10,53] [4,5] rfl, ?_⟩
       refine A8 rfl (fun hc => ?_) (fun hc => ?_)
       ·try simp only [SG, List.length_map] at hc
        refine A3 <| A0 ?_
        (refine C3 rfl rfl (fun _ => rfl) ?_; intro g2)
        refine A4 rfl rfl rfl ?_
        refine A5 ⟨nofun, _, kS [2,3] [2] rfl, ?_⟩
        refine B3 <| D6 (H4 rfl rfl (by simp) (by rfl) (E5 rfl rfl (E8 C8))) ?_
        rw [rdL, ← hps, L2 (show i < ps.length by omega) (W5 (by rw [hup]; exact S4 (by omega) hdg (by omega)))]
        rfl
       try simp only [SG, List.length_map] at hc
       refine B9 <| A0 <| A6 rfl rfl <| b0t rfl rfl (F8 (by omega)) <| A6 rfl rfl <| A6 rfl rfl <| O8 rfl rfl rfl (by omega) <| a1f rfl rfl (d7n (by omega)) <| a9g rfl rfl rfl (F8 (by omega)) <| I3 rfl rfl (F8 (by omega)) <| A4 rfl rfl rfl ?_
       refine A5 ⟨nofun, _, kS [4,5,6,7,8,9,10] [4,5] rfl, ?_⟩
       refine A0 <| A6 rfl rfl <| I3 rfl rfl (F8 (by omega)) <| A4 rfl rfl rfl ?_
       refine A5 ⟨nofun, _, kS [4,5,6,7,8,9,10] [4,5] rfl, ?_⟩
       refine ⟨(k + 1, _), ?_, (by simp only [hup]; omega), ⟨rfl, rfl, rfl, rfl, rfl, rfl, rfl, rfl, rfl, trivial⟩⟩
       rw [hup]
       have hds := a9a (by omega) hdg (by omega)
       exact ⟨by omega, by omega, hds.trans (congrArg some (by omega))⟩
      have hg := hg0; try simp only [SG] at hg
      refine gF rfl rfl <| F9 rfl (by assumption) rfl rfl ?_
      refine A5 ⟨nofun, _, kS [4,5,6,7,8,9,10,53] [4,5] rfl, ?_⟩
      refine A8 rfl (fun hc => ?_) (fun hc => absurd hc (by decide))
      refine A3 <| A0 ?_
      (refine C3 rfl rfl (fun _ => rfl) ?_; intro g2)
      refine A4 rfl rfl rfl ?_
      refine A5 ⟨nofun, _, kS [2,3] [2] rfl, ?_⟩
      refine B3 <| D6 (H4 rfl rfl (by simp) (by rfl) (E5 rfl rfl (E8 C8))) ?_
      rw [rdL, ← hps, L2 (show i < ps.length by omega) (W5 (by rw [hup]; exact S4 (by omega) hdg (by omega)))]
      rfl
     have hg := hg0; try simp only [SG] at hg
     refine gF rfl rfl <| gF rfl rfl <| gF rfl rfl <| F9 rfl (by assumption) rfl rfl <| A6 rfl rfl <| G4 rfl rfl rfl <| G4 rfl rfl rfl <| F9 rfl rfl rfl rfl ?_
     refine A5 ⟨nofun, _, kS [4,5,6,7,8,9,10,53] [4,5] rfl, ?_⟩
     refine A8 rfl (fun hc => ?_) (fun hc => absurd hc (by decide))
     refine A3 <| A0 ?_
     (refine C3 rfl rfl (fun _ => rfl) ?_; intro g2)
     refine A4 rfl rfl rfl ?_
     refine A5 ⟨nofun, _, kS [2,3] [2] rfl, ?_⟩
     refine B3 <| D6 (H4 rfl rfl (by simp) (by rfl) (E5 rfl rfl (E8 C8))) ?_
     rw [rdL, ← hps, L2 (show i < ps.length by omega) (W5 (by rw [hup]; exact S4 (by omega) hdg (by omega)))]
     rfl
    try simp only [SG, List.length_map] at hc
    have hdU : V2 0 (unS (ps.getD i default)) = some a.toNat := by rw [hup]; rw [List.take_of_length_le (by omega)] at hdg; exact hdg
    refine I5 <| A3 <| A3 <| A0 <| A6 rfl rfl ?_
    refine A5 ⟨nofun, _, kS [4,5,6,7,9,62] [4,5] rfl, ?_⟩
    refine A8 rfl (fun hc => ?_) (fun hc => absurd hc (by simp_all))
    refine A0 <| A6 rfl rfl <| d6m rfl (F8 (by omega)) <| A4 rfl rfl rfl ?_
    refine A5 ⟨nofun, _, kS [4,5,6,7,9] [4,5] rfl, ?_⟩
    refine A3 <| A3 <| A0 <| A6 rfl rfl <| U6 rfl rfl <| A6 rfl rfl ?_
    refine D7 rfl rfl (fun hg0 => ?_) (fun hg0 => ?_)
    ·have hg := hg0; try simp only [SG] at hg
     refine A6 rfl rfl <| gT rfl rfl ?_
     have hdl1 := U2 (m := -a) (by omega)
     have hdl2 := U2 (m := a) (by omega)
     apply C7 rfl
     ·apply B0
      ·exact B4 rfl
      exact C6
     ·exact a3z (-a) (by omega)
     ·exact ⟨rfl, rfl, rfl, of_decide_eq_true rfl, rfl⟩
     ·exact .inl rfl
     ·exact B2
     ·exact C1 rfl
     ·exact fun _ => rfl
     intro g69
     refine gT rfl rfl <| A6 rfl rfl <| gT rfl rfl <| A6 rfl rfl <| gT rfl rfl <| J3 rfl rfl rfl rfl (by omega) (by (simp; done)) rfl <| gT rfl rfl <| K6 rfl rfl (by omega) (fun _ => rfl) (fun _ => rfl) rfl <| gT rfl rfl <| b0k rfl rfl <| F7 rfl (by assumption) rfl rfl ?_
     refine A5 ⟨fun _ => ⟨by (simp only [a1w, List.nil_append, List.append_nil, List.map_cons, List.map_nil, List.cons_append]; decide +kernel), by decide +kernel⟩, [(.t 4, _), (.t 5, _), (.t 6, _), (.t 9, _), (.t 75, _), (.h 4, _), (.h 5, _)], ⟨rfl, rfl, rfl, rfl, rfl, rfl, rfl, rfl, rfl, rfl, rfl, rfl, rfl, rfl, trivial⟩, ?_⟩
     refine A8 rfl (fun hc => ?_) (fun hc => ?_)
     ·try simp only [SG, List.length_map] at hc
      refine A3 <| A0 ?_
      (refine C3 rfl rfl (fun _ => rfl) ?_; intro g2)
      refine A4 rfl rfl rfl ?_
      refine A5 ⟨nofun, _, kS [2,3] [2] rfl, ?_⟩
      refine B3 <| D6 (H4 rfl rfl (by simp) (by rfl) (E5 rfl rfl (E8 C8))) ?_
      have hno : rdI (ps.getD i default) = none := by exact a9m (m := -a) hdU (by (rw [hng, if_pos rfl]; omega)) (by exact .inr (by assumption))
      rw [rdL, ← hps, L2 (show i < ps.length by omega) hno]
      rfl
     try simp only [SG, List.length_map] at hc
     have hri := c5e (m := -a) hdU (by (rw [hng, if_pos rfl]; omega)) (by rw [hup]; assumption) (by assumption)
     refine B9 <| A0 <| A6 rfl rfl <| A6 rfl rfl <| D3 (es := List.map iV [_]) rfl rfl (of_decide_eq_true rfl) rfl rfl (fun _ => B1 (A9 fun _ => rfl)) (fun _ => rfl) ?_
     intro g78
     refine H0 rfl rfl rfl rfl (by (simp; done)) (by simp) (by decide) rfl rfl rfl rfl (of_decide_eq_true rfl) (fun _ => ⟨rfl, rfl⟩) (by simp only [G7]; (simp only [List.length_nil, List.length_cons, List.length_append, Nat.zero_add, List.length_map]; omega)) (fun _ => rfl) ?_
     intro g79
     (refine B6 rfl rfl (by (simp; done)) rfl (fun _ => (B1 (by exact A9 fun _ => rfl))) (fun _ => rfl) ?_; intro g4)
     refine A5 ⟨nofun, _, kS [4,5,6] [4,5] rfl, ?_⟩
     refine A0 <| A6 rfl rfl <| I3 rfl rfl (F8 (by omega)) <| A4 rfl rfl rfl ?_
     refine A5 ⟨nofun, _, kS [4,5,6] [4,5] rfl, ?_⟩
     refine ⟨(i + 1, ns ++ [-a], _), ?_, (by simp only; omega), ⟨rfl, rfl, rfl, rfl, rfl, trivial⟩⟩
     exact ⟨by omega, a9s (by omega) hrd hri⟩
    have hg := hg0; try simp only [SG] at hg
    refine gF rfl rfl <| gF rfl rfl <| gF rfl rfl <| gF rfl rfl <| gF rfl rfl <| gF rfl rfl <| F9 rfl (by assumption) rfl rfl ?_
    refine A5 ⟨fun _ => ⟨by decide +kernel, by decide +kernel⟩, [(.t 4, _), (.t 5, _), (.t 6, _), (.t 9, _), (.t 75, _), (.h 4, _), (.h 5, _)], ⟨rfl, rfl, rfl, rfl, rfl, rfl, rfl, rfl, rfl, rfl, rfl, rfl, rfl, rfl, trivial⟩, ?_⟩
    refine A8 rfl (fun hc => ?_) (fun hc => absurd hc (by decide))
    refine A3 <| A0 ?_
    (refine C3 rfl rfl (fun _ => rfl) ?_; intro g2)
    refine A4 rfl rfl rfl ?_
    refine A5 ⟨nofun, _, kS [2,3] [2] rfl, ?_⟩
    refine B3 <| D6 (H4 rfl rfl (by simp) (by rfl) (E5 rfl rfl (E8 C8))) ?_
    have hno : rdI (ps.getD i default) = none := by exact a9m (m := -a) hdU (by (rw [hng, if_pos rfl]; omega)) (by exact .inl (by rw [hup]; assumption))
    rw [rdL, ← hps, L2 (show i < ps.length by omega) hno]
    rfl
   try simp only [SG, List.length_map] at hc
   obtain ⟨hng, hup⟩ := d6o (p := (ps.getD i default)) (by exact .inr (by omega))
   have hul := b9m (ps.getD i default)
   rw [hup] at hul
   refine B9 <| A3 <| A0 <| A4 rfl rfl rfl ?_
   refine A5 ⟨nofun, _, kS [4,5,6,7,8,9] [4,5] rfl, ?_⟩
   refine A3 <| A3 <| A0 <| A4 rfl rfl rfl ?_
   refine A5 ⟨nofun, _, kS [4,5,6,7,8,9,10] [4,5] rfl, ?_⟩
   refine E3 ?_
   have hup0 := hup
   refine J8 (β := Nat × Int) [(.t 4, _), (.t 5, _), (.t 6, _), (.t 7, _), (.t 8, _), (.h 4, _), (.h 5, _)] (fun (z : Nat × Int) => match z with | (k, a) => [(.t 10, iV k), (.t 9, iV a)]) (fun (z : Nat × Int) => match z with | (k, a) => k ≤ (unS (ps.getD i default)).length ∧ 0 ≤ a ∧ V2 0 ((unS (ps.getD i default)).take k) = some a.toNat) (fun (z : Nat × Int) => match z with | (k, a) => (unS (ps.getD i default)).length - k) (0, 0) ⟨rfl, rfl, rfl, rfl, rfl, rfl, rfl, rfl, rfl, trivial⟩ ⟨Nat.zero_le _, by decide, rfl⟩ ?_
   intro z hb
   obtain ⟨k, a⟩ := z
   try dsimp only at hb
   obtain ⟨hk1, ha0, hdg⟩ := hb
   have hab := b2l (by decide) hdg
   rw [hup] at hk1 hdg
   refine A3 <| A3 <| A0 <| A6 rfl rfl <| A6 rfl rfl <| a1o rfl rfl <| K8 rfl rfl ?_
   refine A5 ⟨nofun, _, kS [4,5,6,7,8,9,10,37] [4,5] rfl, ?_⟩
   refine A8 rfl (fun hc => ?_) (fun hc => ?_)
   ·try simp only [SG, List.length_map] at hc
    refine B9 <| A3 <| E3 <| A3 <| A3 <| A0 <| A6 rfl rfl <| A6 rfl rfl <| O8 rfl rfl rfl (by omega) <| K8 rfl rfl <| A6 rfl rfl ?_
    refine D7 rfl rfl (fun hg0 => ?_) (fun hg0 => ?_)
    ·have hg := hg0; try simp only [SG] at hg
     refine A6 rfl rfl <| gT rfl rfl <| A6 rfl rfl <| gT rfl rfl <| O8 rfl rfl rfl (by omega) <| gT rfl rfl <| W6 rfl rfl <| F7 rfl (by assumption) rfl rfl <| A6 rfl rfl ?_
     refine D7 rfl rfl (fun hg0 => ?_) (fun hg0 => ?_)
     ·have hg := hg0; try simp only [SG] at hg
      refine A6 rfl rfl <| gT rfl rfl <| W6 rfl rfl <| F7 rfl (by assumption) rfl rfl ?_
      refine A5 ⟨nofun, _, kS [4,5,6,7,8,9,10,53] [4,5] rfl, ?_⟩
      refine A8 rfl (fun hc => ?_) (fun hc => ?_)
      ·try simp only [SG, List.length_map] at hc
       refine A3 <| A0 ?_
       (refine C3 rfl rfl (fun _ => rfl) ?_; intro g2)
       refine A4 rfl rfl rfl ?_
       refine A5 ⟨nofun, _, kS [2,3] [2] rfl, ?_⟩
       refine B3 <| D6 (H4 rfl rfl (by simp) (by rfl) (E5 rfl rfl (E8 C8))) ?_
       rw [rdL, ← hps, L2 (show i < ps.length by omega) (W5 (by rw [hup]; exact S4 (by omega) hdg (by omega)))]
       rfl
      try simp only [SG, List.length_map] at hc
      refine B9 <| A0 <| A6 rfl rfl <| b0t rfl rfl (F8 (by omega)) <| A6 rfl rfl <| A6 rfl rfl <| O8 rfl rfl rfl (by omega) <| a1f rfl rfl (d7n (by omega)) <| a9g rfl rfl rfl (F8 (by omega)) <| I3 rfl rfl (F8 (by omega)) <| A4 rfl rfl rfl ?_
      refine A5 ⟨nofun, _, kS [4,5,6,7,8,9,10] [4,5] rfl, ?_⟩
      refine A0 <| A6 rfl rfl <| I3 rfl rfl (F8 (by omega)) <| A4 rfl rfl rfl ?_
      refine A5 ⟨nofun, _, kS [4,5,6,7,8,9,10] [4,5] rfl, ?_⟩
      refine ⟨(k + 1, _), ?_, (by simp only [hup]; omega), ⟨rfl, rfl, rfl, rfl, rfl, rfl, rfl, rfl, rfl, trivial⟩⟩
      rw [hup]
      have hds := a9a (by omega) hdg (by omega)
      exact ⟨by omega, by omega, hds.trans (congrArg some (by omega))⟩
     have hg := hg0; try simp only [SG] at hg
     refine gF rfl rfl <| F9 rfl (by assumption) rfl rfl ?_
     refine A5 ⟨nofun, _, kS [4,5,6,7,8,9,10,53] [4,5] rfl, ?_⟩
     refine A8 rfl (fun hc => ?_) (fun hc => absurd hc (by decide))
     refine A3 <| A0 ?_
     (refine C3 rfl rfl (fun _ => rfl) ?_; intro g2)
     refine A4 rfl rfl rfl ?_
     refine A5 ⟨nofun, _, kS [2,3] [2] rfl, ?_⟩
     refine B3 <| D6 (H4 rfl rfl (by simp) (by rfl) (E5 rfl rfl (E8 C8))) ?_
     rw [rdL, ← hps, L2 (show i < ps.length by omega) (W5 (by rw [hup]; exact S4 (by omega) hdg (by omega)))]
     rfl
    have hg := hg0; try simp only [SG] at hg
    refine gF rfl rfl <| gF rfl rfl <| gF rfl rfl <| F9 rfl (by assumption) rfl rfl <| A6 rfl rfl <| G4 rfl rfl rfl <| G4 rfl rfl rfl <| F9 rfl rfl rfl rfl ?_
    refine A5 ⟨nofun, _, kS [4,5,6,7,8,9,10,53] [4,5] rfl, ?_⟩
    refine A8 rfl (fun hc => ?_) (fun hc => absurd hc (by decide))
    refine A3 <| A0 ?_
    (refine C3 rfl rfl (fun _ => rfl) ?_; intro g2)
    refine A4 rfl rfl rfl ?_
    refine A5 ⟨nofun, _, kS [2,3] [2] rfl, ?_⟩
    refine B3 <| D6 (H4 rfl rfl (by simp) (by rfl) (E5 rfl rfl (E8 C8))) ?_
    rw [rdL, ← hps, L2 (show i < ps.length by omega) (W5 (by rw [hup]; exact S4 (by omega) hdg (by omega)))]
    rfl
   try simp only [SG, List.length_map] at hc
   have hdU : V2 0 (unS (ps.getD i default)) = some a.toNat := by rw [hup]; rw [List.take_of_length_le (by omega)] at hdg; exact hdg
   refine I5 <| A3 <| A3 <| A0 <| A6 rfl rfl ?_
   refine A5 ⟨nofun, _, kS [4,5,6,7,9,62] [4,5] rfl, ?_⟩
   refine A8 rfl (fun hc => absurd hc (by simp_all)) (fun hc => ?_)
   refine B9 <| A3 <| A3 <| A0 <| A6 rfl rfl <| U6 rfl rfl <| A6 rfl rfl ?_
   refine D7 rfl rfl (fun hg0 => ?_) (fun hg0 => ?_)
   ·have hg := hg0; try simp only [SG] at hg
    refine A6 rfl rfl <| gT rfl rfl ?_
    have hdl1 := U2 (m := -a) (by omega)
    have hdl2 := U2 (m := a) (by omega)
    apply C7 rfl
    ·apply B0
     ·exact B4 rfl
     exact C6
    ·exact a3z a (by omega)
    ·exact ⟨rfl, rfl, rfl, of_decide_eq_true rfl, rfl⟩
    ·exact .inl rfl
    ·exact B2
    ·exact C1 rfl
    ·exact fun _ => rfl
    intro g69
    refine gT rfl rfl <| A6 rfl rfl <| gT rfl rfl <| A6 rfl rfl <| gT rfl rfl <| J3 rfl rfl rfl rfl (by omega) (by (simp; done)) rfl <| gT rfl rfl <| K6 rfl rfl (by omega) (fun _ => rfl) (fun _ => rfl) rfl <| gT rfl rfl <| b0k rfl rfl <| F7 rfl (by assumption) rfl rfl ?_
    refine A5 ⟨fun _ => ⟨by (simp only [a1w, List.nil_append, List.append_nil, List.map_cons, List.map_nil, List.cons_append]; decide +kernel), by decide +kernel⟩, [(.t 4, _), (.t 5, _), (.t 6, _), (.t 9, _), (.t 75, _), (.h 4, _), (.h 5, _)], ⟨rfl, rfl, rfl, rfl, rfl, rfl, rfl, rfl, rfl, rfl, rfl, rfl, rfl, rfl, trivial⟩, ?_⟩
    refine A8 rfl (fun hc => ?_) (fun hc => ?_)
    ·try simp only [SG, List.length_map] at hc
     refine A3 <| A0 ?_
     (refine C3 rfl rfl (fun _ => rfl) ?_; intro g2)
     refine A4 rfl rfl rfl ?_
     refine A5 ⟨nofun, _, kS [2,3] [2] rfl, ?_⟩
     refine B3 <| D6 (H4 rfl rfl (by simp) (by rfl) (E5 rfl rfl (E8 C8))) ?_
     have hno : rdI (ps.getD i default) = none := by exact a9m (m := a) hdU (by (rw [hng, if_neg (by decide)]; omega)) (by exact .inr (by assumption))
     rw [rdL, ← hps, L2 (show i < ps.length by omega) hno]
     rfl
    try simp only [SG, List.length_map] at hc
    have hri := c5e (m := a) hdU (by (rw [hng, if_neg (by decide)]; omega)) (by rw [hup]; assumption) (by assumption)
    refine B9 <| A0 <| A6 rfl rfl <| A6 rfl rfl <| D3 (es := List.map iV [_]) rfl rfl (of_decide_eq_true rfl) rfl rfl (fun _ => B1 (A9 fun _ => rfl)) (fun _ => rfl) ?_
    intro g78
    refine H0 rfl rfl rfl rfl (by (simp; done)) (by simp) (by decide) rfl rfl rfl rfl (of_decide_eq_true rfl) (fun _ => ⟨rfl, rfl⟩) (by simp only [G7]; (simp only [List.length_nil, List.length_cons, List.length_append, Nat.zero_add, List.length_map]; omega)) (fun _ => rfl) ?_
    intro g79
    (refine B6 rfl rfl (by (simp; done)) rfl (fun _ => (B1 (by exact A9 fun _ => rfl))) (fun _ => rfl) ?_; intro g4)
    refine A5 ⟨nofun, _, kS [4,5,6] [4,5] rfl, ?_⟩
    refine A0 <| A6 rfl rfl <| I3 rfl rfl (F8 (by omega)) <| A4 rfl rfl rfl ?_
    refine A5 ⟨nofun, _, kS [4,5,6] [4,5] rfl, ?_⟩
    refine ⟨(i + 1, ns ++ [a], _), ?_, (by simp only; omega), ⟨rfl, rfl, rfl, rfl, rfl, trivial⟩⟩
    exact ⟨by omega, a9s (by omega) hrd hri⟩
   have hg := hg0; try simp only [SG] at hg
   refine gF rfl rfl <| gF rfl rfl <| gF rfl rfl <| gF rfl rfl <| gF rfl rfl <| gF rfl rfl <| F9 rfl (by assumption) rfl rfl ?_
   refine A5 ⟨fun _ => ⟨by decide +kernel, by decide +kernel⟩, [(.t 4, _), (.t 5, _), (.t 6, _), (.t 9, _), (.t 75, _), (.h 4, _), (.h 5, _)], ⟨rfl, rfl, rfl, rfl, rfl, rfl, rfl, rfl, rfl, rfl, rfl, rfl, rfl, rfl, trivial⟩, ?_⟩
   refine A8 rfl (fun hc => ?_) (fun hc => absurd hc (by decide))
   refine A3 <| A0 ?_
   (refine C3 rfl rfl (fun _ => rfl) ?_; intro g2)
   refine A4 rfl rfl rfl ?_
   refine A5 ⟨nofun, _, kS [2,3] [2] rfl, ?_⟩
   refine B3 <| D6 (H4 rfl rfl (by simp) (by rfl) (E5 rfl rfl (E8 C8))) ?_
   have hno : rdI (ps.getD i default) = none := by exact a9m (m := a) hdU (by (rw [hng, if_neg (by decide)]; omega)) (by exact .inl (by rw [hup]; assumption))
   rw [rdL, ← hps, L2 (show i < ps.length by omega) hno]
   rfl
  have hg := hg0; try simp only [SG] at hg
  refine gF rfl rfl <| gF rfl rfl <| F7 rfl (by assumption) rfl rfl <| A4 rfl rfl rfl ?_
  refine A5 ⟨nofun, _, kS [4,5,6,7,8] [4,5] rfl, ?_⟩
  refine A3 <| A3 <| A0 <| A6 rfl rfl ?_
  refine A5 ⟨nofun, _, kS [4,5,6,7,8,31] [4,5] rfl, ?_⟩
  refine A8 rfl (fun hc => absurd hc (by decide)) (fun hc => ?_)
  refine B9 <| A3 <| A0 <| A4 rfl rfl rfl ?_
  refine A5 ⟨nofun, _, kS [4,5,6,7,8,9] [4,5] rfl, ?_⟩
  refine A3 <| A3 <| A0 <| A4 rfl rfl rfl ?_
  refine A5 ⟨nofun, _, kS [4,5,6,7,8,9,10] [4,5] rfl, ?_⟩
  refine E3 ?_
  (obtain ⟨hng, hup⟩ := d6o (p := (ps.getD i default)) (.inl (by assumption)); have hul := b9m (ps.getD i default); rw [hup] at hul)
  refine J8 (β := Nat × Int) [(.t 4, _), (.t 5, _), (.t 6, _), (.t 7, _), (.t 8, _), (.h 4, _), (.h 5, _)] (fun (z : Nat × Int) => match z with | (k, a) => [(.t 10, iV k), (.t 9, iV a)]) (fun (z : Nat × Int) => match z with | (k, a) => k ≤ (unS (ps.getD i default)).length ∧ 0 ≤ a ∧ V2 0 ((unS (ps.getD i default)).take k) = some a.toNat) (fun (z : Nat × Int) => match z with | (k, a) => (unS (ps.getD i default)).length - k) (0, 0) ⟨rfl, rfl, rfl, rfl, rfl, rfl, rfl, rfl, rfl, trivial⟩ ⟨Nat.zero_le _, by decide, rfl⟩ ?_
  intro z hb
  obtain ⟨k, a⟩ := z
  try dsimp only at hb
  obtain ⟨hk1, ha0, hdg⟩ := hb
  have hab := b2l (by decide) hdg
  rw [hup] at hk1 hdg
  refine A3 <| A3 <| A0 <| A6 rfl rfl <| A6 rfl rfl <| a1o rfl rfl <| K8 rfl rfl ?_
  refine A5 ⟨nofun, _, kS [4,5,6,7,8,9,10,37] [4,5] rfl, ?_⟩
  refine A8 rfl (fun hc => ?_) (fun hc => ?_)
  ·try simp only [SG, List.length_map] at hc
   refine B9 <| A3 <| E3 <| A3 <| A3 <| A0 <| A6 rfl rfl <| A6 rfl rfl <| O8 rfl rfl rfl (by omega) <| K8 rfl rfl <| A6 rfl rfl ?_
   refine D7 rfl rfl (fun hg0 => ?_) (fun hg0 => ?_)
   ·have hg := hg0; try simp only [SG] at hg
    refine A6 rfl rfl <| gT rfl rfl <| A6 rfl rfl <| gT rfl rfl <| O8 rfl rfl rfl (by omega) <| gT rfl rfl <| W6 rfl rfl <| F7 rfl (by assumption) rfl rfl <| A6 rfl rfl ?_
    refine D7 rfl rfl (fun hg0 => ?_) (fun hg0 => ?_)
    ·have hg := hg0; try simp only [SG] at hg
     refine A6 rfl rfl <| gT rfl rfl <| W6 rfl rfl <| F7 rfl (by assumption) rfl rfl ?_
     refine A5 ⟨nofun, _, kS [4,5,6,7,8,9,10,53] [4,5] rfl, ?_⟩
     refine A8 rfl (fun hc => ?_) (fun hc => ?_)
     ·try simp only [SG, List.length_map] at hc
      refine A3 <| A0 ?_
      (refine C3 rfl rfl (fun _ => rfl) ?_; intro g2)
      refine A4 rfl rfl rfl ?_
      refine A5 ⟨nofun, _, kS [2,3] [2] rfl, ?_⟩
      refine B3 <| D6 (H4 rfl rfl (by simp) (by rfl) (E5 rfl rfl (E8 C8))) ?_
      rw [rdL, ← hps, L2 (show i < ps.length by omega) (W5 (by rw [hup]; exact S4 (by omega) hdg (by omega)))]
      rfl
     try simp only [SG, List.length_map] at hc
     refine B9 <| A0 <| A6 rfl rfl <| b0t rfl rfl (F8 (by omega)) <| A6 rfl rfl <| A6 rfl rfl <| O8 rfl rfl rfl (by omega) <| a1f rfl rfl (d7n (by omega)) <| a9g rfl rfl rfl (F8 (by omega)) <| I3 rfl rfl (F8 (by omega)) <| A4 rfl rfl rfl ?_
     refine A5 ⟨nofun, _, kS [4,5,6,7,8,9,10] [4,5] rfl, ?_⟩
     refine A0 <| A6 rfl rfl <| I3 rfl rfl (F8 (by omega)) <| A4 rfl rfl rfl ?_
     refine A5 ⟨nofun, _, kS [4,5,6,7,8,9,10] [4,5] rfl, ?_⟩
     refine ⟨(k + 1, _), ?_, (by simp only [hup]; omega), ⟨rfl, rfl, rfl, rfl, rfl, rfl, rfl, rfl, rfl, trivial⟩⟩
     rw [hup]
     have hds := a9a (by omega) hdg (by omega)
     exact ⟨by omega, by omega, hds.trans (congrArg some (by omega))⟩
    have hg := hg0; try simp only [SG] at hg
    refine gF rfl rfl <| F9 rfl (by assumption) rfl rfl ?_
    refine A5 ⟨nofun, _, kS [4,5,6,7,8,9,10,53] [4,5] rfl, ?_⟩
    refine A8 rfl (fun hc => ?_) (fun hc => absurd hc (by decide))
    refine A3 <| A0 ?_
    (refine C3 rfl rfl (fun _ => rfl) ?_; intro g2)
    refine A4 rfl rfl rfl ?_
    refine A5 ⟨nofun, _, kS [2,3] [2] rfl, ?_⟩
    refine B3 <| D6 (H4 rfl rfl (by simp) (by rfl) (E5 rfl rfl (E8 C8))) ?_
    rw [rdL, ← hps, L2 (show i < ps.length by omega) (W5 (by rw [hup]; exact S4 (by omega) hdg (by omega)))]
    rfl
   have hg := hg0; try simp only [SG] at hg
   refine gF rfl rfl <| gF rfl rfl <| gF rfl rfl <| F9 rfl (by assumption) rfl rfl <| A6 rfl rfl <| G4 rfl rfl rfl <| G4 rfl rfl rfl <| F9 rfl rfl rfl rfl ?_
   refine A5 ⟨nofun, _, kS [4,5,6,7,8,9,10,53] [4,5] rfl, ?_⟩
   refine A8 rfl (fun hc => ?_) (fun hc => absurd hc (by decide))
   refine A3 <| A0 ?_
   (refine C3 rfl rfl (fun _ => rfl) ?_; intro g2)
   refine A4 rfl rfl rfl ?_
   refine A5 ⟨nofun, _, kS [2,3] [2] rfl, ?_⟩
   refine B3 <| D6 (H4 rfl rfl (by simp) (by rfl) (E5 rfl rfl (E8 C8))) ?_
   rw [rdL, ← hps, L2 (show i < ps.length by omega) (W5 (by rw [hup]; exact S4 (by omega) hdg (by omega)))]
   rfl
  try simp only [SG, List.length_map] at hc
  have hdU : V2 0 (unS (ps.getD i default)) = some a.toNat := by rw [hup]; rw [List.take_of_length_le (by omega)] at hdg; exact hdg
  refine I5 <| A3 <| A3 <| A0 <| A6 rfl rfl ?_
  refine A5 ⟨nofun, _, kS [4,5,6,7,9,62] [4,5] rfl, ?_⟩
  refine A8 rfl (fun hc => absurd hc (by decide)) (fun hc => ?_)
  refine B9 <| A3 <| A3 <| A0 <| A6 rfl rfl <| U6 rfl rfl <| A6 rfl rfl ?_
  refine D7 rfl rfl (fun hg0 => ?_) (fun hg0 => ?_)
  ·have hg := hg0; try simp only [SG] at hg
   refine A6 rfl rfl <| gT rfl rfl ?_
   have hdl1 := U2 (m := -a) (by omega)
   have hdl2 := U2 (m := a) (by omega)
   apply C7 rfl
   ·apply B0
    ·exact B4 rfl
    exact C6
   ·exact a3z a (by omega)
   ·exact ⟨rfl, rfl, rfl, of_decide_eq_true rfl, rfl⟩
   ·exact .inl rfl
   ·exact B2
   ·exact C1 rfl
   ·exact fun _ => rfl
   intro g69
   refine gT rfl rfl <| A6 rfl rfl <| gT rfl rfl <| A6 rfl rfl <| gT rfl rfl <| J3 rfl rfl rfl rfl (by omega) (by (simp; done)) rfl <| gT rfl rfl <| K6 rfl rfl (by omega) (fun _ => rfl) (fun _ => rfl) rfl <| gT rfl rfl <| b0k rfl rfl <| F7 rfl (by assumption) rfl rfl ?_
   refine A5 ⟨fun _ => ⟨by (simp only [a1w, List.nil_append, List.append_nil, List.map_cons, List.map_nil, List.cons_append]; decide +kernel), by decide +kernel⟩, [(.t 4, _), (.t 5, _), (.t 6, _), (.t 9, _), (.t 75, _), (.h 4, _), (.h 5, _)], ⟨rfl, rfl, rfl, rfl, rfl, rfl, rfl, rfl, rfl, rfl, rfl, rfl, rfl, rfl, trivial⟩, ?_⟩
   refine A8 rfl (fun hc => ?_) (fun hc => ?_)
   ·try simp only [SG, List.length_map] at hc
    refine A3 <| A0 ?_
    (refine C3 rfl rfl (fun _ => rfl) ?_; intro g2)
    refine A4 rfl rfl rfl ?_
    refine A5 ⟨nofun, _, kS [2,3] [2] rfl, ?_⟩
    refine B3 <| D6 (H4 rfl rfl (by simp) (by rfl) (E5 rfl rfl (E8 C8))) ?_
    have hno : rdI (ps.getD i default) = none := by exact a9m (m := a) hdU (by (rw [hng, if_neg (by decide)]; omega)) (by exact .inl (by rw [hup]; assumption))
    rw [rdL, ← hps, L2 (show i < ps.length by omega) hno]
    rfl
   try simp only [SG, List.length_map] at hc
   have hri := c5e (m := a) hdU (by (rw [hng, if_neg (by decide)]; omega)) (by rw [hup]; assumption) (by assumption)
   refine B9 <| A0 <| A6 rfl rfl <| A6 rfl rfl <| D3 (es := List.map iV [_]) rfl rfl (of_decide_eq_true rfl) rfl rfl (fun _ => B1 (A9 fun _ => rfl)) (fun _ => rfl) ?_
   intro g78
   refine H0 rfl rfl rfl rfl (by (simp; done)) (by simp) (by decide) rfl rfl rfl rfl (of_decide_eq_true rfl) (fun _ => ⟨rfl, rfl⟩) (by simp only [G7]; (simp only [List.length_nil, List.length_cons, List.length_append, Nat.zero_add, List.length_map]; omega)) (fun _ => rfl) ?_
   intro g79
   (refine B6 rfl rfl (by (simp; done)) rfl (fun _ => (B1 (by exact A9 fun _ => rfl))) (fun _ => rfl) ?_; intro g4)
   refine A5 ⟨nofun, _, kS [4,5,6] [4,5] rfl, ?_⟩
   refine A0 <| A6 rfl rfl <| I3 rfl rfl (F8 (by omega)) <| A4 rfl rfl rfl ?_
   refine A5 ⟨nofun, _, kS [4,5,6] [4,5] rfl, ?_⟩
   refine ⟨(i + 1, ns ++ [a], _), ?_, (by simp only; omega), ⟨rfl, rfl, rfl, rfl, rfl, trivial⟩⟩
   exact ⟨by omega, a9s (by omega) hrd hri⟩
  have hg := hg0; try simp only [SG] at hg
  refine gF rfl rfl <| gF rfl rfl <| gF rfl rfl <| gF rfl rfl <| gF rfl rfl <| gF rfl rfl <| F9 rfl (by assumption) rfl rfl ?_
  refine A5 ⟨fun _ => ⟨by decide +kernel, by decide +kernel⟩, [(.t 4, _), (.t 5, _), (.t 6, _), (.t 9, _), (.t 75, _), (.h 4, _), (.h 5, _)], ⟨rfl, rfl, rfl, rfl, rfl, rfl, rfl, rfl, rfl, rfl, rfl, rfl, rfl, rfl, trivial⟩, ?_⟩
  refine A8 rfl (fun hc => ?_) (fun hc => absurd hc (by decide))
  refine A3 <| A0 ?_
  (refine C3 rfl rfl (fun _ => rfl) ?_; intro g2)
  refine A4 rfl rfl rfl ?_
  refine A5 ⟨nofun, _, kS [2,3] [2] rfl, ?_⟩
  refine B3 <| D6 (H4 rfl rfl (by simp) (by rfl) (E5 rfl rfl (E8 C8))) ?_
  have hno : rdI (ps.getD i default) = none := by exact a9m (m := a) hdU (by (rw [hng, if_neg (by decide)]; omega)) (by exact .inl (by rw [hup]; assumption))
  rw [rdL, ← hps, L2 (show i < ps.length by omega) hno]
  rfl
 try simp only [SG, List.length_map] at hc
 refine I5 <| A3 <| A0 <| A6 rfl rfl ?_
 (refine B6 rfl rfl (by (simp; done)) rfl (fun _ => (B1 (by exact A9 fun _ => rfl))) (fun _ => rfl) ?_; intro g2)
 refine A4 rfl rfl rfl ?_
 refine A5 ⟨nofun, _, kS [2,3] [2] rfl, ?_⟩
 refine B3 <| D6 (H4 rfl rfl (by simp) (by exact A9 fun _ => rfl) (E5 rfl rfl (E8 C8))) ?_
 have hil : i = ps.length := by omega
 rw [hil, List.take_length] at hrd
 rw [rdL, ← hps, hrd]
 rfl

theorem keep_s_readNums : G3 Tryz.f66 = [0, 2, 3, 4, 22, 24, 5, 6] := by kernel_rfl
set_option maxHeartbeats 20000000 in
theorem c6j (s : List UInt8) (hs : s.length ≤ 1048576) : CW (cxT oG) 66 [tV s] = some (.tup [.own 1 ((c3l s).map iV), bV (numsOf s).isSome], []) := by
 refine G5 rfl Tryz.func66 rfl ⟨by kernel_rfl, rfl, of_decide_eq_true rfl, of_decide_eq_true rfl, by decide⟩ keep_s_readNums <| A3 <| A0 ?_
 (refine C3 rfl rfl (fun _ => rfl) ?_; intro g2)
 refine A4 rfl rfl rfl ?_
 refine A5 ⟨nofun, _, kS [0] [] rfl, ?_⟩
 refine A3 <| A0 <| A6 rfl rfl <| a1o rfl rfl <| A4 rfl rfl rfl ?_
 refine A5 ⟨nofun, _, kS [0,4] [] rfl, ?_⟩
 refine A3 <| A3 <| A0 <| A6 rfl rfl <| K8 rfl rfl <| A6 rfl rfl ?_
 refine D7 rfl rfl (fun hg0 => ?_) (fun hg0 => ?_)
 ·have hg := hg0; try simp only [SG] at hg
  refine A6 rfl rfl <| gT rfl rfl <| O8 (n := 0) rfl rfl rfl (by omega) <| gT rfl rfl <| c8f rfl rfl <| F7 rfl (by assumption) rfl rfl <| A6 rfl rfl ?_
  refine D7 rfl rfl (fun hg0 => ?_) (fun hg0 => ?_)
  ·have hg := hg0; try simp only [SG] at hg
   refine A6 rfl rfl <| gT rfl rfl <| A6 rfl rfl <| gT rfl rfl <| a1f rfl rfl (F8 (by omega)) <| gT rfl rfl ?_
   rw [show ((s.length : Int) - 1) = ((s.length - 1 : Nat) : Int) by omega]
   refine O8 rfl rfl rfl (by omega) <| gT rfl rfl <| c8f rfl rfl <| F7 rfl (by assumption) rfl rfl ?_
   refine A5 ⟨nofun, _, kS [0,4,22] [] rfl, ?_⟩
   refine A8 rfl (fun hc => ?_) (fun hc => ?_)
   ·try simp only [SG, List.length_map] at hc
    refine A3 <| A0 ?_
    (refine C3 rfl rfl (fun _ => rfl) ?_; intro g2)
    refine A4 rfl rfl rfl ?_
    refine A5 ⟨nofun, _, kS [2,3] [2] rfl, ?_⟩
    refine B3 <| D6 (H4 rfl rfl (by simp) (by rfl) (E5 rfl rfl (E8 C8))) ?_
    obtain ⟨hn1, hn2⟩ := a5x (s := s) (by exact .inr (.inr (by omega)))
    rw [hn1, hn2]
    rfl
   try simp only [SG, List.length_map] at hc
   have hin := c9q (s := s) (by omega) (by omega) (by omega)
   refine B9 <| A3 <| A3 <| A0 <| A6 rfl rfl <| P7 rfl rfl ?_
   refine A5 ⟨nofun, _, kS [0,4,24] [] rfl, ?_⟩
   refine A8 rfl (fun hc => ?_) (fun hc => ?_)
   ·try simp only [SG, List.length_map] at hc
    refine A3 <| A0 <| D3 (es := List.map iV []) rfl rfl (of_decide_eq_true rfl) rfl rfl (fun _ => B1 (A9 fun _ => rfl)) (fun _ => rfl) ?_
    intro g25
    (refine B6 rfl rfl (by (simp; done)) rfl (fun _ => (B1 (by exact A9 fun _ => rfl))) (fun _ => rfl) ?_; intro g2)
    refine A4 rfl rfl rfl ?_
    refine A5 ⟨nofun, _, kS [2,3] [2] rfl, ?_⟩
    refine B3 <| D6 (H4 rfl rfl (by simp) (by rfl) (E5 rfl rfl (E8 C8))) ?_
    obtain ⟨hn1, hn2⟩ := hin.1 (by omega)
    rw [hn1, hn2]
    rfl
   try simp only [SG, List.length_map] at hc
   refine B9 <| A3 <| A0 <| A6 rfl rfl <| A6 rfl rfl <| a1f rfl rfl (F8 (by omega)) ?_
   rw [show ((s.length : Int) - 1) = ((s.length - 1 : Nat) : Int) by omega]
   have hrl := d5i ((s.drop 1).take (s.length - 1 - 1))
   have hin2 : ((s.drop 1).take (s.length - 1 - 1)).length ≤ s.length - 2 := by simp only [List.length_take, List.length_drop]; omega
   refine T6 rfl rfl (H8 rfl) (H8 (n := 1) rfl) (by omega) ?_
   apply C7 rfl
   ·apply B0
    ·exact B4 rfl
    exact C6
   ·exact c4w ((s.drop 1).take (s.length - 1 - 1)) (by omega)
   ·exact ⟨rfl, rfl, rfl, of_decide_eq_true rfl, rfl⟩
   ·exact .inr ⟨a3a _ _, rfl⟩
   ·exact B2
   ·exact K5 (T4 fun _ => K2 rfl T3)
   ·exact fun _ => rfl
   intro g31
   simp only [List.length_map]
   refine A6 rfl rfl <| B5 rfl rfl rfl <| B5 rfl rfl rfl ?_
   (refine B6 rfl rfl (by (simp; done)) rfl (fun _ => (B1 (by exact A9 fun _ => rfl))) (fun _ => rfl) ?_; intro g5)
   refine A4 rfl rfl rfl ?_
   refine A5 ⟨nofun, _, kS [5,6] [5] rfl, ?_⟩
   refine A3 <| A0 <| A6 rfl rfl <| A6 rfl rfl <| A6 rfl rfl ?_
   refine D7 rfl rfl (fun hg0 => ?_) (fun hg0 => ?_)
   ·have hg := hg0; try simp only [SG] at hg
    refine A6 rfl rfl <| gT rfl rfl ?_
    apply C7 rfl
    ·apply B0
     ·exact Q6 rfl rfl rfl (by (simp; done)) (fun _ => rfl)
     exact C6
    ·exact c3y ((rdL ((s.drop 1).take (s.length - 1 - 1))).getD []) (by omega)
    ·exact ⟨rfl, rfl, rfl, of_decide_eq_true rfl, rfl⟩
    ·exact .inr ⟨rfl, rfl⟩
    ·exact B2
    ·exact C1 rfl
    ·exact fun _ => rfl
    intro g38
    refine F9 rfl (by assumption) rfl rfl ?_
    (refine B6 rfl rfl (by (simp; done)) rfl (fun _ => (B1 (by exact A9 fun _ => rfl))) (fun _ => rfl) ?_; intro g2)
    refine A4 rfl rfl rfl ?_
    refine A5 ⟨nofun, _, kS [2,3] [2] rfl, ?_⟩
    refine B3 <| D6 (H4 rfl rfl (by simp) (by exact A9 fun _ => rfl) (E5 rfl rfl (E8 C8))) ?_
    obtain ⟨hn1, hn2⟩ := hin.2 (by omega)
    rw [hn2, b3q hn1]
    simp_all
    try rfl
   have hg := hg0; try simp only [SG] at hg
   refine gF rfl rfl <| F7 rfl (by assumption) rfl rfl ?_
   (refine B6 rfl rfl (by (simp; done)) rfl (fun _ => (B1 (by exact A9 fun _ => rfl))) (fun _ => rfl) ?_; intro g2)
   refine A4 rfl rfl rfl ?_
   refine A5 ⟨nofun, _, kS [2,3] [2] rfl, ?_⟩
   refine B3 <| D6 (H4 rfl rfl (by simp) (by exact A9 fun _ => rfl) (E5 rfl rfl (E8 C8))) ?_
   obtain ⟨hn1, hn2⟩ := hin.2 (by omega)
   rw [hn2, b3q hn1]
   simp_all
   try rfl
  have hg := hg0; try simp only [SG] at hg
  refine gF rfl rfl <| gF rfl rfl <| gF rfl rfl <| gF rfl rfl <| F9 rfl (by assumption) rfl rfl ?_
  refine A5 ⟨nofun, _, kS [0,4,22] [] rfl, ?_⟩
  refine A8 rfl (fun hc => ?_) (fun hc => absurd hc (by decide))
  refine A3 <| A0 ?_
  (refine C3 rfl rfl (fun _ => rfl) ?_; intro g2)
  refine A4 rfl rfl rfl ?_
  refine A5 ⟨nofun, _, kS [2,3] [2] rfl, ?_⟩
  refine B3 <| D6 (H4 rfl rfl (by simp) (by rfl) (E5 rfl rfl (E8 C8))) ?_
  obtain ⟨hn1, hn2⟩ := a5x (s := s) (by exact .inr (.inl (by omega)))
  rw [hn1, hn2]
  rfl
 have hg := hg0; try simp only [SG] at hg
 refine gF rfl rfl <| gF rfl rfl <| F9 rfl (by assumption) rfl rfl <| A6 rfl rfl <| G4 rfl rfl rfl <| G4 rfl rfl rfl <| G4 rfl rfl rfl <| G4 rfl rfl rfl <| G4 rfl rfl rfl <| F9 rfl rfl rfl rfl ?_
 refine A5 ⟨nofun, _, kS [0,4,22] [] rfl, ?_⟩
 refine A8 rfl (fun hc => ?_) (fun hc => absurd hc (by decide))
 refine A3 <| A0 ?_
 (refine C3 rfl rfl (fun _ => rfl) ?_; intro g2)
 refine A4 rfl rfl rfl ?_
 refine A5 ⟨nofun, _, kS [2,3] [2] rfl, ?_⟩
 refine B3 <| D6 (H4 rfl rfl (by simp) (by rfl) (E5 rfl rfl (E8 C8))) ?_
 obtain ⟨hn1, hn2⟩ := a5x (s := s) (by exact .inl (by omega))
 rw [hn1, hn2]
 rfl

theorem keep_s_readTree : G3 Tryz.f51 = [0, 2, 3, 4, 15, 6, 24, 5, 7, 34, 43, 9, 12, 53, 8, 10, 11, 48, 59] := by kernel_rfl
set_option maxHeartbeats 20000000 in
theorem b3k (ws : List W8) (hws : ws.length ≤ 1048600 ∧ ∀ w ∈ ws, w.length ≤ 1048576) : CW (cxT oG) 51 [.list (ws.map tV)] = some (rtR (rdT ws), []) := by
 obtain ⟨kk, hkk⟩ : ∃ kk : Nat, ws.length < kk := ⟨_, Nat.lt_succ_self _⟩
 revert ws
 induction kk with
 | zero => intro ws hws hkk; exact absurd hkk (Nat.not_lt_zero _)
 | succ kk ih =>
  intro ws hws hkk
  refine G5 rfl Tryz.func51 rfl ⟨by kernel_rfl, rfl, of_decide_eq_true rfl, of_decide_eq_true rfl, by decide⟩ keep_s_readTree <| A3 <| A0 <| H2 rfl (fun _ => B7 rfl) (fun _ => rfl) ?_
  intro g2
  (refine C3 rfl rfl (fun _ => rfl) ?_; intro g3)
  refine A4 rfl rfl rfl ?_
  refine A5 ⟨nofun, _, kS [0,2] [2] rfl, ?_⟩
  refine A3 <| A3 <| A0 <| A6 rfl rfl <| H5 rfl rfl <| P7 rfl rfl ?_
  refine A5 ⟨nofun, _, kS [0,2,15] [2] rfl, ?_⟩
  refine A8 rfl (fun hc => ?_) (fun hc => ?_)
  ·try simp only [SG, List.length_map] at hc
   have hw0 : ws = [] := List.length_eq_zero_iff.1 (by simpa using hc)
   subst hw0
   refine A3 <| A0 <| J4 (fs := [_, _, _]) rfl rfl rfl rfl rfl <| C0 rfl rfl rfl rfl ⟨by decide, rfl, of_decide_eq_true rfl, of_decide_eq_true rfl, rfl⟩ rfl (by exact B7 rfl) ?_
   (refine C3 rfl rfl (fun _ => rfl) ?_; intro g3)
   refine A4 rfl rfl rfl ?_
   refine A5 ⟨nofun, _, kS [2,3,4] [2,3] rfl, ?_⟩
   refine B3 <| D6 (F6 rfl rfl rfl rfl (E6 rfl (H3 rfl (H3 rfl H6))) (H4 rfl rfl (by simp) (by rfl) (E5 rfl rfl (E8 C8)))) ?_
   rfl
  try simp only [SG, List.length_map] at hc
  obtain ⟨w, ws1, rfl⟩ : ∃ w ws1, ws = w :: ws1 := List.exists_cons_of_ne_nil (fun e => by subst e; simp at hc)
  have hw := hws.2 w (by simp)
  refine B9 <| A3 <| A0 <| A6 rfl rfl <| H7 rfl rfl rfl (fun _ => rfl) (by (change 0 < _; omega)) <| G0 rfl rfl rfl ?_
  apply C7 rfl
  ·apply B0
   ·exact B4 rfl
   exact C6
  ·exact c6j w (by omega)
  ·exact ⟨rfl, rfl, rfl, of_decide_eq_true rfl, rfl⟩
  ·exact .inr ⟨a3a _ _, rfl⟩
  ·exact B2
  ·exact K5 (T4 fun _ => K2 rfl T3)
  ·exact fun _ => rfl
  intro g21
  simp only [List.length_map]
  refine A6 rfl rfl <| B5 rfl rfl rfl <| B5 rfl rfl rfl ?_
  (refine B6 rfl rfl (by (simp; done)) rfl (fun _ => (B1 (by exact A9 fun _ => rfl))) (fun _ => rfl) ?_; intro g5)
  refine A4 rfl rfl rfl ?_
  refine A5 ⟨nofun, _, kS [0,2,5,6] [2,5] rfl, ?_⟩
  refine A3 <| A3 <| A0 <| A6 rfl rfl ?_
  refine A5 ⟨nofun, _, kS [0,2,5,24] [2,5] rfl, ?_⟩
  refine A8 rfl (fun hc => ?_) (fun hc => ?_)
  ·try simp only [SG, List.length_map] at hc
   obtain ⟨ns, hns⟩ := Option.isSome_iff_exists.1 hc
   have hraw := d5u hns
   refine A3 <| A0 <| A6 rfl rfl <| J4 (fs := [_, _, _]) rfl rfl rfl rfl rfl <| A6 rfl rfl <| M4 rfl rfl rfl (Mv.sized_map fun _ => rfl) I0 (H8 (n := 1) rfl) (by simp) ?_
   rw [show ((List.map tV (w :: ws1)).drop 1).take ((List.map tV (w :: ws1)).length - 1) = ws1.map tV from by rw [List.map_cons, List.drop_succ_cons, List.drop_zero, List.take_of_length_le (by simp)]]
   refine L4 rfl rfl rfl rfl (O6 rfl (a2r (by decide) (O6 rfl X7))) (fun _ => rfl) ⟨by decide, rfl, of_decide_eq_true rfl, Nat.le_refl _⟩ (fun _ => rfl) (fun _ => rfl) (fun _ => (by rfl)) ?_
   intro z
   simp only [Q4, List.cons_append, List.nil_append]
   refine A4 rfl rfl rfl <| A4 rfl rfl rfl ?_
   refine A5 ⟨fun _ => ⟨by (simp only [a1w, List.nil_append, List.append_nil, List.map_cons, List.map_nil, List.cons_append]; decide +kernel), by decide +kernel⟩, [(.t 2, _), (.t 3, _), (.t 4, _), (.h 2, _), (.h 5, _)], ⟨rfl, rfl, rfl, rfl, rfl, rfl, rfl, rfl, rfl, rfl, trivial⟩, ?_⟩
   refine B3 <| D6 (F6 rfl rfl rfl rfl (E6 rfl (a3h rfl rfl (by simp) (fun _ => rfl) (H3 rfl H6))) (E5 rfl rfl (E5 rfl rfl (E8 C8)))) ?_
   rw [c1k hns, hraw]
   rfl
  try simp only [SG, List.length_map] at hc
  have hnn : numsOf w = none := by simpa using hc
  refine B9 <| A3 <| A0 <| A6 rfl rfl <| H7 rfl rfl rfl (fun _ => rfl) (by (change 0 < _; omega)) <| G0 rfl rfl rfl ?_
  apply C7 rfl
  ·apply B0
   ·exact B4 rfl
   exact C6
  ·exact d0c (bA w)
  ·exact ⟨rfl, rfl, rfl, of_decide_eq_true rfl, rfl⟩
  ·exact .inl rfl
  ·exact B2
  ·exact C1 rfl
  ·exact fun _ => rfl
  intro g32
  refine A4 rfl rfl rfl ?_
  refine A5 ⟨nofun, _, kS [0,2,7] [2] rfl, ?_⟩
  refine A3 <| A3 <| A0 <| A6 rfl rfl <| K8 rfl rfl ?_
  refine A5 ⟨nofun, _, kS [0,2,7,34] [2] rfl, ?_⟩
  refine A8 rfl (fun hc => ?_) (fun hc => ?_)
  ·try simp only [SG, List.length_map] at hc
   refine A3 <| A0 <| J4 (fs := [_, _, _]) rfl rfl rfl rfl rfl <| C0 rfl rfl rfl rfl ⟨by decide, rfl, of_decide_eq_true rfl, of_decide_eq_true rfl, rfl⟩ rfl (by exact B7 rfl) ?_
   (refine C3 rfl rfl (fun _ => rfl) ?_; intro g3)
   refine A4 rfl rfl rfl ?_
   refine A5 ⟨nofun, _, kS [2,3,4] [2,3] rfl, ?_⟩
   refine B3 <| D6 (F6 rfl rfl rfl rfl (E6 rfl (H3 rfl (H3 rfl H6))) (H4 rfl rfl (by simp) (by rfl) (E5 rfl rfl (E8 C8)))) ?_
   rw [c8d hnn (by omega)]
   rfl
  try simp only [SG, List.length_map] at hc
  refine B9 <| A3 <| A0 <| A6 rfl rfl <| H7 rfl rfl rfl (fun _ => rfl) (by (change 0 < _; omega)) <| G0 rfl rfl rfl <| J4 (fs := [_, _, _]) rfl rfl rfl rfl rfl <| H2 rfl (fun _ => B7 rfl) (fun _ => rfl) ?_
  intro g8
  refine C0 rfl rfl rfl rfl ⟨by decide, rfl, of_decide_eq_true rfl, of_decide_eq_true rfl, rfl⟩ rfl (by exact B7 rfl) ?_
  refine A5 ⟨nofun, _, kS [0,2,7,8] [2,8] rfl, ?_⟩
  refine A3 <| A0 ?_
  rcases b7q (w := bA w) (by omega) with hn | hn | hn
  ·rw [hn]
   refine A6 rfl rfl <| M4 rfl rfl rfl (Mv.sized_map fun _ => rfl) I0 (H8 (n := 1) rfl) (by simp) ?_
   rw [show ((List.map tV (w :: ws1)).drop 1).take ((List.map tV (w :: ws1)).length - 1) = ws1.map tV from by rw [List.map_cons, List.drop_succ_cons, List.drop_zero, List.take_of_length_le (by simp)]]
   refine A4 rfl rfl rfl ?_
   refine A5 ⟨nofun, _, kS [2,7,8,9] [2,8] rfl, ?_⟩
   refine A3 <| E3 <| M9 <| A3 <| A3 <| A0 <| A6 rfl rfl <| W6 rfl rfl ?_
   refine A5 ⟨nofun, _, kS [2,7,8,9,43] [2,8] rfl, ?_⟩
   refine A8 rfl (fun hc => absurd hc (by decide)) (fun hc => ?_)
   refine I5 <| A3 <| A0 <| F5 rfl rfl rfl rfl rfl <| A6 rfl rfl <| C0 rfl rfl rfl rfl ⟨by decide, rfl, of_decide_eq_true rfl, of_decide_eq_true rfl, rfl⟩ rfl (by exact B7 rfl) <| A4 rfl rfl rfl <| A4 rfl rfl rfl ?_
   refine A5 ⟨nofun, _, kS [2,3,4] [2] rfl, ?_⟩
   refine B3 <| D6 (F6 rfl rfl rfl rfl (E6 rfl (H3 rfl (H3 rfl H6))) (E5 rfl rfl (E5 rfl rfl (E8 C8)))) ?_
   rw [c6y hnn hn]
   rfl
  ·rw [hn]
   refine A6 rfl rfl <| M4 rfl rfl rfl (Mv.sized_map fun _ => rfl) I0 (H8 (n := 1) rfl) (by simp) ?_
   rw [show ((List.map tV (w :: ws1)).drop 1).take ((List.map tV (w :: ws1)).length - 1) = ws1.map tV from by rw [List.map_cons, List.drop_succ_cons, List.drop_zero, List.take_of_length_le (by simp)]]
   refine A4 rfl rfl rfl ?_
   refine A5 ⟨nofun, _, kS [2,7,8,9] [2,8] rfl, ?_⟩
   refine A3 <| E3 <| M9 <| A3 <| A3 <| A0 <| A6 rfl rfl <| W6 rfl rfl ?_
   refine A5 ⟨nofun, _, kS [2,7,8,9,43] [2,8] rfl, ?_⟩
   refine A8 rfl (fun hc => ?_) (fun hc => absurd hc (by decide))
   refine B9 <| A3 <| E3 <| A3 <| A0 <| A6 rfl rfl ?_
   rcases hr1 : rdT ws1 with _ | ⟨k1, r1⟩
   ·skip
    apply C7 rfl
    ·apply B0
     ·exact B4 rfl
     exact C6
    ·exact (by have hi := ih ws1 ⟨by simp only [List.length_cons] at hws; omega, fun x hx => hws.2 x (List.mem_cons_of_mem _ hx)⟩ (by simp only [List.length_cons] at hkk; omega); rw [hr1] at hi; exact hi)
    ·exact ⟨rfl, rfl, rfl, of_decide_eq_true rfl, rfl⟩
    ·exact .inl rfl
    ·exact B2
    ·exact K5 (K2 rfl (T4 fun _ => K2 rfl T3))
    ·exact fun _ => E4 (B1 rfl) (by rfl)
    intro g48
    refine A6 rfl rfl <| B5 rfl rfl rfl <| B5 rfl rfl rfl <| B5 rfl rfl rfl <| H2 rfl (fun _ => B7 rfl) (fun _ => rfl) ?_
    intro g10
    refine C0 rfl rfl rfl rfl ⟨by decide, rfl, of_decide_eq_true rfl, of_decide_eq_true rfl, rfl⟩ rfl (by exact B7 rfl) ?_
    (refine B6 rfl rfl (by (simp; done)) rfl (fun _ => (B1 (by rfl))) (fun _ => rfl) ?_; intro g11)
    refine A4 rfl rfl rfl ?_
    refine A5 ⟨nofun, _, kS [2,7,8,10,11,12] [2,8,10] rfl, ?_⟩
    refine A3 <| A3 <| A0 <| A6 rfl rfl <| M5 rfl ?_
    refine A5 ⟨nofun, _, kS [2,7,8,10,11,53] [2,8,10] rfl, ?_⟩
    refine A8 rfl (fun hc => ?_) (fun hc => absurd hc (by decide))
    refine A3 <| A0 <| J4 (fs := [_, _, _]) rfl rfl rfl rfl rfl <| C0 rfl rfl rfl rfl ⟨by decide, rfl, of_decide_eq_true rfl, of_decide_eq_true rfl, rfl⟩ rfl (by exact B7 rfl) ?_
    (refine C3 rfl rfl (fun _ => rfl) ?_; intro g3)
    refine A4 rfl rfl rfl ?_
    refine A5 ⟨nofun, _, kS [2,3,4] [2,3] rfl, ?_⟩
    refine B3 <| D6 (F6 rfl rfl rfl rfl (E6 rfl (H3 rfl (H3 rfl H6))) (H4 rfl rfl (by simp) (by rfl) (E5 rfl rfl (E8 C8)))) ?_
    rw [b9h hnn hn, hr1]
    rfl
   skip
   apply C7 rfl
   ·apply B0
    ·exact B4 rfl
    exact C6
   ·exact (by have hi := ih ws1 ⟨by simp only [List.length_cons] at hws; omega, fun x hx => hws.2 x (List.mem_cons_of_mem _ hx)⟩ (by simp only [List.length_cons] at hkk; omega); rw [hr1] at hi; exact hi)
   ·exact ⟨rfl, rfl, rfl, of_decide_eq_true rfl, rfl⟩
   ·exact .inl rfl
   ·exact B2
   ·exact L9 rfl
   ·exact fun _ => rfl
   intro g48
   refine A6 rfl rfl <| B5 rfl rfl rfl <| B5 rfl rfl rfl <| B5 rfl rfl rfl <| H2 rfl (fun _ => B7 rfl) (fun _ => rfl) ?_
   intro g10
   refine C0 rfl rfl rfl rfl ⟨by decide, rfl, of_decide_eq_true rfl, of_decide_eq_true rfl, rfl⟩ rfl (by exact B7 rfl) <| A4 rfl rfl rfl <| A4 rfl rfl rfl ?_
   refine A5 ⟨nofun, _, kS [2,7,8,10,11,12] [2,8,10] rfl, ?_⟩
   refine A3 <| A3 <| A0 <| A6 rfl rfl <| M5 rfl ?_
   refine A5 ⟨nofun, _, kS [2,7,8,10,11,53] [2,8,10] rfl, ?_⟩
   refine A8 rfl (fun hc => absurd hc (by decide)) (fun hc => ?_)
   refine B9 <| A3 <| A0 <| C4 rfl rfl (of_decide_eq_true rfl) rfl rfl <| C5 rfl rfl rfl rfl rfl rfl <| F5 rfl rfl rfl rfl rfl <| a1q (es := List.map trV [_]) rfl rfl (of_decide_eq_true rfl) rfl rfl (fun _ => B1 (A9 fun _ => rfl)) (fun _ => rfl) ?_
   intro g58
   refine Y3 rfl rfl rfl (by simp) (by decide) rfl rfl rfl (of_decide_eq_true rfl) (fun _ => ⟨rfl, rfl⟩) (by simp only [G7]; (simp only [List.length_nil, List.length_cons, List.length_append, Nat.zero_add, List.length_map]; omega)) (fun _ => rfl) ?_
   intro g59
   refine C4 rfl rfl (of_decide_eq_true rfl) rfl rfl <| S2 rfl rfl rfl rfl rfl (Nat.le_refl _) rfl ?_
   refine A5 ⟨nofun, _, kS [2,7,8,11] [2,8,1000059] rfl, ?_⟩
   refine A0 <| A6 rfl rfl <| A4 rfl rfl rfl ?_
   refine A5 ⟨nofun, _, kS [2,7,8,9] [2,8,1000059] rfl, ?_⟩
   refine A0 <| A6 rfl rfl <| a1f rfl rfl (F8 (by omega)) <| A4 rfl rfl rfl ?_
   refine A5 ⟨nofun, _, kS [2,7,8,9] [2,8,1000059] rfl, ?_⟩
   refine M9 <| A3 <| A3 <| A0 <| A6 rfl rfl <| W6 rfl rfl ?_
   refine A5 ⟨nofun, _, kS [2,7,8,9,43] [2,8,1000059] rfl, ?_⟩
   refine A8 rfl (fun hc => absurd hc (by decide)) (fun hc => ?_)
   refine I5 <| A3 <| A0 <| F5 rfl rfl rfl rfl rfl <| A6 rfl rfl <| L4 rfl rfl rfl rfl (O6 rfl (O6 rfl (b1x (by decide) (by decide) rfl (by simp) fun _ => X7))) (fun _ => rfl) ⟨by decide, rfl, of_decide_eq_true rfl, Nat.le_refl _⟩ (fun _ => rfl) (fun _ => rfl) (fun _ => E4 (by rfl) (E4 (B1 (A9 fun _ => rfl)) (by rfl))) ?_
   intro z
   simp only [Q4, List.cons_append, List.nil_append]
   refine A4 rfl rfl rfl <| A4 rfl rfl rfl ?_
   refine A5 ⟨nofun, _, kS [2,3,4] [2,300002] rfl, ?_⟩
   refine B3 <| D6 (F6 rfl rfl rfl rfl (E6 rfl (H3 rfl (a3h rfl rfl (by simp) (fun _ => rfl) H6))) (E5 rfl rfl (E5 rfl rfl (E8 C8)))) ?_
   rw [b9h hnn hn, hr1]
   rfl
  rw [hn]
  refine A6 rfl rfl <| M4 rfl rfl rfl (Mv.sized_map fun _ => rfl) I0 (H8 (n := 1) rfl) (by simp) ?_
  rw [show ((List.map tV (w :: ws1)).drop 1).take ((List.map tV (w :: ws1)).length - 1) = ws1.map tV from by rw [List.map_cons, List.drop_succ_cons, List.drop_zero, List.take_of_length_le (by simp)]]
  refine A4 rfl rfl rfl ?_
  refine A5 ⟨nofun, _, kS [2,7,8,9] [2,8] rfl, ?_⟩
  refine A3 <| E3 <| M9 <| A3 <| A3 <| A0 <| A6 rfl rfl <| W6 rfl rfl ?_
  refine A5 ⟨nofun, _, kS [2,7,8,9,43] [2,8] rfl, ?_⟩
  refine A8 rfl (fun hc => ?_) (fun hc => absurd hc (by decide))
  refine B9 <| A3 <| E3 <| A3 <| A0 <| A6 rfl rfl ?_
  rcases hr1 : rdT ws1 with _ | ⟨k1, r1⟩
  ·skip
   apply C7 rfl
   ·apply B0
    ·exact B4 rfl
    exact C6
   ·exact (by have hi := ih ws1 ⟨by simp only [List.length_cons] at hws; omega, fun x hx => hws.2 x (List.mem_cons_of_mem _ hx)⟩ (by simp only [List.length_cons] at hkk; omega); rw [hr1] at hi; exact hi)
   ·exact ⟨rfl, rfl, rfl, of_decide_eq_true rfl, rfl⟩
   ·exact .inl rfl
   ·exact B2
   ·exact K5 (K2 rfl (T4 fun _ => K2 rfl T3))
   ·exact fun _ => E4 (B1 rfl) (by rfl)
   intro g48
   refine A6 rfl rfl <| B5 rfl rfl rfl <| B5 rfl rfl rfl <| B5 rfl rfl rfl <| H2 rfl (fun _ => B7 rfl) (fun _ => rfl) ?_
   intro g10
   refine C0 rfl rfl rfl rfl ⟨by decide, rfl, of_decide_eq_true rfl, of_decide_eq_true rfl, rfl⟩ rfl (by exact B7 rfl) ?_
   (refine B6 rfl rfl (by (simp; done)) rfl (fun _ => (B1 (by rfl))) (fun _ => rfl) ?_; intro g11)
   refine A4 rfl rfl rfl ?_
   refine A5 ⟨nofun, _, kS [2,7,8,10,11,12] [2,8,10] rfl, ?_⟩
   refine A3 <| A3 <| A0 <| A6 rfl rfl <| M5 rfl ?_
   refine A5 ⟨nofun, _, kS [2,7,8,10,11,53] [2,8,10] rfl, ?_⟩
   refine A8 rfl (fun hc => ?_) (fun hc => absurd hc (by decide))
   refine A3 <| A0 <| J4 (fs := [_, _, _]) rfl rfl rfl rfl rfl <| C0 rfl rfl rfl rfl ⟨by decide, rfl, of_decide_eq_true rfl, of_decide_eq_true rfl, rfl⟩ rfl (by exact B7 rfl) ?_
   (refine C3 rfl rfl (fun _ => rfl) ?_; intro g3)
   refine A4 rfl rfl rfl ?_
   refine A5 ⟨nofun, _, kS [2,3,4] [2,3] rfl, ?_⟩
   refine B3 <| D6 (F6 rfl rfl rfl rfl (E6 rfl (H3 rfl (H3 rfl H6))) (H4 rfl rfl (by simp) (by rfl) (E5 rfl rfl (E8 C8)))) ?_
   rw [a5p hnn hn, hr1]
   rfl
  skip
  apply C7 rfl
  ·apply B0
   ·exact B4 rfl
   exact C6
  ·exact (by have hi := ih ws1 ⟨by simp only [List.length_cons] at hws; omega, fun x hx => hws.2 x (List.mem_cons_of_mem _ hx)⟩ (by simp only [List.length_cons] at hkk; omega); rw [hr1] at hi; exact hi)
  ·exact ⟨rfl, rfl, rfl, of_decide_eq_true rfl, rfl⟩
  ·exact .inl rfl
  ·exact B2
  ·exact L9 rfl
  ·exact fun _ => rfl
  intro g48
  refine A6 rfl rfl <| B5 rfl rfl rfl <| B5 rfl rfl rfl <| B5 rfl rfl rfl <| H2 rfl (fun _ => B7 rfl) (fun _ => rfl) ?_
  intro g10
  refine C0 rfl rfl rfl rfl ⟨by decide, rfl, of_decide_eq_true rfl, of_decide_eq_true rfl, rfl⟩ rfl (by exact B7 rfl) <| A4 rfl rfl rfl <| A4 rfl rfl rfl ?_
  refine A5 ⟨nofun, _, kS [2,7,8,10,11,12] [2,8,10] rfl, ?_⟩
  refine A3 <| A3 <| A0 <| A6 rfl rfl <| M5 rfl ?_
  refine A5 ⟨nofun, _, kS [2,7,8,10,11,53] [2,8,10] rfl, ?_⟩
  refine A8 rfl (fun hc => absurd hc (by decide)) (fun hc => ?_)
  refine B9 <| A3 <| A0 <| C4 rfl rfl (of_decide_eq_true rfl) rfl rfl <| C5 rfl rfl rfl rfl rfl rfl <| F5 rfl rfl rfl rfl rfl <| a1q (es := List.map trV [_]) rfl rfl (of_decide_eq_true rfl) rfl rfl (fun _ => B1 (A9 fun _ => rfl)) (fun _ => rfl) ?_
  intro g58
  refine Y3 rfl rfl rfl (by simp) (by decide) rfl rfl rfl (of_decide_eq_true rfl) (fun _ => ⟨rfl, rfl⟩) (by simp only [G7]; (simp only [List.length_nil, List.length_cons, List.length_append, Nat.zero_add, List.length_map]; omega)) (fun _ => rfl) ?_
  intro g59
  refine C4 rfl rfl (of_decide_eq_true rfl) rfl rfl <| S2 rfl rfl rfl rfl rfl (Nat.le_refl _) rfl ?_
  refine A5 ⟨nofun, _, kS [2,7,8,11] [2,8,1000059] rfl, ?_⟩
  refine A0 <| A6 rfl rfl <| A4 rfl rfl rfl ?_
  refine A5 ⟨nofun, _, kS [2,7,8,9] [2,8,1000059] rfl, ?_⟩
  refine A0 <| A6 rfl rfl <| a1f rfl rfl (F8 (by omega)) <| A4 rfl rfl rfl ?_
  refine A5 ⟨nofun, _, kS [2,7,8,9] [2,8,1000059] rfl, ?_⟩
  refine M9 <| A3 <| A3 <| A0 <| A6 rfl rfl <| W6 rfl rfl ?_
  refine A5 ⟨nofun, _, kS [2,7,8,9,43] [2,8,1000059] rfl, ?_⟩
  refine A8 rfl (fun hc => ?_) (fun hc => absurd hc (by decide))
  refine B9 <| A3 <| E3 <| A3 <| A0 <| A6 rfl rfl ?_
  rcases hr2 : rdT r1 with _ | ⟨k2, r2⟩
  ·skip
   apply C7 rfl
   ·apply B0
    ·exact B4 rfl
    exact C6
   ·exact (by have hi := ih r1 ⟨by have := Z4 hr1; simp only [List.length_cons] at hws; omega, fun x hx => hws.2 x (List.mem_cons_of_mem _ (b2d hr1 x hx))⟩ (by have := Z4 hr1; simp only [List.length_cons] at hkk; omega); rw [hr2] at hi; exact hi)
   ·exact ⟨rfl, rfl, rfl, of_decide_eq_true rfl, rfl⟩
   ·exact .inl rfl
   ·exact B2
   ·exact K5 (K2 rfl (T4 fun _ => K2 rfl T3))
   ·exact fun _ => E4 (B1 rfl) (by rfl)
   intro g48
   refine A6 rfl rfl <| B5 rfl rfl rfl <| B5 rfl rfl rfl <| B5 rfl rfl rfl <| H2 rfl (fun _ => B7 rfl) (fun _ => rfl) ?_
   intro g10
   refine C0 rfl rfl rfl rfl ⟨by decide, rfl, of_decide_eq_true rfl, of_decide_eq_true rfl, rfl⟩ rfl (by exact B7 rfl) ?_
   (refine B6 rfl rfl (by (simp; done)) rfl (fun _ => (B1 (by rfl))) (fun _ => rfl) ?_; intro g11)
   refine A4 rfl rfl rfl ?_
   refine A5 ⟨nofun, _, kS [2,7,8,10,11,12] [2,8,1000059,10] rfl, ?_⟩
   refine A3 <| A3 <| A0 <| A6 rfl rfl <| M5 rfl ?_
   refine A5 ⟨nofun, _, kS [2,7,8,10,11,53] [2,8,1000059,10] rfl, ?_⟩
   refine A8 rfl (fun hc => ?_) (fun hc => absurd hc (by decide))
   refine A3 <| A0 <| J4 (fs := [_, _, _]) rfl rfl rfl rfl rfl <| C0 rfl rfl rfl rfl ⟨by decide, rfl, of_decide_eq_true rfl, of_decide_eq_true rfl, rfl⟩ rfl (by exact B7 rfl) ?_
   (refine C3 rfl rfl (fun _ => rfl) ?_; intro g3)
   refine A4 rfl rfl rfl ?_
   refine A5 ⟨nofun, _, kS [2,3,4] [2,3] rfl, ?_⟩
   refine B3 <| D6 (F6 rfl rfl rfl rfl (E6 rfl (H3 rfl (H3 rfl H6))) (H4 rfl rfl (by simp) (by rfl) (E5 rfl rfl (E8 C8)))) ?_
   rw [a5p hnn hn, hr1, Option.bind_some, hr2]
   rfl
  skip
  apply C7 rfl
  ·apply B0
   ·exact B4 rfl
   exact C6
  ·exact (by have hi := ih r1 ⟨by have := Z4 hr1; simp only [List.length_cons] at hws; omega, fun x hx => hws.2 x (List.mem_cons_of_mem _ (b2d hr1 x hx))⟩ (by have := Z4 hr1; simp only [List.length_cons] at hkk; omega); rw [hr2] at hi; exact hi)
  ·exact ⟨rfl, rfl, rfl, of_decide_eq_true rfl, rfl⟩
  ·exact .inl rfl
  ·exact B2
  ·exact L9 rfl
  ·exact fun _ => rfl
  intro g48
  refine A6 rfl rfl <| B5 rfl rfl rfl <| B5 rfl rfl rfl <| B5 rfl rfl rfl <| H2 rfl (fun _ => B7 rfl) (fun _ => rfl) ?_
  intro g10
  refine C0 rfl rfl rfl rfl ⟨by decide, rfl, of_decide_eq_true rfl, of_decide_eq_true rfl, rfl⟩ rfl (by exact B7 rfl) <| A4 rfl rfl rfl <| A4 rfl rfl rfl ?_
  refine A5 ⟨nofun, _, kS [2,7,8,10,11,12] [2,8,1000059,10] rfl, ?_⟩
  refine A3 <| A3 <| A0 <| A6 rfl rfl <| M5 rfl ?_
  refine A5 ⟨nofun, _, kS [2,7,8,10,11,53] [2,8,1000059,10] rfl, ?_⟩
  refine A8 rfl (fun hc => absurd hc (by decide)) (fun hc => ?_)
  refine B9 <| A3 <| A0 <| C4 rfl rfl (of_decide_eq_true rfl) rfl rfl <| C5 rfl rfl rfl rfl rfl rfl <| F5 rfl rfl rfl rfl rfl <| a1q (es := List.map trV [_]) rfl rfl (of_decide_eq_true rfl) rfl rfl (fun _ => B1 (A9 fun _ => rfl)) (fun _ => rfl) ?_
  intro g58
  refine H0 rfl rfl rfl rfl (by (simp; done)) (by simp) (by decide) rfl rfl rfl rfl (of_decide_eq_true rfl) (fun _ => ⟨rfl, rfl⟩) (by simp only [G7]; (simp only [List.length_nil, List.length_cons, List.length_append, Nat.zero_add, List.length_map]; omega)) (fun _ => rfl) ?_
  intro g59
  refine C4 rfl rfl (of_decide_eq_true rfl) rfl rfl <| S2 rfl rfl rfl rfl rfl (Nat.le_refl _) rfl ?_
  refine A5 ⟨nofun, _, kS [2,7,8,11] [2,8,1000059] rfl, ?_⟩
  refine A0 <| A6 rfl rfl <| A4 rfl rfl rfl ?_
  refine A5 ⟨nofun, _, kS [2,7,8,9] [2,8,1000059] rfl, ?_⟩
  refine A0 <| A6 rfl rfl <| a1f rfl rfl (F8 (by omega)) <| A4 rfl rfl rfl ?_
  refine A5 ⟨nofun, _, kS [2,7,8,9] [2,8,1000059] rfl, ?_⟩
  refine M9 <| A3 <| A3 <| A0 <| A6 rfl rfl <| W6 rfl rfl ?_
  refine A5 ⟨nofun, _, kS [2,7,8,9,43] [2,8,1000059] rfl, ?_⟩
  refine A8 rfl (fun hc => absurd hc (by decide)) (fun hc => ?_)
  refine I5 <| A3 <| A0 <| F5 rfl rfl rfl rfl rfl <| A6 rfl rfl <| L4 rfl rfl rfl rfl (O6 rfl (O6 rfl (b1x (by decide) (by decide) rfl (by simp) fun _ => X7))) (fun _ => rfl) ⟨by decide, rfl, of_decide_eq_true rfl, Nat.le_refl _⟩ (fun _ => rfl) (fun _ => rfl) (fun _ => E4 (by rfl) (E4 (B1 (A9 fun _ => rfl)) (by rfl))) ?_
  intro z
  simp only [Q4, List.cons_append, List.nil_append]
  refine A4 rfl rfl rfl <| A4 rfl rfl rfl ?_
  refine A5 ⟨nofun, _, kS [2,3,4] [2,300002] rfl, ?_⟩
  refine B3 <| D6 (F6 rfl rfl rfl rfl (E6 rfl (H3 rfl (a3h rfl rfl (by simp) (fun _ => rfl) H6))) (E5 rfl rfl (E5 rfl rfl (E8 C8)))) ?_
  rw [a5p hnn hn, hr1, Option.bind_some, hr2]
  rfl

theorem keep_s_readPlan : G3 Tryz.f28 = [0, 2, 3, 4, 17, 6, 7, 5, 21] := by kernel_rfl
set_option maxHeartbeats 20000000 in
theorem c5r (s : List UInt8) (hs : s.length ≤ 1048576) : CW (cxT oG) 28 [tV s] = some (.tup [trV (rpT s), bV (rdPlan s).isSome], []) := by
 obtain ⟨ws, hws⟩ : ∃ ws, ws = splitB 32 s := ⟨_, rfl⟩
 have hwl := U0 32 s
 have hwp := V0 32 s
 rw [← hws] at hwl hwp
 refine G5 rfl Tryz.func28 rfl ⟨by kernel_rfl, rfl, of_decide_eq_true rfl, of_decide_eq_true rfl, by decide⟩ keep_s_readPlan <| A3 <| A0 <| H2 rfl (fun _ => B7 rfl) (fun _ => rfl) ?_
 intro g2
 refine A4 rfl rfl rfl ?_
 refine A5 ⟨nofun, _, kS [0,2] [2] rfl, ?_⟩
 refine A3 <| A0 <| A6 rfl rfl ?_
 apply C7 rfl
 ·apply B0
  ·exact B4 rfl
  apply B0
  ·exact B4 rfl
  exact C6
 ·exact b7c s (by omega) 32
 ·exact ⟨rfl, rfl, rfl, of_decide_eq_true rfl, rfl⟩
 ·exact .inl rfl
 ·exact B2
 ·exact O7
 ·exact fun _ => rfl
 intro g9
 rw [← hws]
 try simp only [List.length_map]
 (refine B6 rfl rfl (by (simp; done)) rfl (fun _ => (B1 (by exact A9 fun _ => rfl))) (fun _ => rfl) ?_; intro g4)
 refine A5 ⟨nofun, _, kS [0,2,4] [2,4] rfl, ?_⟩
 refine A3 <| A3 <| A0 <| A6 rfl rfl <| a1o rfl rfl <| W6 rfl rfl <| A6 rfl rfl ?_
 refine D7 rfl rfl (fun hg0 => ?_) (fun hg0 => ?_)
 ·have hg := hg0; try simp only [SG] at hg
  refine A6 rfl rfl <| gT rfl rfl <| M3 rfl rfl <| gT rfl rfl <| W6 rfl rfl <| F7 rfl (by assumption) rfl rfl ?_
  refine A5 ⟨nofun, _, kS [2,4,17] [2,4] rfl, ?_⟩
  refine A8 rfl (fun hc => ?_) (fun hc => ?_)
  ·try simp only [SG, List.length_map] at hc
   refine A3 <| A0 <| J4 (fs := [_, _, _]) rfl rfl rfl rfl rfl <| C0 rfl rfl rfl rfl ⟨by decide, rfl, of_decide_eq_true rfl, of_decide_eq_true rfl, rfl⟩ rfl (by exact B7 rfl) <| A4 rfl rfl rfl ?_
   refine A5 ⟨nofun, _, kS [2,3] [2] rfl, ?_⟩
   refine B3 <| D6 (F6 rfl rfl rfl rfl (E6 rfl (H3 rfl (H3 rfl H6))) (E5 rfl rfl (E8 C8))) ?_
   obtain ⟨h1, h2⟩ := b2v (s := s) (by rw [hws] at *; omega)
   rw [h1, h2]
   rfl
  try simp only [SG, List.length_map] at hc
  have hin := d0f hws (by omega)
  refine B9 <| A3 <| A0 <| A6 rfl rfl ?_
  rcases hr : rdT ws with _ | ⟨t, r⟩
  ·skip
   apply C7 rfl
   ·apply B0
    ·exact I4 rfl rfl (by (simp; done)) (fun _ => rfl)
    exact C6
   ·exact (by have hi := b3k (oG := oG) ws ⟨by omega, fun w hw => by have := hwp w hw; omega⟩; rw [hr] at hi; exact hi)
   ·exact ⟨rfl, rfl, rfl, of_decide_eq_true rfl, rfl⟩
   ·exact .inl rfl
   ·exact B2
   ·exact K5 (K2 rfl (T4 fun _ => K2 rfl T3))
   ·exact fun _ => E4 (a0p (A9 fun _ => rfl) (by decide)) (by rfl)
   intro g21
   refine A6 rfl rfl <| B5 rfl rfl rfl <| B5 rfl rfl rfl <| B5 rfl rfl rfl <| H2 rfl (fun _ => B7 rfl) (fun _ => rfl) ?_
   intro g5
   refine C0 rfl rfl rfl rfl ⟨by decide, rfl, of_decide_eq_true rfl, of_decide_eq_true rfl, rfl⟩ rfl (by exact B7 rfl) ?_
   (refine B6 rfl rfl (by (simp; done)) rfl (fun _ => (B1 (by rfl))) (fun _ => rfl) ?_; intro g6)
   refine A4 rfl rfl rfl ?_
   refine A5 ⟨nofun, _, kS [2,5,6,7] [2,5] rfl, ?_⟩
   refine A3 <| A0 <| F5 rfl rfl rfl rfl rfl <| A6 rfl rfl <| A6 rfl rfl <| G4 rfl rfl rfl <| G4 rfl rfl rfl <| G4 rfl rfl rfl <| F7 rfl rfl rfl rfl <| C0 rfl rfl rfl rfl ⟨by decide, rfl, of_decide_eq_true rfl, of_decide_eq_true rfl, rfl⟩ rfl (by exact B7 rfl) <| A4 rfl rfl rfl ?_
   refine A5 ⟨nofun, _, kS [2,3] [2] rfl, ?_⟩
   refine B3 <| D6 (F6 rfl rfl rfl rfl (E6 rfl (E6 rfl (E6 rfl H6))) (E5 rfl rfl (E8 C8))) ?_
   obtain ⟨h1, h2⟩ := hin.1 hr
   rw [h1, h2]
   rfl
  skip
  apply C7 rfl
  ·apply B0
   ·exact I4 rfl rfl (by (simp; done)) (fun _ => rfl)
   exact C6
  ·exact (by have hi := b3k (oG := oG) ws ⟨by omega, fun w hw => by have := hwp w hw; omega⟩; rw [hr] at hi; exact hi)
  ·exact ⟨rfl, rfl, rfl, of_decide_eq_true rfl, rfl⟩
  ·exact .inl rfl
  ·exact B2
  ·exact L9 rfl
  ·exact fun _ => E4 (a0p (A9 fun _ => rfl) (by decide)) (by rfl)
  intro g21
  refine A6 rfl rfl <| B5 rfl rfl rfl <| B5 rfl rfl rfl <| B5 rfl rfl rfl <| H2 rfl (fun _ => B7 rfl) (fun _ => rfl) ?_
  intro g5
  refine C0 rfl rfl rfl rfl ⟨by decide, rfl, of_decide_eq_true rfl, of_decide_eq_true rfl, rfl⟩ rfl (by exact B7 rfl) <| A4 rfl rfl rfl <| A4 rfl rfl rfl ?_
  refine A5 ⟨nofun, _, kS [2,5,6,7] [2,5] rfl, ?_⟩
  refine A3 <| A0 <| F5 rfl rfl rfl rfl rfl <| A6 rfl rfl <| A6 rfl rfl <| L0 rfl rfl rfl <| A6 rfl rfl <| L0 rfl rfl rfl <| H5 rfl rfl <| L0 rfl rfl rfl <| P7 rfl rfl <| F9 rfl rfl rfl rfl <| C0 rfl rfl rfl rfl ⟨by decide, rfl, of_decide_eq_true rfl, of_decide_eq_true rfl, rfl⟩ rfl (by exact B7 rfl) <| A4 rfl rfl rfl ?_
  refine A5 ⟨nofun, _, kS [2,3] [2] rfl, ?_⟩
  refine B3 <| D6 (F6 rfl rfl rfl rfl (E6 rfl (E6 rfl (E6 rfl H6))) (E5 rfl rfl (E8 C8))) ?_
  obtain ⟨h1, h2⟩ := hin.2 t r hr
  rw [h1, h2]
  rfl
 have hg := hg0; try simp only [SG] at hg
 refine gF rfl rfl <| gF rfl rfl <| F9 rfl (by assumption) rfl rfl ?_
 refine A5 ⟨nofun, _, kS [2,4,17] [2,4] rfl, ?_⟩
 refine A8 rfl (fun hc => ?_) (fun hc => absurd hc (by decide))
 refine A3 <| A0 <| J4 (fs := [_, _, _]) rfl rfl rfl rfl rfl <| C0 rfl rfl rfl rfl ⟨by decide, rfl, of_decide_eq_true rfl, of_decide_eq_true rfl, rfl⟩ rfl (by exact B7 rfl) <| A4 rfl rfl rfl ?_
 refine A5 ⟨nofun, _, kS [2,3] [2] rfl, ?_⟩
 refine B3 <| D6 (F6 rfl rfl rfl rfl (E6 rfl (H3 rfl (H3 rfl H6))) (E5 rfl rfl (E8 C8))) ?_
 obtain ⟨h1, h2⟩ := b2v (s := s) (by rw [hws] at *; omega)
 rw [h1, h2]
 rfl

theorem keep_s_numbers : G3 Tryz.f65 = [0, 2, 8, 7, 9, 6, 5, 3] := by kernel_rfl
set_option maxHeartbeats 20000000 in
theorem c9w (ns : List Int) (hl : ns.length ≤ 1000000) (hnb : ∀ n ∈ ns, -1000000 ≤ n ∧ n ≤ 1000000) : CW (cxT oG) 65 [L ns] = some (tV (O5 ns), []) := by
 have hg := fun (i : Nat) (h : i < ns.length) => hnb _ (a1x h)
 have hll := a0q (ns := ns) hnb
 refine G5 rfl Tryz.func65 rfl ⟨by kernel_rfl, rfl, of_decide_eq_true rfl, of_decide_eq_true rfl, by decide⟩ keep_s_numbers <| A3 <| A0 <| A4 rfl rfl rfl ?_
 refine A5 ⟨nofun, _, kS [0] [] rfl, ?_⟩
 refine A3 <| A0 ?_
 (refine C3 rfl rfl (fun _ => rfl) ?_; intro g3)
 refine A5 ⟨nofun, _, kS [0,3] [3] rfl, ?_⟩
 refine A3 <| A3 <| A0 <| A6 rfl rfl <| H5 rfl rfl <| A6 rfl rfl ?_
 refine A5 ⟨nofun, _, kS [3,6,7,8] [3] rfl, ?_⟩
 refine E3 <| J8 (β := Nat × List (List UInt8) × Nat) [(.t 6, _), (.t 7, _)] (fun (z : Nat × List (List UInt8) × Nat) => match z with | (i, ps, g) => [(.t 8, iV i), (.t 3, .sl 3 g none 0 ps.length), (.h 3, .obj g 0 1 (ps.map tV))]) (fun (z : Nat × List (List UInt8) × Nat) => match z with | (i, ps, g) => i ≤ ns.length ∧ ps = (ns.take i).map dec) (fun (z : Nat × List (List UInt8) × Nat) => match z with | (i, ps, g) => ns.length - i) (0, [], _) ⟨rfl, rfl, rfl, rfl, rfl, trivial⟩ ⟨Nat.zero_le _, rfl⟩ ?_
 intro z hb
 obtain ⟨i, ps, g⟩ := z
 try dsimp only at hb
 obtain ⟨hi1, hps⟩ := hb
 have hpl : ps.length = i := by rw [hps]; simp; omega
 refine A3 <| A0 <| K8 rfl rfl ?_
 refine A5 ⟨nofun, _, kS [3,6,7,8,9] [3] rfl, ?_⟩
 refine A3 ?_
 refine A8 rfl (fun hc => ?_) (fun hc => ?_)
 ·try simp only [SG, List.length_map] at hc
  refine B9 <| A3 <| E3 <| A3 <| A0 <| H7 rfl rfl rfl (fun _ => rfl) (by omega) <| G0 rfl rfl rfl <| A4 rfl rfl rfl ?_
  refine A5 ⟨nofun, _, kS [3,5,6,7,8] [3] rfl, ?_⟩
  refine A0 <| A6 rfl rfl <| A6 rfl rfl ?_
  have hgi := hg i (by omega)
  apply C7 rfl
  ·apply B0
   ·exact B4 rfl
   exact C6
  ·exact d6w (ns.getD i default) (by omega)
  ·exact ⟨rfl, rfl, rfl, of_decide_eq_true rfl, rfl⟩
  ·exact .inl rfl
  ·exact B2
  ·exact C1 rfl
  ·exact fun _ => rfl
  intro g14
  refine D3 (es := List.map tV [_]) rfl rfl (of_decide_eq_true rfl) rfl rfl (fun _ => B1 (A9 fun _ => rfl)) (fun _ => rfl) ?_
  intro g15
  refine H0 rfl rfl rfl rfl (by (simp; done)) (by simp) (by decide) rfl rfl rfl rfl (of_decide_eq_true rfl) (fun _ => ⟨rfl, rfl⟩) (by simp only [G7]; (simp only [List.length_nil, List.length_cons, List.length_append, Nat.zero_add, List.length_map]; omega)) (fun _ => rfl) ?_
  intro g16
  (refine B6 rfl rfl (by (simp; done)) rfl (fun _ => (B1 (by exact A9 fun _ => rfl))) (fun _ => rfl) ?_; intro g3)
  refine A5 ⟨nofun, _, kS [3,6,7,8] [3] rfl, ?_⟩
  refine A0 <| I3 rfl rfl (F8 (by omega)) <| A6 rfl rfl ?_
  refine A5 ⟨nofun, _, kS [3,6,7,8] [3] rfl, ?_⟩
  refine ⟨(i + 1, ps ++ [dec (ns.getD i default)], _), ?_, (by simp only; omega), ⟨rfl, rfl, rfl, rfl, rfl, trivial⟩⟩
  exact ⟨by omega, by rw [hps, ← b5g (by omega)]⟩
 try simp only [SG, List.length_map] at hc
 refine I5 <| A3 <| A0 <| A6 rfl rfl ?_
 have hpe : ps = ns.map dec := by rw [hps, List.take_of_length_le (by omega)]
 have hje : joinB 44 ps = O5 ns := by rw [hpe]; rfl
 apply C7 rfl
 ·apply B0
  ·exact Q6 rfl rfl rfl (by (simp; done)) (fun _ => rfl)
  apply B0
  ·exact B4 rfl
  exact C6
 ·exact d2p ps 44 (by simp only [G7]; omega) (by rw [hje]; simp only [G7]; omega)
 ·exact ⟨rfl, rfl, rfl, of_decide_eq_true rfl, rfl⟩
 ·exact .inr ⟨rfl, rfl⟩
 ·exact B2
 ·exact C1 rfl
 ·exact fun _ => rfl
 intro g19
 refine A4 rfl rfl rfl ?_
 refine A5 ⟨nofun, _, kS [2] [] rfl, ?_⟩
 refine B3 <| D5 rfl rfl trivial ?_
 rw [hje]

theorem keep_s_listTextI : G3 Tryz.f49 = [0, 2] := by kernel_rfl
set_option maxHeartbeats 20000000 in
theorem b0x (ns : List Int) (hl : ns.length ≤ 1000000) (hnb : ∀ n ∈ ns, -1000000 ≤ n ∧ n ≤ 1000000) : CW (cxT oG) 49 [L ns] = some (tV (Q7 ns), []) := by
 have hll := a0q (ns := ns) hnb
 refine G5 rfl Tryz.func49 rfl ⟨by kernel_rfl, rfl, of_decide_eq_true rfl, of_decide_eq_true rfl, by decide⟩ keep_s_listTextI <| A3 <| A0 <| A4 rfl rfl rfl ?_
 refine A5 ⟨nofun, _, kS [0] [] rfl, ?_⟩
 refine A3 <| A0 <| A6 rfl rfl ?_
 apply C7 rfl
 ·apply B0
  ·exact B4 rfl
  exact C6
 ·exact c9w ns hl hnb
 ·exact ⟨rfl, rfl, rfl, of_decide_eq_true rfl, rfl⟩
 ·exact .inl rfl
 ·exact B2
 ·exact C1 rfl
 ·exact fun _ => rfl
 intro g4
 refine I7 rfl rfl (by simp only [G7, List.length_append, List.length_cons, List.length_nil]; omega) <| I7 rfl rfl (by simp only [G7, List.length_append, List.length_cons, List.length_nil]; omega) <| A4 rfl rfl rfl ?_
 refine A5 ⟨nofun, _, kS [2] [] rfl, ?_⟩
 refine B3 <| D5 rfl rfl trivial ?_
 rfl

theorem keep_s_readListI : G3 Tryz.f86 = [0, 2, 3, 4, 6, 5, 27, 29, 33, 32, 34, 31, 9, 11, 43, 10, 7] := by kernel_rfl
set_option maxHeartbeats 20000000 in
theorem c2k (w : List UInt8) (hs : w.length ≤ 1048576) : CW (cxT oG) 86 [tV w] = some (.tup [.own 1 ((rlX w).map iV), bV (okI w)], []) := by
 have hc1 := d1e 91 w
 have hc2 := d3q 93 (a3o 91 w)
 refine G5 rfl Tryz.func86 rfl ⟨by kernel_rfl, rfl, of_decide_eq_true rfl, of_decide_eq_true rfl, by decide⟩ keep_s_readListI <| A3 <| A0 ?_
 (refine C3 rfl rfl (fun _ => rfl) ?_; intro g2)
 refine A4 rfl rfl rfl ?_
 refine A5 ⟨nofun, _, kS [0] [] rfl, ?_⟩
 refine A3 <| A0 <| A6 rfl rfl ?_
 apply C7 rfl
 ·apply B0
  ·exact B4 rfl
  apply B0
  ·exact B4 rfl
  exact C6
 ·exact d7w w 91
 ·exact ⟨rfl, rfl, rfl, of_decide_eq_true rfl, rfl⟩
 ·exact .inl rfl
 ·exact B2
 ·exact L9 rfl
 ·exact fun _ => rfl
 intro g14
 refine A6 rfl rfl <| B5 rfl rfl rfl <| B5 rfl rfl rfl <| A4 rfl rfl rfl <| A4 rfl rfl rfl ?_
 refine A5 ⟨nofun, _, kS [0,4,5] [] rfl, ?_⟩
 refine A3 <| A0 <| A6 rfl rfl ?_
 apply C7 rfl
 ·apply B0
  ·exact B4 rfl
  apply B0
  ·exact B4 rfl
  exact C6
 ·exact d7p (a3o 91 w) 93 (by omega)
 ·exact ⟨rfl, rfl, rfl, of_decide_eq_true rfl, rfl⟩
 ·exact .inl rfl
 ·exact B2
 ·exact L9 rfl
 ·exact fun _ => rfl
 intro g19
 refine A6 rfl rfl <| B5 rfl rfl rfl <| B5 rfl rfl rfl <| A4 rfl rfl rfl <| A4 rfl rfl rfl ?_
 refine A5 ⟨nofun, _, kS [0,4,5,6] [] rfl, ?_⟩
 refine A3 <| A3 <| A0 <| A6 rfl rfl <| M5 rfl <| A6 rfl rfl ?_
 refine D7 rfl rfl (fun hg0 => ?_) (fun hg0 => ?_)
 ·have hg := hg0; try simp only [SG] at hg
  refine A6 rfl rfl <| gT rfl rfl <| M5 rfl <| F7 rfl (by assumption) rfl rfl ?_
  refine A5 ⟨nofun, _, kS [0,4,27] [] rfl, ?_⟩
  refine A8 rfl (fun hc => ?_) (fun hc => ?_)
  ·try simp only [SG, List.length_map] at hc
   refine A3 <| A0 ?_
   (refine C3 rfl rfl (fun _ => rfl) ?_; intro g2)
   refine A4 rfl rfl rfl ?_
   refine A5 ⟨nofun, _, kS [2,3] [2] rfl, ?_⟩
   refine B3 <| D6 (H4 rfl rfl (by simp) (by rfl) (E5 rfl rfl (E8 C8))) ?_
   obtain ⟨h1, h2⟩ := b7z (c3s (w := w) (by simp_all [okB]))
   rw [h1, h2]
   rfl
  try simp only [SG, List.length_map] at hc
  have hok : okB w = true := by simp [okB]; constructor <;> assumption
  obtain ⟨ps, hps0⟩ : ∃ ps, ps = splitB 44 (a3t w) := ⟨_, rfl⟩
  have hpl := U0 44 (a3t w)
  have hpp := V0 44 (a3t w)
  rw [← hps0] at hpl hpp
  have hil := d1g hok
  refine B9 <| A3 <| A0 ?_
  (refine C3 rfl rfl (fun _ => rfl) ?_; intro g7)
  refine A5 ⟨nofun, _, kS [0,4,7] [7] rfl, ?_⟩
  refine A3 <| A3 <| A0 <| A6 rfl rfl <| b0k rfl rfl ?_
  refine A5 ⟨nofun, _, kS [0,4,7,29] [7] rfl, ?_⟩
  refine A8 rfl (fun hc => ?_) (fun hc => ?_)
  ·try simp only [SG, List.length_map] at hc
   have hin : a3t w ≠ [] := hc
   refine A3 <| A0 <| A6 rfl rfl ?_
   have hps := hps0
   apply C7 rfl
   ·apply B0
    ·exact B4 rfl
    apply B0
    ·exact B4 rfl
    exact C6
   ·exact b8b (a3t w) 44 (by unfold a3t; omega)
   ·exact ⟨rfl, rfl, rfl, of_decide_eq_true rfl, rfl⟩
   ·exact .inl rfl
   ·exact B2
   ·exact O7
   ·(intro _; exact E4 (B1 (A9 fun _ => rfl)) rfl)
   intro g31
   rw [← hps]
   try simp only [List.length_map]
   refine M3 rfl rfl <| A6 rfl rfl ?_
   refine A5 ⟨nofun, _, kS [0,7,31,32,33] [7,1000031] rfl, ?_⟩
   refine E3 <| J8 (β := Nat × List Int × Nat) [(.t 0, _), (.t 31, _), (.t 32, _), (.h 1000031, _)] (fun (z : Nat × List Int × Nat) => match z with | (i, ns, g) => [(.t 33, iV i), (.t 7, .sl 7 g none 0 ns.length), (.h 7, .obj g 0 1 (ns.map iV))]) (fun (z : Nat × List Int × Nat) => match z with | (i, ns, g) => i ≤ ps.length ∧ rdA (ps.take i) = some ns) (fun (z : Nat × List Int × Nat) => match z with | (i, ns, g) => ps.length - i) (0, [], _) ⟨rfl, rfl, rfl, rfl, rfl, rfl, rfl, trivial⟩ ⟨Nat.zero_le _, rfl⟩ ?_
   intro z hb
   obtain ⟨i, ns, g⟩ := z
   try dsimp only at hb
   obtain ⟨hi1, hrd⟩ := hb
   have hpi := fun h : i < ps.length => hpp _ (S7 h)
   have hnl := b3z hrd
   rw [List.length_take] at hnl
   refine A3 <| A0 <| K8 rfl rfl ?_
   refine A5 ⟨nofun, _, kS [0,7,31,32,33,34] [7,1000031] rfl, ?_⟩
   refine A3 ?_
   refine A8 rfl (fun hc => ?_) (fun hc => ?_)
   ·try simp only [SG, List.length_map] at hc
    refine B9 <| A3 <| E3 <| A3 <| A0 <| J3 rfl rfl rfl rfl (by omega) (by (simp; done)) rfl <| K6 rfl rfl (by omega) (fun _ => rfl) (fun _ => rfl) rfl <| A4 rfl rfl rfl ?_
    refine A5 ⟨nofun, _, kS [0,7,9,31,32,33] [7,1000031] rfl, ?_⟩
    refine A3 <| A0 <| A6 rfl rfl ?_
    rcases hat : Lib.atoiAll (ps.getD i default) with v | _ | _
    ·skip
     apply C7 rfl
     ·apply B0
      ·exact B4 rfl
      exact C6
     ·exact (by have hi := c4i (oG := oG) (ps.getD i default) (by omega); unfold atR at hi; rw [hat] at hi; exact hi)
     ·exact ⟨rfl, rfl, rfl, of_decide_eq_true rfl, rfl⟩
     ·exact .inl rfl
     ·exact B2
     ·exact L9 rfl
     ·exact fun _ => rfl
     intro g39
     refine A6 rfl rfl <| B5 rfl rfl rfl <| B5 rfl rfl rfl <| A4 rfl rfl rfl <| A4 rfl rfl rfl ?_
     refine A5 ⟨nofun, _, kS [0,7,10,11,31,32,33] [7,1000031] rfl, ?_⟩
     refine A3 <| A3 <| A0 <| A6 rfl rfl <| d1f rfl rfl rfl rfl ?_
     refine A5 ⟨nofun, _, kS [0,7,10,31,32,33,43] [7,1000031] rfl, ?_⟩
     refine A8 rfl (fun hc => absurd hc (by decide)) (fun hc => ?_)
     refine B9 <| A0 <| A6 rfl rfl <| A6 rfl rfl <| D3 (es := List.map iV [_]) rfl rfl (of_decide_eq_true rfl) rfl rfl (fun _ => B1 (A9 fun _ => rfl)) (fun _ => rfl) ?_
     intro g46
     refine H0 rfl rfl rfl rfl (by (simp; done)) (by simp) (by decide) rfl rfl rfl rfl (of_decide_eq_true rfl) (fun _ => ⟨rfl, rfl⟩) (by simp only [G7]; (simp only [List.length_nil, List.length_cons, List.length_append, Nat.zero_add, List.length_map]; omega)) (fun _ => rfl) ?_
     intro g47
     (refine B6 rfl rfl (by (simp; done)) rfl (fun _ => (B1 (by exact A9 fun _ => rfl))) (fun _ => rfl) ?_; intro g7)
     refine A5 ⟨nofun, _, kS [0,7,31,32,33] [7,1000031] rfl, ?_⟩
     refine A0 <| I3 rfl rfl (F8 (by omega)) <| A6 rfl rfl ?_
     refine A5 ⟨nofun, _, kS [0,7,31,32,33] [7,1000031] rfl, ?_⟩
     refine ⟨(i + 1, ns ++ [v], _), ?_, (by simp only; omega), ⟨rfl, rfl, rfl, rfl, rfl, rfl, rfl, trivial⟩⟩
     exact ⟨by omega, d2k (by omega) hrd hat⟩
    ·skip
     apply C7 rfl
     ·apply B0
      ·exact B4 rfl
      exact C6
     ·exact (by have hi := c4i (oG := oG) (ps.getD i default) (by omega); unfold atR at hi; rw [hat] at hi; exact hi)
     ·exact ⟨rfl, rfl, rfl, of_decide_eq_true rfl, rfl⟩
     ·exact .inl rfl
     ·exact B2
     ·exact L9 rfl
     ·exact fun _ => rfl
     intro g39
     refine A6 rfl rfl <| B5 rfl rfl rfl <| B5 rfl rfl rfl <| A4 rfl rfl rfl <| A4 rfl rfl rfl ?_
     refine A5 ⟨nofun, _, kS [0,7,10,11,31,32,33] [7,1000031] rfl, ?_⟩
     refine A3 <| A3 <| A0 <| A6 rfl rfl <| c1y rfl rfl rfl ?_
     refine A5 ⟨nofun, _, kS [0,7,10,31,32,33,43] [7,1000031] rfl, ?_⟩
     refine A8 rfl (fun hc => ?_) (fun hc => absurd hc (by decide))
     refine A3 <| A0 ?_
     (refine C3 rfl rfl (fun _ => rfl) ?_; intro g2)
     refine A4 rfl rfl rfl ?_
     refine A5 ⟨nofun, _, kS [2,3] [2] rfl, ?_⟩
     refine B3 <| D6 (H4 rfl rfl (by simp) (by rfl) (E5 rfl rfl (E8 C8))) ?_
     obtain ⟨h1, h2⟩ := b7z (w := w) (by rw [b2b hok hin, ← hps0]; exact c2a (i := i) (by omega) (by intro v hv; rw [hat] at hv; cases hv))
     rw [h1, h2]
     rfl
    skip
    apply C7 rfl
    ·apply B0
     ·exact B4 rfl
     exact C6
    ·exact (by have hi := c4i (oG := oG) (ps.getD i default) (by omega); unfold atR at hi; rw [hat] at hi; exact hi)
    ·exact ⟨rfl, rfl, rfl, of_decide_eq_true rfl, rfl⟩
    ·exact .inl rfl
    ·exact B2
    ·exact L9 rfl
    ·exact fun _ => rfl
    intro g39
    refine A6 rfl rfl <| B5 rfl rfl rfl <| B5 rfl rfl rfl <| A4 rfl rfl rfl <| A4 rfl rfl rfl ?_
    refine A5 ⟨nofun, _, kS [0,7,10,11,31,32,33] [7,1000031] rfl, ?_⟩
    refine A3 <| A3 <| A0 <| A6 rfl rfl <| c1y rfl rfl rfl ?_
    refine A5 ⟨nofun, _, kS [0,7,10,31,32,33,43] [7,1000031] rfl, ?_⟩
    refine A8 rfl (fun hc => ?_) (fun hc => absurd hc (by decide))
    refine A3 <| A0 ?_
    (refine C3 rfl rfl (fun _ => rfl) ?_; intro g2)
    refine A4 rfl rfl rfl ?_
    refine A5 ⟨nofun, _, kS [2,3] [2] rfl, ?_⟩
    refine B3 <| D6 (H4 rfl rfl (by simp) (by rfl) (E5 rfl rfl (E8 C8))) ?_
    obtain ⟨h1, h2⟩ := b7z (w := w) (by rw [b2b hok hin, ← hps0]; exact c2a (i := i) (by omega) (by intro v hv; rw [hat] at hv; cases hv))
    rw [h1, h2]
    rfl
   try simp only [SG, List.length_map] at hc
   refine I5 <| A3 <| A0 <| A6 rfl rfl <| A6 rfl rfl ?_
   apply C7 rfl
   ·apply B0
    ·exact Q6 rfl rfl rfl (by (simp; done)) (fun _ => rfl)
    exact C6
   ·exact a7w ns (by omega)
   ·exact ⟨rfl, rfl, rfl, of_decide_eq_true rfl, rfl⟩
   ·exact .inr ⟨rfl, rfl⟩
   ·exact B2
   ·exact C1 rfl
   ·exact fun _ => rfl
   intro g51
   refine A6 rfl rfl ?_
   refine D7 rfl rfl (fun hg0 => ?_) (fun hg0 => ?_)
   ·have hg := hg0; try simp only [SG] at hg
    refine A6 rfl rfl <| gT rfl rfl ?_
    (have hnb := d6n (ns := ns) (by assumption); have hvl := d3m (show vd ns = true by assumption))
    apply C7 rfl
    ·apply B0
     ·exact Q6 rfl rfl rfl (by (simp; done)) (fun _ => rfl)
     exact C6
    ·exact b0x ns (by omega) hnb
    ·exact ⟨rfl, rfl, rfl, of_decide_eq_true rfl, rfl⟩
    ·exact .inr ⟨rfl, rfl⟩
    ·exact B2
    ·exact C1 rfl
    ·exact fun _ => rfl
    intro g54
    refine gT rfl rfl <| A6 rfl rfl <| gT rfl rfl <| U6 rfl rfl <| F9 rfl (by assumption) rfl rfl ?_
    (refine B6 rfl rfl (by (simp; done)) rfl (fun _ => (B1 (by exact A9 fun _ => rfl))) (fun _ => rfl) ?_; intro g2)
    refine A4 rfl rfl rfl ?_
    refine A5 ⟨nofun, _, kS [2,3] [2] rfl, ?_⟩
    refine B3 <| D6 (H4 rfl rfl (by simp) (by exact A9 fun _ => rfl) (E5 rfl rfl (E8 C8))) ?_
    (have hx := hin; obtain ⟨h1, h2⟩ := a7l (ns := ns) (w := w) (by rw [b2b hok hx, ← hps0]; rw [List.take_of_length_le (by omega)] at hrd; exact hrd))
    (rw [h1, h2, hg, Bool.true_and]; rfl)
   have hg := hg0; try simp only [SG] at hg
   refine gF rfl rfl <| gF rfl rfl <| gF rfl rfl <| F7 rfl (by assumption) rfl rfl ?_
   (refine B6 rfl rfl (by (simp; done)) rfl (fun _ => (B1 (by exact A9 fun _ => rfl))) (fun _ => rfl) ?_; intro g2)
   refine A4 rfl rfl rfl ?_
   refine A5 ⟨nofun, _, kS [2,3] [2] rfl, ?_⟩
   refine B3 <| D6 (H4 rfl rfl (by simp) (by exact A9 fun _ => rfl) (E5 rfl rfl (E8 C8))) ?_
   (have hx := hin; obtain ⟨h1, h2⟩ := a7l (ns := ns) (w := w) (by rw [b2b hok hx, ← hps0]; rw [List.take_of_length_le (by omega)] at hrd; exact hrd))
   (rw [h1, h2, hg, Bool.false_and]; rfl)
  try simp only [SG, List.length_map] at hc
  have hie : a3t w = [] := hc
  refine B9 <| A3 <| A0 <| A6 rfl rfl <| A6 rfl rfl ?_
  apply C7 rfl
  ·apply B0
   ·exact b8c rfl rfl rfl rfl rfl
   exact C6
  ·exact a7w [] (by decide)
  ·exact ⟨rfl, rfl, rfl, of_decide_eq_true rfl, rfl⟩
  ·exact .inr ⟨rfl, rfl⟩
  ·exact B2
  ·exact C1 rfl
  ·exact fun _ => rfl
  intro g51
  refine A6 rfl rfl ?_
  refine D7 rfl rfl (fun hg0 => ?_) (fun hg0 => ?_)
  ·have hg := hg0; try simp only [SG] at hg
   refine A6 rfl rfl <| gT rfl rfl ?_
   skip
   apply C7 rfl
   ·apply B0
    ·exact b8c rfl rfl rfl rfl rfl
    exact C6
   ·exact b0x [] (by decide) (by simp)
   ·exact ⟨rfl, rfl, rfl, of_decide_eq_true rfl, rfl⟩
   ·exact .inr ⟨rfl, rfl⟩
   ·exact B2
   ·exact C1 rfl
   ·exact fun _ => rfl
   intro g54
   refine gT rfl rfl <| A6 rfl rfl <| gT rfl rfl <| U6 rfl rfl <| F9 rfl rfl rfl rfl ?_
   (refine B6 rfl rfl (by (simp; done)) rfl (fun _ => (B1 (by rfl))) (fun _ => rfl) ?_; intro g2)
   refine A4 rfl rfl rfl ?_
   refine A5 ⟨nofun, _, kS [2,3] [2] rfl, ?_⟩
   refine B3 <| D6 (H4 rfl rfl (by simp) (by rfl) (E5 rfl rfl (E8 C8))) ?_
   obtain ⟨h1, h2⟩ := a7l (ns := []) (w := w) (c6q hok hie)
   (rw [h1, h2, hg, Bool.true_and]; rfl)
  have hg := hg0; try simp only [SG] at hg
  refine gF rfl rfl <| gF rfl rfl <| gF rfl rfl <| F7 rfl (by assumption) rfl rfl ?_
  (refine B6 rfl rfl (by (simp; done)) rfl (fun _ => (B1 (by rfl))) (fun _ => rfl) ?_; intro g2)
  refine A4 rfl rfl rfl ?_
  refine A5 ⟨nofun, _, kS [2,3] [2] rfl, ?_⟩
  refine B3 <| D6 (H4 rfl rfl (by simp) (by rfl) (E5 rfl rfl (E8 C8))) ?_
  obtain ⟨h1, h2⟩ := a7l (ns := []) (w := w) (c6q hok hie)
  (rw [h1, h2, hg, Bool.false_and]; rfl)
 have hg := hg0; try simp only [SG] at hg
 refine gF rfl rfl <| F9 rfl (by assumption) rfl rfl ?_
 refine A5 ⟨nofun, _, kS [0,4,27] [] rfl, ?_⟩
 refine A8 rfl (fun hc => ?_) (fun hc => absurd hc (by decide))
 refine A3 <| A0 ?_
 (refine C3 rfl rfl (fun _ => rfl) ?_; intro g2)
 refine A4 rfl rfl rfl ?_
 refine A5 ⟨nofun, _, kS [2,3] [2] rfl, ?_⟩
 refine B3 <| D6 (H4 rfl rfl (by simp) (by rfl) (E5 rfl rfl (E8 C8))) ?_
 obtain ⟨h1, h2⟩ := b7z (c3s (w := w) (by simp_all [okB]))
 rw [h1, h2]
 rfl

theorem keep_s_readWord : G3 Tryz.f76 = [0, 2, 3, 4, 6, 12, 5] := by kernel_rfl
set_option maxHeartbeats 20000000 in
theorem a0s (w : List UInt8) (hs : w.length ≤ 1048576) : CW (cxT oG) 76 [tV w] = some (.tup [tV (if (numsOf w).isSome = true then lW else w), .own 1 (((numsOf w).getD []).map iV), bV ((numsOf w).isSome || decide (0 ≤ rch (bA w)))], []) := by
 refine G5 rfl Tryz.func76 rfl ⟨by kernel_rfl, rfl, of_decide_eq_true rfl, of_decide_eq_true rfl, by decide⟩ keep_s_readWord <| A3 <| A0 <| A4 rfl rfl rfl ?_
 (refine C3 rfl rfl (fun _ => rfl) ?_; intro g3)
 refine A4 rfl rfl rfl ?_
 refine A5 ⟨nofun, _, kS [0] [] rfl, ?_⟩
 refine A3 <| A3 <| A0 <| A6 rfl rfl ?_
 apply C7 rfl
 ·apply B0
  ·exact B4 rfl
  exact C6
 ·exact (by have hi := c2k (oG := oG) w hs; rw [d7o] at hi; exact hi)
 ·exact ⟨rfl, rfl, rfl, of_decide_eq_true rfl, rfl⟩
 ·exact .inr ⟨a3a _ _, rfl⟩
 ·exact B2
 ·exact K5 (T4 fun _ => K2 rfl T3)
 ·exact fun _ => rfl
 intro g9
 simp only [List.length_map]
 refine A6 rfl rfl <| B5 rfl rfl rfl <| B5 rfl rfl rfl ?_
 (refine B6 rfl rfl (by (simp; done)) rfl (fun _ => (B1 (by exact A9 fun _ => rfl))) (fun _ => rfl) ?_; intro g5)
 refine A4 rfl rfl rfl ?_
 refine A5 ⟨nofun, _, kS [0,5,6] [5] rfl, ?_⟩
 refine A3 <| A0 <| A6 rfl rfl ?_
 refine A5 ⟨nofun, _, kS [0,5,12] [5] rfl, ?_⟩
 refine A8 rfl (fun hc => ?_) (fun hc => ?_)
 ·try simp only [SG, List.length_map] at hc
  obtain ⟨ns, hns⟩ := Option.isSome_iff_exists.1 hc
  have hraw := d7d hns
  refine A3 <| A0 <| A6 rfl rfl <| A4 rfl rfl rfl ?_
  (refine B6 rfl rfl (by (simp; done)) rfl (fun _ => (B1 (by exact A9 fun _ => rfl))) (fun _ => rfl) ?_; intro g3)
  refine A4 rfl rfl rfl ?_
  refine A5 ⟨nofun, _, kS [2,3,4] [3] rfl, ?_⟩
  refine B3 <| D6 (E5 rfl rfl (H4 rfl rfl (by simp) (by exact A9 fun _ => rfl) (E5 rfl rfl (E8 C8)))) ?_
  rw [hns, hraw]
  rfl
 try simp only [SG, List.length_map] at hc
 have hnn : numsOf w = none := by simpa using hc
 have hwo := d5f w
 refine B9 <| A3 <| A0 <| A6 rfl rfl <| A6 rfl rfl <| b0k rfl rfl <| A6 rfl rfl ?_
 refine D7 rfl rfl (fun hg0 => ?_) (fun hg0 => ?_)
 ·have hg := hg0; try simp only [SG] at hg
  refine A6 rfl rfl <| gT rfl rfl ?_
  apply C7 rfl
  ·apply B0
   ·exact B4 rfl
   exact C6
  ·exact a8i (bA w)
  ·exact ⟨rfl, rfl, rfl, of_decide_eq_true rfl, rfl⟩
  ·exact .inl rfl
  ·exact B2
  ·exact C1 rfl
  ·exact fun _ => rfl
  intro g19
  refine gT rfl rfl <| d1l rfl rfl <| F9 rfl (by assumption) rfl rfl <| A4 rfl rfl rfl ?_
  (refine C3 rfl rfl (fun _ => rfl) ?_; intro g3)
  refine A4 rfl rfl rfl ?_
  refine A5 ⟨nofun, _, kS [2,3,4] [3] rfl, ?_⟩
  refine B3 <| D6 (E5 rfl rfl (H4 rfl rfl (by simp) (by rfl) (E5 rfl rfl (E8 C8)))) ?_
  rw [hnn, ← hwo]
  simp_all
  try rfl
 have hg := hg0; try simp only [SG] at hg
 refine gF rfl rfl <| gF rfl rfl <| F7 rfl (by assumption) rfl rfl <| A4 rfl rfl rfl ?_
 (refine C3 rfl rfl (fun _ => rfl) ?_; intro g3)
 refine A4 rfl rfl rfl ?_
 refine A5 ⟨nofun, _, kS [2,3,4] [3] rfl, ?_⟩
 refine B3 <| D6 (E5 rfl rfl (H4 rfl rfl (by simp) (by rfl) (E5 rfl rfl (E8 C8)))) ?_
 rw [hnn, ← hwo]
 simp_all
 try rfl

theorem keep_s_readWords : G3 Tryz.f64 = [0, 2, 3, 4, 15, 7, 26, 6, 5, 35, 34, 36, 9, 12, 44, 8, 10, 11, 39, 50] := by kernel_rfl
set_option maxHeartbeats 20000000 in
theorem b0s (ws : List W8) (hws : ws.length ≤ 1048600 ∧ ∀ w ∈ ws, w.length ≤ 1048576) : CW (cxT oG) 64 [.list (ws.map tV)] = some (rtR (rdT ws), []) := by
 obtain ⟨kk, hkk⟩ : ∃ kk : Nat, ws.length < kk := ⟨_, Nat.lt_succ_self _⟩
 revert ws
 induction kk with
 | zero => intro ws hws hkk; exact absurd hkk (Nat.not_lt_zero _)
 | succ kk ih =>
  intro ws hws hkk
  refine G5 rfl Tryz.func64 rfl ⟨by kernel_rfl, rfl, of_decide_eq_true rfl, of_decide_eq_true rfl, by decide⟩ keep_s_readWords <| A3 <| A0 <| H2 rfl (fun _ => B7 rfl) (fun _ => rfl) ?_
  intro g2
  (refine C3 rfl rfl (fun _ => rfl) ?_; intro g3)
  refine A4 rfl rfl rfl ?_
  refine A5 ⟨nofun, _, kS [0,2] [2] rfl, ?_⟩
  refine A3 <| A3 <| A0 <| A6 rfl rfl <| H5 rfl rfl <| P7 rfl rfl ?_
  refine A5 ⟨nofun, _, kS [0,2,15] [2] rfl, ?_⟩
  refine A8 rfl (fun hc => ?_) (fun hc => ?_)
  ·try simp only [SG, List.length_map] at hc
   have hw0 : ws = [] := List.length_eq_zero_iff.1 (by simpa using hc)
   subst hw0
   refine A3 <| A0 <| J4 (fs := [_, _, _]) rfl rfl rfl rfl rfl <| C0 rfl rfl rfl rfl ⟨by decide, rfl, of_decide_eq_true rfl, of_decide_eq_true rfl, rfl⟩ rfl (by exact B7 rfl) ?_
   (refine C3 rfl rfl (fun _ => rfl) ?_; intro g3)
   refine A4 rfl rfl rfl ?_
   refine A5 ⟨nofun, _, kS [2,3,4] [2,3] rfl, ?_⟩
   refine B3 <| D6 (F6 rfl rfl rfl rfl (E6 rfl (H3 rfl (H3 rfl H6))) (H4 rfl rfl (by simp) (by rfl) (E5 rfl rfl (E8 C8)))) ?_
   rfl
  try simp only [SG, List.length_map] at hc
  obtain ⟨w, ws1, rfl⟩ : ∃ w ws1, ws = w :: ws1 := List.exists_cons_of_ne_nil (fun e => by subst e; simp at hc)
  have hw := hws.2 w (by simp)
  refine B9 <| A3 <| A0 <| A6 rfl rfl <| H7 rfl rfl rfl (fun _ => rfl) (by (change 0 < _; omega)) <| G0 rfl rfl rfl ?_
  rcases d3g w with ⟨ns, hns⟩ | ⟨hnn, hn⟩ | ⟨hnn, hn⟩ | ⟨hnn, hn⟩ | ⟨hnn, hn⟩
  ·skip
   apply C7 rfl
   ·apply B0
    ·exact B4 rfl
    exact C6
   ·exact (show CW (cxT oG) 76 [tV w] = some (.tup [tV lW, .own 1 (ns.map iV), bV true], []) from by have hi := a0s (oG := oG) w (by omega); rw [hns] at hi; exact hi)
   ·exact ⟨rfl, rfl, rfl, of_decide_eq_true rfl, rfl⟩
   ·exact .inr ⟨by simp [hasList, F4], rfl⟩
   ·exact B2
   ·exact K5 (K2 rfl (T4 fun _ => K2 rfl T3))
   ·exact fun _ => E4 (B1 (A9 fun _ => rfl)) (by rfl)
   intro g21
   try simp only [List.length_map]
   refine A6 rfl rfl <| B5 rfl rfl rfl <| B5 rfl rfl rfl <| B5 rfl rfl rfl <| A4 rfl rfl rfl ?_
   (refine B6 rfl rfl (by (simp; done)) rfl (fun _ => (B1 (by exact A9 fun _ => rfl))) (fun _ => rfl) ?_; intro g6)
   refine A4 rfl rfl rfl ?_
   refine A5 ⟨nofun, _, kS [0,2,5,6,7] [2,6] rfl, ?_⟩
   refine A3 <| A3 <| A0 <| A6 rfl rfl <| M5 rfl ?_
   refine A5 ⟨nofun, _, kS [0,2,5,6,26] [2,6] rfl, ?_⟩
   refine A8 rfl (fun hc => absurd hc (by decide)) (fun hc => ?_)
   refine B9 <| A3 <| A0 <| A6 rfl rfl <| A6 rfl rfl <| J4 (fs := [_, _, _]) rfl rfl rfl rfl rfl <| A6 rfl rfl <| M4 rfl rfl rfl (Mv.sized_map fun _ => rfl) I0 (H8 (n := 1) rfl) (by simp) ?_
   rw [show ((List.map tV (w :: ws1)).drop 1).take ((List.map tV (w :: ws1)).length - 1) = ws1.map tV from by rw [List.map_cons, List.drop_succ_cons, List.drop_zero, List.take_of_length_le (by simp)]]
   refine H2 rfl (fun _ => B7 rfl) (fun _ => rfl) ?_
   intro g8
   refine L4 rfl rfl rfl rfl (O6 rfl (a2r (by decide) (O6 rfl X7))) (fun _ => rfl) ⟨by decide, rfl, of_decide_eq_true rfl, Nat.le_refl _⟩ (fun _ => rfl) (fun _ => rfl) (fun _ => (by rfl)) ?_
   intro z
   simp only [Q4, List.cons_append, List.nil_append]
   refine A4 rfl rfl rfl ?_
   refine A5 ⟨fun _ => ⟨by (simp only [a1w, List.nil_append, List.append_nil, List.map_cons, List.map_nil, List.cons_append]; decide +kernel), by decide +kernel⟩, [(.t 2, _), (.t 5, _), (.t 8, _), (.t 9, _), (.h 2, _), (.h 8, _), (.h 6, _)], ⟨rfl, rfl, rfl, rfl, rfl, rfl, rfl, rfl, rfl, rfl, rfl, rfl, rfl, rfl, trivial⟩, ?_⟩
   refine A3 <| A3 <| A0 <| A6 rfl rfl ?_
   apply C7 rfl
   ·apply B0
    ·exact B4 rfl
    exact C6
   ·exact a8i (bA lW)
   ·exact ⟨rfl, rfl, rfl, of_decide_eq_true rfl, rfl⟩
   ·exact .inl rfl
   ·exact B2
   ·exact C1 rfl
   ·exact fun _ => rfl
   intro g34
   rw [show nd (bA lW) = 0 from d4h rfl]
   refine A6 rfl rfl ?_
   refine A5 ⟨nofun, _, kS [2,8,9,34,35] [2,8,6] rfl, ?_⟩
   refine E3 <| M9 <| A3 <| A0 <| K8 rfl rfl ?_
   refine A5 ⟨nofun, _, kS [2,8,9,34,35,36] [2,8,6] rfl, ?_⟩
   refine A3 ?_
   refine A8 rfl (fun hc => absurd hc (by decide)) (fun hc => ?_)
   refine I5 <| A3 <| A0 <| F5 rfl rfl rfl rfl rfl <| A6 rfl rfl <| L4 rfl rfl rfl rfl (O6 rfl (a2r (by decide) (O6 rfl X7))) (fun _ => rfl) ⟨by decide, rfl, of_decide_eq_true rfl, Nat.le_refl _⟩ (fun _ => rfl) (fun _ => rfl) (fun _ => (by rfl)) ?_
   intro z
   simp only [Q4, List.cons_append, List.nil_append]
   refine A4 rfl rfl rfl <| A4 rfl rfl rfl ?_
   refine A5 ⟨nofun, _, kS [2,3,4] [2,6] rfl, ?_⟩
   refine B3 <| D6 (F6 rfl rfl rfl rfl (E6 rfl (a3h rfl rfl (by simp) (fun _ => rfl) (H3 rfl H6))) (E5 rfl rfl (E5 rfl rfl (E8 C8)))) ?_
   rw [c1k hns]
   rfl
  ·skip
   apply C7 rfl
   ·apply B0
    ·exact B4 rfl
    exact C6
   ·exact (show CW (cxT oG) 76 [tV w] = some (.tup [tV w, .own 1 [], bV true], []) from by have hi := a0s (oG := oG) w (by omega); rw [hnn] at hi; rw [show decide (0 ≤ rch (bA w)) = true from decide_eq_true (by omega)] at hi; exact hi)
   ·exact ⟨rfl, rfl, rfl, of_decide_eq_true rfl, rfl⟩
   ·exact .inr ⟨rfl, rfl⟩
   ·exact B2
   ·exact K5 (K2 rfl (T4 fun _ => K2 rfl T3))
   ·exact fun _ => E4 (B1 rfl) (by rfl)
   intro g21
   try simp only [List.length_map]
   refine A6 rfl rfl <| B5 rfl rfl rfl <| B5 rfl rfl rfl <| B5 rfl rfl rfl <| A4 rfl rfl rfl ?_
   (refine B6 rfl rfl (by (simp; done)) rfl (fun _ => (B1 (by rfl))) (fun _ => rfl) ?_; intro g6)
   refine A4 rfl rfl rfl ?_
   refine A5 ⟨nofun, _, kS [0,2,5,6,7] [2,6] rfl, ?_⟩
   refine A3 <| A3 <| A0 <| A6 rfl rfl <| M5 rfl ?_
   refine A5 ⟨nofun, _, kS [0,2,5,6,26] [2,6] rfl, ?_⟩
   refine A8 rfl (fun hc => absurd hc (by decide)) (fun hc => ?_)
   refine B9 <| A3 <| A0 <| A6 rfl rfl <| A6 rfl rfl <| J4 (fs := [_, _, _]) rfl rfl rfl rfl rfl <| A6 rfl rfl <| M4 rfl rfl rfl (Mv.sized_map fun _ => rfl) I0 (H8 (n := 1) rfl) (by simp) ?_
   rw [show ((List.map tV (w :: ws1)).drop 1).take ((List.map tV (w :: ws1)).length - 1) = ws1.map tV from by rw [List.map_cons, List.drop_succ_cons, List.drop_zero, List.take_of_length_le (by simp)]]
   refine H2 rfl (fun _ => B7 rfl) (fun _ => rfl) ?_
   intro g8
   refine L4 rfl rfl rfl rfl (O6 rfl (a2r (by decide) (O6 rfl X7))) (fun _ => rfl) ⟨by decide, rfl, of_decide_eq_true rfl, Nat.le_refl _⟩ (fun _ => rfl) (fun _ => rfl) (fun _ => (by rfl)) ?_
   intro z
   simp only [Q4, List.cons_append, List.nil_append]
   refine A4 rfl rfl rfl ?_
   refine A5 ⟨fun _ => ⟨by (simp only [a1w, List.nil_append, List.append_nil, List.map_cons, List.map_nil, List.cons_append]; decide +kernel), by decide +kernel⟩, [(.t 2, _), (.t 5, _), (.t 8, _), (.t 9, _), (.h 2, _), (.h 8, _), (.h 6, _)], ⟨rfl, rfl, rfl, rfl, rfl, rfl, rfl, rfl, rfl, rfl, rfl, rfl, rfl, rfl, trivial⟩, ?_⟩
   refine A3 <| A3 <| A0 <| A6 rfl rfl ?_
   apply C7 rfl
   ·apply B0
    ·exact B4 rfl
    exact C6
   ·exact a8i (bA w)
   ·exact ⟨rfl, rfl, rfl, of_decide_eq_true rfl, rfl⟩
   ·exact .inl rfl
   ·exact B2
   ·exact C1 rfl
   ·exact fun _ => rfl
   intro g34
   rw [show nd (bA w) = 0 from (a9z (by omega)).trans hn]
   refine A6 rfl rfl ?_
   refine A5 ⟨nofun, _, kS [2,8,9,34,35] [2,8,6] rfl, ?_⟩
   refine E3 <| M9 <| A3 <| A0 <| K8 rfl rfl ?_
   refine A5 ⟨nofun, _, kS [2,8,9,34,35,36] [2,8,6] rfl, ?_⟩
   refine A3 ?_
   refine A8 rfl (fun hc => absurd hc (by decide)) (fun hc => ?_)
   refine I5 <| A3 <| A0 <| F5 rfl rfl rfl rfl rfl <| A6 rfl rfl <| L4 rfl rfl rfl rfl (O6 rfl (a2r (by decide) (O6 rfl X7))) (fun _ => rfl) ⟨by decide, rfl, of_decide_eq_true rfl, Nat.le_refl _⟩ (fun _ => rfl) (fun _ => rfl) (fun _ => (by rfl)) ?_
   intro z
   simp only [Q4, List.cons_append, List.nil_append]
   refine A4 rfl rfl rfl <| A4 rfl rfl rfl ?_
   refine A5 ⟨nofun, _, kS [2,3,4] [2,6] rfl, ?_⟩
   refine B3 <| D6 (F6 rfl rfl rfl rfl (E6 rfl (b8y rfl rfl rfl (H3 rfl H6))) (E5 rfl rfl (E5 rfl rfl (E8 C8)))) ?_
   rw [c6y hnn hn]
   rfl
  ·skip
   apply C7 rfl
   ·apply B0
    ·exact B4 rfl
    exact C6
   ·exact (show CW (cxT oG) 76 [tV w] = some (.tup [tV w, .own 1 [], bV true], []) from by have hi := a0s (oG := oG) w (by omega); rw [hnn] at hi; rw [show decide (0 ≤ rch (bA w)) = true from decide_eq_true (by omega)] at hi; exact hi)
   ·exact ⟨rfl, rfl, rfl, of_decide_eq_true rfl, rfl⟩
   ·exact .inr ⟨rfl, rfl⟩
   ·exact B2
   ·exact K5 (K2 rfl (T4 fun _ => K2 rfl T3))
   ·exact fun _ => E4 (B1 rfl) (by rfl)
   intro g21
   try simp only [List.length_map]
   refine A6 rfl rfl <| B5 rfl rfl rfl <| B5 rfl rfl rfl <| B5 rfl rfl rfl <| A4 rfl rfl rfl ?_
   (refine B6 rfl rfl (by (simp; done)) rfl (fun _ => (B1 (by rfl))) (fun _ => rfl) ?_; intro g6)
   refine A4 rfl rfl rfl ?_
   refine A5 ⟨nofun, _, kS [0,2,5,6,7] [2,6] rfl, ?_⟩
   refine A3 <| A3 <| A0 <| A6 rfl rfl <| M5 rfl ?_
   refine A5 ⟨nofun, _, kS [0,2,5,6,26] [2,6] rfl, ?_⟩
   refine A8 rfl (fun hc => absurd hc (by decide)) (fun hc => ?_)
   refine B9 <| A3 <| A0 <| A6 rfl rfl <| A6 rfl rfl <| J4 (fs := [_, _, _]) rfl rfl rfl rfl rfl <| A6 rfl rfl <| M4 rfl rfl rfl (Mv.sized_map fun _ => rfl) I0 (H8 (n := 1) rfl) (by simp) ?_
   rw [show ((List.map tV (w :: ws1)).drop 1).take ((List.map tV (w :: ws1)).length - 1) = ws1.map tV from by rw [List.map_cons, List.drop_succ_cons, List.drop_zero, List.take_of_length_le (by simp)]]
   refine H2 rfl (fun _ => B7 rfl) (fun _ => rfl) ?_
   intro g8
   refine L4 rfl rfl rfl rfl (O6 rfl (a2r (by decide) (O6 rfl X7))) (fun _ => rfl) ⟨by decide, rfl, of_decide_eq_true rfl, Nat.le_refl _⟩ (fun _ => rfl) (fun _ => rfl) (fun _ => (by rfl)) ?_
   intro z
   simp only [Q4, List.cons_append, List.nil_append]
   refine A4 rfl rfl rfl ?_
   refine A5 ⟨fun _ => ⟨by (simp only [a1w, List.nil_append, List.append_nil, List.map_cons, List.map_nil, List.cons_append]; decide +kernel), by decide +kernel⟩, [(.t 2, _), (.t 5, _), (.t 8, _), (.t 9, _), (.h 2, _), (.h 8, _), (.h 6, _)], ⟨rfl, rfl, rfl, rfl, rfl, rfl, rfl, rfl, rfl, rfl, rfl, rfl, rfl, rfl, trivial⟩, ?_⟩
   refine A3 <| A3 <| A0 <| A6 rfl rfl ?_
   apply C7 rfl
   ·apply B0
    ·exact B4 rfl
    exact C6
   ·exact a8i (bA w)
   ·exact ⟨rfl, rfl, rfl, of_decide_eq_true rfl, rfl⟩
   ·exact .inl rfl
   ·exact B2
   ·exact C1 rfl
   ·exact fun _ => rfl
   intro g34
   rw [show nd (bA w) = 1 from (a9z (by omega)).trans hn]
   refine A6 rfl rfl ?_
   refine A5 ⟨nofun, _, kS [2,8,9,34,35] [2,8,6] rfl, ?_⟩
   refine E3 <| M9 <| A3 <| A0 <| K8 rfl rfl ?_
   refine A5 ⟨nofun, _, kS [2,8,9,34,35,36] [2,8,6] rfl, ?_⟩
   refine A3 ?_
   refine A8 rfl (fun hc => ?_) (fun hc => absurd hc (by decide))
   refine B9 <| A3 <| E3 <| A3 <| A0 <| A6 rfl rfl ?_
   rcases hr1 : rdT ws1 with _ | ⟨k1, r1⟩
   ·skip
    apply C7 rfl
    ·apply B0
     ·exact B4 rfl
     exact C6
    ·exact (by have hi := ih ws1 ⟨by simp only [List.length_cons] at hws; omega, fun x hx => hws.2 x (List.mem_cons_of_mem _ hx)⟩ (by simp only [List.length_cons] at hkk; omega); rw [hr1] at hi; exact hi)
    ·exact ⟨rfl, rfl, rfl, of_decide_eq_true rfl, rfl⟩
    ·exact .inl rfl
    ·exact B2
    ·exact K5 (K2 rfl (T4 fun _ => K2 rfl T3))
    ·exact fun _ => E4 (B1 rfl) (by rfl)
    intro g39
    refine A6 rfl rfl <| B5 rfl rfl rfl <| B5 rfl rfl rfl <| B5 rfl rfl rfl <| H2 rfl (fun _ => B7 rfl) (fun _ => rfl) ?_
    intro g10
    refine C0 rfl rfl rfl rfl ⟨by decide, rfl, of_decide_eq_true rfl, of_decide_eq_true rfl, rfl⟩ rfl (by exact B7 rfl) ?_
    (refine B6 rfl rfl (by (simp; done)) rfl (fun _ => (B1 (by rfl))) (fun _ => rfl) ?_; intro g11)
    refine A4 rfl rfl rfl ?_
    refine A5 ⟨nofun, _, kS [2,8,10,11,12,34,35] [2,8,6,10] rfl, ?_⟩
    refine A3 <| A3 <| A0 <| A6 rfl rfl <| M5 rfl ?_
    refine A5 ⟨nofun, _, kS [2,8,10,11,34,35,44] [2,8,6,10] rfl, ?_⟩
    refine A8 rfl (fun hc => ?_) (fun hc => absurd hc (by decide))
    refine A3 <| A0 <| J4 (fs := [_, _, _]) rfl rfl rfl rfl rfl <| C0 rfl rfl rfl rfl ⟨by decide, rfl, of_decide_eq_true rfl, of_decide_eq_true rfl, rfl⟩ rfl (by exact B7 rfl) ?_
    (refine C3 rfl rfl (fun _ => rfl) ?_; intro g3)
    refine A4 rfl rfl rfl ?_
    refine A5 ⟨nofun, _, kS [2,3,4] [2,3] rfl, ?_⟩
    refine B3 <| D6 (F6 rfl rfl rfl rfl (E6 rfl (H3 rfl (H3 rfl H6))) (H4 rfl rfl (by simp) (by rfl) (E5 rfl rfl (E8 C8)))) ?_
    rw [b9h hnn hn, hr1]
    rfl
   skip
   apply C7 rfl
   ·apply B0
    ·exact B4 rfl
    exact C6
   ·exact (by have hi := ih ws1 ⟨by simp only [List.length_cons] at hws; omega, fun x hx => hws.2 x (List.mem_cons_of_mem _ hx)⟩ (by simp only [List.length_cons] at hkk; omega); rw [hr1] at hi; exact hi)
   ·exact ⟨rfl, rfl, rfl, of_decide_eq_true rfl, rfl⟩
   ·exact .inl rfl
   ·exact B2
   ·exact L9 rfl
   ·exact fun _ => rfl
   intro g39
   refine A6 rfl rfl <| B5 rfl rfl rfl <| B5 rfl rfl rfl <| B5 rfl rfl rfl <| H2 rfl (fun _ => B7 rfl) (fun _ => rfl) ?_
   intro g10
   refine C0 rfl rfl rfl rfl ⟨by decide, rfl, of_decide_eq_true rfl, of_decide_eq_true rfl, rfl⟩ rfl (by exact B7 rfl) <| A4 rfl rfl rfl <| A4 rfl rfl rfl ?_
   refine A5 ⟨nofun, _, kS [2,8,10,11,12,34,35] [2,8,6,10] rfl, ?_⟩
   refine A3 <| A3 <| A0 <| A6 rfl rfl <| M5 rfl ?_
   refine A5 ⟨nofun, _, kS [2,8,10,11,34,35,44] [2,8,6,10] rfl, ?_⟩
   refine A8 rfl (fun hc => absurd hc (by decide)) (fun hc => ?_)
   refine B9 <| A3 <| A0 <| C4 rfl rfl (of_decide_eq_true rfl) rfl rfl <| C5 rfl rfl rfl rfl rfl rfl <| F5 rfl rfl rfl rfl rfl <| D3 (es := List.map trV [_]) rfl rfl (of_decide_eq_true rfl) rfl rfl (fun _ => B1 (A9 fun _ => rfl)) (fun _ => rfl) ?_
   intro g49
   refine Y3 rfl rfl rfl (by simp) (by decide) rfl rfl rfl (of_decide_eq_true rfl) (fun _ => ⟨rfl, rfl⟩) (by simp only [G7]; (simp only [List.length_nil, List.length_cons, List.length_append, Nat.zero_add, List.length_map]; omega)) (fun _ => rfl) ?_
   intro g50
   refine C4 rfl rfl (of_decide_eq_true rfl) rfl rfl <| S2 rfl rfl rfl rfl rfl (Nat.le_refl _) rfl ?_
   refine A5 ⟨nofun, _, kS [2,8,11,34,35] [2,8,6,1000050] rfl, ?_⟩
   refine A0 <| A6 rfl rfl <| A4 rfl rfl rfl ?_
   refine A5 ⟨nofun, _, kS [2,8,9,34,35] [2,8,6,1000050] rfl, ?_⟩
   refine A0 <| I3 rfl rfl (F8 (by omega)) <| A6 rfl rfl ?_
   refine A5 ⟨nofun, _, kS [2,8,9,34,35] [2,8,6,1000050] rfl, ?_⟩
   refine M9 <| A3 <| A0 <| K8 rfl rfl ?_
   refine A5 ⟨nofun, _, kS [2,8,9,34,35,36] [2,8,6,1000050] rfl, ?_⟩
   refine A3 ?_
   refine A8 rfl (fun hc => absurd hc (by decide)) (fun hc => ?_)
   refine I5 <| A3 <| A0 <| F5 rfl rfl rfl rfl rfl <| A6 rfl rfl <| L4 rfl rfl rfl rfl (O6 rfl (a2r (by decide) (b1x (by decide) (by decide) rfl (by simp) fun _ => X7))) (fun _ => rfl) ⟨by decide, rfl, of_decide_eq_true rfl, Nat.le_refl _⟩ (fun _ => rfl) (fun _ => rfl) (fun _ => E4 (by rfl) (E4 (B1 (A9 fun _ => rfl)) (by rfl))) ?_
   intro z
   simp only [Q4, List.cons_append, List.nil_append]
   refine A4 rfl rfl rfl <| A4 rfl rfl rfl ?_
   refine A5 ⟨nofun, _, kS [2,3,4] [2,6,300002] rfl, ?_⟩
   refine B3 <| D6 (F6 rfl rfl rfl rfl (E6 rfl (b8y rfl rfl rfl (a3h rfl rfl (by simp) (fun _ => rfl) H6))) (E5 rfl rfl (E5 rfl rfl (E8 C8)))) ?_
   rw [b9h hnn hn, hr1]
   rfl
  ·skip
   apply C7 rfl
   ·apply B0
    ·exact B4 rfl
    exact C6
   ·exact (show CW (cxT oG) 76 [tV w] = some (.tup [tV w, .own 1 [], bV true], []) from by have hi := a0s (oG := oG) w (by omega); rw [hnn] at hi; rw [show decide (0 ≤ rch (bA w)) = true from decide_eq_true (by omega)] at hi; exact hi)
   ·exact ⟨rfl, rfl, rfl, of_decide_eq_true rfl, rfl⟩
   ·exact .inr ⟨rfl, rfl⟩
   ·exact B2
   ·exact K5 (K2 rfl (T4 fun _ => K2 rfl T3))
   ·exact fun _ => E4 (B1 rfl) (by rfl)
   intro g21
   try simp only [List.length_map]
   refine A6 rfl rfl <| B5 rfl rfl rfl <| B5 rfl rfl rfl <| B5 rfl rfl rfl <| A4 rfl rfl rfl ?_
   (refine B6 rfl rfl (by (simp; done)) rfl (fun _ => (B1 (by rfl))) (fun _ => rfl) ?_; intro g6)
   refine A4 rfl rfl rfl ?_
   refine A5 ⟨nofun, _, kS [0,2,5,6,7] [2,6] rfl, ?_⟩
   refine A3 <| A3 <| A0 <| A6 rfl rfl <| M5 rfl ?_
   refine A5 ⟨nofun, _, kS [0,2,5,6,26] [2,6] rfl, ?_⟩
   refine A8 rfl (fun hc => absurd hc (by decide)) (fun hc => ?_)
   refine B9 <| A3 <| A0 <| A6 rfl rfl <| A6 rfl rfl <| J4 (fs := [_, _, _]) rfl rfl rfl rfl rfl <| A6 rfl rfl <| M4 rfl rfl rfl (Mv.sized_map fun _ => rfl) I0 (H8 (n := 1) rfl) (by simp) ?_
   rw [show ((List.map tV (w :: ws1)).drop 1).take ((List.map tV (w :: ws1)).length - 1) = ws1.map tV from by rw [List.map_cons, List.drop_succ_cons, List.drop_zero, List.take_of_length_le (by simp)]]
   refine H2 rfl (fun _ => B7 rfl) (fun _ => rfl) ?_
   intro g8
   refine L4 rfl rfl rfl rfl (O6 rfl (a2r (by decide) (O6 rfl X7))) (fun _ => rfl) ⟨by decide, rfl, of_decide_eq_true rfl, Nat.le_refl _⟩ (fun _ => rfl) (fun _ => rfl) (fun _ => (by rfl)) ?_
   intro z
   simp only [Q4, List.cons_append, List.nil_append]
   refine A4 rfl rfl rfl ?_
   refine A5 ⟨fun _ => ⟨by (simp only [a1w, List.nil_append, List.append_nil, List.map_cons, List.map_nil, List.cons_append]; decide +kernel), by decide +kernel⟩, [(.t 2, _), (.t 5, _), (.t 8, _), (.t 9, _), (.h 2, _), (.h 8, _), (.h 6, _)], ⟨rfl, rfl, rfl, rfl, rfl, rfl, rfl, rfl, rfl, rfl, rfl, rfl, rfl, rfl, trivial⟩, ?_⟩
   refine A3 <| A3 <| A0 <| A6 rfl rfl ?_
   apply C7 rfl
   ·apply B0
    ·exact B4 rfl
    exact C6
   ·exact a8i (bA w)
   ·exact ⟨rfl, rfl, rfl, of_decide_eq_true rfl, rfl⟩
   ·exact .inl rfl
   ·exact B2
   ·exact C1 rfl
   ·exact fun _ => rfl
   intro g34
   rw [show nd (bA w) = 2 from (a9z (by omega)).trans hn]
   refine A6 rfl rfl ?_
   refine A5 ⟨nofun, _, kS [2,8,9,34,35] [2,8,6] rfl, ?_⟩
   refine E3 <| M9 <| A3 <| A0 <| K8 rfl rfl ?_
   refine A5 ⟨nofun, _, kS [2,8,9,34,35,36] [2,8,6] rfl, ?_⟩
   refine A3 ?_
   refine A8 rfl (fun hc => ?_) (fun hc => absurd hc (by decide))
   refine B9 <| A3 <| E3 <| A3 <| A0 <| A6 rfl rfl ?_
   rcases hr1 : rdT ws1 with _ | ⟨k1, r1⟩
   ·skip
    apply C7 rfl
    ·apply B0
     ·exact B4 rfl
     exact C6
    ·exact (by have hi := ih ws1 ⟨by simp only [List.length_cons] at hws; omega, fun x hx => hws.2 x (List.mem_cons_of_mem _ hx)⟩ (by simp only [List.length_cons] at hkk; omega); rw [hr1] at hi; exact hi)
    ·exact ⟨rfl, rfl, rfl, of_decide_eq_true rfl, rfl⟩
    ·exact .inl rfl
    ·exact B2
    ·exact K5 (K2 rfl (T4 fun _ => K2 rfl T3))
    ·exact fun _ => E4 (B1 rfl) (by rfl)
    intro g39
    refine A6 rfl rfl <| B5 rfl rfl rfl <| B5 rfl rfl rfl <| B5 rfl rfl rfl <| H2 rfl (fun _ => B7 rfl) (fun _ => rfl) ?_
    intro g10
    refine C0 rfl rfl rfl rfl ⟨by decide, rfl, of_decide_eq_true rfl, of_decide_eq_true rfl, rfl⟩ rfl (by exact B7 rfl) ?_
    (refine B6 rfl rfl (by (simp; done)) rfl (fun _ => (B1 (by rfl))) (fun _ => rfl) ?_; intro g11)
    refine A4 rfl rfl rfl ?_
    refine A5 ⟨nofun, _, kS [2,8,10,11,12,34,35] [2,8,6,10] rfl, ?_⟩
    refine A3 <| A3 <| A0 <| A6 rfl rfl <| M5 rfl ?_
    refine A5 ⟨nofun, _, kS [2,8,10,11,34,35,44] [2,8,6,10] rfl, ?_⟩
    refine A8 rfl (fun hc => ?_) (fun hc => absurd hc (by decide))
    refine A3 <| A0 <| J4 (fs := [_, _, _]) rfl rfl rfl rfl rfl <| C0 rfl rfl rfl rfl ⟨by decide, rfl, of_decide_eq_true rfl, of_decide_eq_true rfl, rfl⟩ rfl (by exact B7 rfl) ?_
    (refine C3 rfl rfl (fun _ => rfl) ?_; intro g3)
    refine A4 rfl rfl rfl ?_
    refine A5 ⟨nofun, _, kS [2,3,4] [2,3] rfl, ?_⟩
    refine B3 <| D6 (F6 rfl rfl rfl rfl (E6 rfl (H3 rfl (H3 rfl H6))) (H4 rfl rfl (by simp) (by rfl) (E5 rfl rfl (E8 C8)))) ?_
    rw [a5p hnn hn, hr1]
    rfl
   skip
   apply C7 rfl
   ·apply B0
    ·exact B4 rfl
    exact C6
   ·exact (by have hi := ih ws1 ⟨by simp only [List.length_cons] at hws; omega, fun x hx => hws.2 x (List.mem_cons_of_mem _ hx)⟩ (by simp only [List.length_cons] at hkk; omega); rw [hr1] at hi; exact hi)
   ·exact ⟨rfl, rfl, rfl, of_decide_eq_true rfl, rfl⟩
   ·exact .inl rfl
   ·exact B2
   ·exact L9 rfl
   ·exact fun _ => rfl
   intro g39
   refine A6 rfl rfl <| B5 rfl rfl rfl <| B5 rfl rfl rfl <| B5 rfl rfl rfl <| H2 rfl (fun _ => B7 rfl) (fun _ => rfl) ?_
   intro g10
   refine C0 rfl rfl rfl rfl ⟨by decide, rfl, of_decide_eq_true rfl, of_decide_eq_true rfl, rfl⟩ rfl (by exact B7 rfl) <| A4 rfl rfl rfl <| A4 rfl rfl rfl ?_
   refine A5 ⟨nofun, _, kS [2,8,10,11,12,34,35] [2,8,6,10] rfl, ?_⟩
   refine A3 <| A3 <| A0 <| A6 rfl rfl <| M5 rfl ?_
   refine A5 ⟨nofun, _, kS [2,8,10,11,34,35,44] [2,8,6,10] rfl, ?_⟩
   refine A8 rfl (fun hc => absurd hc (by decide)) (fun hc => ?_)
   refine B9 <| A3 <| A0 <| C4 rfl rfl (of_decide_eq_true rfl) rfl rfl <| C5 rfl rfl rfl rfl rfl rfl <| F5 rfl rfl rfl rfl rfl <| D3 (es := List.map trV [_]) rfl rfl (of_decide_eq_true rfl) rfl rfl (fun _ => B1 (A9 fun _ => rfl)) (fun _ => rfl) ?_
   intro g49
   refine Y3 rfl rfl rfl (by simp) (by decide) rfl rfl rfl (of_decide_eq_true rfl) (fun _ => ⟨rfl, rfl⟩) (by simp only [G7]; (simp only [List.length_nil, List.length_cons, List.length_append, Nat.zero_add, List.length_map]; omega)) (fun _ => rfl) ?_
   intro g50
   refine C4 rfl rfl (of_decide_eq_true rfl) rfl rfl <| S2 rfl rfl rfl rfl rfl (Nat.le_refl _) rfl ?_
   refine A5 ⟨nofun, _, kS [2,8,11,34,35] [2,8,6,1000050] rfl, ?_⟩
   refine A0 <| A6 rfl rfl <| A4 rfl rfl rfl ?_
   refine A5 ⟨nofun, _, kS [2,8,9,34,35] [2,8,6,1000050] rfl, ?_⟩
   refine A0 <| I3 rfl rfl (F8 (by omega)) <| A6 rfl rfl ?_
   refine A5 ⟨nofun, _, kS [2,8,9,34,35] [2,8,6,1000050] rfl, ?_⟩
   refine M9 <| A3 <| A0 <| K8 rfl rfl ?_
   refine A5 ⟨nofun, _, kS [2,8,9,34,35,36] [2,8,6,1000050] rfl, ?_⟩
   refine A3 ?_
   refine A8 rfl (fun hc => ?_) (fun hc => absurd hc (by decide))
   refine B9 <| A3 <| E3 <| A3 <| A0 <| A6 rfl rfl ?_
   rcases hr2 : rdT r1 with _ | ⟨k2, r2⟩
   ·skip
    apply C7 rfl
    ·apply B0
     ·exact B4 rfl
     exact C6
    ·exact (by have hi := ih r1 ⟨by have := Z4 hr1; simp only [List.length_cons] at hws; omega, fun x hx => hws.2 x (List.mem_cons_of_mem _ (b2d hr1 x hx))⟩ (by have := Z4 hr1; simp only [List.length_cons] at hkk; omega); rw [hr2] at hi; exact hi)
    ·exact ⟨rfl, rfl, rfl, of_decide_eq_true rfl, rfl⟩
    ·exact .inl rfl
    ·exact B2
    ·exact K5 (K2 rfl (T4 fun _ => K2 rfl T3))
    ·exact fun _ => E4 (B1 rfl) (by rfl)
    intro g39
    refine A6 rfl rfl <| B5 rfl rfl rfl <| B5 rfl rfl rfl <| B5 rfl rfl rfl <| H2 rfl (fun _ => B7 rfl) (fun _ => rfl) ?_
    intro g10
    refine C0 rfl rfl rfl rfl ⟨by decide, rfl, of_decide_eq_true rfl, of_decide_eq_true rfl, rfl⟩ rfl (by exact B7 rfl) ?_
    (refine B6 rfl rfl (by (simp; done)) rfl (fun _ => (B1 (by rfl))) (fun _ => rfl) ?_; intro g11)
    refine A4 rfl rfl rfl ?_
    refine A5 ⟨nofun, _, kS [2,8,10,11,12,34,35] [2,8,6,1000050,10] rfl, ?_⟩
    refine A3 <| A3 <| A0 <| A6 rfl rfl <| M5 rfl ?_
    refine A5 ⟨nofun, _, kS [2,8,10,11,34,35,44] [2,8,6,1000050,10] rfl, ?_⟩
    refine A8 rfl (fun hc => ?_) (fun hc => absurd hc (by decide))
    refine A3 <| A0 <| J4 (fs := [_, _, _]) rfl rfl rfl rfl rfl <| C0 rfl rfl rfl rfl ⟨by decide, rfl, of_decide_eq_true rfl, of_decide_eq_true rfl, rfl⟩ rfl (by exact B7 rfl) ?_
    (refine C3 rfl rfl (fun _ => rfl) ?_; intro g3)
    refine A4 rfl rfl rfl ?_
    refine A5 ⟨nofun, _, kS [2,3,4] [2,3] rfl, ?_⟩
    refine B3 <| D6 (F6 rfl rfl rfl rfl (E6 rfl (H3 rfl (H3 rfl H6))) (H4 rfl rfl (by simp) (by rfl) (E5 rfl rfl (E8 C8)))) ?_
    rw [a5p hnn hn, hr1, Option.bind_some, hr2]
    rfl
   skip
   apply C7 rfl
   ·apply B0
    ·exact B4 rfl
    exact C6
   ·exact (by have hi := ih r1 ⟨by have := Z4 hr1; simp only [List.length_cons] at hws; omega, fun x hx => hws.2 x (List.mem_cons_of_mem _ (b2d hr1 x hx))⟩ (by have := Z4 hr1; simp only [List.length_cons] at hkk; omega); rw [hr2] at hi; exact hi)
   ·exact ⟨rfl, rfl, rfl, of_decide_eq_true rfl, rfl⟩
   ·exact .inl rfl
   ·exact B2
   ·exact L9 rfl
   ·exact fun _ => rfl
   intro g39
   refine A6 rfl rfl <| B5 rfl rfl rfl <| B5 rfl rfl rfl <| B5 rfl rfl rfl <| H2 rfl (fun _ => B7 rfl) (fun _ => rfl) ?_
   intro g10
   refine C0 rfl rfl rfl rfl ⟨by decide, rfl, of_decide_eq_true rfl, of_decide_eq_true rfl, rfl⟩ rfl (by exact B7 rfl) <| A4 rfl rfl rfl <| A4 rfl rfl rfl ?_
   refine A5 ⟨nofun, _, kS [2,8,10,11,12,34,35] [2,8,6,1000050,10] rfl, ?_⟩
   refine A3 <| A3 <| A0 <| A6 rfl rfl <| M5 rfl ?_
   refine A5 ⟨nofun, _, kS [2,8,10,11,34,35,44] [2,8,6,1000050,10] rfl, ?_⟩
   refine A8 rfl (fun hc => absurd hc (by decide)) (fun hc => ?_)
   refine B9 <| A3 <| A0 <| C4 rfl rfl (of_decide_eq_true rfl) rfl rfl <| C5 rfl rfl rfl rfl rfl rfl <| F5 rfl rfl rfl rfl rfl <| D3 (es := List.map trV [_]) rfl rfl (of_decide_eq_true rfl) rfl rfl (fun _ => B1 (A9 fun _ => rfl)) (fun _ => rfl) ?_
   intro g49
   refine H0 rfl rfl rfl rfl (by (simp; done)) (by simp) (by decide) rfl rfl rfl rfl (of_decide_eq_true rfl) (fun _ => ⟨rfl, rfl⟩) (by simp only [G7]; (simp only [List.length_nil, List.length_cons, List.length_append, Nat.zero_add, List.length_map]; omega)) (fun _ => rfl) ?_
   intro g50
   refine C4 rfl rfl (of_decide_eq_true rfl) rfl rfl <| S2 rfl rfl rfl rfl rfl (Nat.le_refl _) rfl ?_
   refine A5 ⟨nofun, _, kS [2,8,11,34,35] [2,8,6,1000050] rfl, ?_⟩
   refine A0 <| A6 rfl rfl <| A4 rfl rfl rfl ?_
   refine A5 ⟨nofun, _, kS [2,8,9,34,35] [2,8,6,1000050] rfl, ?_⟩
   refine A0 <| I3 rfl rfl (F8 (by omega)) <| A6 rfl rfl ?_
   refine A5 ⟨nofun, _, kS [2,8,9,34,35] [2,8,6,1000050] rfl, ?_⟩
   refine M9 <| A3 <| A0 <| K8 rfl rfl ?_
   refine A5 ⟨nofun, _, kS [2,8,9,34,35,36] [2,8,6,1000050] rfl, ?_⟩
   refine A3 ?_
   refine A8 rfl (fun hc => absurd hc (by decide)) (fun hc => ?_)
   refine I5 <| A3 <| A0 <| F5 rfl rfl rfl rfl rfl <| A6 rfl rfl <| L4 rfl rfl rfl rfl (O6 rfl (a2r (by decide) (b1x (by decide) (by decide) rfl (by simp) fun _ => X7))) (fun _ => rfl) ⟨by decide, rfl, of_decide_eq_true rfl, Nat.le_refl _⟩ (fun _ => rfl) (fun _ => rfl) (fun _ => E4 (by rfl) (E4 (B1 (A9 fun _ => rfl)) (by rfl))) ?_
   intro z
   simp only [Q4, List.cons_append, List.nil_append]
   refine A4 rfl rfl rfl <| A4 rfl rfl rfl ?_
   refine A5 ⟨nofun, _, kS [2,3,4] [2,6,300002] rfl, ?_⟩
   refine B3 <| D6 (F6 rfl rfl rfl rfl (E6 rfl (b8y rfl rfl rfl (a3h rfl rfl (by simp) (fun _ => rfl) H6))) (E5 rfl rfl (E5 rfl rfl (E8 C8)))) ?_
   rw [a5p hnn hn, hr1, Option.bind_some, hr2]
   rfl
  skip
  apply C7 rfl
  ·apply B0
   ·exact B4 rfl
   exact C6
  ·exact (show CW (cxT oG) 76 [tV w] = some (.tup [tV w, .own 1 [], bV false], []) from by have hi := a0s (oG := oG) w (by omega); rw [hnn] at hi; rw [show decide (0 ≤ rch (bA w)) = false from decide_eq_false (by omega)] at hi; exact hi)
  ·exact ⟨rfl, rfl, rfl, of_decide_eq_true rfl, rfl⟩
  ·exact .inr ⟨rfl, rfl⟩
  ·exact B2
  ·exact K5 (K2 rfl (T4 fun _ => K2 rfl T3))
  ·exact fun _ => E4 (B1 rfl) (by rfl)
  intro g21
  try simp only [List.length_map]
  refine A6 rfl rfl <| B5 rfl rfl rfl <| B5 rfl rfl rfl <| B5 rfl rfl rfl <| A4 rfl rfl rfl ?_
  (refine B6 rfl rfl (by (simp; done)) rfl (fun _ => (B1 (by rfl))) (fun _ => rfl) ?_; intro g6)
  refine A4 rfl rfl rfl ?_
  refine A5 ⟨nofun, _, kS [0,2,5,6,7] [2,6] rfl, ?_⟩
  refine A3 <| A3 <| A0 <| A6 rfl rfl <| M5 rfl ?_
  refine A5 ⟨nofun, _, kS [0,2,5,6,26] [2,6] rfl, ?_⟩
  refine A8 rfl (fun hc => ?_) (fun hc => absurd hc (by decide))
  refine A3 <| A0 <| J4 (fs := [_, _, _]) rfl rfl rfl rfl rfl <| C0 rfl rfl rfl rfl ⟨by decide, rfl, of_decide_eq_true rfl, of_decide_eq_true rfl, rfl⟩ rfl (by exact B7 rfl) ?_
  (refine C3 rfl rfl (fun _ => rfl) ?_; intro g3)
  refine A4 rfl rfl rfl ?_
  refine A5 ⟨nofun, _, kS [2,3,4] [2,3] rfl, ?_⟩
  refine B3 <| D6 (F6 rfl rfl rfl rfl (E6 rfl (H3 rfl (H3 rfl H6))) (H4 rfl rfl (by simp) (by rfl) (E5 rfl rfl (E8 C8)))) ?_
  rw [c8d hnn hn]
  rfl

theorem keep_s_readPlanI : G3 Tryz.f48 = [0, 2, 3, 4, 6, 7, 5, 12] := by kernel_rfl
set_option maxHeartbeats 20000000 in
theorem c1f (s : List UInt8) (hs : s.length ≤ 1048576) : CW (cxT oG) 48 [tV s] = some (.tup [trV (ipT s), bV (c5j s)], []) := by
 obtain ⟨ws, hws⟩ : ∃ ws, ws = splitB 32 s := ⟨_, rfl⟩
 have hwl := U0 32 s
 have hwp := V0 32 s
 rw [← hws] at hwl hwp
 refine G5 rfl Tryz.func48 rfl ⟨by kernel_rfl, rfl, of_decide_eq_true rfl, of_decide_eq_true rfl, by decide⟩ keep_s_readPlanI <| A3 <| A0 <| H2 rfl (fun _ => B7 rfl) (fun _ => rfl) ?_
 intro g2
 refine A4 rfl rfl rfl ?_
 refine A5 ⟨nofun, _, kS [0,2] [2] rfl, ?_⟩
 refine A3 <| A0 <| A6 rfl rfl ?_
 apply C7 rfl
 ·apply B0
  ·exact B4 rfl
  apply B0
  ·exact B4 rfl
  exact C6
 ·exact b8b s 32 (by omega)
 ·exact ⟨rfl, rfl, rfl, of_decide_eq_true rfl, rfl⟩
 ·exact .inl rfl
 ·exact B2
 ·exact O7
 ·exact fun _ => rfl
 intro g9
 rw [← hws]
 try simp only [List.length_map]
 (refine B6 rfl rfl (by (simp; done)) rfl (fun _ => (B1 (by exact A9 fun _ => rfl))) (fun _ => rfl) ?_; intro g4)
 refine A5 ⟨nofun, _, kS [2,4] [2,4] rfl, ?_⟩
 refine A3 <| A0 <| A6 rfl rfl ?_
 rcases hr : rdT ws with _ | ⟨t, r⟩
 ·skip
  apply C7 rfl
  ·apply B0
   ·exact I4 rfl rfl (by (simp; done)) (fun _ => rfl)
   exact C6
  ·exact (by have hi := b0s (oG := oG) ws ⟨by omega, fun w hw => by have := hwp w hw; omega⟩; rw [hr] at hi; exact hi)
  ·exact ⟨rfl, rfl, rfl, of_decide_eq_true rfl, rfl⟩
  ·exact .inl rfl
  ·exact B2
  ·exact K5 (K2 rfl (T4 fun _ => K2 rfl T3))
  ·exact fun _ => E4 (a0p (A9 fun _ => rfl) (by decide)) (by rfl)
  intro g12
  refine A6 rfl rfl <| B5 rfl rfl rfl <| B5 rfl rfl rfl <| B5 rfl rfl rfl <| H2 rfl (fun _ => B7 rfl) (fun _ => rfl) ?_
  intro g5
  refine C0 rfl rfl rfl rfl ⟨by decide, rfl, of_decide_eq_true rfl, of_decide_eq_true rfl, rfl⟩ rfl (by exact B7 rfl) ?_
  (refine B6 rfl rfl (by (simp; done)) rfl (fun _ => (B1 (by rfl))) (fun _ => rfl) ?_; intro g6)
  refine A4 rfl rfl rfl ?_
  refine A5 ⟨nofun, _, kS [2,4,5,6,7] [2,4,5] rfl, ?_⟩
  refine A3 <| A0 <| F5 rfl rfl rfl rfl rfl <| A6 rfl rfl <| A6 rfl rfl <| G4 rfl rfl rfl <| G4 rfl rfl rfl <| G4 rfl rfl rfl <| F7 rfl rfl rfl rfl <| A6 rfl rfl <| G4 rfl rfl rfl <| G4 rfl rfl rfl <| G4 rfl rfl rfl <| F7 rfl rfl rfl rfl <| C0 rfl rfl rfl rfl ⟨by decide, rfl, of_decide_eq_true rfl, of_decide_eq_true rfl, rfl⟩ rfl (by exact B7 rfl) <| A4 rfl rfl rfl ?_
  refine A5 ⟨nofun, _, kS [2,3] [2] rfl, ?_⟩
  refine B3 <| D6 (F6 rfl rfl rfl rfl (E6 rfl (E6 rfl (E6 rfl H6))) (E5 rfl rfl (E8 C8))) ?_
  obtain ⟨h1, h2⟩ := d5y hws hr
  rw [h1, h2]
  rfl
 skip
 apply C7 rfl
 ·apply B0
  ·exact I4 rfl rfl (by (simp; done)) (fun _ => rfl)
  exact C6
 ·exact (by have hi := b0s (oG := oG) ws ⟨by omega, fun w hw => by have := hwp w hw; omega⟩; rw [hr] at hi; exact hi)
 ·exact ⟨rfl, rfl, rfl, of_decide_eq_true rfl, rfl⟩
 ·exact .inl rfl
 ·exact B2
 ·exact L9 rfl
 ·exact fun _ => E4 (a0p (A9 fun _ => rfl) (by decide)) (by rfl)
 intro g12
 refine A6 rfl rfl <| B5 rfl rfl rfl <| B5 rfl rfl rfl <| B5 rfl rfl rfl <| H2 rfl (fun _ => B7 rfl) (fun _ => rfl) ?_
 intro g5
 refine C0 rfl rfl rfl rfl ⟨by decide, rfl, of_decide_eq_true rfl, of_decide_eq_true rfl, rfl⟩ rfl (by exact B7 rfl) <| A4 rfl rfl rfl <| A4 rfl rfl rfl ?_
 refine A5 ⟨nofun, _, kS [2,4,5,6,7] [2,4,5] rfl, ?_⟩
 refine A3 <| A0 <| F5 rfl rfl rfl rfl rfl <| A6 rfl rfl <| A6 rfl rfl <| L0 rfl rfl rfl <| A6 rfl rfl <| L0 rfl rfl rfl <| H5 rfl rfl <| L0 rfl rfl rfl <| P7 rfl rfl <| F9 rfl rfl rfl rfl <| A6 rfl rfl ?_
 refine D7 rfl rfl (fun hg0 => ?_) (fun hg0 => ?_)
 ·have hg := hg0; try simp only [SG] at hg
  refine A6 rfl rfl <| gT rfl rfl <| M3 rfl rfl <| gT rfl rfl <| b4x rfl rfl <| F9 rfl (by assumption) rfl rfl <| C0 rfl rfl rfl rfl ⟨by decide, rfl, of_decide_eq_true rfl, of_decide_eq_true rfl, rfl⟩ rfl (by exact B7 rfl) <| A4 rfl rfl rfl ?_
  refine A5 ⟨nofun, _, kS [2,3] [2] rfl, ?_⟩
  refine B3 <| D6 (F6 rfl rfl rfl rfl (E6 rfl (E6 rfl (E6 rfl H6))) (E5 rfl rfl (E8 C8))) ?_
  obtain ⟨h1, h2⟩ := c6s hws hr
  rw [h1, h2]
  simp_all
  try rfl
 have hg := hg0; try simp only [SG] at hg
 refine gF rfl rfl <| gF rfl rfl <| F7 rfl (by assumption) rfl rfl <| C0 rfl rfl rfl rfl ⟨by decide, rfl, of_decide_eq_true rfl, of_decide_eq_true rfl, rfl⟩ rfl (by exact B7 rfl) <| A4 rfl rfl rfl ?_
 refine A5 ⟨nofun, _, kS [2,3] [2] rfl, ?_⟩
 refine B3 <| D6 (F6 rfl rfl rfl rfl (E6 rfl (E6 rfl (E6 rfl H6))) (E5 rfl rfl (E8 C8))) ?_
 obtain ⟨h1, h2⟩ := c6s hws hr
 rw [h1, h2]
 simp_all
 try rfl

theorem keep_s_validPlan : G3 Tryz.f25 = [0, 2, 3, 5, 4, 8] := by kernel_rfl
set_option maxHeartbeats 20000000 in
theorem c1d (s : List UInt8) (hs : s.length ≤ 1048576) : CW (cxT oG) 25 [tV s] = some (.tup [trV (ipT s), bV (rdPlan s).isSome], []) := by
 have hip := d8l s
 refine G5 rfl Tryz.func25 rfl ⟨by kernel_rfl, rfl, of_decide_eq_true rfl, of_decide_eq_true rfl, by decide⟩ keep_s_validPlan <| A3 <| A0 <| H2 rfl (fun _ => B7 rfl) (fun _ => rfl) ?_
 intro g2
 refine A4 rfl rfl rfl ?_
 refine A5 ⟨nofun, _, kS [0,2] [2] rfl, ?_⟩
 refine A3 <| A0 <| A6 rfl rfl ?_
 apply C7 rfl
 ·apply B0
  ·exact B4 rfl
  exact C6
 ·exact c1f s hs
 ·exact ⟨rfl, rfl, rfl, of_decide_eq_true rfl, rfl⟩
 ·exact .inl rfl
 ·exact B2
 ·exact L9 rfl
 ·exact fun _ => rfl
 intro g8
 refine A6 rfl rfl <| B5 rfl rfl rfl <| B5 rfl rfl rfl <| H2 rfl (fun _ => B7 rfl) (fun _ => rfl) ?_
 intro g4
 refine C0 rfl rfl rfl rfl ⟨by decide, rfl, of_decide_eq_true rfl, of_decide_eq_true rfl, rfl⟩ rfl (by exact B7 rfl) <| A4 rfl rfl rfl ?_
 refine A5 ⟨nofun, _, kS [0,2,4,5] [2,4] rfl, ?_⟩
 refine A3 <| A0 <| F5 rfl rfl rfl rfl rfl <| A6 rfl rfl <| A6 rfl rfl ?_
 refine D7 rfl rfl (fun hg0 => ?_) (fun hg0 => ?_)
 ·have hg := hg0; try simp only [SG] at hg
  refine A6 rfl rfl <| gT rfl rfl <| a1o rfl rfl <| gT rfl rfl <| b4x rfl rfl <| F9 rfl (by assumption) rfl rfl <| C0 rfl rfl rfl rfl ⟨by decide, rfl, of_decide_eq_true rfl, of_decide_eq_true rfl, rfl⟩ rfl (by exact B7 rfl) <| A4 rfl rfl rfl ?_
  refine A5 ⟨nofun, _, kS [2,3] [2] rfl, ?_⟩
  refine B3 <| D6 (F6 rfl rfl rfl rfl (E6 rfl (E6 rfl (E6 rfl H6))) (E5 rfl rfl (E8 C8))) ?_
  rw [← hip]
  simp_all
  try rfl
 have hg := hg0; try simp only [SG] at hg
 refine gF rfl rfl <| gF rfl rfl <| F7 rfl (by assumption) rfl rfl <| C0 rfl rfl rfl rfl ⟨by decide, rfl, of_decide_eq_true rfl, of_decide_eq_true rfl, rfl⟩ rfl (by exact B7 rfl) <| A4 rfl rfl rfl ?_
 refine A5 ⟨nofun, _, kS [2,3] [2] rfl, ?_⟩
 refine B3 <| D6 (F6 rfl rfl rfl rfl (E6 rfl (E6 rfl (E6 rfl H6))) (E5 rfl rfl (E8 C8))) ?_
 rw [← hip]
 simp_all
 try rfl

theorem keep_s_ValidPlanI : G3 Tryz.f37 = [0, 2, 4, 7] := by kernel_rfl
set_option maxHeartbeats 20000000 in
theorem a8y (s : List UInt8) (hs : s.length ≤ 1048576) : CW (cxT oG) 37 [tV s] = some (bV (rdPlan s).isSome, []) := by
 refine G5 rfl Tryz.func37 rfl ⟨by kernel_rfl, rfl, of_decide_eq_true rfl, of_decide_eq_true rfl, by decide⟩ keep_s_ValidPlanI <| A3 <| A0 <| A4 rfl rfl rfl ?_
 refine A5 ⟨nofun, _, kS [0] [] rfl, ?_⟩
 refine A3 <| A0 <| A6 rfl rfl ?_
 apply C7 rfl
 ·apply B0
  ·exact B4 rfl
  exact C6
 ·exact c1d s hs
 ·exact ⟨rfl, rfl, rfl, of_decide_eq_true rfl, rfl⟩
 ·exact .inl rfl
 ·exact B2
 ·exact L9 rfl
 ·exact fun _ => rfl
 intro g7
 refine A6 rfl rfl <| B5 rfl rfl rfl <| B5 rfl rfl rfl <| H2 rfl (fun _ => B7 rfl) (fun _ => rfl) ?_
 intro g3
 refine C0 rfl rfl rfl rfl ⟨by decide, rfl, of_decide_eq_true rfl, of_decide_eq_true rfl, rfl⟩ rfl (by exact B7 rfl) <| A4 rfl rfl rfl ?_
 refine A5 ⟨nofun, _, kS [4] [] rfl, ?_⟩
 refine A3 <| A0 <| A6 rfl rfl <| A4 rfl rfl rfl ?_
 refine A5 ⟨nofun, _, kS [2] [] rfl, ?_⟩
 refine B3 <| D5 rfl rfl trivial ?_
 rfl

theorem keep_s_ClipT : G3 Tryz.f26 = [0, 2] := by kernel_rfl
set_option maxHeartbeats 20000000 in
theorem d4j (xs : List W8) (hx : xs.length ≤ G7) : CW (cxT oG) 26 [.own 1 (xs.map tV)] = some (.own 1 (xs.map tV), []) := by
 refine G5 rfl Tryz.func26 rfl ⟨by kernel_rfl, rfl, of_decide_eq_true rfl, of_decide_eq_true rfl, by decide⟩ keep_s_ClipT <| A3 <| A0 ?_
 (refine C3 rfl rfl (fun _ => rfl) ?_; intro g2)
 refine A5 ⟨nofun, _, kS [0] [0] rfl, ?_⟩
 refine A3 <| A0 <| A6 rfl rfl <| A6 rfl rfl <| M3 rfl rfl <| A6 rfl rfl <| M3 rfl rfl ?_
 refine d6y rfl rfl rfl rfl rfl rfl (fun hz => ?_) (fun hz => ?_)
 ·skip
  (refine C3 rfl rfl (fun _ => rfl) ?_; intro g2)
  refine A5 ⟨nofun, _, kS [2] [0,2] rfl, ?_⟩
  refine B3 <| Z3 rfl rfl (by (simp; done)) (by rfl) trivial ?_
  (have h0 : xs = [] := (by simpa using hz); subst h0; rfl)
 skip
 (refine B6 rfl rfl (by (simp; done)) rfl (fun _ => (B1 (by exact A9 fun _ => rfl))) (fun _ => rfl) ?_; intro g2)
 refine A5 ⟨nofun, _, kS [2] [0,2] rfl, ?_⟩
 refine B3 <| Z3 rfl rfl (by (simp; done)) (by exact A9 fun _ => rfl) trivial ?_
 rfl

theorem keep_s_showTree : G3 Tryz.f39 = [0, 2, 1, 7, 4, 19, 3] := by kernel_rfl
set_option maxHeartbeats 20000000 in
theorem c5q (t : Pl) (hln : (showP t).length ≤ 1048576) (hgd : t.good) : CW (cxT oG) 39 [trK t] = some (tV (showP t), []) := by
 obtain ⟨kk, hkk⟩ : ∃ kk : Nat, t.sz < kk := ⟨_, Nat.lt_succ_self _⟩
 revert t
 induction kk with
 | zero => intro t hln hgd hkk; exact absurd hkk (Nat.not_lt_zero _)
 | succ kk ih =>
  intro t hln hgd hkk
  have hkl := b4r t
  have hkz := fun i => c4d (t := t) (i := i)
  have hkg := fun i => a7q hgd (i := i)
  have hst := fun i h => c5o (t := t) h (i := i)
  have hall := fun h => b6t (t := t) h
  refine G5 rfl Tryz.func39 rfl ⟨by kernel_rfl, rfl, of_decide_eq_true rfl, of_decide_eq_true rfl, by decide⟩ keep_s_showTree <| A3 <| A0 <| b0r rfl rfl rfl (fun _ => B7 rfl) (fun _ => rfl) ?_
  intro g1
  refine A4 rfl rfl rfl ?_
  refine A5 ⟨nofun, _, kS [1] [1] rfl, ?_⟩
  refine A3 <| A3 <| A0 <| C4 rfl rfl (of_decide_eq_true rfl) rfl rfl <| C5 rfl rfl rfl rfl rfl rfl <| U6 rfl rfl ?_
  refine A5 ⟨nofun, _, kS [1,7] [1] rfl, ?_⟩
  refine A8 rfl (fun hc => ?_) (fun hc => ?_)
  ·try simp only [SG, List.length_map] at hc
   obtain ⟨ns, rfl, hv⟩ := c8r hgd (by assumption)
   have hl := d3m hv
   have hnb := d6n hv
   have hll := a0q hnb
   refine A3 <| A0 <| C4 rfl rfl (of_decide_eq_true rfl) rfl rfl <| C5 rfl rfl rfl rfl rfl rfl ?_
   apply C7 rfl
   ·apply B0
    ·exact B4 rfl
    exact C6
   ·exact a7b ns (by omega) hnb
   ·exact ⟨rfl, rfl, rfl, of_decide_eq_true rfl, rfl⟩
   ·exact .inl rfl
   ·exact B2
   ·exact C1 rfl
   ·exact fun _ => rfl
   intro g10
   refine I7 rfl rfl (by simp only [G7, List.length_append, List.length_cons, List.length_nil]; omega) <| I7 rfl rfl (by simp only [G7, List.length_append, List.length_cons, List.length_nil]; omega) <| A4 rfl rfl rfl ?_
   refine A5 ⟨nofun, _, kS [2] [] rfl, ?_⟩
   refine B3 <| D5 rfl rfl trivial ?_
   rfl
  try simp only [SG, List.length_map] at hc
  have hop : t.op ≠ lW := by assumption
  refine B9 <| A3 <| A0 <| C4 rfl rfl (of_decide_eq_true rfl) rfl rfl <| C5 rfl rfl rfl rfl rfl rfl <| A4 rfl rfl rfl ?_
  refine A5 ⟨nofun, _, kS [1,3] [1] rfl, ?_⟩
  refine A3 <| A3 <| A0 <| A4 rfl rfl rfl ?_
  refine A5 ⟨nofun, _, kS [1,3,4] [1] rfl, ?_⟩
  refine E3 <| J8 (β := Nat × W8) [(.t 1, _), (.h 1, _)] (fun (z : Nat × W8) => match z with | (i, a) => [(.t 4, iV i), (.t 3, tV a)]) (fun (z : Nat × W8) => match z with | (i, a) => i ≤ t.kids.length ∧ a = a6k t i) (fun (z : Nat × W8) => match z with | (i, a) => t.kids.length - i) (0, _) ⟨rfl, rfl, rfl, rfl, trivial⟩ ⟨Nat.zero_le _, rfl⟩ ?_
  intro z hb
  obtain ⟨i, a⟩ := z
  try dsimp only at hb
  obtain ⟨hi1, ha⟩ := hb
  have hst1 := fun h => hst i hop h
  rw [← ha] at hst1
  refine A3 <| A3 <| A0 <| A6 rfl rfl <| C4 rfl rfl (of_decide_eq_true rfl) rfl rfl <| C5 rfl rfl rfl rfl rfl rfl <| H5 rfl rfl <| K8 rfl rfl ?_
  refine A5 ⟨nofun, _, kS [1,3,4,19] [1] rfl, ?_⟩
  refine A8 rfl (fun hc => ?_) (fun hc => ?_)
  ·try simp only [SG, List.length_map] at hc
   refine B9 <| A3 <| E3 <| A0 <| A6 rfl rfl <| I7 rfl rfl (by simp only [G7, List.length_append, List.length_cons, List.length_nil]; omega) <| C4 rfl rfl (of_decide_eq_true rfl) rfl rfl <| C5 rfl rfl rfl rfl rfl rfl <| A6 rfl rfl <| H7 rfl rfl rfl (fun _ => rfl) (by omega) <| G0 rfl rfl rfl ?_
   have h1 := hst i hop (by omega)
   have h2 := hkz i (by omega)
   apply C7 rfl
   ·apply B0
    ·exact B4 rfl
    exact C6
   ·exact (by have hi := ih (t.kids.getD i default) (by have := d5c (t := t) (i := i) (by omega); omega) (hkg i (by omega)) (by omega); rw [← a4z] at hi; exact hi)
   ·exact ⟨rfl, rfl, rfl, of_decide_eq_true rfl, rfl⟩
   ·exact .inl rfl
   ·exact B2
   ·exact C1 rfl
   ·exact fun _ => rfl
   intro g29
   refine I7 rfl rfl (by simp only [G7, List.length_append, List.length_cons, List.length_nil]; omega) <| A4 rfl rfl rfl ?_
   refine A5 ⟨nofun, _, kS [1,3,4] [1] rfl, ?_⟩
   refine A0 <| A6 rfl rfl <| I3 rfl rfl (F8 (by omega)) <| A4 rfl rfl rfl ?_
   refine A5 ⟨nofun, _, kS [1,3,4] [1] rfl, ?_⟩
   refine ⟨(i + 1, _), ⟨by omega, by rw [a6k, ← ha]⟩, (by simp only; omega), ⟨rfl, rfl, rfl, rfl, trivial⟩⟩
  try simp only [SG, List.length_map] at hc
  refine I5 <| A3 <| A0 <| A6 rfl rfl <| A4 rfl rfl rfl ?_
  refine A5 ⟨nofun, _, kS [2] [] rfl, ?_⟩
  refine B3 <| D5 rfl rfl trivial ?_
  rw [ha, show i = t.kids.length by omega, hall hop]

theorem keep_s_rule : G3 Tryz.f71 = [0, 2, 3, 1, 17, 4, 28, 29, 38, 42] := by kernel_rfl
set_option maxHeartbeats 20000000 in
theorem d6x (t : Pl) (hgd : t.good) : CW (cxT oG) 71 [trK t] = some (.tup [trV ((S9 t).getD t), bV (S9 t).isSome], []) := by
 have hkl := b4r t
 have hol := c7d hgd
 have hkg := fun h => c7d (a7q hgd (i := 0) h)
 refine G5 rfl Tryz.func71 rfl ⟨by kernel_rfl, rfl, of_decide_eq_true rfl, of_decide_eq_true rfl, by decide⟩ keep_s_rule <| A3 <| A0 <| b0r rfl rfl rfl (fun _ => B7 rfl) (fun _ => rfl) ?_
 intro g1
 refine H2 rfl (fun _ => B7 rfl) (fun _ => rfl) ?_
 intro g2
 refine A4 rfl rfl rfl ?_
 refine A5 ⟨nofun, _, kS [1,2] [1,2] rfl, ?_⟩
 refine A3 <| A3 <| A0 <| C4 rfl rfl (of_decide_eq_true rfl) rfl rfl <| C5 rfl rfl rfl rfl rfl rfl <| H5 rfl rfl <| c8f rfl rfl <| A6 rfl rfl ?_
 refine D7 rfl rfl (fun hg0 => ?_) (fun hg0 => ?_)
 ·have hg := hg0; try simp only [SG] at hg
  refine C4 rfl rfl (of_decide_eq_true rfl) rfl rfl <| gT rfl rfl <| C5 rfl rfl rfl rfl rfl rfl <| gT rfl rfl <| H7 rfl rfl rfl (fun _ => rfl) (by (change 0 < _; omega)) <| gT rfl rfl <| C4 rfl rfl (of_decide_eq_true rfl) rfl rfl <| gT rfl rfl <| b2y rfl rfl rfl <| gT rfl rfl ?_
  rw [a2e]
  refine H5 rfl rfl <| gT rfl rfl <| c8f rfl rfl <| F7 rfl (by assumption) rfl rfl ?_
  refine A5 ⟨nofun, _, kS [1,2,17] [1,2] rfl, ?_⟩
  refine A8 rfl (fun hc => ?_) (fun hc => ?_)
  ·try simp only [SG, List.length_map] at hc
   refine A3 <| A0 <| F5 rfl rfl rfl rfl rfl <| C0 rfl rfl rfl rfl ⟨by decide, rfl, of_decide_eq_true rfl, of_decide_eq_true rfl, rfl⟩ rfl (by exact B7 rfl) <| A4 rfl rfl rfl ?_
   refine A5 ⟨nofun, _, kS [2,3] [2] rfl, ?_⟩
   refine B3 <| D6 (F6 rfl rfl rfl rfl (E6 rfl (E6 rfl (E6 rfl H6))) (E5 rfl rfl (E8 C8))) ?_
   (rw [b7a (by omega)]; show AV.tup [trK t, bV false] = AV.tup [trV t, bV false]; rw [a4z])
  try simp only [SG, List.length_map] at hc
  refine B9 <| A3 <| A0 <| C4 rfl rfl (of_decide_eq_true rfl) rfl rfl <| C5 rfl rfl rfl rfl rfl rfl <| H7 rfl rfl rfl (fun _ => rfl) (by (change 0 < _; omega)) <| G0 rfl rfl rfl <| H2 rfl (fun _ => B7 rfl) (fun _ => rfl) ?_
  intro g4
  refine C0 rfl rfl rfl rfl ⟨by decide, rfl, of_decide_eq_true rfl, of_decide_eq_true rfl, rfl⟩ rfl (by exact B7 rfl) ?_
  refine A5 ⟨nofun, _, kS [1,2,4] [1,2,4] rfl, ?_⟩
  refine A3 <| A3 <| A0 <| C4 rfl rfl (of_decide_eq_true rfl) rfl rfl <| C5 rfl rfl rfl rfl rfl rfl <| I7 rfl rfl (by simp only [G7, List.length_append, List.length_cons, List.length_nil]; omega) <| C4 rfl rfl (of_decide_eq_true rfl) rfl rfl <| C5 rfl rfl rfl rfl rfl rfl <| I7 rfl rfl (by simp only [G7, List.length_append, List.length_cons, List.length_nil]; omega) ?_
  refine A5 ⟨nofun, _, kS [1,2,4,28] [1,2,4] rfl, ?_⟩
  refine E3 <| A3 <| A3 <| A0 <| U6 rfl rfl <| A4 rfl rfl rfl ?_
  refine A5 ⟨nofun, _, kS [1,2,4,28,29] [1,2,4] rfl, ?_⟩
  refine A8 rfl (fun hc => ?_) (fun hc => ?_)
  ·try simp only [SG, List.length_map] at hc
   refine B9 ?_
   refine A8 rfl (fun hc => ?_) (fun hc => absurd hc (by simp_all))
   refine A3 <| A0 <| C4 rfl rfl (of_decide_eq_true rfl) rfl rfl <| C5 rfl rfl rfl rfl rfl rfl ?_
   rw [a2e]
   refine L3 rfl rfl rfl (fun _ => rfl) (by show (0 : Int) ≤ 0 ∧ (0 : Int) < ((t.kids.getD 0 default).kids.length : Int); omega) <| G0 rfl rfl rfl <| C0 rfl rfl rfl rfl ⟨by decide, rfl, of_decide_eq_true rfl, of_decide_eq_true rfl, rfl⟩ rfl (by exact B7 rfl) <| A4 rfl rfl rfl ?_
   refine A5 ⟨nofun, _, kS [2,3] [2] rfl, ?_⟩
   refine B3 <| D6 (F6 rfl rfl rfl rfl (E6 rfl (E6 rfl (E6 rfl H6))) (E5 rfl rfl (E8 C8))) ?_
   (rw [b8x (t := t) (k := [114, 101, 118, 32, 114, 101, 118]) (by omega) (by omega) (by assumption) (by decide)]; rfl)
  try simp only [SG, List.length_map] at hc
  refine A3 <| A0 <| U6 rfl rfl <| A4 rfl rfl rfl ?_
  refine A5 ⟨nofun, _, kS [1,2,4,28,29] [1,2,4] rfl, ?_⟩
  refine A8 rfl (fun hc => ?_) (fun hc => ?_)
  ·try simp only [SG, List.length_map] at hc
   refine B9 ?_
   refine A8 rfl (fun hc => ?_) (fun hc => absurd hc (by simp_all))
   refine A3 <| A0 <| C4 rfl rfl (of_decide_eq_true rfl) rfl rfl <| C5 rfl rfl rfl rfl rfl rfl ?_
   rw [a2e]
   refine L3 rfl rfl rfl (fun _ => rfl) (by show (0 : Int) ≤ 0 ∧ (0 : Int) < ((t.kids.getD 0 default).kids.length : Int); omega) <| G0 rfl rfl rfl <| C0 rfl rfl rfl rfl ⟨by decide, rfl, of_decide_eq_true rfl, of_decide_eq_true rfl, rfl⟩ rfl (by exact B7 rfl) <| A4 rfl rfl rfl ?_
   refine A5 ⟨nofun, _, kS [2,3] [2] rfl, ?_⟩
   refine B3 <| D6 (F6 rfl rfl rfl rfl (E6 rfl (E6 rfl (E6 rfl H6))) (E5 rfl rfl (E8 C8))) ?_
   (rw [b8x (t := t) (k := [110, 101, 103, 32, 110, 101, 103]) (by omega) (by omega) (by assumption) (by decide)]; rfl)
  try simp only [SG, List.length_map] at hc
  refine A3 <| A0 <| U6 rfl rfl <| A4 rfl rfl rfl ?_
  refine A5 ⟨nofun, _, kS [1,2,4,28,29] [1,2,4] rfl, ?_⟩
  refine A8 rfl (fun hc => ?_) (fun hc => ?_)
  ·try simp only [SG, List.length_map] at hc
   refine B9 ?_
   refine A8 rfl (fun hc => ?_) (fun hc => absurd hc (by simp_all))
   refine A3 <| A0 <| C4 rfl rfl (of_decide_eq_true rfl) rfl rfl <| C5 rfl rfl rfl rfl rfl rfl ?_
   rw [a2e]
   refine L3 rfl rfl rfl (fun _ => rfl) (by show (0 : Int) ≤ 0 ∧ (0 : Int) < ((t.kids.getD 0 default).kids.length : Int); omega) <| G0 rfl rfl rfl <| C0 rfl rfl rfl rfl ⟨by decide, rfl, of_decide_eq_true rfl, of_decide_eq_true rfl, rfl⟩ rfl (by exact B7 rfl) <| A4 rfl rfl rfl ?_
   refine A5 ⟨nofun, _, kS [2,3] [2] rfl, ?_⟩
   refine B3 <| D6 (F6 rfl rfl rfl rfl (E6 rfl (E6 rfl (E6 rfl H6))) (E5 rfl rfl (E8 C8))) ?_
   (rw [b8x (t := t) (k := [100, 105, 102, 102, 32, 115, 117, 109, 115]) (by omega) (by omega) (by assumption) (by decide)]; rfl)
  try simp only [SG, List.length_map] at hc
  refine A0 <| U6 rfl rfl <| A4 rfl rfl rfl ?_
  refine A5 ⟨nofun, _, kS [1,2,4,28,29] [1,2,4] rfl, ?_⟩
  refine A8 rfl (fun hc => ?_) (fun hc => ?_)
  ·try simp only [SG, List.length_map] at hc
   refine A3 <| A0 <| C4 rfl rfl (of_decide_eq_true rfl) rfl rfl <| C5 rfl rfl rfl rfl rfl rfl ?_
   rw [a2e]
   refine L3 rfl rfl rfl (fun _ => rfl) (by show (0 : Int) ≤ 0 ∧ (0 : Int) < ((t.kids.getD 0 default).kids.length : Int); omega) <| G0 rfl rfl rfl <| C0 rfl rfl rfl rfl ⟨by decide, rfl, of_decide_eq_true rfl, of_decide_eq_true rfl, rfl⟩ rfl (by exact B7 rfl) <| A4 rfl rfl rfl ?_
   refine A5 ⟨nofun, _, kS [2,3] [2] rfl, ?_⟩
   refine B3 <| D6 (F6 rfl rfl rfl rfl (E6 rfl (E6 rfl (E6 rfl H6))) (E5 rfl rfl (E8 C8))) ?_
   (rw [b8x (t := t) (k := [115, 117, 109, 115, 32, 100, 105, 102, 102]) (by omega) (by omega) (by assumption) (by decide)]; rfl)
  try simp only [SG, List.length_map] at hc
  refine A3 <| A3 <| A0 <| U6 rfl rfl <| A4 rfl rfl rfl ?_
  refine A5 ⟨nofun, _, kS [1,2,4,28,38] [1,2,4] rfl, ?_⟩
  refine A8 rfl (fun hc => ?_) (fun hc => ?_)
  ·try simp only [SG, List.length_map] at hc
   refine B9 ?_
   refine A8 rfl (fun hc => ?_) (fun hc => absurd hc (by simp_all))
   refine A3 <| A0 <| F5 rfl rfl rfl rfl rfl <| C0 rfl rfl rfl rfl ⟨by decide, rfl, of_decide_eq_true rfl, of_decide_eq_true rfl, rfl⟩ rfl (by exact B7 rfl) <| A4 rfl rfl rfl ?_
   refine A5 ⟨nofun, _, kS [2,3] [2] rfl, ?_⟩
   refine B3 <| D6 (F6 rfl rfl rfl rfl (E6 rfl (E6 rfl (E6 rfl H6))) (E5 rfl rfl (E8 C8))) ?_
   (rw [d0z (t := t) (k := [115, 111, 114, 116, 32, 115, 111, 114, 116]) (by omega) (by omega) (by assumption) (by decide)]; rfl)
  try simp only [SG, List.length_map] at hc
  refine A0 <| U6 rfl rfl <| A4 rfl rfl rfl ?_
  refine A5 ⟨nofun, _, kS [1,2,4,28,38] [1,2,4] rfl, ?_⟩
  refine A8 rfl (fun hc => ?_) (fun hc => ?_)
  ·try simp only [SG, List.length_map] at hc
   refine A3 <| A0 <| F5 rfl rfl rfl rfl rfl <| C0 rfl rfl rfl rfl ⟨by decide, rfl, of_decide_eq_true rfl, of_decide_eq_true rfl, rfl⟩ rfl (by exact B7 rfl) <| A4 rfl rfl rfl ?_
   refine A5 ⟨nofun, _, kS [2,3] [2] rfl, ?_⟩
   refine B3 <| D6 (F6 rfl rfl rfl rfl (E6 rfl (E6 rfl (E6 rfl H6))) (E5 rfl rfl (E8 C8))) ?_
   (rw [d0z (t := t) (k := [97, 98, 115, 32, 97, 98, 115]) (by omega) (by omega) (by assumption) (by decide)]; rfl)
  try simp only [SG, List.length_map] at hc
  refine A3 <| A3 <| A0 <| U6 rfl rfl <| A4 rfl rfl rfl ?_
  refine A5 ⟨nofun, _, kS [1,2,4,28,42] [1,2,4] rfl, ?_⟩
  refine A8 rfl (fun hc => ?_) (fun hc => ?_)
  ·try simp only [SG, List.length_map] at hc
   refine B9 ?_
   refine A8 rfl (fun hc => ?_) (fun hc => absurd hc (by simp_all))
   refine A3 <| A0 <| C4 rfl rfl (of_decide_eq_true rfl) rfl rfl <| C5 rfl rfl rfl rfl rfl rfl <| C4 rfl rfl (of_decide_eq_true rfl) rfl rfl <| C5 rfl rfl rfl rfl rfl rfl <| J4 (fs := [_, _, _]) rfl rfl rfl rfl rfl <| C0 rfl rfl rfl rfl ⟨by decide, rfl, of_decide_eq_true rfl, of_decide_eq_true rfl, rfl⟩ rfl (by exact B7 rfl) <| A4 rfl rfl rfl ?_
   refine A5 ⟨nofun, _, kS [2,3] [2] rfl, ?_⟩
   refine B3 <| D6 (F6 rfl rfl rfl rfl (E6 rfl (H3 rfl (E6 rfl H6))) (E5 rfl rfl (E8 C8))) ?_
   (rw [b7v (t := t) (k := [115, 111, 114, 116, 32, 114, 101, 118]) (by omega) (by omega) (by assumption) (by decide)]; show AV.tup [AV.agg [tV t.op, AV.list [], AV.list (a3y (t.kids.getD 0 default))], bV true] = AV.tup [trV (.un t.op ((t.kids.getD 0 default).kids.getD 0 default)), bV true]; rw [b2a (w := t.op) (t := t.kids.getD 0 default) (by omega)]; rfl)
  try simp only [SG, List.length_map] at hc
  refine A3 <| A0 <| U6 rfl rfl <| A4 rfl rfl rfl ?_
  refine A5 ⟨nofun, _, kS [1,2,4,28,42] [1,2,4] rfl, ?_⟩
  refine A8 rfl (fun hc => ?_) (fun hc => ?_)
  ·try simp only [SG, List.length_map] at hc
   refine B9 ?_
   refine A8 rfl (fun hc => ?_) (fun hc => absurd hc (by simp_all))
   refine A3 <| A0 <| C4 rfl rfl (of_decide_eq_true rfl) rfl rfl <| C5 rfl rfl rfl rfl rfl rfl <| C4 rfl rfl (of_decide_eq_true rfl) rfl rfl <| C5 rfl rfl rfl rfl rfl rfl <| J4 (fs := [_, _, _]) rfl rfl rfl rfl rfl <| C0 rfl rfl rfl rfl ⟨by decide, rfl, of_decide_eq_true rfl, of_decide_eq_true rfl, rfl⟩ rfl (by exact B7 rfl) <| A4 rfl rfl rfl ?_
   refine A5 ⟨nofun, _, kS [2,3] [2] rfl, ?_⟩
   refine B3 <| D6 (F6 rfl rfl rfl rfl (E6 rfl (H3 rfl (E6 rfl H6))) (E5 rfl rfl (E8 C8))) ?_
   (rw [b7v (t := t) (k := [97, 98, 115, 32, 110, 101, 103]) (by omega) (by omega) (by assumption) (by decide)]; show AV.tup [AV.agg [tV t.op, AV.list [], AV.list (a3y (t.kids.getD 0 default))], bV true] = AV.tup [trV (.un t.op ((t.kids.getD 0 default).kids.getD 0 default)), bV true]; rw [b2a (w := t.op) (t := t.kids.getD 0 default) (by omega)]; rfl)
  try simp only [SG, List.length_map] at hc
  refine A3 <| A0 <| U6 rfl rfl <| A4 rfl rfl rfl ?_
  refine A5 ⟨nofun, _, kS [1,2,4,28,42] [1,2,4] rfl, ?_⟩
  refine A8 rfl (fun hc => ?_) (fun hc => ?_)
  ·try simp only [SG, List.length_map] at hc
   refine B9 ?_
   refine A8 rfl (fun hc => ?_) (fun hc => absurd hc (by simp_all))
   refine A3 <| A0 <| C4 rfl rfl (of_decide_eq_true rfl) rfl rfl <| C5 rfl rfl rfl rfl rfl rfl <| C4 rfl rfl (of_decide_eq_true rfl) rfl rfl <| C5 rfl rfl rfl rfl rfl rfl <| J4 (fs := [_, _, _]) rfl rfl rfl rfl rfl <| C0 rfl rfl rfl rfl ⟨by decide, rfl, of_decide_eq_true rfl, of_decide_eq_true rfl, rfl⟩ rfl (by exact B7 rfl) <| A4 rfl rfl rfl ?_
   refine A5 ⟨nofun, _, kS [2,3] [2] rfl, ?_⟩
   refine B3 <| D6 (F6 rfl rfl rfl rfl (E6 rfl (H3 rfl (E6 rfl H6))) (E5 rfl rfl (E8 C8))) ?_
   (rw [b7v (t := t) (k := [116, 111, 116, 97, 108, 32, 115, 111, 114, 116]) (by omega) (by omega) (by assumption) (by decide)]; show AV.tup [AV.agg [tV t.op, AV.list [], AV.list (a3y (t.kids.getD 0 default))], bV true] = AV.tup [trV (.un t.op ((t.kids.getD 0 default).kids.getD 0 default)), bV true]; rw [b2a (w := t.op) (t := t.kids.getD 0 default) (by omega)]; rfl)
  try simp only [SG, List.length_map] at hc
  refine A0 <| U6 rfl rfl <| A4 rfl rfl rfl ?_
  refine A5 ⟨nofun, _, kS [1,2,4,42] [1,2,4] rfl, ?_⟩
  refine A8 rfl (fun hc => ?_) (fun hc => ?_)
  ·try simp only [SG, List.length_map] at hc
   refine A3 <| A0 <| C4 rfl rfl (of_decide_eq_true rfl) rfl rfl <| C5 rfl rfl rfl rfl rfl rfl <| C4 rfl rfl (of_decide_eq_true rfl) rfl rfl <| C5 rfl rfl rfl rfl rfl rfl <| J4 (fs := [_, _, _]) rfl rfl rfl rfl rfl <| C0 rfl rfl rfl rfl ⟨by decide, rfl, of_decide_eq_true rfl, of_decide_eq_true rfl, rfl⟩ rfl (by exact B7 rfl) <| A4 rfl rfl rfl ?_
   refine A5 ⟨nofun, _, kS [2,3] [2] rfl, ?_⟩
   refine B3 <| D6 (F6 rfl rfl rfl rfl (E6 rfl (H3 rfl (E6 rfl H6))) (E5 rfl rfl (E8 C8))) ?_
   (rw [b7v (t := t) (k := [116, 111, 116, 97, 108, 32, 114, 101, 118]) (by omega) (by omega) (by assumption) (by decide)]; show AV.tup [AV.agg [tV t.op, AV.list [], AV.list (a3y (t.kids.getD 0 default))], bV true] = AV.tup [trV (.un t.op ((t.kids.getD 0 default).kids.getD 0 default)), bV true]; rw [b2a (w := t.op) (t := t.kids.getD 0 default) (by omega)]; rfl)
  try simp only [SG, List.length_map] at hc
  refine B9 <| A3 <| A0 <| F5 rfl rfl rfl rfl rfl <| C0 rfl rfl rfl rfl ⟨by decide, rfl, of_decide_eq_true rfl, of_decide_eq_true rfl, rfl⟩ rfl (by exact B7 rfl) <| A4 rfl rfl rfl ?_
  refine A5 ⟨nofun, _, kS [2,3] [2] rfl, ?_⟩
  refine B3 <| D6 (F6 rfl rfl rfl rfl (E6 rfl (E6 rfl (E6 rfl H6))) (E5 rfl rfl (E8 C8))) ?_
  (rw [c2y (by omega) (by omega), d5q (by simp only [goneL, List.mem_cons, List.not_mem_nil, or_false]; rintro x (rfl | rfl | rfl | rfl | rfl | rfl | rfl | rfl | rfl | rfl) <;> assumption)]; show AV.tup [trK t, bV false] = AV.tup [trV t, bV false]; rw [a4z])
 have hg := hg0; try simp only [SG] at hg
 refine gF rfl rfl <| gF rfl rfl <| gF rfl rfl <| gF rfl rfl <| gF rfl rfl <| gF rfl rfl <| F9 rfl (by assumption) rfl rfl ?_
 refine A5 ⟨nofun, _, kS [1,2,17] [1,2] rfl, ?_⟩
 refine A8 rfl (fun hc => ?_) (fun hc => absurd hc (by decide))
 refine A3 <| A0 <| F5 rfl rfl rfl rfl rfl <| C0 rfl rfl rfl rfl ⟨by decide, rfl, of_decide_eq_true rfl, of_decide_eq_true rfl, rfl⟩ rfl (by exact B7 rfl) <| A4 rfl rfl rfl ?_
 refine A5 ⟨nofun, _, kS [2,3] [2] rfl, ?_⟩
 refine B3 <| D6 (F6 rfl rfl rfl rfl (E6 rfl (E6 rfl (E6 rfl H6))) (E5 rfl rfl (E8 C8))) ?_
 (rw [b7a (by omega)]; show AV.tup [trK t, bV false] = AV.tup [trV t, bV false]; rw [a4z])

theorem keep_s_oneRule : G3 Tryz.f59 = [0, 2, 1, 5, 16, 4, 3, 6, 25, 7, 8, 37, 9, 13] := by kernel_rfl
set_option maxHeartbeats 20000000 in
theorem d0m (t : Pl) (hsz : t.sz ≤ 1000) (hgd : t.good) : CW (cxT oG) 59 [trK t] = some (.own 3 ((oneP t).map trV), []) := by
 obtain ⟨kk, hkk⟩ : ∃ kk : Nat, t.sz < kk := ⟨_, Nat.lt_succ_self _⟩
 revert t
 induction kk with
 | zero => intro t hsz hgd hkk; exact absurd hkk (Nat.not_lt_zero _)
 | succ kk ih =>
  intro t hsz hgd hkk
  have hkl := b4r t
  have hhl := fun i (h : i ≤ t.kids.length) => c0m (t := t) h
  have hjl := fun i j (h : i < t.kids.length) => d4a (t := t) (j := j) h
  refine G5 rfl Tryz.func59 rfl ⟨by kernel_rfl, rfl, of_decide_eq_true rfl, of_decide_eq_true rfl, by decide⟩ keep_s_oneRule <| A3 <| A0 <| b0r rfl rfl rfl (fun _ => B7 rfl) (fun _ => rfl) ?_
  intro g1
  (refine C3 rfl rfl (fun _ => rfl) ?_; intro g2)
  refine A5 ⟨nofun, _, kS [1] [1] rfl, ?_⟩
  refine A3 <| A0 <| D3 (es := List.map trV []) rfl rfl (of_decide_eq_true rfl) rfl rfl (fun _ => B1 (A9 fun _ => rfl)) (fun _ => rfl) ?_
  intro g10
  (refine B6 rfl rfl (by (simp; done)) rfl (fun _ => (B1 (by exact A9 fun _ => rfl))) (fun _ => rfl) ?_; intro g3)
  refine A5 ⟨nofun, _, kS [1,3] [1,3] rfl, ?_⟩
  refine A3 <| A0 <| F5 rfl rfl rfl rfl rfl ?_
  apply C7 rfl
  ·apply B0
   ·exact B4 rfl
   exact C6
  ·exact d6x t hgd
  ·exact ⟨rfl, rfl, rfl, of_decide_eq_true rfl, rfl⟩
  ·exact .inl rfl
  ·exact B2
  ·exact L9 rfl
  ·exact fun _ => rfl
  intro g13
  refine A6 rfl rfl <| B5 rfl rfl rfl <| B5 rfl rfl rfl <| H2 rfl (fun _ => B7 rfl) (fun _ => rfl) ?_
  intro g4
  refine C0 rfl rfl rfl rfl ⟨by decide, rfl, of_decide_eq_true rfl, of_decide_eq_true rfl, rfl⟩ rfl (by exact B7 rfl) <| A4 rfl rfl rfl ?_
  refine A5 ⟨nofun, _, kS [1,3,4,5] [1,3,4] rfl, ?_⟩
  refine A3 <| A3 <| A0 <| A6 rfl rfl ?_
  refine A5 ⟨nofun, _, kS [1,3,4,16] [1,3,4] rfl, ?_⟩
  refine A8 rfl (fun hc => ?_) (fun hc => ?_)
  ·try simp only [SG, List.length_map] at hc
   refine A0 <| A6 rfl rfl <| F5 rfl rfl rfl rfl rfl <| D3 (es := List.map trV [_]) rfl rfl (of_decide_eq_true rfl) rfl rfl (fun _ => B1 (A9 fun _ => rfl)) (fun _ => rfl) ?_
   intro g19
   refine H0 rfl rfl rfl rfl (by (simp; done)) (by simp) (by decide) rfl rfl rfl rfl (of_decide_eq_true rfl) (fun _ => ⟨rfl, rfl⟩) (by simp only [G7]; (simp only [List.length_nil, List.length_cons, List.length_append, Nat.zero_add, List.length_map]; omega)) (fun _ => rfl) ?_
   intro g20
   (refine B6 rfl rfl (by (simp; done)) rfl (fun _ => (B1 (by exact A9 fun _ => rfl))) (fun _ => rfl) ?_; intro g3)
   refine A5 ⟨nofun, _, kS [1,3] [1,3] rfl, ?_⟩
   refine A3 <| A3 <| A0 <| A4 rfl rfl rfl ?_
   refine A5 ⟨nofun, _, kS [1,3,6] [1,3] rfl, ?_⟩
   refine E3 <| J8 (β := Nat × List Pl × Nat) [(.t 1, _), (.h 1, _)] (fun (z : Nat × List Pl × Nat) => match z with | (i, us, g) => [(.t 6, iV i), (.h 3, .obj g 0 3 (us.map trV)), (.t 3, .sl 3 g none 0 us.length)]) (fun (z : Nat × List Pl × Nat) => match z with | (i, us, g) => i ≤ t.kids.length ∧ us = a7n t i) (fun (z : Nat × List Pl × Nat) => match z with | (i, us, g) => t.kids.length - i) (0, _, _) ⟨rfl, rfl, rfl, rfl, rfl, trivial⟩ ⟨Nat.zero_le _, by (rw [a7n, Option.isSome_iff_exists.1 hc |>.choose_spec]; rfl)⟩ ?_
   intro z hb
   obtain ⟨i, us, g⟩ := z
   try dsimp only at hb
   obtain ⟨hi1, hus⟩ := hb
   have hul := hhl i hi1
   rw [← hus] at hul
   refine A3 <| A3 <| A0 <| A6 rfl rfl <| C4 rfl rfl (of_decide_eq_true rfl) rfl rfl <| C5 rfl rfl rfl rfl rfl rfl <| H5 rfl rfl <| K8 rfl rfl ?_
   refine A5 ⟨nofun, _, kS [1,3,6,25] [1,3] rfl, ?_⟩
   refine A8 rfl (fun hc => ?_) (fun hc => ?_)
   ·try simp only [SG, List.length_map] at hc
    refine B9 <| A3 <| E3 <| A3 <| A0 <| C4 rfl rfl (of_decide_eq_true rfl) rfl rfl <| C5 rfl rfl rfl rfl rfl rfl <| A6 rfl rfl <| H7 rfl rfl rfl (fun _ => rfl) (by omega) <| G0 rfl rfl rfl ?_
    have hks := c4d (t := t) (i := i) (by omega)
    have hol := a5l (t.kids.getD i default)
    apply C7 rfl
    ·apply B0
     ·exact B4 rfl
     exact C6
    ·exact (by have hi := ih (t.kids.getD i default) (by omega) (a7q hgd (by omega)) (by omega); rw [← a4z] at hi; exact hi)
    ·exact ⟨rfl, rfl, rfl, of_decide_eq_true rfl, rfl⟩
    ·exact .inl rfl
    ·exact B2
    ·exact O7
    ·exact fun _ => rfl
    intro g33
    simp only [List.length_map]
    (refine B6 rfl rfl (by (simp; done)) rfl (fun _ => (B1 (by exact A9 fun _ => rfl))) (fun _ => rfl) ?_; intro g7)
    refine A5 ⟨nofun, _, kS [1,3,6,7] [1,3,7] rfl, ?_⟩
    refine A3 <| A0 <| A4 rfl rfl rfl ?_
    refine A5 ⟨nofun, _, kS [1,3,6,7,8] [1,3,7] rfl, ?_⟩
    refine E3 <| J8 (β := Nat × List Pl × Nat) [(.t 1, _), (.t 6, _), (.t 7, _), (.h 1, _), (.h 7, _)] (fun (z : Nat × List Pl × Nat) => match z with | (j, vs, g1) => [(.t 8, iV j), (.h 3, .obj g1 0 3 (vs.map trV)), (.t 3, .sl 3 g1 none 0 vs.length)]) (fun (z : Nat × List Pl × Nat) => match z with | (j, vs, g1) => j ≤ (oneP (t.kids.getD i default)).length ∧ vs = b1m t i j) (fun (z : Nat × List Pl × Nat) => match z with | (j, vs, g1) => (oneP (t.kids.getD i default)).length - j) (0, _, _) ⟨rfl, rfl, rfl, rfl, rfl, rfl, rfl, rfl, trivial⟩ ⟨Nat.zero_le _, by rw [hus, b6i]⟩ ?_
    intro z hb
    obtain ⟨j, vs, g1⟩ := z
    try dsimp only at hb
    obtain ⟨hj1, hvs⟩ := hb
    have hvl := hjl i j (by omega)
    rw [← hvs] at hvl
    refine A3 <| A3 <| A0 <| A6 rfl rfl <| A6 rfl rfl <| M3 rfl rfl <| K8 rfl rfl ?_
    refine A5 ⟨nofun, _, kS [1,3,6,7,8,37] [1,3,7] rfl, ?_⟩
    refine A8 rfl (fun hc => ?_) (fun hc => ?_)
    ·try simp only [SG, List.length_map] at hc
     refine B9 <| A3 <| E3 <| A3 <| A0 <| D3 (es := List.map trV []) rfl rfl (of_decide_eq_true rfl) rfl rfl (fun _ => B1 (A9 fun _ => rfl)) (fun _ => rfl) ?_
     intro g40
     refine C4 rfl rfl (of_decide_eq_true rfl) rfl rfl <| C5 rfl rfl rfl rfl rfl rfl <| a4l rfl rfl rfl (by (simp; done)) rfl rfl rfl (of_decide_eq_true rfl) (fun _ => ⟨rfl, rfl, rfl⟩) (by simp only [G7]; (simp only [List.length_nil, List.length_cons, List.length_append, Nat.zero_add, List.length_map]; omega)) (fun _ => rfl) ?_
     intro g43
     (refine B6 rfl rfl (by (simp; done)) rfl (fun _ => (B1 (by exact A9 fun _ => rfl))) (fun _ => rfl) ?_; intro g9)
     refine A5 ⟨nofun, _, kS [1,3,6,7,8,9] [1,3,7,9] rfl, ?_⟩
     refine A3 <| A0 <| A6 rfl rfl <| A6 rfl rfl <| A6 rfl rfl <| A6 rfl rfl <| J3 rfl rfl rfl rfl (by omega) (by (simp; done)) rfl <| K6 rfl rfl (by omega) (fun _ => rfl) (fun _ => rfl) rfl <| J3 rfl rfl rfl rfl (by (simp; omega)) (by (simp; done)) rfl <| a8q rfl rfl rfl (by (simp; omega)) (fun _ _ => ⟨rfl, rfl, of_decide_eq_true rfl, of_decide_eq_true rfl, rfl, rfl⟩) (by decide) (by exact B1 (A9 fun _ => rfl)) ?_
     refine A5 ⟨nofun, _, kS [1,3,6,7,8,9] [1,3,7,9] rfl, ?_⟩
     refine A0 <| A6 rfl rfl <| C4 rfl rfl (of_decide_eq_true rfl) rfl rfl <| C5 rfl rfl rfl rfl rfl rfl <| C4 rfl rfl (of_decide_eq_true rfl) rfl rfl <| C5 rfl rfl rfl rfl rfl rfl <| A6 rfl rfl <| J4 (fs := [_, _, _]) rfl rfl rfl rfl rfl <| b0w (mk := 2) (fs := [_, _, _]) rfl rfl rfl (of_decide_eq_true rfl) rfl rfl (b8q rfl (b8q rfl (d1r rfl (by simp) (fun _ => rfl) X7))) (fun _ _ => E4 (a0p (A9 fun _ => rfl) (by decide)) (E4 (B1 rfl) (I6 rfl))) ?_
     intro z58 g58
     simp only [Q4, List.cons_append, List.nil_append]
     rw [d3p (by omega)]
     refine H0 rfl rfl rfl rfl (by (simp; done)) (by simp) (by decide) rfl rfl rfl rfl (of_decide_eq_true rfl) (fun _ => ⟨rfl, rfl⟩) (by simp only [G7]; (simp only [List.length_nil, List.length_cons, List.length_append, Nat.zero_add, List.length_map]; omega)) (fun _ => rfl) ?_
     intro g59
     (refine B6 rfl rfl (by (simp; done)) rfl (fun _ => (B1 (by exact A9 fun _ => rfl))) (fun _ => rfl) ?_; intro g3)
     refine A5 ⟨nofun, _, kS [1,3,6,7,8] [1,3,7] rfl, ?_⟩
     refine A0 <| A6 rfl rfl <| I3 rfl rfl (F8 (by omega)) <| A4 rfl rfl rfl ?_
     refine A5 ⟨nofun, _, kS [1,3,6,7,8] [1,3,7] rfl, ?_⟩
     refine ⟨(j + 1, _, _), ⟨by omega, by rw [hvs]; exact b7s (by omega)⟩, (by simp only; omega), ⟨rfl, rfl, rfl, rfl, rfl, rfl, rfl, rfl, trivial⟩⟩
    try simp only [SG, List.length_map] at hc
    refine I5 <| A0 <| A6 rfl rfl <| I3 rfl rfl (F8 (by omega)) <| A4 rfl rfl rfl ?_
    refine A5 ⟨nofun, _, kS [1,3,6] [1,3] rfl, ?_⟩
    refine ⟨(i + 1, _, _), ⟨by omega, by rw [hvs]; exact c2j (by omega)⟩, (by simp only; omega), ⟨rfl, rfl, rfl, rfl, rfl, trivial⟩⟩
   try simp only [SG, List.length_map] at hc
   refine I5 <| A3 <| A0 <| A6 rfl rfl ?_
   (refine B6 rfl rfl (by (simp; done)) rfl (fun _ => (B1 (by exact A9 fun _ => rfl))) (fun _ => rfl) ?_; intro g2)
   refine A5 ⟨nofun, _, kS [2] [2] rfl, ?_⟩
   refine B3 <| Z3 rfl rfl (by simp) (by exact A9 fun _ => rfl) trivial ?_
   rw [hus, show i = t.kids.length by omega, b3c]
  try simp only [SG, List.length_map] at hc
  refine B9 <| A3 <| A3 <| A0 <| A4 rfl rfl rfl ?_
  refine A5 ⟨nofun, _, kS [1,3,6] [1,3] rfl, ?_⟩
  refine E3 <| J8 (β := Nat × List Pl × Nat) [(.t 1, _), (.h 1, _)] (fun (z : Nat × List Pl × Nat) => match z with | (i, us, g) => [(.t 6, iV i), (.h 3, .obj g 0 3 (us.map trV)), (.t 3, .sl 3 g none 0 us.length)]) (fun (z : Nat × List Pl × Nat) => match z with | (i, us, g) => i ≤ t.kids.length ∧ us = a7n t i) (fun (z : Nat × List Pl × Nat) => match z with | (i, us, g) => t.kids.length - i) (0, _, _) ⟨rfl, rfl, rfl, rfl, rfl, trivial⟩ ⟨Nat.zero_le _, by (rw [a7n]; simp_all)⟩ ?_
  intro z hb
  obtain ⟨i, us, g⟩ := z
  try dsimp only at hb
  obtain ⟨hi1, hus⟩ := hb
  have hul := hhl i hi1
  rw [← hus] at hul
  refine A3 <| A3 <| A0 <| A6 rfl rfl <| C4 rfl rfl (of_decide_eq_true rfl) rfl rfl <| C5 rfl rfl rfl rfl rfl rfl <| H5 rfl rfl <| K8 rfl rfl ?_
  refine A5 ⟨nofun, _, kS [1,3,6,25] [1,3] rfl, ?_⟩
  refine A8 rfl (fun hc => ?_) (fun hc => ?_)
  ·try simp only [SG, List.length_map] at hc
   refine B9 <| A3 <| E3 <| A3 <| A0 <| C4 rfl rfl (of_decide_eq_true rfl) rfl rfl <| C5 rfl rfl rfl rfl rfl rfl <| A6 rfl rfl <| H7 rfl rfl rfl (fun _ => rfl) (by omega) <| G0 rfl rfl rfl ?_
   have hks := c4d (t := t) (i := i) (by omega)
   have hol := a5l (t.kids.getD i default)
   apply C7 rfl
   ·apply B0
    ·exact B4 rfl
    exact C6
   ·exact (by have hi := ih (t.kids.getD i default) (by omega) (a7q hgd (by omega)) (by omega); rw [← a4z] at hi; exact hi)
   ·exact ⟨rfl, rfl, rfl, of_decide_eq_true rfl, rfl⟩
   ·exact .inl rfl
   ·exact B2
   ·exact O7
   ·exact fun _ => rfl
   intro g33
   simp only [List.length_map]
   (refine B6 rfl rfl (by (simp; done)) rfl (fun _ => (B1 (by exact A9 fun _ => rfl))) (fun _ => rfl) ?_; intro g7)
   refine A5 ⟨nofun, _, kS [1,3,6,7] [1,3,7] rfl, ?_⟩
   refine A3 <| A0 <| A4 rfl rfl rfl ?_
   refine A5 ⟨nofun, _, kS [1,3,6,7,8] [1,3,7] rfl, ?_⟩
   refine E3 <| J8 (β := Nat × List Pl × Nat) [(.t 1, _), (.t 6, _), (.t 7, _), (.h 1, _), (.h 7, _)] (fun (z : Nat × List Pl × Nat) => match z with | (j, vs, g1) => [(.t 8, iV j), (.h 3, .obj g1 0 3 (vs.map trV)), (.t 3, .sl 3 g1 none 0 vs.length)]) (fun (z : Nat × List Pl × Nat) => match z with | (j, vs, g1) => j ≤ (oneP (t.kids.getD i default)).length ∧ vs = b1m t i j) (fun (z : Nat × List Pl × Nat) => match z with | (j, vs, g1) => (oneP (t.kids.getD i default)).length - j) (0, _, _) ⟨rfl, rfl, rfl, rfl, rfl, rfl, rfl, rfl, trivial⟩ ⟨Nat.zero_le _, by rw [hus, b6i]⟩ ?_
   intro z hb
   obtain ⟨j, vs, g1⟩ := z
   try dsimp only at hb
   obtain ⟨hj1, hvs⟩ := hb
   have hvl := hjl i j (by omega)
   rw [← hvs] at hvl
   refine A3 <| A3 <| A0 <| A6 rfl rfl <| A6 rfl rfl <| M3 rfl rfl <| K8 rfl rfl ?_
   refine A5 ⟨nofun, _, kS [1,3,6,7,8,37] [1,3,7] rfl, ?_⟩
   refine A8 rfl (fun hc => ?_) (fun hc => ?_)
   ·try simp only [SG, List.length_map] at hc
    refine B9 <| A3 <| E3 <| A3 <| A0 <| D3 (es := List.map trV []) rfl rfl (of_decide_eq_true rfl) rfl rfl (fun _ => B1 (A9 fun _ => rfl)) (fun _ => rfl) ?_
    intro g40
    refine C4 rfl rfl (of_decide_eq_true rfl) rfl rfl <| C5 rfl rfl rfl rfl rfl rfl <| a4l rfl rfl rfl (by (simp; done)) rfl rfl rfl (of_decide_eq_true rfl) (fun _ => ⟨rfl, rfl, rfl⟩) (by simp only [G7]; (simp only [List.length_nil, List.length_cons, List.length_append, Nat.zero_add, List.length_map]; omega)) (fun _ => rfl) ?_
    intro g43
    (refine B6 rfl rfl (by (simp; done)) rfl (fun _ => (B1 (by exact A9 fun _ => rfl))) (fun _ => rfl) ?_; intro g9)
    refine A5 ⟨nofun, _, kS [1,3,6,7,8,9] [1,3,7,9] rfl, ?_⟩
    refine A3 <| A0 <| A6 rfl rfl <| A6 rfl rfl <| A6 rfl rfl <| A6 rfl rfl <| J3 rfl rfl rfl rfl (by omega) (by (simp; done)) rfl <| K6 rfl rfl (by omega) (fun _ => rfl) (fun _ => rfl) rfl <| J3 rfl rfl rfl rfl (by (simp; omega)) (by (simp; done)) rfl <| a8q rfl rfl rfl (by (simp; omega)) (fun _ _ => ⟨rfl, rfl, of_decide_eq_true rfl, of_decide_eq_true rfl, rfl, rfl⟩) (by decide) (by exact B1 (A9 fun _ => rfl)) ?_
    refine A5 ⟨nofun, _, kS [1,3,6,7,8,9] [1,3,7,9] rfl, ?_⟩
    refine A0 <| A6 rfl rfl <| C4 rfl rfl (of_decide_eq_true rfl) rfl rfl <| C5 rfl rfl rfl rfl rfl rfl <| C4 rfl rfl (of_decide_eq_true rfl) rfl rfl <| C5 rfl rfl rfl rfl rfl rfl <| A6 rfl rfl <| J4 (fs := [_, _, _]) rfl rfl rfl rfl rfl <| b0w (mk := 2) (fs := [_, _, _]) rfl rfl rfl (of_decide_eq_true rfl) rfl rfl (b8q rfl (b8q rfl (d1r rfl (by simp) (fun _ => rfl) X7))) (fun _ _ => E4 (a0p (A9 fun _ => rfl) (by decide)) (E4 (B1 rfl) (I6 rfl))) ?_
    intro z58 g58
    simp only [Q4, List.cons_append, List.nil_append]
    rw [d3p (by omega)]
    refine H0 rfl rfl rfl rfl (by (simp; done)) (by simp) (by decide) rfl rfl rfl rfl (of_decide_eq_true rfl) (fun _ => ⟨rfl, rfl⟩) (by simp only [G7]; (simp only [List.length_nil, List.length_cons, List.length_append, Nat.zero_add, List.length_map]; omega)) (fun _ => rfl) ?_
    intro g59
    (refine B6 rfl rfl (by (simp; done)) rfl (fun _ => (B1 (by exact A9 fun _ => rfl))) (fun _ => rfl) ?_; intro g3)
    refine A5 ⟨nofun, _, kS [1,3,6,7,8] [1,3,7] rfl, ?_⟩
    refine A0 <| A6 rfl rfl <| I3 rfl rfl (F8 (by omega)) <| A4 rfl rfl rfl ?_
    refine A5 ⟨nofun, _, kS [1,3,6,7,8] [1,3,7] rfl, ?_⟩
    refine ⟨(j + 1, _, _), ⟨by omega, by rw [hvs]; exact b7s (by omega)⟩, (by simp only; omega), ⟨rfl, rfl, rfl, rfl, rfl, rfl, rfl, rfl, trivial⟩⟩
   try simp only [SG, List.length_map] at hc
   refine I5 <| A0 <| A6 rfl rfl <| I3 rfl rfl (F8 (by omega)) <| A4 rfl rfl rfl ?_
   refine A5 ⟨nofun, _, kS [1,3,6] [1,3] rfl, ?_⟩
   refine ⟨(i + 1, _, _), ⟨by omega, by rw [hvs]; exact c2j (by omega)⟩, (by simp only; omega), ⟨rfl, rfl, rfl, rfl, rfl, trivial⟩⟩
  try simp only [SG, List.length_map] at hc
  refine I5 <| A3 <| A0 <| A6 rfl rfl ?_
  (refine B6 rfl rfl (by (simp; done)) rfl (fun _ => (B1 (by exact A9 fun _ => rfl))) (fun _ => rfl) ?_; intro g2)
  refine A5 ⟨nofun, _, kS [2] [2] rfl, ?_⟩
  refine B3 <| Z3 rfl rfl (by simp) (by exact A9 fun _ => rfl) trivial ?_
  rw [hus, show i = t.kids.length by omega, b3c]

theorem keep_s_rules : G3 Tryz.f41 = [0, 2, 3, 5, 17, 7, 37, 40, 39, 41, 38, 6, 9, 62, 10, 8, 4] := by kernel_rfl
set_option maxHeartbeats 20000000 in
theorem c7b (s : List UInt8) (hs : s.length ≤ 1048576) (hw : (splitB 32 s).length ≤ 1000) : CW (cxT (some rG)) 41 [tV s] = some (.own 1 (((K3 (splitB 32 s)).map (joinB 32)).map tV), []) := by
 obtain ⟨ws, hws⟩ : ∃ ws, ws = splitB 32 s := ⟨_, rfl⟩
 rw [← hws]
 have hwl : ws.length ≤ 1000 := by rw [hws]; exact hw
 have hwp : ∀ w ∈ ws, w.length ≤ 1048576 := fun w h => by rw [hws] at h; have := V0 32 s w h; omega
 have hpi := fun (i : Nat) (h : i < ws.length) => hwp _ (S7 h)
 have hjl : (joinB 32 ws).length ≤ 1048576 := by rw [hws, a6y]; exact hs
 have hne : 1 ≤ ws.length := by rw [hws]; have := a9u 32 s; cases h : splitB 32 s with | nil => exact absurd h this | cons a b => simp
 refine G5 rfl Tryz.func41 rfl ⟨by kernel_rfl, rfl, of_decide_eq_true rfl, of_decide_eq_true rfl, by decide⟩ keep_s_rules <| A3 <| A0 ?_
 (refine C3 rfl rfl (fun _ => rfl) ?_; intro g2)
 refine A5 ⟨nofun, _, kS [0] [] rfl, ?_⟩
 refine A3 <| A0 <| A6 rfl rfl ?_
 apply C7 rfl
 ·apply B0
  ·exact B4 rfl
  apply B0
  ·exact B4 rfl
  exact C6
 ·exact b8b s 32 (by omega)
 ·exact ⟨rfl, rfl, rfl, of_decide_eq_true rfl, rfl⟩
 ·exact .inl rfl
 ·exact B2
 ·exact O7
 ·exact fun _ => rfl
 intro g12
 rw [← hws]
 try simp only [List.length_map]
 (refine B6 rfl rfl (by (simp; done)) rfl (fun _ => (B1 (by exact A9 fun _ => rfl))) (fun _ => rfl) ?_; intro g3)
 refine A5 ⟨nofun, _, kS [3] [3] rfl, ?_⟩
 refine A3 <| A0 ?_
 (refine C3 rfl rfl (fun _ => rfl) ?_; intro g4)
 refine A5 ⟨nofun, _, kS [3,4] [3,4] rfl, ?_⟩
 refine A3 <| A3 <| A0 <| A4 rfl rfl rfl ?_
 refine A5 ⟨nofun, _, kS [3,4,5] [3,4] rfl, ?_⟩
 refine E3 <| J8 (β := Nat × List W8 × Nat) [(.t 3, _), (.h 3, _)] (fun (z : Nat × List W8 × Nat) => match z with | (i, us, g) => [(.t 5, iV i), (.h 4, .obj g 0 1 (us.map tV)), (.t 4, .sl 4 g none 0 us.length)]) (fun (z : Nat × List W8 × Nat) => match z with | (i, us, g) => i + 1 ≤ ws.length ∧ us = (hitsN ws i).map (joinB 32)) (fun (z : Nat × List W8 × Nat) => match z with | (i, us, g) => ws.length - i) (0, [], _) ⟨rfl, rfl, rfl, rfl, rfl, trivial⟩ ⟨by omega, rfl⟩ ?_
 intro z hb
 obtain ⟨i, us, g⟩ := z
 try dsimp only at hb
 obtain ⟨hi1, hus⟩ := hb
 have hul : us.length ≤ i := by rw [hus, List.length_map]; exact b7f ws i
 refine A3 <| A3 <| A0 <| A6 rfl rfl <| I3 rfl rfl (F8 (by omega)) <| A6 rfl rfl <| M3 rfl rfl <| K8 rfl rfl ?_
 refine A5 ⟨nofun, _, kS [3,4,5,17] [3,4] rfl, ?_⟩
 refine A8 rfl (fun hc => ?_) (fun hc => ?_)
 ·try simp only [SG, List.length_map] at hc
  refine B9 <| A3 <| E3 <| A3 <| A0 <| c3g rfl rfl rfl <| A6 rfl rfl <| A6 rfl rfl <| J3 rfl rfl rfl rfl (by omega) (by (simp; done)) rfl <| K6 rfl rfl (by omega) (fun _ => rfl) (fun _ => rfl) rfl ?_
  have hp1 := hpi i (by omega)
  refine I7 rfl rfl (by simp only [G7, List.length_append, List.length_cons, List.length_nil]; omega) <| A6 rfl rfl <| A6 rfl rfl <| I3 rfl rfl (F8 (by omega)) <| J3 rfl rfl rfl rfl (by (simp; omega)) (by (simp; done)) rfl <| K6 rfl rfl (by (simp; omega)) (fun _ => rfl) (fun _ => rfl) rfl ?_
  have hp2 := hpi (i + 1) (by omega)
  refine I7 rfl rfl (by simp only [G7, List.length_append, List.length_cons, List.length_nil]; omega) ?_
  rcases hkey : keyG ((ws.getD i default ++ [32]) ++ ws.getD (i + 1) default) with _ | ⟨x, y⟩
  ·skip
   refine c1w (u := .undef) (b := false) (v := .agg [bV false, bV false]) rfl rfl (show (cxT (some rG)).mp rG = some goneTb from if_pos rfl) rfl ⟨rfl, rfl⟩ (by rw [b3s, hkey]; rfl) rfl <| A6 rfl rfl <| B5 rfl rfl rfl <| B5 rfl rfl rfl <| H2 rfl (fun _ => B7 rfl) (fun _ => rfl) ?_
   intro g6
   refine C0 rfl rfl rfl rfl ⟨by decide, rfl, of_decide_eq_true rfl, of_decide_eq_true rfl, rfl⟩ rfl (by exact B7 rfl) <| A4 rfl rfl rfl ?_
   refine A5 ⟨fun _ => ⟨by decide +kernel, by decide +kernel⟩, [(.t 3, _), (.t 4, _), (.t 5, _), (.t 6, _), (.t 7, _), (.h 3, _), (.h 4, _), (.h 6, _)], ⟨rfl, rfl, rfl, rfl, rfl, rfl, rfl, rfl, rfl, rfl, rfl, rfl, rfl, rfl, rfl, rfl, trivial⟩, ?_⟩
   refine A3 <| A3 <| A0 <| A6 rfl rfl <| M5 rfl ?_
   refine A5 ⟨nofun, _, kS [3,4,5,6,37] [3,4,6] rfl, ?_⟩
   refine A8 rfl (fun hc => ?_) (fun hc => absurd hc (by decide))
   refine I5 <| A0 <| A6 rfl rfl <| I3 rfl rfl (F8 (by omega)) <| A4 rfl rfl rfl ?_
   refine A5 ⟨nofun, _, kS [3,4,5] [3,4] rfl, ?_⟩
   refine ⟨(i + 1, _, _), ⟨by omega, by rw [hitsN, List.map_append, hus, b5b, hkey]; simp⟩, (by simp only; omega), ⟨rfl, rfl, rfl, rfl, rfl, trivial⟩⟩
  skip
  refine c1w (u := .undef) (b := true) (v := .agg [bV x, bV y]) rfl rfl (show (cxT (some rG)).mp rG = some goneTb from if_pos rfl) rfl ⟨rfl, rfl⟩ (by rw [b3s, hkey]; rfl) rfl <| A6 rfl rfl <| B5 rfl rfl rfl <| B5 rfl rfl rfl <| H2 rfl (fun _ => B7 rfl) (fun _ => rfl) ?_
  intro g6
  refine C0 rfl rfl rfl rfl ⟨by decide, rfl, of_decide_eq_true rfl, of_decide_eq_true rfl, rfl⟩ rfl (by exact B7 rfl) <| A4 rfl rfl rfl ?_
  refine A5 ⟨fun _ => ⟨by decide +kernel, by decide +kernel⟩, [(.t 3, _), (.t 4, _), (.t 5, _), (.t 6, _), (.t 7, _), (.h 3, _), (.h 4, _), (.h 6, _)], ⟨rfl, rfl, rfl, rfl, rfl, rfl, rfl, rfl, rfl, rfl, rfl, rfl, rfl, rfl, rfl, rfl, trivial⟩, ?_⟩
  refine A3 <| A3 <| A0 <| A6 rfl rfl <| M5 rfl ?_
  refine A5 ⟨nofun, _, kS [3,4,5,6,37] [3,4,6] rfl, ?_⟩
  refine A8 rfl (fun hc => absurd hc (by decide)) (fun hc => ?_)
  refine B9 <| A3 <| A0 ?_
  (refine C3 rfl rfl (fun _ => rfl) ?_; intro g8)
  refine A5 ⟨nofun, _, kS [3,4,5,6,8] [3,4,6,8] rfl, ?_⟩
  refine A3 <| A3 <| A0 <| A6 rfl rfl <| M3 rfl rfl <| A6 rfl rfl ?_
  refine A5 ⟨nofun, _, kS [3,4,5,6,8,38,39,40] [3,4,6,8] rfl, ?_⟩
  refine E3 <| J8 (β := Nat × List W8 × Nat) [(.t 3, _), (.t 4, _), (.t 5, _), (.t 6, _), (.t 38, _), (.t 39, _), (.h 3, _), (.h 4, _), (.h 6, _)] (fun (z : Nat × List W8 × Nat) => match z with | (k, ls, g1) => [(.t 40, iV k), (.h 8, .obj g1 0 1 (ls.map tV)), (.t 8, .sl 8 g1 none 0 ls.length)]) (fun (z : Nat × List W8 × Nat) => match z with | (k, ls, g1) => k ≤ ws.length ∧ ls = leftN ws i x y k) (fun (z : Nat × List W8 × Nat) => match z with | (k, ls, g1) => ws.length - k) (0, [], _) ⟨rfl, rfl, rfl, rfl, rfl, rfl, rfl, rfl, rfl, rfl, rfl, rfl, trivial⟩ ⟨Nat.zero_le _, rfl⟩ ?_
  intro z hb
  obtain ⟨k, ls, g1⟩ := z
  try dsimp only at hb
  obtain ⟨hk1, hls⟩ := hb
  have hll : ls.length ≤ k := by rw [hls]; exact b6w ws i x y k
  refine A3 <| A0 <| K8 rfl rfl ?_
  refine A5 ⟨nofun, _, kS [3,4,5,6,8,38,39,40,41] [3,4,6,8] rfl, ?_⟩
  refine A3 ?_
  refine A8 rfl (fun hc => ?_) (fun hc => ?_)
  ·try simp only [SG, List.length_map] at hc
   refine B9 <| A3 <| E3 <| A3 <| A0 <| A6 rfl rfl <| J3 rfl rfl rfl rfl (by omega) (by (simp; done)) rfl <| K6 rfl rfl (by omega) (fun _ => rfl) (fun _ => rfl) rfl <| A4 rfl rfl rfl <| A4 rfl rfl rfl ?_
   refine A5 ⟨nofun, _, kS [3,4,5,6,8,9,10,38,39,40] [3,4,6,8] rfl, ?_⟩
   refine A3 <| A0 <| A6 rfl rfl <| A6 rfl rfl <| P7 rfl rfl <| A6 rfl rfl ?_
   refine D7 rfl rfl (fun hg0 => ?_) (fun hg0 => ?_)
   ·have hg := hg0; try simp only [SG] at hg
    refine a3w rfl rfl rfl rfl rfl (by omega) rfl <| gT rfl rfl <| C5 rfl rfl rfl rfl rfl rfl <| F9 rfl (by assumption) rfl rfl <| A6 rfl rfl ?_
    refine D7 rfl rfl (fun hg0 => ?_) (fun hg0 => ?_)
    ·have hg := hg0; try simp only [SG] at hg
     refine A6 rfl rfl <| gT rfl rfl <| A6 rfl rfl <| gT rfl rfl <| I3 rfl rfl (F8 (by omega)) <| gT rfl rfl <| P7 rfl rfl <| gT rfl rfl <| A6 rfl rfl ?_
     refine D7 rfl rfl (fun hg0 => ?_) (fun hg0 => ?_)
     ·have hg := hg0; try simp only [SG] at hg
      refine a3w rfl rfl rfl rfl rfl (by omega) rfl <| gT rfl rfl <| C5 rfl rfl rfl rfl rfl rfl <| gT rfl rfl <| F9 rfl (by assumption) rfl rfl <| F7 rfl (by assumption) rfl rfl <| M5 rfl ?_
      refine A5 ⟨nofun, _, kS [3,4,5,6,8,10,38,39,40,62] [3,4,6,8] rfl, ?_⟩
      refine A8 rfl (fun hc => ?_) (fun hc => ?_)
      ·try simp only [SG, List.length_map] at hc
       refine A0 <| A6 rfl rfl <| A6 rfl rfl <| D3 (es := List.map tV [_]) rfl rfl (of_decide_eq_true rfl) rfl rfl (fun _ => B1 (A9 fun _ => rfl)) (fun _ => rfl) ?_
       intro g65
       refine H0 rfl rfl rfl rfl (by (simp; done)) (by simp) (by decide) rfl rfl rfl rfl (of_decide_eq_true rfl) (fun _ => ⟨rfl, rfl⟩) (by simp only [G7]; omega) (fun _ => rfl) ?_
       intro g66
       (refine B6 rfl rfl (by (simp; done)) rfl (fun _ => (B1 (by exact A9 fun _ => rfl))) (fun _ => rfl) ?_; intro g8)
       refine A5 ⟨nofun, _, kS [3,4,5,6,8,38,39,40] [3,4,6,8] rfl, ?_⟩
       refine A0 <| I3 rfl rfl (F8 (by omega)) <| A6 rfl rfl ?_
       refine A5 ⟨nofun, _, kS [3,4,5,6,8,38,39,40] [3,4,6,8] rfl, ?_⟩
       refine ⟨(k + 1, _, _), ⟨by omega, by (exfalso; omega)⟩, (by simp only; omega), ⟨rfl, rfl, rfl, rfl, rfl, rfl, rfl, rfl, rfl, rfl, rfl, rfl, trivial⟩⟩
      try simp only [SG, List.length_map] at hc
      refine B9 <| A0 <| I3 rfl rfl (F8 (by omega)) <| A6 rfl rfl ?_
      refine A5 ⟨nofun, _, kS [3,4,5,6,8,38,39,40] [3,4,6,8] rfl, ?_⟩
      refine ⟨(k + 1, _, _), ⟨by omega, by (exfalso; omega)⟩, (by simp only; omega), ⟨rfl, rfl, rfl, rfl, rfl, rfl, rfl, rfl, rfl, rfl, rfl, rfl, trivial⟩⟩
     have hg := hg0; try simp only [SG] at hg
     refine gF rfl rfl <| gT rfl rfl <| F7 rfl (by assumption) rfl rfl <| F7 rfl (by assumption) rfl rfl <| M5 rfl ?_
     refine A5 ⟨nofun, _, kS [3,4,5,6,8,10,38,39,40,62] [3,4,6,8] rfl, ?_⟩
     refine A8 rfl (fun hc => ?_) (fun hc => absurd hc (by decide))
     refine A0 <| A6 rfl rfl <| A6 rfl rfl <| D3 (es := List.map tV [_]) rfl rfl (of_decide_eq_true rfl) rfl rfl (fun _ => B1 (A9 fun _ => rfl)) (fun _ => rfl) ?_
     intro g65
     refine H0 rfl rfl rfl rfl (by (simp; done)) (by simp) (by decide) rfl rfl rfl rfl (of_decide_eq_true rfl) (fun _ => ⟨rfl, rfl⟩) (by simp only [G7]; (simp only [List.length_nil, List.length_cons, List.length_append, Nat.zero_add, List.length_map]; omega)) (fun _ => rfl) ?_
     intro g66
     (refine B6 rfl rfl (by (simp; done)) rfl (fun _ => (B1 (by exact A9 fun _ => rfl))) (fun _ => rfl) ?_; intro g8)
     refine A5 ⟨nofun, _, kS [3,4,5,6,8,38,39,40] [3,4,6,8] rfl, ?_⟩
     refine A0 <| I3 rfl rfl (F8 (by omega)) <| A6 rfl rfl ?_
     refine A5 ⟨nofun, _, kS [3,4,5,6,8,38,39,40] [3,4,6,8] rfl, ?_⟩
     refine ⟨(k + 1, _, _), ⟨by omega, by exact b4p hls (by rintro (⟨h1, h2⟩ | ⟨h1, h2⟩) <;> first | omega | exact Bool.noConfusion (h2.symm.trans (show x = false by assumption)))⟩, (by simp only; omega), ⟨rfl, rfl, rfl, rfl, rfl, rfl, rfl, rfl, rfl, rfl, rfl, rfl, trivial⟩⟩
    have hg := hg0; try simp only [SG] at hg
    refine gF rfl rfl <| gF rfl rfl <| gF rfl rfl <| gF rfl rfl <| b7i rfl rfl <| b7i rfl rfl <| gF rfl rfl <| F9 rfl (by assumption) rfl rfl <| M5 rfl ?_
    refine A5 ⟨nofun, _, kS [3,4,5,6,8,10,38,39,40,62] [3,4,6,8] rfl, ?_⟩
    refine A8 rfl (fun hc => absurd hc (by decide)) (fun hc => ?_)
    refine B9 <| A0 <| I3 rfl rfl (F8 (by omega)) <| A6 rfl rfl ?_
    refine A5 ⟨nofun, _, kS [3,4,5,6,8,38,39,40] [3,4,6,8] rfl, ?_⟩
    refine ⟨(k + 1, _, _), ⟨by omega, by exact b7r hls (.inl ⟨by omega, by assumption⟩)⟩, (by simp only; omega), ⟨rfl, rfl, rfl, rfl, rfl, rfl, rfl, rfl, rfl, rfl, rfl, rfl, trivial⟩⟩
   have hg := hg0; try simp only [SG] at hg
   refine gF rfl rfl <| F7 rfl (by assumption) rfl rfl <| A6 rfl rfl <| L0 rfl rfl rfl <| A6 rfl rfl <| L0 rfl rfl rfl <| A6 rfl rfl <| L0 rfl rfl rfl <| I3 rfl rfl (F8 (by omega)) <| L0 rfl rfl rfl <| P7 rfl rfl <| L0 rfl rfl rfl <| A6 rfl rfl ?_
   refine D7 rfl rfl (fun hg0 => ?_) (fun hg0 => ?_)
   ·have hg := hg0; try simp only [SG] at hg
    refine a3w rfl rfl rfl rfl rfl (by omega) rfl <| gT rfl rfl <| C5 rfl rfl rfl rfl rfl rfl <| L0 rfl rfl rfl <| F9 rfl (by assumption) rfl rfl <| F7 rfl rfl rfl rfl <| M5 rfl ?_
    refine A5 ⟨nofun, _, kS [3,4,5,6,8,10,38,39,40,62] [3,4,6,8] rfl, ?_⟩
    refine A8 rfl (fun hc => ?_) (fun hc => ?_)
    ·try simp only [SG, List.length_map] at hc
     refine A0 <| A6 rfl rfl <| A6 rfl rfl <| D3 (es := List.map tV [_]) rfl rfl (of_decide_eq_true rfl) rfl rfl (fun _ => B1 (A9 fun _ => rfl)) (fun _ => rfl) ?_
     intro g65
     refine H0 rfl rfl rfl rfl (by (simp; done)) (by simp) (by decide) rfl rfl rfl rfl (of_decide_eq_true rfl) (fun _ => ⟨rfl, rfl⟩) (by simp only [G7]; (simp only [List.length_nil, List.length_cons, List.length_append, Nat.zero_add, List.length_map]; omega)) (fun _ => rfl) ?_
     intro g66
     (refine B6 rfl rfl (by (simp; done)) rfl (fun _ => (B1 (by exact A9 fun _ => rfl))) (fun _ => rfl) ?_; intro g8)
     refine A5 ⟨nofun, _, kS [3,4,5,6,8,38,39,40] [3,4,6,8] rfl, ?_⟩
     refine A0 <| I3 rfl rfl (F8 (by omega)) <| A6 rfl rfl ?_
     refine A5 ⟨nofun, _, kS [3,4,5,6,8,38,39,40] [3,4,6,8] rfl, ?_⟩
     refine ⟨(k + 1, _, _), ⟨by omega, by exact b4p hls (by rintro (⟨h1, h2⟩ | ⟨h1, h2⟩) <;> first | omega | exact Bool.noConfusion (h2.symm.trans (show y = false by assumption)))⟩, (by simp only; omega), ⟨rfl, rfl, rfl, rfl, rfl, rfl, rfl, rfl, rfl, rfl, rfl, rfl, trivial⟩⟩
    try simp only [SG, List.length_map] at hc
    refine B9 <| A0 <| I3 rfl rfl (F8 (by omega)) <| A6 rfl rfl ?_
    refine A5 ⟨nofun, _, kS [3,4,5,6,8,38,39,40] [3,4,6,8] rfl, ?_⟩
    refine ⟨(k + 1, _, _), ⟨by omega, by exact b7r hls (.inr ⟨by omega, by assumption⟩)⟩, (by simp only; omega), ⟨rfl, rfl, rfl, rfl, rfl, rfl, rfl, rfl, rfl, rfl, rfl, rfl, trivial⟩⟩
   have hg := hg0; try simp only [SG] at hg
   refine gF rfl rfl <| L0 rfl rfl rfl <| F7 rfl (by assumption) rfl rfl <| F7 rfl rfl rfl rfl <| M5 rfl ?_
   refine A5 ⟨nofun, _, kS [3,4,5,6,8,10,38,39,40,62] [3,4,6,8] rfl, ?_⟩
   refine A8 rfl (fun hc => ?_) (fun hc => absurd hc (by decide))
   refine A0 <| A6 rfl rfl <| A6 rfl rfl <| D3 (es := List.map tV [_]) rfl rfl (of_decide_eq_true rfl) rfl rfl (fun _ => B1 (A9 fun _ => rfl)) (fun _ => rfl) ?_
   intro g65
   refine H0 rfl rfl rfl rfl (by (simp; done)) (by simp) (by decide) rfl rfl rfl rfl (of_decide_eq_true rfl) (fun _ => ⟨rfl, rfl⟩) (by simp only [G7]; (simp only [List.length_nil, List.length_cons, List.length_append, Nat.zero_add, List.length_map]; omega)) (fun _ => rfl) ?_
   intro g66
   (refine B6 rfl rfl (by (simp; done)) rfl (fun _ => (B1 (by exact A9 fun _ => rfl))) (fun _ => rfl) ?_; intro g8)
   refine A5 ⟨nofun, _, kS [3,4,5,6,8,38,39,40] [3,4,6,8] rfl, ?_⟩
   refine A0 <| I3 rfl rfl (F8 (by omega)) <| A6 rfl rfl ?_
   refine A5 ⟨nofun, _, kS [3,4,5,6,8,38,39,40] [3,4,6,8] rfl, ?_⟩
   refine ⟨(k + 1, _, _), ⟨by omega, by exact b4p hls (by rintro (⟨h1, h2⟩ | ⟨h1, h2⟩) <;> omega)⟩, (by simp only; omega), ⟨rfl, rfl, rfl, rfl, rfl, rfl, rfl, rfl, rfl, rfl, rfl, rfl, trivial⟩⟩
  try simp only [SG, List.length_map] at hc
  refine I5 <| A0 <| A6 rfl rfl <| A6 rfl rfl ?_
  apply C7 rfl
  ·apply B0
   ·exact Q6 rfl rfl rfl (by (simp; done)) (fun _ => rfl)
   apply B0
   ·exact B4 rfl
   exact C6
  ·exact d2p ls 32 (by simp only [G7]; omega) (by rw [hls]; have := c9g (i := i) (x := x) (y := y) hjl (show k = ws.length by omega); simp only [G7]; omega)
  ·exact ⟨rfl, rfl, rfl, of_decide_eq_true rfl, rfl⟩
  ·exact .inr ⟨rfl, rfl⟩
  ·exact B2
  ·exact C1 rfl
  ·exact fun _ => rfl
  intro g70
  refine D3 (es := List.map tV [_]) rfl rfl (of_decide_eq_true rfl) rfl rfl (fun _ => B1 (A9 fun _ => rfl)) (fun _ => rfl) ?_
  intro g71
  refine H0 rfl rfl rfl rfl (by (simp; done)) (by simp) (by decide) rfl rfl rfl rfl (of_decide_eq_true rfl) (fun _ => ⟨rfl, rfl⟩) (by simp only [G7]; (simp only [List.length_nil, List.length_cons, List.length_append, Nat.zero_add, List.length_map]; omega)) (fun _ => rfl) ?_
  intro g72
  (refine B6 rfl rfl (by (simp; done)) rfl (fun _ => (B1 (by exact A9 fun _ => rfl))) (fun _ => rfl) ?_; intro g4)
  refine A5 ⟨nofun, _, kS [3,4,5] [3,4] rfl, ?_⟩
  refine A0 <| A6 rfl rfl <| I3 rfl rfl (F8 (by omega)) <| A4 rfl rfl rfl ?_
  refine A5 ⟨nofun, _, kS [3,4,5] [3,4] rfl, ?_⟩
  refine ⟨(i + 1, _, _), ⟨by omega, by rw [hitsN, List.map_append, hus, b5b, hkey]; (rw [hls, show k = ws.length by omega]; rfl)⟩, (by simp only; omega), ⟨rfl, rfl, rfl, rfl, rfl, trivial⟩⟩
 try simp only [SG, List.length_map] at hc
 refine I5 <| A3 <| A0 <| A6 rfl rfl ?_
 apply C7 rfl
 ·apply B0
  ·exact d5a rfl rfl (by (simp; done)) (A9 fun _ => rfl)
  exact C6
 ·exact d4j us (by simp only [G7]; omega)
 ·exact ⟨rfl, rfl, rfl, of_decide_eq_true rfl, rfl⟩
 ·exact .inl rfl
 ·exact B2
 ·exact O7
 ·exact fun _ => rfl
 intro g74
 simp only [List.length_map]
 (refine B6 rfl rfl (by (simp; done)) rfl (fun _ => (B1 (by exact A9 fun _ => rfl))) (fun _ => rfl) ?_; intro g2)
 refine A5 ⟨nofun, _, kS [2] [2] rfl, ?_⟩
 refine B3 <| Z3 rfl rfl (by simp) (by exact A9 fun _ => rfl) trivial ?_
 rw [hus, show i = ws.length - 1 by omega, b3a]

theorem keep_s_normalS : G3 Tryz.f40 = [0, 2, 1, 3, 8] := by kernel_rfl
set_option maxHeartbeats 20000000 in
theorem d0e (t : Pl) (hsz : t.sz ≤ 1000) (hgd : t.good) (hwf : t.wf) : CW (cxT oG) 40 [trK t] = some (trV (normP t), []) := by
 refine G5 rfl Tryz.func40 rfl ⟨by kernel_rfl, rfl, of_decide_eq_true rfl, of_decide_eq_true rfl, by decide⟩ keep_s_normalS <| A3 <| A0 <| b0r rfl rfl rfl (fun _ => B7 rfl) (fun _ => rfl) ?_
 intro g1
 refine H2 rfl (fun _ => B7 rfl) (fun _ => rfl) ?_
 intro g2
 refine A5 ⟨nofun, _, kS [1,2] [1,2] rfl, ?_⟩
 refine E3 ?_
 rw [← a4z]
 refine J8 (β := Pl) [(.t 1, _), (.t 2, _), (.h 2, _)] (fun (u : Pl) => [(.h 1, .obj g1 3 3 [trV u])]) (fun (u : Pl) => u.sz ≤ t.sz ∧ u.good ∧ u.wf ∧ normP u = normP t) (fun (u : Pl) => u.sz) t ⟨rfl, rfl, rfl, rfl, trivial⟩ ⟨Nat.le_refl _, hgd, hwf, rfl⟩ ?_
 intro u hb
 obtain ⟨hus, hug, huw, hun⟩ := hb
 refine E3 <| A3 <| A0 <| F5 rfl rfl rfl rfl rfl ?_
 rw [a4z]
 apply C7 rfl
 ·apply B0
  ·exact B4 rfl
  exact C6
 ·exact d0m u (by omega) hug
 ·exact ⟨rfl, rfl, rfl, of_decide_eq_true rfl, rfl⟩
 ·exact .inl rfl
 ·exact B2
 ·exact O7
 ·exact fun _ => rfl
 intro g5
 simp only [List.length_map]
 (refine B6 rfl rfl (by (simp; done)) rfl (fun _ => (B1 (by exact A9 fun _ => rfl))) (fun _ => rfl) ?_; intro g3)
 refine A5 ⟨nofun, _, kS [1,2,3] [1,2,3] rfl, ?_⟩
 refine A3 <| A3 <| A0 <| A6 rfl rfl <| M3 rfl rfl <| P7 rfl rfl ?_
 refine A5 ⟨nofun, _, kS [1,2,3,8] [1,2,3] rfl, ?_⟩
 refine A8 rfl (fun hc => ?_) (fun hc => ?_)
 ·try simp only [SG, List.length_map] at hc
  refine A3 <| A0 <| F5 rfl rfl rfl rfl rfl <| C0 rfl rfl rfl rfl ⟨by decide, rfl, of_decide_eq_true rfl, of_decide_eq_true rfl, rfl⟩ rfl (by exact B7 rfl) ?_
  refine A5 ⟨nofun, _, kS [2] [2] rfl, ?_⟩
  refine B3 <| D6 (F6 rfl rfl rfl rfl (E6 rfl (E6 rfl (E6 rfl H6))) (E8 C8)) ?_
  rw [← hun, V8 (List.length_eq_zero_iff.1 (by omega))]
  exact (a4z u).symm
 try simp only [SG, List.length_map] at hc
 have hmem : (oneP u).getD 0 default ∈ oneP u := S7 (by omega)
 have hok := Q0 u huw _ hmem
 refine B9 <| A0 <| A6 rfl rfl <| J3 rfl rfl rfl rfl (by (change 0 < _; omega)) (by (simp; done)) rfl <| K6 rfl rfl (by (change 0 < _; omega)) (fun _ => rfl) (fun _ => rfl) rfl <| C0 rfl rfl rfl rfl ⟨by decide, rfl, of_decide_eq_true rfl, of_decide_eq_true rfl, rfl⟩ rfl (by exact B7 rfl) ?_
 refine A5 ⟨nofun, _, kS [1,2] [1,2] rfl, ?_⟩
 try rw [hg0]
 refine ⟨((oneP u).getD 0 default), ⟨by omega, a3r u hug _ hmem, hok.1, by rw [← hun]; exact c2s huw hmem⟩, (by omega), ⟨rfl, rfl, rfl, rfl, trivial⟩⟩

theorem keep_s_normalI : G3 Tryz.f38 = [0, 2, 3, 8] := by kernel_rfl
set_option maxHeartbeats 20000000 in
theorem d0d (t : Pl) (hwf : t.wf) (hsz : t.sz ≤ 1000) (hln : (showP t).length ≤ 1048576) : CW (cxT (some rG)) 38 [tV (showP t)] = some (tV (showP (normP t)), []) := by
 refine G5 rfl Tryz.func38 rfl ⟨by kernel_rfl, rfl, of_decide_eq_true rfl, of_decide_eq_true rfl, by decide⟩ keep_s_normalI <| A3 <| A0 <| A4 rfl rfl rfl ?_
 refine A5 ⟨nofun, _, kS [0] [] rfl, ?_⟩
 refine E3 <| c7c (β := Pl) (fun (u : Pl) => [(.t 0, tV (showP u))]) (fun (u : Pl) => u.sz ≤ t.sz ∧ u.wf ∧ (showP u).length ≤ (showP t).length ∧ normP u = normP t) (fun (u : Pl) => u.sz) t ⟨rfl, trivial⟩ ⟨Nat.le_refl _, hwf, Nat.le_refl _, rfl⟩ ?_
 intro u hb
 obtain ⟨hus, huw, hul, hun⟩ := hb
 refine E3 <| A3 <| A0 <| A6 rfl rfl ?_
 apply C7 rfl
 ·apply B0
  ·exact B4 rfl
  exact C6
 ·exact (by have hi := c7b (rG := rG) (showP u) (by omega) (by rw [a3x huw]; omega); rw [b4w huw] at hi; exact hi)
 ·exact ⟨rfl, rfl, rfl, of_decide_eq_true rfl, rfl⟩
 ·exact .inl rfl
 ·exact B2
 ·exact O7
 ·exact fun _ => rfl
 intro g5
 simp only [List.length_map]
 (refine B6 rfl rfl (by (simp; done)) rfl (fun _ => (B1 (by exact A9 fun _ => rfl))) (fun _ => rfl) ?_; intro g3)
 refine A5 ⟨nofun, _, kS [0,3] [3] rfl, ?_⟩
 refine A3 <| A3 <| A0 <| A6 rfl rfl <| M3 rfl rfl <| P7 rfl rfl ?_
 refine A5 ⟨nofun, _, kS [0,3,8] [3] rfl, ?_⟩
 refine A8 rfl (fun hc => ?_) (fun hc => ?_)
 ·try simp only [SG, List.length_map] at hc
  refine A3 <| A0 <| A6 rfl rfl <| A4 rfl rfl rfl ?_
  refine A5 ⟨nofun, _, kS [2] [] rfl, ?_⟩
  refine B3 <| D5 rfl rfl trivial ?_
  rw [← hun, V8 (List.length_eq_zero_iff.1 (by omega))]
 try simp only [SG, List.length_map] at hc
 have hmem : (oneP u).getD 0 default ∈ oneP u := S7 (by omega)
 have hok := Q0 u huw _ hmem
 have hsw := a5c u _ hmem
 have hg0 : ((oneP u).map showP).getD 0 default = showP ((oneP u).getD 0 default) := by rw [List.getD_eq_getElem?_getD, List.getD_eq_getElem?_getD, List.getElem?_map, List.getElem?_eq_getElem (by omega)]; rfl
 refine B9 <| A0 <| A6 rfl rfl <| J3 rfl rfl rfl rfl (by (change 0 < _; omega)) (by (simp; done)) rfl <| K6 rfl rfl (by (simp; omega)) (fun _ => rfl) (fun _ => rfl) rfl <| A4 rfl rfl rfl ?_
 refine A5 ⟨nofun, _, kS [0] [] rfl, ?_⟩
 try rw [hg0]
 refine ⟨((oneP u).getD 0 default), ⟨by omega, hok.1, by omega, by rw [← hun]; exact c2s huw hmem⟩, (by omega), ⟨rfl, trivial⟩⟩

theorem keep_s_OneRuleI : G3 Tryz.f19 = [0, 2, 5] := by kernel_rfl
set_option maxHeartbeats 20000000 in
theorem b4l (s : List UInt8) (hs : s.length ≤ 1048576) : CW (cxT (some rG)) 19 [tV s] = some (.own 1 ((c2t s).map tV), []) := by
 refine G5 rfl Tryz.func19 rfl ⟨by kernel_rfl, rfl, of_decide_eq_true rfl, of_decide_eq_true rfl, by decide⟩ keep_s_OneRuleI <| A3 <| A0 ?_
 (refine C3 rfl rfl (fun _ => rfl) ?_; intro g2)
 refine A5 ⟨nofun, _, kS [0] [] rfl, ?_⟩
 refine A3 <| A3 <| A0 <| A6 rfl rfl ?_
 apply C7 rfl
 ·apply B0
  ·exact B4 rfl
  exact C6
 ·exact a8y s hs
 ·exact ⟨rfl, rfl, rfl, of_decide_eq_true rfl, rfl⟩
 ·exact .inl rfl
 ·exact B2
 ·exact C1 rfl
 ·exact fun _ => rfl
 intro g4
 refine M5 rfl ?_
 refine A5 ⟨nofun, _, kS [0,5] [] rfl, ?_⟩
 refine A8 rfl (fun hc => ?_) (fun hc => ?_)
 ·try simp only [SG, List.length_map] at hc
  refine A3 <| A0 ?_
  (refine C3 rfl rfl (fun _ => rfl) ?_; intro g2)
  refine A5 ⟨nofun, _, kS [2] [2] rfl, ?_⟩
  refine B3 <| Z3 rfl rfl (by simp) (by rfl) trivial ?_
  rw [c8i hc]
  rfl
 try simp only [SG, List.length_map] at hc
 refine B9 <| A3 <| A0 <| A6 rfl rfl ?_
 obtain ⟨t, ht1, ht2, ht3⟩ := a6x hc
 obtain ⟨hst, hwf, hgd, hsl, hsz⟩ := X1 ht1
 apply C7 rfl
 ·apply B0
  ·exact B4 rfl
  exact C6
 ·exact (by have hi := c7b (rG := rG) s (by omega) (by rw [hst, a3x hwf]; omega); rw [hst, b4w hwf, ← hst] at hi; exact hi)
 ·exact ⟨rfl, rfl, rfl, of_decide_eq_true rfl, rfl⟩
 ·exact .inl rfl
 ·exact B2
 ·exact O7
 ·exact fun _ => rfl
 intro g7
 simp only [List.length_map]
 (refine B6 rfl rfl (by (simp; done)) rfl (fun _ => (B1 (by exact A9 fun _ => rfl))) (fun _ => rfl) ?_; intro g2)
 refine A5 ⟨nofun, _, kS [2] [2] rfl, ?_⟩
 refine B3 <| Z3 rfl rfl (by simp) (by exact A9 fun _ => rfl) trivial ?_
 rw [a9v ht1]

theorem keep_s_NormalOfS : G3 Tryz.f18 = [0, 2, 4, 11, 3, 7] := by kernel_rfl
set_option maxHeartbeats 20000000 in
theorem a5e (s : List UInt8) (hs : s.length ≤ 1048576) : CW (cxT oG) 18 [tV s] = some (tV (Y9 s), []) := by
 refine G5 rfl Tryz.func18 rfl ⟨by kernel_rfl, rfl, of_decide_eq_true rfl, of_decide_eq_true rfl, by decide⟩ keep_s_NormalOfS <| A3 <| A0 <| A4 rfl rfl rfl ?_
 refine A5 ⟨nofun, _, kS [0] [] rfl, ?_⟩
 refine A3 <| A0 <| A6 rfl rfl ?_
 apply C7 rfl
 ·apply B0
  ·exact B4 rfl
  exact C6
 ·exact c5r s hs
 ·exact ⟨rfl, rfl, rfl, of_decide_eq_true rfl, rfl⟩
 ·exact .inl rfl
 ·exact B2
 ·exact L9 rfl
 ·exact fun _ => rfl
 intro g7
 refine A6 rfl rfl <| B5 rfl rfl rfl <| B5 rfl rfl rfl <| H2 rfl (fun _ => B7 rfl) (fun _ => rfl) ?_
 intro g3
 refine C0 rfl rfl rfl rfl ⟨by decide, rfl, of_decide_eq_true rfl, of_decide_eq_true rfl, rfl⟩ rfl (by exact B7 rfl) <| A4 rfl rfl rfl ?_
 refine A5 ⟨nofun, _, kS [3,4] [3] rfl, ?_⟩
 refine A3 <| A3 <| A0 <| A6 rfl rfl <| M5 rfl ?_
 refine A5 ⟨nofun, _, kS [3,11] [3] rfl, ?_⟩
 refine A8 rfl (fun hc => ?_) (fun hc => ?_)
 ·try simp only [SG, List.length_map] at hc
  refine A3 <| A0 <| A4 rfl rfl rfl ?_
  refine A5 ⟨nofun, _, kS [2] [] rfl, ?_⟩
  refine B3 <| D5 rfl rfl trivial ?_
  rw [a6s hc]
  rfl
 try simp only [SG, List.length_map] at hc
 refine B9 <| A3 <| A0 <| F5 rfl rfl rfl rfl rfl ?_
 obtain ⟨t, ht1, ht2, ht3⟩ := a6x hc
 obtain ⟨hst, hwf, hgd, hsl, hsz⟩ := X1 ht1
 rw [ht2, a4z]
 apply C7 rfl
 ·apply B0
  ·exact B4 rfl
  exact C6
 ·exact d0e t (by omega) hgd hwf
 ·exact ⟨rfl, rfl, rfl, of_decide_eq_true rfl, rfl⟩
 ·exact .inl rfl
 ·exact B2
 ·exact C1 rfl
 ·exact fun _ => rfl
 intro g13
 have hnl := a9c s
 rw [a1a ht1] at hnl
 rw [a4z]
 apply C7 rfl
 ·apply B0
  ·exact B4 rfl
  exact C6
 ·exact c5q (normP t) (by omega) (b6q hwf hgd)
 ·exact ⟨rfl, rfl, rfl, of_decide_eq_true rfl, rfl⟩
 ·exact .inl rfl
 ·exact B2
 ·exact C1 rfl
 ·exact fun _ => rfl
 intro g14
 refine A4 rfl rfl rfl ?_
 refine A5 ⟨nofun, _, kS [2] [] rfl, ?_⟩
 refine B3 <| D5 rfl rfl trivial ?_
 rw [a1a ht1]

theorem keep_s_NormalOfI : G3 Tryz.f17 = [0, 2, 5] := by kernel_rfl
set_option maxHeartbeats 20000000 in
theorem b1g (s : List UInt8) (hs : s.length ≤ 1048576) : CW (cxT (some rG)) 17 [tV s] = some (tV (Y9 s), []) := by
 refine G5 rfl Tryz.func17 rfl ⟨by kernel_rfl, rfl, of_decide_eq_true rfl, of_decide_eq_true rfl, by decide⟩ keep_s_NormalOfI <| A3 <| A0 <| A4 rfl rfl rfl ?_
 refine A5 ⟨nofun, _, kS [0] [] rfl, ?_⟩
 refine A3 <| A3 <| A0 <| A6 rfl rfl ?_
 apply C7 rfl
 ·apply B0
  ·exact B4 rfl
  exact C6
 ·exact a8y s hs
 ·exact ⟨rfl, rfl, rfl, of_decide_eq_true rfl, rfl⟩
 ·exact .inl rfl
 ·exact B2
 ·exact C1 rfl
 ·exact fun _ => rfl
 intro g4
 refine M5 rfl ?_
 refine A5 ⟨nofun, _, kS [0,5] [] rfl, ?_⟩
 refine A8 rfl (fun hc => ?_) (fun hc => ?_)
 ·try simp only [SG, List.length_map] at hc
  refine A3 <| A0 <| A4 rfl rfl rfl ?_
  refine A5 ⟨nofun, _, kS [2] [] rfl, ?_⟩
  refine B3 <| D5 rfl rfl trivial ?_
  rw [a6s hc]
  rfl
 try simp only [SG, List.length_map] at hc
 refine B9 <| A3 <| A0 <| A6 rfl rfl ?_
 obtain ⟨t, ht1, ht2, ht3⟩ := a6x hc
 obtain ⟨hst, hwf, hgd, hsl, hsz⟩ := X1 ht1
 subst hst
 apply C7 rfl
 ·apply B0
  ·exact B4 rfl
  exact C6
 ·exact d0d t hwf (by omega) (by omega)
 ·exact ⟨rfl, rfl, rfl, of_decide_eq_true rfl, rfl⟩
 ·exact .inl rfl
 ·exact B2
 ·exact C1 rfl
 ·exact fun _ => rfl
 intro g7
 refine A4 rfl rfl rfl ?_
 refine A5 ⟨nofun, _, kS [2] [] rfl, ?_⟩
 refine B3 <| D5 rfl rfl trivial ?_
 rw [a1a ht1]

theorem keep_s_pick : G3 Tryz.f46 = [0, 1, 4, 24, 5, 36, 6] := by kernel_rfl
set_option maxHeartbeats 20000000 in
theorem a0e (bs : List Int) (p : Int) (hbs : a3m bs) (hl : bs.length ≤ 1048576) (hp : 0 ≤ p ∧ p ≤ 1000000000) (n : Int) (hn : n ≤ 1000000000) : ∃ res outs, (fun res outs => ∃ k, res = iV k ∧ outs = [[rdr bs (p + 1)]] ∧ (1 ≤ n → 0 ≤ k ∧ k < n) ∧ (n < 1 → k = 0)) res outs ∧ CW (cxT oG) 46 [.ownp [rdr bs p] 0 0, iV n] = some (res, outs) := by
 refine S5 rfl Tryz.func46 rfl ⟨by kernel_rfl, rfl, of_decide_eq_true rfl, of_decide_eq_true rfl, by decide⟩ keep_s_pick <| A3 <| A0 <| A4 rfl rfl rfl ?_
 refine A5 ⟨nofun, _, kS [0,1] [0] rfl, ?_⟩
 refine A3 <| A0 <| A6 rfl rfl <| A6 rfl rfl <| N0 rfl rfl rfl <| C4 rfl rfl (of_decide_eq_true rfl) rfl rfl <| C5 rfl rfl rfl rfl rfl rfl <| I3 rfl rfl (F8 (by omega)) <| N0 rfl rfl rfl <| C4 rfl rfl (of_decide_eq_true rfl) rfl rfl <| b9p rfl rfl rfl rfl rfl ⟨by decide, rfl, of_decide_eq_true rfl, of_decide_eq_true rfl, rfl⟩ (by exact c8m rfl) ?_
 refine A5 ⟨nofun, _, kS [0,1] [0] rfl, ?_⟩
 refine A3 <| A3 <| A0 <| A6 rfl rfl <| K8 rfl rfl <| A6 rfl rfl ?_
 refine D7 rfl rfl (fun hg0 => ?_) (fun hg0 => ?_)
 ·have hg := hg0; try simp only [SG] at hg
  refine A6 rfl rfl <| gT rfl rfl <| N0 rfl rfl rfl <| gT rfl rfl <| C4 rfl rfl (of_decide_eq_true rfl) rfl rfl <| gT rfl rfl <| C5 rfl rfl rfl rfl rfl rfl <| gT rfl rfl <| H5 rfl rfl <| gT rfl rfl <| P7 rfl rfl <| F7 rfl (by assumption) rfl rfl ?_
  refine A5 ⟨nofun, _, kS [0,1,24] [0] rfl, ?_⟩
  refine A8 rfl (fun hc => ?_) (fun hc => ?_)
  ·try simp only [SG, List.length_map] at hc
   refine A3 <| A0 <| A4 rfl rfl rfl ?_
   refine A5 ⟨nofun, _, kS [4] [0] rfl, ?_⟩
   refine B3 ?_
   refine ⟨_, _, ?_, J2 rfl rfl (I8 rfl rfl)⟩
   refine ⟨_, rfl, rfl, fun h => ?_, fun h => ?_⟩
   ·omega
   omega
  try simp only [SG, List.length_map] at hc
  refine B9 <| A3 <| A0 <| A6 rfl rfl <| N0 rfl rfl rfl <| C4 rfl rfl (of_decide_eq_true rfl) rfl rfl <| C5 rfl rfl rfl rfl rfl rfl <| a1f rfl rfl (F8 (by omega)) <| A4 rfl rfl rfl ?_
  refine A5 ⟨nofun, _, kS [0,1,5] [0] rfl, ?_⟩
  refine A3 <| A3 <| A0 <| A6 rfl rfl <| A6 rfl rfl <| N0 rfl rfl rfl <| C4 rfl rfl (of_decide_eq_true rfl) rfl rfl <| C5 rfl rfl rfl rfl rfl rfl <| H5 rfl rfl <| K8 rfl rfl ?_
  refine A5 ⟨nofun, _, kS [0,1,5,36] [0] rfl, ?_⟩
  refine A8 rfl (fun hc => ?_) (fun hc => ?_)
  ·try simp only [SG, List.length_map] at hc
   refine A3 <| A0 <| A6 rfl rfl <| N0 rfl rfl rfl <| C4 rfl rfl (of_decide_eq_true rfl) rfl rfl <| C5 rfl rfl rfl rfl rfl rfl <| A6 rfl rfl <| L3 rfl rfl rfl (fun _ => rfl) (by omega) <| G0 rfl rfl rfl <| a9g rfl rfl rfl (F8 (by have := hbs.getD (p + 1 - 1).toNat; omega)) <| A6 rfl rfl ?_
   have hk := hbs.getD (p + 1 - 1).toNat
   refine c0d rfl rfl (by omega) <| A4 rfl rfl rfl ?_
   refine A5 ⟨nofun, _, kS [4] [0] rfl, ?_⟩
   refine B3 ?_
   refine ⟨_, _, ?_, J2 rfl rfl (I8 rfl rfl)⟩
   refine ⟨_, rfl, rfl, fun h => ?_, fun h => ?_⟩
   ·exact b2c (by omega) (by omega)
   omega
  try simp only [SG, List.length_map] at hc
  refine B9 <| A3 <| A0 <| A6 rfl rfl <| N0 rfl rfl rfl <| C4 rfl rfl (of_decide_eq_true rfl) rfl rfl <| C5 rfl rfl rfl rfl rfl rfl <| A6 rfl rfl <| A6 rfl rfl <| N0 rfl rfl rfl <| C4 rfl rfl (of_decide_eq_true rfl) rfl rfl <| C5 rfl rfl rfl rfl rfl rfl <| H5 rfl rfl ?_
  have hlen : 0 < (bs.length : Int) := by omega
  refine c0d rfl rfl (by omega) ?_
  have hm1 := b2c (a := p + 1 - 1) (by omega) hlen
  refine L3 rfl rfl rfl (fun _ => rfl) (by omega) <| G0 rfl rfl rfl <| a9g rfl rfl rfl (F8 (by have := hbs.getD ((p + 1 - 1).tmod bs.length).toNat; omega)) ?_
  have hk := hbs.getD ((p + 1 - 1).tmod bs.length).toNat
  refine b0t rfl rfl (F8 (by omega)) <| A6 rfl rfl <| N0 rfl rfl rfl <| C4 rfl rfl (of_decide_eq_true rfl) rfl rfl <| C5 rfl rfl rfl rfl rfl rfl <| A6 rfl rfl <| b0t rfl rfl (F8 (by omega)) <| I3 rfl rfl (F8 (by omega)) <| A6 rfl rfl <| N0 rfl rfl rfl <| C4 rfl rfl (of_decide_eq_true rfl) rfl rfl <| C5 rfl rfl rfl rfl rfl rfl <| H5 rfl rfl <| c0d rfl rfl (by omega) ?_
  have hm2 := b2c (a := (p + 1 - 1) * 7 + 3) (by omega) hlen
  refine L3 rfl rfl rfl (fun _ => rfl) (by omega) <| G0 rfl rfl rfl <| a9g rfl rfl rfl (F8 (by have := hbs.getD (((p + 1 - 1) * 7 + 3).tmod bs.length).toNat; omega)) ?_
  have hk2 := hbs.getD (((p + 1 - 1) * 7 + 3).tmod bs.length).toNat
  refine b0t rfl rfl (F8 (by omega)) <| I3 rfl rfl (F8 (by omega)) <| A6 rfl rfl <| b0t rfl rfl (F8 (by omega)) <| I3 rfl rfl (F8 (by omega)) <| A6 rfl rfl <| A6 rfl rfl <| N0 rfl rfl rfl <| C4 rfl rfl (of_decide_eq_true rfl) rfl rfl <| C5 rfl rfl rfl rfl rfl rfl <| H5 rfl rfl ?_
  have hd := c7o (a := p + 1 - 1) (b := bs.length) (by omega) (by omega)
  refine d3w rfl rfl ⟨by omega, F8 (by omega)⟩ <| b0t rfl rfl (F8 (by omega)) <| I3 rfl rfl (F8 (by omega)) <| A4 rfl rfl rfl ?_
  refine A5 ⟨fun _ => ⟨by decide +kernel, by decide +kernel⟩, [(.t 1, _), (.t 6, _), (.h 0, _)], ⟨rfl, rfl, rfl, rfl, rfl, rfl, trivial⟩, ?_⟩
  refine A3 <| A0 <| A6 rfl rfl <| A6 rfl rfl ?_
  have hd2 := c7o (a := (bs.getD ((p + 1 - 1).tmod bs.length).toNat default * 131 + bs.getD (((p + 1 - 1) * 7 + 3).tmod bs.length).toNat default * 1117 + (p + 1 - 1) * 29 + (p + 1 - 1).tdiv bs.length * 53)) (b := 64) (by omega) (by decide)
  refine d3w rfl rfl ⟨by omega, F8 (by omega)⟩ ?_
  have hx := d7m (x := (bs.getD ((p + 1 - 1).tmod bs.length).toNat default * 131 + bs.getD (((p + 1 - 1) * 7 + 3).tmod bs.length).toNat default * 1117 + (p + 1 - 1) * 29 + (p + 1 - 1).tdiv bs.length * 53)) (by omega) (y := (bs.getD ((p + 1 - 1).tmod bs.length).toNat default * 131 + bs.getD (((p + 1 - 1) * 7 + 3).tmod bs.length).toNat default * 1117 + (p + 1 - 1) * 29 + (p + 1 - 1).tdiv bs.length * 53).tdiv 64) (by omega)
  refine d7z rfl rfl <| A4 rfl rfl rfl ?_
  refine A5 ⟨nofun, _, kS [1,6] [0] rfl, ?_⟩
  refine A3 <| A0 <| A6 rfl rfl <| A6 rfl rfl <| c0d rfl rfl (by omega) <| A4 rfl rfl rfl ?_
  refine A5 ⟨nofun, _, kS [4] [0] rfl, ?_⟩
  refine B3 ?_
  refine ⟨_, _, ?_, J2 rfl rfl (I8 rfl rfl)⟩
  refine ⟨_, rfl, rfl, fun h => ?_, fun h => ?_⟩
  ·exact b2c (by omega) (by omega)
  omega
 have hg := hg0; try simp only [SG] at hg
 refine gF rfl rfl <| gF rfl rfl <| gF rfl rfl <| gF rfl rfl <| gF rfl rfl <| F9 rfl (by assumption) rfl rfl ?_
 refine A5 ⟨nofun, _, kS [0,1,24] [0] rfl, ?_⟩
 refine A8 rfl (fun hc => ?_) (fun hc => absurd hc (by decide))
 refine A3 <| A0 <| A4 rfl rfl rfl ?_
 refine A5 ⟨nofun, _, kS [4] [0] rfl, ?_⟩
 refine B3 ?_
 refine ⟨_, _, ?_, J2 rfl rfl (I8 rfl rfl)⟩
 refine ⟨_, rfl, rfl, fun h => ?_, fun h => ?_⟩
 ·omega
 omega

theorem keep_s_one : G3 Tryz.f45 = [0, 1, 4] := by kernel_rfl
set_option maxHeartbeats 20000000 in
theorem d3i (bs : List Int) (p : Int) (hbs : a3m bs) (hl : bs.length ≤ 1048576) (hp : 0 ≤ p ∧ p ≤ 1000000000) (xs : List Int) (hx : 1 ≤ xs.length ∧ xs.length ≤ 1000) : ∃ res outs, (fun res outs => ∃ k, res = iV k ∧ outs = [[rdr bs (p + 1)]] ∧ k ∈ xs) res outs ∧ CW (cxT oG) 45 [.ownp [rdr bs p] 0 0, L xs] = some (res, outs) := by
 refine S5 rfl Tryz.func45 rfl ⟨by kernel_rfl, rfl, of_decide_eq_true rfl, of_decide_eq_true rfl, by decide⟩ keep_s_one <| A3 <| A0 <| A4 rfl rfl rfl ?_
 refine A5 ⟨nofun, _, kS [0,1] [0] rfl, ?_⟩
 refine A3 <| A0 <| A6 rfl rfl <| A6 rfl rfl <| A6 rfl rfl <| H5 rfl rfl ?_
 obtain ⟨_, _, ⟨k, rfl, rfl, hk1, hk2⟩, hC⟩ := a0e (oG := oG) bs p hbs hl hp xs.length (by omega)
 have hk1 := hk1 (by omega)
 apply C7 rfl
 ·apply B0
  ·exact K4 rfl (by decide) rfl
  apply B0
  ·exact B4 rfl
  exact C6
 ·exact hC
 ·exact ⟨rfl, rfl, rfl, of_decide_eq_true rfl, rfl⟩
 ·exact .inl rfl
 ·exact G8 rfl rfl rfl B2
 ·exact C1 rfl
 ·exact fun _ => rfl
 intro g9
 refine L3 rfl rfl rfl (fun _ => rfl) (by omega) <| G0 rfl rfl rfl <| A4 rfl rfl rfl ?_
 refine A5 ⟨nofun, _, kS [4] [0] rfl, ?_⟩
 refine B3 ?_
 refine ⟨_, _, ?_, J2 rfl rfl (I8 rfl rfl)⟩
 refine ⟨_, rfl, rfl, a1x (by omega)⟩

theorem keep_s_newReader : G3 Tryz.f24 = [0, 2, 5] := by kernel_rfl
set_option maxHeartbeats 20000000 in
theorem c2h (bs : List Int) (hl : bs.length ≤ 1048576) : ∃ res outs, (fun res outs => res = .ownp [rdr (bs.take 2000) 0] 0 0 ∧ outs = []) res outs ∧ CW (cxT oG) 24 [.list (bs.map uV)] = some (res, outs) := by
 refine S5 rfl Tryz.func24 rfl ⟨by kernel_rfl, rfl, of_decide_eq_true rfl, of_decide_eq_true rfl, by decide⟩ keep_s_newReader <| A3 <| A0 <| A4 rfl rfl rfl ?_
 refine A5 ⟨nofun, _, kS [0] [] rfl, ?_⟩
 refine A3 <| A3 <| A0 <| A6 rfl rfl <| H5 rfl rfl <| W6 rfl rfl ?_
 refine A5 ⟨nofun, _, kS [0,5] [] rfl, ?_⟩
 refine A8 rfl (fun hc => ?_) (fun hc => ?_)
 ·try simp only [SG, List.length_map] at hc
  refine A0 <| A6 rfl rfl <| M4 rfl rfl rfl (Mv.sized_map fun _ => rfl) (H8 rfl) I0 (by (simp; omega)) <| A4 rfl rfl rfl ?_
  refine A5 ⟨nofun, _, kS [0] [] rfl, ?_⟩
  refine A3 <| A0 <| A6 rfl rfl <| J4 (fs := [_, _]) rfl rfl rfl rfl rfl <| b0r rfl rfl rfl (fun _ => B7 rfl) (fun _ => rfl) ?_
  intro g10
  (refine a8x rfl rfl rfl rfl (fun _ => B7 rfl) (fun _ => rfl) ?_; intro g2)
  refine A5 ⟨nofun, _, kS [2] [2] rfl, ?_⟩
  refine B3 ?_
  refine ⟨_, _, ?_, c7z rfl rfl rfl C8⟩
  have e : rdr (bs.take 2000) 0 = .agg [.list ((bs.map uV).take 2000), iV 0] := by unfold rdr; rw [List.map_take]
  rw [e]
  exact ⟨rfl, rfl⟩
 try simp only [SG, List.length_map] at hc
 refine B9 <| A3 <| A0 <| A6 rfl rfl <| J4 (fs := [_, _]) rfl rfl rfl rfl rfl <| b0r rfl rfl rfl (fun _ => B7 rfl) (fun _ => rfl) ?_
 intro g10
 (refine a8x rfl rfl rfl rfl (fun _ => B7 rfl) (fun _ => rfl) ?_; intro g2)
 refine A5 ⟨nofun, _, kS [2] [2] rfl, ?_⟩
 refine B3 ?_
 refine ⟨_, _, ?_, c7z rfl rfl rfl C8⟩
 have e : bs.take 2000 = bs := List.take_of_length_le (by omega)
 rw [e]
 exact ⟨rfl, rfl⟩

theorem keep_s_ofT : G3 Tryz.f63 = [0, 1, 4] := by kernel_rfl
set_option maxHeartbeats 20000000 in
theorem b0o (bs : List Int) (p : Int) (hbs : a3m bs) (hl : bs.length ≤ 1048576) (hp : 0 ≤ p ∧ p ≤ 1000000000) (ss : List W8) (hs : 1 ≤ ss.length ∧ ss.length ≤ 1000) : ∃ res outs, (fun res outs => ∃ k, res = tV k ∧ outs = [[rdr bs (p + 1)]] ∧ k ∈ ss) res outs ∧ CW (cxT oG) 63 [.ownp [rdr bs p] 0 0, .list (ss.map tV)] = some (res, outs) := by
 refine S5 rfl Tryz.func63 rfl ⟨by kernel_rfl, rfl, of_decide_eq_true rfl, of_decide_eq_true rfl, by decide⟩ keep_s_ofT <| A3 <| A0 <| A4 rfl rfl rfl ?_
 refine A5 ⟨nofun, _, kS [0,1] [0] rfl, ?_⟩
 refine A3 <| A0 <| A6 rfl rfl <| A6 rfl rfl <| A6 rfl rfl <| H5 rfl rfl ?_
 obtain ⟨_, _, ⟨k, rfl, rfl, hk, -⟩, hC⟩ := a0e (oG := oG) bs (p) hbs hl (by omega) (ss.length) (by omega)
 have hk := hk (by omega)
 apply C7 rfl
 ·apply B0
  ·exact K4 rfl (by decide) rfl
  apply B0
  ·exact B4 rfl
  exact C6
 ·exact hC
 ·exact ⟨rfl, rfl, rfl, of_decide_eq_true rfl, rfl⟩
 ·exact .inl rfl
 ·exact G8 rfl rfl rfl B2
 ·exact C1 rfl
 ·exact fun _ => rfl
 intro g9
 refine L3 rfl rfl rfl (fun _ => rfl) (by omega) <| G0 rfl rfl rfl <| A4 rfl rfl rfl ?_
 refine A5 ⟨nofun, _, kS [4] [0] rfl, ?_⟩
 refine B3 ?_
 refine ⟨_, _, ?_, J2 rfl rfl (I8 rfl rfl)⟩
 refine ⟨_, rfl, rfl, S7 (by omega)⟩
end Go.Proofs.YtpjgdgnaeohmeaaGreatDoor
