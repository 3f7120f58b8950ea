/- What each function of the program gives on the abstract machine, part 1 of 2. Conditions: those in front of each theorem. -/
import Derived.Test.YtpjgdgnaeohmeaaMd
import Derived.Test.YtpjgdgnaeohmeaaChecked
import Derived.KernelRfl

set_option linter.unusedVariables false
set_option linter.unusedSimpArgs false
namespace Go.Proofs.Ytpjgdgnaeohmeaa
open Go Go.Mv Go.Proofs
set_option maxRecDepth 100000

theorem SD : (∀ {p : Prop} [Decidable p], (decide p = true) = p) ∧ (∀ {p : Prop} {_ : Decidable p}, decide p = false ↔ ¬p) ∧ (∀ (b : Bool), ((!b) = true) = (b = false)) ∧ (∀ (b : Bool), ((!b) = false) = (b = true)) ∧ (∀ {α : Type} [BEq α] [LawfulBEq α] {a b : α}, (a != b) = true ↔ a ≠ b) ∧
    (∀ {α : Type} [BEq α] [LawfulBEq α] {a b : α}, (a == b) = true ↔ a = b) ∧ (∀ {α : Type} (a b : α), (a ≠ b) = ¬a = b) ∧ (!true) = false ∧ (!false) = true ∧ (∀ {α : Type} [BEq α] [LawfulBEq α] {a b : α}, (a == b) = false ↔ a ≠ b) ∧ (∀ {α : Type} [BEq α] [LawfulBEq α] {a b : α}, (a != b) = false ↔ a = b) ∧
    (∀ {p : Prop} [Decidable p], ¬¬p ↔ p) ∧ (∀ {a b : Int}, ¬a < b ↔ b ≤ a) ∧ (∀ {a b : Int}, ¬a ≤ b ↔ b < a) :=
  ⟨@decide_eq_true_eq, @decide_eq_false_iff_not, @Bool.not_eq_true', @Bool.not_eq_false', @bne_iff_ne, @beq_iff_eq, @ne_eq, @Bool.not_true, @Bool.not_false, @beq_eq_false_iff_ne, @bne_eq_false_iff_eq, @Decidable.not_not, @Int.not_lt, @Int.not_le⟩
theorem SG : ((∀ {p : Prop} [Decidable p], (decide p = true) = p) ∧ (∀ {p : Prop} {_ : Decidable p}, decide p = false ↔ ¬p) ∧ (∀ (b : Bool), ((!b) = true) = (b = false)) ∧ (∀ (b : Bool), ((!b) = false) = (b = true)) ∧ (∀ {α : Type} [BEq α] [LawfulBEq α] {a b : α}, (a != b) = true ↔ a ≠ b) ∧
    (∀ {α : Type} [BEq α] [LawfulBEq α] {a b : α}, (a == b) = true ↔ a = b) ∧ (∀ {α : Type} (a b : α), (a ≠ b) = ¬a = b) ∧ (!true) = false ∧ (!false) = true ∧ (∀ {α : Type} [BEq α] [LawfulBEq α] {a b : α}, (a == b) = false ↔ a ≠ b) ∧ (∀ {α : Type} [BEq α] [LawfulBEq α] {a b : α}, (a != b) = false ↔ a = b) ∧
    (∀ {p : Prop} [Decidable p], ¬¬p ↔ p) ∧ (∀ {a b : Int}, ¬a < b ↔ b ≤ a) ∧ (∀ {a b : Int}, ¬a ≤ b ↔ b < a)) ∧
    (∀ (a b : Bool), ((a && b) = true) = (a = true ∧ b = true)) ∧ (∀ {x y : Bool}, (x && y) = false ↔ x = false ∨ y = false) ∧ (∀ (a b : Bool), ((a || b) = true) = (a = true ∨ b = true)) ∧ (∀ {x y : Bool}, (x || y) = false ↔ x = false ∧ y = false) :=
  ⟨SD, @Bool.and_eq_true, @Bool.and_eq_false_iff, @Bool.or_eq_true, @Bool.or_eq_false_iff⟩
def c2c (keep : List Nat) (A : Asr) : List Mv.Loc → Asr → Option Asr
  | l :: ls, B => match keepLoc keep l, Mv.look A l with
    | true, some a => c2c keep A ls ((l, a) :: B)
    | _, _ => none
  | [], B => some B
theorem b7v {keep : List Nat} {A : Asr} : ∀ (ls : List Mv.Loc) {B C : Asr}, KeepL keep A B → c2c keep A ls B = some C → KeepL keep A C
  | [], B, C, h, e => by simp only [c2c, Option.some.injEq] at e; rw [← e]; exact h
  | l :: ls, B, C, h, e => by
    simp only [c2c] at e
    split at e
    · exact b7v ls (show KeepL keep A ((l, _) :: B) from ⟨by assumption, by assumption, h⟩) e
    · cases e
theorem kS (ts hs : List Nat) {keep : List Nat} {A B : Asr} (h : c2c keep A (ts.map .t ++ hs.map .h) [] = some B) : KeepL keep A B := b7v _ (show KeepL keep A [] from trivial) h
section
variable {cx : Cx} {keep : List Nat} {ops0 : Array Oper} {r : List Oper} {A : Asr} {Q : Asr → List Log → Prop}
variable {d ty : Nat} {pos : String} {aft : Array Edge}
theorem gT {op : Op} {dst : Option Nat} {g dg : Nat} {want b : Bool} (hd : (ops0[g]?).bind (·.dst) = some dg) (hb : Mv.look A (.t dg) = some (.val (.bool b)))
    (h : XR cx keep ops0 (⟨dst, op, ty, pos, aft, none⟩ :: r) A fun A' lg => Q A' (b6t (.t dg) lg)) (hw : b = want := by assumption) : XR cx keep ops0 (⟨dst, op, ty, pos, aft, some (g, want)⟩ :: r) A Q := B8 hd hb hw h
theorem gF {op : Op} {g dg : Nat} {want b : Bool} (hd : (ops0[g]?).bind (·.dst) = some dg) (hb : Mv.look A (.t dg) = some (.val (.bool b)))
    (h : XR cx keep ops0 r ((.t d, .val (.tuple #[])) :: A) fun A' lg => Q A' (([.t dg], [.t d]) :: lg)) (hw : b = !want := by assumption) : XR cx keep ops0 (⟨some d, op, ty, pos, aft, some (g, want)⟩ :: r) A Q := B2 hd hb hw h
end

def mdT : List (Nat × List Nat) := [(14, [2]), (15, [2]), (16, [1]), (36, [3, 3, 3, 3]), (37, [3, 3, 3, 3]), (38, [3, 3, 3, 3]), (39, [3, 3, 3, 3]), (40, [3, 3, 3, 3]), (41, [3, 3, 3, 3]), (42, [3, 3, 3, 3]), (56, [1]), (57, [1]), (61, [2]), (62, [3, 3, 3, 3]), (63, [3, 3, 3, 3]), (64, [3, 3, 3, 3]), (65, [3, 3, 3, 3]), (66, [3, 3, 3, 3]), (73, [3, 3, 3, 3])]
noncomputable def c6c : List (Nat × (List AV → Option (AV × List (List AV)))) := [(55, a1e), (56, a4s)]
noncomputable def cxT : Cx := { P := Try.prog, md := c6h mdT, ext := b6z c6c, it := fun _ => none, fz := fun k => [62, 73].contains k }
noncomputable def cxE : Cx := { P := Try.prog, md := c6h mdT, ext := fun _ => none, fz := fun k => [62, 73].contains k }
theorem b7o (xs : List Int) (hl : xs.length ≤ H8) : CW cxT 55 [.list (xs.map iV)] = some (.own 1 (xs.map iV), []) := b9v cxT rfl (by simp [a1e, b6v, hl])
theorem c5z (xs : List Int) (hl : xs.length ≤ H8) : CW cxT 56 [.own 1 (xs.map iV)] = some (.tup [], [(sortI xs).map iV]) := b9v cxT rfl (by simp [a4s, b6v, hl])

theorem keep_s_inRange : G4 Try.f44 = [0, 1, 2, 6] := by kernel_rfl
set_option maxHeartbeats 20000000 in
theorem F5 (n lo hi : Int) : CW cxT 44 [iV n, iV lo, iV hi] = some (bV (decide (lo ≤ n) && decide (n ≤ hi)), []) := by
 refine G5 rfl Try.func44 rfl ⟨by kernel_rfl, rfl, of_decide_eq_true rfl, of_decide_eq_true rfl, by decide⟩ keep_s_inRange <| A5 <| A0 <| A6 rfl rfl rfl ?_
 refine A4 ⟨nofun, _, kS [0,1,2] [] rfl, ?_⟩
 refine A5 <| A0 <| A3 rfl rfl <| A3 rfl rfl <| a0h rfl rfl <| A3 rfl rfl ?_
 refine B3 rfl rfl (fun hg0 => ?_) (fun hg0 => ?_)
 ·have hg := hg0; try simp only [SG] at hg
  refine A3 rfl rfl <| gT rfl rfl <| A3 rfl rfl <| gT rfl rfl <| a0h rfl rfl <| C0 rfl (by assumption) rfl rfl <| A6 rfl rfl rfl ?_
  refine A4 ⟨nofun, _, kS [6] [] rfl, ?_⟩
  refine C4 <| C1 rfl rfl trivial ?_
  simp_all [ofConst]; try omega
 have hg := hg0; try simp only [SG] at hg
 refine gF rfl rfl <| gF rfl rfl <| B6 rfl (by assumption) rfl rfl <| A6 rfl rfl rfl ?_
 refine A4 ⟨nofun, _, kS [6] [] rfl, ?_⟩
 refine C4 <| C1 rfl rfl trivial ?_
 simp_all [ofConst]; try omega

theorem keep_s_in : G4 Try.f51 = [0, 1, 2, 6] := by kernel_rfl
set_option maxHeartbeats 20000000 in
theorem c3x (n lo hi : Int) : CW cxT 51 [iV n, iV lo, iV hi] = some (bV (decide (lo ≤ n) && decide (n ≤ hi)), []) := by
 refine G5 rfl Try.func51 rfl ⟨by kernel_rfl, rfl, of_decide_eq_true rfl, of_decide_eq_true rfl, by decide⟩ keep_s_in <| A5 <| A0 <| A6 rfl rfl rfl ?_
 refine A4 ⟨nofun, _, kS [0,1,2] [] rfl, ?_⟩
 refine A5 <| A0 <| A3 rfl rfl <| A3 rfl rfl <| r8 rfl rfl <| A3 rfl rfl ?_
 refine B3 rfl rfl (fun hg0 => ?_) (fun hg0 => ?_)
 ·have hg := hg0; try simp only [SG] at hg
  refine A3 rfl rfl <| gT rfl rfl <| A3 rfl rfl <| gT rfl rfl <| a0h rfl rfl <| C0 rfl (by assumption) rfl rfl <| A6 rfl rfl rfl ?_
  refine A4 ⟨nofun, _, kS [6] [] rfl, ?_⟩
  refine C4 <| C1 rfl rfl trivial ?_
  simp_all [ofConst]; try omega
 have hg := hg0; try simp only [SG] at hg
 refine gF rfl rfl <| gF rfl rfl <| B6 rfl (by assumption) rfl rfl <| A6 rfl rfl rfl ?_
 refine A4 ⟨nofun, _, kS [6] [] rfl, ?_⟩
 refine C4 <| C1 rfl rfl trivial ?_
 simp_all [ofConst]; try omega

theorem keep_s_IndexFunc2 : G4 Try.f87 = [0, 1, 4, 8, 7, 9, 5, 16] := by kernel_rfl
set_option maxHeartbeats 20000000 in
theorem b0w (xs : List Int) (hl : xs.length ≤ 1000) (k : Nat) (a b : AV) (q : Int → Bool) (hq : ∀ x, CW cxT k [iV x, .ipt a 0, .ipt b 0] = some (bV (q x), [])) : ∃ res outs, (fun res outs => ∃ r : Int, res = iV r ∧ outs = [] ∧ decide (0 ≤ r) = xs.any q) res outs ∧ CW cxT 87 [L xs, .clo k [.ipt a 0, .ipt b 0]] = some (res, outs) := by
 refine N4 rfl Try.func87 rfl ⟨by kernel_rfl, rfl, of_decide_eq_true rfl, of_decide_eq_true rfl, by decide⟩ keep_s_IndexFunc2 <| A5 <| A0 <| A6 rfl rfl rfl ?_
 refine A4 ⟨nofun, _, kS [0,1] [] rfl, ?_⟩
 refine A5 <| A5 <| A0 <| A3 rfl rfl <| E3 rfl rfl <| A3 rfl rfl ?_
 refine A4 ⟨nofun, _, kS [0,1,7,8] [] rfl, ?_⟩
 refine D3 <| G1 (β := Nat) [(.t 0, _), (.t 1, _), (.t 7, _)] (fun (i : Nat) => [(.t 8, iV i)]) (fun (i : Nat) => i ≤ xs.length ∧ ∀ j, j < i → q (xs.getD j default) = false) (fun (i : Nat) => xs.length - i) 0 ⟨rfl, rfl, rfl, rfl, trivial⟩ ⟨Nat.zero_le _, fun j h => by omega⟩ ?_
 intro i hb
 obtain ⟨hi1, hi2⟩ := hb
 refine A5 <| A0 <| G7 rfl rfl ?_
 refine A4 ⟨nofun, _, kS [0,1,7,8,9] [] rfl, ?_⟩
 refine A5 ?_
 refine A8 rfl (fun hc => ?_) (fun hc => ?_)
 ·try simp only [SG, List.length_map] at hc
  refine B9 <| A5 <| D3 <| A5 <| A0 <| A3 rfl rfl <| A6 rfl rfl rfl ?_
  refine A4 ⟨nofun, _, kS [0,1,5,7,8] [] rfl, ?_⟩
  refine A5 <| A0 <| A3 rfl rfl <| A3 rfl rfl <| A3 rfl rfl <| C9 rfl rfl rfl (fun _ => rfl) (by omega) <| D7 rfl rfl rfl ?_
  apply b7p rfl rfl
  ·apply B1
   ·exact B0 rfl
   apply B1
   ·exact B0 rfl
   apply B1
   ·exact B0 rfl
   exact D5
  ·exact hq (xs.getD i default)
  ·exact ⟨rfl, rfl, rfl, of_decide_eq_true rfl, rfl⟩
  ·exact .inl rfl
  ·exact C6
  ·exact C7 rfl
  ·exact fun _ => rfl
  intro g16
  refine A4 ⟨nofun, _, kS [0,1,5,7,8,16] [] rfl, ?_⟩
  refine A8 rfl (fun hc => ?_) (fun hc => ?_)
  ·try simp only [SG, List.length_map] at hc
   refine A5 <| A0 <| A3 rfl rfl <| A6 rfl rfl rfl ?_
   refine A4 ⟨nofun, _, kS [4] [] rfl, ?_⟩
   refine C4 ?_
   refine ⟨_, _, ?_, K4 rfl rfl H0⟩
   exact ⟨_, rfl, rfl, c3w (by omega) hc⟩
  try simp only [SG, List.length_map] at hc
  refine B9 <| A0 <| D9 rfl rfl (C8 (by omega)) <| A3 rfl rfl ?_
  refine A4 ⟨nofun, _, kS [0,1,7,8] [] rfl, ?_⟩
  refine ⟨i + 1, ⟨by omega, fun a ha => by rcases Nat.lt_succ_iff_lt_or_eq.1 ha with h | h; exact hi2 a h; subst h; exact hc⟩, (by omega), ⟨rfl, rfl, rfl, rfl, trivial⟩⟩
 try simp only [SG, List.length_map] at hc
 refine G6 <| A5 <| A0 <| A6 rfl rfl rfl ?_
 refine A4 ⟨nofun, _, kS [4] [] rfl, ?_⟩
 refine C4 ?_
 refine ⟨_, _, ?_, K4 rfl rfl H0⟩
 exact ⟨-1, rfl, rfl, c0j fun j hj => hi2 j (by omega)⟩

theorem keep_s_ContainsFunc2 : G4 Try.f70 = [0, 1, 4] := by kernel_rfl
set_option maxHeartbeats 20000000 in
theorem a4o (xs : List Int) (hl : xs.length ≤ 1000) (k : Nat) (a b : AV) (q : Int → Bool) (hq : ∀ x, CW cxT k [iV x, .ipt a 0, .ipt b 0] = some (bV (q x), [])) : CW cxT 70 [L xs, .clo k [.ipt a 0, .ipt b 0]] = some (bV (xs.any q), []) := by
 obtain ⟨_, _, ⟨r, rfl, rfl, hr⟩, hC⟩ := b0w xs hl k a b q hq
 refine G5 rfl Try.func70 rfl ⟨by kernel_rfl, rfl, of_decide_eq_true rfl, of_decide_eq_true rfl, by decide⟩ keep_s_ContainsFunc2 <| A5 <| A0 <| A6 rfl rfl rfl ?_
 refine A4 ⟨nofun, _, kS [0,1] [] rfl, ?_⟩
 refine A5 <| A0 <| A3 rfl rfl <| A3 rfl rfl ?_
 apply D6 rfl
 ·apply B1
  ·exact B0 rfl
  apply B1
  ·exact c0z rfl (c0a (c0a c1e))
  exact D5
 ·exact hC
 ·exact ⟨rfl, rfl, rfl, of_decide_eq_true rfl, rfl⟩
 ·exact .inl rfl
 ·exact C6
 ·exact C7 rfl
 ·exact fun _ => rfl
 intro g7
 refine r8 rfl rfl <| A6 rfl rfl rfl ?_
 refine A4 ⟨nofun, _, kS [4] [] rfl, ?_⟩
 refine C4 <| C1 rfl rfl trivial ?_
 rw [← hr]

theorem keep_s_allIn1 : G4 Try.f71 = [0, 1, 2, 4] := by kernel_rfl
set_option maxHeartbeats 20000000 in
theorem c2m (x lo hi : Int) : CW cxT 71 [iV x, .ipt (iV lo) 0, .ipt (iV hi) 0] = some (bV (!(decide (lo ≤ x) && decide (x ≤ hi))), []) := by
 refine G5 rfl Try.func71 rfl ⟨by kernel_rfl, rfl, of_decide_eq_true rfl, of_decide_eq_true rfl, by decide⟩ keep_s_allIn1 <| A5 <| A0 <| A6 rfl rfl rfl ?_
 refine A4 ⟨nofun, _, kS [0,1,2] [] rfl, ?_⟩
 refine A5 <| A0 <| A3 rfl rfl <| D7 rfl rfl rfl <| D7 rfl rfl rfl ?_
 apply D6 rfl
 ·apply B1
  ·exact B0 rfl
  apply B1
  ·exact B0 rfl
  apply B1
  ·exact B0 rfl
  exact D5
 ·exact c3x _ _ _
 ·exact ⟨rfl, rfl, rfl, of_decide_eq_true rfl, rfl⟩
 ·exact .inl rfl
 ·exact C6
 ·exact C7 rfl
 ·exact fun _ => rfl
 intro g8
 refine G8 rfl <| A6 rfl rfl rfl ?_
 refine A4 ⟨nofun, _, kS [4] [] rfl, ?_⟩
 refine C4 <| C1 rfl rfl trivial ?_
 rfl

theorem keep_s_allIn : G4 Try.f60 = [0, 1, 2, 6, 4, 5] := by kernel_rfl
set_option maxHeartbeats 20000000 in
theorem b6s (xs : List Int) (hl : xs.length ≤ 1000) (lo hi : Int) : CW cxT 60 [L xs, iV lo, iV hi] = some (bV (p9 lo hi xs), []) := by
 refine G5 rfl Try.func60 rfl ⟨by kernel_rfl, rfl, of_decide_eq_true rfl, of_decide_eq_true rfl, by decide⟩ keep_s_allIn <| A5 <| A0 <| a8z rfl rfl rfl (fun _ => J7 rfl) (fun _ => rfl) ?_
 intro g4
 refine a8z rfl rfl rfl (fun _ => J7 rfl) (fun _ => rfl) ?_
 intro g5
 refine A6 rfl rfl rfl ?_
 refine A4 ⟨nofun, _, kS [0,4,5] [4,5] rfl, ?_⟩
 refine A5 <| A0 <| A3 rfl rfl <| b4v rfl rfl ?_
 apply D6 rfl
 ·apply B1
  ·exact B0 rfl
  apply B1
  ·exact c0z rfl (b9t rfl rfl (b9t rfl rfl c1e))
  exact D5
 ·exact a4o xs hl 71 (iV lo) (iV hi) _ (fun x => c2m x lo hi)
 ·exact ⟨rfl, rfl, rfl, of_decide_eq_true rfl, rfl⟩
 ·exact .inr ⟨rfl, rfl⟩
 ·exact C6
 ·exact C7 rfl
 ·exact fun _ => rfl
 intro g9
 refine G8 rfl <| A6 rfl rfl rfl ?_
 refine A4 ⟨nofun, _, kS [6] [] rfl, ?_⟩
 refine C4 <| C1 rfl rfl trivial ?_
 exact congrArg bV (c0y lo hi xs)

theorem keep_s_validData : G4 Try.f43 = [0, 2, 3, 7, 15] := by kernel_rfl
set_option maxHeartbeats 20000000 in
theorem p6 (xs : List Int) (hl : xs.length ≤ 1048576) : CW cxT 43 [L xs] = some (bV (vd xs), []) := by
 refine G5 rfl Try.func43 rfl ⟨by kernel_rfl, rfl, of_decide_eq_true rfl, of_decide_eq_true rfl, by decide⟩ keep_s_validData <| A5 <| A0 <| A6 rfl rfl rfl ?_
 refine A4 ⟨nofun, _, kS [0] [] rfl, ?_⟩
 refine A5 <| A5 <| A0 <| A6 rfl rfl rfl ?_
 refine A4 ⟨nofun, _, kS [0,3] [] rfl, ?_⟩
 refine D3 <| G1 (β := Nat) [(.t 0, _)] (fun (i : Nat) => [(.t 3, iV i)]) (fun (i : Nat) => i ≤ xs.length ∧ ∀ j, j < i → -200 ≤ xs.getD j default ∧ xs.getD j default ≤ 200) (fun (i : Nat) => xs.length - i) 0 ⟨rfl, rfl, trivial⟩ ⟨Nat.zero_le _, fun j h => by omega⟩ ?_
 intro i hb
 obtain ⟨hi1, hi2⟩ := hb
 refine A5 <| A5 <| A0 <| A3 rfl rfl <| A3 rfl rfl <| E3 rfl rfl <| G7 rfl rfl ?_
 refine A4 ⟨nofun, _, kS [0,3,7] [] rfl, ?_⟩
 refine A8 rfl (fun hc => ?_) (fun hc => ?_)
 ·try simp only [SG, List.length_map] at hc
  refine B9 <| A5 <| D3 <| A5 <| A0 <| A3 rfl rfl <| A3 rfl rfl <| C9 rfl rfl rfl (fun _ => rfl) (by omega) <| D7 rfl rfl rfl ?_
  apply D6 rfl
  ·apply B1
   ·exact B0 rfl
   apply B1
   ·exact B0 rfl
   apply B1
   ·exact B0 rfl
   exact D5
  ·exact F5 _ _ _
  ·exact ⟨rfl, rfl, rfl, of_decide_eq_true rfl, rfl⟩
  ·exact .inl rfl
  ·exact C6
  ·exact C7 rfl
  ·exact fun _ => rfl
  intro g14
  refine G8 rfl ?_
  refine A4 ⟨nofun, _, kS [0,3,15] [] rfl, ?_⟩
  refine A8 rfl (fun hc => ?_) (fun hc => ?_)
  ·try simp only [SG, List.length_map] at hc
   refine A5 <| A0 <| A6 rfl rfl rfl ?_
   refine A4 ⟨nofun, _, kS [2] [] rfl, ?_⟩
   refine C4 <| C1 rfl rfl trivial ?_
   rw [vd, b4e (show i < xs.length by omega) (by (simp_all; omega)), Bool.and_false]
   rfl
  try simp only [SG, List.length_map] at hc
  refine B9 <| A0 <| A3 rfl rfl <| D9 rfl rfl (C8 (by omega)) <| A6 rfl rfl rfl ?_
  refine A4 ⟨nofun, _, kS [0,3] [] rfl, ?_⟩
  refine ⟨i + 1, ⟨by omega, fun j hj => by rcases Nat.lt_succ_iff_lt_or_eq.1 hj with h | h; (· exact hi2 j h); (· subst h; assumption)⟩, (by omega), ⟨rfl, rfl, trivial⟩⟩
 try simp only [SG, List.length_map] at hc
 refine G6 <| A5 <| A0 <| A3 rfl rfl <| E3 rfl rfl <| a0h rfl rfl <| A6 rfl rfl rfl ?_
 refine A4 ⟨nofun, _, kS [2] [] rfl, ?_⟩
 refine C4 <| C1 rfl rfl trivial ?_
 rw [vd, b7w fun j hj => hi2 j (by omega), Bool.and_true]
 exact congrArg bV (decide_eq_decide.2 (by omega))

theorem keep_s_validDataI : G4 Try.f50 = [0, 2] := by kernel_rfl
set_option maxHeartbeats 20000000 in
theorem n3 (xs : List Int) (hl : xs.length ≤ 1048576) : CW cxT 50 [L xs] = some (bV (vd xs), []) := by
 refine G5 rfl Try.func50 rfl ⟨by kernel_rfl, rfl, of_decide_eq_true rfl, of_decide_eq_true rfl, by decide⟩ keep_s_validDataI <| A5 <| A0 <| A6 rfl rfl rfl ?_
 refine A4 ⟨nofun, _, kS [0] [] rfl, ?_⟩
 refine A5 <| A0 <| A3 rfl rfl <| E3 rfl rfl <| a0h rfl rfl <| A3 rfl rfl ?_
 refine B3 rfl rfl (fun hg0 => ?_) (fun hg0 => ?_)
 ·have hg := hg0; try simp only [SG] at hg
  refine A3 rfl rfl <| gT rfl rfl ?_
  apply D6 rfl
  ·apply B1
   ·exact B0 rfl
   apply B1
   ·exact B0 rfl
   apply B1
   ·exact B0 rfl
   exact D5
  ·exact b6s xs (by omega) (-200) 200
  ·exact ⟨rfl, rfl, rfl, of_decide_eq_true rfl, rfl⟩
  ·exact .inl rfl
  ·exact C6
  ·exact C7 rfl
  ·exact fun _ => rfl
  intro g8
  refine C0 rfl (by assumption) rfl rfl <| A6 rfl rfl rfl ?_
  refine A4 ⟨nofun, _, kS [2] [] rfl, ?_⟩
  refine C4 <| C1 rfl rfl trivial ?_
  cases hb : p9 (-200) 200 xs <;> simp_all [vd, ofConst] <;> omega
 have hg := hg0; try simp only [SG] at hg
 refine gF rfl rfl <| B6 rfl (by assumption) rfl rfl <| A6 rfl rfl rfl ?_
 refine A4 ⟨nofun, _, kS [2] [] rfl, ?_⟩
 refine C4 <| C1 rfl rfl trivial ?_
 cases hb : p9 (-200) 200 xs <;> simp_all [vd, ofConst] <;> omega

theorem keep_s_sortedS : G4 Try.f45 = [0, 2, 4, 10, 5, 3, 27] := by kernel_rfl
set_option maxHeartbeats 20000000 in
theorem b8s (xs : List Int) (hl : xs.length ≤ 1000) : CW cxT 45 [L xs] = some (.own 1 ((sortI xs).map iV), []) := by
 refine G5 rfl Try.func45 rfl ⟨by kernel_rfl, rfl, of_decide_eq_true rfl, of_decide_eq_true rfl, by decide⟩ keep_s_sortedS <| A5 <| A0 ?_
 (refine E7 rfl rfl (fun _ => rfl) ?_; intro g2)
 refine A4 ⟨nofun, _, kS [0] [] rfl, ?_⟩
 refine A5 <| A0 <| F0 (es := List.map iV []) rfl rfl (by decide) rfl rfl (fun _ => C3 (B4 fun _ => rfl)) (fun _ => rfl) ?_
 intro g6
 (refine C5 rfl rfl (by (simp; done)) rfl (fun _ => (C3 (by exact B4 fun _ => rfl))) (fun _ => rfl) ?_; intro g3)
 refine A4 ⟨nofun, _, kS [0,3] [3] rfl, ?_⟩
 refine A5 <| A5 <| A0 <| A6 rfl rfl rfl ?_
 refine A4 ⟨nofun, _, kS [0,3,4] [3] rfl, ?_⟩
 refine D3 <| G1 (β := Nat × List Int × Nat) [(.t 0, _)] (fun (z : Nat × List Int × Nat) => match z with | (i, out, g) => [(.t 4, iV i), (.t 3, .sl 3 g none 0 out.length), (.h 3, .obj g 0 1 (out.map iV))]) (fun (z : Nat × List Int × Nat) => match z with | (i, out, g) => i ≤ xs.length ∧ out = sortI (xs.take i)) (fun (z : Nat × List Int × Nat) => match z with | (i, out, g) => xs.length - i) (0, [], _) ⟨rfl, rfl, rfl, rfl, trivial⟩ ⟨Nat.zero_le _, rfl⟩ ?_
 intro z hb
 obtain ⟨i, out, g⟩ := z
 try dsimp only at hb
 obtain ⟨hi1, hi2⟩ := hb
 have hol : out.length = i := by rw [hi2, N0, List.length_take]; omega
 refine A5 <| A5 <| A0 <| A3 rfl rfl <| A3 rfl rfl <| E3 rfl rfl <| G7 rfl rfl ?_
 refine A4 ⟨nofun, _, kS [0,3,4,10] [3] rfl, ?_⟩
 refine A8 rfl (fun hc => ?_) (fun hc => ?_)
 ·try simp only [SG, List.length_map] at hc
  refine B9 <| A5 <| D3 <| A5 <| A0 <| A6 rfl rfl rfl ?_
  refine A4 ⟨nofun, _, kS [0,3,4,5] [3] rfl, ?_⟩
  refine A5 <| D3 <| G1 (β := Nat) [(.t 0, _), (.t 3, _), (.t 4, _), (.h 3, _)] (fun (k : Nat) => [(.t 5, iV k)]) (fun (k : Nat) => k ≤ out.length ∧ ∀ j, j < k → out.getD j default ≤ xs.getD i default) (fun (k : Nat) => out.length - k) 0 ⟨rfl, rfl, rfl, rfl, rfl, trivial⟩ ⟨Nat.zero_le _, fun j h => by omega⟩ ?_
  intro k hb
  obtain ⟨hk1, hk2⟩ := hb
  refine A5 <| A5 <| A0 <| A3 rfl rfl <| A3 rfl rfl <| K1 rfl rfl <| G7 rfl rfl <| A3 rfl rfl ?_
  refine B3 rfl rfl (fun hg0 => ?_) (fun hg0 => ?_)
  ·have hg := hg0; try simp only [SG] at hg
   refine A3 rfl rfl <| gT rfl rfl <| A3 rfl rfl <| gT rfl rfl <| E6 rfl rfl rfl rfl (by omega) (by (simp; done)) rfl <| gT rfl rfl <| I3 rfl rfl (by omega) (fun _ => rfl) (fun _ => rfl) rfl <| gT rfl rfl <| A3 rfl rfl <| gT rfl rfl <| A3 rfl rfl <| gT rfl rfl <| C9 rfl rfl rfl (fun _ => rfl) (by omega) <| gT rfl rfl <| D7 rfl rfl rfl <| gT rfl rfl <| a0h rfl rfl <| C0 rfl (by assumption) rfl rfl ?_
   refine A4 ⟨fun _ => ⟨by decide +kernel, by decide +kernel⟩, [(.t 0, _), (.t 3, _), (.t 4, _), (.t 5, _), (.t 27, _), (.h 3, _)], ⟨rfl, rfl, rfl, rfl, rfl, rfl, rfl, rfl, rfl, rfl, rfl, rfl, trivial⟩, ?_⟩
   refine A8 rfl (fun hc => ?_) (fun hc => ?_)
   ·try simp only [SG, List.length_map] at hc
    refine B9 <| D3 <| A0 <| A3 rfl rfl <| D9 rfl rfl (C8 (by omega)) <| A6 rfl rfl rfl ?_
    refine A4 ⟨nofun, _, kS [0,3,4,5] [3] rfl, ?_⟩
    refine ⟨k + 1, ⟨by omega, fun a ha => by rcases Nat.lt_succ_iff_lt_or_eq.1 ha with h | h; exact hk2 a h; subst h; exact hc⟩, (by omega), ⟨rfl, rfl, rfl, rfl, rfl, trivial⟩⟩
   try simp only [SG, List.length_map] at hc
   refine G6 <| A0 <| F0 (es := List.map iV []) rfl rfl (by decide) rfl rfl (fun _ => C3 (B4 fun _ => rfl)) (fun _ => rfl) ?_
   intro g30
   refine A3 rfl rfl <| A3 rfl rfl <| a0m rfl rfl rfl (T5 rfl) (by omega) rfl <| X4 rfl rfl rfl rfl (by decide) rfl (by (simp; done)) (by omega) rfl rfl rfl (by decide) (fun _ => ⟨rfl, rfl, rfl⟩) (by simp only [H8]; (simp only [List.length_nil, List.length_cons, List.length_append, Nat.zero_add, List.length_map]; omega)) (fun _ => rfl) ?_
   intro g34
   refine A3 rfl rfl <| A3 rfl rfl <| C9 rfl rfl rfl (fun _ => rfl) (by omega) <| D7 rfl rfl rfl <| F0 (es := List.map iV [_]) rfl rfl (by decide) rfl rfl (fun _ => C3 (B4 fun _ => rfl)) (fun _ => rfl) ?_
   intro g39
   refine F9 rfl rfl rfl rfl (by (simp; done)) (by simp) (by decide) rfl rfl rfl rfl (by decide) (fun _ => ⟨rfl, rfl⟩) (by simp only [H8]; (simp; omega)) (fun _ => rfl) ?_
   intro g40
   refine A3 rfl rfl <| A3 rfl rfl <| a3q rfl rfl rfl a3p (T5 rfl) (by omega) rfl <| X4 rfl rfl rfl rfl (by decide) rfl (by (simp; done)) (by omega) rfl rfl rfl (by decide) (fun _ => ⟨rfl, rfl, rfl⟩) (by simp only [H8]; (simp; omega)) (fun _ => rfl) ?_
   intro g44
   (refine C5 rfl rfl (by (simp; done)) rfl (fun _ => (C3 (by exact B4 fun _ => rfl))) (fun _ => rfl) ?_; intro g3)
   refine A4 ⟨fun _ => ⟨by decide +kernel, by decide +kernel⟩, [(.t 0, _), (.t 3, _), (.t 4, _), (.h 3, _)], ⟨rfl, rfl, rfl, rfl, rfl, rfl, rfl, rfl, trivial⟩, ?_⟩
   refine A0 <| A3 rfl rfl <| D9 rfl rfl (C8 (by omega)) <| A6 rfl rfl rfl ?_
   refine A4 ⟨nofun, _, kS [0,3,4] [3] rfl, ?_⟩
   refine ⟨(i + 1, _, _), ?_, (by simp only; omega), ⟨rfl, rfl, rfl, rfl, trivial⟩⟩
   exact ⟨by omega, by rw [a5i (by omega), ← hi2]; exact a3i (hi2 ▸ N9 _) hk1 hk2 fun h => by omega⟩
  have hg := hg0; try simp only [SG] at hg
  refine gF rfl rfl <| gF rfl rfl <| gF rfl rfl <| gF rfl rfl <| gF rfl rfl <| gF rfl rfl <| gF rfl rfl <| gF rfl rfl <| B6 rfl (by assumption) rfl rfl ?_
  refine A4 ⟨fun _ => ⟨by decide +kernel, by decide +kernel⟩, [(.t 0, _), (.t 3, _), (.t 4, _), (.t 5, _), (.t 27, _), (.h 3, _)], ⟨rfl, rfl, rfl, rfl, rfl, rfl, rfl, rfl, rfl, rfl, rfl, rfl, trivial⟩, ?_⟩
  refine A8 rfl (fun hc => absurd hc (by decide)) (fun hc => ?_)
  refine G6 <| A0 <| F0 (es := List.map iV []) rfl rfl (by decide) rfl rfl (fun _ => C3 (B4 fun _ => rfl)) (fun _ => rfl) ?_
  intro g30
  refine A3 rfl rfl <| A3 rfl rfl <| a0m rfl rfl rfl (T5 rfl) (by omega) rfl <| X4 rfl rfl rfl rfl (by decide) rfl (by (simp; done)) (by omega) rfl rfl rfl (by decide) (fun _ => ⟨rfl, rfl, rfl⟩) (by simp only [H8]; (simp only [List.length_nil, List.length_cons, List.length_append, Nat.zero_add, List.length_map]; omega)) (fun _ => rfl) ?_
  intro g34
  refine A3 rfl rfl <| A3 rfl rfl <| C9 rfl rfl rfl (fun _ => rfl) (by omega) <| D7 rfl rfl rfl <| F0 (es := List.map iV [_]) rfl rfl (by decide) rfl rfl (fun _ => C3 (B4 fun _ => rfl)) (fun _ => rfl) ?_
  intro g39
  refine F9 rfl rfl rfl rfl (by (simp; done)) (by simp) (by decide) rfl rfl rfl rfl (by decide) (fun _ => ⟨rfl, rfl⟩) (by simp only [H8]; (simp; omega)) (fun _ => rfl) ?_
  intro g40
  refine A3 rfl rfl <| A3 rfl rfl <| a3q rfl rfl rfl a3p (T5 rfl) (by omega) rfl <| X4 rfl rfl rfl rfl (by decide) rfl (by (simp; done)) (by omega) rfl rfl rfl (by decide) (fun _ => ⟨rfl, rfl, rfl⟩) (by simp only [H8]; (simp; omega)) (fun _ => rfl) ?_
  intro g44
  (refine C5 rfl rfl (by (simp; done)) rfl (fun _ => (C3 (by exact B4 fun _ => rfl))) (fun _ => rfl) ?_; intro g3)
  refine A4 ⟨fun _ => ⟨by decide +kernel, by decide +kernel⟩, [(.t 0, _), (.t 3, _), (.t 4, _), (.h 3, _)], ⟨rfl, rfl, rfl, rfl, rfl, rfl, rfl, rfl, trivial⟩, ?_⟩
  refine A0 <| A3 rfl rfl <| D9 rfl rfl (C8 (by omega)) <| A6 rfl rfl rfl ?_
  refine A4 ⟨nofun, _, kS [0,3,4] [3] rfl, ?_⟩
  refine ⟨(i + 1, _, _), ?_, (by simp only; omega), ⟨rfl, rfl, rfl, rfl, trivial⟩⟩
  exact ⟨by omega, by rw [a5i (by omega), ← hi2]; exact a3i (hi2 ▸ N9 _) hk1 hk2 fun h => by omega⟩
 try simp only [SG, List.length_map] at hc
 refine G6 <| A5 <| A0 <| A3 rfl rfl ?_
 (refine C5 rfl rfl (by (simp; done)) rfl (fun _ => (C3 (by exact B4 fun _ => rfl))) (fun _ => rfl) ?_; intro g2)
 refine A4 ⟨nofun, _, kS [2] [2] rfl, ?_⟩
 refine C4 <| M2 rfl rfl (by simp) (by exact B4 fun _ => rfl) trivial ?_
 rw [hi2, List.take_of_length_le (by omega)]

theorem keep_s_ClipI : G4 Try.f61 = [0, 2] := by kernel_rfl
set_option maxHeartbeats 20000000 in
theorem b7d (xs : List Int) (hx : xs.length ≤ H8) : CW cxT 61 [.own 1 (xs.map iV)] = some (.own 1 (xs.map iV), []) := by
 refine G5 rfl Try.func61 rfl ⟨by kernel_rfl, rfl, of_decide_eq_true rfl, of_decide_eq_true rfl, by decide⟩ keep_s_ClipI <| A5 <| A0 ?_
 (refine E7 rfl rfl (fun _ => rfl) ?_; intro g2)
 refine A4 ⟨nofun, _, kS [0] [0] rfl, ?_⟩
 refine A5 <| A0 <| A3 rfl rfl <| A3 rfl rfl <| K1 rfl rfl <| A3 rfl rfl <| K1 rfl rfl ?_
 refine c5w rfl rfl rfl rfl rfl rfl (fun hz => ?_) (fun hz => ?_)
 ·skip
  (refine E7 rfl rfl (fun _ => rfl) ?_; intro g2)
  refine A4 ⟨nofun, _, kS [2] [0,2] rfl, ?_⟩
  refine C4 <| M2 rfl rfl (by (simp; done)) (by rfl) trivial ?_
  (have h0 : xs = [] := (by simpa using hz); subst h0; rfl)
 skip
 (refine C5 rfl rfl (by (simp; done)) rfl (fun _ => (C3 (by exact B4 fun _ => rfl))) (fun _ => rfl) ?_; intro g2)
 refine A4 ⟨nofun, _, kS [2] [0,2] rfl, ?_⟩
 refine C4 <| M2 rfl rfl (by (simp; done)) (by exact B4 fun _ => rfl) trivial ?_
 rfl

theorem keep_s_sumI : G4 Try.f59 = [0, 2, 8, 7, 9, 6, 5, 3] := by kernel_rfl
set_option maxHeartbeats 20000000 in
theorem c5m (x : List Int) (hv : vl x = true) : CW cxT 59 [L x] = some (iV x.sum, []) := by
 have hx40 := (T7.1 hv).1
 have hgb := Y0 hv
 refine G5 rfl Try.func59 rfl ⟨by kernel_rfl, rfl, of_decide_eq_true rfl, of_decide_eq_true rfl, by decide⟩ keep_s_sumI <| A5 <| A0 <| A6 rfl rfl rfl ?_
 refine A4 ⟨nofun, _, kS [0] [] rfl, ?_⟩
 refine A5 <| A0 <| A6 rfl rfl rfl ?_
 refine A4 ⟨nofun, _, kS [0,3] [] rfl, ?_⟩
 refine A5 <| A5 <| A0 <| A3 rfl rfl <| E3 rfl rfl <| A3 rfl rfl ?_
 refine A4 ⟨nofun, _, kS [3,6,7,8] [] rfl, ?_⟩
 refine D3 <| G1 (β := Nat × Int) [(.t 6, _), (.t 7, _)] (fun (z : Nat × Int) => match z with | (i, a) => [(.t 8, iV i), (.t 3, iV a)]) (fun (z : Nat × Int) => match z with | (i, a) => i ≤ x.length ∧ a = prS (H7 x) i) (fun (z : Nat × Int) => match z with | (i, a) => x.length - i) (0, 0) ⟨rfl, rfl, rfl, rfl, trivial⟩ ⟨Nat.zero_le _, rfl⟩ ?_
 intro z hb
 obtain ⟨i, a⟩ := z
 try dsimp only at hb
 obtain ⟨hi1, ha⟩ := hb
 have hsb := b2c hv i
 have hgi : -100000 ≤ x.getD i default ∧ x.getD i default ≤ 100000 := hgb i
 rw [← ha] at hsb
 refine A5 <| A0 <| G7 rfl rfl ?_
 refine A4 ⟨nofun, _, kS [3,6,7,8,9] [] rfl, ?_⟩
 refine A5 ?_
 refine A8 rfl (fun hc => ?_) (fun hc => ?_)
 ·try simp only [SG, List.length_map] at hc
  refine B9 <| A5 <| D3 <| A5 <| A0 <| C9 rfl rfl rfl (fun _ => rfl) (by omega) <| D7 rfl rfl rfl <| A6 rfl rfl rfl ?_
  refine A4 ⟨nofun, _, kS [3,5,6,7,8] [] rfl, ?_⟩
  refine A0 <| A3 rfl rfl <| A3 rfl rfl <| D9 rfl rfl (C8 (by omega)) <| A6 rfl rfl rfl ?_
  refine A4 ⟨nofun, _, kS [3,6,7,8] [] rfl, ?_⟩
  refine A0 <| D9 rfl rfl (C8 (by omega)) <| A3 rfl rfl ?_
  refine A4 ⟨nofun, _, kS [3,6,7,8] [] rfl, ?_⟩
  refine ⟨(i + 1, a + x.getD i default), ⟨by omega, by rw [prS, ha]; rfl⟩, (by simp only; omega), ⟨rfl, rfl, rfl, rfl, trivial⟩⟩
 try simp only [SG, List.length_map] at hc
 refine G6 <| A5 <| A0 <| A3 rfl rfl <| A6 rfl rfl rfl ?_
 refine A4 ⟨nofun, _, kS [2] [] rfl, ?_⟩
 refine C4 <| C1 rfl rfl trivial ?_
 rw [ha, show i = x.length by omega, a8y]

theorem keep_s_sumS : G4 Try.f48 = [0, 2, 4, 8, 3] := by kernel_rfl
set_option maxHeartbeats 20000000 in
theorem c4x (x : List Int) (hv : vl x = true) : CW cxT 48 [L x] = some (iV x.sum, []) := by
 have hx40 := (T7.1 hv).1
 have hgb := Y0 hv
 refine G5 rfl Try.func48 rfl ⟨by kernel_rfl, rfl, of_decide_eq_true rfl, of_decide_eq_true rfl, by decide⟩ keep_s_sumS <| A5 <| A0 <| A6 rfl rfl rfl ?_
 refine A4 ⟨nofun, _, kS [0] [] rfl, ?_⟩
 refine A5 <| A0 <| A6 rfl rfl rfl ?_
 refine A4 ⟨nofun, _, kS [0,3] [] rfl, ?_⟩
 refine A5 <| A5 <| A0 <| A6 rfl rfl rfl ?_
 refine A4 ⟨nofun, _, kS [0,3,4] [] rfl, ?_⟩
 refine D3 <| G1 (β := Nat × Int) [(.t 0, _)] (fun (z : Nat × Int) => match z with | (i, a) => [(.t 4, iV i), (.t 3, iV a)]) (fun (z : Nat × Int) => match z with | (i, a) => i ≤ x.length ∧ a = prS (H7 x) i) (fun (z : Nat × Int) => match z with | (i, a) => x.length - i) (0, 0) ⟨rfl, rfl, rfl, trivial⟩ ⟨Nat.zero_le _, rfl⟩ ?_
 intro z hb
 obtain ⟨i, a⟩ := z
 try dsimp only at hb
 obtain ⟨hi1, ha⟩ := hb
 have hsb := b2c hv i
 have hgi : -100000 ≤ x.getD i default ∧ x.getD i default ≤ 100000 := hgb i
 rw [← ha] at hsb
 refine A5 <| A5 <| A0 <| A3 rfl rfl <| A3 rfl rfl <| E3 rfl rfl <| G7 rfl rfl ?_
 refine A4 ⟨nofun, _, kS [0,3,4,8] [] rfl, ?_⟩
 refine A8 rfl (fun hc => ?_) (fun hc => ?_)
 ·try simp only [SG, List.length_map] at hc
  refine B9 <| A5 <| D3 <| A0 <| A3 rfl rfl <| A3 rfl rfl <| A3 rfl rfl <| C9 rfl rfl rfl (fun _ => rfl) (by omega) <| D7 rfl rfl rfl <| D9 rfl rfl (C8 (by omega)) <| A6 rfl rfl rfl ?_
  refine A4 ⟨nofun, _, kS [0,3,4] [] rfl, ?_⟩
  refine A0 <| A3 rfl rfl <| D9 rfl rfl (C8 (by omega)) <| A6 rfl rfl rfl ?_
  refine A4 ⟨nofun, _, kS [0,3,4] [] rfl, ?_⟩
  refine ⟨(i + 1, a + x.getD i default), ⟨by omega, by rw [prS, ha]; rfl⟩, (by simp only; omega), ⟨rfl, rfl, rfl, trivial⟩⟩
 try simp only [SG, List.length_map] at hc
 refine G6 <| A5 <| A0 <| A3 rfl rfl <| A6 rfl rfl rfl ?_
 refine A4 ⟨nofun, _, kS [2] [] rfl, ?_⟩
 refine C4 <| C1 rfl rfl trivial ?_
 rw [ha, show i = x.length by omega, a8y]

theorem keep_s_ranksI : G4 Try.f58 = [0, 2, 13, 12, 14, 11, 4, 3, 23, 22, 24, 21, 5, 7, 27, 37] := by kernel_rfl
set_option maxHeartbeats 20000000 in
theorem c0t (x : List Int) (hv : vl x = true) : CW cxT 58 [L x] = some (.own 1 ((rkI x).map iV), []) := by
 have hx40 := (T7.1 hv).1
 have hgb := Y0 hv
 refine G5 rfl Try.func58 rfl ⟨by kernel_rfl, rfl, of_decide_eq_true rfl, of_decide_eq_true rfl, by decide⟩ keep_s_ranksI <| A5 <| A0 ?_
 (refine E7 rfl rfl (fun _ => rfl) ?_; intro g2)
 refine A4 ⟨nofun, _, kS [0] [] rfl, ?_⟩
 refine A5 <| A0 <| A3 rfl rfl <| E3 rfl rfl <| b7 (f := iV) (x0 := 0) rfl rfl rfl rfl rfl (by simp only [H8]; omega) (by decide) (fun _ => C3 (by exact B4 fun _ => rfl)) (fun _ => rfl) ?_
 intro g10
 (refine C5 rfl rfl (by (simp; done)) rfl (fun _ => (C3 (by exact B4 fun _ => rfl))) (fun _ => rfl) ?_; intro g3)
 refine A4 ⟨nofun, _, kS [0,3] [3] rfl, ?_⟩
 refine A5 <| A5 <| A0 <| A3 rfl rfl <| E3 rfl rfl <| A3 rfl rfl ?_
 refine A4 ⟨nofun, _, kS [0,3,11,12,13] [3] rfl, ?_⟩
 refine D3 ?_
 refine G1 (β := Nat × List Int) [(.t 0, _), (.t 3, _), (.t 11, _), (.t 12, _)] (fun (z : Nat × List Int) => match z with | (i, l) => [(.t 13, iV i), (.h 3, .obj g3 0 1 (l.map iV))]) (fun (z : Nat × List Int) => match z with | (i, l) => i ≤ x.length ∧ Q6 x.length (fun i => 1 + prS (rkT x (H7 x i)) x.length) (fun _ => 0) i l) (fun (z : Nat × List Int) => match z with | (i, l) => x.length - i) (0, List.replicate x.length 0) ⟨rfl, rfl, rfl, rfl, rfl, rfl, trivial⟩ ⟨Nat.zero_le _, by simp, fun j hj => by rw [if_neg (by omega)]; simp [List.getD_eq_getElem?_getD, hj]⟩ ?_
 intro z hb
 obtain ⟨i, l⟩ := z
 try dsimp only at hb
 obtain ⟨hi1, hf⟩ := hb
 have hfl := hf.1
 refine A5 <| A0 <| G7 rfl rfl ?_
 refine A4 ⟨nofun, _, kS [0,3,11,12,13,14] [3] rfl, ?_⟩
 refine A5 ?_
 refine A8 rfl (fun hc => ?_) (fun hc => ?_)
 ·try simp only [SG, List.length_map] at hc
  refine B9 <| A5 <| D3 <| A5 <| A0 <| A3 rfl rfl <| C9 rfl rfl rfl (fun _ => rfl) (by omega) <| D7 rfl rfl rfl <| A6 rfl rfl rfl <| A6 rfl rfl rfl ?_
  refine A4 ⟨nofun, _, kS [0,3,4,5,11,12,13] [3] rfl, ?_⟩
  refine A5 <| A0 <| A3 rfl rfl <| A3 rfl rfl <| E6 rfl rfl rfl rfl (by omega) (by (simp; omega)) rfl <| J0 rfl rfl rfl (by omega) (fun _ _ => ⟨rfl, rfl, of_decide_eq_true rfl, of_decide_eq_true rfl, rfl, rfl⟩) (by decide) (by exact C3 (B4 fun _ => rfl)) ?_
  refine A4 ⟨nofun, _, kS [0,3,4,5,11,12,13] [3] rfl, ?_⟩
  refine A5 <| A0 <| A3 rfl rfl <| E3 rfl rfl <| A3 rfl rfl ?_
  refine A4 ⟨nofun, _, kS [0,3,4,5,11,12,13,21,22,23] [3] rfl, ?_⟩
  refine D3 <| G1 (β := Nat × List Int) [(.t 0, _), (.t 3, _), (.t 4, _), (.t 5, _), (.t 11, _), (.t 12, _), (.t 13, _), (.t 21, _), (.t 22, _)] (fun (z : Nat × List Int) => match z with | (k, l2) => [(.t 23, iV k), (.h 3, .obj g3 0 1 (l2.map iV))]) (fun (z : Nat × List Int) => match z with | (k, l2) => k ≤ x.length ∧ l2 = l.set i (1 + prS (rkT x (H7 x i)) k)) (fun (z : Nat × List Int) => match z with | (k, l2) => x.length - k) (0, l.set i 1) ⟨rfl, rfl, rfl, rfl, rfl, rfl, rfl, rfl, rfl, rfl, rfl, trivial⟩ ⟨Nat.zero_le _, rfl⟩ ?_
  intro z hb
  obtain ⟨k, l2⟩ := z
  try dsimp only at hb
  obtain ⟨hk1, hl2⟩ := hb
  have hl2l : l2.length = x.length := by rw [hl2]; simp [hfl]
  have hl2i : l2.getD i default = 1 + prS (rkT x (H7 x i)) k := by rw [hl2, L0 _ _ _ _ (by omega), if_pos rfl]
  have hrb := c6p x (H7 x i) k
  refine A5 <| A0 <| G7 rfl rfl ?_
  refine A4 ⟨nofun, _, kS [0,3,4,5,11,12,13,21,22,23,24] [3] rfl, ?_⟩
  refine A5 ?_
  refine A8 rfl (fun hc => ?_) (fun hc => ?_)
  ·try simp only [SG, List.length_map] at hc
   refine B9 <| A5 <| D3 <| A5 <| A0 <| C9 rfl rfl rfl (fun _ => rfl) (by omega) <| D7 rfl rfl rfl <| A6 rfl rfl rfl ?_
   refine A4 ⟨nofun, _, kS [0,3,4,5,7,11,12,13,21,22,23] [3] rfl, ?_⟩
   refine D3 <| A5 <| A0 <| A3 rfl rfl <| A3 rfl rfl <| G7 rfl rfl <| A6 rfl rfl rfl ?_
   refine A4 ⟨nofun, _, kS [0,3,4,5,7,11,12,13,21,22,23,27] [3] rfl, ?_⟩
   refine A8 rfl (fun hc => ?_) (fun hc => ?_)
   ·try simp only [SG, List.length_map] at hc
    refine A0 <| A3 rfl rfl <| A3 rfl rfl <| E6 rfl rfl rfl rfl (by omega) (by (simp; omega)) rfl <| I3 rfl rfl (by omega) (fun _ => rfl) (fun _ => rfl) rfl <| D9 rfl rfl (C8 (by omega)) <| E6 rfl rfl rfl rfl (by omega) (by (simp; omega)) rfl <| J0 rfl rfl rfl (by omega) (fun _ _ => ⟨rfl, rfl, of_decide_eq_true rfl, of_decide_eq_true rfl, rfl, rfl⟩) (by decide) (by exact C3 (B4 fun _ => rfl)) ?_
    refine A4 ⟨nofun, _, kS [0,3,4,5,11,12,13,21,22,23] [3] rfl, ?_⟩
    refine A0 <| D9 rfl rfl (C8 (by omega)) <| A3 rfl rfl ?_
    refine A4 ⟨nofun, _, kS [0,3,4,5,11,12,13,21,22,23] [3] rfl, ?_⟩
    refine ⟨(k + 1, l2.set i (l2.getD i default + 2)), ?_, (by simp only; omega), ⟨rfl, rfl, rfl, rfl, rfl, rfl, rfl, rfl, rfl, rfl, rfl, trivial⟩⟩
    have hrs : prS (rkT x (H7 x i)) (k + 1) = prS (rkT x (H7 x i)) k + rkT x (H7 x i) k := rfl
    exact ⟨by omega, by rw [hl2i, hl2, List.set_set, hrs, rkT, if_pos (by assumption), Int.add_assoc]⟩
   try simp only [SG, List.length_map] at hc
   refine A5 <| A0 <| A3 rfl rfl <| A3 rfl rfl <| I7 rfl rfl <| A6 rfl rfl rfl ?_
   refine A4 ⟨nofun, _, kS [0,3,4,5,11,12,13,21,22,23,37] [3] rfl, ?_⟩
   refine A8 rfl (fun hc => ?_) (fun hc => ?_)
   ·try simp only [SG, List.length_map] at hc
    refine A0 <| A3 rfl rfl <| A3 rfl rfl <| E6 rfl rfl rfl rfl (by omega) (by (simp; omega)) rfl <| I3 rfl rfl (by omega) (fun _ => rfl) (fun _ => rfl) rfl <| D9 rfl rfl (C8 (by omega)) <| E6 rfl rfl rfl rfl (by omega) (by (simp; omega)) rfl <| J0 rfl rfl rfl (by omega) (fun _ _ => ⟨rfl, rfl, of_decide_eq_true rfl, of_decide_eq_true rfl, rfl, rfl⟩) (by decide) (by exact C3 (B4 fun _ => rfl)) ?_
    refine A4 ⟨nofun, _, kS [0,3,4,5,11,12,13,21,22,23] [3] rfl, ?_⟩
    refine A0 <| D9 rfl rfl (C8 (by omega)) <| A3 rfl rfl ?_
    refine A4 ⟨nofun, _, kS [0,3,4,5,11,12,13,21,22,23] [3] rfl, ?_⟩
    refine ⟨(k + 1, l2.set i (l2.getD i default + 1)), ?_, (by simp only; omega), ⟨rfl, rfl, rfl, rfl, rfl, rfl, rfl, rfl, rfl, rfl, rfl, trivial⟩⟩
    have hrs : prS (rkT x (H7 x i)) (k + 1) = prS (rkT x (H7 x i)) k + rkT x (H7 x i) k := rfl
    exact ⟨by omega, by rw [hl2i, hl2, List.set_set, hrs, rkT, if_neg (by unfold H7; omega), if_pos (by assumption), Int.add_assoc]⟩
   try simp only [SG, List.length_map] at hc
   refine B9 <| A0 <| D9 rfl rfl (C8 (by omega)) <| A3 rfl rfl ?_
   refine A4 ⟨nofun, _, kS [0,3,4,5,11,12,13,21,22,23] [3] rfl, ?_⟩
   refine ⟨(k + 1, l2), ?_, (by simp only; omega), ⟨rfl, rfl, rfl, rfl, rfl, rfl, rfl, rfl, rfl, rfl, rfl, trivial⟩⟩
   have hrs : prS (rkT x (H7 x i)) (k + 1) = prS (rkT x (H7 x i)) k + rkT x (H7 x i) k := rfl
   exact ⟨by omega, by rw [hl2, hrs, rkT, if_neg (by unfold H7; omega), if_neg (by unfold H7; omega), Int.add_zero]⟩
  try simp only [SG, List.length_map] at hc
  refine G6 <| A0 <| D9 rfl rfl (C8 (by omega)) <| A3 rfl rfl ?_
  refine A4 ⟨nofun, _, kS [0,3,11,12,13] [3] rfl, ?_⟩
  refine ⟨(i + 1, l2), ?_, (by simp only; omega), ⟨rfl, rfl, rfl, rfl, rfl, rfl, trivial⟩⟩
  exact ⟨by omega, by rw [hl2]; exact hf.step (by omega) (by rw [show k = x.length by omega])⟩
 try simp only [SG, List.length_map] at hc
 refine G6 <| A5 <| A0 <| A3 rfl rfl ?_
 (refine C5 rfl rfl (by (simp; omega)) rfl (fun _ => (C3 (by exact B4 fun _ => rfl))) (fun _ => rfl) ?_; intro g2)
 refine A4 ⟨nofun, _, kS [2] [2] rfl, ?_⟩
 refine C4 <| M2 rfl rfl (by (simp [hfl]; done)) (by exact B4 fun _ => rfl) trivial ?_
 rw [hf.fin (by omega)]
 rfl

theorem keep_s_ranksS : G4 Try.f47 = [0, 2, 4, 12, 7, 18, 29, 5, 40, 6, 3] := by kernel_rfl
set_option maxHeartbeats 20000000 in
theorem b9z (x : List Int) (hv : vl x = true) : CW cxT 47 [L x] = some (.own 1 ((rkI x).map iV), []) := by
 have hx40 := (T7.1 hv).1
 have hgb := Y0 hv
 refine G5 rfl Try.func47 rfl ⟨by kernel_rfl, rfl, of_decide_eq_true rfl, of_decide_eq_true rfl, by decide⟩ keep_s_ranksS <| A5 <| A0 ?_
 (refine E7 rfl rfl (fun _ => rfl) ?_; intro g2)
 refine A4 ⟨nofun, _, kS [0] [] rfl, ?_⟩
 refine A5 <| A0 <| F0 (es := List.map iV []) rfl rfl (by decide) rfl rfl (fun _ => C3 (B4 fun _ => rfl)) (fun _ => rfl) ?_
 intro g8
 (refine C5 rfl rfl (by (simp; done)) rfl (fun _ => (C3 (by exact B4 fun _ => rfl))) (fun _ => rfl) ?_; intro g3)
 refine A4 ⟨nofun, _, kS [0,3] [3] rfl, ?_⟩
 refine A5 <| A5 <| A0 <| A6 rfl rfl rfl ?_
 refine A4 ⟨nofun, _, kS [0,3,4] [3] rfl, ?_⟩
 refine D3 <| G1 (β := Nat × List Int × Nat) [(.t 0, _)] (fun (z : Nat × List Int × Nat) => match z with | (i, l, g) => [(.t 4, iV i), (.h 3, .obj g 0 1 (l.map iV)), (.t 3, .sl 3 g none 0 l.length)]) (fun (z : Nat × List Int × Nat) => match z with | (i, l, g) => i ≤ x.length ∧ l = (List.range i).map fun i => 1 + prS (rkT x (H7 x i)) x.length) (fun (z : Nat × List Int × Nat) => match z with | (i, l, g) => x.length - i) (0, [], _) ⟨rfl, rfl, rfl, rfl, trivial⟩ ⟨Nat.zero_le _, rfl⟩ ?_
 intro z hb
 obtain ⟨i, l, g⟩ := z
 try dsimp only at hb
 obtain ⟨hi1, hl⟩ := hb
 have hll : l.length = i := by rw [hl]; simp
 refine A5 <| A5 <| A0 <| A3 rfl rfl <| A3 rfl rfl <| E3 rfl rfl <| G7 rfl rfl ?_
 refine A4 ⟨nofun, _, kS [0,3,4,12] [3] rfl, ?_⟩
 refine A8 rfl (fun hc => ?_) (fun hc => ?_)
 ·try simp only [SG, List.length_map] at hc
  refine B9 <| A5 <| D3 <| A5 <| A0 <| A6 rfl rfl rfl ?_
  refine A4 ⟨nofun, _, kS [0,3,4,5] [3] rfl, ?_⟩
  refine A5 <| A0 <| A6 rfl rfl rfl ?_
  refine A4 ⟨nofun, _, kS [0,3,4,5,6] [3] rfl, ?_⟩
  refine A5 <| A5 <| A0 <| A6 rfl rfl rfl ?_
  refine A4 ⟨nofun, _, kS [0,3,4,5,6,7] [3] rfl, ?_⟩
  refine D3 <| G1 (β := Nat × Int × Int) [(.t 0, _), (.t 3, _), (.t 4, _), (.h 3, _)] (fun (z : Nat × Int × Int) => match z with | (k, a, b) => [(.t 7, iV k), (.t 5, iV a), (.t 6, iV b)]) (fun (z : Nat × Int × Int) => match z with | (k, a, b) => k ≤ x.length ∧ 2 * a + b = prS (rkT x (H7 x i)) k ∧ 0 ≤ a ∧ a ≤ k ∧ 0 ≤ b ∧ b ≤ k) (fun (z : Nat × Int × Int) => match z with | (k, a, b) => x.length - k) (0, 0, 0) ⟨rfl, rfl, rfl, rfl, rfl, rfl, rfl, trivial⟩ ⟨Nat.zero_le _, rfl, by decide, by decide, by decide, by decide⟩ ?_
  intro z hb
  obtain ⟨k, a, b⟩ := z
  try dsimp only at hb
  obtain ⟨hk1, hab, ha0, ha1, hb0, hb1⟩ := hb
  refine A5 <| A5 <| A0 <| A3 rfl rfl <| A3 rfl rfl <| E3 rfl rfl <| G7 rfl rfl ?_
  refine A4 ⟨nofun, _, kS [0,3,4,5,6,7,18] [3] rfl, ?_⟩
  refine A8 rfl (fun hc => ?_) (fun hc => ?_)
  ·try simp only [SG, List.length_map] at hc
   refine B9 <| A5 <| D3 <| A5 <| A5 <| A0 <| A3 rfl rfl <| A3 rfl rfl <| C9 rfl rfl rfl (fun _ => rfl) (by omega) <| D7 rfl rfl rfl <| A3 rfl rfl <| A3 rfl rfl <| C9 rfl rfl rfl (fun _ => rfl) (by omega) <| D7 rfl rfl rfl <| G7 rfl rfl ?_
   refine A4 ⟨fun _ => ⟨by decide +kernel, by decide +kernel⟩, [(.t 0, _), (.t 3, _), (.t 4, _), (.t 5, _), (.t 6, _), (.t 7, _), (.t 29, _), (.h 3, _)], ⟨rfl, rfl, rfl, rfl, rfl, rfl, rfl, rfl, rfl, rfl, rfl, rfl, rfl, rfl, rfl, rfl, trivial⟩, ?_⟩
   refine A8 rfl (fun hc => ?_) (fun hc => ?_)
   ·try simp only [SG, List.length_map] at hc
    refine A0 <| A3 rfl rfl <| D9 rfl rfl (C8 (by omega)) <| A6 rfl rfl rfl ?_
    refine A4 ⟨nofun, _, kS [0,3,4,5,6,7] [3] rfl, ?_⟩
    refine A5 <| A0 <| A3 rfl rfl <| A3 rfl rfl <| C9 rfl rfl rfl (fun _ => rfl) (by omega) <| D7 rfl rfl rfl <| A3 rfl rfl <| A3 rfl rfl <| C9 rfl rfl rfl (fun _ => rfl) (by omega) <| D7 rfl rfl rfl <| I7 rfl rfl ?_
    refine A4 ⟨fun _ => ⟨by decide +kernel, by decide +kernel⟩, [(.t 0, _), (.t 3, _), (.t 4, _), (.t 5, _), (.t 6, _), (.t 7, _), (.t 40, _), (.h 3, _)], ⟨rfl, rfl, rfl, rfl, rfl, rfl, rfl, rfl, rfl, rfl, rfl, rfl, rfl, rfl, rfl, rfl, trivial⟩, ?_⟩
    refine A8 rfl (fun hc => ?_) (fun hc => ?_)
    ·try simp only [SG, List.length_map] at hc
     refine A0 <| A3 rfl rfl <| D9 rfl rfl (C8 (by omega)) <| A6 rfl rfl rfl ?_
     refine A4 ⟨nofun, _, kS [0,3,4,5,6,7] [3] rfl, ?_⟩
     refine A0 <| A3 rfl rfl <| D9 rfl rfl (C8 (by omega)) <| A6 rfl rfl rfl ?_
     refine A4 ⟨nofun, _, kS [0,3,4,5,6,7] [3] rfl, ?_⟩
     refine ⟨(k + 1, a + 1, b + 1), ?_, (by simp only; omega), ⟨rfl, rfl, rfl, rfl, rfl, rfl, rfl, trivial⟩⟩
     have hrs : prS (rkT x (H7 x i)) (k + 1) = prS (rkT x (H7 x i)) k + rkT x (H7 x i) k := rfl
     exact ⟨by omega, by rw [hrs, ← hab, rkT, if_pos (by assumption)]; omega, by omega, by omega, by omega, by omega⟩
    try simp only [SG, List.length_map] at hc
    refine B9 <| A0 <| A3 rfl rfl <| D9 rfl rfl (C8 (by omega)) <| A6 rfl rfl rfl ?_
    refine A4 ⟨nofun, _, kS [0,3,4,5,6,7] [3] rfl, ?_⟩
    refine ⟨(k + 1, a + 1, b), ?_, (by simp only; omega), ⟨rfl, rfl, rfl, rfl, rfl, rfl, rfl, trivial⟩⟩
    have hrs : prS (rkT x (H7 x i)) (k + 1) = prS (rkT x (H7 x i)) k + rkT x (H7 x i) k := rfl
    exact ⟨by omega, by rw [hrs, ← hab, rkT, if_pos (by assumption)]; omega, by omega, by omega, by omega, by omega⟩
   try simp only [SG, List.length_map] at hc
   refine B9 <| A5 <| A0 <| A3 rfl rfl <| A3 rfl rfl <| C9 rfl rfl rfl (fun _ => rfl) (by omega) <| D7 rfl rfl rfl <| A3 rfl rfl <| A3 rfl rfl <| C9 rfl rfl rfl (fun _ => rfl) (by omega) <| D7 rfl rfl rfl <| I7 rfl rfl ?_
   refine A4 ⟨fun _ => ⟨by decide +kernel, by decide +kernel⟩, [(.t 0, _), (.t 3, _), (.t 4, _), (.t 5, _), (.t 6, _), (.t 7, _), (.t 40, _), (.h 3, _)], ⟨rfl, rfl, rfl, rfl, rfl, rfl, rfl, rfl, rfl, rfl, rfl, rfl, rfl, rfl, rfl, rfl, trivial⟩, ?_⟩
   refine A8 rfl (fun hc => ?_) (fun hc => ?_)
   ·try simp only [SG, List.length_map] at hc
    refine A0 <| A3 rfl rfl <| D9 rfl rfl (C8 (by omega)) <| A6 rfl rfl rfl ?_
    refine A4 ⟨nofun, _, kS [0,3,4,5,6,7] [3] rfl, ?_⟩
    refine A0 <| A3 rfl rfl <| D9 rfl rfl (C8 (by omega)) <| A6 rfl rfl rfl ?_
    refine A4 ⟨nofun, _, kS [0,3,4,5,6,7] [3] rfl, ?_⟩
    refine ⟨(k + 1, a, b + 1), ?_, (by simp only; omega), ⟨rfl, rfl, rfl, rfl, rfl, rfl, rfl, trivial⟩⟩
    have hrs : prS (rkT x (H7 x i)) (k + 1) = prS (rkT x (H7 x i)) k + rkT x (H7 x i) k := rfl
    exact ⟨by omega, by rw [hrs, ← hab, rkT, if_neg (by unfold H7; omega), if_pos (by assumption)]; omega, by omega, by omega, by omega, by omega⟩
   try simp only [SG, List.length_map] at hc
   refine B9 <| A0 <| A3 rfl rfl <| D9 rfl rfl (C8 (by omega)) <| A6 rfl rfl rfl ?_
   refine A4 ⟨nofun, _, kS [0,3,4,5,6,7] [3] rfl, ?_⟩
   refine ⟨(k + 1, a, b), ?_, (by simp only; omega), ⟨rfl, rfl, rfl, rfl, rfl, rfl, rfl, trivial⟩⟩
   have hrs : prS (rkT x (H7 x i)) (k + 1) = prS (rkT x (H7 x i)) k + rkT x (H7 x i) k := rfl
   exact ⟨by omega, by rw [hrs, ← hab, rkT, if_neg (by unfold H7; omega), if_neg (by unfold H7; omega)]; omega, by omega, by omega, by omega, by omega⟩
  try simp only [SG, List.length_map] at hc
  refine G6 <| A0 <| A3 rfl rfl <| A3 rfl rfl <| c6d rfl rfl (C8 (by omega)) <| A3 rfl rfl <| D9 rfl rfl (C8 (by omega)) <| D9 rfl rfl (C8 (by omega)) <| F0 (es := List.map iV [_]) rfl rfl (by decide) rfl rfl (fun _ => C3 (B4 fun _ => rfl)) (fun _ => rfl) ?_
  intro g49
  refine F9 rfl rfl rfl rfl (by (simp; done)) (by simp) (by decide) rfl rfl rfl rfl (by decide) (fun _ => ⟨rfl, rfl⟩) (by simp only [H8]; (simp only [List.length_nil, List.length_cons, List.length_append, Nat.zero_add, List.length_map]; omega)) (fun _ => rfl) ?_
  intro g50
  (refine C5 rfl rfl (by (simp; done)) rfl (fun _ => (C3 (by exact B4 fun _ => rfl))) (fun _ => rfl) ?_; intro g3)
  refine A4 ⟨nofun, _, kS [0,3,4] [3] rfl, ?_⟩
  refine A0 <| A3 rfl rfl <| D9 rfl rfl (C8 (by omega)) <| A6 rfl rfl rfl ?_
  refine A4 ⟨nofun, _, kS [0,3,4] [3] rfl, ?_⟩
  refine ⟨(i + 1, l ++ [2 * a + b + 1], _), ?_, (by simp only; omega), ⟨rfl, rfl, rfl, rfl, trivial⟩⟩
  exact ⟨by omega, by rw [hl, S3, hab, show k = x.length by omega, Int.add_comm]⟩
 try simp only [SG, List.length_map] at hc
 refine G6 <| A5 <| A0 <| A3 rfl rfl ?_
 (refine C5 rfl rfl (by (simp; done)) rfl (fun _ => (C3 (by exact B4 fun _ => rfl))) (fun _ => rfl) ?_; intro g2)
 refine A4 ⟨nofun, _, kS [2] [2] rfl, ?_⟩
 refine C4 <| M2 rfl rfl (by simp) (by exact B4 fun _ => rfl) trivial ?_
 rw [hl, show i = x.length by omega]
 rfl

theorem keep_s_turnedS : G4 Try.f46 = [0, 2, 4, 10, 3] := by kernel_rfl
set_option maxHeartbeats 20000000 in
theorem b8u (x : List Int) (hl : x.length ≤ 1000) : CW cxT 46 [L x] = some (.own 1 (x.reverse.map iV), []) := by
 refine G5 rfl Try.func46 rfl ⟨by kernel_rfl, rfl, of_decide_eq_true rfl, of_decide_eq_true rfl, by decide⟩ keep_s_turnedS <| A5 <| A0 ?_
 (refine E7 rfl rfl (fun _ => rfl) ?_; intro g2)
 refine A4 ⟨nofun, _, kS [0] [] rfl, ?_⟩
 refine A5 <| A0 <| F0 (es := List.map iV []) rfl rfl (by decide) rfl rfl (fun _ => C3 (B4 fun _ => rfl)) (fun _ => rfl) ?_
 intro g5
 (refine C5 rfl rfl (by (simp; done)) rfl (fun _ => (C3 (by exact B4 fun _ => rfl))) (fun _ => rfl) ?_; intro g3)
 refine A4 ⟨nofun, _, kS [0,3] [3] rfl, ?_⟩
 refine A5 <| A5 <| A0 <| A3 rfl rfl <| E3 rfl rfl <| H6 rfl rfl (C8 (by omega)) <| A6 rfl rfl rfl ?_
 refine A4 ⟨nofun, _, kS [0,3,4] [3] rfl, ?_⟩
 refine D3 <| G1 (β := Nat × List Int × Nat) [(.t 0, _)] (fun (z : Nat × List Int × Nat) => match z with | (k, l, g) => [(.t 4, iV ((k : Int) - 1)), (.h 3, .obj g 0 1 (l.map iV)), (.t 3, .sl 3 g none 0 l.length)]) (fun (z : Nat × List Int × Nat) => match z with | (k, l, g) => k ≤ x.length ∧ l = (x.drop k).reverse) (fun (z : Nat × List Int × Nat) => match z with | (k, l, g) => k) (x.length, [], _) ⟨rfl, rfl, rfl, rfl, trivial⟩ ⟨Nat.le_refl _, by simp⟩ ?_
 intro z hb
 obtain ⟨k, l, g⟩ := z
 try dsimp only at hb
 obtain ⟨hk1, hl2⟩ := hb
 have hll : l.length = x.length - k := by rw [hl2]; simp
 refine A5 <| A5 <| A0 <| A3 rfl rfl <| r8 rfl rfl ?_
 refine A4 ⟨nofun, _, kS [0,3,4,10] [3] rfl, ?_⟩
 refine A8 rfl (fun hc => ?_) (fun hc => ?_)
 ·try simp only [SG, List.length_map] at hc
  obtain ⟨k', rfl⟩ : ∃ k', k = k' + 1 := ⟨k - 1, by omega⟩
  rw [show (((k' + 1 : Nat) : Int) - 1) = (k' : Int) by omega]
  refine B9 <| A5 <| D3 <| A0 <| A3 rfl rfl <| A3 rfl rfl <| A3 rfl rfl <| C9 rfl rfl rfl (fun _ => rfl) (by omega) <| D7 rfl rfl rfl <| F0 (es := List.map iV [_]) rfl rfl (by decide) rfl rfl (fun _ => C3 (B4 fun _ => rfl)) (fun _ => rfl) ?_
  intro g18
  refine F9 rfl rfl rfl rfl (by (simp; done)) (by simp) (by decide) rfl rfl rfl rfl (by decide) (fun _ => ⟨rfl, rfl⟩) (by simp only [H8]; (simp only [List.length_nil, List.length_cons, List.length_append, Nat.zero_add, List.length_map]; omega)) (fun _ => rfl) ?_
  intro g19
  (refine C5 rfl rfl (by (simp; done)) rfl (fun _ => (C3 (by exact B4 fun _ => rfl))) (fun _ => rfl) ?_; intro g3)
  refine A4 ⟨nofun, _, kS [0,3,4] [3] rfl, ?_⟩
  refine A0 <| A3 rfl rfl <| H6 rfl rfl (C8 (by omega)) <| A6 rfl rfl rfl ?_
  refine A4 ⟨nofun, _, kS [0,3,4] [3] rfl, ?_⟩
  refine ⟨(k', l ++ [x.getD k' default], _), ?_, (by simp only; omega), ⟨rfl, rfl, rfl, rfl, trivial⟩⟩
  exact ⟨by omega, by rw [hl2, b9f (show k' < x.length by omega), List.reverse_cons]⟩
 try simp only [SG, List.length_map] at hc
 refine G6 <| A5 <| A0 <| A3 rfl rfl ?_
 (refine C5 rfl rfl (by (simp; done)) rfl (fun _ => (C3 (by exact B4 fun _ => rfl))) (fun _ => rfl) ?_; intro g2)
 refine A4 ⟨nofun, _, kS [2] [2] rfl, ?_⟩
 refine C4 <| M2 rfl rfl (by simp) (by exact B4 fun _ => rfl) trivial ?_
 rw [hl2, show k = 0 by omega]
 rfl

theorem keep_s_validLong : G4 Try.f49 = [0, 2, 3, 7, 15] := by kernel_rfl
set_option maxHeartbeats 20000000 in
theorem b3n (x : List Int) (hl : x.length ≤ 1048576) : CW cxT 49 [L x] = some (bV (vl x), []) := by
 refine G5 rfl Try.func49 rfl ⟨by kernel_rfl, rfl, of_decide_eq_true rfl, of_decide_eq_true rfl, by decide⟩ keep_s_validLong <| A5 <| A0 <| A6 rfl rfl rfl ?_
 refine A4 ⟨nofun, _, kS [0] [] rfl, ?_⟩
 refine A5 <| A5 <| A0 <| A6 rfl rfl rfl ?_
 refine A4 ⟨nofun, _, kS [0,3] [] rfl, ?_⟩
 refine D3 <| G1 (β := Nat) [(.t 0, _)] (fun (i : Nat) => [(.t 3, iV i)]) (fun (i : Nat) => i ≤ x.length ∧ ∀ j, j < i → -100000 ≤ x.getD j default ∧ x.getD j default ≤ 100000) (fun (i : Nat) => x.length - i) 0 ⟨rfl, rfl, trivial⟩ ⟨Nat.zero_le _, fun j h => by omega⟩ ?_
 intro i hb
 obtain ⟨hi1, hi2⟩ := hb
 refine A5 <| A5 <| A0 <| A3 rfl rfl <| A3 rfl rfl <| E3 rfl rfl <| G7 rfl rfl ?_
 refine A4 ⟨nofun, _, kS [0,3,7] [] rfl, ?_⟩
 refine A8 rfl (fun hc => ?_) (fun hc => ?_)
 ·try simp only [SG, List.length_map] at hc
  refine B9 <| A5 <| D3 <| A5 <| A0 <| A3 rfl rfl <| A3 rfl rfl <| C9 rfl rfl rfl (fun _ => rfl) (by omega) <| D7 rfl rfl rfl ?_
  apply D6 rfl
  ·apply B1
   ·exact B0 rfl
   apply B1
   ·exact B0 rfl
   apply B1
   ·exact B0 rfl
   exact D5
  ·exact F5 _ _ _
  ·exact ⟨rfl, rfl, rfl, of_decide_eq_true rfl, rfl⟩
  ·exact .inl rfl
  ·exact C6
  ·exact C7 rfl
  ·exact fun _ => rfl
  intro g14
  refine G8 rfl ?_
  refine A4 ⟨nofun, _, kS [0,3,15] [] rfl, ?_⟩
  refine A8 rfl (fun hc => ?_) (fun hc => ?_)
  ·try simp only [SG, List.length_map] at hc
   refine A5 <| A0 <| A6 rfl rfl rfl ?_
   refine A4 ⟨nofun, _, kS [2] [] rfl, ?_⟩
   refine C4 <| C1 rfl rfl trivial ?_
   rw [vl, b4e (show i < x.length by omega) (by (simp_all; omega)), Bool.and_false]
   rfl
  try simp only [SG, List.length_map] at hc
  refine B9 <| A0 <| A3 rfl rfl <| D9 rfl rfl (C8 (by omega)) <| A6 rfl rfl rfl ?_
  refine A4 ⟨nofun, _, kS [0,3] [] rfl, ?_⟩
  refine ⟨i + 1, ⟨by omega, fun j hj => by rcases Nat.lt_succ_iff_lt_or_eq.1 hj with h | h; (· exact hi2 j h); (· subst h; assumption)⟩, (by omega), ⟨rfl, rfl, trivial⟩⟩
 try simp only [SG, List.length_map] at hc
 refine G6 <| A5 <| A0 <| A3 rfl rfl <| E3 rfl rfl <| a0h rfl rfl <| A6 rfl rfl rfl ?_
 refine A4 ⟨nofun, _, kS [2] [] rfl, ?_⟩
 refine C4 <| C1 rfl rfl trivial ?_
 rw [vl, b7w fun j hj => hi2 j (by omega), Bool.and_true]
 exact congrArg bV (decide_eq_decide.2 (by omega))

theorem keep_s_needs : G4 Try.f31 = [0, 2, 3, 4, 10, 19] := by kernel_rfl
set_option maxHeartbeats 20000000 in
theorem b6p (w : ByteArray) : CW cxT 31 [sV w] = some (iV (nd w), []) := by
 refine G5 rfl Try.func31 rfl ⟨by kernel_rfl, rfl, of_decide_eq_true rfl, of_decide_eq_true rfl, by decide⟩ keep_s_needs <| A5 <| A0 <| A6 rfl rfl rfl ?_
 refine A4 ⟨nofun, _, kS [0] [] rfl, ?_⟩
 refine A5 <| A5 <| A0 <| A3 rfl rfl ?_
 refine A4 ⟨nofun, _, kS [3] [] rfl, ?_⟩
 refine D3 <| A5 <| A5 <| A0 <| I1 rfl rfl <| A6 rfl rfl rfl ?_
 refine A4 ⟨nofun, _, kS [3,4] [] rfl, ?_⟩
 refine A8 rfl (fun hc => ?_) (fun hc => ?_)
 ·try simp only [SG, List.length_map] at hc
  refine B9 ?_
  refine A8 rfl (fun hc => ?_) (fun hc => absurd hc (by simp_all))
  refine A5 <| A0 <| A6 rfl rfl rfl ?_
  refine A4 ⟨nofun, _, kS [2] [] rfl, ?_⟩
  refine C4 <| C1 rfl rfl trivial <| congrArg iV ?_
  simp_all [nd]
 try simp only [SG, List.length_map] at hc
 refine A5 <| A0 <| I1 rfl rfl <| A6 rfl rfl rfl ?_
 refine A4 ⟨nofun, _, kS [3,4] [] rfl, ?_⟩
 refine A8 rfl (fun hc => ?_) (fun hc => ?_)
 ·try simp only [SG, List.length_map] at hc
  refine B9 ?_
  refine A8 rfl (fun hc => ?_) (fun hc => absurd hc (by simp_all))
  refine A5 <| A0 <| A6 rfl rfl rfl ?_
  refine A4 ⟨nofun, _, kS [2] [] rfl, ?_⟩
  refine C4 <| C1 rfl rfl trivial <| congrArg iV ?_
  simp_all [nd]
 try simp only [SG, List.length_map] at hc
 refine A5 <| A0 <| I1 rfl rfl <| A6 rfl rfl rfl ?_
 refine A4 ⟨nofun, _, kS [3,4] [] rfl, ?_⟩
 refine A8 rfl (fun hc => ?_) (fun hc => ?_)
 ·try simp only [SG, List.length_map] at hc
  refine B9 ?_
  refine A8 rfl (fun hc => ?_) (fun hc => absurd hc (by simp_all))
  refine A5 <| A0 <| A6 rfl rfl rfl ?_
  refine A4 ⟨nofun, _, kS [2] [] rfl, ?_⟩
  refine C4 <| C1 rfl rfl trivial <| congrArg iV ?_
  simp_all [nd]
 try simp only [SG, List.length_map] at hc
 refine A5 <| A0 <| I1 rfl rfl <| A6 rfl rfl rfl ?_
 refine A4 ⟨nofun, _, kS [3,4] [] rfl, ?_⟩
 refine A8 rfl (fun hc => ?_) (fun hc => ?_)
 ·try simp only [SG, List.length_map] at hc
  refine B9 ?_
  refine A8 rfl (fun hc => ?_) (fun hc => absurd hc (by simp_all))
  refine A5 <| A0 <| A6 rfl rfl rfl ?_
  refine A4 ⟨nofun, _, kS [2] [] rfl, ?_⟩
  refine C4 <| C1 rfl rfl trivial <| congrArg iV ?_
  simp_all [nd]
 try simp only [SG, List.length_map] at hc
 refine A0 <| I1 rfl rfl <| A6 rfl rfl rfl ?_
 refine A4 ⟨nofun, _, kS [3,4] [] rfl, ?_⟩
 refine A8 rfl (fun hc => ?_) (fun hc => ?_)
 ·try simp only [SG, List.length_map] at hc
  refine A5 <| A0 <| A6 rfl rfl rfl ?_
  refine A4 ⟨nofun, _, kS [2] [] rfl, ?_⟩
  refine C4 <| C1 rfl rfl trivial <| congrArg iV ?_
  simp_all [nd]
 try simp only [SG, List.length_map] at hc
 refine A5 <| A5 <| A0 <| I1 rfl rfl <| A6 rfl rfl rfl ?_
 refine A4 ⟨nofun, _, kS [3,10] [] rfl, ?_⟩
 refine A8 rfl (fun hc => ?_) (fun hc => ?_)
 ·try simp only [SG, List.length_map] at hc
  refine B9 ?_
  refine A8 rfl (fun hc => ?_) (fun hc => absurd hc (by simp_all))
  refine A5 <| A0 <| A6 rfl rfl rfl ?_
  refine A4 ⟨nofun, _, kS [2] [] rfl, ?_⟩
  refine C4 <| C1 rfl rfl trivial <| congrArg iV ?_
  simp_all [nd]
 try simp only [SG, List.length_map] at hc
 refine A5 <| A0 <| I1 rfl rfl <| A6 rfl rfl rfl ?_
 refine A4 ⟨nofun, _, kS [3,10] [] rfl, ?_⟩
 refine A8 rfl (fun hc => ?_) (fun hc => ?_)
 ·try simp only [SG, List.length_map] at hc
  refine B9 ?_
  refine A8 rfl (fun hc => ?_) (fun hc => absurd hc (by simp_all))
  refine A5 <| A0 <| A6 rfl rfl rfl ?_
  refine A4 ⟨nofun, _, kS [2] [] rfl, ?_⟩
  refine C4 <| C1 rfl rfl trivial <| congrArg iV ?_
  simp_all [nd]
 try simp only [SG, List.length_map] at hc
 refine A5 <| A0 <| I1 rfl rfl <| A6 rfl rfl rfl ?_
 refine A4 ⟨nofun, _, kS [3,10] [] rfl, ?_⟩
 refine A8 rfl (fun hc => ?_) (fun hc => ?_)
 ·try simp only [SG, List.length_map] at hc
  refine B9 ?_
  refine A8 rfl (fun hc => ?_) (fun hc => absurd hc (by simp_all))
  refine A5 <| A0 <| A6 rfl rfl rfl ?_
  refine A4 ⟨nofun, _, kS [2] [] rfl, ?_⟩
  refine C4 <| C1 rfl rfl trivial <| congrArg iV ?_
  simp_all [nd]
 try simp only [SG, List.length_map] at hc
 refine A5 <| A0 <| I1 rfl rfl <| A6 rfl rfl rfl ?_
 refine A4 ⟨nofun, _, kS [3,10] [] rfl, ?_⟩
 refine A8 rfl (fun hc => ?_) (fun hc => ?_)
 ·try simp only [SG, List.length_map] at hc
  refine B9 ?_
  refine A8 rfl (fun hc => ?_) (fun hc => absurd hc (by simp_all))
  refine A5 <| A0 <| A6 rfl rfl rfl ?_
  refine A4 ⟨nofun, _, kS [2] [] rfl, ?_⟩
  refine C4 <| C1 rfl rfl trivial <| congrArg iV ?_
  simp_all [nd]
 try simp only [SG, List.length_map] at hc
 refine A5 <| A0 <| I1 rfl rfl <| A6 rfl rfl rfl ?_
 refine A4 ⟨nofun, _, kS [3,10] [] rfl, ?_⟩
 refine A8 rfl (fun hc => ?_) (fun hc => ?_)
 ·try simp only [SG, List.length_map] at hc
  refine B9 ?_
  refine A8 rfl (fun hc => ?_) (fun hc => absurd hc (by simp_all))
  refine A5 <| A0 <| A6 rfl rfl rfl ?_
  refine A4 ⟨nofun, _, kS [2] [] rfl, ?_⟩
  refine C4 <| C1 rfl rfl trivial <| congrArg iV ?_
  simp_all [nd]
 try simp only [SG, List.length_map] at hc
 refine A5 <| A0 <| I1 rfl rfl <| A6 rfl rfl rfl ?_
 refine A4 ⟨nofun, _, kS [3,10] [] rfl, ?_⟩
 refine A8 rfl (fun hc => ?_) (fun hc => ?_)
 ·try simp only [SG, List.length_map] at hc
  refine B9 ?_
  refine A8 rfl (fun hc => ?_) (fun hc => absurd hc (by simp_all))
  refine A5 <| A0 <| A6 rfl rfl rfl ?_
  refine A4 ⟨nofun, _, kS [2] [] rfl, ?_⟩
  refine C4 <| C1 rfl rfl trivial <| congrArg iV ?_
  simp_all [nd]
 try simp only [SG, List.length_map] at hc
 refine A5 <| A0 <| I1 rfl rfl <| A6 rfl rfl rfl ?_
 refine A4 ⟨nofun, _, kS [3,10] [] rfl, ?_⟩
 refine A8 rfl (fun hc => ?_) (fun hc => ?_)
 ·try simp only [SG, List.length_map] at hc
  refine B9 ?_
  refine A8 rfl (fun hc => ?_) (fun hc => absurd hc (by simp_all))
  refine A5 <| A0 <| A6 rfl rfl rfl ?_
  refine A4 ⟨nofun, _, kS [2] [] rfl, ?_⟩
  refine C4 <| C1 rfl rfl trivial <| congrArg iV ?_
  simp_all [nd]
 try simp only [SG, List.length_map] at hc
 refine A0 <| I1 rfl rfl <| A6 rfl rfl rfl ?_
 refine A4 ⟨nofun, _, kS [3,10] [] rfl, ?_⟩
 refine A8 rfl (fun hc => ?_) (fun hc => ?_)
 ·try simp only [SG, List.length_map] at hc
  refine A5 <| A0 <| A6 rfl rfl rfl ?_
  refine A4 ⟨nofun, _, kS [2] [] rfl, ?_⟩
  refine C4 <| C1 rfl rfl trivial <| congrArg iV ?_
  simp_all [nd]
 try simp only [SG, List.length_map] at hc
 refine A5 <| A5 <| A0 <| I1 rfl rfl <| A6 rfl rfl rfl ?_
 refine A4 ⟨nofun, _, kS [3,19] [] rfl, ?_⟩
 refine A8 rfl (fun hc => ?_) (fun hc => ?_)
 ·try simp only [SG, List.length_map] at hc
  refine B9 ?_
  refine A8 rfl (fun hc => ?_) (fun hc => absurd hc (by simp_all))
  refine A5 <| A0 <| A6 rfl rfl rfl ?_
  refine A4 ⟨nofun, _, kS [2] [] rfl, ?_⟩
  refine C4 <| C1 rfl rfl trivial <| congrArg iV ?_
  simp_all [nd]
 try simp only [SG, List.length_map] at hc
 refine A0 <| I1 rfl rfl <| A6 rfl rfl rfl ?_
 refine A4 ⟨nofun, _, kS [19] [] rfl, ?_⟩
 refine A8 rfl (fun hc => ?_) (fun hc => ?_)
 ·try simp only [SG, List.length_map] at hc
  refine A5 <| A0 <| A6 rfl rfl rfl ?_
  refine A4 ⟨nofun, _, kS [2] [] rfl, ?_⟩
  refine C4 <| C1 rfl rfl trivial <| congrArg iV ?_
  simp_all [nd]
 try simp only [SG, List.length_map] at hc
 refine B9 <| A5 <| A0 <| A6 rfl rfl rfl ?_
 refine A4 ⟨nofun, _, kS [2] [] rfl, ?_⟩
 refine C4 <| C1 rfl rfl trivial <| congrArg iV ?_
 simp_all [nd]

theorem keep_s_reachOf : G4 Try.f24 = [0, 2, 3, 4, 13, 16] := by kernel_rfl
set_option maxHeartbeats 20000000 in
theorem e7 (w : ByteArray) : CW cxT 24 [sV w] = some (iV (rch w), []) := by
 refine G5 rfl Try.func24 rfl ⟨by kernel_rfl, rfl, of_decide_eq_true rfl, of_decide_eq_true rfl, by decide⟩ keep_s_reachOf <| A5 <| A0 <| A6 rfl rfl rfl ?_
 refine A4 ⟨nofun, _, kS [0] [] rfl, ?_⟩
 refine A5 <| A5 <| A0 <| A3 rfl rfl ?_
 refine A4 ⟨nofun, _, kS [3] [] rfl, ?_⟩
 refine D3 <| A5 <| A5 <| A0 <| I1 rfl rfl <| A6 rfl rfl rfl ?_
 refine A4 ⟨nofun, _, kS [3,4] [] rfl, ?_⟩
 refine A8 rfl (fun hc => ?_) (fun hc => ?_)
 ·try simp only [SG, List.length_map] at hc
  refine B9 ?_
  refine A8 rfl (fun hc => ?_) (fun hc => absurd hc (by simp_all))
  refine A5 <| A0 <| A6 rfl rfl rfl ?_
  refine A4 ⟨nofun, _, kS [2] [] rfl, ?_⟩
  refine C4 <| C1 rfl rfl trivial <| congrArg iV ?_
  simp_all [rch]
 try simp only [SG, List.length_map] at hc
 refine A5 <| A0 <| I1 rfl rfl <| A6 rfl rfl rfl ?_
 refine A4 ⟨nofun, _, kS [3,4] [] rfl, ?_⟩
 refine A8 rfl (fun hc => ?_) (fun hc => ?_)
 ·try simp only [SG, List.length_map] at hc
  refine B9 ?_
  refine A8 rfl (fun hc => ?_) (fun hc => absurd hc (by simp_all))
  refine A5 <| A0 <| A6 rfl rfl rfl ?_
  refine A4 ⟨nofun, _, kS [2] [] rfl, ?_⟩
  refine C4 <| C1 rfl rfl trivial <| congrArg iV ?_
  simp_all [rch]
 try simp only [SG, List.length_map] at hc
 refine A5 <| A0 <| I1 rfl rfl <| A6 rfl rfl rfl ?_
 refine A4 ⟨nofun, _, kS [3,4] [] rfl, ?_⟩
 refine A8 rfl (fun hc => ?_) (fun hc => ?_)
 ·try simp only [SG, List.length_map] at hc
  refine B9 ?_
  refine A8 rfl (fun hc => ?_) (fun hc => absurd hc (by simp_all))
  refine A5 <| A0 <| A6 rfl rfl rfl ?_
  refine A4 ⟨nofun, _, kS [2] [] rfl, ?_⟩
  refine C4 <| C1 rfl rfl trivial <| congrArg iV ?_
  simp_all [rch]
 try simp only [SG, List.length_map] at hc
 refine A5 <| A0 <| I1 rfl rfl <| A6 rfl rfl rfl ?_
 refine A4 ⟨nofun, _, kS [3,4] [] rfl, ?_⟩
 refine A8 rfl (fun hc => ?_) (fun hc => ?_)
 ·try simp only [SG, List.length_map] at hc
  refine B9 ?_
  refine A8 rfl (fun hc => ?_) (fun hc => absurd hc (by simp_all))
  refine A5 <| A0 <| A6 rfl rfl rfl ?_
  refine A4 ⟨nofun, _, kS [2] [] rfl, ?_⟩
  refine C4 <| C1 rfl rfl trivial <| congrArg iV ?_
  simp_all [rch]
 try simp only [SG, List.length_map] at hc
 refine A5 <| A0 <| I1 rfl rfl <| A6 rfl rfl rfl ?_
 refine A4 ⟨nofun, _, kS [3,4] [] rfl, ?_⟩
 refine A8 rfl (fun hc => ?_) (fun hc => ?_)
 ·try simp only [SG, List.length_map] at hc
  refine B9 ?_
  refine A8 rfl (fun hc => ?_) (fun hc => absurd hc (by simp_all))
  refine A5 <| A0 <| A6 rfl rfl rfl ?_
  refine A4 ⟨nofun, _, kS [2] [] rfl, ?_⟩
  refine C4 <| C1 rfl rfl trivial <| congrArg iV ?_
  simp_all [rch]
 try simp only [SG, List.length_map] at hc
 refine A5 <| A0 <| I1 rfl rfl <| A6 rfl rfl rfl ?_
 refine A4 ⟨nofun, _, kS [3,4] [] rfl, ?_⟩
 refine A8 rfl (fun hc => ?_) (fun hc => ?_)
 ·try simp only [SG, List.length_map] at hc
  refine B9 ?_
  refine A8 rfl (fun hc => ?_) (fun hc => absurd hc (by simp_all))
  refine A5 <| A0 <| A6 rfl rfl rfl ?_
  refine A4 ⟨nofun, _, kS [2] [] rfl, ?_⟩
  refine C4 <| C1 rfl rfl trivial <| congrArg iV ?_
  simp_all [rch]
 try simp only [SG, List.length_map] at hc
 refine A5 <| A0 <| I1 rfl rfl <| A6 rfl rfl rfl ?_
 refine A4 ⟨nofun, _, kS [3,4] [] rfl, ?_⟩
 refine A8 rfl (fun hc => ?_) (fun hc => ?_)
 ·try simp only [SG, List.length_map] at hc
  refine B9 ?_
  refine A8 rfl (fun hc => ?_) (fun hc => absurd hc (by simp_all))
  refine A5 <| A0 <| A6 rfl rfl rfl ?_
  refine A4 ⟨nofun, _, kS [2] [] rfl, ?_⟩
  refine C4 <| C1 rfl rfl trivial <| congrArg iV ?_
  simp_all [rch]
 try simp only [SG, List.length_map] at hc
 refine A0 <| I1 rfl rfl <| A6 rfl rfl rfl ?_
 refine A4 ⟨nofun, _, kS [3,4] [] rfl, ?_⟩
 refine A8 rfl (fun hc => ?_) (fun hc => ?_)
 ·try simp only [SG, List.length_map] at hc
  refine A5 <| A0 <| A6 rfl rfl rfl ?_
  refine A4 ⟨nofun, _, kS [2] [] rfl, ?_⟩
  refine C4 <| C1 rfl rfl trivial <| congrArg iV ?_
  simp_all [rch]
 try simp only [SG, List.length_map] at hc
 refine A5 <| A5 <| A0 <| I1 rfl rfl <| A6 rfl rfl rfl ?_
 refine A4 ⟨nofun, _, kS [3,13] [] rfl, ?_⟩
 refine A8 rfl (fun hc => ?_) (fun hc => ?_)
 ·try simp only [SG, List.length_map] at hc
  refine B9 ?_
  refine A8 rfl (fun hc => ?_) (fun hc => absurd hc (by simp_all))
  refine A5 <| A0 <| A6 rfl rfl rfl ?_
  refine A4 ⟨nofun, _, kS [2] [] rfl, ?_⟩
  refine C4 <| C1 rfl rfl trivial <| congrArg iV ?_
  simp_all [rch]
 try simp only [SG, List.length_map] at hc
 refine A0 <| I1 rfl rfl <| A6 rfl rfl rfl ?_
 refine A4 ⟨nofun, _, kS [3,13] [] rfl, ?_⟩
 refine A8 rfl (fun hc => ?_) (fun hc => ?_)
 ·try simp only [SG, List.length_map] at hc
  refine A5 <| A0 <| A6 rfl rfl rfl ?_
  refine A4 ⟨nofun, _, kS [2] [] rfl, ?_⟩
  refine C4 <| C1 rfl rfl trivial <| congrArg iV ?_
  simp_all [rch]
 try simp only [SG, List.length_map] at hc
 refine A5 <| A5 <| A0 <| I1 rfl rfl <| A6 rfl rfl rfl ?_
 refine A4 ⟨nofun, _, kS [3,16] [] rfl, ?_⟩
 refine A8 rfl (fun hc => ?_) (fun hc => ?_)
 ·try simp only [SG, List.length_map] at hc
  refine B9 ?_
  refine A8 rfl (fun hc => ?_) (fun hc => absurd hc (by simp_all))
  refine A5 <| A0 <| A6 rfl rfl rfl ?_
  refine A4 ⟨nofun, _, kS [2] [] rfl, ?_⟩
  refine C4 <| C1 rfl rfl trivial <| congrArg iV ?_
  simp_all [rch]
 try simp only [SG, List.length_map] at hc
 refine A5 <| A0 <| I1 rfl rfl <| A6 rfl rfl rfl ?_
 refine A4 ⟨nofun, _, kS [3,16] [] rfl, ?_⟩
 refine A8 rfl (fun hc => ?_) (fun hc => ?_)
 ·try simp only [SG, List.length_map] at hc
  refine B9 ?_
  refine A8 rfl (fun hc => ?_) (fun hc => absurd hc (by simp_all))
  refine A5 <| A0 <| A6 rfl rfl rfl ?_
  refine A4 ⟨nofun, _, kS [2] [] rfl, ?_⟩
  refine C4 <| C1 rfl rfl trivial <| congrArg iV ?_
  simp_all [rch]
 try simp only [SG, List.length_map] at hc
 refine A5 <| A0 <| I1 rfl rfl <| A6 rfl rfl rfl ?_
 refine A4 ⟨nofun, _, kS [3,16] [] rfl, ?_⟩
 refine A8 rfl (fun hc => ?_) (fun hc => ?_)
 ·try simp only [SG, List.length_map] at hc
  refine B9 ?_
  refine A8 rfl (fun hc => ?_) (fun hc => absurd hc (by simp_all))
  refine A5 <| A0 <| A6 rfl rfl rfl ?_
  refine A4 ⟨nofun, _, kS [2] [] rfl, ?_⟩
  refine C4 <| C1 rfl rfl trivial <| congrArg iV ?_
  simp_all [rch]
 try simp only [SG, List.length_map] at hc
 refine A0 <| I1 rfl rfl <| A6 rfl rfl rfl ?_
 refine A4 ⟨nofun, _, kS [16] [] rfl, ?_⟩
 refine A8 rfl (fun hc => ?_) (fun hc => ?_)
 ·try simp only [SG, List.length_map] at hc
  refine A5 <| A0 <| A6 rfl rfl rfl ?_
  refine A4 ⟨nofun, _, kS [2] [] rfl, ?_⟩
  refine C4 <| C1 rfl rfl trivial <| congrArg iV ?_
  simp_all [rch]
 try simp only [SG, List.length_map] at hc
 refine B9 <| A5 <| A0 <| A6 rfl rfl rfl ?_
 refine A4 ⟨nofun, _, kS [2] [] rfl, ?_⟩
 refine C4 <| C1 rfl rfl trivial <| congrArg iV ?_
 simp_all [rch]

theorem keep_s_validColumnsS : G4 Try.f23 = [0, 2, 3, 7, 15] := by kernel_rfl
set_option maxHeartbeats 20000000 in
theorem a4m (cols : List (List Int)) (hc4 : cols.length ≤ 1048576) (hcb : ∀ c ∈ cols, c.length ≤ 1048576) : CW cxT 23 [M cols] = some (bV (vcs cols), []) := by
 refine G5 rfl Try.func23 rfl ⟨by kernel_rfl, rfl, of_decide_eq_true rfl, of_decide_eq_true rfl, by decide⟩ keep_s_validColumnsS <| A5 <| A0 <| A6 rfl rfl rfl ?_
 refine A4 ⟨nofun, _, kS [0] [] rfl, ?_⟩
 refine A5 <| A5 <| A0 <| A6 rfl rfl rfl ?_
 refine A4 ⟨nofun, _, kS [0,3] [] rfl, ?_⟩
 refine D3 <| G1 (β := Nat) [(.t 0, _)] (fun (i : Nat) => [(.t 3, iV i)]) (fun (i : Nat) => i ≤ cols.length ∧ ∀ j, j < i → vd (cols.getD j default) = true) (fun (i : Nat) => cols.length - i) 0 ⟨rfl, rfl, trivial⟩ ⟨Nat.zero_le _, fun j h => by omega⟩ ?_
 intro i hb
 obtain ⟨hi1, hi2⟩ := hb
 have hci := fun h : i < cols.length => hcb _ (L9 h)
 refine A5 <| A5 <| A0 <| A3 rfl rfl <| A3 rfl rfl <| E3 rfl rfl <| G7 rfl rfl ?_
 refine A4 ⟨nofun, _, kS [0,3,7] [] rfl, ?_⟩
 refine A8 rfl (fun hc => ?_) (fun hc => ?_)
 ·try simp only [SG, List.length_map] at hc
  refine B9 <| A5 <| D3 <| A5 <| A0 <| A3 rfl rfl <| A3 rfl rfl <| C9 rfl rfl rfl (fun _ => rfl) (by omega) <| D7 rfl rfl rfl ?_
  apply D6 rfl
  ·apply B1
   ·exact B0 rfl
   exact D5
  ·exact p6 (cols.getD i default) (hci (by omega))
  ·exact ⟨rfl, rfl, rfl, of_decide_eq_true rfl, rfl⟩
  ·exact .inl rfl
  ·exact C6
  ·exact C7 rfl
  ·exact fun _ => rfl
  intro g14
  refine G8 rfl ?_
  refine A4 ⟨nofun, _, kS [0,3,15] [] rfl, ?_⟩
  refine A8 rfl (fun hc => ?_) (fun hc => ?_)
  ·try simp only [SG, List.length_map] at hc
   refine A5 <| A0 <| A6 rfl rfl rfl ?_
   refine A4 ⟨nofun, _, kS [2] [] rfl, ?_⟩
   refine C4 <| C1 rfl rfl trivial ?_
   rw [c3t (show i < cols.length by omega) (by simpa using hc)]
   rfl
  try simp only [SG, List.length_map] at hc
  refine B9 <| A0 <| A3 rfl rfl <| D9 rfl rfl (C8 (by omega)) <| A6 rfl rfl rfl ?_
  refine A4 ⟨nofun, _, kS [0,3] [] rfl, ?_⟩
  refine ⟨i + 1, ⟨by omega, fun j hj => by rcases Nat.lt_succ_iff_lt_or_eq.1 hj with h | h; (· exact hi2 j h); (· subst h; simpa using hc)⟩, (by omega), ⟨rfl, rfl, trivial⟩⟩
 try simp only [SG, List.length_map] at hc
 refine G6 <| A5 <| A0 <| A3 rfl rfl <| E3 rfl rfl <| a0h rfl rfl <| A6 rfl rfl rfl ?_
 refine A4 ⟨nofun, _, kS [2] [] rfl, ?_⟩
 refine C4 <| C1 rfl rfl trivial ?_
 rw [c1n fun j hj => hi2 j (by omega)]

theorem keep_s_colValid1 : G4 Try.f53 = [0, 2] := by kernel_rfl
set_option maxHeartbeats 20000000 in
theorem b2g (c : List Int) (hc : c.length ≤ 1048576) : CW cxT 53 [L c] = some (bV (!vd c), []) := by
 refine G5 rfl Try.func53 rfl ⟨by kernel_rfl, rfl, of_decide_eq_true rfl, of_decide_eq_true rfl, by decide⟩ keep_s_colValid1 <| A5 <| A0 <| A6 rfl rfl rfl ?_
 refine A4 ⟨nofun, _, kS [0] [] rfl, ?_⟩
 refine A5 <| A0 <| A3 rfl rfl ?_
 apply D6 rfl
 ·apply B1
  ·exact B0 rfl
  exact D5
 ·exact n3 c hc
 ·exact ⟨rfl, rfl, rfl, of_decide_eq_true rfl, rfl⟩
 ·exact .inl rfl
 ·exact C6
 ·exact C7 rfl
 ·exact fun _ => rfl
 intro g4
 refine G8 rfl <| A6 rfl rfl rfl ?_
 refine A4 ⟨nofun, _, kS [2] [] rfl, ?_⟩
 refine C4 <| C1 rfl rfl trivial ?_
 rfl

theorem keep_s_IndexFuncC : G4 Try.f67 = [0, 1, 4, 8, 7, 9, 5, 16] := by kernel_rfl
set_option maxHeartbeats 20000000 in
theorem b1a (cols : List (List Int)) (hc4 : cols.length ≤ 1048576) (hcb : ∀ c ∈ cols, c.length ≤ 1048576) : ∃ res outs, (fun res outs => ∃ r : Int, res = iV r ∧ outs = [] ∧ decide (0 ≤ r) = cols.any fun c => !vd c) res outs ∧ CW cxT 67 [M cols, .clo 53 []] = some (res, outs) := by
 refine N4 rfl Try.func67 rfl ⟨by kernel_rfl, rfl, of_decide_eq_true rfl, of_decide_eq_true rfl, by decide⟩ keep_s_IndexFuncC <| A5 <| A0 <| A6 rfl rfl rfl ?_
 refine A4 ⟨nofun, _, kS [0,1] [] rfl, ?_⟩
 refine A5 <| A5 <| A0 <| A3 rfl rfl <| E3 rfl rfl <| A3 rfl rfl ?_
 refine A4 ⟨nofun, _, kS [0,1,7,8] [] rfl, ?_⟩
 refine D3 <| G1 (β := Nat) [(.t 0, _), (.t 1, _), (.t 7, _)] (fun (i : Nat) => [(.t 8, iV i)]) (fun (i : Nat) => i ≤ cols.length ∧ ∀ j, j < i → (!vd (cols.getD j default)) = false) (fun (i : Nat) => cols.length - i) 0 ⟨rfl, rfl, rfl, rfl, trivial⟩ ⟨Nat.zero_le _, fun j h => by omega⟩ ?_
 intro i hb
 obtain ⟨hi1, hi2⟩ := hb
 have hci := fun h : i < cols.length => hcb _ (L9 h)
 refine A5 <| A0 <| G7 rfl rfl ?_
 refine A4 ⟨nofun, _, kS [0,1,7,8,9] [] rfl, ?_⟩
 refine A5 ?_
 refine A8 rfl (fun hc => ?_) (fun hc => ?_)
 ·try simp only [SG, List.length_map] at hc
  refine B9 <| A5 <| D3 <| A5 <| A0 <| A3 rfl rfl <| A6 rfl rfl rfl ?_
  refine A4 ⟨nofun, _, kS [0,1,5,7,8] [] rfl, ?_⟩
  refine A5 <| A0 <| A3 rfl rfl <| A3 rfl rfl <| A3 rfl rfl <| C9 rfl rfl rfl (fun _ => rfl) (by omega) <| D7 rfl rfl rfl ?_
  apply b7p rfl rfl
  ·apply B1
   ·exact B0 rfl
   exact D5
  ·exact b2g (cols.getD i default) (hci (by omega))
  ·exact ⟨rfl, rfl, rfl, of_decide_eq_true rfl, rfl⟩
  ·exact .inl rfl
  ·exact C6
  ·exact C7 rfl
  ·exact fun _ => rfl
  intro g16
  refine A4 ⟨nofun, _, kS [0,1,5,7,8,16] [] rfl, ?_⟩
  refine A8 rfl (fun hc => ?_) (fun hc => ?_)
  ·try simp only [SG, List.length_map] at hc
   refine A5 <| A0 <| A3 rfl rfl <| A6 rfl rfl rfl ?_
   refine A4 ⟨nofun, _, kS [4] [] rfl, ?_⟩
   refine C4 ?_
   refine ⟨_, _, ?_, K4 rfl rfl H0⟩
   exact ⟨_, rfl, rfl, c1f (q := fun c => !vd c) (by omega) (by simpa using hc)⟩
  try simp only [SG, List.length_map] at hc
  refine B9 <| A0 <| D9 rfl rfl (C8 (by omega)) <| A3 rfl rfl ?_
  refine A4 ⟨nofun, _, kS [0,1,7,8] [] rfl, ?_⟩
  refine ⟨i + 1, ⟨by omega, fun j hj => by rcases Nat.lt_succ_iff_lt_or_eq.1 hj with h | h; (· exact hi2 j h); (· subst h; simpa using hc)⟩, (by omega), ⟨rfl, rfl, rfl, rfl, trivial⟩⟩
 try simp only [SG, List.length_map] at hc
 refine G6 <| A5 <| A0 <| A6 rfl rfl rfl ?_
 refine A4 ⟨nofun, _, kS [4] [] rfl, ?_⟩
 refine C4 ?_
 refine ⟨_, _, ?_, K4 rfl rfl H0⟩
 exact ⟨-1, rfl, rfl, b8b fun j hj => hi2 j (by omega)⟩

theorem keep_s_ContainsFuncC : G4 Try.f52 = [0, 1, 4] := by kernel_rfl
set_option maxHeartbeats 20000000 in
theorem a4q (cols : List (List Int)) (hc4 : cols.length ≤ 1048576) (hcb : ∀ c ∈ cols, c.length ≤ 1048576) : CW cxT 52 [M cols, .clo 53 []] = some (bV (cols.any fun c => !vd c), []) := by
 obtain ⟨_, _, ⟨r, rfl, rfl, hr⟩, hC⟩ := b1a cols hc4 hcb
 refine G5 rfl Try.func52 rfl ⟨by kernel_rfl, rfl, of_decide_eq_true rfl, of_decide_eq_true rfl, by decide⟩ keep_s_ContainsFuncC <| A5 <| A0 <| A6 rfl rfl rfl ?_
 refine A4 ⟨nofun, _, kS [0,1] [] rfl, ?_⟩
 refine A5 <| A0 <| A3 rfl rfl <| A3 rfl rfl ?_
 apply D6 rfl
 ·apply B1
  ·exact B0 rfl
  apply B1
  ·exact B0 rfl
  exact D5
 ·exact hC
 ·exact ⟨rfl, rfl, rfl, of_decide_eq_true rfl, rfl⟩
 ·exact .inl rfl
 ·exact C6
 ·exact C7 rfl
 ·exact fun _ => rfl
 intro g7
 refine r8 rfl rfl <| A6 rfl rfl rfl ?_
 refine A4 ⟨nofun, _, kS [4] [] rfl, ?_⟩
 refine C4 <| C1 rfl rfl trivial ?_
 rw [← hr]

theorem keep_s_columnsValid : G4 Try.f30 = [0, 2] := by kernel_rfl
set_option maxHeartbeats 20000000 in
theorem a5s (cols : List (List Int)) (hc4 : cols.length ≤ 1048576) (hcb : ∀ c ∈ cols, c.length ≤ 1048576) : CW cxT 30 [M cols] = some (bV (vcs cols), []) := by
 refine G5 rfl Try.func30 rfl ⟨by kernel_rfl, rfl, of_decide_eq_true rfl, of_decide_eq_true rfl, by decide⟩ keep_s_columnsValid <| A5 <| A0 <| A6 rfl rfl rfl ?_
 refine A4 ⟨nofun, _, kS [0] [] rfl, ?_⟩
 refine A5 <| A0 <| A3 rfl rfl <| E3 rfl rfl <| a0h rfl rfl <| A3 rfl rfl ?_
 refine B3 rfl rfl (fun hg0 => ?_) (fun hg0 => ?_)
 ·have hg := hg0; try simp only [SG] at hg
  refine A3 rfl rfl <| gT rfl rfl ?_
  apply D6 rfl
  ·apply B1
   ·exact B0 rfl
   apply B1
   ·exact B0 rfl
   exact D5
  ·exact a4q cols hc4 hcb
  ·exact ⟨rfl, rfl, rfl, of_decide_eq_true rfl, rfl⟩
  ·exact .inl rfl
  ·exact C6
  ·exact C7 rfl
  ·exact fun _ => rfl
  intro g8
  refine gT rfl rfl <| G8 rfl <| C0 rfl (by assumption) rfl rfl <| A6 rfl rfl rfl ?_
  refine A4 ⟨nofun, _, kS [2] [] rfl, ?_⟩
  refine C4 <| C1 rfl rfl trivial ?_
  rw [b6y]
  (simp_all; done)
 have hg := hg0; try simp only [SG] at hg
 refine gF rfl rfl <| gF rfl rfl <| B6 rfl (by assumption) rfl rfl <| A6 rfl rfl rfl ?_
 refine A4 ⟨nofun, _, kS [2] [] rfl, ?_⟩
 refine C4 <| C1 rfl rfl trivial ?_
 rw [b6y]
 (simp_all [ofConst]; intros; omega)

theorem keep_s_Reverse : G4 Try.f57 = [0, 3, 2, 9] := by kernel_rfl
set_option maxHeartbeats 20000000 in
theorem b8p (x : List Int) (hl : x.length ≤ 1000) : ∃ res outs, (fun res outs => res = .tup [] ∧ outs = [x.reverse.map iV]) res outs ∧ CW cxT 57 [.own 1 (x.map iV)] = some (res, outs) := by
 refine N4 rfl Try.func57 rfl ⟨by kernel_rfl, rfl, of_decide_eq_true rfl, of_decide_eq_true rfl, by decide⟩ keep_s_Reverse <| A5 <| A0 <| A3 rfl rfl <| K1 rfl rfl ?_
 simp only [List.length_map]
 refine H6 rfl rfl (C8 (by omega)) <| A6 rfl rfl rfl <| A6 rfl rfl rfl ?_
 refine A4 ⟨nofun, _, kS [0,2,3] [0] rfl, ?_⟩
 refine D3 ?_
 rw [show ((x.length : Int) - 1) = (x.length : Int) - 1 - ((0 : Nat) : Int) by simp]
 refine G1 (β := Nat × List Int) [(.t 0, _)] (fun (z : Nat × List Int) => match z with | (i, l) => [(.t 2, iV i), (.t 3, iV ((x.length : Int) - 1 - (i : Int))), (.h 0, .obj 1 1 1 (l.map iV))]) (fun (z : Nat × List Int) => match z with | (i, l) => i ≤ x.length ∧ b0y x i l) (fun (z : Nat × List Int) => match z with | (i, l) => x.length - i) (0, x) ⟨rfl, rfl, rfl, rfl, trivial⟩ ⟨Nat.zero_le _, b0y.start x⟩ ?_
 intro z hb
 obtain ⟨i, l⟩ := z
 try dsimp only at hb
 obtain ⟨hi1, hr⟩ := hb
 have hrl := hr.1
 refine A5 <| A5 <| A0 <| A3 rfl rfl <| A3 rfl rfl <| G7 rfl rfl ?_
 refine A4 ⟨nofun, _, kS [0,2,3,9] [0] rfl, ?_⟩
 refine A8 rfl (fun hc => ?_) (fun hc => ?_)
 ·try simp only [SG, List.length_map] at hc
  refine B9 <| A5 <| D3 <| A0 <| A3 rfl rfl <| A3 rfl rfl <| A3 rfl rfl <| A3 rfl rfl <| A3 rfl rfl <| A3 rfl rfl ?_
  rw [show ((x.length : Int) - 1 - (i : Int)) = ((x.length - 1 - i : Nat) : Int) by omega]
  refine E6 rfl rfl rfl rfl (by (simp; omega)) (by (simp; omega)) rfl <| I3 rfl rfl (by omega) (fun _ => rfl) (fun _ => rfl) rfl <| A3 rfl rfl <| A3 rfl rfl <| E6 rfl rfl rfl rfl (by (simp; omega)) (by (simp; omega)) rfl <| I3 rfl rfl (by omega) (fun _ => rfl) (fun _ => rfl) rfl <| E6 rfl rfl rfl rfl (by (simp; omega)) (by (simp; omega)) rfl <| J0 rfl rfl rfl (by omega) (fun _ _ => ⟨rfl, rfl, of_decide_eq_true rfl, of_decide_eq_true rfl, rfl, rfl⟩) (by decide) (by exact a2c (B4 fun _ => rfl)) <| E6 rfl rfl rfl rfl (by (simp; omega)) (by (simp; omega)) rfl <| J0 rfl rfl rfl (by (simp; omega)) (fun _ _ => ⟨rfl, rfl, of_decide_eq_true rfl, of_decide_eq_true rfl, rfl, rfl⟩) (by decide) (by exact a2c (B4 fun _ => rfl)) ?_
  refine A4 ⟨fun _ => ⟨by decide +kernel, by decide +kernel⟩, [(.t 0, _), (.t 2, _), (.t 3, _), (.h 0, _)], ⟨rfl, rfl, rfl, rfl, rfl, rfl, rfl, rfl, trivial⟩, ?_⟩
  refine A0 <| A3 rfl rfl <| D9 rfl rfl (C8 (by omega)) ?_
  rw [show ((x.length - 1 - i : Nat) : Int) = (x.length : Int) - 1 - (i : Int) by omega]
  refine A3 rfl rfl <| H6 rfl rfl (C8 (by omega)) <| A6 rfl rfl rfl <| A6 rfl rfl rfl ?_
  refine A4 ⟨nofun, _, kS [0,2,3] [0] rfl, ?_⟩
  rw [show ((x.length : Int) - 1 - (i : Int) - 1) = (x.length : Int) - 1 - ((i + 1 : Nat) : Int) by omega]
  refine ⟨(i + 1, _), ?_, (by simp only; omega), ⟨rfl, rfl, rfl, rfl, trivial⟩⟩
  exact ⟨by omega, hr.step (by omega)⟩
 try simp only [SG, List.length_map] at hc
 refine G6 ?_
 refine ⟨_, _, ?_, c1t (b2r rfl (P2 fun _ => rfl))⟩
 exact ⟨rfl, by rw [hr.fin (by omega)]⟩

theorem keep_s_clone : G4 Try.f54 = [0, 2] := by kernel_rfl
set_option maxHeartbeats 20000000 in
theorem b7r (x : List Int) (hl : x.length ≤ 1048576) : CW cxT 54 [L x] = some (.own 1 (x.map iV), []) := by
 refine G5 rfl Try.func54 rfl ⟨by kernel_rfl, rfl, of_decide_eq_true rfl, of_decide_eq_true rfl, by decide⟩ keep_s_clone <| A5 <| A0 ?_
 (refine E7 rfl rfl (fun _ => rfl) ?_; intro g2)
 refine A4 ⟨nofun, _, kS [0] [] rfl, ?_⟩
 refine A5 <| A0 <| A3 rfl rfl ?_
 apply D6 rfl
 ·apply B1
  ·exact B0 rfl
  exact D5
 ·exact b7o x (by simp only [H8]; omega)
 ·exact ⟨rfl, rfl, rfl, of_decide_eq_true rfl, rfl⟩
 ·exact .inl rfl
 ·exact C6
 ·exact I0
 ·exact fun _ => rfl
 intro g4
 simp only [List.length_map]
 apply D6 rfl
 ·apply B1
  ·exact a5a rfl rfl (by (simp; done)) (B4 fun _ => rfl)
  exact D5
 ·exact b7d x (by simp only [H8]; omega)
 ·exact ⟨rfl, rfl, rfl, of_decide_eq_true rfl, rfl⟩
 ·exact .inl rfl
 ·exact C6
 ·exact I0
 ·exact fun _ => rfl
 intro g5
 simp only [List.length_map]
 (refine C5 rfl rfl (by (simp; done)) rfl (fun _ => (C3 (by exact B4 fun _ => rfl))) (fun _ => rfl) ?_; intro g2)
 refine A4 ⟨nofun, _, kS [2] [2] rfl, ?_⟩
 refine C4 <| M2 rfl rfl (by simp) (by exact B4 fun _ => rfl) trivial ?_
 rfl

theorem keep_s_column : G4 Try.f32 = [0, 1, 2, 6, 9, 7, 19] := by kernel_rfl
set_option maxHeartbeats 20000000 in
theorem c1r (k : Nat) (hk : k < 4) (nums : List Int) (cols : List (List Int)) (hc4 : cols.length ≤ 1048576) (hcb : ∀ c ∈ cols, c.length ≤ 1048576) : CW cxT 32 [sV (b5z k), L nums, M cols] = some (.own 1 ((cols.getD k default).map iV), []) := by
 have hgl : (cols.getD k default).length ≤ 1048576 := by rcases Nat.lt_or_ge k cols.length with c | c; (· exact hcb _ (L9 c)); (· rw [List.getD_eq_getElem?_getD, List.getElem?_eq_none c]; exact Nat.zero_le _)
 refine G5 rfl Try.func32 rfl ⟨by kernel_rfl, rfl, of_decide_eq_true rfl, of_decide_eq_true rfl, by decide⟩ keep_s_column <| A5 <| A0 ?_
 (refine E7 rfl rfl (fun _ => rfl) ?_; intro g6)
 refine A4 ⟨nofun, _, kS [0,1,2] [] rfl, ?_⟩
 refine A5 <| A5 <| A0 <| A3 rfl rfl <| b9x (t := false) rfl rfl (by match k, hk with | 0, _ => decide +kernel | 1, _ => decide +kernel | 2, _ => decide +kernel | 3, _ => decide +kernel) ?_
 refine A4 ⟨nofun, _, kS [0,1,2,9] [] rfl, ?_⟩
 refine A8 rfl (fun hc => ?_) (fun hc => ?_)
 ·try simp only [SD] at hc
  exact absurd hc (by decide)
 try simp only [SG, List.length_map] at hc
 refine B9 <| A5 <| A5 <| A0 <| A3 rfl rfl <| a3k (b := UInt8.ofNat (97 + k)) rfl rfl rfl (by decide) rfl ?_
 rw [show (UInt8.ofNat (97 + k)).toNat = 97 + k from by match k, hk with | 0, _ => rfl | 1, _ => rfl | 2, _ => rfl | 3, _ => rfl]
 refine H6 rfl rfl (by constructor <;> simp [IntKind.min, IntKind.max, IntKind.signed, IntKind.bits] <;> omega) ?_
 rw [show ((97 + k : Nat) : Int) - 97 = (k : Int) by omega]
 refine b4r rfl rfl rfl (C8 (by omega)) <| A6 rfl rfl rfl ?_
 refine A4 ⟨nofun, _, kS [2,7] [] rfl, ?_⟩
 refine A5 <| A0 <| A3 rfl rfl <| A3 rfl rfl <| E3 rfl rfl <| G7 rfl rfl ?_
 refine A4 ⟨nofun, _, kS [2,7,19] [] rfl, ?_⟩
 refine A8 rfl (fun hc => ?_) (fun hc => ?_)
 ·try simp only [SG, List.length_map] at hc
  refine A5 <| A0 <| A3 rfl rfl <| A3 rfl rfl <| C9 rfl rfl rfl (fun _ => rfl) (by omega) <| D7 rfl rfl rfl ?_
  apply D6 rfl
  ·apply B1
   ·exact B0 rfl
   exact D5
  ·exact b7r (cols.getD k default) hgl
  ·exact ⟨rfl, rfl, rfl, of_decide_eq_true rfl, rfl⟩
  ·exact .inl rfl
  ·exact C6
  ·exact I0
  ·exact fun _ => rfl
  intro g24
  simp only [List.length_map]
  (refine C5 rfl rfl (by (simp; done)) rfl (fun _ => (C3 (by exact B4 fun _ => rfl))) (fun _ => rfl) ?_; intro g6)
  refine A4 ⟨nofun, _, kS [6] [6] rfl, ?_⟩
  refine C4 <| M2 rfl rfl (by simp) (by exact B4 fun _ => rfl) trivial ?_
  rfl
 try simp only [SG, List.length_map] at hc
 refine B9 <| A5 <| A0 ?_
 (refine E7 rfl rfl (fun _ => rfl) ?_; intro g6)
 refine A4 ⟨nofun, _, kS [6] [6] rfl, ?_⟩
 refine C4 <| M2 rfl rfl (by simp) (by rfl) trivial ?_
 rw [List.getD_eq_getElem?_getD, List.getElem?_eq_none (by omega)]
 rfl

theorem keep_s_columnL : G4 Try.f32 = [0, 1, 2, 6, 9, 7, 19] := by kernel_rfl
set_option maxHeartbeats 20000000 in
theorem b8g (nums : List Int) (hn : nums.length ≤ 1048576) (cols : List (List Int)) : CW cxT 32 [sV wList, L nums, M cols] = some (.own 1 (nums.map iV), []) := by
 refine G5 rfl Try.func32 rfl ⟨by kernel_rfl, rfl, of_decide_eq_true rfl, of_decide_eq_true rfl, by decide⟩ keep_s_columnL <| A5 <| A0 ?_
 (refine E7 rfl rfl (fun _ => rfl) ?_; intro g6)
 refine A4 ⟨nofun, _, kS [0,1,2] [] rfl, ?_⟩
 refine A5 <| A5 <| A0 <| A3 rfl rfl <| b9x (t := true) rfl rfl (by decide +kernel) ?_
 refine A4 ⟨nofun, _, kS [0,1,2,9] [] rfl, ?_⟩
 refine A8 rfl (fun hc => ?_) (fun hc => ?_)
 ·try simp only [SG, List.length_map] at hc
  refine A5 <| A0 <| A3 rfl rfl ?_
  apply D6 rfl
  ·apply B1
   ·exact B0 rfl
   exact D5
  ·exact b7r nums hn
  ·exact ⟨rfl, rfl, rfl, of_decide_eq_true rfl, rfl⟩
  ·exact .inl rfl
  ·exact C6
  ·exact I0
  ·exact fun _ => rfl
  intro g11
  simp only [List.length_map]
  (refine C5 rfl rfl (by (simp; done)) rfl (fun _ => (C3 (by exact B4 fun _ => rfl))) (fun _ => rfl) ?_; intro g6)
  refine A4 ⟨nofun, _, kS [6] [6] rfl, ?_⟩
  refine C4 <| M2 rfl rfl (by simp) (by exact B4 fun _ => rfl) trivial ?_
  rfl
 try simp only [SD] at hc
 exact absurd hc (by decide)

theorem keep_s_columnOf : G4 Try.f25 = [0, 1, 4, 5, 13] := by kernel_rfl
set_option maxHeartbeats 20000000 in
theorem l7 (k : Nat) (hk : k < 4) (cols : List (List Int)) (hc4 : cols.length ≤ 1048576) (hcb : ∀ c ∈ cols, c.length ≤ 1048576) : CW cxT 25 [sV (b5z k), M cols] = some (.own 1 ((cols.getD k default).map iV), []) := by
 have hgl : (cols.getD k default).length ≤ 1048576 := by rcases Nat.lt_or_ge k cols.length with c | c; (· exact hcb _ (L9 c)); (· rw [List.getD_eq_getElem?_getD, List.getElem?_eq_none c]; exact Nat.zero_le _)
 refine G5 rfl Try.func25 rfl ⟨by kernel_rfl, rfl, of_decide_eq_true rfl, of_decide_eq_true rfl, by decide⟩ keep_s_columnOf <| A5 <| A0 ?_
 (refine E7 rfl rfl (fun _ => rfl) ?_; intro g4)
 refine A4 ⟨nofun, _, kS [0,1] [] rfl, ?_⟩
 refine A5 <| A0 <| A3 rfl rfl <| a3k (b := UInt8.ofNat (97 + k)) rfl rfl rfl (by decide) rfl ?_
 rw [show (UInt8.ofNat (97 + k)).toNat = 97 + k from by match k, hk with | 0, _ => rfl | 1, _ => rfl | 2, _ => rfl | 3, _ => rfl]
 refine H6 rfl rfl (by constructor <;> simp [IntKind.min, IntKind.max, IntKind.signed, IntKind.bits] <;> omega) ?_
 rw [show ((97 + k : Nat) : Int) - 97 = (k : Int) by omega]
 refine b4r rfl rfl rfl (C8 (by omega)) <| A6 rfl rfl rfl ?_
 refine A4 ⟨nofun, _, kS [1,5] [] rfl, ?_⟩
 refine A5 <| A5 <| A0 <| A3 rfl rfl <| A3 rfl rfl <| E3 rfl rfl <| G7 rfl rfl ?_
 refine A4 ⟨nofun, _, kS [1,5,13] [] rfl, ?_⟩
 refine A8 rfl (fun hc => ?_) (fun hc => ?_)
 ·try simp only [SG, List.length_map] at hc
  refine A5 <| A0 <| F0 (es := List.map iV []) rfl rfl (by decide) rfl rfl (fun _ => C3 (B4 fun _ => rfl)) (fun _ => rfl) ?_
  intro g14
  refine A3 rfl rfl <| A3 rfl rfl <| C9 rfl rfl rfl (fun _ => rfl) (by omega) <| D7 rfl rfl rfl <| K8 rfl rfl rfl (by (simp; done)) rfl rfl rfl (by decide) (fun _ => ⟨rfl, rfl, rfl⟩) (by simp only [H8]; (simp only [List.length_nil, List.length_cons, List.length_append, Nat.zero_add, List.length_map]; omega)) (fun _ => rfl) ?_
  intro g19
  (refine C5 rfl rfl (by (simp; done)) rfl (fun _ => (C3 (by exact B4 fun _ => rfl))) (fun _ => rfl) ?_; intro g4)
  refine A4 ⟨nofun, _, kS [4] [4] rfl, ?_⟩
  refine C4 <| M2 rfl rfl (by simp) (by exact B4 fun _ => rfl) trivial ?_
  rfl
 try simp only [SG, List.length_map] at hc
 refine B9 <| A5 <| A0 <| F0 (es := List.map iV []) rfl rfl (by decide) rfl rfl (fun _ => C3 (B4 fun _ => rfl)) (fun _ => rfl) ?_
 intro g20
 (refine C5 rfl rfl (by (simp; done)) rfl (fun _ => (C3 (by exact B4 fun _ => rfl))) (fun _ => rfl) ?_; intro g4)
 refine A4 ⟨nofun, _, kS [4] [4] rfl, ?_⟩
 refine C4 <| M2 rfl rfl (by simp) (by rfl) trivial ?_
 rw [List.getD_eq_getElem?_getD, List.getElem?_eq_none (by omega)]
 rfl

theorem keep_s_makeBy : G4 Try.f33 = [0, 1, 4, 5, 15, 20, 21, 6, 25, 29, 33, 32, 34, 7, 45, 49, 48, 50, 8, 66, 9, 72, 86, 10, 91, 105, 109, 114, 124, 129, 128, 130, 127, 12, 11, 142, 156, 63] := by kernel_rfl
set_option maxHeartbeats 20000000 in
theorem c2e (op : ByteArray) (h1 : 1 ≤ nd op) (x y : List Int) (hx : vl x = true) (hy : vl y = true) (ls : List (List Int)) (hl1 : 1 ≤ ls.length) (hl2 : nd op = 2 → 2 ≤ ls.length) (hlx : ls.getD 0 default = x) (hly : 2 ≤ ls.length → ls.getD 1 default = y) : CW cxT 33 [sV op, M ls] = some (.tup [.own 1 (((mkR op x y).getD []).map iV), bV (mkR op x y).isSome], []) := by
 have hx40 := (T7.1 hx).1
 have hy40 := (T7.1 hy).1
 have hgx := Y0 hx
 have hgy := Y0 hy
 have hsx := N0 x
 refine G5 rfl Try.func33 rfl ⟨by kernel_rfl, rfl, of_decide_eq_true rfl, of_decide_eq_true rfl, by decide⟩ keep_s_makeBy <| A5 <| A0 ?_
 (refine E7 rfl rfl (fun _ => rfl) ?_; intro g4)
 refine A6 rfl rfl rfl ?_
 refine A4 ⟨nofun, _, kS [0,1] [] rfl, ?_⟩
 refine A5 <| A0 ?_
 (refine E7 rfl rfl (fun _ => rfl) ?_; intro g6)
 refine A4 ⟨nofun, _, kS [0,1,6] [6] rfl, ?_⟩
 refine A5 <| A5 <| A0 <| A3 rfl rfl <| E3 rfl rfl <| Z4 rfl rfl ?_
 refine A4 ⟨nofun, _, kS [0,1,6,15] [6] rfl, ?_⟩
 refine A8 rfl (fun hc => ?_) (fun hc => ?_)
 ·try simp only [SG, List.length_map] at hc
  refine A0 <| A3 rfl rfl <| C9 rfl rfl rfl (fun _ => rfl) (by (change 0 < _; omega)) <| D7 rfl rfl rfl ?_
  rw [hlx]
  apply D6 rfl
  ·apply B1
   ·exact B0 rfl
   exact D5
  ·exact b7o x (by simp only [H8]; omega)
  ·exact ⟨rfl, rfl, rfl, of_decide_eq_true rfl, rfl⟩
  ·exact .inl rfl
  ·exact C6
  ·exact I0
  ·exact fun _ => rfl
  intro g19
  simp only [List.length_map]
  (refine C5 rfl rfl (by (simp; done)) rfl (fun _ => (C3 (by exact B4 fun _ => rfl))) (fun _ => rfl) ?_; intro g6)
  refine A4 ⟨nofun, _, kS [0,1,6] [6] rfl, ?_⟩
  refine b3i <| A5 <| A0 <| A3 rfl rfl ?_
  refine A4 ⟨nofun, _, kS [1,6,20] [6] rfl, ?_⟩
  refine c1v (β := List Int × Nat × Nat) [] trivial (fun (z : List Int × Nat × Nat) => match z with | (r, n, g) => [(.h 6, .obj g 0 1 (r.map iV)), (.t 6, .sl 6 g none 0 n)]) (fun (z : List Int × Nat × Nat) => match z with | (r, n, g) => R4 op x y = some r ∧ n = r.length ∧ r.length ≤ 80) ?_ ?_
  ·skip
   refine D3 <| A5 <| A0 <| I1 rfl rfl <| A6 rfl rfl rfl ?_
   refine A4 ⟨nofun, _, kS [1,6,20,21] [6] rfl, ?_⟩
   refine A8 rfl (fun hc => ?_) (fun hc => ?_)
   ·try simp only [SG, List.length_map] at hc
    try simp at hc
    refine A0 <| A3 rfl rfl ?_
    apply D6 rfl
    ·apply B1
     ·exact a5m rfl rfl (by decide) (by (simp; done)) (P2 fun _ => rfl)
     exact D5
    ·exact c5z x (by simp only [H8]; omega)
    ·exact ⟨rfl, rfl, rfl, of_decide_eq_true rfl, rfl⟩
    ·exact .inl rfl
    ·exact a2w rfl (by simp) (Z1 _ _) C6
    ·exact b2a rfl
    ·(intro _; exact G3 (C3 (B4 fun _ => rfl)) rfl)
    intro g24
    refine A4 ⟨nofun, _, kS [6] [6] rfl, ?_⟩
    refine ⟨(_, _, _), ?_, ⟨rfl, rfl, trivial⟩⟩
    exact ⟨(by (simp [R4, *]; done)), (by (simp; done)), (by omega)⟩
   try simp only [SG, List.length_map] at hc
   try simp at hc
   refine A5 <| A0 <| I1 rfl rfl <| A6 rfl rfl rfl ?_
   refine A4 ⟨nofun, _, kS [1,6,20,25] [6] rfl, ?_⟩
   refine A8 rfl (fun hc => ?_) (fun hc => ?_)
   ·try simp only [SG, List.length_map] at hc
    try simp at hc
    refine A0 <| A3 rfl rfl ?_
    obtain ⟨_, _, ⟨rfl, rfl⟩, hRv⟩ := b8p x (by omega)
    apply D6 rfl
    ·apply B1
     ·exact a5m rfl rfl (by decide) (by (simp; done)) (P2 fun _ => rfl)
     exact D5
    ·exact hRv
    ·exact ⟨rfl, rfl, rfl, of_decide_eq_true rfl, rfl⟩
    ·exact .inl rfl
    ·exact a2w rfl (by simp) (Z1 _ _) C6
    ·exact b2a rfl
    ·(intro _; exact G3 (C3 (B4 fun _ => rfl)) rfl)
    intro g28
    refine A4 ⟨nofun, _, kS [6] [6] rfl, ?_⟩
    refine ⟨(_, _, _), ?_, ⟨rfl, rfl, trivial⟩⟩
    exact ⟨(by (simp [R4, *]; done)), (by (simp; done)), (by (simp; omega))⟩
   try simp only [SG, List.length_map] at hc
   try simp at hc
   refine A5 <| A0 <| I1 rfl rfl <| A6 rfl rfl rfl ?_
   refine A4 ⟨nofun, _, kS [1,6,20,29] [6] rfl, ?_⟩
   refine A8 rfl (fun hc => ?_) (fun hc => ?_)
   ·try simp only [SG, List.length_map] at hc
    try simp at hc
    refine A5 <| A0 <| A3 rfl rfl <| K1 rfl rfl <| A3 rfl rfl ?_
    refine A4 ⟨nofun, _, kS [6,32,33] [6] rfl, ?_⟩
    refine D3 <| G1 (β := Nat × List Int) [(.t 6, _), (.t 32, _)] (fun (z : Nat × List Int) => match z with | (i, l) => [(.t 33, iV i), (.h 6, .obj g6 0 1 (l.map iV))]) (fun (z : Nat × List Int) => match z with | (i, l) => i ≤ x.length ∧ Q6 x.length (fun i => -(H7 x i)) (H7 x) i l) (fun (z : Nat × List Int) => match z with | (i, l) => x.length - i) (0, x) ⟨rfl, rfl, rfl, rfl, trivial⟩ ⟨Nat.zero_le _, Q6.start x _⟩ ?_
    intro z hb
    obtain ⟨i, l⟩ := z
    try dsimp only at hb
    obtain ⟨hi1, hf⟩ := hb
    have hfl := hf.1
    have hfa := fun h : i < x.length => hf.at h
    have hgi := hgx i
    have hgyi : -100000 ≤ y.getD i default ∧ y.getD i default ≤ 100000 := hgy i
    refine A5 <| A0 <| G7 rfl rfl ?_
    refine A4 ⟨nofun, _, kS [6,32,33,34] [6] rfl, ?_⟩
    refine A5 ?_
    refine A8 rfl (fun hc => ?_) (fun hc => ?_)
    ·try simp only [SG, List.length_map] at hc
     refine B9 <| A5 <| D3 <| A5 <| A0 <| A3 rfl rfl <| A6 rfl rfl rfl ?_
     refine A4 ⟨nofun, _, kS [6,7,32,33] [6] rfl, ?_⟩
     refine A0 <| A3 rfl rfl <| A3 rfl rfl <| A3 rfl rfl <| A3 rfl rfl <| E6 rfl rfl rfl rfl (by omega) (by (simp; omega)) rfl <| I3 rfl rfl (by omega) (fun _ => rfl) (fun _ => rfl) rfl <| b7u rfl (C8 (by omega)) <| E6 rfl rfl rfl rfl (by omega) (by (simp; omega)) rfl <| J0 rfl rfl rfl (by omega) (fun _ _ => ⟨rfl, rfl, of_decide_eq_true rfl, of_decide_eq_true rfl, rfl, rfl⟩) (by decide) (by exact C3 (B4 fun _ => rfl)) ?_
     refine A4 ⟨nofun, _, kS [6,32,33] [6] rfl, ?_⟩
     refine A0 <| D9 rfl rfl (C8 (by omega)) <| A3 rfl rfl ?_
     refine A4 ⟨nofun, _, kS [6,32,33] [6] rfl, ?_⟩
     refine ⟨(i + 1, l.set i (-(l.getD i default))), ?_, (by simp only; omega), ⟨rfl, rfl, rfl, rfl, trivial⟩⟩
     exact ⟨by omega, hf.step (by omega) (by rw [hfa (by omega)]; done)⟩
    try simp only [SG, List.length_map] at hc
    refine G6 ?_
    refine ⟨(_, _, _), ?_, ⟨rfl, rfl, trivial⟩⟩
    exact ⟨by rw [(hf.fin (by omega)).trans (a1q x fun v => -v)]; simp [R4, *], by omega, by omega⟩
   try simp only [SG, List.length_map] at hc
   try simp at hc
   refine A5 <| A0 <| I1 rfl rfl <| A6 rfl rfl rfl ?_
   refine A4 ⟨nofun, _, kS [1,6,20,45] [6] rfl, ?_⟩
   refine A8 rfl (fun hc => ?_) (fun hc => ?_)
   ·try simp only [SG, List.length_map] at hc
    try simp at hc
    refine A5 <| A0 <| A3 rfl rfl <| K1 rfl rfl <| A3 rfl rfl ?_
    refine A4 ⟨nofun, _, kS [6,48,49] [6] rfl, ?_⟩
    refine D3 <| G1 (β := Nat × List Int) [(.t 6, _), (.t 48, _)] (fun (z : Nat × List Int) => match z with | (i, l) => [(.t 49, iV i), (.h 6, .obj g6 0 1 (l.map iV))]) (fun (z : Nat × List Int) => match z with | (i, l) => i ≤ x.length ∧ Q6 x.length (fun i => max (H7 x i) (-(H7 x i))) (H7 x) i l) (fun (z : Nat × List Int) => match z with | (i, l) => x.length - i) (0, x) ⟨rfl, rfl, rfl, rfl, trivial⟩ ⟨Nat.zero_le _, Q6.start x _⟩ ?_
    intro z hb
    obtain ⟨i, l⟩ := z
    try dsimp only at hb
    obtain ⟨hi1, hf⟩ := hb
    have hfl := hf.1
    have hfa := fun h : i < x.length => hf.at h
    have hgi := hgx i
    have hgyi : -100000 ≤ y.getD i default ∧ y.getD i default ≤ 100000 := hgy i
    refine A5 <| A0 <| G7 rfl rfl ?_
    refine A4 ⟨nofun, _, kS [6,48,49,50] [6] rfl, ?_⟩
    refine A5 ?_
    refine A8 rfl (fun hc => ?_) (fun hc => ?_)
    ·try simp only [SG, List.length_map] at hc
     refine B9 <| A5 <| D3 <| A5 <| A0 <| A3 rfl rfl <| A6 rfl rfl rfl ?_
     refine A4 ⟨nofun, _, kS [6,8,48,49] [6] rfl, ?_⟩
     refine A0 <| A3 rfl rfl <| A3 rfl rfl <| A3 rfl rfl <| A3 rfl rfl <| E6 rfl rfl rfl rfl (by omega) (by (simp; omega)) rfl <| I3 rfl rfl (by omega) (fun _ => rfl) (fun _ => rfl) rfl <| A3 rfl rfl <| A3 rfl rfl <| E6 rfl rfl rfl rfl (by omega) (by (simp; omega)) rfl <| I3 rfl rfl (by omega) (fun _ => rfl) (fun _ => rfl) rfl <| b7u rfl (C8 (by omega)) <| c4n rfl rfl <| E6 rfl rfl rfl rfl (by omega) (by (simp; omega)) rfl <| J0 rfl rfl rfl (by omega) (fun _ _ => ⟨rfl, rfl, of_decide_eq_true rfl, of_decide_eq_true rfl, rfl, rfl⟩) (by decide) (by exact C3 (B4 fun _ => rfl)) ?_
     refine A4 ⟨fun _ => ⟨by decide +kernel, by decide +kernel⟩, [(.t 6, _), (.t 48, _), (.t 49, _), (.h 6, _)], ⟨rfl, rfl, rfl, rfl, rfl, rfl, rfl, rfl, trivial⟩, ?_⟩
     refine A0 <| D9 rfl rfl (C8 (by omega)) <| A3 rfl rfl ?_
     refine A4 ⟨nofun, _, kS [6,48,49] [6] rfl, ?_⟩
     refine ⟨(i + 1, l.set i (max (l.getD i default) (-(l.getD i default)))), ?_, (by simp only; omega), ⟨rfl, rfl, rfl, rfl, trivial⟩⟩
     exact ⟨by omega, hf.step (by omega) (by rw [hfa (by omega)]; done)⟩
    try simp only [SG, List.length_map] at hc
    refine G6 ?_
    refine ⟨(_, _, _), ?_, ⟨rfl, rfl, trivial⟩⟩
    exact ⟨by rw [(hf.fin (by omega)).trans (a1q x fun v => max v (-v))]; simp [R4, *], by omega, by omega⟩
   try simp only [SG, List.length_map] at hc
   try simp at hc
   refine A5 <| A0 <| I1 rfl rfl <| A6 rfl rfl rfl ?_
   refine A4 ⟨nofun, _, kS [1,6,20,66] [6] rfl, ?_⟩
   refine A8 rfl (fun hc => ?_) (fun hc => ?_)
   ·try simp only [SG, List.length_map] at hc
    try simp at hc
    refine A5 <| A0 <| A3 rfl rfl <| K1 rfl rfl <| H6 rfl rfl (C8 (by omega)) <| A6 rfl rfl rfl ?_
    refine A4 ⟨nofun, _, kS [6,9] [6] rfl, ?_⟩
    refine D3 <| G1 (β := Nat × List Int) [(.t 6, _)] (fun (z : Nat × List Int) => match z with | (k, l) => [(.t 9, iV ((k : Int) - 1)), (.h 6, .obj g6 0 1 (l.map iV))]) (fun (z : Nat × List Int) => match z with | (k, l) => k ≤ x.length ∧ o3 x (k - 1) l) (fun (z : Nat × List Int) => match z with | (k, l) => k) (x.length, x) ⟨rfl, rfl, rfl, trivial⟩ ⟨Nat.le_refl _, o3.start x⟩ ?_
    intro z hb
    obtain ⟨k, l⟩ := z
    try dsimp only at hb
    obtain ⟨hk1, hd⟩ := hb
    have hdl := hd.1
    refine A5 <| A5 <| A0 <| A3 rfl rfl <| Z4 rfl rfl ?_
    refine A4 ⟨nofun, _, kS [6,9,72] [6] rfl, ?_⟩
    refine A8 rfl (fun hc => ?_) (fun hc => ?_)
    ·try simp only [SG, List.length_map] at hc
     refine B9 <| A5 <| D3 <| A0 <| A3 rfl rfl <| A3 rfl rfl ?_
     rw [show ((k : Int) - 1) = ((k - 1 : Nat) : Int) by omega]
     refine E6 rfl rfl rfl rfl (by omega) (by (simp; omega)) rfl <| I3 rfl rfl (by omega) (fun _ => rfl) (fun _ => rfl) rfl <| A3 rfl rfl <| A3 rfl rfl <| H6 rfl rfl (C8 (by omega)) ?_
     rw [show ((k - 1 : Nat) : Int) - 1 = ((k - 1 - 1 : Nat) : Int) by omega]
     refine E6 rfl rfl rfl rfl (by omega) (by (simp; omega)) rfl <| I3 rfl rfl (by omega) (fun _ => rfl) (fun _ => rfl) rfl ?_
     have hd1 := hd.val (k - 1)
     have hd2 := hd.val (k - 1 - 1)
     have hg1 := hgx (k - 1)
     have hg2 := hgx (k - 1 - 1)
     have hg3 := hgx (k - 1 - 1 - 1)
     refine H6 rfl rfl (C8 (by omega)) <| E6 rfl rfl rfl rfl (by omega) (by (simp; omega)) rfl <| J0 rfl rfl rfl (by omega) (fun _ _ => ⟨rfl, rfl, of_decide_eq_true rfl, of_decide_eq_true rfl, rfl, rfl⟩) (by decide) (by exact C3 (B4 fun _ => rfl)) ?_
     refine A4 ⟨fun _ => ⟨by decide +kernel, by decide +kernel⟩, [(.t 6, _), (.t 9, _), (.h 6, _)], ⟨rfl, rfl, rfl, rfl, rfl, rfl, trivial⟩, ?_⟩
     refine A0 <| A3 rfl rfl <| H6 rfl rfl (C8 (by omega)) <| A6 rfl rfl rfl ?_
     refine A4 ⟨nofun, _, kS [6,9] [6] rfl, ?_⟩
     refine ⟨(k - 1, _), ?_, (by simp only; omega), ⟨rfl, rfl, rfl, trivial⟩⟩
     exact ⟨by omega, hd.step (by omega) (by omega)⟩
    try simp only [SG, List.length_map] at hc
    refine G6 ?_
    refine ⟨(_, _, _), ?_, ⟨rfl, rfl, trivial⟩⟩
    exact ⟨by rw [show l = dfI x from o3.fin ((show k - 1 = 0 by omega) ▸ hd)]; simp [R4, *], by omega, by omega⟩
   try simp only [SG, List.length_map] at hc
   try simp at hc
   refine A5 <| A0 <| I1 rfl rfl <| A6 rfl rfl rfl ?_
   refine A4 ⟨nofun, _, kS [1,6,20,86] [6] rfl, ?_⟩
   refine A8 rfl (fun hc => ?_) (fun hc => ?_)
   ·try simp only [SG, List.length_map] at hc
    try simp at hc
    refine A5 <| A0 <| A6 rfl rfl rfl ?_
    refine A4 ⟨nofun, _, kS [6,10] [6] rfl, ?_⟩
    refine D3 <| G1 (β := Nat × List Int) [(.t 6, _)] (fun (z : Nat × List Int) => match z with | (i, l) => [(.t 10, iV i), (.h 6, .obj g6 0 1 (l.map iV))]) (fun (z : Nat × List Int) => match z with | (i, l) => 1 ≤ i ∧ Q6 x.length (fun i => prS (H7 x) (i + 1)) (H7 x) i l) (fun (z : Nat × List Int) => match z with | (i, l) => x.length - i) (1, x) ⟨rfl, rfl, rfl, trivial⟩ ⟨Nat.le_refl _, Q6.start1 x⟩ ?_
    intro z hb
    obtain ⟨i, l⟩ := z
    try dsimp only at hb
    obtain ⟨hi1, hf⟩ := hb
    have hfl := hf.1
    have hfa := fun h : i < x.length => hf.at h
    have hgi := hgx i
    refine A5 <| A5 <| A0 <| A3 rfl rfl <| A3 rfl rfl <| K1 rfl rfl <| G7 rfl rfl ?_
    refine A4 ⟨nofun, _, kS [6,10,91] [6] rfl, ?_⟩
    refine A8 rfl (fun hc => ?_) (fun hc => ?_)
    ·try simp only [SG, List.length_map] at hc
     refine B9 <| A5 <| D3 <| A0 <| A3 rfl rfl <| A3 rfl rfl <| E6 rfl rfl rfl rfl (by omega) (by (simp; omega)) rfl <| I3 rfl rfl (by omega) (fun _ => rfl) (fun _ => rfl) rfl <| A3 rfl rfl <| A3 rfl rfl <| H6 rfl rfl (C8 (by omega)) ?_
     rw [show ((i : Int) - 1) = ((i - 1 : Nat) : Int) by omega]
     refine E6 rfl rfl rfl rfl (by omega) (by (simp; omega)) rfl <| I3 rfl rfl (by omega) (fun _ => rfl) (fun _ => rfl) rfl ?_
     have hfb := hf.before (j := i - 1) (by omega) (by omega)
     have hsb := b2c hx (i - 1 + 1)
     refine D9 rfl rfl (C8 (by omega)) <| E6 rfl rfl rfl rfl (by omega) (by (simp; omega)) rfl <| J0 rfl rfl rfl (by omega) (fun _ _ => ⟨rfl, rfl, of_decide_eq_true rfl, of_decide_eq_true rfl, rfl, rfl⟩) (by decide) (by exact C3 (B4 fun _ => rfl)) ?_
     refine A4 ⟨fun _ => ⟨by decide +kernel, by decide +kernel⟩, [(.t 6, _), (.t 10, _), (.h 6, _)], ⟨rfl, rfl, rfl, rfl, rfl, rfl, trivial⟩, ?_⟩
     refine A0 <| A3 rfl rfl <| D9 rfl rfl (C8 (by omega)) <| A6 rfl rfl rfl ?_
     refine A4 ⟨nofun, _, kS [6,10] [6] rfl, ?_⟩
     refine ⟨(i + 1, l.set i (l.getD i default + l.getD (i - 1) default)), ?_, (by simp only; omega), ⟨rfl, rfl, rfl, trivial⟩⟩
     have hfb2 := hf.before (j := i - 1) (by omega) (by omega)
     rw [show i - 1 + 1 = i by omega] at hfb2
     exact ⟨by omega, hf.step (by omega) (by rw [hfa (by omega), hfb2, Int.add_comm]; rfl)⟩
    try simp only [SG, List.length_map] at hc
    refine G6 ?_
    refine ⟨(_, _, _), ?_, ⟨rfl, rfl, trivial⟩⟩
    exact ⟨by rw [show l = smI x from hf.fin (by omega)]; simp [R4, *], by omega, by omega⟩
   try simp only [SG, List.length_map] at hc
   try simp at hc
   refine A5 <| A0 <| I1 rfl rfl <| A6 rfl rfl rfl ?_
   refine A4 ⟨nofun, _, kS [1,6,20,105] [6] rfl, ?_⟩
   refine A8 rfl (fun hc => ?_) (fun hc => ?_)
   ·try simp only [SG, List.length_map] at hc
    try simp at hc
    refine A0 <| A3 rfl rfl ?_
    apply D6 rfl
    ·apply B1
     ·exact H9 rfl rfl rfl (by (simp; done)) (fun _ => rfl)
     exact D5
    ·exact c0t x hx
    ·exact ⟨rfl, rfl, rfl, of_decide_eq_true rfl, rfl⟩
    ·exact .inr ⟨a7z fun _ => rfl, rfl⟩
    ·exact C6
    ·exact I0
    ·exact fun _ => rfl
    intro g108
    simp only [List.length_map]
    (refine C5 rfl rfl (by (simp; done)) rfl (fun _ => (C3 (by exact B4 fun _ => rfl))) (fun _ => rfl) ?_; intro g6)
    refine A4 ⟨nofun, _, kS [6] [6] rfl, ?_⟩
    refine ⟨(_, _, _), ?_, ⟨rfl, rfl, trivial⟩⟩
    exact ⟨(by (simp [R4, rkI, *]; done)), (by (simp [dfI, smI, rkI, adI]; done)), (by (simp; omega))⟩
   try simp only [SG, List.length_map] at hc
   try simp at hc
   refine A5 <| A0 <| I1 rfl rfl <| A6 rfl rfl rfl ?_
   refine A4 ⟨nofun, _, kS [1,6,20,109] [6] rfl, ?_⟩
   refine A8 rfl (fun hc => ?_) (fun hc => ?_)
   ·try simp only [SG, List.length_map] at hc
    try simp at hc
    refine A0 <| A3 rfl rfl ?_
    apply D6 rfl
    ·apply B1
     ·exact H9 rfl rfl rfl (by (simp; done)) (fun _ => rfl)
     exact D5
    ·exact c5m x hx
    ·exact ⟨rfl, rfl, rfl, of_decide_eq_true rfl, rfl⟩
    ·exact .inr ⟨rfl, rfl⟩
    ·exact C6
    ·exact C7 rfl
    ·exact fun _ => rfl
    intro g112
    refine F0 (es := List.map iV [_]) rfl rfl (by decide) rfl rfl (fun _ => C3 (B4 fun _ => rfl)) (fun _ => rfl) ?_
    intro g113
    (refine C5 rfl rfl (by (simp; done)) rfl (fun _ => (C3 (by exact B4 fun _ => rfl))) (fun _ => rfl) ?_; intro g6)
    refine A4 ⟨nofun, _, kS [6] [6] rfl, ?_⟩
    refine ⟨(_, _, _), ?_, ⟨rfl, rfl, trivial⟩⟩
    exact ⟨(by (simp [R4, *]; done)), (by (simp; done)), (by (simp; done))⟩
   try simp only [SG, List.length_map] at hc
   try simp at hc
   refine A5 <| A0 <| I1 rfl rfl <| A6 rfl rfl rfl ?_
   refine A4 ⟨nofun, _, kS [1,6,20,114] [6] rfl, ?_⟩
   refine A8 rfl (fun hc => ?_) (fun hc => ?_)
   ·try simp only [SG, List.length_map] at hc
    try simp at hc
    have h2l := hl2 (c2a (.inl hc))
    refine A5 <| A5 <| A0 <| A3 rfl rfl <| C9 rfl rfl rfl (fun _ => rfl) (by (change 0 < _; omega)) <| D7 rfl rfl rfl ?_
    rw [hlx]
    refine E3 rfl rfl <| A3 rfl rfl <| C9 rfl rfl rfl (fun _ => rfl) (by (simp; omega)) <| D7 rfl rfl rfl ?_
    rw [hly h2l]
    refine E3 rfl rfl <| K7 rfl rfl ?_
    refine A4 ⟨fun _ => ⟨by decide +kernel, by decide +kernel⟩, [(.t 1, _), (.t 6, _), (.t 124, _), (.h 6, _)], ⟨rfl, rfl, rfl, rfl, rfl, rfl, rfl, rfl, trivial⟩, ?_⟩
    refine A8 rfl (fun hc => ?_) (fun hc => ?_)
    ·try simp only [SG, List.length_map] at hc
     refine A5 <| A0 ?_
     (refine E7 rfl rfl (fun _ => rfl) ?_; intro g4)
     refine A6 rfl rfl rfl ?_
     refine A4 ⟨nofun, _, kS [4,5] [4] rfl, ?_⟩
     refine C4 <| M6 (S1 rfl rfl (by simp) (by rfl) (P9 rfl rfl (O7 H0))) ?_
     have hne : ¬ x.length = y.length := by omega
     rw [show mkR op x y = none from by simp [mkR, R4, *]]
     rfl
    try simp only [SG, List.length_map] at hc
    refine B9 <| A5 <| A0 <| A3 rfl rfl <| C9 rfl rfl rfl (fun _ => rfl) (by (simp; omega)) <| D7 rfl rfl rfl ?_
    rw [hly h2l]
    refine E3 rfl rfl <| A3 rfl rfl ?_
    refine A4 ⟨nofun, _, kS [6,127,128,129] [6] rfl, ?_⟩
    refine D3 <| G1 (β := Nat × List Int) [(.t 6, _), (.t 127, _), (.t 128, _)] (fun (z : Nat × List Int) => match z with | (i, l) => [(.t 129, iV i), (.h 6, .obj g6 0 1 (l.map iV))]) (fun (z : Nat × List Int) => match z with | (i, l) => i ≤ x.length ∧ Q6 x.length (fun i => H7 x i + H7 y i) (H7 x) i l) (fun (z : Nat × List Int) => match z with | (i, l) => x.length - i) (0, x) ⟨rfl, rfl, rfl, rfl, rfl, trivial⟩ ⟨Nat.zero_le _, Q6.start x _⟩ ?_
    intro z hb
    obtain ⟨i, l⟩ := z
    try dsimp only at hb
    obtain ⟨hi1, hf⟩ := hb
    have hfl := hf.1
    have hfa := fun h : i < x.length => hf.at h
    have hgi := hgx i
    have hgyi : -100000 ≤ y.getD i default ∧ y.getD i default ≤ 100000 := hgy i
    refine A5 <| A0 <| G7 rfl rfl ?_
    refine A4 ⟨nofun, _, kS [6,127,128,129,130] [6] rfl, ?_⟩
    refine A5 ?_
    refine A8 rfl (fun hc => ?_) (fun hc => ?_)
    ·try simp only [SG, List.length_map] at hc
     refine B9 <| A5 <| D3 <| A5 <| A0 <| A3 rfl rfl <| C9 rfl rfl rfl (fun _ => rfl) (by omega) <| D7 rfl rfl rfl <| A6 rfl rfl rfl <| A6 rfl rfl rfl ?_
     refine A4 ⟨nofun, _, kS [6,11,12,127,128,129] [6] rfl, ?_⟩
     refine A0 <| A3 rfl rfl <| A3 rfl rfl <| E6 rfl rfl rfl rfl (by omega) (by (simp; omega)) rfl <| I3 rfl rfl (by omega) (fun _ => rfl) (fun _ => rfl) rfl <| A3 rfl rfl <| D9 rfl rfl (C8 (by omega)) <| E6 rfl rfl rfl rfl (by omega) (by (simp; omega)) rfl <| J0 rfl rfl rfl (by omega) (fun _ _ => ⟨rfl, rfl, of_decide_eq_true rfl, of_decide_eq_true rfl, rfl, rfl⟩) (by decide) (by exact C3 (B4 fun _ => rfl)) ?_
     refine A4 ⟨nofun, _, kS [6,127,128,129] [6] rfl, ?_⟩
     refine A0 <| D9 rfl rfl (C8 (by omega)) <| A3 rfl rfl ?_
     refine A4 ⟨nofun, _, kS [6,127,128,129] [6] rfl, ?_⟩
     refine ⟨(i + 1, l.set i (l.getD i default + y.getD i default)), ?_, (by simp only; omega), ⟨rfl, rfl, rfl, rfl, rfl, trivial⟩⟩
     exact ⟨by omega, hf.step (by omega) (by rw [hfa (by omega)]; rfl)⟩
    try simp only [SG, List.length_map] at hc
    refine G6 ?_
    refine ⟨(_, _, _), ?_, ⟨rfl, rfl, trivial⟩⟩
    exact ⟨adF (by assumption) (by omega) (hf.fin (by omega)) rfl, by omega, by omega⟩
   try simp only [SG, List.length_map] at hc
   try simp at hc
   refine A5 <| A0 <| I1 rfl rfl <| A6 rfl rfl rfl ?_
   refine A4 ⟨nofun, _, kS [1,6,142] [6] rfl, ?_⟩
   refine A8 rfl (fun hc => ?_) (fun hc => ?_)
   ·try simp only [SG, List.length_map] at hc
    try simp at hc
    have h2l := hl2 (c2a (.inr hc))
    refine A0 <| A3 rfl rfl <| A3 rfl rfl <| C9 rfl rfl rfl (fun _ => rfl) (by (simp; omega)) <| D7 rfl rfl rfl ?_
    rw [hly h2l]
    refine K8 rfl rfl rfl (by (simp; done)) rfl rfl rfl (by decide) (fun _ => ⟨rfl, rfl, rfl⟩) (by simp only [H8]; omega) (fun _ => rfl) ?_
    intro g148
    (refine C5 rfl rfl (by (simp; done)) rfl (fun _ => (C3 (by exact B4 fun _ => rfl))) (fun _ => rfl) ?_; intro g6)
    refine A4 ⟨nofun, _, kS [6] [6] rfl, ?_⟩
    refine ⟨(_, _, _), ?_, ⟨rfl, rfl, trivial⟩⟩
    exact ⟨(by (simp [R4, *]; done)), (by (simp; done)), (by (simp; omega))⟩
   try simp only [SG, List.length_map] at hc
   try simp at hc
   refine B9 ?_
   refine ⟨(_, _, _), ?_, ⟨rfl, rfl, trivial⟩⟩
   exact ⟨(by (simp [R4, *]; done)), (by (simp; done)), (by omega)⟩
  intro z hb
  obtain ⟨r, n, g⟩ := z
  try dsimp only at hb
  obtain ⟨hraw, hn, hr80⟩ := hb
  subst hn
  refine A5 <| A5 <| A0 <| A3 rfl rfl <| K1 rfl rfl <| Z4 rfl rfl <| A3 rfl rfl ?_
  refine B3 rfl rfl (fun hg0 => ?_) (fun hg0 => ?_)
  ·have hg := hg0; try simp only [SG] at hg
   refine A3 rfl rfl <| gT rfl rfl ?_
   apply D6 rfl
   ·apply B1
    ·exact H9 rfl rfl rfl (by (simp; done)) (fun _ => rfl)
    apply B1
    ·exact B0 rfl
    apply B1
    ·exact B0 rfl
    exact D5
   ·exact b6s r (by omega) (-100000) 100000
   ·exact ⟨rfl, rfl, rfl, of_decide_eq_true rfl, rfl⟩
   ·exact .inr ⟨rfl, rfl⟩
   ·exact C6
   ·exact C7 rfl
   ·exact fun _ => rfl
   intro g154
   refine gT rfl rfl <| G8 rfl <| B6 rfl (by assumption) rfl rfl ?_
   refine A4 ⟨nofun, _, kS [6,156] [6] rfl, ?_⟩
   refine A8 rfl (fun hc => ?_) (fun hc => ?_)
   ·try simp only [SG, List.length_map] at hc
    refine A5 <| A0 ?_
    (refine E7 rfl rfl (fun _ => rfl) ?_; intro g4)
    refine A6 rfl rfl rfl ?_
    refine A4 ⟨nofun, _, kS [4,5] [4] rfl, ?_⟩
    refine C4 <| M6 (S1 rfl rfl (by simp) (by rfl) (P9 rfl rfl (O7 H0))) ?_
    rw [mkR, hraw, Option.bind_some, if_neg (by rw [T7]; simp_all; try omega)]
    rfl
   try simp only [SG, List.length_map] at hc
   refine B9 <| A5 <| A0 <| A3 rfl rfl ?_
   apply D6 rfl
   ·apply B1
    ·exact a5a rfl rfl (by (simp; done)) (B4 fun _ => rfl)
    exact D5
   ·exact b7d r (by simp only [H8]; omega)
   ·exact ⟨rfl, rfl, rfl, of_decide_eq_true rfl, rfl⟩
   ·exact .inl rfl
   ·exact C6
   ·exact I0
   ·exact fun _ => rfl
   intro g158
   simp only [List.length_map]
   (refine C5 rfl rfl (by (simp; done)) rfl (fun _ => (C3 (by exact B4 fun _ => rfl))) (fun _ => rfl) ?_; intro g4)
   refine A6 rfl rfl rfl ?_
   refine A4 ⟨nofun, _, kS [4,5] [4] rfl, ?_⟩
   refine C4 <| M6 (S1 rfl rfl (by simp) (by exact B4 fun _ => rfl) (P9 rfl rfl (O7 H0))) ?_
   rw [mkR, hraw, Option.bind_some, if_pos (T7.2 ⟨by omega, by simp_all⟩)]
   rfl
  have hg := hg0; try simp only [SG] at hg
  refine gF rfl rfl <| gF rfl rfl <| C0 rfl (by assumption) rfl rfl ?_
  refine A4 ⟨nofun, _, kS [6,156] [6] rfl, ?_⟩
  refine A8 rfl (fun hc => ?_) (fun hc => absurd hc (by decide))
  refine A5 <| A0 ?_
  (refine E7 rfl rfl (fun _ => rfl) ?_; intro g4)
  refine A6 rfl rfl rfl ?_
  refine A4 ⟨nofun, _, kS [4,5] [4] rfl, ?_⟩
  refine C4 <| M6 (S1 rfl rfl (by simp) (by rfl) (P9 rfl rfl (O7 H0))) ?_
  rw [mkR, hraw, Option.bind_some, if_neg (by rw [T7]; simp_all; try omega)]
  rfl
 try simp only [SD] at hc
 omega

theorem keep_s_apply : G4 Try.f26 = [0, 1, 2, 6, 7, 16, 17, 21, 25, 9, 30, 8, 41, 10, 46, 62, 11, 67, 71, 91, 13, 96, 12, 109, 113, 120, 126, 14, 130, 145] := by kernel_rfl
set_option maxHeartbeats 20000000 in
theorem a4y (op : ByteArray) (h1 : 1 ≤ nd op) (x y : List Int) (hx : vl x = true) (hy : vl y = true) : CW cxT 26 [sV op, L x, L y] = some (.tup [.own 1 ((raR op x y).map iV), bV (mkR op x y).isSome], []) := by
 have hx40 := (T7.1 hx).1
 have hy40 := (T7.1 hy).1
 have hgx := Y0 hx
 have hgy := Y0 hy
 have hsx := N0 x
 refine G5 rfl Try.func26 rfl ⟨by kernel_rfl, rfl, of_decide_eq_true rfl, of_decide_eq_true rfl, by decide⟩ keep_s_apply <| A5 <| A0 ?_
 (refine E7 rfl rfl (fun _ => rfl) ?_; intro g6)
 refine A6 rfl rfl rfl ?_
 refine A4 ⟨nofun, _, kS [0,1,2] [] rfl, ?_⟩
 refine A5 <| A0 <| F0 (es := List.map iV []) rfl rfl (by decide) rfl rfl (fun _ => C3 (B4 fun _ => rfl)) (fun _ => rfl) ?_
 intro g15
 (refine C5 rfl rfl (by (simp; done)) rfl (fun _ => (C3 (by exact B4 fun _ => rfl))) (fun _ => rfl) ?_; intro g8)
 refine A4 ⟨nofun, _, kS [0,1,2,8] [8] rfl, ?_⟩
 refine b3i <| A5 <| A0 <| A3 rfl rfl ?_
 refine A4 ⟨nofun, _, kS [1,2,8,16] [8] rfl, ?_⟩
 refine c1v (β := List Int × Nat × Nat) [] trivial (fun (z : List Int × Nat × Nat) => match z with | (r, n, g) => [(.h 8, .obj g 0 1 (r.map iV)), (.t 8, .sl 8 g none 0 n)]) (fun (z : List Int × Nat × Nat) => match z with | (r, n, g) => R4 op x y = some r ∧ n = r.length ∧ r.length ≤ 80) ?_ ?_
 ·skip
  refine D3 <| A5 <| A0 <| I1 rfl rfl <| A6 rfl rfl rfl ?_
  refine A4 ⟨nofun, _, kS [1,2,8,16,17] [8] rfl, ?_⟩
  refine A8 rfl (fun hc => ?_) (fun hc => ?_)
  ·try simp only [SG, List.length_map] at hc
   try simp at hc
   refine A0 <| A3 rfl rfl ?_
   apply D6 rfl
   ·apply B1
    ·exact B0 rfl
    exact D5
   ·exact b8s x (by omega)
   ·exact ⟨rfl, rfl, rfl, of_decide_eq_true rfl, rfl⟩
   ·exact .inl rfl
   ·exact C6
   ·exact I0
   ·exact fun _ => rfl
   intro g20
   simp only [List.length_map]
   (refine C5 rfl rfl (by (simp; done)) rfl (fun _ => (C3 (by exact B4 fun _ => rfl))) (fun _ => rfl) ?_; intro g8)
   refine A4 ⟨nofun, _, kS [8] [8] rfl, ?_⟩
   refine ⟨(_, _, _), ?_, ⟨rfl, rfl, trivial⟩⟩
   exact ⟨(by (simp [R4, *]; done)), (by (simp; done)), (by (simp; omega))⟩
  try simp only [SG, List.length_map] at hc
  try simp at hc
  refine A5 <| A0 <| I1 rfl rfl <| A6 rfl rfl rfl ?_
  refine A4 ⟨nofun, _, kS [1,2,8,16,21] [8] rfl, ?_⟩
  refine A8 rfl (fun hc => ?_) (fun hc => ?_)
  ·try simp only [SG, List.length_map] at hc
   try simp at hc
   refine A0 <| A3 rfl rfl ?_
   apply D6 rfl
   ·apply B1
    ·exact B0 rfl
    exact D5
   ·exact b8u x (by omega)
   ·exact ⟨rfl, rfl, rfl, of_decide_eq_true rfl, rfl⟩
   ·exact .inl rfl
   ·exact C6
   ·exact I0
   ·exact fun _ => rfl
   intro g24
   simp only [List.length_map]
   (refine C5 rfl rfl (by (simp; done)) rfl (fun _ => (C3 (by exact B4 fun _ => rfl))) (fun _ => rfl) ?_; intro g8)
   refine A4 ⟨nofun, _, kS [8] [8] rfl, ?_⟩
   refine ⟨(_, _, _), ?_, ⟨rfl, rfl, trivial⟩⟩
   exact ⟨(by (simp [R4, *]; done)), (by (simp; done)), (by (simp; omega))⟩
  try simp only [SG, List.length_map] at hc
  try simp at hc
  refine A5 <| A0 <| I1 rfl rfl <| A6 rfl rfl rfl ?_
  refine A4 ⟨nofun, _, kS [1,2,8,16,25] [8] rfl, ?_⟩
  refine A8 rfl (fun hc => ?_) (fun hc => ?_)
  ·try simp only [SG, List.length_map] at hc
   try simp at hc
   refine A5 <| A0 <| A6 rfl rfl rfl ?_
   refine A4 ⟨nofun, _, kS [1,8,9] [8] rfl, ?_⟩
   refine D3 <| G1 (β := Nat × List Int × Nat) [(.t 1, _)] (fun (z : Nat × List Int × Nat) => match z with | (i, l, g) => [(.t 9, iV i), (.h 8, .obj g 0 1 (l.map iV)), (.t 8, .sl 8 g none 0 l.length)]) (fun (z : Nat × List Int × Nat) => match z with | (i, l, g) => i ≤ x.length ∧ l = (List.range i).map (fun i => -(H7 x i))) (fun (z : Nat × List Int × Nat) => match z with | (i, l, g) => x.length - i) (0, [], _) ⟨rfl, rfl, rfl, rfl, trivial⟩ ⟨Nat.zero_le _, rfl⟩ ?_
   intro z hb
   obtain ⟨i, l, g⟩ := z
   try dsimp only at hb
   obtain ⟨hi1, hl⟩ := hb
   have hll : l.length = i := by rw [hl]; simp
   have hgi : -100000 ≤ x.getD i default ∧ x.getD i default ≤ 100000 := hgx i
   have hgyi : -100000 ≤ y.getD i default ∧ y.getD i default ≤ 100000 := hgy i
   refine A5 <| A5 <| A0 <| A3 rfl rfl <| A3 rfl rfl <| E3 rfl rfl <| G7 rfl rfl ?_
   refine A4 ⟨nofun, _, kS [1,8,9,30] [8] rfl, ?_⟩
   refine A8 rfl (fun hc => ?_) (fun hc => ?_)
   ·try simp only [SG, List.length_map] at hc
    refine B9 <| A5 <| D3 <| A0 <| A3 rfl rfl <| A3 rfl rfl <| A3 rfl rfl <| C9 rfl rfl rfl (fun _ => rfl) (by omega) <| D7 rfl rfl rfl <| b7u rfl (C8 (by omega)) <| F0 (es := List.map iV [_]) rfl rfl (by decide) rfl rfl (fun _ => C3 (B4 fun _ => rfl)) (fun _ => rfl) ?_
    intro g39
    refine F9 rfl rfl rfl rfl (by (simp; done)) (by simp) (by decide) rfl rfl rfl rfl (by decide) (fun _ => ⟨rfl, rfl⟩) (by simp only [H8]; (simp only [List.length_nil, List.length_cons, List.length_append, Nat.zero_add, List.length_map]; omega)) (fun _ => rfl) ?_
    intro g40
    (refine C5 rfl rfl (by (simp; done)) rfl (fun _ => (C3 (by exact B4 fun _ => rfl))) (fun _ => rfl) ?_; intro g8)
    refine A4 ⟨nofun, _, kS [1,8,9] [8] rfl, ?_⟩
    refine A0 <| A3 rfl rfl <| D9 rfl rfl (C8 (by omega)) <| A6 rfl rfl rfl ?_
    refine A4 ⟨nofun, _, kS [1,8,9] [8] rfl, ?_⟩
    refine ⟨(i + 1, l ++ [-(x.getD i default)], _), ?_, (by simp only; omega), ⟨rfl, rfl, rfl, rfl, trivial⟩⟩
    exact ⟨by omega, by rw [hl, S3]; rfl⟩
   try simp only [SG, List.length_map] at hc
   refine G6 ?_
   refine ⟨(_, _, _), ?_, ⟨rfl, rfl, trivial⟩⟩
   exact ⟨apF (show l = x.map (fun v => -v) by rw [hl, show i = x.length by omega]; exact a1q x fun v => -v) (by simp [R4, *]), by omega, by omega⟩
  try simp only [SG, List.length_map] at hc
  try simp at hc
  refine A5 <| A0 <| I1 rfl rfl <| A6 rfl rfl rfl ?_
  refine A4 ⟨nofun, _, kS [1,2,8,16,41] [8] rfl, ?_⟩
  refine A8 rfl (fun hc => ?_) (fun hc => ?_)
  ·try simp only [SG, List.length_map] at hc
   try simp at hc
   refine A5 <| A0 <| A6 rfl rfl rfl ?_
   refine A4 ⟨nofun, _, kS [1,8,10] [8] rfl, ?_⟩
   refine D3 <| G1 (β := Nat × List Int × Nat) [(.t 1, _)] (fun (z : Nat × List Int × Nat) => match z with | (i, l, g) => [(.t 10, iV i), (.h 8, .obj g 0 1 (l.map iV)), (.t 8, .sl 8 g none 0 l.length)]) (fun (z : Nat × List Int × Nat) => match z with | (i, l, g) => i ≤ x.length ∧ l = (List.range i).map (fun i => max (H7 x i) (-(H7 x i)))) (fun (z : Nat × List Int × Nat) => match z with | (i, l, g) => x.length - i) (0, [], _) ⟨rfl, rfl, rfl, rfl, trivial⟩ ⟨Nat.zero_le _, rfl⟩ ?_
   intro z hb
   obtain ⟨i, l, g⟩ := z
   try dsimp only at hb
   obtain ⟨hi1, hl⟩ := hb
   have hll : l.length = i := by rw [hl]; simp
   have hgi : -100000 ≤ x.getD i default ∧ x.getD i default ≤ 100000 := hgx i
   have hgyi : -100000 ≤ y.getD i default ∧ y.getD i default ≤ 100000 := hgy i
   refine A5 <| A5 <| A0 <| A3 rfl rfl <| A3 rfl rfl <| E3 rfl rfl <| G7 rfl rfl ?_
   refine A4 ⟨nofun, _, kS [1,8,10,46] [8] rfl, ?_⟩
   refine A8 rfl (fun hc => ?_) (fun hc => ?_)
   ·try simp only [SG, List.length_map] at hc
    refine B9 <| A5 <| D3 <| A0 <| A3 rfl rfl <| A3 rfl rfl <| A3 rfl rfl <| C9 rfl rfl rfl (fun _ => rfl) (by omega) <| D7 rfl rfl rfl <| A3 rfl rfl <| A3 rfl rfl <| C9 rfl rfl rfl (fun _ => rfl) (by omega) <| D7 rfl rfl rfl <| b7u rfl (C8 (by omega)) <| c4n rfl rfl <| F0 (es := List.map iV [_]) rfl rfl (by decide) rfl rfl (fun _ => C3 (B4 fun _ => rfl)) (fun _ => rfl) ?_
    intro g60
    refine F9 rfl rfl rfl rfl (by (simp; done)) (by simp) (by decide) rfl rfl rfl rfl (by decide) (fun _ => ⟨rfl, rfl⟩) (by simp only [H8]; (simp only [List.length_nil, List.length_cons, List.length_append, Nat.zero_add, List.length_map]; omega)) (fun _ => rfl) ?_
    intro g61
    (refine C5 rfl rfl (by (simp; done)) rfl (fun _ => (C3 (by exact B4 fun _ => rfl))) (fun _ => rfl) ?_; intro g8)
    refine A4 ⟨fun _ => ⟨by decide +kernel, by decide +kernel⟩, [(.t 1, _), (.t 8, _), (.t 10, _), (.h 8, _)], ⟨rfl, rfl, rfl, rfl, rfl, rfl, rfl, rfl, trivial⟩, ?_⟩
    refine A0 <| A3 rfl rfl <| D9 rfl rfl (C8 (by omega)) <| A6 rfl rfl rfl ?_
    refine A4 ⟨nofun, _, kS [1,8,10] [8] rfl, ?_⟩
    refine ⟨(i + 1, l ++ [max (x.getD i default) (-(x.getD i default))], _), ?_, (by simp only; omega), ⟨rfl, rfl, rfl, rfl, trivial⟩⟩
    exact ⟨by omega, by rw [hl, S3]; rfl⟩
   try simp only [SG, List.length_map] at hc
   refine G6 ?_
   refine ⟨(_, _, _), ?_, ⟨rfl, rfl, trivial⟩⟩
   exact ⟨apF (show l = x.map (fun v => max v (-v)) by rw [hl, show i = x.length by omega]; exact a1q x fun v => max v (-v)) (by simp [R4, *]), by omega, by omega⟩
  try simp only [SG, List.length_map] at hc
  try simp at hc
  refine A5 <| A0 <| I1 rfl rfl <| A6 rfl rfl rfl ?_
  refine A4 ⟨nofun, _, kS [1,2,8,16,62] [8] rfl, ?_⟩
  refine A8 rfl (fun hc => ?_) (fun hc => ?_)
  ·try simp only [SG, List.length_map] at hc
   try simp at hc
   refine A5 <| A0 <| A6 rfl rfl rfl ?_
   refine A4 ⟨nofun, _, kS [1,8,11] [8] rfl, ?_⟩
   refine D3 <| G1 (β := Nat × List Int × Nat) [(.t 1, _)] (fun (z : Nat × List Int × Nat) => match z with | (i, l, g) => [(.t 11, iV i), (.h 8, .obj g 0 1 (l.map iV)), (.t 8, .sl 8 g none 0 l.length)]) (fun (z : Nat × List Int × Nat) => match z with | (i, l, g) => i ≤ x.length ∧ l = (List.range i).map (fun i => if i = 0 then H7 x 0 else H7 x i - H7 x (i - 1))) (fun (z : Nat × List Int × Nat) => match z with | (i, l, g) => x.length - i) (0, [], _) ⟨rfl, rfl, rfl, rfl, trivial⟩ ⟨Nat.zero_le _, rfl⟩ ?_
   intro z hb
   obtain ⟨i, l, g⟩ := z
   try dsimp only at hb
   obtain ⟨hi1, hl⟩ := hb
   have hll : l.length = i := by rw [hl]; simp
   have hgi : -100000 ≤ x.getD i default ∧ x.getD i default ≤ 100000 := hgx i
   have hgyi : -100000 ≤ y.getD i default ∧ y.getD i default ≤ 100000 := hgy i
   refine A5 <| A5 <| A0 <| A3 rfl rfl <| A3 rfl rfl <| E3 rfl rfl <| G7 rfl rfl ?_
   refine A4 ⟨nofun, _, kS [1,8,11,67] [8] rfl, ?_⟩
   refine A8 rfl (fun hc => ?_) (fun hc => ?_)
   ·try simp only [SG, List.length_map] at hc
    refine B9 <| A5 <| D3 <| A5 <| A0 <| A3 rfl rfl <| I7 rfl rfl ?_
    refine A4 ⟨nofun, _, kS [1,8,11,71] [8] rfl, ?_⟩
    refine A8 rfl (fun hc => ?_) (fun hc => ?_)
    ·try simp only [SG, List.length_map] at hc
     refine A0 <| A3 rfl rfl <| A3 rfl rfl <| C9 rfl rfl rfl (fun _ => rfl) (by (change 0 < _; omega)) <| D7 rfl rfl rfl <| F0 (es := List.map iV [_]) rfl rfl (by decide) rfl rfl (fun _ => C3 (B4 fun _ => rfl)) (fun _ => rfl) ?_
     intro g76
     refine F9 rfl rfl rfl rfl (by (simp; done)) (by simp) (by decide) rfl rfl rfl rfl (by decide) (fun _ => ⟨rfl, rfl⟩) (by simp only [H8]; (simp only [List.length_nil, List.length_cons, List.length_append, Nat.zero_add, List.length_map]; omega)) (fun _ => rfl) ?_
     intro g77
     (refine C5 rfl rfl (by (simp; done)) rfl (fun _ => (C3 (by exact B4 fun _ => rfl))) (fun _ => rfl) ?_; intro g8)
     refine A4 ⟨nofun, _, kS [1,8,11] [8] rfl, ?_⟩
     refine A0 <| A3 rfl rfl <| D9 rfl rfl (C8 (by omega)) <| A6 rfl rfl rfl ?_
     refine A4 ⟨nofun, _, kS [1,8,11] [8] rfl, ?_⟩
     refine ⟨(i + 1, l ++ [x.getD 0 default], _), ?_, (by simp only; omega), ⟨rfl, rfl, rfl, rfl, trivial⟩⟩
     exact ⟨by omega, by rw [hl, S3, if_pos (by omega)]; rfl⟩
    try simp only [SG, List.length_map] at hc
    refine A0 <| A3 rfl rfl <| A3 rfl rfl <| A3 rfl rfl <| C9 rfl rfl rfl (fun _ => rfl) (by omega) <| D7 rfl rfl rfl <| A3 rfl rfl <| A3 rfl rfl <| H6 rfl rfl (C8 (by omega)) ?_
    rw [show ((i : Int) - 1) = ((i - 1 : Nat) : Int) by omega]
    have hgi2 : -100000 ≤ x.getD (i - 1) default ∧ x.getD (i - 1) default ≤ 100000 := hgx (i - 1)
    refine C9 rfl rfl rfl (fun _ => rfl) (by omega) <| D7 rfl rfl rfl <| H6 rfl rfl (C8 (by omega)) <| F0 (es := List.map iV [_]) rfl rfl (by decide) rfl rfl (fun _ => C3 (B4 fun _ => rfl)) (fun _ => rfl) ?_
    intro g89
    refine F9 rfl rfl rfl rfl (by (simp; done)) (by simp) (by decide) rfl rfl rfl rfl (by decide) (fun _ => ⟨rfl, rfl⟩) (by simp only [H8]; (simp only [List.length_nil, List.length_cons, List.length_append, Nat.zero_add, List.length_map]; omega)) (fun _ => rfl) ?_
    intro g90
    (refine C5 rfl rfl (by (simp; done)) rfl (fun _ => (C3 (by exact B4 fun _ => rfl))) (fun _ => rfl) ?_; intro g8)
    refine A4 ⟨fun _ => ⟨by decide +kernel, by decide +kernel⟩, [(.t 1, _), (.t 8, _), (.t 11, _), (.h 8, _)], ⟨rfl, rfl, rfl, rfl, rfl, rfl, rfl, rfl, trivial⟩, ?_⟩
    refine A0 <| A3 rfl rfl <| D9 rfl rfl (C8 (by omega)) <| A6 rfl rfl rfl ?_
    refine A4 ⟨nofun, _, kS [1,8,11] [8] rfl, ?_⟩
    refine ⟨(i + 1, l ++ [x.getD i default - x.getD (i - 1) default], _), ?_, (by simp only; omega), ⟨rfl, rfl, rfl, rfl, trivial⟩⟩
    exact ⟨by omega, by rw [hl, S3, if_neg (by omega)]; rfl⟩
   try simp only [SG, List.length_map] at hc
   refine G6 ?_
   refine ⟨(_, _, _), ?_, ⟨rfl, rfl, trivial⟩⟩
   exact ⟨apF (show l = dfI x by rw [hl, show i = x.length by omega]; rfl) (by simp [R4, *]), by omega, by omega⟩
  try simp only [SG, List.length_map] at hc
  try simp at hc
  refine A5 <| A0 <| I1 rfl rfl <| A6 rfl rfl rfl ?_
  refine A4 ⟨nofun, _, kS [1,2,8,16,91] [8] rfl, ?_⟩
  refine A8 rfl (fun hc => ?_) (fun hc => ?_)
  ·try simp only [SG, List.length_map] at hc
   try simp at hc
   refine A5 <| A0 <| A6 rfl rfl rfl ?_
   refine A4 ⟨nofun, _, kS [1,8,12] [8] rfl, ?_⟩
   refine A5 <| A0 <| A6 rfl rfl rfl ?_
   refine A4 ⟨nofun, _, kS [1,8,12,13] [8] rfl, ?_⟩
   refine D3 <| G1 (β := Nat × Int × List Int × Nat) [(.t 1, _)] (fun (z : Nat × Int × List Int × Nat) => match z with | (i, s, l, g) => [(.t 13, iV i), (.t 12, iV s), (.h 8, .obj g 0 1 (l.map iV)), (.t 8, .sl 8 g none 0 l.length)]) (fun (z : Nat × Int × List Int × Nat) => match z with | (i, s, l, g) => i ≤ x.length ∧ s = prS (H7 x) i ∧ l = (List.range i).map fun i => prS (H7 x) (i + 1)) (fun (z : Nat × Int × List Int × Nat) => match z with | (i, s, l, g) => x.length - i) (0, 0, [], _) ⟨rfl, rfl, rfl, rfl, rfl, trivial⟩ ⟨Nat.zero_le _, rfl, rfl⟩ ?_
   intro z hb
   obtain ⟨i, s, l, g⟩ := z
   try dsimp only at hb
   obtain ⟨hi1, hs, hl⟩ := hb
   have hll : l.length = i := by rw [hl]; simp
   have hgi : -100000 ≤ x.getD i default ∧ x.getD i default ≤ 100000 := hgx i
   have hsb := b2c hx i
   rw [← hs] at hsb
   refine A5 <| A5 <| A0 <| A3 rfl rfl <| A3 rfl rfl <| E3 rfl rfl <| G7 rfl rfl ?_
   refine A4 ⟨nofun, _, kS [1,8,12,13,96] [8] rfl, ?_⟩
   refine A8 rfl (fun hc => ?_) (fun hc => ?_)
   ·try simp only [SG, List.length_map] at hc
    refine B9 <| A5 <| D3 <| A5 <| A0 <| A3 rfl rfl <| A3 rfl rfl <| A3 rfl rfl <| C9 rfl rfl rfl (fun _ => rfl) (by omega) <| D7 rfl rfl rfl <| D9 rfl rfl (C8 (by omega)) <| A6 rfl rfl rfl ?_
    refine A4 ⟨nofun, _, kS [1,8,12,13] [8] rfl, ?_⟩
    refine A0 <| A3 rfl rfl <| A3 rfl rfl <| F0 (es := List.map iV [_]) rfl rfl (by decide) rfl rfl (fun _ => C3 (B4 fun _ => rfl)) (fun _ => rfl) ?_
    intro g107
    refine F9 rfl rfl rfl rfl (by (simp; done)) (by simp) (by decide) rfl rfl rfl rfl (by decide) (fun _ => ⟨rfl, rfl⟩) (by simp only [H8]; (simp only [List.length_nil, List.length_cons, List.length_append, Nat.zero_add, List.length_map]; omega)) (fun _ => rfl) ?_
    intro g108
    (refine C5 rfl rfl (by (simp; done)) rfl (fun _ => (C3 (by exact B4 fun _ => rfl))) (fun _ => rfl) ?_; intro g8)
    refine A4 ⟨nofun, _, kS [1,8,12,13] [8] rfl, ?_⟩
    refine A0 <| A3 rfl rfl <| D9 rfl rfl (C8 (by omega)) <| A6 rfl rfl rfl ?_
    refine A4 ⟨nofun, _, kS [1,8,12,13] [8] rfl, ?_⟩
    refine ⟨(i + 1, s + x.getD i default, l ++ [s + x.getD i default], _), ?_, (by simp only; omega), ⟨rfl, rfl, rfl, rfl, rfl, trivial⟩⟩
    exact ⟨by omega, by rw [prS, hs]; rfl, by rw [hl, S3, prS, hs]; rfl⟩
   try simp only [SG, List.length_map] at hc
   refine G6 ?_
   refine ⟨(_, _, _), ?_, ⟨rfl, rfl, trivial⟩⟩
   exact ⟨apF (show l = smI x by rw [hl, show i = x.length by omega]; rfl) (by simp [R4, *]), by omega, by omega⟩
  try simp only [SG, List.length_map] at hc
  try simp at hc
  refine A5 <| A0 <| I1 rfl rfl <| A6 rfl rfl rfl ?_
  refine A4 ⟨nofun, _, kS [1,2,8,16,109] [8] rfl, ?_⟩
  refine A8 rfl (fun hc => ?_) (fun hc => ?_)
  ·try simp only [SG, List.length_map] at hc
   try simp at hc
   refine A0 <| A3 rfl rfl ?_
   apply D6 rfl
   ·apply B1
    ·exact B0 rfl
    exact D5
   ·exact b9z x hx
   ·exact ⟨rfl, rfl, rfl, of_decide_eq_true rfl, rfl⟩
   ·exact .inl rfl
   ·exact C6
   ·exact I0
   ·exact fun _ => rfl
   intro g112
   simp only [List.length_map]
   (refine C5 rfl rfl (by (simp; done)) rfl (fun _ => (C3 (by exact B4 fun _ => rfl))) (fun _ => rfl) ?_; intro g8)
   refine A4 ⟨nofun, _, kS [8] [8] rfl, ?_⟩
   refine ⟨(_, _, _), ?_, ⟨rfl, rfl, trivial⟩⟩
   exact ⟨(by (simp [R4, rkI, *]; done)), (by (simp [dfI, smI, rkI, adI]; done)), (by (simp; omega))⟩
  try simp only [SG, List.length_map] at hc
  try simp at hc
  refine A5 <| A0 <| I1 rfl rfl <| A6 rfl rfl rfl ?_
  refine A4 ⟨nofun, _, kS [1,2,8,16,113] [8] rfl, ?_⟩
  refine A8 rfl (fun hc => ?_) (fun hc => ?_)
  ·try simp only [SG, List.length_map] at hc
   try simp at hc
   refine A0 <| A3 rfl rfl <| A3 rfl rfl ?_
   apply D6 rfl
   ·apply B1
    ·exact B0 rfl
    exact D5
   ·exact c4x x hx
   ·exact ⟨rfl, rfl, rfl, of_decide_eq_true rfl, rfl⟩
   ·exact .inl rfl
   ·exact C6
   ·exact C7 rfl
   ·exact fun _ => rfl
   intro g117
   refine F0 (es := List.map iV [_]) rfl rfl (by decide) rfl rfl (fun _ => C3 (B4 fun _ => rfl)) (fun _ => rfl) ?_
   intro g118
   refine F9 rfl rfl rfl rfl (by (simp; done)) (by simp) (by decide) rfl rfl rfl rfl (by decide) (fun _ => ⟨rfl, rfl⟩) (by simp only [H8]; (simp only [List.length_nil, List.length_cons, List.length_append, Nat.zero_add, List.length_map]; omega)) (fun _ => rfl) ?_
   intro g119
   (refine C5 rfl rfl (by (simp; done)) rfl (fun _ => (C3 (by exact B4 fun _ => rfl))) (fun _ => rfl) ?_; intro g8)
   refine A4 ⟨nofun, _, kS [8] [8] rfl, ?_⟩
   refine ⟨(_, _, _), ?_, ⟨rfl, rfl, trivial⟩⟩
   exact ⟨(by (simp [R4, *]; done)), (by (simp; done)), (by (simp; done))⟩
  try simp only [SG, List.length_map] at hc
  try simp at hc
  refine A5 <| A0 <| I1 rfl rfl <| A6 rfl rfl rfl ?_
  refine A4 ⟨nofun, _, kS [1,2,8,16,120] [8] rfl, ?_⟩
  refine A8 rfl (fun hc => ?_) (fun hc => ?_)
  ·try simp only [SG, List.length_map] at hc
   try simp at hc
   refine A5 <| A5 <| A0 <| A3 rfl rfl <| E3 rfl rfl <| A3 rfl rfl <| E3 rfl rfl <| K7 rfl rfl ?_
   refine A4 ⟨nofun, _, kS [1,2,8,126] [8] rfl, ?_⟩
   refine A8 rfl (fun hc => ?_) (fun hc => ?_)
   ·try simp only [SG, List.length_map] at hc
    refine A5 <| A0 ?_
    (refine E7 rfl rfl (fun _ => rfl) ?_; intro g6)
    refine A6 rfl rfl rfl ?_
    refine A4 ⟨nofun, _, kS [6,7] [6] rfl, ?_⟩
    refine C4 <| M6 (S1 rfl rfl (by simp) (by rfl) (P9 rfl rfl (O7 H0))) ?_
    have hne : ¬ x.length = y.length := by omega
    rw [show mkR op x y = none from by simp [mkR, R4, *], show raR op x y = [] from by simp [raR, R4, *]]
    rfl
   try simp only [SG, List.length_map] at hc
   refine B9 <| A5 <| A0 <| A6 rfl rfl rfl ?_
   refine A4 ⟨nofun, _, kS [1,2,8,14] [8] rfl, ?_⟩
   refine D3 <| G1 (β := Nat × List Int × Nat) [(.t 1, _), (.t 2, _)] (fun (z : Nat × List Int × Nat) => match z with | (i, l, g) => [(.t 14, iV i), (.h 8, .obj g 0 1 (l.map iV)), (.t 8, .sl 8 g none 0 l.length)]) (fun (z : Nat × List Int × Nat) => match z with | (i, l, g) => i ≤ x.length ∧ l = (List.range i).map (fun i => H7 x i + H7 y i)) (fun (z : Nat × List Int × Nat) => match z with | (i, l, g) => x.length - i) (0, [], _) ⟨rfl, rfl, rfl, rfl, rfl, trivial⟩ ⟨Nat.zero_le _, rfl⟩ ?_
   intro z hb
   obtain ⟨i, l, g⟩ := z
   try dsimp only at hb
   obtain ⟨hi1, hl⟩ := hb
   have hll : l.length = i := by rw [hl]; simp
   have hgi : -100000 ≤ x.getD i default ∧ x.getD i default ≤ 100000 := hgx i
   have hgyi : -100000 ≤ y.getD i default ∧ y.getD i default ≤ 100000 := hgy i
   refine A5 <| A5 <| A0 <| A3 rfl rfl <| A3 rfl rfl <| E3 rfl rfl <| G7 rfl rfl ?_
   refine A4 ⟨nofun, _, kS [1,2,8,14,130] [8] rfl, ?_⟩
   refine A8 rfl (fun hc => ?_) (fun hc => ?_)
   ·try simp only [SG, List.length_map] at hc
    refine B9 <| A5 <| D3 <| A0 <| A3 rfl rfl <| A3 rfl rfl <| A3 rfl rfl <| C9 rfl rfl rfl (fun _ => rfl) (by omega) <| D7 rfl rfl rfl <| A3 rfl rfl <| A3 rfl rfl <| C9 rfl rfl rfl (fun _ => rfl) (by omega) <| D7 rfl rfl rfl <| D9 rfl rfl (C8 (by omega)) <| F0 (es := List.map iV [_]) rfl rfl (by decide) rfl rfl (fun _ => C3 (B4 fun _ => rfl)) (fun _ => rfl) ?_
    intro g143
    refine F9 rfl rfl rfl rfl (by (simp; done)) (by simp) (by decide) rfl rfl rfl rfl (by decide) (fun _ => ⟨rfl, rfl⟩) (by simp only [H8]; (simp only [List.length_nil, List.length_cons, List.length_append, Nat.zero_add, List.length_map]; omega)) (fun _ => rfl) ?_
    intro g144
    (refine C5 rfl rfl (by (simp; done)) rfl (fun _ => (C3 (by exact B4 fun _ => rfl))) (fun _ => rfl) ?_; intro g8)
    refine A4 ⟨fun _ => ⟨by decide +kernel, by decide +kernel⟩, [(.t 1, _), (.t 2, _), (.t 8, _), (.t 14, _), (.h 8, _)], ⟨rfl, rfl, rfl, rfl, rfl, rfl, rfl, rfl, rfl, rfl, trivial⟩, ?_⟩
    refine A0 <| A3 rfl rfl <| D9 rfl rfl (C8 (by omega)) <| A6 rfl rfl rfl ?_
    refine A4 ⟨nofun, _, kS [1,2,8,14] [8] rfl, ?_⟩
    refine ⟨(i + 1, l ++ [x.getD i default + y.getD i default], _), ?_, (by simp only; omega), ⟨rfl, rfl, rfl, rfl, rfl, trivial⟩⟩
    exact ⟨by omega, by rw [hl, S3]; rfl⟩
   try simp only [SG, List.length_map] at hc
   refine G6 ?_
   refine ⟨(_, _, _), ?_, ⟨rfl, rfl, trivial⟩⟩
   exact ⟨adF (by assumption) (by omega) (by rw [hl, show i = x.length by omega]; rfl) rfl, by omega, by omega⟩
  try simp only [SG, List.length_map] at hc
  try simp at hc
  refine A5 <| A0 <| I1 rfl rfl <| A6 rfl rfl rfl ?_
  refine A4 ⟨nofun, _, kS [1,2,8,145] [8] rfl, ?_⟩
  refine A8 rfl (fun hc => ?_) (fun hc => ?_)
  ·try simp only [SG, List.length_map] at hc
   try simp at hc
   refine A0 <| A3 rfl rfl <| A3 rfl rfl <| K8 rfl rfl rfl (by (simp; done)) rfl rfl rfl (by decide) (fun _ => ⟨rfl, rfl, rfl⟩) (by simp only [H8]; (simp only [List.length_nil, List.length_cons, List.length_append, Nat.zero_add, List.length_map]; omega)) (fun _ => rfl) ?_
   intro g149
   refine A3 rfl rfl <| K8 rfl rfl rfl (by (simp; done)) rfl rfl rfl (by decide) (fun _ => ⟨rfl, rfl, rfl⟩) (by simp only [H8]; (simp only [List.length_nil, List.length_cons, List.length_append, Nat.zero_add, List.length_map]; omega)) (fun _ => rfl) ?_
   intro g151
   (refine C5 rfl rfl (by (simp; done)) rfl (fun _ => (C3 (by exact B4 fun _ => rfl))) (fun _ => rfl) ?_; intro g8)
   refine A4 ⟨nofun, _, kS [8] [8] rfl, ?_⟩
   refine ⟨(_, _, _), ?_, ⟨rfl, rfl, trivial⟩⟩
   exact ⟨(by (simp [R4, *]; done)), (by (simp; done)), (by (simp; omega))⟩
  try simp only [SG, List.length_map] at hc
  try simp at hc
  refine B9 ?_
  refine ⟨(_, _, _), ?_, ⟨rfl, rfl, trivial⟩⟩
  exact absurd (c2k h1) (by simp [*])
 intro z hb
 obtain ⟨r, n, g⟩ := z
 try dsimp only at hb
 obtain ⟨hraw, hn, hr80⟩ := hb
 subst hn
 refine A5 <| A0 <| A3 rfl rfl <| A3 rfl rfl ?_
 apply D6 rfl
 ·apply B1
  ·exact H9 rfl rfl rfl (by (simp; done)) (fun _ => rfl)
  exact D5
 ·exact b3n r (by omega)
 ·exact ⟨rfl, rfl, rfl, of_decide_eq_true rfl, rfl⟩
 ·exact .inr ⟨rfl, rfl⟩
 ·exact C6
 ·exact C7 rfl
 ·exact fun _ => rfl
 intro g154
 (refine C5 rfl rfl (by (simp; done)) rfl (fun _ => (C3 (by exact B4 fun _ => rfl))) (fun _ => rfl) ?_; intro g6)
 refine A6 rfl rfl rfl ?_
 refine A4 ⟨nofun, _, kS [6,7] [6] rfl, ?_⟩
 refine C4 <| M6 (S1 rfl rfl (by simp) (by exact B4 fun _ => rfl) (P9 rfl rfl (O7 H0))) ?_
 rw [raR, mkR, hraw, Option.bind_some, Option.getD_some]
 cases hvr : vl r <;> rfl

theorem keep_s_szIntS : G4 Try.f21 = [0, 1, 4, 10] := by kernel_rfl
set_option maxHeartbeats 20000000 in
theorem b1w (xs : List Int) (hl : xs.length ≤ 9223372036854775807) (left : Int) (hL : 0 ≤ left ∧ left ≤ 1048576) : ∃ res outs, (fun res outs => ∃ r : Int, res = iV r ∧ outs = [] ∧ (0 ≤ r → r = left - xs.length) ∧ (r < 0 → r = -1)) res outs ∧ CW cxT 21 [L xs, iV left] = some (res, outs) := by
 refine N4 rfl Try.func21 rfl ⟨by kernel_rfl, rfl, of_decide_eq_true rfl, of_decide_eq_true rfl, by decide⟩ keep_s_szIntS <| A5 <| A0 <| A6 rfl rfl rfl ?_
 refine A4 ⟨nofun, _, kS [0,1] [] rfl, ?_⟩
 refine A5 <| A0 <| A3 rfl rfl <| A3 rfl rfl <| E3 rfl rfl <| H6 rfl rfl (C8 (by omega)) <| A6 rfl rfl rfl ?_
 refine A4 ⟨nofun, _, kS [1] [] rfl, ?_⟩
 refine A5 <| A5 <| A0 <| A3 rfl rfl <| G7 rfl rfl ?_
 refine A4 ⟨nofun, _, kS [1,10] [] rfl, ?_⟩
 refine A8 rfl (fun hc => ?_) (fun hc => ?_)
 ·try simp only [SG, List.length_map] at hc
  refine A5 <| A0 <| A6 rfl rfl rfl ?_
  refine A4 ⟨nofun, _, kS [4] [] rfl, ?_⟩
  refine C4 ?_
  refine ⟨_, _, ?_, K4 rfl rfl H0⟩
  exact ⟨-1, rfl, rfl, by omega, by omega⟩
 try simp only [SG, List.length_map] at hc
 refine B9 <| A5 <| A0 <| A3 rfl rfl <| A6 rfl rfl rfl ?_
 refine A4 ⟨nofun, _, kS [4] [] rfl, ?_⟩
 refine C4 ?_
 refine ⟨_, _, ?_, K4 rfl rfl H0⟩
 exact ⟨_, rfl, rfl, fun _ => rfl, by omega⟩

theorem keep_s_szPlanStep : G4 Try.f20 = [0, 1, 4, 2, 11, 17] := by kernel_rfl
set_option maxHeartbeats 20000000 in
theorem b0c (s : Stp) (hs : s.op.size ≤ 9223372036854775807 ∧ s.ns.length ≤ 9223372036854775807) (left : Int) (hL : 0 ≤ left ∧ left ≤ 1048576) : ∃ res outs, (fun res outs => ∃ r : Int, res = iV r ∧ outs = [] ∧ (0 ≤ r → r = left - szP s) ∧ (r < 0 → r = -1)) res outs ∧ CW cxT 20 [stA s, iV left] = some (res, outs) := by
 refine N4 rfl Try.func20 rfl ⟨by kernel_rfl, rfl, of_decide_eq_true rfl, of_decide_eq_true rfl, by decide⟩ keep_s_szPlanStep <| A5 <| A0 <| a8z rfl rfl rfl (fun _ => J7 rfl) (fun _ => rfl) ?_
 intro g2
 refine A6 rfl rfl rfl ?_
 refine A4 ⟨nofun, _, kS [1,2] [2] rfl, ?_⟩
 refine A5 <| A0 <| A3 rfl rfl <| B5 rfl rfl (by decide) rfl rfl <| B7 rfl rfl rfl rfl rfl rfl <| b8l rfl rfl <| H6 rfl rfl (C8 (by omega)) <| A6 rfl rfl rfl ?_
 refine A4 ⟨nofun, _, kS [1,2] [2] rfl, ?_⟩
 refine A5 <| A5 <| A0 <| A3 rfl rfl <| G7 rfl rfl ?_
 refine A4 ⟨nofun, _, kS [1,2,11] [2] rfl, ?_⟩
 refine A8 rfl (fun hc => ?_) (fun hc => ?_)
 ·try simp only [SG, List.length_map] at hc
  refine A5 <| A0 <| A6 rfl rfl rfl ?_
  refine A4 ⟨nofun, _, kS [4] [] rfl, ?_⟩
  refine C4 ?_
  refine ⟨_, _, ?_, K4 rfl rfl H0⟩
  exact ⟨-1, rfl, rfl, by omega, by omega⟩
 try simp only [SG, List.length_map] at hc
 refine B9 <| A5 <| A0 <| B5 rfl rfl (by decide) rfl rfl <| B7 rfl rfl rfl rfl rfl rfl <| A3 rfl rfl ?_
 obtain ⟨_, _, ⟨r, rfl, rfl, hr1, hr2⟩, hC⟩ := b1w s.ns hs.2 (left - s.op.size) (by omega)
 apply D6 rfl
 ·apply B1
  ·exact B0 rfl
  apply B1
  ·exact B0 rfl
  exact D5
 ·exact hC
 ·exact ⟨rfl, rfl, rfl, of_decide_eq_true rfl, rfl⟩
 ·exact .inl rfl
 ·exact C6
 ·exact C7 rfl
 ·exact fun _ => rfl
 intro g15
 refine A6 rfl rfl rfl ?_
 refine A4 ⟨nofun, _, kS [1] [] rfl, ?_⟩
 refine A5 <| A5 <| A0 <| A3 rfl rfl <| G7 rfl rfl ?_
 refine A4 ⟨nofun, _, kS [1,17] [] rfl, ?_⟩
 refine A8 rfl (fun hc => ?_) (fun hc => ?_)
 ·try simp only [SG, List.length_map] at hc
  refine A5 <| A0 <| A6 rfl rfl rfl ?_
  refine A4 ⟨nofun, _, kS [4] [] rfl, ?_⟩
  refine C4 ?_
  refine ⟨_, _, ?_, K4 rfl rfl H0⟩
  exact ⟨-1, rfl, rfl, by omega, by omega⟩
 try simp only [SG, List.length_map] at hc
 refine B9 <| A5 <| A0 <| A3 rfl rfl <| A6 rfl rfl rfl ?_
 refine A4 ⟨nofun, _, kS [4] [] rfl, ?_⟩
 refine C4 ?_
 refine ⟨_, _, ?_, K4 rfl rfl H0⟩
 exact ⟨_, rfl, rfl, fun _ => by unfold szP; omega, by omega⟩

theorem keep_s_szPlanStepS : G4 Try.f5 = [0, 1, 4, 11, 5, 15, 25] := by kernel_rfl
set_option maxHeartbeats 20000000 in
theorem a8g (ss : List Stp) (hl : ss.length ≤ 9223372036854775807) (hs : ∀ s ∈ ss, s.op.size ≤ 9223372036854775807 ∧ s.ns.length ≤ 9223372036854775807) (left : Int) (hL : 0 ≤ left ∧ left ≤ 1048576) : ∃ res outs, (fun res outs => ∃ r : Int, res = iV r ∧ outs = [] ∧ (0 ≤ r → r = left - ss.length - szT ss) ∧ (r < 0 → r = -1)) res outs ∧ CW cxT 5 [.list (ss.map stA), iV left] = some (res, outs) := by
 refine N4 rfl Try.func5 rfl ⟨by kernel_rfl, rfl, of_decide_eq_true rfl, of_decide_eq_true rfl, by decide⟩ keep_s_szPlanStepS <| A5 <| A0 <| A6 rfl rfl rfl ?_
 refine A4 ⟨nofun, _, kS [0,1] [] rfl, ?_⟩
 refine A5 <| A0 <| A3 rfl rfl <| A3 rfl rfl <| E3 rfl rfl <| H6 rfl rfl (C8 (by omega)) <| A6 rfl rfl rfl ?_
 refine A4 ⟨nofun, _, kS [0,1] [] rfl, ?_⟩
 refine A5 <| A5 <| A0 <| A3 rfl rfl <| G7 rfl rfl ?_
 refine A4 ⟨nofun, _, kS [0,1,11] [] rfl, ?_⟩
 refine A8 rfl (fun hc => ?_) (fun hc => ?_)
 ·try simp only [SG, List.length_map] at hc
  refine A5 <| A0 <| A6 rfl rfl rfl ?_
  refine A4 ⟨nofun, _, kS [4] [] rfl, ?_⟩
  refine C4 ?_
  refine ⟨_, _, ?_, K4 rfl rfl H0⟩
  exact ⟨-1, rfl, rfl, by omega, by omega⟩
 try simp only [SG, List.length_map] at hc
 refine B9 <| A5 <| A5 <| A0 <| A6 rfl rfl rfl ?_
 refine A4 ⟨nofun, _, kS [0,1,5] [] rfl, ?_⟩
 refine D3 <| G1 (β := Nat × Int) [(.t 0, _)] (fun (z : Nat × Int) => match z with | (i, q) => [(.t 5, iV i), (.t 1, iV q)]) (fun (z : Nat × Int) => match z with | (i, q) => i ≤ ss.length ∧ 0 ≤ q ∧ q = left - ss.length - szT (ss.take i)) (fun (z : Nat × Int) => match z with | (i, q) => ss.length - i) (0, left - ss.length) ⟨rfl, rfl, rfl, trivial⟩ ⟨Nat.zero_le _, by omega, by simp [szT]⟩ ?_
 intro z hb
 obtain ⟨i, q⟩ := z
 try dsimp only at hb
 obtain ⟨hi1, hq0, hq⟩ := hb
 have hsg := fun h : i < ss.length => hs _ (L9 h)
 have hst := fun h : i < ss.length => a6t ss h
 refine A5 <| A5 <| A0 <| A3 rfl rfl <| A3 rfl rfl <| E3 rfl rfl <| G7 rfl rfl ?_
 refine A4 ⟨nofun, _, kS [0,1,5,15] [] rfl, ?_⟩
 refine A8 rfl (fun hc => ?_) (fun hc => ?_)
 ·try simp only [SG, List.length_map] at hc
  refine B9 <| A5 <| D3 <| A5 <| A0 <| A3 rfl rfl <| A3 rfl rfl <| C9 rfl rfl rfl (fun _ => rfl) (by omega) <| D7 rfl rfl rfl <| A3 rfl rfl ?_
  obtain ⟨_, _, ⟨r, rfl, rfl, hr1, hr2⟩, hC⟩ := b0c (ss.getD i default) (hsg (by omega)) q (by omega)
  apply D6 rfl
  ·apply B1
   ·exact B0 rfl
   apply B1
   ·exact B0 rfl
   exact D5
  ·exact hC
  ·exact ⟨rfl, rfl, rfl, of_decide_eq_true rfl, rfl⟩
  ·exact .inl rfl
  ·exact C6
  ·exact C7 rfl
  ·exact fun _ => rfl
  intro g23
  refine A6 rfl rfl rfl ?_
  refine A4 ⟨nofun, _, kS [0,1,5] [] rfl, ?_⟩
  refine A5 <| A0 <| A3 rfl rfl <| G7 rfl rfl ?_
  refine A4 ⟨nofun, _, kS [0,1,5,25] [] rfl, ?_⟩
  refine A8 rfl (fun hc => ?_) (fun hc => ?_)
  ·try simp only [SG, List.length_map] at hc
   refine A5 <| A0 <| A6 rfl rfl rfl ?_
   refine A4 ⟨nofun, _, kS [4] [] rfl, ?_⟩
   refine C4 ?_
   refine ⟨_, _, ?_, K4 rfl rfl H0⟩
   exact ⟨-1, rfl, rfl, by omega, by omega⟩
  try simp only [SG, List.length_map] at hc
  refine B9 <| A0 <| A3 rfl rfl <| D9 rfl rfl (C8 (by omega)) <| A6 rfl rfl rfl ?_
  refine A4 ⟨nofun, _, kS [0,1,5] [] rfl, ?_⟩
  refine ⟨(i + 1, r), ⟨by omega, by omega, by rw [hst (by omega)]; omega⟩, (by simp only; omega), ⟨rfl, rfl, rfl, trivial⟩⟩
 try simp only [SG, List.length_map] at hc
 refine G6 <| A5 <| A0 <| A3 rfl rfl <| A6 rfl rfl rfl ?_
 refine A4 ⟨nofun, _, kS [4] [] rfl, ?_⟩
 refine C4 ?_
 refine ⟨_, _, ?_, K4 rfl rfl H0⟩
 exact ⟨_, rfl, rfl, fun _ => by rw [hq, List.take_of_length_le (by omega)], by omega⟩

theorem keep_s_szIntSS : G4 Try.f6 = [0, 1, 4, 11, 5, 15, 25] := by kernel_rfl
set_option maxHeartbeats 20000000 in
theorem b8d (ss : List (List Int)) (hl : ss.length ≤ 9223372036854775807) (hs : ∀ s ∈ ss, s.length ≤ 9223372036854775807) (left : Int) (hL : 0 ≤ left ∧ left ≤ 1048576) : ∃ res outs, (fun res outs => ∃ r : Int, res = iV r ∧ outs = [] ∧ (0 ≤ r → r = left - ss.length - szR ss) ∧ (r < 0 → r = -1)) res outs ∧ CW cxT 6 [M ss, iV left] = some (res, outs) := by
 refine N4 rfl Try.func6 rfl ⟨by kernel_rfl, rfl, of_decide_eq_true rfl, of_decide_eq_true rfl, by decide⟩ keep_s_szIntSS <| A5 <| A0 <| A6 rfl rfl rfl ?_
 refine A4 ⟨nofun, _, kS [0,1] [] rfl, ?_⟩
 refine A5 <| A0 <| A3 rfl rfl <| A3 rfl rfl <| E3 rfl rfl <| H6 rfl rfl (C8 (by omega)) <| A6 rfl rfl rfl ?_
 refine A4 ⟨nofun, _, kS [0,1] [] rfl, ?_⟩
 refine A5 <| A5 <| A0 <| A3 rfl rfl <| G7 rfl rfl ?_
 refine A4 ⟨nofun, _, kS [0,1,11] [] rfl, ?_⟩
 refine A8 rfl (fun hc => ?_) (fun hc => ?_)
 ·try simp only [SG, List.length_map] at hc
  refine A5 <| A0 <| A6 rfl rfl rfl ?_
  refine A4 ⟨nofun, _, kS [4] [] rfl, ?_⟩
  refine C4 ?_
  refine ⟨_, _, ?_, K4 rfl rfl H0⟩
  exact ⟨-1, rfl, rfl, by omega, by omega⟩
 try simp only [SG, List.length_map] at hc
 refine B9 <| A5 <| A5 <| A0 <| A6 rfl rfl rfl ?_
 refine A4 ⟨nofun, _, kS [0,1,5] [] rfl, ?_⟩
 refine D3 <| G1 (β := Nat × Int) [(.t 0, _)] (fun (z : Nat × Int) => match z with | (i, q) => [(.t 5, iV i), (.t 1, iV q)]) (fun (z : Nat × Int) => match z with | (i, q) => i ≤ ss.length ∧ 0 ≤ q ∧ q = left - ss.length - szR (ss.take i)) (fun (z : Nat × Int) => match z with | (i, q) => ss.length - i) (0, left - ss.length) ⟨rfl, rfl, rfl, trivial⟩ ⟨Nat.zero_le _, by omega, by simp [szR]⟩ ?_
 intro z hb
 obtain ⟨i, q⟩ := z
 try dsimp only at hb
 obtain ⟨hi1, hq0, hq⟩ := hb
 have hsg := fun h : i < ss.length => hs _ (L9 h)
 have hst := fun h : i < ss.length => a7g ss h
 refine A5 <| A5 <| A0 <| A3 rfl rfl <| A3 rfl rfl <| E3 rfl rfl <| G7 rfl rfl ?_
 refine A4 ⟨nofun, _, kS [0,1,5,15] [] rfl, ?_⟩
 refine A8 rfl (fun hc => ?_) (fun hc => ?_)
 ·try simp only [SG, List.length_map] at hc
  refine B9 <| A5 <| D3 <| A5 <| A0 <| A3 rfl rfl <| A3 rfl rfl <| C9 rfl rfl rfl (fun _ => rfl) (by omega) <| D7 rfl rfl rfl <| A3 rfl rfl ?_
  obtain ⟨_, _, ⟨r, rfl, rfl, hr1, hr2⟩, hC⟩ := b1w (ss.getD i default) (hsg (by omega)) q (by omega)
  apply D6 rfl
  ·apply B1
   ·exact B0 rfl
   apply B1
   ·exact B0 rfl
   exact D5
  ·exact hC
  ·exact ⟨rfl, rfl, rfl, of_decide_eq_true rfl, rfl⟩
  ·exact .inl rfl
  ·exact C6
  ·exact C7 rfl
  ·exact fun _ => rfl
  intro g23
  refine A6 rfl rfl rfl ?_
  refine A4 ⟨nofun, _, kS [0,1,5] [] rfl, ?_⟩
  refine A5 <| A0 <| A3 rfl rfl <| G7 rfl rfl ?_
  refine A4 ⟨nofun, _, kS [0,1,5,25] [] rfl, ?_⟩
  refine A8 rfl (fun hc => ?_) (fun hc => ?_)
  ·try simp only [SG, List.length_map] at hc
   refine A5 <| A0 <| A6 rfl rfl rfl ?_
   refine A4 ⟨nofun, _, kS [4] [] rfl, ?_⟩
   refine C4 ?_
   refine ⟨_, _, ?_, K4 rfl rfl H0⟩
   exact ⟨-1, rfl, rfl, by omega, by omega⟩
  try simp only [SG, List.length_map] at hc
  refine B9 <| A0 <| A3 rfl rfl <| D9 rfl rfl (C8 (by omega)) <| A6 rfl rfl rfl ?_
  refine A4 ⟨nofun, _, kS [0,1,5] [] rfl, ?_⟩
  refine ⟨(i + 1, r), ⟨by omega, by omega, by rw [hst (by omega)]; omega⟩, (by simp only; omega), ⟨rfl, rfl, rfl, trivial⟩⟩
 try simp only [SG, List.length_map] at hc
 refine G6 <| A5 <| A0 <| A3 rfl rfl <| A6 rfl rfl rfl ?_
 refine A4 ⟨nofun, _, kS [4] [] rfl, ?_⟩
 refine C4 ?_
 refine ⟨_, _, ?_, K4 rfl rfl H0⟩
 exact ⟨_, rfl, rfl, fun _ => by rw [hq, List.take_of_length_le (by omega)], by omega⟩

theorem keep_s_toIntS : G4 Try.f28 = [0, 2, 4, 11, 3] := by kernel_rfl
set_option maxHeartbeats 20000000 in
theorem b3y (xs : List Int) (hl : xs.length ≤ 1048576) : CW cxT 28 [L xs] = some (.own 1 (xs.map iV), []) := by
 refine G5 rfl Try.func28 rfl ⟨by kernel_rfl, rfl, of_decide_eq_true rfl, of_decide_eq_true rfl, by decide⟩ keep_s_toIntS <| A5 <| A0 ?_
 (refine E7 rfl rfl (fun _ => rfl) ?_; intro g2)
 refine A4 ⟨nofun, _, kS [0] [] rfl, ?_⟩
 refine A5 <| A0 <| A3 rfl rfl <| E3 rfl rfl <| b7 (f := iV) (x0 := 0) rfl rfl rfl rfl rfl (by simp only [H8]; omega) (by decide) (fun _ => C3 (by exact B4 fun _ => rfl)) (fun _ => rfl) ?_
 intro g7
 (refine C5 rfl rfl (by (simp; done)) rfl (fun _ => (C3 (by exact B4 fun _ => rfl))) (fun _ => rfl) ?_; intro g3)
 refine A4 ⟨nofun, _, kS [0,3] [3] rfl, ?_⟩
 refine A5 <| A5 <| A0 <| A6 rfl rfl rfl ?_
 refine A4 ⟨nofun, _, kS [0,3,4] [3] rfl, ?_⟩
 refine D3 <| G1 (β := Nat × List Int) [(.t 0, _), (.t 3, _)] (fun (z : Nat × List Int) => match z with | (i, ys) => [(.t 4, iV i), (.h 3, .obj g3 0 1 (ys.map iV))]) (fun (z : Nat × List Int) => match z with | (i, ys) => i ≤ xs.length ∧ ys.length = xs.length ∧ ∀ j, j < i → ys.getD j default = xs.getD j default) (fun (z : Nat × List Int) => match z with | (i, ys) => xs.length - i) (0, List.replicate xs.length 0) ⟨rfl, rfl, rfl, rfl, trivial⟩ ⟨Nat.zero_le _, by simp, fun j h => by omega⟩ ?_
 intro z hb
 obtain ⟨i, ys⟩ := z
 try dsimp only at hb
 obtain ⟨hi1, hi2, hi3⟩ := hb
 refine A5 <| A5 <| A0 <| A3 rfl rfl <| A3 rfl rfl <| E3 rfl rfl <| G7 rfl rfl ?_
 refine A4 ⟨nofun, _, kS [0,3,4,11] [3] rfl, ?_⟩
 refine A8 rfl (fun hc => ?_) (fun hc => ?_)
 ·try simp only [SG, List.length_map] at hc
  refine B9 <| A5 <| D3 <| A0 <| A3 rfl rfl <| A3 rfl rfl <| A3 rfl rfl <| A3 rfl rfl <| C9 rfl rfl rfl (fun _ => rfl) (by omega) <| D7 rfl rfl rfl <| E6 rfl rfl rfl rfl (by omega) (by (simp; omega)) rfl <| J0 rfl rfl rfl (by omega) (fun _ _ => ⟨rfl, rfl, of_decide_eq_true rfl, of_decide_eq_true rfl, rfl, rfl⟩) (by decide) (by exact C3 (B4 fun _ => rfl)) ?_
  refine A4 ⟨nofun, _, kS [0,3,4] [3] rfl, ?_⟩
  refine A0 <| A3 rfl rfl <| D9 rfl rfl (C8 (by omega)) <| A6 rfl rfl rfl ?_
  refine A4 ⟨nofun, _, kS [0,3,4] [3] rfl, ?_⟩
  refine ⟨(i + 1, ys.set i (xs.getD i default)), ⟨by omega, by simp [hi2], fun j hj => by rw [a8u (by omega)]; by_cases e : j = i; (· rw [if_pos e, e]); (· rw [if_neg e]; exact hi3 j (by omega))⟩, (by simp only; omega), ⟨rfl, rfl, rfl, rfl, trivial⟩⟩
 try simp only [SG, List.length_map] at hc
 refine G6 <| A5 <| A0 <| A3 rfl rfl ?_
 (refine C5 rfl rfl (by (simp; omega)) rfl (fun _ => (C3 (by exact B4 fun _ => rfl))) (fun _ => rfl) ?_; intro g2)
 refine A4 ⟨nofun, _, kS [2] [2] rfl, ?_⟩
 refine C4 <| M2 rfl rfl (by (simp [hi2]; done)) (by exact B4 fun _ => rfl) trivial ?_
 rw [a9g hi2 fun j hj => hi3 j (by omega)]

theorem keep_s_eqIntS : G4 Try.f11 = [0, 1, 4, 10, 5, 14, 25] := by kernel_rfl
set_option maxHeartbeats 20000000 in
theorem r5 (xs : List Int) (hl : xs.length ≤ 1048576) : CW cxT 11 [L xs, L xs] = some (bV true, []) := by
 refine G5 rfl Try.func11 rfl ⟨by kernel_rfl, rfl, of_decide_eq_true rfl, of_decide_eq_true rfl, by decide⟩ keep_s_eqIntS <| A5 <| A0 <| A6 rfl rfl rfl ?_
 refine A4 ⟨nofun, _, kS [0,1] [] rfl, ?_⟩
 refine A5 <| A5 <| A0 <| A3 rfl rfl <| E3 rfl rfl <| A3 rfl rfl <| E3 rfl rfl <| K7 rfl rfl ?_
 refine A4 ⟨nofun, _, kS [0,1,10] [] rfl, ?_⟩
 refine A8 rfl (fun hc => ?_) (fun hc => ?_)
 ·try simp only [SD] at hc
  exact absurd trivial hc
 try simp only [SG, List.length_map] at hc
 refine B9 <| A5 <| A5 <| A0 <| A6 rfl rfl rfl ?_
 refine A4 ⟨nofun, _, kS [0,1,5] [] rfl, ?_⟩
 refine D3 <| G1 (β := Nat) [(.t 0, _), (.t 1, _)] (fun (i : Nat) => [(.t 5, iV i)]) (fun (i : Nat) => i ≤ xs.length) (fun (i : Nat) => xs.length - i) 0 ⟨rfl, rfl, rfl, trivial⟩ (Nat.zero_le _) ?_
 intro i hb
 have hi1 := hb
 refine A5 <| A5 <| A0 <| A3 rfl rfl <| A3 rfl rfl <| E3 rfl rfl <| G7 rfl rfl ?_
 refine A4 ⟨nofun, _, kS [0,1,5,14] [] rfl, ?_⟩
 refine A8 rfl (fun hc => ?_) (fun hc => ?_)
 ·try simp only [SG, List.length_map] at hc
  refine B9 <| A5 <| D3 <| A5 <| A0 <| A3 rfl rfl <| A3 rfl rfl <| C9 rfl rfl rfl (fun _ => rfl) (by omega) <| D7 rfl rfl rfl <| A3 rfl rfl <| A3 rfl rfl <| C9 rfl rfl rfl (fun _ => rfl) (by omega) <| D7 rfl rfl rfl <| K7 rfl rfl ?_
  refine A4 ⟨fun _ => ⟨by decide +kernel, by decide +kernel⟩, [(.t 0, _), (.t 1, _), (.t 5, _), (.t 25, _)], ⟨rfl, rfl, rfl, rfl, rfl, rfl, rfl, rfl, trivial⟩, ?_⟩
  refine A8 rfl (fun hc => ?_) (fun hc => ?_)
  ·try simp only [SD] at hc
   exact absurd trivial hc
  try simp only [SG, List.length_map] at hc
  refine B9 <| A0 <| A3 rfl rfl <| D9 rfl rfl (C8 (by omega)) <| A6 rfl rfl rfl ?_
  refine A4 ⟨nofun, _, kS [0,1,5] [] rfl, ?_⟩
  refine ⟨i + 1, (by omega), (by omega), ⟨rfl, rfl, rfl, trivial⟩⟩
 try simp only [SG, List.length_map] at hc
 refine G6 <| A5 <| A0 <| A6 rfl rfl rfl ?_
 refine A4 ⟨nofun, _, kS [4] [] rfl, ?_⟩
 refine C4 <| C1 rfl rfl trivial ?_
 rfl

theorem keep_s_eqPlanStep : G4 Try.f34 = [0, 1, 4, 3, 2, 9, 14, 19, 25] := by kernel_rfl
set_option maxHeartbeats 20000000 in
theorem b0v (s : Stp) (hs : s.ns.length ≤ 1048576) : CW cxT 34 [stA s, stA s] = some (bV true, []) := by
 refine G5 rfl Try.func34 rfl ⟨by kernel_rfl, rfl, of_decide_eq_true rfl, of_decide_eq_true rfl, by decide⟩ keep_s_eqPlanStep <| A5 <| A0 <| a8z rfl rfl rfl (fun _ => J7 rfl) (fun _ => rfl) ?_
 intro g2
 refine a8z rfl rfl rfl (fun _ => J7 rfl) (fun _ => rfl) ?_
 intro g3
 refine A6 rfl rfl rfl ?_
 refine A4 ⟨nofun, _, kS [2,3] [2,3] rfl, ?_⟩
 refine A5 <| A5 <| A0 <| B5 rfl rfl (by decide) rfl rfl <| B7 rfl rfl rfl rfl rfl rfl <| B5 rfl rfl (by decide) rfl rfl <| B7 rfl rfl rfl rfl rfl rfl <| a3m rfl rfl ?_
 refine A4 ⟨nofun, _, kS [2,3,9] [2,3] rfl, ?_⟩
 refine A8 rfl (fun hc => ?_) (fun hc => ?_)
 ·try simp only [SD] at hc
  exact absurd hc (by simp)
 try simp only [SG, List.length_map] at hc
 refine B9 <| A5 <| A5 <| A0 <| B5 rfl rfl (by decide) rfl rfl <| B7 rfl rfl rfl rfl rfl rfl <| B5 rfl rfl (by decide) rfl rfl <| B7 rfl rfl rfl rfl rfl rfl <| K7 rfl rfl ?_
 refine A4 ⟨nofun, _, kS [2,3,14] [2,3] rfl, ?_⟩
 refine A8 rfl (fun hc => ?_) (fun hc => ?_)
 ·try simp only [SD] at hc
  exact absurd hc (by simp)
 try simp only [SG, List.length_map] at hc
 refine B9 <| A5 <| A5 <| A0 <| B5 rfl rfl (by decide) rfl rfl <| B7 rfl rfl rfl rfl rfl rfl <| B5 rfl rfl (by decide) rfl rfl <| B7 rfl rfl rfl rfl rfl rfl <| K7 rfl rfl ?_
 refine A4 ⟨nofun, _, kS [2,3,19] [2,3] rfl, ?_⟩
 refine A8 rfl (fun hc => ?_) (fun hc => ?_)
 ·try simp only [SD] at hc
  exact absurd hc (by simp)
 try simp only [SG, List.length_map] at hc
 refine B9 <| A5 <| A5 <| A0 <| B5 rfl rfl (by decide) rfl rfl <| B7 rfl rfl rfl rfl rfl rfl <| B5 rfl rfl (by decide) rfl rfl <| B7 rfl rfl rfl rfl rfl rfl ?_
 apply D6 rfl
 ·apply B1
  ·exact B0 rfl
  apply B1
  ·exact B0 rfl
  exact D5
 ·exact r5 s.ns hs
 ·exact ⟨rfl, rfl, rfl, of_decide_eq_true rfl, rfl⟩
 ·exact .inl rfl
 ·exact C6
 ·exact C7 rfl
 ·exact fun _ => rfl
 intro g24
 refine G8 rfl ?_
 refine A4 ⟨nofun, _, kS [25] [] rfl, ?_⟩
 refine A8 rfl (fun hc => ?_) (fun hc => ?_)
 ·try simp only [SD] at hc
  exact absurd hc (by simp)
 try simp only [SG, List.length_map] at hc
 refine B9 <| A5 <| A0 <| A6 rfl rfl rfl ?_
 refine A4 ⟨nofun, _, kS [4] [] rfl, ?_⟩
 refine C4 <| C1 rfl rfl trivial ?_
 rfl

theorem keep_s_eqPlanStepS : G4 Try.f12 = [0, 1, 4, 10, 5, 14, 26] := by kernel_rfl
set_option maxHeartbeats 20000000 in
theorem a8i (ss : List Stp) (hz : ss.length ≤ 1048576 ∧ szT ss ≤ 1048576) : CW cxT 12 [.list (ss.map stA), .list (ss.map stA)] = some (bV true, []) := by
 refine G5 rfl Try.func12 rfl ⟨by kernel_rfl, rfl, of_decide_eq_true rfl, of_decide_eq_true rfl, by decide⟩ keep_s_eqPlanStepS <| A5 <| A0 <| A6 rfl rfl rfl ?_
 refine A4 ⟨nofun, _, kS [0,1] [] rfl, ?_⟩
 refine A5 <| A5 <| A0 <| A3 rfl rfl <| E3 rfl rfl <| A3 rfl rfl <| E3 rfl rfl <| K7 rfl rfl ?_
 refine A4 ⟨nofun, _, kS [0,1,10] [] rfl, ?_⟩
 refine A8 rfl (fun hc => ?_) (fun hc => ?_)
 ·try simp only [SD] at hc
  exact absurd trivial hc
 try simp only [SG, List.length_map] at hc
 refine B9 <| A5 <| A5 <| A0 <| A6 rfl rfl rfl ?_
 refine A4 ⟨nofun, _, kS [0,1,5] [] rfl, ?_⟩
 refine D3 <| G1 (β := Nat) [(.t 0, _), (.t 1, _)] (fun (i : Nat) => [(.t 5, iV i)]) (fun (i : Nat) => i ≤ ss.length) (fun (i : Nat) => ss.length - i) 0 ⟨rfl, rfl, rfl, trivial⟩ (Nat.zero_le _) ?_
 intro i hb
 have hi1 := hb
 refine A5 <| A5 <| A0 <| A3 rfl rfl <| A3 rfl rfl <| E3 rfl rfl <| G7 rfl rfl ?_
 refine A4 ⟨nofun, _, kS [0,1,5,14] [] rfl, ?_⟩
 refine A8 rfl (fun hc => ?_) (fun hc => ?_)
 ·try simp only [SG, List.length_map] at hc
  refine B9 <| A5 <| D3 <| A5 <| A0 <| A3 rfl rfl <| A3 rfl rfl <| C9 rfl rfl rfl (fun _ => rfl) (by omega) <| D7 rfl rfl rfl <| A3 rfl rfl <| A3 rfl rfl <| C9 rfl rfl rfl (fun _ => rfl) (by omega) <| D7 rfl rfl rfl ?_
  have hsz := a6q ss (show i < ss.length by omega)
  unfold szP at hsz
  apply D6 rfl
  ·apply B1
   ·exact B0 rfl
   apply B1
   ·exact B0 rfl
   exact D5
  ·exact b0v (ss.getD i default) (by omega)
  ·exact ⟨rfl, rfl, rfl, of_decide_eq_true rfl, rfl⟩
  ·exact .inl rfl
  ·exact C6
  ·exact C7 rfl
  ·exact fun _ => rfl
  intro g25
  refine G8 rfl ?_
  refine A4 ⟨fun _ => ⟨by decide +kernel, by decide +kernel⟩, [(.t 0, _), (.t 1, _), (.t 5, _), (.t 26, _)], ⟨rfl, rfl, rfl, rfl, rfl, rfl, rfl, rfl, trivial⟩, ?_⟩
  refine A8 rfl (fun hc => ?_) (fun hc => ?_)
  ·try simp only [SD] at hc
   exact absurd hc (by simp)
  try simp only [SG, List.length_map] at hc
  refine B9 <| A0 <| A3 rfl rfl <| D9 rfl rfl (C8 (by omega)) <| A6 rfl rfl rfl ?_
  refine A4 ⟨nofun, _, kS [0,1,5] [] rfl, ?_⟩
  refine ⟨i + 1, (by omega), (by omega), ⟨rfl, rfl, rfl, trivial⟩⟩
 try simp only [SG, List.length_map] at hc
 refine G6 <| A5 <| A0 <| A6 rfl rfl rfl ?_
 refine A4 ⟨nofun, _, kS [4] [] rfl, ?_⟩
 refine C4 <| C1 rfl rfl trivial ?_
 rfl

theorem keep_s_eqIntSS : G4 Try.f13 = [0, 1, 4, 10, 5, 14, 26] := by kernel_rfl
set_option maxHeartbeats 20000000 in
theorem b9p (ss : List (List Int)) (hz : ss.length ≤ 1048576 ∧ szR ss ≤ 1048576) : CW cxT 13 [M ss, M ss] = some (bV true, []) := by
 refine G5 rfl Try.func13 rfl ⟨by kernel_rfl, rfl, of_decide_eq_true rfl, of_decide_eq_true rfl, by decide⟩ keep_s_eqIntSS <| A5 <| A0 <| A6 rfl rfl rfl ?_
 refine A4 ⟨nofun, _, kS [0,1] [] rfl, ?_⟩
 refine A5 <| A5 <| A0 <| A3 rfl rfl <| E3 rfl rfl <| A3 rfl rfl <| E3 rfl rfl <| K7 rfl rfl ?_
 refine A4 ⟨nofun, _, kS [0,1,10] [] rfl, ?_⟩
 refine A8 rfl (fun hc => ?_) (fun hc => ?_)
 ·try simp only [SD] at hc
  exact absurd trivial hc
 try simp only [SG, List.length_map] at hc
 refine B9 <| A5 <| A5 <| A0 <| A6 rfl rfl rfl ?_
 refine A4 ⟨nofun, _, kS [0,1,5] [] rfl, ?_⟩
 refine D3 <| G1 (β := Nat) [(.t 0, _), (.t 1, _)] (fun (i : Nat) => [(.t 5, iV i)]) (fun (i : Nat) => i ≤ ss.length) (fun (i : Nat) => ss.length - i) 0 ⟨rfl, rfl, rfl, trivial⟩ (Nat.zero_le _) ?_
 intro i hb
 have hi1 := hb
 refine A5 <| A5 <| A0 <| A3 rfl rfl <| A3 rfl rfl <| E3 rfl rfl <| G7 rfl rfl ?_
 refine A4 ⟨nofun, _, kS [0,1,5,14] [] rfl, ?_⟩
 refine A8 rfl (fun hc => ?_) (fun hc => ?_)
 ·try simp only [SG, List.length_map] at hc
  refine B9 <| A5 <| D3 <| A5 <| A0 <| A3 rfl rfl <| A3 rfl rfl <| C9 rfl rfl rfl (fun _ => rfl) (by omega) <| D7 rfl rfl rfl <| A3 rfl rfl <| A3 rfl rfl <| C9 rfl rfl rfl (fun _ => rfl) (by omega) <| D7 rfl rfl rfl ?_
  have hsz := a9t ss (show i < ss.length by omega)
  apply D6 rfl
  ·apply B1
   ·exact B0 rfl
   apply B1
   ·exact B0 rfl
   exact D5
  ·exact r5 (ss.getD i default) (by omega)
  ·exact ⟨rfl, rfl, rfl, of_decide_eq_true rfl, rfl⟩
  ·exact .inl rfl
  ·exact C6
  ·exact C7 rfl
  ·exact fun _ => rfl
  intro g25
  refine G8 rfl ?_
  refine A4 ⟨fun _ => ⟨by decide +kernel, by decide +kernel⟩, [(.t 0, _), (.t 1, _), (.t 5, _), (.t 26, _)], ⟨rfl, rfl, rfl, rfl, rfl, rfl, rfl, rfl, trivial⟩, ?_⟩
  refine A8 rfl (fun hc => ?_) (fun hc => ?_)
  ·try simp only [SD] at hc
   exact absurd hc (by simp)
  try simp only [SG, List.length_map] at hc
  refine B9 <| A0 <| A3 rfl rfl <| D9 rfl rfl (C8 (by omega)) <| A6 rfl rfl rfl ?_
  refine A4 ⟨nofun, _, kS [0,1,5] [] rfl, ?_⟩
  refine ⟨i + 1, (by omega), (by omega), ⟨rfl, rfl, rfl, trivial⟩⟩
 try simp only [SG, List.length_map] at hc
 refine G6 <| A5 <| A0 <| A6 rfl rfl rfl ?_
 refine A4 ⟨nofun, _, kS [4] [] rfl, ?_⟩
 refine C4 <| C1 rfl rfl trivial ?_
 rfl

theorem keep_s_toIntSS : G4 Try.f9 = [0, 2, 4, 11, 3, 20] := by kernel_rfl
set_option maxHeartbeats 20000000 in
theorem x5 (ss : List (List Int)) (hz : ss.length ≤ 1048576 ∧ szR ss ≤ 1048576) : CW cxT 9 [M ss] = some (.own 1 (ss.map oI), []) := by
 refine G5 rfl Try.func9 rfl ⟨by kernel_rfl, rfl, of_decide_eq_true rfl, of_decide_eq_true rfl, by decide⟩ keep_s_toIntSS <| A5 <| A0 ?_
 (refine E7 rfl rfl (fun _ => rfl) ?_; intro g2)
 refine A4 ⟨nofun, _, kS [0] [] rfl, ?_⟩
 refine A5 <| A0 <| A3 rfl rfl <| E3 rfl rfl <| b7 (f := oN) (x0 := none) rfl rfl rfl rfl rfl (by simp only [H8]; omega) (by decide) (fun _ => C3 (by exact B4 w5)) (fun _ => rfl) ?_
 intro g7
 (refine C5 rfl rfl (by (simp; done)) rfl (fun _ => (C3 (by exact B4 w5))) (fun _ => rfl) ?_; intro g3)
 refine A4 ⟨nofun, _, kS [0,3] [3] rfl, ?_⟩
 refine A5 <| A5 <| A0 <| A6 rfl rfl rfl ?_
 refine A4 ⟨nofun, _, kS [0,3,4] [3] rfl, ?_⟩
 refine D3 <| G1 (β := Nat × List (Option (List Int))) [(.t 0, _), (.t 3, _)] (fun (z : Nat × List (Option (List Int))) => match z with | (i, opts) => [(.t 4, iV i), (.h 3, .obj g3 0 1 (opts.map oN))]) (fun (z : Nat × List (Option (List Int))) => match z with | (i, opts) => i ≤ ss.length ∧ opts.length = ss.length ∧ (∀ j, j < i → opts.getD j none = some (ss.getD j default)) ∧ ∀ j, i ≤ j → opts.getD j none = none) (fun (z : Nat × List (Option (List Int))) => match z with | (i, opts) => ss.length - i) (0, List.replicate ss.length none) ⟨rfl, rfl, rfl, rfl, trivial⟩ ⟨Nat.zero_le _, by simp, fun j h => by omega, fun j h => a9c _ _⟩ ?_
 intro z hb
 obtain ⟨i, opts⟩ := z
 try dsimp only at hb
 obtain ⟨hi1, hi2, hi3, hi4⟩ := hb
 refine A5 <| A5 <| A0 <| A3 rfl rfl <| A3 rfl rfl <| E3 rfl rfl <| G7 rfl rfl ?_
 refine A4 ⟨nofun, _, kS [0,3,4,11] [3] rfl, ?_⟩
 refine A8 rfl (fun hc => ?_) (fun hc => ?_)
 ·try simp only [SG, List.length_map] at hc
  refine B9 <| A5 <| D3 <| A0 <| A3 rfl rfl <| A3 rfl rfl <| A3 rfl rfl <| A3 rfl rfl <| C9 rfl rfl rfl (fun _ => rfl) (by omega) <| D7 rfl rfl rfl ?_
  have hsz := a9t ss (show i < ss.length by omega)
  apply D6 rfl
  ·apply B1
   ·exact B0 rfl
   exact D5
  ·exact b3y (ss.getD i default) (by omega)
  ·exact ⟨rfl, rfl, rfl, of_decide_eq_true rfl, rfl⟩
  ·exact .inl rfl
  ·exact C6
  ·exact I0
  ·(intro _; exact G3 (C3 (B4 fun _ => rfl)) rfl)
  intro g20
  simp only [List.length_map]
  refine E6 rfl rfl rfl rfl (by omega) (by (simp; omega)) rfl <| b4g rfl rfl rfl rfl (by simp) (by omega) (by exact hi4 _ (Nat.le_refl _)) rfl rfl (C3 (B4 w5)) ?_
  refine A4 ⟨nofun, _, kS [0,3,4] [3] rfl, ?_⟩
  refine A0 <| A3 rfl rfl <| D9 rfl rfl (C8 (by omega)) <| A6 rfl rfl rfl ?_
  refine A4 ⟨nofun, _, kS [0,3,4] [3] rfl, ?_⟩
  refine ⟨(i + 1, opts.set i (some (ss.getD i default))), ⟨by omega, by simp [hi2], fun j hj => by rw [y3 (by omega)]; by_cases e : j = i; (· rw [if_pos e, e]); (· rw [if_neg e]; exact hi3 j (by omega)), fun j hj => by rw [y3 (by omega), if_neg (by omega)]; exact hi4 j (by omega)⟩, (by simp only; omega), ⟨rfl, rfl, rfl, rfl, trivial⟩⟩
 try simp only [SG, List.length_map] at hc
 refine G6 <| A5 <| A0 <| A3 rfl rfl ?_
 (refine C5 rfl rfl (by (simp; omega)) rfl (fun _ => (C3 (by exact B4 w5))) (fun _ => rfl) ?_; intro g2)
 refine A4 ⟨nofun, _, kS [2] [2] rfl, ?_⟩
 refine C4 <| M2 rfl rfl (by (simp [hi2]; done)) (by exact B4 w5) trivial ?_
 rw [a9d hi2 fun j hj => hi3 j (by omega), c0v]

theorem keep_s_markText : G4 Try.f35 = [0, 2, 5, 7, 3] := by kernel_rfl
set_option maxHeartbeats 20000000 in
theorem b5a (k : Int) (hk : k ≤ 1000000000) : ∃ res outs, (fun res outs => ∃ s, res = sV s ∧ outs = []) res outs ∧ CW cxT 35 [iV k] = some (res, outs) := by
 have hb1 : ∀ b : UInt8, (⟨#[b]⟩ : ByteArray).size = 1 := fun _ => rfl
 refine N4 rfl Try.func35 rfl ⟨by kernel_rfl, rfl, of_decide_eq_true rfl, of_decide_eq_true rfl, by decide⟩ keep_s_markText <| A5 <| A0 <| A6 rfl rfl rfl ?_
 refine A4 ⟨nofun, _, kS [0] [] rfl, ?_⟩
 refine A5 <| A5 <| A0 <| A3 rfl rfl <| a0h rfl rfl ?_
 refine A4 ⟨nofun, _, kS [0,5] [] rfl, ?_⟩
 refine A8 rfl (fun hc => ?_) (fun hc => ?_)
 ·try simp only [SG, List.length_map] at hc
  refine A5 <| A0 <| A6 rfl rfl rfl ?_
  refine A4 ⟨nofun, _, kS [2] [] rfl, ?_⟩
  refine C4 ?_
  refine ⟨_, _, ?_, K4 rfl rfl H0⟩
  exact ⟨_, rfl, rfl⟩
 try simp only [SG, List.length_map] at hc
 refine B9 <| A5 <| A0 <| A6 rfl rfl rfl ?_
 refine A4 ⟨nofun, _, kS [0,3] [] rfl, ?_⟩
 refine A5 <| D3 <| b8a (β := Int × ByteArray) (fun (z : Int × ByteArray) => match z with | (q, s) => [(.t 0, iV q), (.t 3, sV s)]) (fun (z : Int × ByteArray) => match z with | (q, s) => 0 ≤ q ∧ q + s.size ≤ 1000000001) (fun (z : Int × ByteArray) => match z with | (q, s) => q.toNat) (k, ⟨#[]⟩) ⟨rfl, rfl, trivial⟩ ⟨by omega, by show k + ((0 : Nat) : Int) ≤ _; omega⟩ ?_
 intro z hb
 obtain ⟨q, s⟩ := z
 try dsimp only at hb
 obtain ⟨hq0, hq⟩ := hb
 refine A5 <| A5 <| A0 <| A3 rfl rfl <| Z4 rfl rfl ?_
 refine A4 ⟨nofun, _, kS [0,3,7] [] rfl, ?_⟩
 refine A8 rfl (fun hc => ?_) (fun hc => ?_)
 ·try simp only [SG, List.length_map] at hc
  refine B9 <| D3 <| A5 <| A0 <| A3 rfl rfl ?_
  have hm1 : 0 ≤ q.tmod 10 ∧ q.tmod 10 < 10 := ⟨Int.tmod_nonneg _ (by omega), Int.tmod_lt_of_pos _ (by decide)⟩
  have hd1 : q.tdiv 10 = q / 10 := Int.tdiv_eq_ediv_of_nonneg (by omega)
  refine c6i rfl rfl (by omega) <| D9 rfl rfl (C8 (by omega)) ?_
  refine b4r rfl rfl rfl (by constructor <;> simp [IntKind.min, IntKind.max, IntKind.signed, IntKind.bits] <;> omega) ?_
  refine F0 (es := List.map uV [_]) rfl rfl (by decide) rfl rfl (fun _ => C3 (B4 fun _ => rfl)) (fun _ => rfl) ?_
  intro g12
  refine c4e rfl rfl rfl rfl rfl rfl (by simp) (c5e (by omega)) <| A3 rfl rfl <| b9r rfl rfl (by rw [hb1]; simp only [H8]; omega) <| A6 rfl rfl rfl ?_
  refine A4 ⟨nofun, _, kS [0,3] [] rfl, ?_⟩
  refine A0 <| A3 rfl rfl <| c6e rfl rfl ⟨by omega, C8 (by omega)⟩ <| A6 rfl rfl rfl ?_
  refine A4 ⟨nofun, _, kS [0,3] [] rfl, ?_⟩
  refine ⟨(q.tdiv 10, _), ⟨by omega, by simp only [ByteArray.size_append, hb1]; omega⟩, (by simp only; omega), ⟨rfl, rfl, trivial⟩⟩
 try simp only [SG, List.length_map] at hc
 refine G6 <| A5 <| A0 <| A3 rfl rfl <| b9r rfl rfl (by rw [hb1]; simp only [H8]; omega) <| A6 rfl rfl rfl ?_
 refine A4 ⟨nofun, _, kS [2] [] rfl, ?_⟩
 refine C4 ?_
 refine ⟨_, _, ?_, K4 rfl rfl H0⟩
 exact ⟨_, rfl, rfl⟩

theorem keep_s_markIntS : G4 Try.f16 = [0, 1, 4, 5, 9] := by kernel_rfl
set_option maxHeartbeats 20000000 in
theorem a0x (xs : List Int) (hl : xs.length ≤ 1048576) (k : Int) (hk : 0 ≤ k ∧ k ≤ 1000000000) : ∃ res outs, (fun res outs => res = iV (k + xs.length) ∧ outs = [(mkI k xs.length).map iV]) res outs ∧ CW cxT 16 [.own 1 (xs.map iV), iV k] = some (res, outs) := by
 refine N4 rfl Try.func16 rfl ⟨by kernel_rfl, rfl, of_decide_eq_true rfl, of_decide_eq_true rfl, by decide⟩ keep_s_markIntS <| A5 <| A0 <| A6 rfl rfl rfl ?_
 refine A4 ⟨nofun, _, kS [0,1] [0] rfl, ?_⟩
 refine A5 <| A5 <| A0 <| A6 rfl rfl rfl ?_
 refine A4 ⟨nofun, _, kS [0,1,5] [0] rfl, ?_⟩
 refine D3 <| G1 (β := Nat × List Int × Int) [(.t 0, _)] (fun (z : Nat × List Int × Int) => match z with | (i, ys, q) => [(.t 5, iV i), (.t 1, iV q), (.h 0, .obj 1 1 1 (ys.map iV))]) (fun (z : Nat × List Int × Int) => match z with | (i, ys, q) => i ≤ xs.length ∧ ys.length = xs.length ∧ q = k + i ∧ ∀ j, j < i → ys.getD j default = k + j) (fun (z : Nat × List Int × Int) => match z with | (i, ys, q) => xs.length - i) (0, xs, k) ⟨rfl, rfl, rfl, rfl, trivial⟩ ⟨Nat.zero_le _, rfl, by simp, fun j h => by omega⟩ ?_
 intro z hb
 obtain ⟨i, ys, q⟩ := z
 try dsimp only at hb
 obtain ⟨hi1, hi2, hq, hi3⟩ := hb
 refine A5 <| A5 <| A0 <| A3 rfl rfl <| A3 rfl rfl <| K1 rfl rfl <| G7 rfl rfl ?_
 refine A4 ⟨nofun, _, kS [0,1,5,9] [0] rfl, ?_⟩
 refine A8 rfl (fun hc => ?_) (fun hc => ?_)
 ·try simp only [SG, List.length_map] at hc
  refine B9 <| A5 <| D3 <| A5 <| A0 <| A3 rfl rfl <| A3 rfl rfl <| A3 rfl rfl <| E6 rfl rfl rfl rfl (by (simp; omega)) (by (simp; omega)) rfl <| J0 rfl rfl rfl (by omega) (fun _ _ => ⟨rfl, rfl, of_decide_eq_true rfl, of_decide_eq_true rfl, rfl, rfl⟩) (by decide) (by exact a2c (B4 fun _ => rfl)) ?_
  refine A4 ⟨nofun, _, kS [0,1,5] [0] rfl, ?_⟩
  refine A0 <| A3 rfl rfl <| D9 rfl rfl (C8 (by omega)) <| A6 rfl rfl rfl ?_
  refine A4 ⟨nofun, _, kS [0,1,5] [0] rfl, ?_⟩
  refine A0 <| A3 rfl rfl <| D9 rfl rfl (C8 (by omega)) <| A6 rfl rfl rfl ?_
  refine A4 ⟨nofun, _, kS [0,1,5] [0] rfl, ?_⟩
  refine ⟨(i + 1, ys.set i q, q + 1), ⟨by omega, by simp [hi2], by omega, fun j hj => by rw [a8u (by omega)]; by_cases e : j = i; (· rw [if_pos e, e, hq]); (· rw [if_neg e]; exact hi3 j (by omega))⟩, (by simp only; omega), ⟨rfl, rfl, rfl, rfl, trivial⟩⟩
 try simp only [SG, List.length_map] at hc
 refine G6 <| A5 <| A0 <| A3 rfl rfl <| A6 rfl rfl rfl ?_
 refine A4 ⟨nofun, _, kS [4] [0] rfl, ?_⟩
 refine C4 ?_
 refine ⟨_, _, ?_, K4 rfl rfl (b2r rfl (P2 fun _ => rfl))⟩
 exact ⟨by rw [show q = k + (xs.length : Int) by omega], by rw [a9g (xs := ys) (ys := mkI k xs.length) (by simp [hi2]) fun j hj => by rw [hi3 j (by omega), b3q (by omega)]]⟩

theorem keep_s_markIntSS : G4 Try.f15 = [0, 1, 4, 5, 9] := by kernel_rfl
set_option maxHeartbeats 20000000 in
theorem b3o (ss : List (List Int)) (hz : ss.length ≤ 1048576 ∧ szR ss ≤ 1048576) (k : Int) (hk : 0 ≤ k ∧ k ≤ 100000000) : ∃ res outs, (fun res outs => ∃ r : Int, res = iV r ∧ outs = [] ∧ 0 ≤ r ∧ r ≤ k + szR ss) res outs ∧ CW cxT 15 [.own 1 (ss.map oI), iV k] = some (res, outs) := by
 refine N4 rfl Try.func15 rfl ⟨by kernel_rfl, rfl, of_decide_eq_true rfl, of_decide_eq_true rfl, by decide⟩ keep_s_markIntSS <| A5 <| A0 <| A6 rfl rfl rfl ?_
 refine A4 ⟨nofun, _, kS [0,1] [0] rfl, ?_⟩
 refine A5 <| A5 <| A0 <| A6 rfl rfl rfl ?_
 refine A4 ⟨nofun, _, kS [0,1,5] [0] rfl, ?_⟩
 refine D3 <| G1 (β := Nat × List (List Int) × Int) [(.t 0, _)] (fun (z : Nat × List (List Int) × Int) => match z with | (i, ys, q) => [(.t 5, iV i), (.t 1, iV q), (.h 0, .obj 1 0 1 (ys.map oI))]) (fun (z : Nat × List (List Int) × Int) => match z with | (i, ys, q) => i ≤ ss.length ∧ ys.length = ss.length ∧ 0 ≤ q ∧ q ≤ k + szR (ss.take i) ∧ ∀ j, (ys.getD j default).length = (ss.getD j default).length) (fun (z : Nat × List (List Int) × Int) => match z with | (i, ys, q) => ss.length - i) (0, ss, k) ⟨rfl, rfl, rfl, rfl, trivial⟩ ⟨Nat.zero_le _, rfl, by omega, by simp [szR], fun j => rfl⟩ ?_
 intro z hb
 obtain ⟨i, ys, q⟩ := z
 try dsimp only at hb
 obtain ⟨hi1, hi2, hq0, hq1, hns⟩ := hb
 have hst := fun h : i < ss.length => a7g ss h
 have hsl := b4y ss i
 have hsl1 := b4y ss (i + 1)
 refine A5 <| A5 <| A0 <| A3 rfl rfl <| A3 rfl rfl <| K1 rfl rfl <| G7 rfl rfl ?_
 refine A4 ⟨nofun, _, kS [0,1,5,9] [0] rfl, ?_⟩
 refine A8 rfl (fun hc => ?_) (fun hc => ?_)
 ·try simp only [SG, List.length_map] at hc
  refine B9 <| A5 <| D3 <| A0 <| A3 rfl rfl <| A3 rfl rfl <| E6 rfl rfl rfl rfl (by (simp; omega)) (by (simp; omega)) rfl <| Y8 rfl rfl (by omega) rfl rfl <| A3 rfl rfl ?_
  have hz1 := a9t ss (show i < ss.length by omega)
  have hn1 := hns i
  obtain ⟨_, _, ⟨rfl, rfl⟩, hM⟩ := a0x (ys.getD i default) (by omega) q (by omega)
  apply D6 rfl
  ·apply B1
   ·exact a9e rfl rfl (O1 (by omega) rfl) (by decide) (by (simp; done)) (P2 fun _ => rfl)
   apply B1
   ·exact B0 rfl
   exact D5
  ·exact hM
  ·exact ⟨rfl, rfl, rfl, of_decide_eq_true rfl, rfl⟩
  ·exact .inl rfl
  ·exact c1x rfl (by omega) (by simp)
  ·exact C7 rfl
  ·(intro _; exact G3 (C3 (B4 fun _ => rfl)) rfl)
  intro g17
  refine A6 rfl rfl rfl ?_
  refine A4 ⟨nofun, _, kS [0,1,5] [0] rfl, ?_⟩
  refine A0 <| A3 rfl rfl <| D9 rfl rfl (C8 (by omega)) <| A6 rfl rfl rfl ?_
  refine A4 ⟨nofun, _, kS [0,1,5] [0] rfl, ?_⟩
  refine ⟨(i + 1, ys.set i (mkI q (ys.getD i default).length), q + (ys.getD i default).length), ⟨by omega, by simp [hi2], by omega, by rw [hst (by omega)]; have := hns i; omega, fun j => by simp only [List.getD_eq_getElem?_getD, List.getElem?_set, List.length_set] at hns ⊢; have := hns j; by_cases e : i = j; (· subst e; simp_all [List.getD_eq_getElem?_getD]); (· simp_all)⟩, (by simp only; omega), ⟨rfl, rfl, rfl, rfl, trivial⟩⟩
 try simp only [SG, List.length_map] at hc
 refine G6 <| A5 <| A0 <| A3 rfl rfl <| A6 rfl rfl rfl ?_
 refine A4 ⟨nofun, _, kS [4] [0] rfl, ?_⟩
 refine C4 ?_
 refine ⟨_, _, ?_, K4 rfl rfl H0⟩
 exact ⟨q, rfl, rfl, hq0, by rw [List.take_of_length_le (by omega)] at hq1; omega⟩

theorem keep_s_markPlanStepS : G4 Try.f14 = [0, 1, 4, 5, 9, 15] := by kernel_rfl
set_option maxHeartbeats 20000000 in
theorem a4l (ss : List Stp) (hz : ss.length ≤ 1048576 ∧ szT ss ≤ 1048576) (k : Int) (hk : 0 ≤ k ∧ k ≤ 100000000) : ∃ res outs, (fun res outs => ∃ r : Int, res = iV r ∧ outs = [] ∧ 0 ≤ r ∧ r ≤ k + 3 * ss.length + szT ss) res outs ∧ CW cxT 14 [.own 4 (ss.map stO), iV k] = some (res, outs) := by
 refine N4 rfl Try.func14 rfl ⟨by kernel_rfl, rfl, of_decide_eq_true rfl, of_decide_eq_true rfl, by decide⟩ keep_s_markPlanStepS <| A5 <| A0 <| A6 rfl rfl rfl ?_
 refine A4 ⟨nofun, _, kS [0,1] [0] rfl, ?_⟩
 refine A5 <| A5 <| A0 <| A6 rfl rfl rfl ?_
 refine A4 ⟨nofun, _, kS [0,1,5] [0] rfl, ?_⟩
 refine D3 <| G1 (β := Nat × List Stp × Int) [(.t 0, _)] (fun (z : Nat × List Stp × Int) => match z with | (i, ys, q) => [(.t 5, iV i), (.t 1, iV q), (.h 0, .obj 1 0 4 (ys.map stO))]) (fun (z : Nat × List Stp × Int) => match z with | (i, ys, q) => i ≤ ss.length ∧ ys.length = ss.length ∧ 0 ≤ q ∧ q ≤ k + 3 * i + szT (ss.take i) ∧ ∀ j, (ys.getD j default).ns.length = (ss.getD j default).ns.length) (fun (z : Nat × List Stp × Int) => match z with | (i, ys, q) => ss.length - i) (0, ss, k) ⟨rfl, rfl, rfl, rfl, trivial⟩ ⟨Nat.zero_le _, rfl, by omega, by simp [szT], fun j => rfl⟩ ?_
 intro z hb
 obtain ⟨i, ys, q⟩ := z
 try dsimp only at hb
 obtain ⟨hi1, hi2, hq0, hq1, hns⟩ := hb
 have hst := fun h : i < ss.length => a6t ss h
 have hsl := b6g ss i
 have hsl1 := b6g ss (i + 1)
 refine A5 <| A5 <| A0 <| A3 rfl rfl <| A3 rfl rfl <| K1 rfl rfl <| G7 rfl rfl ?_
 refine A4 ⟨nofun, _, kS [0,1,5,9] [0] rfl, ?_⟩
 refine A8 rfl (fun hc => ?_) (fun hc => ?_)
 ·try simp only [SG, List.length_map] at hc
  refine B9 <| A5 <| D3 <| A5 <| A0 <| A3 rfl rfl <| A3 rfl rfl <| A3 rfl rfl ?_
  obtain ⟨_, _, ⟨s, rfl, rfl⟩, hC⟩ := b5a q (by omega)
  apply D6 rfl
  ·apply B1
   ·exact B0 rfl
   exact D5
  ·exact hC
  ·exact ⟨rfl, rfl, rfl, of_decide_eq_true rfl, rfl⟩
  ·exact .inl rfl
  ·exact C6
  ·exact C7 rfl
  ·exact fun _ => rfl
  intro g15
  refine E6 rfl rfl rfl rfl (by (simp; omega)) (by (simp; omega)) rfl <| B5 rfl rfl (by decide) rfl rfl <| l5 (y := ((ys.getD i default).sOp s)) rfl rfl rfl (by omega) rfl ⟨rfl, of_decide_eq_true rfl, of_decide_eq_true rfl, rfl⟩ (by decide) rfl (by exact C3 (B4 fun _ => rfl)) ?_
  refine A4 ⟨nofun, _, kS [0,1,5] [0] rfl, ?_⟩
  refine A5 <| A0 <| A3 rfl rfl <| D9 rfl rfl (C8 (by omega)) <| A6 rfl rfl rfl ?_
  refine A4 ⟨nofun, _, kS [0,1,5] [0] rfl, ?_⟩
  refine A5 <| A0 <| A3 rfl rfl <| A3 rfl rfl <| A3 rfl rfl <| E6 rfl rfl rfl rfl (by (simp; omega)) (by (simp; omega)) rfl <| B5 rfl rfl (by decide) rfl rfl <| l5 (y := (((ys.set i ((ys.getD i default).sOp s)).getD i default).sA (q + 1))) rfl rfl rfl (by (simp; omega)) rfl ⟨rfl, of_decide_eq_true rfl, of_decide_eq_true rfl, rfl⟩ (by decide) rfl (by exact C3 (B4 fun _ => rfl)) ?_
  refine A4 ⟨nofun, _, kS [0,1,5] [0] rfl, ?_⟩
  refine A5 <| A0 <| A3 rfl rfl <| D9 rfl rfl (C8 (by omega)) <| A6 rfl rfl rfl ?_
  refine A4 ⟨nofun, _, kS [0,1,5] [0] rfl, ?_⟩
  refine A5 <| A0 <| A3 rfl rfl <| A3 rfl rfl <| A3 rfl rfl <| E6 rfl rfl rfl rfl (by (simp; omega)) (by (simp; omega)) rfl <| B5 rfl rfl (by decide) rfl rfl <| l5 (y := ((((ys.set i ((ys.getD i default).sOp s)).set i (((ys.set i ((ys.getD i default).sOp s)).getD i default).sA (q + 1))).getD i default).sB (q + 1 + 1))) rfl rfl rfl (by (simp; omega)) rfl ⟨rfl, of_decide_eq_true rfl, of_decide_eq_true rfl, rfl⟩ (by decide) rfl (by exact C3 (B4 fun _ => rfl)) ?_
  refine A4 ⟨nofun, _, kS [0,1,5] [0] rfl, ?_⟩
  refine A5 <| A0 <| A3 rfl rfl <| D9 rfl rfl (C8 (by omega)) <| A6 rfl rfl rfl ?_
  refine A4 ⟨nofun, _, kS [0,1,5] [0] rfl, ?_⟩
  refine A0 <| A3 rfl rfl <| A3 rfl rfl <| E6 rfl rfl rfl rfl (by (simp; omega)) (by (simp; omega)) rfl <| B5 rfl rfl (by decide) rfl rfl <| b3p rfl rfl (by (simp; omega)) rfl rfl <| A3 rfl rfl ?_
  have hg3 : ((((ys.set i ((ys.getD i default).sOp s)).set i (((ys.set i ((ys.getD i default).sOp s)).getD i default).sA (q + 1))).set i ((((ys.set i ((ys.getD i default).sOp s)).set i (((ys.set i ((ys.getD i default).sOp s)).getD i default).sA (q + 1))).getD i default).sB (q + 1 + 1))).getD i default).ns.length = (ys.getD i default).ns.length := by simp [List.getD_eq_getElem?_getD, List.getElem?_set, show i < ys.length by omega]
  have hz1 := a6q ss (show i < ss.length by omega)
  unfold szP at hz1
  have hn1 := hns i
  obtain ⟨_, _, ⟨rfl, rfl⟩, hM⟩ := a0x ((((ys.set i ((ys.getD i default).sOp s)).set i (((ys.set i ((ys.getD i default).sOp s)).getD i default).sA (q + 1))).set i ((((ys.set i ((ys.getD i default).sOp s)).set i (((ys.set i ((ys.getD i default).sOp s)).getD i default).sA (q + 1))).getD i default).sB (q + 1 + 1))).getD i default).ns (by omega) (q + 1 + 1 + 1) (by omega)
  apply D6 rfl
  ·apply B1
   ·exact a9e rfl rfl (O1 (by simp; omega) rfl) (by decide) (by (simp; done)) (P2 fun _ => rfl)
   apply B1
   ·exact B0 rfl
   exact D5
  ·exact hM
  ·exact ⟨rfl, rfl, rfl, of_decide_eq_true rfl, rfl⟩
  ·exact .inl rfl
  ·exact c2y rfl (by simp; omega) (by simp)
  ·exact C7 rfl
  ·(intro _; exact G3 (C3 (B4 fun _ => rfl)) rfl)
  intro g40
  refine A6 rfl rfl rfl ?_
  refine A4 ⟨nofun, _, kS [0,1,5] [0] rfl, ?_⟩
  refine A0 <| A3 rfl rfl <| D9 rfl rfl (C8 (by omega)) <| A6 rfl rfl rfl ?_
  refine A4 ⟨nofun, _, kS [0,1,5] [0] rfl, ?_⟩
  refine ⟨(i + 1, (((ys.set i ((ys.getD i default).sOp s)).set i (((ys.set i ((ys.getD i default).sOp s)).getD i default).sA (q + 1))).set i ((((ys.set i ((ys.getD i default).sOp s)).set i (((ys.set i ((ys.getD i default).sOp s)).getD i default).sA (q + 1))).getD i default).sB (q + 1 + 1))).set i (((((ys.set i ((ys.getD i default).sOp s)).set i (((ys.set i ((ys.getD i default).sOp s)).getD i default).sA (q + 1))).set i ((((ys.set i ((ys.getD i default).sOp s)).set i (((ys.set i ((ys.getD i default).sOp s)).getD i default).sA (q + 1))).getD i default).sB (q + 1 + 1))).getD i default).sN (mkI (q + 1 + 1 + 1) ((((ys.set i ((ys.getD i default).sOp s)).set i (((ys.set i ((ys.getD i default).sOp s)).getD i default).sA (q + 1))).set i ((((ys.set i ((ys.getD i default).sOp s)).set i (((ys.set i ((ys.getD i default).sOp s)).getD i default).sA (q + 1))).getD i default).sB (q + 1 + 1))).getD i default).ns.length)), q + 1 + 1 + 1 + ((((ys.set i ((ys.getD i default).sOp s)).set i (((ys.set i ((ys.getD i default).sOp s)).getD i default).sA (q + 1))).set i ((((ys.set i ((ys.getD i default).sOp s)).set i (((ys.set i ((ys.getD i default).sOp s)).getD i default).sA (q + 1))).getD i default).sB (q + 1 + 1))).getD i default).ns.length), ⟨by omega, by simp [hi2], by omega, by rw [hst (by omega)]; unfold szP; rw [hg3]; have := hns i; omega, fun j => by simp only [List.getD_eq_getElem?_getD, List.getElem?_set, List.length_set] at hns ⊢; have := hns j; by_cases e : i = j; (· subst e; simp_all [List.getD_eq_getElem?_getD]); (· simp_all)⟩, (by simp only; omega), ⟨rfl, rfl, rfl, rfl, trivial⟩⟩
 try simp only [SG, List.length_map] at hc
 refine G6 <| A5 <| A0 <| A3 rfl rfl <| A6 rfl rfl rfl ?_
 refine A4 ⟨nofun, _, kS [4] [0] rfl, ?_⟩
 refine C4 ?_
 refine ⟨_, _, ?_, K4 rfl rfl H0⟩
 exact ⟨q, rfl, rfl, hq0, by rw [List.take_of_length_le (by omega)] at hq1; omega⟩

theorem keep_s_heldIntS : G4 Try.f17 = [0, 1, 4, 5, 9, 17] := by kernel_rfl
set_option maxHeartbeats 20000000 in
theorem a5u (n : Nat) (hl : n ≤ 1048576) (k : Int) (hk : 0 ≤ k ∧ k ≤ 1000000000) : CW cxT 17 [L (mkI k n), iV k] = some (iV (k + n), []) := by
 have hml := b6f k n
 refine G5 rfl Try.func17 rfl ⟨by kernel_rfl, rfl, of_decide_eq_true rfl, of_decide_eq_true rfl, by decide⟩ keep_s_heldIntS <| A5 <| A0 <| A6 rfl rfl rfl ?_
 refine A4 ⟨nofun, _, kS [0,1] [] rfl, ?_⟩
 refine A5 <| A5 <| A0 <| A6 rfl rfl rfl ?_
 refine A4 ⟨nofun, _, kS [0,1,5] [] rfl, ?_⟩
 refine D3 <| G1 (β := Nat × Int) [(.t 0, _)] (fun (z : Nat × Int) => match z with | (i, q) => [(.t 5, iV i), (.t 1, iV q)]) (fun (z : Nat × Int) => match z with | (i, q) => i ≤ n ∧ q = k + i) (fun (z : Nat × Int) => match z with | (i, q) => n - i) (0, k) ⟨rfl, rfl, rfl, trivial⟩ ⟨Nat.zero_le _, by simp⟩ ?_
 intro z hb
 obtain ⟨i, q⟩ := z
 try dsimp only at hb
 obtain ⟨hi1, hq⟩ := hb
 have hgi : i < n → (mkI k n).getD i default = q := fun h => by rw [hq]; exact b3q (k := k) h
 refine A5 <| A5 <| A0 <| A3 rfl rfl <| A3 rfl rfl <| E3 rfl rfl <| G7 rfl rfl ?_
 refine A4 ⟨nofun, _, kS [0,1,5,9] [] rfl, ?_⟩
 refine A8 rfl (fun hc => ?_) (fun hc => ?_)
 ·try simp only [SG, List.length_map] at hc
  refine B9 <| A5 <| D3 <| A5 <| A5 <| A0 <| A3 rfl rfl <| A3 rfl rfl <| C9 rfl rfl rfl (fun _ => rfl) (by omega) <| D7 rfl rfl rfl <| A3 rfl rfl <| K7 rfl rfl ?_
  refine A4 ⟨nofun, _, kS [0,1,5,17] [] rfl, ?_⟩
  refine A8 rfl (fun hc => ?_) (fun hc => ?_)
  ·try simp only [SD] at hc
   exact absurd (by (rw [hgi (by omega)]; done)) hc
  try simp only [SG, List.length_map] at hc
  refine B9 <| A0 <| A3 rfl rfl <| D9 rfl rfl (C8 (by omega)) <| A6 rfl rfl rfl ?_
  refine A4 ⟨nofun, _, kS [0,1,5] [] rfl, ?_⟩
  refine A0 <| A3 rfl rfl <| D9 rfl rfl (C8 (by omega)) <| A6 rfl rfl rfl ?_
  refine A4 ⟨nofun, _, kS [0,1,5] [] rfl, ?_⟩
  refine ⟨(i + 1, q + 1), ⟨by omega, by omega⟩, (by simp only; omega), ⟨rfl, rfl, rfl, trivial⟩⟩
 try simp only [SG, List.length_map] at hc
 refine G6 <| A5 <| A0 <| A3 rfl rfl <| A6 rfl rfl rfl ?_
 refine A4 ⟨nofun, _, kS [4] [] rfl, ?_⟩
 refine C4 <| C1 rfl rfl trivial ?_
 rw [show q = k + (n : Int) by omega]

theorem keep_s_toPlanStep : G4 Try.f27 = [0, 2, 3, 1, 15] := by kernel_rfl
set_option maxHeartbeats 20000000 in
theorem a9w (s : Stp) (hs : s.ns.length ≤ 1048576) : CW cxT 27 [stA s] = some (stO s, []) := by
 refine G5 rfl Try.func27 rfl ⟨by kernel_rfl, rfl, of_decide_eq_true rfl, of_decide_eq_true rfl, by decide⟩ keep_s_toPlanStep <| A5 <| A0 <| a8z rfl rfl rfl (fun _ => J7 rfl) (fun _ => rfl) ?_
 intro g1
 refine z6 rfl (fun _ => J7 rfl) (fun _ => rfl) ?_
 intro g2
 refine A4 ⟨nofun, _, kS [1,2] [1,2] rfl, ?_⟩
 refine A5 <| A0 <| z6 rfl (fun _ => J7 rfl) (fun _ => rfl) ?_
 intro g3
 refine A4 ⟨nofun, _, kS [1,2,3] [1,2,3] rfl, ?_⟩
 refine A5 <| A0 <| B5 rfl rfl (by decide) rfl rfl <| B7 rfl rfl rfl rfl rfl rfl <| B5 rfl rfl (by decide) rfl rfl <| z8 rfl rfl rfl rfl rfl ⟨by decide, rfl, of_decide_eq_true rfl, of_decide_eq_true rfl, rfl⟩ (by exact J7 rfl) ?_
 refine A4 ⟨nofun, _, kS [1,2,3] [1,2,3] rfl, ?_⟩
 refine A5 <| A0 <| B5 rfl rfl (by decide) rfl rfl <| B7 rfl rfl rfl rfl rfl rfl <| B5 rfl rfl (by decide) rfl rfl <| z8 rfl rfl rfl rfl rfl ⟨by decide, rfl, of_decide_eq_true rfl, of_decide_eq_true rfl, rfl⟩ (by exact J7 rfl) ?_
 refine A4 ⟨nofun, _, kS [1,2,3] [1,2,3] rfl, ?_⟩
 refine A5 <| A0 <| B5 rfl rfl (by decide) rfl rfl <| B7 rfl rfl rfl rfl rfl rfl <| B5 rfl rfl (by decide) rfl rfl <| z8 rfl rfl rfl rfl rfl ⟨by decide, rfl, of_decide_eq_true rfl, of_decide_eq_true rfl, rfl⟩ (by exact J7 rfl) ?_
 refine A4 ⟨nofun, _, kS [1,2,3] [1,2,3] rfl, ?_⟩
 refine A5 <| A0 <| B5 rfl rfl (by decide) rfl rfl <| B7 rfl rfl rfl rfl rfl rfl ?_
 apply D6 rfl
 ·apply B1
  ·exact B0 rfl
  exact D5
 ·exact b3y s.ns hs
 ·exact ⟨rfl, rfl, rfl, of_decide_eq_true rfl, rfl⟩
 ·exact .inl rfl
 ·exact C6
 ·exact I0
 ·(intro _; exact G3 (C3 (B4 fun _ => rfl)) rfl)
 intro g15
 simp only [List.length_map]
 refine B5 rfl rfl (by decide) rfl rfl <| b1d rfl rfl rfl rfl rfl (Nat.le_refl _) rfl ?_
 refine A4 ⟨nofun, _, kS [2,3] [2,3,1000015] rfl, ?_⟩
 refine A5 <| A0 <| b1v rfl rfl rfl rfl rfl <| a3t rfl rfl rfl rfl (a2g rfl (a2g rfl (a2g rfl (c4j (ys := s.ns.map iV) (by decide) (by decide) rfl (by simp) fun _ => c0e)))) (fun _ => rfl) ⟨by decide, rfl, of_decide_eq_true rfl, Nat.le_refl _⟩ (fun _ => rfl) (fun _ => rfl) (fun _ => G3 (by rfl) (G3 (C3 (B4 fun _ => rfl)) (by rfl))) ?_
 intro z
 simp only [s7, List.cons_append, List.nil_append]
 refine A4 ⟨nofun, _, kS [2] [2,400002] rfl, ?_⟩
 refine C4 <| M6 (c0w rfl rfl rfl rfl (b5c rfl (b5c rfl (b5c rfl (c5l rfl rfl (by simp) (B4 fun _ => rfl) c5h)))) (O7 H0)) ?_
 rfl

theorem keep_s_toPlanStepS : G4 Try.f8 = [0, 2, 4, 11, 3, 20] := by kernel_rfl
set_option maxHeartbeats 20000000 in
theorem W0 (ss : List Stp) (hz : ss.length ≤ 1048576 ∧ szT ss ≤ 1048576) : CW cxT 8 [.list (ss.map stA)] = some (.own 4 (ss.map stO), []) := by
 refine G5 rfl Try.func8 rfl ⟨by kernel_rfl, rfl, of_decide_eq_true rfl, of_decide_eq_true rfl, by decide⟩ keep_s_toPlanStepS <| A5 <| A0 ?_
 (refine E7 rfl rfl (fun _ => rfl) ?_; intro g2)
 refine A4 ⟨nofun, _, kS [0] [] rfl, ?_⟩
 refine A5 <| A0 <| A3 rfl rfl <| E3 rfl rfl <| b7 (f := stN) (x0 := none) rfl rfl rfl rfl rfl (by simp only [H8]; omega) (by decide) (fun _ => C3 (by exact B4 e8)) (fun _ => rfl) ?_
 intro g7
 (refine C5 rfl rfl (by (simp; done)) rfl (fun _ => (C3 (by exact B4 e8))) (fun _ => rfl) ?_; intro g3)
 refine A4 ⟨nofun, _, kS [0,3] [3] rfl, ?_⟩
 refine A5 <| A5 <| A0 <| A6 rfl rfl rfl ?_
 refine A4 ⟨nofun, _, kS [0,3,4] [3] rfl, ?_⟩
 refine D3 <| G1 (β := Nat × List (Option Stp)) [(.t 0, _), (.t 3, _)] (fun (z : Nat × List (Option Stp)) => match z with | (i, opts) => [(.t 4, iV i), (.h 3, .obj g3 0 4 (opts.map stN))]) (fun (z : Nat × List (Option Stp)) => match z with | (i, opts) => i ≤ ss.length ∧ opts.length = ss.length ∧ (∀ j, j < i → opts.getD j none = some (ss.getD j default)) ∧ ∀ j, i ≤ j → opts.getD j none = none) (fun (z : Nat × List (Option Stp)) => match z with | (i, opts) => ss.length - i) (0, List.replicate ss.length none) ⟨rfl, rfl, rfl, rfl, trivial⟩ ⟨Nat.zero_le _, by simp, fun j h => by omega, fun j h => a9c _ _⟩ ?_
 intro z hb
 obtain ⟨i, opts⟩ := z
 try dsimp only at hb
 obtain ⟨hi1, hi2, hi3, hi4⟩ := hb
 refine A5 <| A5 <| A0 <| A3 rfl rfl <| A3 rfl rfl <| E3 rfl rfl <| G7 rfl rfl ?_
 refine A4 ⟨nofun, _, kS [0,3,4,11] [3] rfl, ?_⟩
 refine A8 rfl (fun hc => ?_) (fun hc => ?_)
 ·try simp only [SG, List.length_map] at hc
  refine B9 <| A5 <| D3 <| A0 <| A3 rfl rfl <| A3 rfl rfl <| A3 rfl rfl <| A3 rfl rfl <| C9 rfl rfl rfl (fun _ => rfl) (by omega) <| D7 rfl rfl rfl ?_
  have hsz := a6q ss (show i < ss.length by omega)
  unfold szP at hsz
  apply D6 rfl
  ·apply B1
   ·exact B0 rfl
   exact D5
  ·exact a9w (ss.getD i default) (by omega)
  ·exact ⟨rfl, rfl, rfl, of_decide_eq_true rfl, rfl⟩
  ·exact .inl rfl
  ·exact C6
  ·exact c0p (b4t rfl (b4t rfl (b4t rfl (c5y fun _ => c5a))))
  ·exact fun _ => G3 (C3 (B4 fun _ => rfl)) (by rfl)
  intro g20
  simp only [List.length_map]
  refine E6 rfl rfl rfl rfl (by omega) (by (simp; omega)) rfl ?_
  have hnl : (opts.map stN)[i]? = some (stN none) := c4u (by omega) (hi4 i (Nat.le_refl _))
  have hset : (opts.map stN).set i (stO (ss.getD i default)) = (opts.set i (some (ss.getD i default))).map stN := by rw [List.map_set]; rfl
  refine a3t rfl rfl rfl hnl (a2g rfl (a2g rfl (a2g rfl (c3h (ys := (ss.getD i default).ns.map iV) rfl (by simp) (P2 fun _ => rfl) rfl c0e)))) (fun _ => rfl) ⟨by decide, rfl, of_decide_eq_true rfl, Nat.le_refl _⟩ (fun _ => rfl) (fun _ => rfl) (fun _ => by rw [hset]; exact G3 (by rfl) (G3 (C3 (B4 e8)) (by rfl))) ?_
  intro z
  simp only [s7, List.cons_append, List.nil_append]
  rw [hset]
  refine A4 ⟨nofun, _, kS [0,3,4] [3] rfl, ?_⟩
  refine A0 <| A3 rfl rfl <| D9 rfl rfl (C8 (by omega)) <| A6 rfl rfl rfl ?_
  refine A4 ⟨nofun, _, kS [0,3,4] [3] rfl, ?_⟩
  refine ⟨(i + 1, opts.set i (some (ss.getD i default))), ⟨by omega, by simp [hi2], fun j hj => by rw [y3 (by omega)]; by_cases e : j = i; (· rw [if_pos e, e]); (· rw [if_neg e]; exact hi3 j (by omega)), fun j hj => by rw [y3 (by omega), if_neg (by omega)]; exact hi4 j (by omega)⟩, (by simp only; omega), ⟨rfl, rfl, rfl, rfl, trivial⟩⟩
 try simp only [SG, List.length_map] at hc
 refine G6 <| A5 <| A0 <| A3 rfl rfl ?_
 (refine C5 rfl rfl (by (simp; omega)) rfl (fun _ => (C3 (by exact B4 e8))) (fun _ => rfl) ?_; intro g2)
 refine A4 ⟨nofun, _, kS [2] [2] rfl, ?_⟩
 refine C4 <| M2 rfl rfl (by (simp [hi2]; done)) (by exact B4 e8) trivial ?_
 rw [a9d hi2 fun j hj => hi3 j (by omega), c1y]

theorem keep_s_stepsValid : G4 Try.f29 = [0, 2, 10, 9, 11, 8, 4, 5, 36, 43, 42, 44, 41, 7, 6, 3, 66] := by kernel_rfl
set_option maxHeartbeats 20000000 in
theorem b0g (ss : List Stp) (hz : ss.length ≤ 1048576 ∧ szT ss ≤ 1048576) : CW cxT 29 [.list (ss.map stA)] = some (bV (r9 ss), []) := by
 refine G5 rfl Try.func29 rfl ⟨by kernel_rfl, rfl, of_decide_eq_true rfl, of_decide_eq_true rfl, by decide⟩ keep_s_stepsValid <| A5 <| A0 <| A6 rfl rfl rfl ?_
 refine A4 ⟨nofun, _, kS [0] [] rfl, ?_⟩
 refine A5 <| A5 <| A0 <| A3 rfl rfl <| E3 rfl rfl <| A3 rfl rfl ?_
 refine A4 ⟨nofun, _, kS [0,8,9,10] [] rfl, ?_⟩
 refine D3 <| G1 (β := Nat) [(.t 0, _), (.t 8, _), (.t 9, _)] (fun (i : Nat) => [(.t 10, iV i)]) (fun (i : Nat) => i ≤ ss.length ∧ ∀ j, j < i → sok j (ss.getD j default) = true) (fun (i : Nat) => ss.length - i) 0 ⟨rfl, rfl, rfl, rfl, trivial⟩ ⟨Nat.zero_le _, fun j h => by omega⟩ ?_
 intro i hb
 obtain ⟨hi1, hi2⟩ := hb
 have hnb := a9k (ss.getD i default).op
 have hsz := fun h : i < ss.length => a6q ss h
 unfold szP at hsz
 refine A5 <| A0 <| G7 rfl rfl ?_
 refine A4 ⟨nofun, _, kS [0,8,9,10,11] [] rfl, ?_⟩
 refine A5 ?_
 refine A8 rfl (fun hc => ?_) (fun hc => ?_)
 ·try simp only [SG, List.length_map] at hc
  refine B9 <| A5 <| D3 <| A5 <| A0 <| A3 rfl rfl <| C9 rfl rfl rfl (fun _ => rfl) (by omega) <| D7 rfl rfl rfl <| z6 rfl (fun _ => J7 rfl) (fun _ => rfl) ?_
  intro g4
  refine A6 rfl rfl rfl <| X7 rfl rfl rfl rfl ⟨by decide, rfl, of_decide_eq_true rfl, of_decide_eq_true rfl, rfl⟩ rfl (by exact J7 rfl) ?_
  refine A4 ⟨nofun, _, kS [0,3,4,8,9,10] [4] rfl, ?_⟩
  refine A5 <| A0 <| B5 rfl rfl (by decide) rfl rfl <| B7 rfl rfl rfl rfl rfl rfl ?_
  apply D6 rfl
  ·apply B1
   ·exact B0 rfl
   exact D5
  ·exact b6p (ss.getD i default).op
  ·exact ⟨rfl, rfl, rfl, of_decide_eq_true rfl, rfl⟩
  ·exact .inl rfl
  ·exact C6
  ·exact C7 rfl
  ·exact fun _ => rfl
  intro g17
  refine A6 rfl rfl rfl ?_
  refine A4 ⟨nofun, _, kS [0,3,4,5,8,9,10] [4] rfl, ?_⟩
  refine A5 <| A5 <| A0 <| A3 rfl rfl <| G7 rfl rfl <| A3 rfl rfl ?_
  refine B3 rfl rfl (fun hg0 => ?_) (fun hg0 => ?_)
  ·have hg := hg0; try simp only [SG] at hg
   refine B5 rfl rfl (by decide) rfl rfl <| gT rfl rfl <| B7 rfl rfl rfl rfl rfl rfl <| gT rfl rfl <| a3m rfl rfl <| gT rfl rfl <| A3 rfl rfl ?_
   refine B3 rfl rfl (fun hg0 => ?_) (fun hg0 => ?_)
   ·have hg := hg0; try simp only [SG] at hg
    refine B5 rfl rfl (by decide) rfl rfl <| gT rfl rfl <| B7 rfl rfl rfl rfl rfl rfl <| gT rfl rfl <| E3 rfl rfl <| gT rfl rfl <| Z4 rfl rfl <| gT rfl rfl <| C0 rfl (by assumption) rfl rfl <| B6 rfl (by assumption) rfl rfl <| A3 rfl rfl ?_
    refine B3 rfl rfl (fun hg0 => ?_) (fun hg0 => ?_)
    ·have hg := hg0; try simp only [SG] at hg
     refine B5 rfl rfl (by decide) rfl rfl <| gT rfl rfl <| B7 rfl rfl rfl rfl rfl rfl <| gT rfl rfl ?_
     apply D6 rfl
     ·apply B1
      ·exact B0 rfl
      exact D5
     ·exact n3 (ss.getD i default).ns (by have := hsz (by omega); omega)
     ·exact ⟨rfl, rfl, rfl, of_decide_eq_true rfl, rfl⟩
     ·exact .inl rfl
     ·exact C6
     ·exact C7 rfl
     ·exact fun _ => rfl
     intro g34
     refine gT rfl rfl <| G8 rfl <| B6 rfl (by assumption) rfl rfl ?_
     refine A4 ⟨nofun, _, kS [0,3,4,5,8,9,10,36] [4] rfl, ?_⟩
     refine A8 rfl (fun hc => ?_) (fun hc => ?_)
     ·try simp only [SG, List.length_map] at hc
      refine A5 <| A0 <| A6 rfl rfl rfl ?_
      refine A4 ⟨nofun, _, kS [2] [] rfl, ?_⟩
      refine C4 <| C1 rfl rfl trivial ?_
      exact congrArg bV (D8 (i := i) (by omega) (c4 (by exact .inr (.inr (by assumption))))).symm
     try simp only [SG, List.length_map] at hc
     refine B9 <| A5 <| A0 <| B5 rfl rfl (by decide) rfl rfl <| B7 rfl rfl rfl rfl rfl rfl <| B5 rfl rfl (by decide) rfl rfl <| B7 rfl rfl rfl rfl rfl rfl <| F0 (es := List.map iV [(ss.getD i default).a, (ss.getD i default).b]) rfl rfl (by decide) rfl rfl (fun _ => C3 (B4 fun _ => rfl)) (fun _ => rfl) ?_
     intro g41
     refine K1 rfl rfl <| A3 rfl rfl ?_
     refine A4 ⟨nofun, _, kS [0,3,5,8,9,10,41,42,43] [1000041] rfl, ?_⟩
     refine D3 <| G1 (β := Nat) [(.t 0, _), (.t 3, _), (.t 5, _), (.t 8, _), (.t 9, _), (.t 10, _), (.t 41, _), (.t 42, _), (.h 1000041, _)] (fun (k : Nat) => [(.t 43, iV k)]) (fun (k : Nat) => k ≤ 2 ∧ ∀ j : Nat, j < k → P1 (nd (ss.getD i default).op) j i ([(ss.getD i default).a, (ss.getD i default).b].getD j default) = true) (fun (k : Nat) => 2 - k) 0 ⟨rfl, rfl, rfl, rfl, rfl, rfl, rfl, rfl, rfl, rfl, trivial⟩ ⟨Nat.zero_le _, fun j h => by omega⟩ ?_
     intro k hb
     obtain ⟨hk1, hk2⟩ := hb
     refine A5 <| A0 <| G7 rfl rfl ?_
     refine A4 ⟨nofun, _, kS [0,3,5,8,9,10,41,42,43,44] [1000041] rfl, ?_⟩
     refine A5 ?_
     refine A8 rfl (fun hc => ?_) (fun hc => ?_)
     ·try simp only [SG, List.length_map] at hc
      refine B9 <| A5 <| D3 <| A5 <| A0 <| A3 rfl rfl <| E6 rfl rfl rfl rfl (by omega) (by (simp; done)) rfl <| I3 (f := iV) (xs := [(ss.getD i default).a, (ss.getD i default).b]) rfl rfl (by (simp; omega)) (fun _ => rfl) (fun _ => rfl) rfl <| A6 rfl rfl rfl <| A6 rfl rfl rfl ?_
      refine A4 ⟨nofun, _, kS [0,3,5,6,7,8,9,10,41,42,43] [1000041] rfl, ?_⟩
      refine A5 <| A0 <| A3 rfl rfl <| A3 rfl rfl <| G7 rfl rfl <| A3 rfl rfl ?_
      refine B3 rfl rfl (fun hg0 => ?_) (fun hg0 => ?_)
      ·have hg := hg0; try simp only [SG] at hg
       refine A3 rfl rfl <| gT rfl rfl <| A3 rfl rfl <| gT rfl rfl <| H6 rfl rfl (C8 (by omega)) <| gT rfl rfl ?_
       apply D6 rfl
       ·apply B1
        ·exact B0 rfl
        apply B1
        ·exact B0 rfl
        apply B1
        ·exact B0 rfl
        exact D5
       ·exact c3x _ _ _
       ·exact ⟨rfl, rfl, rfl, of_decide_eq_true rfl, rfl⟩
       ·exact .inl rfl
       ·exact C6
       ·exact C7 rfl
       ·exact fun _ => rfl
       intro g55
       refine gT rfl rfl <| G8 rfl <| C0 rfl (by assumption) rfl rfl <| A3 rfl rfl ?_
       refine B3 rfl rfl (fun hg0 => ?_) (fun hg0 => ?_)
       ·have hg := hg0; try simp only [SG] at hg
        refine A3 rfl rfl <| gT rfl rfl <| A3 rfl rfl <| gT rfl rfl <| r8 rfl rfl <| gT rfl rfl <| A3 rfl rfl ?_
        refine B3 rfl rfl (fun hg0 => ?_) (fun hg0 => ?_)
        ·have hg := hg0; try simp only [SG] at hg
         refine A3 rfl rfl <| gT rfl rfl <| K7 rfl rfl <| gT rfl rfl <| C0 rfl (by assumption) rfl rfl <| B6 rfl (by assumption) rfl rfl ?_
         refine A4 ⟨nofun, _, kS [0,3,5,8,9,10,41,42,43,66] [1000041] rfl, ?_⟩
         refine A8 rfl (fun hc => ?_) (fun hc => ?_)
         ·try simp only [SG, List.length_map] at hc
          refine A5 <| A0 <| A6 rfl rfl rfl ?_
          refine A4 ⟨nofun, _, kS [2] [] rfl, ?_⟩
          refine C4 <| C1 rfl rfl trivial ?_
          exact congrArg bV (D8 (i := i) (by omega) (V7 (k := k) (by omega) (by exact d8 (by assumption) (by assumption)))).symm
         try simp only [SG, List.length_map] at hc
         refine B9 <| A0 <| D9 rfl rfl (C8 (by omega)) <| A3 rfl rfl ?_
         refine A4 ⟨nofun, _, kS [0,3,5,8,9,10,41,42,43] [1000041] rfl, ?_⟩
         refine ⟨k + 1, ⟨by omega, fun j hj => by rcases Nat.lt_succ_iff_lt_or_eq.1 hj with h | h; (· exact hk2 j h); (· subst h; exact d7 (by assumption) (by assumption))⟩, (by omega), ⟨rfl, rfl, rfl, rfl, rfl, rfl, rfl, rfl, rfl, rfl, trivial⟩⟩
        have hg := hg0; try simp only [SG] at hg
        refine gF rfl rfl <| gT rfl rfl <| B6 rfl (by assumption) rfl rfl <| B6 rfl (by assumption) rfl rfl ?_
        refine A4 ⟨nofun, _, kS [0,3,5,8,9,10,41,42,43,66] [1000041] rfl, ?_⟩
        refine A8 rfl (fun hc => absurd hc (by decide)) (fun hc => ?_)
        refine B9 <| A0 <| D9 rfl rfl (C8 (by omega)) <| A3 rfl rfl ?_
        refine A4 ⟨nofun, _, kS [0,3,5,8,9,10,41,42,43] [1000041] rfl, ?_⟩
        refine ⟨k + 1, ⟨by omega, fun j hj => by rcases Nat.lt_succ_iff_lt_or_eq.1 hj with h | h; (· exact hk2 j h); (· subst h; exact i3 (by omega) (by omega))⟩, (by omega), ⟨rfl, rfl, rfl, rfl, rfl, rfl, rfl, rfl, rfl, rfl, trivial⟩⟩
       have hg := hg0; try simp only [SG] at hg
       refine gF rfl rfl <| gF rfl rfl <| gF rfl rfl <| A7 rfl rfl <| A7 rfl rfl <| gF rfl rfl <| C0 rfl (by assumption) rfl rfl ?_
       refine A4 ⟨nofun, _, kS [0,3,5,8,9,10,41,42,43,66] [1000041] rfl, ?_⟩
       refine A8 rfl (fun hc => ?_) (fun hc => absurd hc (by decide))
       refine A5 <| A0 <| A6 rfl rfl rfl ?_
       refine A4 ⟨nofun, _, kS [2] [] rfl, ?_⟩
       refine C4 <| C1 rfl rfl trivial ?_
       exact congrArg bV (D8 (i := i) (by omega) (V7 (k := k) (by omega) (by exact x6 (by omega) (by omega)))).symm
      have hg := hg0; try simp only [SG] at hg
      refine gF rfl rfl <| gF rfl rfl <| gF rfl rfl <| gF rfl rfl <| B6 rfl (by assumption) rfl rfl <| A3 rfl rfl <| B8 rfl rfl rfl <| A3 rfl rfl <| B8 rfl rfl rfl <| A3 rfl rfl <| B8 rfl rfl rfl <| r8 rfl rfl <| B8 rfl rfl rfl <| A3 rfl rfl ?_
      refine B3 rfl rfl (fun hg0 => ?_) (fun hg0 => ?_)
      ·have hg := hg0; try simp only [SG] at hg
       refine A3 rfl rfl <| gT rfl rfl <| K7 rfl rfl <| B8 rfl rfl rfl <| C0 rfl (by assumption) rfl rfl <| B6 rfl rfl rfl rfl ?_
       refine A4 ⟨nofun, _, kS [0,3,5,8,9,10,41,42,43,66] [1000041] rfl, ?_⟩
       refine A8 rfl (fun hc => ?_) (fun hc => ?_)
       ·try simp only [SG, List.length_map] at hc
        refine A5 <| A0 <| A6 rfl rfl rfl ?_
        refine A4 ⟨nofun, _, kS [2] [] rfl, ?_⟩
        refine C4 <| C1 rfl rfl trivial ?_
        exact congrArg bV (D8 (i := i) (by omega) (V7 (k := k) (by omega) (by exact d8 (by assumption) (by assumption)))).symm
       try simp only [SG, List.length_map] at hc
       refine B9 <| A0 <| D9 rfl rfl (C8 (by omega)) <| A3 rfl rfl ?_
       refine A4 ⟨nofun, _, kS [0,3,5,8,9,10,41,42,43] [1000041] rfl, ?_⟩
       refine ⟨k + 1, ⟨by omega, fun j hj => by rcases Nat.lt_succ_iff_lt_or_eq.1 hj with h | h; (· exact hk2 j h); (· subst h; exact d7 (by assumption) (by assumption))⟩, (by omega), ⟨rfl, rfl, rfl, rfl, rfl, rfl, rfl, rfl, rfl, rfl, trivial⟩⟩
      have hg := hg0; try simp only [SG] at hg
      refine gF rfl rfl <| B8 rfl rfl rfl <| B6 rfl (by assumption) rfl rfl <| B6 rfl rfl rfl rfl ?_
      refine A4 ⟨nofun, _, kS [0,3,5,8,9,10,41,42,43,66] [1000041] rfl, ?_⟩
      refine A8 rfl (fun hc => absurd hc (by decide)) (fun hc => ?_)
      refine B9 <| A0 <| D9 rfl rfl (C8 (by omega)) <| A3 rfl rfl ?_
      refine A4 ⟨nofun, _, kS [0,3,5,8,9,10,41,42,43] [1000041] rfl, ?_⟩
      refine ⟨k + 1, ⟨by omega, fun j hj => by rcases Nat.lt_succ_iff_lt_or_eq.1 hj with h | h; (· exact hk2 j h); (· subst h; exact i3 (by omega) (by omega))⟩, (by omega), ⟨rfl, rfl, rfl, rfl, rfl, rfl, rfl, rfl, rfl, rfl, trivial⟩⟩
     try simp only [SG, List.length_map] at hc
     refine G6 <| A0 <| D9 rfl rfl (C8 (by omega)) <| A3 rfl rfl ?_
     refine A4 ⟨nofun, _, kS [0,8,9,10] [] rfl, ?_⟩
     refine ⟨i + 1, ⟨by omega, fun j hj => by rcases Nat.lt_succ_iff_lt_or_eq.1 hj with h | h; (· exact hi2 j h); (· subst h; exact b5r (by assumption) (by assumption) (by exact .inr (by omega)) (fun j hj => hk2 j (by omega)))⟩, (by omega), ⟨rfl, rfl, rfl, rfl, trivial⟩⟩
    have hg := hg0; try simp only [SG] at hg
    refine gF rfl rfl <| gF rfl rfl <| gF rfl rfl <| C0 rfl (by assumption) rfl rfl ?_
    refine A4 ⟨nofun, _, kS [0,3,4,5,8,9,10,36] [4] rfl, ?_⟩
    refine A8 rfl (fun hc => ?_) (fun hc => absurd hc (by decide))
    refine A5 <| A0 <| A6 rfl rfl rfl ?_
    refine A4 ⟨nofun, _, kS [2] [] rfl, ?_⟩
    refine C4 <| C1 rfl rfl trivial ?_
    exact congrArg bV (D8 (i := i) (by omega) (c4 (by exact .inr (.inl ⟨by assumption, by omega⟩)))).symm
   have hg := hg0; try simp only [SG] at hg
   refine gF rfl rfl <| gF rfl rfl <| gF rfl rfl <| gT rfl rfl <| B6 rfl (by assumption) rfl rfl <| B6 rfl (by assumption) rfl rfl <| A3 rfl rfl <| B8 rfl rfl rfl <| B5 rfl rfl (by decide) rfl rfl <| B8 rfl rfl rfl <| B7 rfl rfl rfl rfl rfl rfl <| B8 rfl rfl rfl ?_
   apply D6 rfl
   ·apply B1
    ·exact B0 rfl
    exact D5
   ·exact n3 (ss.getD i default).ns (by have := hsz (by omega); omega)
   ·exact ⟨rfl, rfl, rfl, of_decide_eq_true rfl, rfl⟩
   ·exact .inl rfl
   ·exact C6
   ·exact C7 rfl
   ·exact fun _ => rfl
   intro g34
   refine B8 rfl rfl rfl <| G8 rfl <| B6 rfl rfl rfl rfl ?_
   refine A4 ⟨nofun, _, kS [0,3,4,5,8,9,10,36] [4] rfl, ?_⟩
   refine A8 rfl (fun hc => ?_) (fun hc => ?_)
   ·try simp only [SG, List.length_map] at hc
    refine A5 <| A0 <| A6 rfl rfl rfl ?_
    refine A4 ⟨nofun, _, kS [2] [] rfl, ?_⟩
    refine C4 <| C1 rfl rfl trivial ?_
    exact congrArg bV (D8 (i := i) (by omega) (c4 (by exact .inr (.inr (by assumption))))).symm
   try simp only [SG, List.length_map] at hc
   refine B9 <| A5 <| A0 <| B5 rfl rfl (by decide) rfl rfl <| B7 rfl rfl rfl rfl rfl rfl <| B5 rfl rfl (by decide) rfl rfl <| B7 rfl rfl rfl rfl rfl rfl <| F0 (es := List.map iV [(ss.getD i default).a, (ss.getD i default).b]) rfl rfl (by decide) rfl rfl (fun _ => C3 (B4 fun _ => rfl)) (fun _ => rfl) ?_
   intro g41
   refine K1 rfl rfl <| A3 rfl rfl ?_
   refine A4 ⟨nofun, _, kS [0,3,5,8,9,10,41,42,43] [1000041] rfl, ?_⟩
   refine D3 <| G1 (β := Nat) [(.t 0, _), (.t 3, _), (.t 5, _), (.t 8, _), (.t 9, _), (.t 10, _), (.t 41, _), (.t 42, _), (.h 1000041, _)] (fun (k : Nat) => [(.t 43, iV k)]) (fun (k : Nat) => k ≤ 2 ∧ ∀ j : Nat, j < k → P1 (nd (ss.getD i default).op) j i ([(ss.getD i default).a, (ss.getD i default).b].getD j default) = true) (fun (k : Nat) => 2 - k) 0 ⟨rfl, rfl, rfl, rfl, rfl, rfl, rfl, rfl, rfl, rfl, trivial⟩ ⟨Nat.zero_le _, fun j h => by omega⟩ ?_
   intro k hb
   obtain ⟨hk1, hk2⟩ := hb
   refine A5 <| A0 <| G7 rfl rfl ?_
   refine A4 ⟨nofun, _, kS [0,3,5,8,9,10,41,42,43,44] [1000041] rfl, ?_⟩
   refine A5 ?_
   refine A8 rfl (fun hc => ?_) (fun hc => ?_)
   ·try simp only [SG, List.length_map] at hc
    refine B9 <| A5 <| D3 <| A5 <| A0 <| A3 rfl rfl <| E6 rfl rfl rfl rfl (by omega) (by (simp; done)) rfl <| I3 (f := iV) (xs := [(ss.getD i default).a, (ss.getD i default).b]) rfl rfl (by (simp; omega)) (fun _ => rfl) (fun _ => rfl) rfl <| A6 rfl rfl rfl <| A6 rfl rfl rfl ?_
    refine A4 ⟨nofun, _, kS [0,3,5,6,7,8,9,10,41,42,43] [1000041] rfl, ?_⟩
    refine A5 <| A0 <| A3 rfl rfl <| A3 rfl rfl <| G7 rfl rfl <| A3 rfl rfl ?_
    refine B3 rfl rfl (fun hg0 => ?_) (fun hg0 => ?_)
    ·have hg := hg0; try simp only [SG] at hg
     refine A3 rfl rfl <| gT rfl rfl <| A3 rfl rfl <| gT rfl rfl <| H6 rfl rfl (C8 (by omega)) <| gT rfl rfl ?_
     apply D6 rfl
     ·apply B1
      ·exact B0 rfl
      apply B1
      ·exact B0 rfl
      apply B1
      ·exact B0 rfl
      exact D5
     ·exact c3x _ _ _
     ·exact ⟨rfl, rfl, rfl, of_decide_eq_true rfl, rfl⟩
     ·exact .inl rfl
     ·exact C6
     ·exact C7 rfl
     ·exact fun _ => rfl
     intro g55
     refine gT rfl rfl <| G8 rfl <| C0 rfl (by assumption) rfl rfl <| A3 rfl rfl ?_
     refine B3 rfl rfl (fun hg0 => ?_) (fun hg0 => ?_)
     ·have hg := hg0; try simp only [SG] at hg
      refine A3 rfl rfl <| gT rfl rfl <| A3 rfl rfl <| gT rfl rfl <| r8 rfl rfl <| gT rfl rfl <| A3 rfl rfl ?_
      refine B3 rfl rfl (fun hg0 => ?_) (fun hg0 => ?_)
      ·have hg := hg0; try simp only [SG] at hg
       refine A3 rfl rfl <| gT rfl rfl <| K7 rfl rfl <| gT rfl rfl <| C0 rfl (by assumption) rfl rfl <| B6 rfl (by assumption) rfl rfl ?_
       refine A4 ⟨nofun, _, kS [0,3,5,8,9,10,41,42,43,66] [1000041] rfl, ?_⟩
       refine A8 rfl (fun hc => ?_) (fun hc => ?_)
       ·try simp only [SG, List.length_map] at hc
        refine A5 <| A0 <| A6 rfl rfl rfl ?_
        refine A4 ⟨nofun, _, kS [2] [] rfl, ?_⟩
        refine C4 <| C1 rfl rfl trivial ?_
        exact congrArg bV (D8 (i := i) (by omega) (V7 (k := k) (by omega) (by exact d8 (by assumption) (by assumption)))).symm
       try simp only [SG, List.length_map] at hc
       refine B9 <| A0 <| D9 rfl rfl (C8 (by omega)) <| A3 rfl rfl ?_
       refine A4 ⟨nofun, _, kS [0,3,5,8,9,10,41,42,43] [1000041] rfl, ?_⟩
       refine ⟨k + 1, ⟨by omega, fun j hj => by rcases Nat.lt_succ_iff_lt_or_eq.1 hj with h | h; (· exact hk2 j h); (· subst h; exact d7 (by assumption) (by assumption))⟩, (by omega), ⟨rfl, rfl, rfl, rfl, rfl, rfl, rfl, rfl, rfl, rfl, trivial⟩⟩
      have hg := hg0; try simp only [SG] at hg
      refine gF rfl rfl <| gT rfl rfl <| B6 rfl (by assumption) rfl rfl <| B6 rfl (by assumption) rfl rfl ?_
      refine A4 ⟨nofun, _, kS [0,3,5,8,9,10,41,42,43,66] [1000041] rfl, ?_⟩
      refine A8 rfl (fun hc => absurd hc (by decide)) (fun hc => ?_)
      refine B9 <| A0 <| D9 rfl rfl (C8 (by omega)) <| A3 rfl rfl ?_
      refine A4 ⟨nofun, _, kS [0,3,5,8,9,10,41,42,43] [1000041] rfl, ?_⟩
      refine ⟨k + 1, ⟨by omega, fun j hj => by rcases Nat.lt_succ_iff_lt_or_eq.1 hj with h | h; (· exact hk2 j h); (· subst h; exact i3 (by omega) (by omega))⟩, (by omega), ⟨rfl, rfl, rfl, rfl, rfl, rfl, rfl, rfl, rfl, rfl, trivial⟩⟩
     have hg := hg0; try simp only [SG] at hg
     refine gF rfl rfl <| gF rfl rfl <| gF rfl rfl <| A7 rfl rfl <| A7 rfl rfl <| gF rfl rfl <| C0 rfl (by assumption) rfl rfl ?_
     refine A4 ⟨nofun, _, kS [0,3,5,8,9,10,41,42,43,66] [1000041] rfl, ?_⟩
     refine A8 rfl (fun hc => ?_) (fun hc => absurd hc (by decide))
     refine A5 <| A0 <| A6 rfl rfl rfl ?_
     refine A4 ⟨nofun, _, kS [2] [] rfl, ?_⟩
     refine C4 <| C1 rfl rfl trivial ?_
     exact congrArg bV (D8 (i := i) (by omega) (V7 (k := k) (by omega) (by exact x6 (by omega) (by omega)))).symm
    have hg := hg0; try simp only [SG] at hg
    refine gF rfl rfl <| gF rfl rfl <| gF rfl rfl <| gF rfl rfl <| B6 rfl (by assumption) rfl rfl <| A3 rfl rfl <| B8 rfl rfl rfl <| A3 rfl rfl <| B8 rfl rfl rfl <| A3 rfl rfl <| B8 rfl rfl rfl <| r8 rfl rfl <| B8 rfl rfl rfl <| A3 rfl rfl ?_
    refine B3 rfl rfl (fun hg0 => ?_) (fun hg0 => ?_)
    ·have hg := hg0; try simp only [SG] at hg
     refine A3 rfl rfl <| gT rfl rfl <| K7 rfl rfl <| B8 rfl rfl rfl <| C0 rfl (by assumption) rfl rfl <| B6 rfl rfl rfl rfl ?_
     refine A4 ⟨nofun, _, kS [0,3,5,8,9,10,41,42,43,66] [1000041] rfl, ?_⟩
     refine A8 rfl (fun hc => ?_) (fun hc => ?_)
     ·try simp only [SG, List.length_map] at hc
      refine A5 <| A0 <| A6 rfl rfl rfl ?_
      refine A4 ⟨nofun, _, kS [2] [] rfl, ?_⟩
      refine C4 <| C1 rfl rfl trivial ?_
      exact congrArg bV (D8 (i := i) (by omega) (V7 (k := k) (by omega) (by exact d8 (by assumption) (by assumption)))).symm
     try simp only [SG, List.length_map] at hc
     refine B9 <| A0 <| D9 rfl rfl (C8 (by omega)) <| A3 rfl rfl ?_
     refine A4 ⟨nofun, _, kS [0,3,5,8,9,10,41,42,43] [1000041] rfl, ?_⟩
     refine ⟨k + 1, ⟨by omega, fun j hj => by rcases Nat.lt_succ_iff_lt_or_eq.1 hj with h | h; (· exact hk2 j h); (· subst h; exact d7 (by assumption) (by assumption))⟩, (by omega), ⟨rfl, rfl, rfl, rfl, rfl, rfl, rfl, rfl, rfl, rfl, trivial⟩⟩
    have hg := hg0; try simp only [SG] at hg
    refine gF rfl rfl <| B8 rfl rfl rfl <| B6 rfl (by assumption) rfl rfl <| B6 rfl rfl rfl rfl ?_
    refine A4 ⟨nofun, _, kS [0,3,5,8,9,10,41,42,43,66] [1000041] rfl, ?_⟩
    refine A8 rfl (fun hc => absurd hc (by decide)) (fun hc => ?_)
    refine B9 <| A0 <| D9 rfl rfl (C8 (by omega)) <| A3 rfl rfl ?_
    refine A4 ⟨nofun, _, kS [0,3,5,8,9,10,41,42,43] [1000041] rfl, ?_⟩
    refine ⟨k + 1, ⟨by omega, fun j hj => by rcases Nat.lt_succ_iff_lt_or_eq.1 hj with h | h; (· exact hk2 j h); (· subst h; exact i3 (by omega) (by omega))⟩, (by omega), ⟨rfl, rfl, rfl, rfl, rfl, rfl, rfl, rfl, rfl, rfl, trivial⟩⟩
   try simp only [SG, List.length_map] at hc
   refine G6 <| A0 <| D9 rfl rfl (C8 (by omega)) <| A3 rfl rfl ?_
   refine A4 ⟨nofun, _, kS [0,8,9,10] [] rfl, ?_⟩
   refine ⟨i + 1, ⟨by omega, fun j hj => by rcases Nat.lt_succ_iff_lt_or_eq.1 hj with h | h; (· exact hi2 j h); (· subst h; exact b5r (by assumption) (by assumption) (by exact .inl (by assumption)) (fun j hj => hk2 j (by omega)))⟩, (by omega), ⟨rfl, rfl, rfl, rfl, trivial⟩⟩
  have hg := hg0; try simp only [SG] at hg
  refine gF rfl rfl <| gF rfl rfl <| gF rfl rfl <| A7 rfl rfl <| A7 rfl rfl <| A7 rfl rfl <| A7 rfl rfl <| gF rfl rfl <| C0 rfl (by assumption) rfl rfl <| A3 rfl rfl <| B2 rfl rfl rfl <| B2 rfl rfl rfl <| B2 rfl rfl rfl <| B2 rfl rfl rfl <| C0 rfl rfl rfl rfl ?_
  refine A4 ⟨nofun, _, kS [0,3,4,5,8,9,10,36] [4] rfl, ?_⟩
  refine A8 rfl (fun hc => ?_) (fun hc => absurd hc (by decide))
  refine A5 <| A0 <| A6 rfl rfl rfl ?_
  refine A4 ⟨nofun, _, kS [2] [] rfl, ?_⟩
  refine C4 <| C1 rfl rfl trivial ?_
  exact congrArg bV (D8 (i := i) (by omega) (c4 (by exact .inl (by omega)))).symm
 try simp only [SG, List.length_map] at hc
 refine G6 <| A5 <| A0 <| A3 rfl rfl <| E3 rfl rfl ?_
 apply D6 rfl
 ·apply B1
  ·exact B0 rfl
  apply B1
  ·exact B0 rfl
  apply B1
  ·exact B0 rfl
  exact D5
 ·exact c3x _ _ _
 ·exact ⟨rfl, rfl, rfl, of_decide_eq_true rfl, rfl⟩
 ·exact .inl rfl
 ·exact C6
 ·exact C7 rfl
 ·exact fun _ => rfl
 intro g71
 refine A6 rfl rfl rfl ?_
 refine A4 ⟨nofun, _, kS [2] [] rfl, ?_⟩
 refine C4 <| C1 rfl rfl trivial ?_
 rw [a8j fun j hj => hi2 j (by omega)]
 exact congrArg bV (by (simp [Bool.decide_and]; done))
end Go.Proofs.Ytpjgdgnaeohmeaa
