/- What each function of the program gives on the abstract machine, part 1 of 2. Conditions: those in front of each theorem. -/
import Derived.Test.YtcpmbhfnapijaaaGreatDoorMd
import Derived.Test.YtcpmbhfnapijaaaGreatDoorChecked
import Derived.KernelRfl

set_option linter.unusedVariables false
set_option linter.unusedSimpArgs false
namespace Go.Proofs.YtcpmbhfnapijaaaGreatDoor
open Go Go.Mv Go.Proofs
set_option maxRecDepth 100000

theorem SD : (∀ {p : Prop} [Decidable p], (decide p = true) = p) ∧ (∀ {p : Prop} {_ : Decidable p}, decide p = false ↔ ¬p) ∧ (∀ (b : Bool), ((!b) = true) = (b = false)) ∧ (∀ (b : Bool), ((!b) = false) = (b = true)) ∧ (∀ {α : Type} [BEq α] [LawfulBEq α] {a b : α}, (a != b) = true ↔ a ≠ b) ∧
    (∀ {α : Type} [BEq α] [LawfulBEq α] {a b : α}, (a == b) = true ↔ a = b) ∧ (∀ {α : Type} (a b : α), (a ≠ b) = ¬a = b) ∧ (!true) = false ∧ (!false) = true ∧ (∀ {α : Type} [BEq α] [LawfulBEq α] {a b : α}, (a == b) = false ↔ a ≠ b) ∧ (∀ {α : Type} [BEq α] [LawfulBEq α] {a b : α}, (a != b) = false ↔ a = b) ∧
    (∀ {p : Prop} [Decidable p], ¬¬p ↔ p) ∧ (∀ {a b : Int}, ¬a < b ↔ b ≤ a) ∧ (∀ {a b : Int}, ¬a ≤ b ↔ b < a) :=
  ⟨@decide_eq_true_eq, @decide_eq_false_iff_not, @Bool.not_eq_true', @Bool.not_eq_false', @bne_iff_ne, @beq_iff_eq, @ne_eq, @Bool.not_true, @Bool.not_false, @beq_eq_false_iff_ne, @bne_eq_false_iff_eq, @Decidable.not_not, @Int.not_lt, @Int.not_le⟩
theorem SG : ((∀ {p : Prop} [Decidable p], (decide p = true) = p) ∧ (∀ {p : Prop} {_ : Decidable p}, decide p = false ↔ ¬p) ∧ (∀ (b : Bool), ((!b) = true) = (b = false)) ∧ (∀ (b : Bool), ((!b) = false) = (b = true)) ∧ (∀ {α : Type} [BEq α] [LawfulBEq α] {a b : α}, (a != b) = true ↔ a ≠ b) ∧
    (∀ {α : Type} [BEq α] [LawfulBEq α] {a b : α}, (a == b) = true ↔ a = b) ∧ (∀ {α : Type} (a b : α), (a ≠ b) = ¬a = b) ∧ (!true) = false ∧ (!false) = true ∧ (∀ {α : Type} [BEq α] [LawfulBEq α] {a b : α}, (a == b) = false ↔ a ≠ b) ∧ (∀ {α : Type} [BEq α] [LawfulBEq α] {a b : α}, (a != b) = false ↔ a = b) ∧
    (∀ {p : Prop} [Decidable p], ¬¬p ↔ p) ∧ (∀ {a b : Int}, ¬a < b ↔ b ≤ a) ∧ (∀ {a b : Int}, ¬a ≤ b ↔ b < a)) ∧
    (∀ (a b : Bool), ((a && b) = true) = (a = true ∧ b = true)) ∧ (∀ {x y : Bool}, (x && y) = false ↔ x = false ∨ y = false) ∧ (∀ (a b : Bool), ((a || b) = true) = (a = true ∨ b = true)) ∧ (∀ {x y : Bool}, (x || y) = false ↔ x = false ∧ y = false) :=
  ⟨SD, @Bool.and_eq_true, @Bool.and_eq_false_iff, @Bool.or_eq_true, @Bool.or_eq_false_iff⟩
def c7b (keep : List Nat) (A : Asr) : List Mv.Loc → Asr → Option Asr
  | l :: ls, B => match keepLoc keep l, Mv.look A l with
    | true, some a => c7b keep A ls ((l, a) :: B)
    | _, _ => none
  | [], B => some B
theorem c5t {keep : List Nat} {A : Asr} : ∀ (ls : List Mv.Loc) {B C : Asr}, KeepL keep A B → c7b keep A ls B = some C → KeepL keep A C
  | [], B, C, h, e => by simp only [c7b, Option.some.injEq] at e; rw [← e]; exact h
  | l :: ls, B, C, h, e => by
    simp only [c7b] at e
    split at e
    · exact c5t ls (show KeepL keep A ((l, _) :: B) from ⟨by assumption, by assumption, h⟩) e
    · cases e
theorem kS (ts hs : List Nat) {keep : List Nat} {A B : Asr} (h : c7b keep A (ts.map .t ++ hs.map .h) [] = some B) : KeepL keep A B := c5t _ (show KeepL keep A [] from trivial) h
section
variable {cx : Cx} {keep : List Nat} {ops0 : Array Oper} {r : List Oper} {A : Asr} {Q : Asr → List Log → Prop}
variable {d ty : Nat} {pos : String} {aft : Array Edge}
theorem gT {op : Op} {dst : Option Nat} {g dg : Nat} {want b : Bool} (hd : (ops0[g]?).bind (·.dst) = some dg) (hb : Mv.look A (.t dg) = some (.val (.bool b)))
    (h : XR cx keep ops0 (⟨dst, op, ty, pos, aft, none⟩ :: r) A fun A' lg => Q A' (c5a (.t dg) lg)) (hw : b = want := by assumption) : XR cx keep ops0 (⟨dst, op, ty, pos, aft, some (g, want)⟩ :: r) A Q := J2 hd hb hw h
theorem gF {op : Op} {g dg : Nat} {want b : Bool} (hd : (ops0[g]?).bind (·.dst) = some dg) (hb : Mv.look A (.t dg) = some (.val (.bool b)))
    (h : XR cx keep ops0 r ((.t d, .val (.tuple #[])) :: A) fun A' lg => Q A' (([.t dg], [.t d]) :: lg)) (hw : b = !want := by assumption) : XR cx keep ops0 (⟨some d, op, ty, pos, aft, some (g, want)⟩ :: r) A Q := J3 hd hb hw h
theorem xN {B : Asr} {p : Asr → List Log → Prop} {R : Asr → Prop} (ts hs : List Nat) (h : c7b keep A (ts.map .t ++ hs.map .h) [] = some B) (q : R B) :
    XR cx keep ops0 [] A (fun A' lg => (false = true → p A' lg) ∧ ∃ B, KeepL keep A' B ∧ R B) := P7 ⟨nofun, B, kS ts hs h, q⟩
theorem xC {G : Type} {k : Nat} {args : Array Operand} {Ts : Array Nat} {vs av : List AV} {ids : List (Nat × Bool)} {wp wb : Ws} {lp lb li : List Mv.Loc} {res : AV} {outs : List (List AV)} {v : G → AV} {wi : G → Ws}
    (hv : opds A args.toList = some vs) (hp : a4z (CW cx) A (cx.md k) 0 vs av ids wp lp) (hC : CW cx k av = some (res, outs))
    (hr : (apartIds ids = true ∧ nodupB ((a0x (cx.md k) 0 vs).map (·.1)) = true ∧ nodupB ((cidAll (cx.md k) 0 av).map (·.1)) = true ∧ av.length ≤ 1000 ∧ a4v av = true) ∧
      (ids.all (fun x => x.2) = true ∨ (hasList res = false ∧ outs.any F5 = false)) ∧
      c4g (CW cx) (puts A wp) (a0x (cx.md k) 0 vs) outs wb lb ∧ a4l (CW cx) (puts (puts A wp) wb) d res v wi li ∧
      (∀ g, tRefsOk keep (keptWs keep (wp ++ (wb ++ (wi g ++ [(.t d, v g)])))) = true) ∧
      ∀ g, XR cx keep ops0 r (P2 A (wp ++ (wb ++ (wi g ++ [(.t d, v g)])))) fun A' lg => Q A' ((a1v args.toList ++ (lp ++ (lb ++ li)), a1p (wp ++ (wb ++ (wi g ++ [(.t d, v g)])))) :: lg)) :
    XR cx keep ops0 (⟨some d, .call ⟨.value (.func k), args, Ts⟩, ty, pos, aft, none⟩ :: r) A Q :=
  c9m hv hp hC hr.1 hr.2.1 hr.2.2.1 hr.2.2.2.1 hr.2.2.2.2.1 hr.2.2.2.2.2
end
theorem SL : (∀ {α β : Type} {av : List α} (f : α → β), (av.map f).length = av.length) ∧ (((∀ {p : Prop} [Decidable p], (decide p = true) = p) ∧ (∀ {p : Prop} {_ : Decidable p}, decide p = false ↔ ¬p) ∧ (∀ (b : Bool), ((!b) = true) = (b = false)) ∧ (∀ (b : Bool), ((!b) = false) = (b = true)) ∧ (∀ {α : Type} [BEq α] [LawfulBEq α] {a b : α}, (a != b) = true ↔ a ≠ b) ∧
    (∀ {α : Type} [BEq α] [LawfulBEq α] {a b : α}, (a == b) = true ↔ a = b) ∧ (∀ {α : Type} (a b : α), (a ≠ b) = ¬a = b) ∧ (!true) = false ∧ (!false) = true ∧ (∀ {α : Type} [BEq α] [LawfulBEq α] {a b : α}, (a == b) = false ↔ a ≠ b) ∧ (∀ {α : Type} [BEq α] [LawfulBEq α] {a b : α}, (a != b) = false ↔ a = b) ∧
    (∀ {p : Prop} [Decidable p], ¬¬p ↔ p) ∧ (∀ {a b : Int}, ¬a < b ↔ b ≤ a) ∧ (∀ {a b : Int}, ¬a ≤ b ↔ b < a)) ∧
    (∀ (a b : Bool), ((a && b) = true) = (a = true ∧ b = true)) ∧ (∀ {x y : Bool}, (x && y) = false ↔ x = false ∨ y = false) ∧ (∀ (a b : Bool), ((a || b) = true) = (a = true ∨ b = true)) ∧ (∀ {x y : Bool}, (x || y) = false ↔ x = false ∧ y = false)) := ⟨@List.length_map.{0, 0}, SG⟩
theorem dT {p : Prop} [Decidable p] (h : decide p = true) : p := of_decide_eq_true h

def mdT : List (Nat × List Nat) := [(23, [3, 3, 3, 3]), (25, [2]), (41, [2]), (42, [1]), (48, [1]), (54, [3, 3, 3, 3]), (55, [3, 3, 3, 3]), (56, [3, 3, 3, 3]), (57, [3, 3, 3, 3]), (60, [3, 3, 3, 3]), (67, [2]), (70, [0, 2]), (71, [2]), (75, [0, 2]), (79, [3, 3, 3, 3]), (82, [3, 3, 3, 3]), (89, [3, 3, 3, 3]), (91, [3, 3, 3, 3]), (92, [3, 3, 3, 3]), (93, [3, 3, 3, 3]), (94, [3, 3, 3, 3]), (95, [3, 3, 3, 3]), (96, [3, 3, 3, 3]), (97, [3, 3, 3, 3]), (102, [3, 3, 3, 3]), (107, [1]), (108, [1]), (112, [2]), (118, [3, 3, 3, 3]), (123, [3, 3, 3, 3]), (131, [3, 3, 3, 3]), (133, [3, 3, 3, 3])]
noncomputable def d4m : List (Nat × (List AV → Option (AV × List (List AV)))) := [(106, a7j), (107, b1m), (121, b3s), (122, b8o), (136, b8h), (137, b6w), (138, b8j), (165, b1a)]
variable {oG : Option Nat} {rG : Nat}
noncomputable def cxT (oG : Option Nat) : Cx := { P := Tryz.prog, md := d4y mdT, ext := c5b d4m, it := fun _ => none, fz := fun k => [57, 60, 82, 89, 97, 102, 118, 123, 131, 133].contains k, fzB := fun T d => [(69, 58), (34, 98), (23, 57), (23, 26), (23, 47), (23, 67), (23, 103)].contains (T, d), gl := fun g => match oG with | some r => if g = 0 then some (.val (.map (some r))) else none | none => none, mp := fun k => match oG with | some r => if k = r then some goneTb else none | none => none }
noncomputable def cxE : Cx := { P := Tryz.prog, md := d4y mdT, ext := fun _ => none, fz := fun k => [57, 60, 82, 89, 97, 102, 118, 123, 131, 133].contains k }
theorem s_Clone (xs : List Int) (hl : xs.length ≤ H2) : CW (cxT oG) 106 [.list (xs.map iV)] = some (.own 1 (xs.map iV), []) := a3z (cxT oG) rfl (by simp [a7j, c6a, hl])
theorem s_Sort (xs : List Int) (hl : xs.length ≤ H2) : CW (cxT oG) 107 [.own 1 (xs.map iV)] = some (.tup [], [(Z9 xs).map iV]) := a3z (cxT oG) rfl (by simp [b1m, c6a, hl])
theorem b8i (l : List UInt8) (b : UInt8) (hl : l.length < 4294967281) : CW (cxT oG) 121 [tV l, tV [b]] = some (.own 1 ((splitB b l).map tV), []) := a3z (cxT oG) rfl (by show (if l.length < 4294967281 then some ((AV.own 1 ((splitB b l).map tV), []) : AV × List (List AV)) else none) = _; rw [if_pos hl])
theorem d1d (ps : List (List UInt8)) (b : UInt8) (h1 : ps.length ≤ H2) (h2 : (joinB b ps).length ≤ H2) : CW (cxT oG) 122 [.list (ps.map tV), tV [b]] = some (tV (joinB b ps), []) := a3z (cxT oG) rfl (by show ((unT (ps.map tV)).bind fun ps => if ps.length ≤ H2 ∧ (joinB b ps).length ≤ H2 then some ((tV (joinB b ps), []) : AV × List (List AV)) else none) = _; rw [d1s, Option.bind_some, if_pos ⟨h1, h2⟩])
theorem d3t (l : List UInt8) (b : UInt8) : CW (cxT oG) 136 [tV l, tV [b]] = some (.tup [tV (a3i b l), bV (decide (l.head? = some b))], []) := a3z (cxT oG) rfl rfl
theorem d4i (l : List UInt8) (b : UInt8) (hl : l.length < 4294967281) : CW (cxT oG) 137 [tV l, tV [b]] = some (.tup [tV (b4n b l), bV (decide (l.getLast? = some b))], []) := a3z (cxT oG) rfl (by show (if l.length < 4294967281 then some ((AV.tup [tV (b4n b l), bV (decide (l.getLast? = some b))], []) : AV × List (List AV)) else none) = _; rw [if_pos hl])
theorem c2s (l : List UInt8) (hl : l.length < 4294967281) : CW (cxT oG) 138 [tV l] = some (atR l, []) := a3z (cxT oG) rfl (by show (if l.length < 4294967281 then some ((atR l, []) : AV × List (List AV)) else none) = _; rw [if_pos hl])
theorem d3z (n : Int) (h : -9223372036854775808 ≤ n ∧ n ≤ 9223372036854775807) : CW (cxT oG) 165 [iV n] = some (tV (dec n), []) := a3z (cxT oG) rfl (by simp [b1a, h])

theorem keep_s_inRange : G0 Tryz.f135 = [0, 1, 2, 6] := by kernel_rfl
set_option maxHeartbeats 20000000 in
theorem c6p (n lo hi : Int) : CW (cxT oG) 135 [iV n, iV lo, iV hi] = some (bV (decide (lo ≤ n) && decide (n ≤ hi)), []) := by
 refine F9 rfl Tryz.func135 rfl ⟨by kernel_rfl, rfl, dT rfl, dT rfl, by decide⟩ keep_s_inRange <| A3 <| A0 <| A4 rfl rfl rfl <| xN [0,1,2] [] rfl <| A3 <| A0 <| A5 rfl rfl <| A5 rfl rfl <| b3e rfl rfl <| A5 rfl rfl ?_
 refine D8 rfl rfl ?_ ?_ <;> intro hg0 <;> have hg := hg0 <;> try simp only [SG] at hg
 ·refine A5 rfl rfl <| gT rfl rfl <| A5 rfl rfl <| gT rfl rfl <| b3e rfl rfl <| G1 rfl (by assumption) rfl rfl <| A4 rfl rfl rfl <| xN [6] [] rfl <| B4 <| C7 rfl rfl trivial ?_
  simp_all [ofConst]; try omega
 refine gF rfl rfl <| gF rfl rfl <| F8 rfl (by assumption) rfl rfl <| A4 rfl rfl rfl <| xN [6] [] rfl <| B4 <| C7 rfl rfl trivial ?_
 simp_all [ofConst]; try omega

theorem keep_s_in : G0 Tryz.f114 = [0, 1, 2, 6] := by kernel_rfl
set_option maxHeartbeats 20000000 in
theorem d5m (n lo hi : Int) : CW (cxT oG) 114 [iV n, iV lo, iV hi] = some (bV (decide (lo ≤ n) && decide (n ≤ hi)), []) := by
 refine F9 rfl Tryz.func114 rfl ⟨by kernel_rfl, rfl, dT rfl, dT rfl, by decide⟩ keep_s_in <| A3 <| A0 <| A4 rfl rfl rfl <| xN [0,1,2] [] rfl <| A3 <| A0 <| A5 rfl rfl <| A5 rfl rfl <| c5j rfl rfl <| A5 rfl rfl ?_
 refine D8 rfl rfl ?_ ?_ <;> intro hg0 <;> have hg := hg0 <;> try simp only [SG] at hg
 ·refine A5 rfl rfl <| gT rfl rfl <| A5 rfl rfl <| gT rfl rfl <| b3e rfl rfl <| G1 rfl (by assumption) rfl rfl <| A4 rfl rfl rfl <| xN [6] [] rfl <| B4 <| C7 rfl rfl trivial ?_
  simp_all [ofConst]; try omega
 refine gF rfl rfl <| gF rfl rfl <| F8 rfl (by assumption) rfl rfl <| A4 rfl rfl rfl <| xN [6] [] rfl <| B4 <| C7 rfl rfl trivial ?_
 simp_all [ofConst]; try omega

theorem keep_s_IndexFunc2 : G0 Tryz.f164 = [0, 1, 4, 8, 7, 9, 5, 16] := by kernel_rfl
set_option maxHeartbeats 20000000 in
theorem b8m (xs : List Int) (hl : xs.length ≤ 1000) (k : Nat) (a b : AV) (q : Int → Bool) (hq : ∀ x, CW (cxT oG) k [iV x, .ipt a 0, .ipt b 0] = some (bV (q x), [])) : ∃ res outs, (fun res outs => ∃ r : Int, res = iV r ∧ outs = [] ∧ decide (0 ≤ r) = xs.any q) res outs ∧ CW (cxT oG) 164 [L xs, .clo k [.ipt a 0, .ipt b 0]] = some (res, outs) := by
 refine R9 rfl Tryz.func164 rfl ⟨by kernel_rfl, rfl, dT rfl, dT rfl, by decide⟩ keep_s_IndexFunc2 <| A3 <| A0 <| A4 rfl rfl rfl <| xN [0,1] [] rfl <| A3 <| A3 <| A0 <| A5 rfl rfl <| F6 rfl rfl <| A5 rfl rfl <| xN [0,1,7,8] [] rfl <| C5 <| H3 (β := Nat) [(.t 0, _), (.t 1, _), (.t 7, _)] (fun (i : Nat) => [(.t 8, iV i)]) (fun (i : Nat) => i ≤ xs.length ∧ ∀ j, j < i → q (xs.getD j default) = false) (fun (i : Nat) => xs.length - i) 0 ⟨rfl, rfl, rfl, rfl, trivial⟩ ⟨Nat.zero_le _, fun j h => by omega⟩ ?_
 intro i hb
 obtain ⟨hi1, hi2⟩ := hb
 refine A3 <| A0 <| I3 rfl rfl <| xN [0,1,7,8,9] [] rfl <| A3 ?_
 refine A7 rfl ?_ ?_ <;> intro hc <;> try simp only [SL] at hc
 ·refine B5 <| A3 <| C5 <| A3 <| A0 <| A5 rfl rfl <| A4 rfl rfl rfl <| xN [0,1,5,7,8] [] rfl <| A3 <| A0 <| A5 rfl rfl <| A5 rfl rfl <| A5 rfl rfl <| F4 rfl rfl rfl (fun _ => rfl) (by omega) <| E4 rfl rfl rfl ?_
  apply d2d rfl rfl
  ·apply A9
   ·exact B2 rfl
   apply A9
   ·exact B2 rfl
   apply A9
   ·exact B2 rfl
   exact C4
  ·exact hq (xs.getD i default)
  ·exact ⟨rfl, rfl, rfl, dT rfl, rfl⟩
  ·exact .inl rfl
  ·exact B0
  ·exact B6 rfl
  ·exact fun _ => rfl
  intro g16
  refine xN [0,1,5,7,8,16] [] rfl ?_
  refine A7 rfl ?_ ?_ <;> intro hc <;> try simp only [SL] at hc
  ·refine A3 <| A0 <| A5 rfl rfl <| A4 rfl rfl rfl <| xN [4] [] rfl <| B4 ?_
   refine ⟨_, _, ?_, J1 rfl rfl C6⟩
   exact ⟨_, rfl, rfl, d1n (by omega) hc⟩
  refine B5 <| A0 <| G9 rfl rfl (E7 (by omega)) <| A5 rfl rfl <| xN [0,1,7,8] [] rfl ?_
  refine ⟨i + 1, ⟨by omega, fun a ha => by rcases Nat.lt_succ_iff_lt_or_eq.1 ha with h | h; exact hi2 a h; subst h; exact hc⟩, (by omega), ⟨rfl, rfl, rfl, rfl, trivial⟩⟩
 refine H1 <| A3 <| A0 <| A4 rfl rfl rfl <| xN [4] [] rfl <| B4 ?_
 refine ⟨_, _, ?_, J1 rfl rfl C6⟩
 exact ⟨-1, rfl, rfl, d1m fun j hj => hi2 j (by omega)⟩

theorem keep_s_ContainsFunc2 : G0 Tryz.f141 = [0, 1, 4] := by kernel_rfl
set_option maxHeartbeats 20000000 in
theorem b0s (xs : List Int) (hl : xs.length ≤ 1000) (k : Nat) (a b : AV) (q : Int → Bool) (hq : ∀ x, CW (cxT oG) k [iV x, .ipt a 0, .ipt b 0] = some (bV (q x), [])) : CW (cxT oG) 141 [L xs, .clo k [.ipt a 0, .ipt b 0]] = some (bV (xs.any q), []) := by
 obtain ⟨_, _, ⟨r, rfl, rfl, hr⟩, hC⟩ := b8m (oG := oG) xs hl k a b q hq
 refine F9 rfl Tryz.func141 rfl ⟨by kernel_rfl, rfl, dT rfl, dT rfl, by decide⟩ keep_s_ContainsFunc2 <| A3 <| A0 <| A4 rfl rfl rfl <| xN [0,1] [] rfl <| A3 <| A0 <| A5 rfl rfl <| A5 rfl rfl ?_
 apply xC rfl
 ·apply A9
  ·exact B2 rfl
  apply A9
  ·exact d0x rfl (c9z (c9z d0t))
  exact C4
 ·exact hC
 refine ⟨⟨rfl, rfl, rfl, dT rfl, rfl⟩, .inl rfl, B0, B6 rfl, fun _ => rfl, fun g7 => ?_⟩
 refine c5j rfl rfl <| A4 rfl rfl rfl <| xN [4] [] rfl <| B4 <| C7 rfl rfl trivial ?_
 rw [← hr]

theorem keep_s_allIn1 : G0 Tryz.f142 = [0, 1, 2, 4] := by kernel_rfl
set_option maxHeartbeats 20000000 in
theorem d0o (x lo hi : Int) : CW (cxT oG) 142 [iV x, .ipt (iV lo) 0, .ipt (iV hi) 0] = some (bV (!(decide (lo ≤ x) && decide (x ≤ hi))), []) := by
 refine F9 rfl Tryz.func142 rfl ⟨by kernel_rfl, rfl, dT rfl, dT rfl, by decide⟩ keep_s_allIn1 <| A3 <| A0 <| A4 rfl rfl rfl <| xN [0,1,2] [] rfl <| A3 <| A0 <| A5 rfl rfl <| E4 rfl rfl rfl <| E4 rfl rfl rfl ?_
 apply xC rfl
 ·apply A9
  ·exact B2 rfl
  apply A9
  ·exact B2 rfl
  apply A9
  ·exact B2 rfl
  exact C4
 ·exact d5m _ _ _
 refine ⟨⟨rfl, rfl, rfl, dT rfl, rfl⟩, .inl rfl, B0, B6 rfl, fun _ => rfl, fun g8 => ?_⟩
 refine L9 rfl <| A4 rfl rfl rfl <| xN [4] [] rfl <| B4 <| C7 rfl rfl trivial ?_
 rfl

theorem keep_s_allIn : G0 Tryz.f111 = [0, 1, 2, 6, 4, 5] := by kernel_rfl
set_option maxHeartbeats 20000000 in
theorem d1y (xs : List Int) (hl : xs.length ≤ 1000) (lo hi : Int) : CW (cxT oG) 111 [L xs, iV lo, iV hi] = some (bV (b0z lo hi xs), []) := by
 refine F9 rfl Tryz.func111 rfl ⟨by kernel_rfl, rfl, dT rfl, dT rfl, by decide⟩ keep_s_allIn <| A3 <| A0 <| a9r rfl rfl rfl (fun _ => B3 rfl) (fun _ => rfl) ?_
 intro g4
 refine a9r rfl rfl rfl (fun _ => B3 rfl) (fun _ => rfl) ?_
 intro g5
 refine A4 rfl rfl rfl <| xN [0,4,5] [4,5] rfl <| A3 <| A0 <| A5 rfl rfl <| c3v rfl rfl ?_
 apply xC rfl
 ·apply A9
  ·exact B2 rfl
  apply A9
  ·exact d0x rfl (d1b rfl rfl (d1b rfl rfl d0t))
  exact C4
 ·exact b0s xs hl 142 (iV lo) (iV hi) _ (fun x => d0o x lo hi)
 refine ⟨⟨rfl, rfl, rfl, dT rfl, rfl⟩, .inr ⟨rfl, rfl⟩, B0, B6 rfl, fun _ => rfl, fun g9 => ?_⟩
 refine L9 rfl <| A4 rfl rfl rfl <| xN [6] [] rfl <| B4 <| C7 rfl rfl trivial ?_
 exact congrArg bV (c8y lo hi xs)

theorem keep_s_validData : G0 Tryz.f103 = [0, 2, 3, 7, 15] := by kernel_rfl
set_option maxHeartbeats 20000000 in
theorem c1h (xs : List Int) (hl : xs.length ≤ 1048576) : CW (cxT oG) 103 [L xs] = some (bV (vd xs), []) := by
 refine F9 rfl Tryz.func103 rfl ⟨by kernel_rfl, rfl, dT rfl, dT rfl, by decide⟩ keep_s_validData <| A3 <| A0 <| A4 rfl rfl rfl <| xN [0] [] rfl <| A3 <| A3 <| A0 <| A4 rfl rfl rfl <| xN [0,3] [] rfl <| C5 <| H3 (β := Nat) [(.t 0, _)] (fun (i : Nat) => [(.t 3, iV i)]) (fun (i : Nat) => i ≤ xs.length ∧ ∀ j, j < i → -200 ≤ xs.getD j default ∧ xs.getD j default ≤ 200) (fun (i : Nat) => xs.length - i) 0 ⟨rfl, rfl, trivial⟩ ⟨Nat.zero_le _, fun j h => by omega⟩ ?_
 intro i hb
 obtain ⟨hi1, hi2⟩ := hb
 refine A3 <| A3 <| A0 <| A5 rfl rfl <| A5 rfl rfl <| F6 rfl rfl <| I3 rfl rfl <| xN [0,3,7] [] rfl ?_
 refine A7 rfl ?_ ?_ <;> intro hc <;> try simp only [SL] at hc
 ·refine B5 <| A3 <| C5 <| A3 <| A0 <| A5 rfl rfl <| A5 rfl rfl <| F4 rfl rfl rfl (fun _ => rfl) (by omega) <| E4 rfl rfl rfl ?_
  apply xC rfl
  ·apply A9
   ·exact B2 rfl
   apply A9
   ·exact B2 rfl
   apply A9
   ·exact B2 rfl
   exact C4
  ·exact c6p _ _ _
  refine ⟨⟨rfl, rfl, rfl, dT rfl, rfl⟩, .inl rfl, B0, B6 rfl, fun _ => rfl, fun g14 => ?_⟩
  refine L9 rfl <| xN [0,3,15] [] rfl ?_
  refine A7 rfl ?_ ?_ <;> intro hc <;> try simp only [SL] at hc
  ·refine A3 <| A0 <| A4 rfl rfl rfl <| xN [2] [] rfl <| B4 <| C7 rfl rfl trivial ?_
   rw [vd, c9b (show i < xs.length by omega) (by (simp_all; omega)), Bool.and_false]
   rfl
  refine B5 <| A0 <| A5 rfl rfl <| G9 rfl rfl (E7 (by omega)) <| A4 rfl rfl rfl <| xN [0,3] [] rfl ?_
  refine ⟨i + 1, ⟨by omega, fun j hj => by rcases Nat.lt_succ_iff_lt_or_eq.1 hj with h | h; (· exact hi2 j h); (· subst h; assumption)⟩, (by omega), ⟨rfl, rfl, trivial⟩⟩
 refine H1 <| A3 <| A0 <| A5 rfl rfl <| F6 rfl rfl <| b3e rfl rfl <| A4 rfl rfl rfl <| xN [2] [] rfl <| B4 <| C7 rfl rfl trivial ?_
 rw [vd, d2v fun j hj => hi2 j (by omega), Bool.and_true]
 exact congrArg bV (decide_eq_decide.2 (by omega))

theorem keep_s_validDataI : G0 Tryz.f100 = [0, 2] := by kernel_rfl
set_option maxHeartbeats 20000000 in
theorem a6m (xs : List Int) (hl : xs.length ≤ 1048576) : CW (cxT oG) 100 [L xs] = some (bV (vd xs), []) := by
 refine F9 rfl Tryz.func100 rfl ⟨by kernel_rfl, rfl, dT rfl, dT rfl, by decide⟩ keep_s_validDataI <| A3 <| A0 <| A4 rfl rfl rfl <| xN [0] [] rfl <| A3 <| A0 <| A5 rfl rfl <| F6 rfl rfl <| b3e rfl rfl <| A5 rfl rfl ?_
 refine D8 rfl rfl ?_ ?_ <;> intro hg0 <;> have hg := hg0 <;> try simp only [SG] at hg
 ·refine A5 rfl rfl <| gT rfl rfl ?_
  apply xC rfl
  ·apply A9
   ·exact B2 rfl
   apply A9
   ·exact B2 rfl
   apply A9
   ·exact B2 rfl
   exact C4
  ·exact d1y xs (by omega) (-200) 200
  refine ⟨⟨rfl, rfl, rfl, dT rfl, rfl⟩, .inl rfl, B0, B6 rfl, fun _ => rfl, fun g8 => ?_⟩
  refine G1 rfl (by assumption) rfl rfl <| A4 rfl rfl rfl <| xN [2] [] rfl <| B4 <| C7 rfl rfl trivial ?_
  cases hb : b0z (-200) 200 xs <;> simp_all [vd, ofConst] <;> omega
 refine gF rfl rfl <| F8 rfl (by assumption) rfl rfl <| A4 rfl rfl rfl <| xN [2] [] rfl <| B4 <| C7 rfl rfl trivial ?_
 cases hb : b0z (-200) 200 xs <;> simp_all [vd, ofConst] <;> omega

theorem keep_s_needs : G0 Tryz.f64 = [0, 2, 3, 4, 10, 19] := by kernel_rfl
set_option maxHeartbeats 20000000 in
theorem a7r (w : ByteArray) : CW (cxT oG) 64 [sV w] = some (iV (nd w), []) := by
 refine F9 rfl Tryz.func64 rfl ⟨by kernel_rfl, rfl, dT rfl, dT rfl, by decide⟩ keep_s_needs <| A3 <| A0 <| A4 rfl rfl rfl <| xN [0] [] rfl <| A3 <| A3 <| A0 <| A5 rfl rfl <| xN [3] [] rfl <| C5 <| A3 <| A3 <| A0 <| M8 rfl rfl <| A4 rfl rfl rfl <| xN [3,4] [] rfl ?_
 refine A7 rfl ?_ ?_ <;> intro hc <;> try simp only [SL] at hc
 ·refine B5 ?_
  refine A7 rfl (fun hc => ?_) (fun hc => absurd hc (by simp_all))
  refine A3 <| A0 <| A4 rfl rfl rfl <| xN [2] [] rfl <| B4 <| C7 rfl rfl trivial <| congrArg iV ?_
  simp_all [nd]
 refine A3 <| A0 <| M8 rfl rfl <| A4 rfl rfl rfl <| xN [3,4] [] rfl ?_
 refine A7 rfl ?_ ?_ <;> intro hc <;> try simp only [SL] at hc
 ·refine B5 ?_
  refine A7 rfl (fun hc => ?_) (fun hc => absurd hc (by simp_all))
  refine A3 <| A0 <| A4 rfl rfl rfl <| xN [2] [] rfl <| B4 <| C7 rfl rfl trivial <| congrArg iV ?_
  simp_all [nd]
 refine A3 <| A0 <| M8 rfl rfl <| A4 rfl rfl rfl <| xN [3,4] [] rfl ?_
 refine A7 rfl ?_ ?_ <;> intro hc <;> try simp only [SL] at hc
 ·refine B5 ?_
  refine A7 rfl (fun hc => ?_) (fun hc => absurd hc (by simp_all))
  refine A3 <| A0 <| A4 rfl rfl rfl <| xN [2] [] rfl <| B4 <| C7 rfl rfl trivial <| congrArg iV ?_
  simp_all [nd]
 refine A3 <| A0 <| M8 rfl rfl <| A4 rfl rfl rfl <| xN [3,4] [] rfl ?_
 refine A7 rfl ?_ ?_ <;> intro hc <;> try simp only [SL] at hc
 ·refine B5 ?_
  refine A7 rfl (fun hc => ?_) (fun hc => absurd hc (by simp_all))
  refine A3 <| A0 <| A4 rfl rfl rfl <| xN [2] [] rfl <| B4 <| C7 rfl rfl trivial <| congrArg iV ?_
  simp_all [nd]
 refine A0 <| M8 rfl rfl <| A4 rfl rfl rfl <| xN [3,4] [] rfl ?_
 refine A7 rfl ?_ ?_ <;> intro hc <;> try simp only [SL] at hc
 ·refine A3 <| A0 <| A4 rfl rfl rfl <| xN [2] [] rfl <| B4 <| C7 rfl rfl trivial <| congrArg iV ?_
  simp_all [nd]
 refine A3 <| A3 <| A0 <| M8 rfl rfl <| A4 rfl rfl rfl <| xN [3,10] [] rfl ?_
 refine A7 rfl ?_ ?_ <;> intro hc <;> try simp only [SL] at hc
 ·refine B5 ?_
  refine A7 rfl (fun hc => ?_) (fun hc => absurd hc (by simp_all))
  refine A3 <| A0 <| A4 rfl rfl rfl <| xN [2] [] rfl <| B4 <| C7 rfl rfl trivial <| congrArg iV ?_
  simp_all [nd]
 refine A3 <| A0 <| M8 rfl rfl <| A4 rfl rfl rfl <| xN [3,10] [] rfl ?_
 refine A7 rfl ?_ ?_ <;> intro hc <;> try simp only [SL] at hc
 ·refine B5 ?_
  refine A7 rfl (fun hc => ?_) (fun hc => absurd hc (by simp_all))
  refine A3 <| A0 <| A4 rfl rfl rfl <| xN [2] [] rfl <| B4 <| C7 rfl rfl trivial <| congrArg iV ?_
  simp_all [nd]
 refine A3 <| A0 <| M8 rfl rfl <| A4 rfl rfl rfl <| xN [3,10] [] rfl ?_
 refine A7 rfl ?_ ?_ <;> intro hc <;> try simp only [SL] at hc
 ·refine B5 ?_
  refine A7 rfl (fun hc => ?_) (fun hc => absurd hc (by simp_all))
  refine A3 <| A0 <| A4 rfl rfl rfl <| xN [2] [] rfl <| B4 <| C7 rfl rfl trivial <| congrArg iV ?_
  simp_all [nd]
 refine A3 <| A0 <| M8 rfl rfl <| A4 rfl rfl rfl <| xN [3,10] [] rfl ?_
 refine A7 rfl ?_ ?_ <;> intro hc <;> try simp only [SL] at hc
 ·refine B5 ?_
  refine A7 rfl (fun hc => ?_) (fun hc => absurd hc (by simp_all))
  refine A3 <| A0 <| A4 rfl rfl rfl <| xN [2] [] rfl <| B4 <| C7 rfl rfl trivial <| congrArg iV ?_
  simp_all [nd]
 refine A3 <| A0 <| M8 rfl rfl <| A4 rfl rfl rfl <| xN [3,10] [] rfl ?_
 refine A7 rfl ?_ ?_ <;> intro hc <;> try simp only [SL] at hc
 ·refine B5 ?_
  refine A7 rfl (fun hc => ?_) (fun hc => absurd hc (by simp_all))
  refine A3 <| A0 <| A4 rfl rfl rfl <| xN [2] [] rfl <| B4 <| C7 rfl rfl trivial <| congrArg iV ?_
  simp_all [nd]
 refine A3 <| A0 <| M8 rfl rfl <| A4 rfl rfl rfl <| xN [3,10] [] rfl ?_
 refine A7 rfl ?_ ?_ <;> intro hc <;> try simp only [SL] at hc
 ·refine B5 ?_
  refine A7 rfl (fun hc => ?_) (fun hc => absurd hc (by simp_all))
  refine A3 <| A0 <| A4 rfl rfl rfl <| xN [2] [] rfl <| B4 <| C7 rfl rfl trivial <| congrArg iV ?_
  simp_all [nd]
 refine A3 <| A0 <| M8 rfl rfl <| A4 rfl rfl rfl <| xN [3,10] [] rfl ?_
 refine A7 rfl ?_ ?_ <;> intro hc <;> try simp only [SL] at hc
 ·refine B5 ?_
  refine A7 rfl (fun hc => ?_) (fun hc => absurd hc (by simp_all))
  refine A3 <| A0 <| A4 rfl rfl rfl <| xN [2] [] rfl <| B4 <| C7 rfl rfl trivial <| congrArg iV ?_
  simp_all [nd]
 refine A0 <| M8 rfl rfl <| A4 rfl rfl rfl <| xN [3,10] [] rfl ?_
 refine A7 rfl ?_ ?_ <;> intro hc <;> try simp only [SL] at hc
 ·refine A3 <| A0 <| A4 rfl rfl rfl <| xN [2] [] rfl <| B4 <| C7 rfl rfl trivial <| congrArg iV ?_
  simp_all [nd]
 refine A3 <| A3 <| A0 <| M8 rfl rfl <| A4 rfl rfl rfl <| xN [3,19] [] rfl ?_
 refine A7 rfl ?_ ?_ <;> intro hc <;> try simp only [SL] at hc
 ·refine B5 ?_
  refine A7 rfl (fun hc => ?_) (fun hc => absurd hc (by simp_all))
  refine A3 <| A0 <| A4 rfl rfl rfl <| xN [2] [] rfl <| B4 <| C7 rfl rfl trivial <| congrArg iV ?_
  simp_all [nd]
 refine A0 <| M8 rfl rfl <| A4 rfl rfl rfl <| xN [19] [] rfl ?_
 refine A7 rfl ?_ ?_ <;> intro hc <;> try simp only [SL] at hc
 ·refine A3 <| A0 <| A4 rfl rfl rfl <| xN [2] [] rfl <| B4 <| C7 rfl rfl trivial <| congrArg iV ?_
  simp_all [nd]
 refine B5 <| A3 <| A0 <| A4 rfl rfl rfl <| xN [2] [] rfl <| B4 <| C7 rfl rfl trivial <| congrArg iV ?_
 simp_all [nd]

theorem keep_s_reachOf : G0 Tryz.f86 = [0, 2, 3, 4, 13, 16] := by kernel_rfl
set_option maxHeartbeats 20000000 in
theorem c6e (w : ByteArray) : CW (cxT oG) 86 [sV w] = some (iV (rch w), []) := by
 refine F9 rfl Tryz.func86 rfl ⟨by kernel_rfl, rfl, dT rfl, dT rfl, by decide⟩ keep_s_reachOf <| A3 <| A0 <| A4 rfl rfl rfl <| xN [0] [] rfl <| A3 <| A3 <| A0 <| A5 rfl rfl <| xN [3] [] rfl <| C5 <| A3 <| A3 <| A0 <| M8 rfl rfl <| A4 rfl rfl rfl <| xN [3,4] [] rfl ?_
 refine A7 rfl ?_ ?_ <;> intro hc <;> try simp only [SL] at hc
 ·refine B5 ?_
  refine A7 rfl (fun hc => ?_) (fun hc => absurd hc (by simp_all))
  refine A3 <| A0 <| A4 rfl rfl rfl <| xN [2] [] rfl <| B4 <| C7 rfl rfl trivial <| congrArg iV ?_
  simp_all [rch]
 refine A3 <| A0 <| M8 rfl rfl <| A4 rfl rfl rfl <| xN [3,4] [] rfl ?_
 refine A7 rfl ?_ ?_ <;> intro hc <;> try simp only [SL] at hc
 ·refine B5 ?_
  refine A7 rfl (fun hc => ?_) (fun hc => absurd hc (by simp_all))
  refine A3 <| A0 <| A4 rfl rfl rfl <| xN [2] [] rfl <| B4 <| C7 rfl rfl trivial <| congrArg iV ?_
  simp_all [rch]
 refine A3 <| A0 <| M8 rfl rfl <| A4 rfl rfl rfl <| xN [3,4] [] rfl ?_
 refine A7 rfl ?_ ?_ <;> intro hc <;> try simp only [SL] at hc
 ·refine B5 ?_
  refine A7 rfl (fun hc => ?_) (fun hc => absurd hc (by simp_all))
  refine A3 <| A0 <| A4 rfl rfl rfl <| xN [2] [] rfl <| B4 <| C7 rfl rfl trivial <| congrArg iV ?_
  simp_all [rch]
 refine A3 <| A0 <| M8 rfl rfl <| A4 rfl rfl rfl <| xN [3,4] [] rfl ?_
 refine A7 rfl ?_ ?_ <;> intro hc <;> try simp only [SL] at hc
 ·refine B5 ?_
  refine A7 rfl (fun hc => ?_) (fun hc => absurd hc (by simp_all))
  refine A3 <| A0 <| A4 rfl rfl rfl <| xN [2] [] rfl <| B4 <| C7 rfl rfl trivial <| congrArg iV ?_
  simp_all [rch]
 refine A3 <| A0 <| M8 rfl rfl <| A4 rfl rfl rfl <| xN [3,4] [] rfl ?_
 refine A7 rfl ?_ ?_ <;> intro hc <;> try simp only [SL] at hc
 ·refine B5 ?_
  refine A7 rfl (fun hc => ?_) (fun hc => absurd hc (by simp_all))
  refine A3 <| A0 <| A4 rfl rfl rfl <| xN [2] [] rfl <| B4 <| C7 rfl rfl trivial <| congrArg iV ?_
  simp_all [rch]
 refine A3 <| A0 <| M8 rfl rfl <| A4 rfl rfl rfl <| xN [3,4] [] rfl ?_
 refine A7 rfl ?_ ?_ <;> intro hc <;> try simp only [SL] at hc
 ·refine B5 ?_
  refine A7 rfl (fun hc => ?_) (fun hc => absurd hc (by simp_all))
  refine A3 <| A0 <| A4 rfl rfl rfl <| xN [2] [] rfl <| B4 <| C7 rfl rfl trivial <| congrArg iV ?_
  simp_all [rch]
 refine A3 <| A0 <| M8 rfl rfl <| A4 rfl rfl rfl <| xN [3,4] [] rfl ?_
 refine A7 rfl ?_ ?_ <;> intro hc <;> try simp only [SL] at hc
 ·refine B5 ?_
  refine A7 rfl (fun hc => ?_) (fun hc => absurd hc (by simp_all))
  refine A3 <| A0 <| A4 rfl rfl rfl <| xN [2] [] rfl <| B4 <| C7 rfl rfl trivial <| congrArg iV ?_
  simp_all [rch]
 refine A0 <| M8 rfl rfl <| A4 rfl rfl rfl <| xN [3,4] [] rfl ?_
 refine A7 rfl ?_ ?_ <;> intro hc <;> try simp only [SL] at hc
 ·refine A3 <| A0 <| A4 rfl rfl rfl <| xN [2] [] rfl <| B4 <| C7 rfl rfl trivial <| congrArg iV ?_
  simp_all [rch]
 refine A3 <| A3 <| A0 <| M8 rfl rfl <| A4 rfl rfl rfl <| xN [3,13] [] rfl ?_
 refine A7 rfl ?_ ?_ <;> intro hc <;> try simp only [SL] at hc
 ·refine B5 ?_
  refine A7 rfl (fun hc => ?_) (fun hc => absurd hc (by simp_all))
  refine A3 <| A0 <| A4 rfl rfl rfl <| xN [2] [] rfl <| B4 <| C7 rfl rfl trivial <| congrArg iV ?_
  simp_all [rch]
 refine A0 <| M8 rfl rfl <| A4 rfl rfl rfl <| xN [3,13] [] rfl ?_
 refine A7 rfl ?_ ?_ <;> intro hc <;> try simp only [SL] at hc
 ·refine A3 <| A0 <| A4 rfl rfl rfl <| xN [2] [] rfl <| B4 <| C7 rfl rfl trivial <| congrArg iV ?_
  simp_all [rch]
 refine A3 <| A3 <| A0 <| M8 rfl rfl <| A4 rfl rfl rfl <| xN [3,16] [] rfl ?_
 refine A7 rfl ?_ ?_ <;> intro hc <;> try simp only [SL] at hc
 ·refine B5 ?_
  refine A7 rfl (fun hc => ?_) (fun hc => absurd hc (by simp_all))
  refine A3 <| A0 <| A4 rfl rfl rfl <| xN [2] [] rfl <| B4 <| C7 rfl rfl trivial <| congrArg iV ?_
  simp_all [rch]
 refine A3 <| A0 <| M8 rfl rfl <| A4 rfl rfl rfl <| xN [3,16] [] rfl ?_
 refine A7 rfl ?_ ?_ <;> intro hc <;> try simp only [SL] at hc
 ·refine B5 ?_
  refine A7 rfl (fun hc => ?_) (fun hc => absurd hc (by simp_all))
  refine A3 <| A0 <| A4 rfl rfl rfl <| xN [2] [] rfl <| B4 <| C7 rfl rfl trivial <| congrArg iV ?_
  simp_all [rch]
 refine A3 <| A0 <| M8 rfl rfl <| A4 rfl rfl rfl <| xN [3,16] [] rfl ?_
 refine A7 rfl ?_ ?_ <;> intro hc <;> try simp only [SL] at hc
 ·refine B5 ?_
  refine A7 rfl (fun hc => ?_) (fun hc => absurd hc (by simp_all))
  refine A3 <| A0 <| A4 rfl rfl rfl <| xN [2] [] rfl <| B4 <| C7 rfl rfl trivial <| congrArg iV ?_
  simp_all [rch]
 refine A0 <| M8 rfl rfl <| A4 rfl rfl rfl <| xN [16] [] rfl ?_
 refine A7 rfl ?_ ?_ <;> intro hc <;> try simp only [SL] at hc
 ·refine A3 <| A0 <| A4 rfl rfl rfl <| xN [2] [] rfl <| B4 <| C7 rfl rfl trivial <| congrArg iV ?_
  simp_all [rch]
 refine B5 <| A3 <| A0 <| A4 rfl rfl rfl <| xN [2] [] rfl <| B4 <| C7 rfl rfl trivial <| congrArg iV ?_
 simp_all [rch]

theorem keep_s_number : G0 Tryz.f148 = [0, 2, 4, 10] := by kernel_rfl
set_option maxHeartbeats 20000000 in
theorem a4u (n : Int) (hn : -1000000 ≤ n ∧ n ≤ 1000000) : CW (cxT oG) 148 [iV n] = some (tV (dec n), []) := by
 obtain ⟨kk, hkk⟩ : ∃ kk : Nat, 2 * n.natAbs + (if n < 0 then 1 else 0) < kk := ⟨_, Nat.lt_succ_self _⟩
 revert n
 induction kk with
 | zero => intro n hn hkk; exact absurd hkk (Nat.not_lt_zero _)
 | succ kk ih =>
  intro n hn hkk
  refine F9 rfl Tryz.func148 rfl ⟨by kernel_rfl, rfl, dT rfl, dT rfl, by decide⟩ keep_s_number <| A3 <| A0 <| A4 rfl rfl rfl <| xN [0] [] rfl <| A3 <| A3 <| A0 <| A5 rfl rfl <| I3 rfl rfl <| xN [0,4] [] rfl ?_
  refine A7 rfl ?_ ?_ <;> intro hc <;> try simp only [SL] at hc
  ·refine A3 <| A0 <| A5 rfl rfl <| d3e rfl (E7 (by omega)) ?_
   have hdl := U0 (m := -n) (by omega)
   apply xC rfl
   ·apply A9
    ·exact B2 rfl
    exact C4
   ·exact ih (-n) (by omega) (by split at hkk <;> split <;> omega)
   refine ⟨⟨rfl, rfl, rfl, dT rfl, rfl⟩, .inl rfl, B0, B6 rfl, fun _ => rfl, fun g7 => ?_⟩
   refine K5 rfl rfl (by simp only [H2, List.length_append, List.length_cons, List.length_nil]; omega) <| A4 rfl rfl rfl <| xN [2] [] rfl <| B4 <| C7 rfl rfl trivial ?_
   exact congrArg tV (d2w (by assumption)).symm
  refine B5 <| A3 <| A3 <| A0 <| A5 rfl rfl <| I3 rfl rfl <| xN [0,10] [] rfl ?_
  refine A7 rfl ?_ ?_ <;> intro hc <;> try simp only [SL] at hc
  ·refine A3 <| A0 <| A5 rfl rfl <| A5 rfl rfl <| G9 rfl rfl (E7 (by omega)) <| T7 rfl rfl (O5 rfl (by omega)) (O5 rfl (by omega)) (by (simp; omega)) <| A4 rfl rfl rfl <| xN [2] [] rfl <| B4 <| C7 rfl rfl trivial ?_
   rw [d3d (by omega)]
  refine B5 <| A3 <| A0 <| A5 rfl rfl ?_
  have hd10 : n.tdiv 10 = n / 10 := Int.tdiv_eq_ediv_of_nonneg (by omega)
  refine c8r rfl rfl ⟨by omega, E7 (by omega)⟩ ?_
  have hd10 : n.tdiv 10 = n / 10 := Int.tdiv_eq_ediv_of_nonneg (by omega)
  have hdl0 := U0 (m := n.tdiv 10) (by omega)
  apply xC rfl
  ·apply A9
   ·exact B2 rfl
   exact C4
  ·exact ih (n.tdiv 10) (by omega) (by split at hkk <;> split <;> omega)
  refine ⟨⟨rfl, rfl, rfl, dT rfl, rfl⟩, .inl rfl, B0, B6 rfl, fun _ => rfl, fun g17 => ?_⟩
  refine A5 rfl rfl <| b9x rfl rfl (by omega) ?_
  have hm10 : n.tmod 10 = n % 10 := Int.tmod_eq_emod_of_nonneg (by omega)
  have hdl1 := U0 (m := n.tmod 10) (by omega)
  apply xC rfl
  ·apply A9
   ·exact B2 rfl
   exact C4
  ·exact ih (n.tmod 10) (by omega) (by split at hkk <;> split <;> omega)
  refine ⟨⟨rfl, rfl, rfl, dT rfl, rfl⟩, .inl rfl, B0, B6 rfl, fun _ => rfl, fun g20 => ?_⟩
  refine K5 rfl rfl (by simp only [H2, List.length_append, List.length_cons, List.length_nil]; omega) <| A4 rfl rfl rfl <| xN [2] [] rfl <| B4 <| C7 rfl rfl trivial ?_
  rw [← d3v (by omega)]

theorem keep_s_listText : G0 Tryz.f124 = [0, 2, 4, 8, 12, 3] := by kernel_rfl
set_option maxHeartbeats 20000000 in
theorem a5z (ns : List Int) (hl : ns.length ≤ 1000000) (hnb : ∀ n ∈ ns, -1000000 ≤ n ∧ n ≤ 1000000) : CW (cxT oG) 124 [L ns] = some (tV (O1 ns), []) := by
 have hg := fun (i : Nat) (h : i < ns.length) => hnb _ (a4r h)
 refine F9 rfl Tryz.func124 rfl ⟨by kernel_rfl, rfl, dT rfl, dT rfl, by decide⟩ keep_s_listText <| A3 <| A0 <| A4 rfl rfl rfl <| xN [0] [] rfl <| A3 <| A0 <| A4 rfl rfl rfl <| xN [0,3] [] rfl <| A3 <| A3 <| A0 <| A4 rfl rfl rfl <| xN [0,3,4] [] rfl <| C5 <| H3 (β := Nat) [(.t 0, _)] (fun (i : Nat) => [(.t 4, iV i), (.t 3, tV (O1 (ns.take i)))]) (fun (i : Nat) => i ≤ ns.length) (fun (i : Nat) => ns.length - i) 0 ⟨rfl, rfl, rfl, trivial⟩ (Nat.zero_le _) ?_
 intro i hb
 have hi1 := hb
 have hll := a0g (ns := ns.take i) (fun n hn => hnb n (List.mem_of_mem_take hn))
 rw [List.length_take] at hll
 refine A3 <| A3 <| A0 <| A5 rfl rfl <| A5 rfl rfl <| F6 rfl rfl <| I3 rfl rfl <| xN [0,3,4,8] [] rfl ?_
 refine A7 rfl ?_ ?_ <;> intro hc <;> try simp only [SL] at hc
 ·refine B5 <| A3 <| C5 <| A3 <| A3 <| A0 <| A5 rfl rfl <| Y5 rfl rfl <| xN [0,3,4,12] [] rfl ?_
  refine A7 rfl ?_ ?_ <;> intro hc <;> try simp only [SL] at hc
  ·have hi0 : 0 < i := by omega
   refine A0 <| A5 rfl rfl <| K5 rfl rfl (by simp only [H2, List.length_append, List.length_cons, List.length_nil]; omega) <| A4 rfl rfl rfl <| xN [0,3,4] [] rfl <| A0 <| A5 rfl rfl <| A5 rfl rfl <| A5 rfl rfl <| F4 rfl rfl rfl (fun _ => rfl) (by omega) <| E4 rfl rfl rfl ?_
   have hgi := hg i (by omega)
   have hdl := U0 hgi
   apply xC rfl
   ·apply A9
    ·exact B2 rfl
    exact C4
   ·exact a4u (ns.getD i default) hgi
   refine ⟨⟨rfl, rfl, rfl, dT rfl, rfl⟩, .inl rfl, B0, B6 rfl, fun _ => rfl, fun g20 => ?_⟩
   refine K5 rfl rfl (by simp only [H2, List.length_append, List.length_cons, List.length_nil]; omega) <| A4 rfl rfl rfl <| xN [0,3,4] [] rfl <| A0 <| A5 rfl rfl <| G9 rfl rfl (E7 (by omega)) <| A4 rfl rfl rfl <| xN [0,3,4] [] rfl ?_
   rw [← c1z (by omega) hi0]
   refine ⟨i + 1, ?_, (by omega), ⟨rfl, rfl, rfl, trivial⟩⟩
   omega
  have hi0 : i = 0 := by omega
  refine B5 <| A0 <| A5 rfl rfl <| A5 rfl rfl <| A5 rfl rfl <| F4 rfl rfl rfl (fun _ => rfl) (by omega) <| E4 rfl rfl rfl ?_
  have hgi := hg i (by omega)
  have hdl := U0 hgi
  apply xC rfl
  ·apply A9
   ·exact B2 rfl
   exact C4
  ·exact a4u (ns.getD i default) hgi
  refine ⟨⟨rfl, rfl, rfl, dT rfl, rfl⟩, .inl rfl, B0, B6 rfl, fun _ => rfl, fun g20 => ?_⟩
  refine K5 rfl rfl (by simp only [H2, List.length_append, List.length_cons, List.length_nil]; omega) <| A4 rfl rfl rfl <| xN [0,3,4] [] rfl <| A0 <| A5 rfl rfl <| G9 rfl rfl (E7 (by omega)) <| A4 rfl rfl rfl <| xN [0,3,4] [] rfl ?_
  rw [← c1i (by omega) hi0]
  refine ⟨i + 1, ?_, (by omega), ⟨rfl, rfl, rfl, trivial⟩⟩
  omega
 refine H1 <| A3 <| A0 <| A5 rfl rfl <| A4 rfl rfl rfl <| xN [2] [] rfl <| B4 <| C7 rfl rfl trivial ?_
 rw [List.take_of_length_le (by omega)]

theorem keep_s_splitAt : G0 Tryz.f101 = [0, 1, 4, 7, 12, 19, 6, 5] := by kernel_rfl
set_option maxHeartbeats 20000000 in
theorem b5q (s : List UInt8) (hs : s.length ≤ 1048576) (c : UInt8) : CW (cxT oG) 101 [tV s, uV c.toNat] = some (.own 1 ((splitB c s).map tV), []) := by
 refine F9 rfl Tryz.func101 rfl ⟨by kernel_rfl, rfl, dT rfl, dT rfl, by decide⟩ keep_s_splitAt <| A3 <| A0 ?_
 (refine C3 rfl rfl (fun _ => rfl) ?_; intro g4)
 refine xN [0,1] [] rfl <| A3 <| A0 <| C8 (es := List.map tV []) rfl rfl (dT rfl) rfl rfl (fun _ => B1 (A8 fun _ => rfl)) (fun _ => rfl) ?_
 intro g8
 (refine B8 rfl rfl (by (simp; done)) rfl (fun _ => (B1 (by exact A8 fun _ => rfl))) (fun _ => rfl) ?_; intro g5)
 refine xN [0,1,5] [5] rfl <| A3 <| A0 <| A4 rfl rfl rfl <| xN [0,1,5,6] [5] rfl <| A3 <| A3 <| A0 <| A4 rfl rfl rfl <| xN [0,1,5,6,7] [5] rfl <| C5 <| H3 (β := Nat × Nat × List (List UInt8) × Nat) [(.t 0, _), (.t 1, _)] (fun (z : Nat × Nat × List (List UInt8) × Nat) => match z with | (i, fr, out, g) => [(.t 7, iV i), (.t 6, iV fr), (.t 5, .sl 5 g none 0 out.length), (.h 5, .obj g 0 1 (out.map tV))]) (fun (z : Nat × Nat × List (List UInt8) × Nat) => match z with | (i, fr, out, g) => i ≤ s.length ∧ fr ≤ i ∧ out.length ≤ i ∧ splitB c s = out ++ U4 ((s.drop fr).take (i - fr)) (splitB c (s.drop i))) (fun (z : Nat × Nat × List (List UInt8) × Nat) => match z with | (i, fr, out, g) => s.length - i) (0, 0, [], _) ⟨rfl, rfl, rfl, rfl, rfl, rfl, trivial⟩ ⟨Nat.zero_le _, Nat.le_refl _, Nat.le_refl _, by simp [b5r]⟩ ?_
 intro z hb
 obtain ⟨i, fr, out, g⟩ := z
 try dsimp only at hb
 obtain ⟨hi1, hfr, hol, hsp⟩ := hb
 refine A3 <| A3 <| A0 <| A5 rfl rfl <| A5 rfl rfl <| a1j rfl rfl <| I3 rfl rfl <| xN [0,1,5,6,7,12] [5] rfl ?_
 refine A7 rfl ?_ ?_ <;> intro hc <;> try simp only [SL] at hc
 ·refine B5 <| A3 <| C5 <| A3 <| A0 <| A5 rfl rfl <| A5 rfl rfl <| O2 rfl rfl rfl (by omega) <| A5 rfl rfl <| Q1 rfl rfl <| xN [0,1,5,6,7,19] [5] rfl ?_
  refine A7 rfl ?_ ?_ <;> intro hc <;> try simp only [SL] at hc
  ·have hcb : s.getD i 0 = c := UInt8.toNat_inj.1 (by omega)
   refine A3 <| A0 ?_
   iterate 4 refine A5 rfl rfl ?_
   refine T7 rfl rfl (H7 rfl) (H7 rfl) (by omega) <| C8 (es := List.map tV [_]) rfl rfl (dT rfl) rfl rfl (fun _ => B1 (A8 fun _ => rfl)) (fun _ => rfl) ?_
   intro g25
   refine G6 rfl rfl rfl rfl (by (simp; done)) (by simp) (by decide) rfl rfl rfl rfl (dT rfl) (fun _ => ⟨rfl, rfl⟩) (by simp only [H2]; (simp only [List.length_nil, List.length_cons, List.length_append, Nat.zero_add, List.length_map]; omega)) (fun _ => rfl) ?_
   intro g26
   (refine B8 rfl rfl (by (simp; done)) rfl (fun _ => (B1 (by exact A8 fun _ => rfl))) (fun _ => rfl) ?_; intro g5)
   refine xN [0,1,5,7] [5] rfl <| A0 <| A5 rfl rfl <| G9 rfl rfl (E7 (by omega)) <| A4 rfl rfl rfl <| xN [0,1,5,6,7] [5] rfl <| A0 <| A5 rfl rfl <| G9 rfl rfl (E7 (by omega)) <| A4 rfl rfl rfl <| xN [0,1,5,6,7] [5] rfl ?_
   refine ⟨(i + 1, i + 1, out ++ [(s.drop fr).take (i - fr)], _), ?_, (by simp only; omega), ⟨rfl, rfl, rfl, rfl, rfl, rfl, trivial⟩⟩
   have hst := b2j (by omega) hfr hsp
   exact ⟨by omega, by omega, by simp; omega, hst.1 hcb⟩
  have hcb : s.getD i 0 ≠ c := fun e => hc (by rw [e])
  refine B5 <| A0 <| A5 rfl rfl <| G9 rfl rfl (E7 (by omega)) <| A4 rfl rfl rfl <| xN [0,1,5,6,7] [5] rfl ?_
  refine ⟨(i + 1, fr, out, _), ?_, (by simp only; omega), ⟨rfl, rfl, rfl, rfl, rfl, rfl, trivial⟩⟩
  have hst := b2j (by omega) hfr hsp
  exact ⟨by omega, by omega, by omega, hst.2 hcb⟩
 refine H1 <| A3 <| A0 <| A5 rfl rfl <| A5 rfl rfl <| A5 rfl rfl <| T7 rfl rfl I0 (H7 rfl) (by omega) <| C8 (es := List.map tV [_]) rfl rfl (dT rfl) rfl rfl (fun _ => B1 (A8 fun _ => rfl)) (fun _ => rfl) ?_
 intro g33
 refine G6 rfl rfl rfl rfl (by (simp; done)) (by simp) (by decide) rfl rfl rfl rfl (dT rfl) (fun _ => ⟨rfl, rfl⟩) (by simp only [H2]; (simp only [List.length_nil, List.length_cons, List.length_append, Nat.zero_add, List.length_map]; omega)) (fun _ => rfl) ?_
 intro g34
 (refine B8 rfl rfl (by (simp; done)) rfl (fun _ => (B1 (by exact A8 fun _ => rfl))) (fun _ => rfl) ?_; intro g4)
 refine xN [4] [4] rfl <| B4 <| T5 rfl rfl (by simp) (by exact A8 fun _ => rfl) trivial ?_
 have hil : i = s.length := by omega
 rw [hsp, hil, List.drop_length, splitB, U4, List.append_nil]

theorem keep_s_readList : G0 Tryz.f125 = [0, 2, 3, 5, 6, 17, 7, 8, 31, 10, 37, 9, 53, 62, 75, 4] := by kernel_rfl
set_option maxHeartbeats 20000000 in
theorem c4h (s : List UInt8) (hs : s.length ≤ 1048576) : CW (cxT oG) 125 [tV s] = some (.tup [.own 1 (((rdL s).getD []).map iV), bV (rdL s).isSome], []) := by
 obtain ⟨ps, hps⟩ : ∃ ps, ps = splitB 44 s := ⟨_, rfl⟩
 have hpl := T9 44 s
 rw [← hps] at hpl
 have hpp := U3 44 s
 rw [← hps] at hpp
 refine F9 rfl Tryz.func125 rfl ⟨by kernel_rfl, rfl, dT rfl, dT rfl, by decide⟩ keep_s_readList <| A3 <| A0 ?_
 (refine C3 rfl rfl (fun _ => rfl) ?_; intro g2)
 refine A4 rfl rfl rfl <| xN [0] [] rfl <| A3 <| A0 <| C8 (es := List.map iV []) rfl rfl (dT rfl) rfl rfl (fun _ => B1 (A8 fun _ => rfl)) (fun _ => rfl) ?_
 intro g11
 (refine B8 rfl rfl (by (simp; done)) rfl (fun _ => (B1 (by exact A8 fun _ => rfl))) (fun _ => rfl) ?_; intro g4)
 refine xN [0,4] [4] rfl <| A3 <| A0 <| A5 rfl rfl ?_
 apply xC rfl
 ·apply A9
  ·exact B2 rfl
  apply A9
  ·exact B2 rfl
  exact C4
 ·exact b5q s hs 44
 refine ⟨⟨rfl, rfl, rfl, dT rfl, rfl⟩, .inl rfl, B0, N1, fun _ => rfl, fun g13 => ?_⟩
 rw [← hps]
 try simp only [List.length_map]
 (refine B8 rfl rfl (by (simp; done)) rfl (fun _ => (B1 (by exact A8 fun _ => rfl))) (fun _ => rfl) ?_; intro g5)
 refine xN [4,5] [4,5] rfl <| A3 <| A3 <| A0 <| A4 rfl rfl rfl <| xN [4,5,6] [4,5] rfl <| C5 <| H3 (β := Nat × List Int × Nat) [(.t 5, _), (.h 5, _)] (fun (z : Nat × List Int × Nat) => match z with | (i, ns, g) => [(.t 6, iV i), (.t 4, .sl 4 g none 0 ns.length), (.h 4, .obj g 0 1 (ns.map iV))]) (fun (z : Nat × List Int × Nat) => match z with | (i, ns, g) => i ≤ ps.length ∧ a0n (ps.take i) = some ns) (fun (z : Nat × List Int × Nat) => match z with | (i, ns, g) => ps.length - i) (0, [], _) ⟨rfl, rfl, rfl, rfl, rfl, trivial⟩ ⟨Nat.zero_le _, rfl⟩ ?_
 intro z hb
 obtain ⟨i, ns, g⟩ := z
 try dsimp only at hb
 obtain ⟨hi1, hrd⟩ := hb
 have hnl := b0n hrd
 rw [List.length_take] at hnl
 have hpi := fun h : i < ps.length => hpp _ (R8 h)
 refine A3 <| A3 <| A0 <| A5 rfl rfl <| A5 rfl rfl <| M1 rfl rfl <| I3 rfl rfl <| xN [4,5,6,17] [4,5] rfl ?_
 refine A7 rfl ?_ ?_ <;> intro hc <;> try simp only [SL] at hc
 ·refine B5 <| A3 <| C5 <| A3 <| A0 <| A5 rfl rfl <| A5 rfl rfl <| H9 rfl rfl rfl rfl (by omega) (by (simp; done)) rfl <| I9 rfl rfl (by omega) (fun _ => rfl) (fun _ => rfl) rfl <| A4 rfl rfl rfl <| xN [4,5,6,7] [4,5] rfl <| A3 <| A0 <| A5 rfl rfl <| a7k rfl rfl <| A5 rfl rfl ?_
  refine D8 rfl rfl ?_ ?_ <;> intro hg0 <;> have hg := hg0 <;> try simp only [SG] at hg
  ·refine A5 rfl rfl <| gT rfl rfl ?_
   have hp0 : 0 < (ps.getD i default).length := List.length_pos_iff.2 (by assumption)
   refine O2 (n := 0) rfl rfl rfl hp0 <| gT rfl rfl <| Q1 rfl rfl <| G1 rfl (by assumption) rfl rfl <| A4 rfl rfl rfl <| xN [4,5,6,7,8] [4,5] rfl <| A3 <| A3 <| A0 <| A5 rfl rfl <| xN [4,5,6,7,8,31] [4,5] rfl ?_
   refine A7 rfl ?_ ?_ <;> intro hc <;> try simp only [SL] at hc
   ·obtain ⟨hng, hup⟩ := d5b (p := (ps.getD i default)) (by assumption) (by omega)
    have hul := b8n (ps.getD i default)
    rw [hup] at hul
    refine A0 <| A5 rfl rfl <| T7 rfl rfl I0 (H7 (n := 1) rfl) (by omega) <| A4 rfl rfl rfl <| xN [4,5,6,7,8] [4,5] rfl <| A3 <| A0 <| A4 rfl rfl rfl <| xN [4,5,6,7,8,9] [4,5] rfl <| A3 <| A3 <| A0 <| A4 rfl rfl rfl <| xN [4,5,6,7,8,9,10] [4,5] rfl <| C5 ?_
    have hup0 := hup
    refine H3 (β := Nat × Int) [(.t 4, _), (.t 5, _), (.t 6, _), (.t 7, _), (.t 8, _), (.h 4, _), (.h 5, _)] (fun (z : Nat × Int) => match z with | (k, a) => [(.t 10, iV k), (.t 9, iV a)]) (fun (z : Nat × Int) => match z with | (k, a) => k ≤ (unS (ps.getD i default)).length ∧ 0 ≤ a ∧ U9 0 ((unS (ps.getD i default)).take k) = some a.toNat) (fun (z : Nat × Int) => match z with | (k, a) => (unS (ps.getD i default)).length - k) (0, 0) ⟨rfl, rfl, rfl, rfl, rfl, rfl, rfl, rfl, rfl, trivial⟩ ⟨Nat.zero_le _, by decide, rfl⟩ ?_
    intro z hb
    obtain ⟨k, a⟩ := z
    try dsimp only at hb
    obtain ⟨hk1, ha0, hdg⟩ := hb
    have hab := b1f (by decide) hdg
    rw [hup] at hk1 hdg
    refine A3 <| A3 <| A0 <| A5 rfl rfl <| A5 rfl rfl <| a1j rfl rfl <| I3 rfl rfl <| xN [4,5,6,7,8,9,10,37] [4,5] rfl ?_
    refine A7 rfl ?_ ?_ <;> intro hc <;> try simp only [SL] at hc
    ·refine B5 <| A3 <| C5 <| A3 <| A3 <| A0 <| A5 rfl rfl <| A5 rfl rfl <| O2 rfl rfl rfl (by omega) <| I3 rfl rfl <| A5 rfl rfl ?_
     refine D8 rfl rfl ?_ ?_ <;> intro hg0 <;> have hg := hg0 <;> try simp only [SG] at hg
     ·refine A5 rfl rfl <| gT rfl rfl <| A5 rfl rfl <| gT rfl rfl <| O2 rfl rfl rfl (by omega) <| gT rfl rfl <| Y5 rfl rfl <| F8 rfl (by assumption) rfl rfl <| A5 rfl rfl ?_
      refine D8 rfl rfl ?_ ?_ <;> intro hg0 <;> have hg := hg0 <;> try simp only [SG] at hg
      ·refine A5 rfl rfl <| gT rfl rfl <| Y5 rfl rfl <| F8 rfl (by assumption) rfl rfl <| xN [4,5,6,7,8,9,10,53] [4,5] rfl ?_
       refine A7 rfl ?_ ?_ <;> intro hc <;> try simp only [SL] at hc
       ·refine A3 <| A0 ?_
        (refine C3 rfl rfl (fun _ => rfl) ?_; intro g2)
        refine A4 rfl rfl rfl <| xN [2,3] [2] rfl <| B4 <| D4 (H5 rfl rfl (by simp) (by rfl) (D9 rfl rfl (E8 C6))) ?_
        rw [rdL, ← hps, K9 (show i < ps.length by omega) (V0 (by rw [hup]; exact S1 (by omega) hdg (by omega)))]
        rfl
       refine B5 <| A0 <| A5 rfl rfl <| b0f rfl rfl (E7 (by omega)) <| A5 rfl rfl <| A5 rfl rfl <| O2 rfl rfl rfl (by omega) <| a1f rfl rfl (d4s (by omega)) <| a8m rfl rfl rfl (E7 (by omega)) <| G9 rfl rfl (E7 (by omega)) <| A4 rfl rfl rfl <| xN [4,5,6,7,8,9,10] [4,5] rfl <| A0 <| A5 rfl rfl <| G9 rfl rfl (E7 (by omega)) <| A4 rfl rfl rfl <| xN [4,5,6,7,8,9,10] [4,5] rfl ?_
       refine ⟨(k + 1, _), ?_, (by simp only [hup]; omega), ⟨rfl, rfl, rfl, rfl, rfl, rfl, rfl, rfl, rfl, trivial⟩⟩
       rw [hup]
       have hds := a8o (by omega) hdg (by omega)
       exact ⟨by omega, by omega, hds.trans (congrArg some (by omega))⟩
      refine gF rfl rfl <| G1 rfl (by assumption) rfl rfl <| xN [4,5,6,7,8,9,10,53] [4,5] rfl ?_
      refine A7 rfl (fun hc => ?_) (fun hc => absurd hc (by decide))
      refine A3 <| A0 ?_
      (refine C3 rfl rfl (fun _ => rfl) ?_; intro g2)
      refine A4 rfl rfl rfl <| xN [2,3] [2] rfl <| B4 <| D4 (H5 rfl rfl (by simp) (by rfl) (D9 rfl rfl (E8 C6))) ?_
      rw [rdL, ← hps, K9 (show i < ps.length by omega) (V0 (by rw [hup]; exact S1 (by omega) hdg (by omega)))]
      rfl
     refine gF rfl rfl <| gF rfl rfl <| gF rfl rfl <| G1 rfl (by assumption) rfl rfl <| A5 rfl rfl <| J3 rfl rfl rfl <| J3 rfl rfl rfl <| G1 rfl rfl rfl rfl <| xN [4,5,6,7,8,9,10,53] [4,5] rfl ?_
     refine A7 rfl (fun hc => ?_) (fun hc => absurd hc (by decide))
     refine A3 <| A0 ?_
     (refine C3 rfl rfl (fun _ => rfl) ?_; intro g2)
     refine A4 rfl rfl rfl <| xN [2,3] [2] rfl <| B4 <| D4 (H5 rfl rfl (by simp) (by rfl) (D9 rfl rfl (E8 C6))) ?_
     rw [rdL, ← hps, K9 (show i < ps.length by omega) (V0 (by rw [hup]; exact S1 (by omega) hdg (by omega)))]
     rfl
    have hdU : U9 0 (unS (ps.getD i default)) = some a.toNat := by rw [hup]; rw [List.take_of_length_le (by omega)] at hdg; exact hdg
    refine H1 <| A3 <| A3 <| A0 <| A5 rfl rfl <| xN [4,5,6,7,9,62] [4,5] rfl ?_
    refine A7 rfl (fun hc => ?_) (fun hc => absurd hc (by simp_all))
    refine A0 <| A5 rfl rfl <| d3e rfl (E7 (by omega)) <| A4 rfl rfl rfl <| xN [4,5,6,7,9] [4,5] rfl <| A3 <| A3 <| A0 <| A5 rfl rfl <| R4 rfl rfl <| A5 rfl rfl ?_
    refine D8 rfl rfl ?_ ?_ <;> intro hg0 <;> have hg := hg0 <;> try simp only [SG] at hg
    ·refine A5 rfl rfl <| gT rfl rfl ?_
     have hdl1 := U0 (m := -a) (by omega)
     have hdl2 := U0 (m := a) (by omega)
     apply xC rfl
     ·apply A9
      ·exact B2 rfl
      exact C4
     ·exact a4u (-a) (by omega)
     refine ⟨⟨rfl, rfl, rfl, dT rfl, rfl⟩, .inl rfl, B0, B6 rfl, fun _ => rfl, fun g69 => ?_⟩
     refine gT rfl rfl <| A5 rfl rfl <| gT rfl rfl <| A5 rfl rfl <| gT rfl rfl <| H9 rfl rfl rfl rfl (by omega) (by (simp; done)) rfl <| gT rfl rfl <| I9 rfl rfl (by omega) (fun _ => rfl) (fun _ => rfl) rfl <| gT rfl rfl <| a7k rfl rfl <| F8 rfl (by assumption) rfl rfl ?_
     refine P7 ⟨fun _ => ⟨by (simp only [a1p, List.nil_append, List.append_nil, List.map_cons, List.map_nil, List.cons_append]; decide +kernel), by decide +kernel⟩, [(.t 4, _), (.t 5, _), (.t 6, _), (.t 9, _), (.t 75, _), (.h 4, _), (.h 5, _)], ⟨rfl, rfl, rfl, rfl, rfl, rfl, rfl, rfl, rfl, rfl, rfl, rfl, rfl, rfl, trivial⟩, ?_⟩
     refine A7 rfl ?_ ?_ <;> intro hc <;> try simp only [SL] at hc
     ·refine A3 <| A0 ?_
      (refine C3 rfl rfl (fun _ => rfl) ?_; intro g2)
      refine A4 rfl rfl rfl <| xN [2,3] [2] rfl <| B4 <| D4 (H5 rfl rfl (by simp) (by rfl) (D9 rfl rfl (E8 C6))) ?_
      have hno : rdI (ps.getD i default) = none := by exact a9g (m := -a) hdU (by (rw [hng, if_pos rfl]; omega)) (by exact .inr (by assumption))
      rw [rdL, ← hps, K9 (show i < ps.length by omega) hno]
      rfl
     have hri := c2j (m := -a) hdU (by (rw [hng, if_pos rfl]; omega)) (by rw [hup]; assumption) (by assumption)
     refine B5 <| A0 <| A5 rfl rfl <| A5 rfl rfl <| C8 (es := List.map iV [_]) rfl rfl (dT rfl) rfl rfl (fun _ => B1 (A8 fun _ => rfl)) (fun _ => rfl) ?_
     intro g78
     refine G6 rfl rfl rfl rfl (by (simp; done)) (by simp) (by decide) rfl rfl rfl rfl (dT rfl) (fun _ => ⟨rfl, rfl⟩) (by simp only [H2]; (simp only [List.length_nil, List.length_cons, List.length_append, Nat.zero_add, List.length_map]; omega)) (fun _ => rfl) ?_
     intro g79
     (refine B8 rfl rfl (by (simp; done)) rfl (fun _ => (B1 (by exact A8 fun _ => rfl))) (fun _ => rfl) ?_; intro g4)
     refine xN [4,5,6] [4,5] rfl <| A0 <| A5 rfl rfl <| G9 rfl rfl (E7 (by omega)) <| A4 rfl rfl rfl <| xN [4,5,6] [4,5] rfl ?_
     refine ⟨(i + 1, ns ++ [-a], _), ?_, (by simp only; omega), ⟨rfl, rfl, rfl, rfl, rfl, trivial⟩⟩
     exact ⟨by omega, a8u (by omega) hrd hri⟩
    iterate 6 refine gF rfl rfl ?_
    refine G1 rfl (by assumption) rfl rfl ?_
    refine P7 ⟨fun _ => ⟨by decide +kernel, by decide +kernel⟩, [(.t 4, _), (.t 5, _), (.t 6, _), (.t 9, _), (.t 75, _), (.h 4, _), (.h 5, _)], ⟨rfl, rfl, rfl, rfl, rfl, rfl, rfl, rfl, rfl, rfl, rfl, rfl, rfl, rfl, trivial⟩, ?_⟩
    refine A7 rfl (fun hc => ?_) (fun hc => absurd hc (by decide))
    refine A3 <| A0 ?_
    (refine C3 rfl rfl (fun _ => rfl) ?_; intro g2)
    refine A4 rfl rfl rfl <| xN [2,3] [2] rfl <| B4 <| D4 (H5 rfl rfl (by simp) (by rfl) (D9 rfl rfl (E8 C6))) ?_
    have hno : rdI (ps.getD i default) = none := by exact a9g (m := -a) hdU (by (rw [hng, if_pos rfl]; omega)) (by exact .inl (by rw [hup]; assumption))
    rw [rdL, ← hps, K9 (show i < ps.length by omega) hno]
    rfl
   obtain ⟨hng, hup⟩ := d3j (p := (ps.getD i default)) (by exact .inr (by omega))
   have hul := b8n (ps.getD i default)
   rw [hup] at hul
   refine B5 <| A3 <| A0 <| A4 rfl rfl rfl <| xN [4,5,6,7,8,9] [4,5] rfl <| A3 <| A3 <| A0 <| A4 rfl rfl rfl <| xN [4,5,6,7,8,9,10] [4,5] rfl <| C5 ?_
   have hup0 := hup
   refine H3 (β := Nat × Int) [(.t 4, _), (.t 5, _), (.t 6, _), (.t 7, _), (.t 8, _), (.h 4, _), (.h 5, _)] (fun (z : Nat × Int) => match z with | (k, a) => [(.t 10, iV k), (.t 9, iV a)]) (fun (z : Nat × Int) => match z with | (k, a) => k ≤ (unS (ps.getD i default)).length ∧ 0 ≤ a ∧ U9 0 ((unS (ps.getD i default)).take k) = some a.toNat) (fun (z : Nat × Int) => match z with | (k, a) => (unS (ps.getD i default)).length - k) (0, 0) ⟨rfl, rfl, rfl, rfl, rfl, rfl, rfl, rfl, rfl, trivial⟩ ⟨Nat.zero_le _, by decide, rfl⟩ ?_
   intro z hb
   obtain ⟨k, a⟩ := z
   try dsimp only at hb
   obtain ⟨hk1, ha0, hdg⟩ := hb
   have hab := b1f (by decide) hdg
   rw [hup] at hk1 hdg
   refine A3 <| A3 <| A0 <| A5 rfl rfl <| A5 rfl rfl <| a1j rfl rfl <| I3 rfl rfl <| xN [4,5,6,7,8,9,10,37] [4,5] rfl ?_
   refine A7 rfl ?_ ?_ <;> intro hc <;> try simp only [SL] at hc
   ·refine B5 <| A3 <| C5 <| A3 <| A3 <| A0 <| A5 rfl rfl <| A5 rfl rfl <| O2 rfl rfl rfl (by omega) <| I3 rfl rfl <| A5 rfl rfl ?_
    refine D8 rfl rfl ?_ ?_ <;> intro hg0 <;> have hg := hg0 <;> try simp only [SG] at hg
    ·refine A5 rfl rfl <| gT rfl rfl <| A5 rfl rfl <| gT rfl rfl <| O2 rfl rfl rfl (by omega) <| gT rfl rfl <| Y5 rfl rfl <| F8 rfl (by assumption) rfl rfl <| A5 rfl rfl ?_
     refine D8 rfl rfl ?_ ?_ <;> intro hg0 <;> have hg := hg0 <;> try simp only [SG] at hg
     ·refine A5 rfl rfl <| gT rfl rfl <| Y5 rfl rfl <| F8 rfl (by assumption) rfl rfl <| xN [4,5,6,7,8,9,10,53] [4,5] rfl ?_
      refine A7 rfl ?_ ?_ <;> intro hc <;> try simp only [SL] at hc
      ·refine A3 <| A0 ?_
       (refine C3 rfl rfl (fun _ => rfl) ?_; intro g2)
       refine A4 rfl rfl rfl <| xN [2,3] [2] rfl <| B4 <| D4 (H5 rfl rfl (by simp) (by rfl) (D9 rfl rfl (E8 C6))) ?_
       rw [rdL, ← hps, K9 (show i < ps.length by omega) (V0 (by rw [hup]; exact S1 (by omega) hdg (by omega)))]
       rfl
      refine B5 <| A0 <| A5 rfl rfl <| b0f rfl rfl (E7 (by omega)) <| A5 rfl rfl <| A5 rfl rfl <| O2 rfl rfl rfl (by omega) <| a1f rfl rfl (d4s (by omega)) <| a8m rfl rfl rfl (E7 (by omega)) <| G9 rfl rfl (E7 (by omega)) <| A4 rfl rfl rfl <| xN [4,5,6,7,8,9,10] [4,5] rfl <| A0 <| A5 rfl rfl <| G9 rfl rfl (E7 (by omega)) <| A4 rfl rfl rfl <| xN [4,5,6,7,8,9,10] [4,5] rfl ?_
      refine ⟨(k + 1, _), ?_, (by simp only [hup]; omega), ⟨rfl, rfl, rfl, rfl, rfl, rfl, rfl, rfl, rfl, trivial⟩⟩
      rw [hup]
      have hds := a8o (by omega) hdg (by omega)
      exact ⟨by omega, by omega, hds.trans (congrArg some (by omega))⟩
     refine gF rfl rfl <| G1 rfl (by assumption) rfl rfl <| xN [4,5,6,7,8,9,10,53] [4,5] rfl ?_
     refine A7 rfl (fun hc => ?_) (fun hc => absurd hc (by decide))
     refine A3 <| A0 ?_
     (refine C3 rfl rfl (fun _ => rfl) ?_; intro g2)
     refine A4 rfl rfl rfl <| xN [2,3] [2] rfl <| B4 <| D4 (H5 rfl rfl (by simp) (by rfl) (D9 rfl rfl (E8 C6))) ?_
     rw [rdL, ← hps, K9 (show i < ps.length by omega) (V0 (by rw [hup]; exact S1 (by omega) hdg (by omega)))]
     rfl
    refine gF rfl rfl <| gF rfl rfl <| gF rfl rfl <| G1 rfl (by assumption) rfl rfl <| A5 rfl rfl <| J3 rfl rfl rfl <| J3 rfl rfl rfl <| G1 rfl rfl rfl rfl <| xN [4,5,6,7,8,9,10,53] [4,5] rfl ?_
    refine A7 rfl (fun hc => ?_) (fun hc => absurd hc (by decide))
    refine A3 <| A0 ?_
    (refine C3 rfl rfl (fun _ => rfl) ?_; intro g2)
    refine A4 rfl rfl rfl <| xN [2,3] [2] rfl <| B4 <| D4 (H5 rfl rfl (by simp) (by rfl) (D9 rfl rfl (E8 C6))) ?_
    rw [rdL, ← hps, K9 (show i < ps.length by omega) (V0 (by rw [hup]; exact S1 (by omega) hdg (by omega)))]
    rfl
   have hdU : U9 0 (unS (ps.getD i default)) = some a.toNat := by rw [hup]; rw [List.take_of_length_le (by omega)] at hdg; exact hdg
   refine H1 <| A3 <| A3 <| A0 <| A5 rfl rfl <| xN [4,5,6,7,9,62] [4,5] rfl ?_
   refine A7 rfl (fun hc => absurd hc (by simp_all)) (fun hc => ?_)
   refine B5 <| A3 <| A3 <| A0 <| A5 rfl rfl <| R4 rfl rfl <| A5 rfl rfl ?_
   refine D8 rfl rfl ?_ ?_ <;> intro hg0 <;> have hg := hg0 <;> try simp only [SG] at hg
   ·refine A5 rfl rfl <| gT rfl rfl ?_
    have hdl1 := U0 (m := -a) (by omega)
    have hdl2 := U0 (m := a) (by omega)
    apply xC rfl
    ·apply A9
     ·exact B2 rfl
     exact C4
    ·exact a4u a (by omega)
    refine ⟨⟨rfl, rfl, rfl, dT rfl, rfl⟩, .inl rfl, B0, B6 rfl, fun _ => rfl, fun g69 => ?_⟩
    refine gT rfl rfl <| A5 rfl rfl <| gT rfl rfl <| A5 rfl rfl <| gT rfl rfl <| H9 rfl rfl rfl rfl (by omega) (by (simp; done)) rfl <| gT rfl rfl <| I9 rfl rfl (by omega) (fun _ => rfl) (fun _ => rfl) rfl <| gT rfl rfl <| a7k rfl rfl <| F8 rfl (by assumption) rfl rfl ?_
    refine P7 ⟨fun _ => ⟨by (simp only [a1p, List.nil_append, List.append_nil, List.map_cons, List.map_nil, List.cons_append]; decide +kernel), by decide +kernel⟩, [(.t 4, _), (.t 5, _), (.t 6, _), (.t 9, _), (.t 75, _), (.h 4, _), (.h 5, _)], ⟨rfl, rfl, rfl, rfl, rfl, rfl, rfl, rfl, rfl, rfl, rfl, rfl, rfl, rfl, trivial⟩, ?_⟩
    refine A7 rfl ?_ ?_ <;> intro hc <;> try simp only [SL] at hc
    ·refine A3 <| A0 ?_
     (refine C3 rfl rfl (fun _ => rfl) ?_; intro g2)
     refine A4 rfl rfl rfl <| xN [2,3] [2] rfl <| B4 <| D4 (H5 rfl rfl (by simp) (by rfl) (D9 rfl rfl (E8 C6))) ?_
     have hno : rdI (ps.getD i default) = none := by exact a9g (m := a) hdU (by (rw [hng, if_neg (by decide)]; omega)) (by exact .inr (by assumption))
     rw [rdL, ← hps, K9 (show i < ps.length by omega) hno]
     rfl
    have hri := c2j (m := a) hdU (by (rw [hng, if_neg (by decide)]; omega)) (by rw [hup]; assumption) (by assumption)
    refine B5 <| A0 <| A5 rfl rfl <| A5 rfl rfl <| C8 (es := List.map iV [_]) rfl rfl (dT rfl) rfl rfl (fun _ => B1 (A8 fun _ => rfl)) (fun _ => rfl) ?_
    intro g78
    refine G6 rfl rfl rfl rfl (by (simp; done)) (by simp) (by decide) rfl rfl rfl rfl (dT rfl) (fun _ => ⟨rfl, rfl⟩) (by simp only [H2]; (simp only [List.length_nil, List.length_cons, List.length_append, Nat.zero_add, List.length_map]; omega)) (fun _ => rfl) ?_
    intro g79
    (refine B8 rfl rfl (by (simp; done)) rfl (fun _ => (B1 (by exact A8 fun _ => rfl))) (fun _ => rfl) ?_; intro g4)
    refine xN [4,5,6] [4,5] rfl <| A0 <| A5 rfl rfl <| G9 rfl rfl (E7 (by omega)) <| A4 rfl rfl rfl <| xN [4,5,6] [4,5] rfl ?_
    refine ⟨(i + 1, ns ++ [a], _), ?_, (by simp only; omega), ⟨rfl, rfl, rfl, rfl, rfl, trivial⟩⟩
    exact ⟨by omega, a8u (by omega) hrd hri⟩
   iterate 6 refine gF rfl rfl ?_
   refine G1 rfl (by assumption) rfl rfl ?_
   refine P7 ⟨fun _ => ⟨by decide +kernel, by decide +kernel⟩, [(.t 4, _), (.t 5, _), (.t 6, _), (.t 9, _), (.t 75, _), (.h 4, _), (.h 5, _)], ⟨rfl, rfl, rfl, rfl, rfl, rfl, rfl, rfl, rfl, rfl, rfl, rfl, rfl, rfl, trivial⟩, ?_⟩
   refine A7 rfl (fun hc => ?_) (fun hc => absurd hc (by decide))
   refine A3 <| A0 ?_
   (refine C3 rfl rfl (fun _ => rfl) ?_; intro g2)
   refine A4 rfl rfl rfl <| xN [2,3] [2] rfl <| B4 <| D4 (H5 rfl rfl (by simp) (by rfl) (D9 rfl rfl (E8 C6))) ?_
   have hno : rdI (ps.getD i default) = none := by exact a9g (m := a) hdU (by (rw [hng, if_neg (by decide)]; omega)) (by exact .inl (by rw [hup]; assumption))
   rw [rdL, ← hps, K9 (show i < ps.length by omega) hno]
   rfl
  refine gF rfl rfl <| gF rfl rfl <| F8 rfl (by assumption) rfl rfl <| A4 rfl rfl rfl <| xN [4,5,6,7,8] [4,5] rfl <| A3 <| A3 <| A0 <| A5 rfl rfl <| xN [4,5,6,7,8,31] [4,5] rfl ?_
  refine A7 rfl (fun hc => absurd hc (by decide)) (fun hc => ?_)
  refine B5 <| A3 <| A0 <| A4 rfl rfl rfl <| xN [4,5,6,7,8,9] [4,5] rfl <| A3 <| A3 <| A0 <| A4 rfl rfl rfl <| xN [4,5,6,7,8,9,10] [4,5] rfl <| C5 ?_
  (obtain ⟨hng, hup⟩ := d3j (p := (ps.getD i default)) (.inl (by assumption)); have hul := b8n (ps.getD i default); rw [hup] at hul)
  refine H3 (β := Nat × Int) [(.t 4, _), (.t 5, _), (.t 6, _), (.t 7, _), (.t 8, _), (.h 4, _), (.h 5, _)] (fun (z : Nat × Int) => match z with | (k, a) => [(.t 10, iV k), (.t 9, iV a)]) (fun (z : Nat × Int) => match z with | (k, a) => k ≤ (unS (ps.getD i default)).length ∧ 0 ≤ a ∧ U9 0 ((unS (ps.getD i default)).take k) = some a.toNat) (fun (z : Nat × Int) => match z with | (k, a) => (unS (ps.getD i default)).length - k) (0, 0) ⟨rfl, rfl, rfl, rfl, rfl, rfl, rfl, rfl, rfl, trivial⟩ ⟨Nat.zero_le _, by decide, rfl⟩ ?_
  intro z hb
  obtain ⟨k, a⟩ := z
  try dsimp only at hb
  obtain ⟨hk1, ha0, hdg⟩ := hb
  have hab := b1f (by decide) hdg
  rw [hup] at hk1 hdg
  refine A3 <| A3 <| A0 <| A5 rfl rfl <| A5 rfl rfl <| a1j rfl rfl <| I3 rfl rfl <| xN [4,5,6,7,8,9,10,37] [4,5] rfl ?_
  refine A7 rfl ?_ ?_ <;> intro hc <;> try simp only [SL] at hc
  ·refine B5 <| A3 <| C5 <| A3 <| A3 <| A0 <| A5 rfl rfl <| A5 rfl rfl <| O2 rfl rfl rfl (by omega) <| I3 rfl rfl <| A5 rfl rfl ?_
   refine D8 rfl rfl ?_ ?_ <;> intro hg0 <;> have hg := hg0 <;> try simp only [SG] at hg
   ·refine A5 rfl rfl <| gT rfl rfl <| A5 rfl rfl <| gT rfl rfl <| O2 rfl rfl rfl (by omega) <| gT rfl rfl <| Y5 rfl rfl <| F8 rfl (by assumption) rfl rfl <| A5 rfl rfl ?_
    refine D8 rfl rfl ?_ ?_ <;> intro hg0 <;> have hg := hg0 <;> try simp only [SG] at hg
    ·refine A5 rfl rfl <| gT rfl rfl <| Y5 rfl rfl <| F8 rfl (by assumption) rfl rfl <| xN [4,5,6,7,8,9,10,53] [4,5] rfl ?_
     refine A7 rfl ?_ ?_ <;> intro hc <;> try simp only [SL] at hc
     ·refine A3 <| A0 ?_
      (refine C3 rfl rfl (fun _ => rfl) ?_; intro g2)
      refine A4 rfl rfl rfl <| xN [2,3] [2] rfl <| B4 <| D4 (H5 rfl rfl (by simp) (by rfl) (D9 rfl rfl (E8 C6))) ?_
      rw [rdL, ← hps, K9 (show i < ps.length by omega) (V0 (by rw [hup]; exact S1 (by omega) hdg (by omega)))]
      rfl
     refine B5 <| A0 <| A5 rfl rfl <| b0f rfl rfl (E7 (by omega)) <| A5 rfl rfl <| A5 rfl rfl <| O2 rfl rfl rfl (by omega) <| a1f rfl rfl (d4s (by omega)) <| a8m rfl rfl rfl (E7 (by omega)) <| G9 rfl rfl (E7 (by omega)) <| A4 rfl rfl rfl <| xN [4,5,6,7,8,9,10] [4,5] rfl <| A0 <| A5 rfl rfl <| G9 rfl rfl (E7 (by omega)) <| A4 rfl rfl rfl <| xN [4,5,6,7,8,9,10] [4,5] rfl ?_
     refine ⟨(k + 1, _), ?_, (by simp only [hup]; omega), ⟨rfl, rfl, rfl, rfl, rfl, rfl, rfl, rfl, rfl, trivial⟩⟩
     rw [hup]
     have hds := a8o (by omega) hdg (by omega)
     exact ⟨by omega, by omega, hds.trans (congrArg some (by omega))⟩
    refine gF rfl rfl <| G1 rfl (by assumption) rfl rfl <| xN [4,5,6,7,8,9,10,53] [4,5] rfl ?_
    refine A7 rfl (fun hc => ?_) (fun hc => absurd hc (by decide))
    refine A3 <| A0 ?_
    (refine C3 rfl rfl (fun _ => rfl) ?_; intro g2)
    refine A4 rfl rfl rfl <| xN [2,3] [2] rfl <| B4 <| D4 (H5 rfl rfl (by simp) (by rfl) (D9 rfl rfl (E8 C6))) ?_
    rw [rdL, ← hps, K9 (show i < ps.length by omega) (V0 (by rw [hup]; exact S1 (by omega) hdg (by omega)))]
    rfl
   refine gF rfl rfl <| gF rfl rfl <| gF rfl rfl <| G1 rfl (by assumption) rfl rfl <| A5 rfl rfl <| J3 rfl rfl rfl <| J3 rfl rfl rfl <| G1 rfl rfl rfl rfl <| xN [4,5,6,7,8,9,10,53] [4,5] rfl ?_
   refine A7 rfl (fun hc => ?_) (fun hc => absurd hc (by decide))
   refine A3 <| A0 ?_
   (refine C3 rfl rfl (fun _ => rfl) ?_; intro g2)
   refine A4 rfl rfl rfl <| xN [2,3] [2] rfl <| B4 <| D4 (H5 rfl rfl (by simp) (by rfl) (D9 rfl rfl (E8 C6))) ?_
   rw [rdL, ← hps, K9 (show i < ps.length by omega) (V0 (by rw [hup]; exact S1 (by omega) hdg (by omega)))]
   rfl
  have hdU : U9 0 (unS (ps.getD i default)) = some a.toNat := by rw [hup]; rw [List.take_of_length_le (by omega)] at hdg; exact hdg
  refine H1 <| A3 <| A3 <| A0 <| A5 rfl rfl <| xN [4,5,6,7,9,62] [4,5] rfl ?_
  refine A7 rfl (fun hc => absurd hc (by decide)) (fun hc => ?_)
  refine B5 <| A3 <| A3 <| A0 <| A5 rfl rfl <| R4 rfl rfl <| A5 rfl rfl ?_
  refine D8 rfl rfl ?_ ?_ <;> intro hg0 <;> have hg := hg0 <;> try simp only [SG] at hg
  ·refine A5 rfl rfl <| gT rfl rfl ?_
   have hdl1 := U0 (m := -a) (by omega)
   have hdl2 := U0 (m := a) (by omega)
   apply xC rfl
   ·apply A9
    ·exact B2 rfl
    exact C4
   ·exact a4u a (by omega)
   refine ⟨⟨rfl, rfl, rfl, dT rfl, rfl⟩, .inl rfl, B0, B6 rfl, fun _ => rfl, fun g69 => ?_⟩
   refine gT rfl rfl <| A5 rfl rfl <| gT rfl rfl <| A5 rfl rfl <| gT rfl rfl <| H9 rfl rfl rfl rfl (by omega) (by (simp; done)) rfl <| gT rfl rfl <| I9 rfl rfl (by omega) (fun _ => rfl) (fun _ => rfl) rfl <| gT rfl rfl <| a7k rfl rfl <| F8 rfl (by assumption) rfl rfl ?_
   refine P7 ⟨fun _ => ⟨by (simp only [a1p, List.nil_append, List.append_nil, List.map_cons, List.map_nil, List.cons_append]; decide +kernel), by decide +kernel⟩, [(.t 4, _), (.t 5, _), (.t 6, _), (.t 9, _), (.t 75, _), (.h 4, _), (.h 5, _)], ⟨rfl, rfl, rfl, rfl, rfl, rfl, rfl, rfl, rfl, rfl, rfl, rfl, rfl, rfl, trivial⟩, ?_⟩
   refine A7 rfl ?_ ?_ <;> intro hc <;> try simp only [SL] at hc
   ·refine A3 <| A0 ?_
    (refine C3 rfl rfl (fun _ => rfl) ?_; intro g2)
    refine A4 rfl rfl rfl <| xN [2,3] [2] rfl <| B4 <| D4 (H5 rfl rfl (by simp) (by rfl) (D9 rfl rfl (E8 C6))) ?_
    have hno : rdI (ps.getD i default) = none := by exact a9g (m := a) hdU (by (rw [hng, if_neg (by decide)]; omega)) (by exact .inl (by rw [hup]; assumption))
    rw [rdL, ← hps, K9 (show i < ps.length by omega) hno]
    rfl
   have hri := c2j (m := a) hdU (by (rw [hng, if_neg (by decide)]; omega)) (by rw [hup]; assumption) (by assumption)
   refine B5 <| A0 <| A5 rfl rfl <| A5 rfl rfl <| C8 (es := List.map iV [_]) rfl rfl (dT rfl) rfl rfl (fun _ => B1 (A8 fun _ => rfl)) (fun _ => rfl) ?_
   intro g78
   refine G6 rfl rfl rfl rfl (by (simp; done)) (by simp) (by decide) rfl rfl rfl rfl (dT rfl) (fun _ => ⟨rfl, rfl⟩) (by simp only [H2]; (simp only [List.length_nil, List.length_cons, List.length_append, Nat.zero_add, List.length_map]; omega)) (fun _ => rfl) ?_
   intro g79
   (refine B8 rfl rfl (by (simp; done)) rfl (fun _ => (B1 (by exact A8 fun _ => rfl))) (fun _ => rfl) ?_; intro g4)
   refine xN [4,5,6] [4,5] rfl <| A0 <| A5 rfl rfl <| G9 rfl rfl (E7 (by omega)) <| A4 rfl rfl rfl <| xN [4,5,6] [4,5] rfl ?_
   refine ⟨(i + 1, ns ++ [a], _), ?_, (by simp only; omega), ⟨rfl, rfl, rfl, rfl, rfl, trivial⟩⟩
   exact ⟨by omega, a8u (by omega) hrd hri⟩
  iterate 6 refine gF rfl rfl ?_
  refine G1 rfl (by assumption) rfl rfl ?_
  refine P7 ⟨fun _ => ⟨by decide +kernel, by decide +kernel⟩, [(.t 4, _), (.t 5, _), (.t 6, _), (.t 9, _), (.t 75, _), (.h 4, _), (.h 5, _)], ⟨rfl, rfl, rfl, rfl, rfl, rfl, rfl, rfl, rfl, rfl, rfl, rfl, rfl, rfl, trivial⟩, ?_⟩
  refine A7 rfl (fun hc => ?_) (fun hc => absurd hc (by decide))
  refine A3 <| A0 ?_
  (refine C3 rfl rfl (fun _ => rfl) ?_; intro g2)
  refine A4 rfl rfl rfl <| xN [2,3] [2] rfl <| B4 <| D4 (H5 rfl rfl (by simp) (by rfl) (D9 rfl rfl (E8 C6))) ?_
  have hno : rdI (ps.getD i default) = none := by exact a9g (m := a) hdU (by (rw [hng, if_neg (by decide)]; omega)) (by exact .inl (by rw [hup]; assumption))
  rw [rdL, ← hps, K9 (show i < ps.length by omega) hno]
  rfl
 refine H1 <| A3 <| A0 <| A5 rfl rfl ?_
 (refine B8 rfl rfl (by (simp; done)) rfl (fun _ => (B1 (by exact A8 fun _ => rfl))) (fun _ => rfl) ?_; intro g2)
 refine A4 rfl rfl rfl <| xN [2,3] [2] rfl <| B4 <| D4 (H5 rfl rfl (by simp) (by exact A8 fun _ => rfl) (D9 rfl rfl (E8 C6))) ?_
 have hil : i = ps.length := by omega
 rw [hil, List.take_length] at hrd
 rw [rdL, ← hps, hrd]
 rfl

theorem keep_s_readNums : G0 Tryz.f85 = [0, 2, 3, 4, 22, 24, 5, 6] := by kernel_rfl
set_option maxHeartbeats 20000000 in
theorem c3e (s : List UInt8) (hs : s.length ≤ 1048576) : CW (cxT oG) 85 [tV s] = some (.tup [.own 1 ((b8x s).map iV), bV (numsOf s).isSome], []) := by
 refine F9 rfl Tryz.func85 rfl ⟨by kernel_rfl, rfl, dT rfl, dT rfl, by decide⟩ keep_s_readNums <| A3 <| A0 ?_
 (refine C3 rfl rfl (fun _ => rfl) ?_; intro g2)
 refine A4 rfl rfl rfl <| xN [0] [] rfl <| A3 <| A0 <| A5 rfl rfl <| a1j rfl rfl <| A4 rfl rfl rfl <| xN [0,4] [] rfl <| A3 <| A3 <| A0 <| A5 rfl rfl <| I3 rfl rfl <| A5 rfl rfl ?_
 refine D8 rfl rfl ?_ ?_ <;> intro hg0 <;> have hg := hg0 <;> try simp only [SG] at hg
 ·refine A5 rfl rfl <| gT rfl rfl <| O2 (n := 0) rfl rfl rfl (by omega) <| gT rfl rfl <| b8z rfl rfl <| F8 rfl (by assumption) rfl rfl <| A5 rfl rfl ?_
  refine D8 rfl rfl ?_ ?_ <;> intro hg0 <;> have hg := hg0 <;> try simp only [SG] at hg
  ·refine A5 rfl rfl <| gT rfl rfl <| A5 rfl rfl <| gT rfl rfl <| a1f rfl rfl (E7 (by omega)) <| gT rfl rfl ?_
   rw [show ((s.length : Int) - 1) = ((s.length - 1 : Nat) : Int) by omega]
   refine O2 rfl rfl rfl (by omega) <| gT rfl rfl <| b8z rfl rfl <| F8 rfl (by assumption) rfl rfl <| xN [0,4,22] [] rfl ?_
   refine A7 rfl ?_ ?_ <;> intro hc <;> try simp only [SL] at hc
   ·refine A3 <| A0 ?_
    (refine C3 rfl rfl (fun _ => rfl) ?_; intro g2)
    refine A4 rfl rfl rfl <| xN [2,3] [2] rfl <| B4 <| D4 (H5 rfl rfl (by simp) (by rfl) (D9 rfl rfl (E8 C6))) ?_
    obtain ⟨hn1, hn2⟩ := a5f (s := s) (by exact .inr (.inr (by omega)))
    rw [hn1, hn2]
    rfl
   have hin := c6l (s := s) (by omega) (by omega) (by omega)
   refine B5 <| A3 <| A3 <| A0 <| A5 rfl rfl <| Q1 rfl rfl <| xN [0,4,24] [] rfl ?_
   refine A7 rfl ?_ ?_ <;> intro hc <;> try simp only [SL] at hc
   ·refine A3 <| A0 <| C8 (es := List.map iV []) rfl rfl (dT rfl) rfl rfl (fun _ => B1 (A8 fun _ => rfl)) (fun _ => rfl) ?_
    intro g25
    (refine B8 rfl rfl (by (simp; done)) rfl (fun _ => (B1 (by exact A8 fun _ => rfl))) (fun _ => rfl) ?_; intro g2)
    refine A4 rfl rfl rfl <| xN [2,3] [2] rfl <| B4 <| D4 (H5 rfl rfl (by simp) (by rfl) (D9 rfl rfl (E8 C6))) ?_
    obtain ⟨hn1, hn2⟩ := hin.1 (by omega)
    rw [hn1, hn2]
    rfl
   refine B5 <| A3 <| A0 <| A5 rfl rfl <| A5 rfl rfl <| a1f rfl rfl (E7 (by omega)) ?_
   rw [show ((s.length : Int) - 1) = ((s.length - 1 : Nat) : Int) by omega]
   have hrl := d1u ((s.drop 1).take (s.length - 1 - 1))
   have hin2 : ((s.drop 1).take (s.length - 1 - 1)).length ≤ s.length - 2 := by simp only [List.length_take, List.length_drop]; omega
   refine T7 rfl rfl (H7 rfl) (H7 (n := 1) rfl) (by omega) ?_
   apply xC rfl
   ·apply A9
    ·exact B2 rfl
    exact C4
   ·exact c4h ((s.drop 1).take (s.length - 1 - 1)) (by omega)
   refine ⟨⟨rfl, rfl, rfl, dT rfl, rfl⟩, .inr ⟨a2w _ _, rfl⟩, B0, K4 (T1 fun _ => K3 rfl T2), fun _ => rfl, fun g31 => ?_⟩
   simp only [List.length_map]
   refine A5 rfl rfl <| B9 rfl rfl rfl <| B9 rfl rfl rfl ?_
   (refine B8 rfl rfl (by (simp; done)) rfl (fun _ => (B1 (by exact A8 fun _ => rfl))) (fun _ => rfl) ?_; intro g5)
   refine A4 rfl rfl rfl <| xN [5,6] [5] rfl <| A3 <| A0 <| A5 rfl rfl <| A5 rfl rfl <| A5 rfl rfl ?_
   refine D8 rfl rfl ?_ ?_ <;> intro hg0 <;> have hg := hg0 <;> try simp only [SG] at hg
   ·refine A5 rfl rfl <| gT rfl rfl ?_
    apply xC rfl
    ·apply A9
     ·exact L4 rfl rfl rfl (by (simp; done)) (fun _ => rfl)
     exact C4
    ·exact c1h ((rdL ((s.drop 1).take (s.length - 1 - 1))).getD []) (by omega)
    refine ⟨⟨rfl, rfl, rfl, dT rfl, rfl⟩, .inr ⟨rfl, rfl⟩, B0, B6 rfl, fun _ => rfl, fun g38 => ?_⟩
    refine G1 rfl (by assumption) rfl rfl ?_
    (refine B8 rfl rfl (by (simp; done)) rfl (fun _ => (B1 (by exact A8 fun _ => rfl))) (fun _ => rfl) ?_; intro g2)
    refine A4 rfl rfl rfl <| xN [2,3] [2] rfl <| B4 <| D4 (H5 rfl rfl (by simp) (by exact A8 fun _ => rfl) (D9 rfl rfl (E8 C6))) ?_
    obtain ⟨hn1, hn2⟩ := hin.2 (by omega)
    rw [hn2, b4c hn1]
    simp_all
    try rfl
   refine gF rfl rfl <| F8 rfl (by assumption) rfl rfl ?_
   (refine B8 rfl rfl (by (simp; done)) rfl (fun _ => (B1 (by exact A8 fun _ => rfl))) (fun _ => rfl) ?_; intro g2)
   refine A4 rfl rfl rfl <| xN [2,3] [2] rfl <| B4 <| D4 (H5 rfl rfl (by simp) (by exact A8 fun _ => rfl) (D9 rfl rfl (E8 C6))) ?_
   obtain ⟨hn1, hn2⟩ := hin.2 (by omega)
   rw [hn2, b4c hn1]
   simp_all
   try rfl
  iterate 4 refine gF rfl rfl ?_
  refine G1 rfl (by assumption) rfl rfl <| xN [0,4,22] [] rfl ?_
  refine A7 rfl (fun hc => ?_) (fun hc => absurd hc (by decide))
  refine A3 <| A0 ?_
  (refine C3 rfl rfl (fun _ => rfl) ?_; intro g2)
  refine A4 rfl rfl rfl <| xN [2,3] [2] rfl <| B4 <| D4 (H5 rfl rfl (by simp) (by rfl) (D9 rfl rfl (E8 C6))) ?_
  obtain ⟨hn1, hn2⟩ := a5f (s := s) (by exact .inr (.inl (by omega)))
  rw [hn1, hn2]
  rfl
 refine gF rfl rfl <| gF rfl rfl <| G1 rfl (by assumption) rfl rfl <| A5 rfl rfl ?_
 iterate 5 refine J3 rfl rfl rfl ?_
 refine G1 rfl rfl rfl rfl <| xN [0,4,22] [] rfl ?_
 refine A7 rfl (fun hc => ?_) (fun hc => absurd hc (by decide))
 refine A3 <| A0 ?_
 (refine C3 rfl rfl (fun _ => rfl) ?_; intro g2)
 refine A4 rfl rfl rfl <| xN [2,3] [2] rfl <| B4 <| D4 (H5 rfl rfl (by simp) (by rfl) (D9 rfl rfl (E8 C6))) ?_
 obtain ⟨hn1, hn2⟩ := a5f (s := s) (by exact .inl (by omega))
 rw [hn1, hn2]
 rfl

theorem keep_s_readTree : G0 Tryz.f102 = [0, 2, 3, 4, 15, 6, 24, 5, 7, 34, 43, 9, 12, 53, 8, 10, 11, 48, 59] := by kernel_rfl
set_option maxHeartbeats 20000000 in
theorem b2t (ws : List W8) (hws : ws.length ≤ 1048600 ∧ ∀ w ∈ ws, w.length ≤ 1048576) : CW (cxT oG) 102 [.list (ws.map tV)] = some (rtR (rdT ws), []) := by
 obtain ⟨kk, hkk⟩ : ∃ kk : Nat, ws.length < kk := ⟨_, Nat.lt_succ_self _⟩
 revert ws
 induction kk with
 | zero => intro ws hws hkk; exact absurd hkk (Nat.not_lt_zero _)
 | succ kk ih =>
  intro ws hws hkk
  refine F9 rfl Tryz.func102 rfl ⟨by kernel_rfl, rfl, dT rfl, dT rfl, by decide⟩ keep_s_readTree <| A3 <| A0 <| G4 rfl (fun _ => B3 rfl) (fun _ => rfl) ?_
  intro g2
  (refine C3 rfl rfl (fun _ => rfl) ?_; intro g3)
  refine A4 rfl rfl rfl <| xN [0,2] [2] rfl <| A3 <| A3 <| A0 <| A5 rfl rfl <| F6 rfl rfl <| Q1 rfl rfl <| xN [0,2,15] [2] rfl ?_
  refine A7 rfl ?_ ?_ <;> intro hc <;> try simp only [SL] at hc
  ·have hw0 : ws = [] := List.length_eq_zero_iff.1 (by simpa using hc)
   subst hw0
   refine A3 <| A0 <| J0 (fs := [_, _, _]) rfl rfl rfl rfl rfl <| B7 rfl rfl rfl rfl ⟨by decide, rfl, dT rfl, dT rfl, rfl⟩ rfl (by exact B3 rfl) ?_
   (refine C3 rfl rfl (fun _ => rfl) ?_; intro g3)
   refine A4 rfl rfl rfl <| xN [2,3,4] [2,3] rfl <| B4 <| D4 (F7 rfl rfl rfl rfl (E6 rfl (H4 rfl (H4 rfl H6))) (H5 rfl rfl (by simp) (by rfl) (D9 rfl rfl (E8 C6)))) ?_
   rfl
  obtain ⟨w, ws1, rfl⟩ : ∃ w ws1, ws = w :: ws1 := List.exists_cons_of_ne_nil (fun e => by subst e; simp at hc)
  have hw := hws.2 w (by simp)
  refine B5 <| A3 <| A0 <| A5 rfl rfl <| F4 rfl rfl rfl (fun _ => rfl) (by (change 0 < _; omega)) <| E4 rfl rfl rfl ?_
  apply xC rfl
  ·apply A9
   ·exact B2 rfl
   exact C4
  ·exact c3e w (by omega)
  refine ⟨⟨rfl, rfl, rfl, dT rfl, rfl⟩, .inr ⟨a2w _ _, rfl⟩, B0, K4 (T1 fun _ => K3 rfl T2), fun _ => rfl, fun g21 => ?_⟩
  simp only [List.length_map]
  refine A5 rfl rfl <| B9 rfl rfl rfl <| B9 rfl rfl rfl ?_
  (refine B8 rfl rfl (by (simp; done)) rfl (fun _ => (B1 (by exact A8 fun _ => rfl))) (fun _ => rfl) ?_; intro g5)
  refine A4 rfl rfl rfl <| xN [0,2,5,6] [2,5] rfl <| A3 <| A3 <| A0 <| A5 rfl rfl <| xN [0,2,5,24] [2,5] rfl ?_
  refine A7 rfl ?_ ?_ <;> intro hc <;> try simp only [SL] at hc
  ·obtain ⟨ns, hns⟩ := Option.isSome_iff_exists.1 hc
   have hraw := d1t hns
   refine A3 <| A0 <| A5 rfl rfl <| J0 (fs := [_, _, _]) rfl rfl rfl rfl rfl <| A5 rfl rfl <| M2 rfl rfl rfl (Mv.sized_map fun _ => rfl) I0 (H7 (n := 1) rfl) (by simp) ?_
   rw [show ((List.map tV (w :: ws1)).drop 1).take ((List.map tV (w :: ws1)).length - 1) = ws1.map tV from by rw [List.map_cons, List.drop_succ_cons, List.drop_zero, List.take_of_length_le (by simp)]]
   refine L5 rfl rfl rfl rfl (O3 rfl (a2r (by decide) (O3 rfl W1))) (fun _ => rfl) ⟨by decide, rfl, dT rfl, Nat.le_refl _⟩ (fun _ => rfl) (fun _ => rfl) (fun _ => (by rfl)) ?_
   intro z
   simp only [P2, List.cons_append, List.nil_append]
   refine A4 rfl rfl rfl <| A4 rfl rfl rfl ?_
   refine P7 ⟨fun _ => ⟨by (simp only [a1p, List.nil_append, List.append_nil, List.map_cons, List.map_nil, List.cons_append]; decide +kernel), by decide +kernel⟩, [(.t 2, _), (.t 3, _), (.t 4, _), (.h 2, _), (.h 5, _)], ⟨rfl, rfl, rfl, rfl, rfl, rfl, rfl, rfl, rfl, rfl, trivial⟩, ?_⟩
   refine B4 <| D4 (F7 rfl rfl rfl rfl (E6 rfl (a2x rfl rfl (by simp) (fun _ => rfl) (H4 rfl H6))) (D9 rfl rfl (D9 rfl rfl (E8 C6)))) ?_
   rw [b9r hns, hraw]
   rfl
  have hnn : numsOf w = none := by simpa using hc
  refine B5 <| A3 <| A0 <| A5 rfl rfl <| F4 rfl rfl rfl (fun _ => rfl) (by (change 0 < _; omega)) <| E4 rfl rfl rfl ?_
  apply xC rfl
  ·apply A9
   ·exact B2 rfl
   exact C4
  ·exact c6e (bA w)
  refine ⟨⟨rfl, rfl, rfl, dT rfl, rfl⟩, .inl rfl, B0, B6 rfl, fun _ => rfl, fun g32 => ?_⟩
  refine A4 rfl rfl rfl <| xN [0,2,7] [2] rfl <| A3 <| A3 <| A0 <| A5 rfl rfl <| I3 rfl rfl <| xN [0,2,7,34] [2] rfl ?_
  refine A7 rfl ?_ ?_ <;> intro hc <;> try simp only [SL] at hc
  ·refine A3 <| A0 <| J0 (fs := [_, _, _]) rfl rfl rfl rfl rfl <| B7 rfl rfl rfl rfl ⟨by decide, rfl, dT rfl, dT rfl, rfl⟩ rfl (by exact B3 rfl) ?_
   (refine C3 rfl rfl (fun _ => rfl) ?_; intro g3)
   refine A4 rfl rfl rfl <| xN [2,3,4] [2,3] rfl <| B4 <| D4 (F7 rfl rfl rfl rfl (E6 rfl (H4 rfl (H4 rfl H6))) (H5 rfl rfl (by simp) (by rfl) (D9 rfl rfl (E8 C6)))) ?_
   rw [c5n hnn (by omega)]
   rfl
  refine B5 <| A3 <| A0 <| A5 rfl rfl <| F4 rfl rfl rfl (fun _ => rfl) (by (change 0 < _; omega)) <| E4 rfl rfl rfl <| J0 (fs := [_, _, _]) rfl rfl rfl rfl rfl <| G4 rfl (fun _ => B3 rfl) (fun _ => rfl) ?_
  intro g8
  refine B7 rfl rfl rfl rfl ⟨by decide, rfl, dT rfl, dT rfl, rfl⟩ rfl (by exact B3 rfl) <| xN [0,2,7,8] [2,8] rfl <| A3 <| A0 ?_
  rcases b6e (w := bA w) (by omega) with hn | hn | hn
  ·rw [hn]
   refine A5 rfl rfl <| M2 rfl rfl rfl (Mv.sized_map fun _ => rfl) I0 (H7 (n := 1) rfl) (by simp) ?_
   rw [show ((List.map tV (w :: ws1)).drop 1).take ((List.map tV (w :: ws1)).length - 1) = ws1.map tV from by rw [List.map_cons, List.drop_succ_cons, List.drop_zero, List.take_of_length_le (by simp)]]
   refine A4 rfl rfl rfl <| xN [2,7,8,9] [2,8] rfl <| A3 <| C5 <| M5 <| A3 <| A3 <| A0 <| A5 rfl rfl <| Y5 rfl rfl <| xN [2,7,8,9,43] [2,8] rfl ?_
   refine A7 rfl (fun hc => absurd hc (by decide)) (fun hc => ?_)
   refine H1 <| A3 <| A0 <| E3 rfl rfl rfl rfl rfl <| A5 rfl rfl <| B7 rfl rfl rfl rfl ⟨by decide, rfl, dT rfl, dT rfl, rfl⟩ rfl (by exact B3 rfl) <| A4 rfl rfl rfl <| A4 rfl rfl rfl <| xN [2,3,4] [2] rfl <| B4 <| D4 (F7 rfl rfl rfl rfl (E6 rfl (H4 rfl (H4 rfl H6))) (D9 rfl rfl (D9 rfl rfl (E8 C6)))) ?_
   rw [c5u hnn hn]
   rfl
  ·rw [hn]
   refine A5 rfl rfl <| M2 rfl rfl rfl (Mv.sized_map fun _ => rfl) I0 (H7 (n := 1) rfl) (by simp) ?_
   rw [show ((List.map tV (w :: ws1)).drop 1).take ((List.map tV (w :: ws1)).length - 1) = ws1.map tV from by rw [List.map_cons, List.drop_succ_cons, List.drop_zero, List.take_of_length_le (by simp)]]
   refine A4 rfl rfl rfl <| xN [2,7,8,9] [2,8] rfl <| A3 <| C5 <| M5 <| A3 <| A3 <| A0 <| A5 rfl rfl <| Y5 rfl rfl <| xN [2,7,8,9,43] [2,8] rfl ?_
   refine A7 rfl (fun hc => ?_) (fun hc => absurd hc (by decide))
   refine B5 <| A3 <| C5 <| A3 <| A0 <| A5 rfl rfl ?_
   rcases hr1 : rdT ws1 with _ | ⟨k1, r1⟩
   ·skip
    apply xC rfl
    ·apply A9
     ·exact B2 rfl
     exact C4
    ·exact (by have hi := ih ws1 ⟨by simp only [List.length_cons] at hws; omega, fun x hx => hws.2 x (List.mem_cons_of_mem _ hx)⟩ (by simp only [List.length_cons] at hkk; omega); rw [hr1] at hi; exact hi)
    refine ⟨⟨rfl, rfl, rfl, dT rfl, rfl⟩, .inl rfl, B0, K4 (K3 rfl (T1 fun _ => K3 rfl T2)), fun _ => D7 (B1 rfl) (by rfl), fun g48 => ?_⟩
    refine A5 rfl rfl <| B9 rfl rfl rfl <| B9 rfl rfl rfl <| B9 rfl rfl rfl <| G4 rfl (fun _ => B3 rfl) (fun _ => rfl) ?_
    intro g10
    refine B7 rfl rfl rfl rfl ⟨by decide, rfl, dT rfl, dT rfl, rfl⟩ rfl (by exact B3 rfl) ?_
    (refine B8 rfl rfl (by (simp; done)) rfl (fun _ => (B1 (by rfl))) (fun _ => rfl) ?_; intro g11)
    refine A4 rfl rfl rfl <| xN [2,7,8,10,11,12] [2,8,10] rfl <| A3 <| A3 <| A0 <| A5 rfl rfl <| L9 rfl <| xN [2,7,8,10,11,53] [2,8,10] rfl ?_
    refine A7 rfl (fun hc => ?_) (fun hc => absurd hc (by decide))
    refine A3 <| A0 <| J0 (fs := [_, _, _]) rfl rfl rfl rfl rfl <| B7 rfl rfl rfl rfl ⟨by decide, rfl, dT rfl, dT rfl, rfl⟩ rfl (by exact B3 rfl) ?_
    (refine C3 rfl rfl (fun _ => rfl) ?_; intro g3)
    refine A4 rfl rfl rfl <| xN [2,3,4] [2,3] rfl <| B4 <| D4 (F7 rfl rfl rfl rfl (E6 rfl (H4 rfl (H4 rfl H6))) (H5 rfl rfl (by simp) (by rfl) (D9 rfl rfl (E8 C6)))) ?_
    rw [b7e hnn hn, hr1]
    rfl
   skip
   apply xC rfl
   ·apply A9
    ·exact B2 rfl
    exact C4
   ·exact (by have hi := ih ws1 ⟨by simp only [List.length_cons] at hws; omega, fun x hx => hws.2 x (List.mem_cons_of_mem _ hx)⟩ (by simp only [List.length_cons] at hkk; omega); rw [hr1] at hi; exact hi)
   refine ⟨⟨rfl, rfl, rfl, dT rfl, rfl⟩, .inl rfl, B0, K7 rfl, fun _ => rfl, fun g48 => ?_⟩
   refine A5 rfl rfl <| B9 rfl rfl rfl <| B9 rfl rfl rfl <| B9 rfl rfl rfl <| G4 rfl (fun _ => B3 rfl) (fun _ => rfl) ?_
   intro g10
   refine B7 rfl rfl rfl rfl ⟨by decide, rfl, dT rfl, dT rfl, rfl⟩ rfl (by exact B3 rfl) <| A4 rfl rfl rfl <| A4 rfl rfl rfl <| xN [2,7,8,10,11,12] [2,8,10] rfl <| A3 <| A3 <| A0 <| A5 rfl rfl <| L9 rfl <| xN [2,7,8,10,11,53] [2,8,10] rfl ?_
   refine A7 rfl (fun hc => absurd hc (by decide)) (fun hc => ?_)
   refine B5 <| A3 <| A0 <| C1 rfl rfl (dT rfl) rfl rfl <| C2 rfl rfl rfl rfl rfl rfl <| E3 rfl rfl rfl rfl rfl <| a1i (es := List.map trV [_]) rfl rfl (dT rfl) rfl rfl (fun _ => B1 (A8 fun _ => rfl)) (fun _ => rfl) ?_
   intro g58
   refine X7 rfl rfl rfl (by simp) (by decide) rfl rfl rfl (dT rfl) (fun _ => ⟨rfl, rfl⟩) (by simp only [H2]; (simp only [List.length_nil, List.length_cons, List.length_append, Nat.zero_add, List.length_map]; omega)) (fun _ => rfl) ?_
   intro g59
   refine C1 rfl rfl (dT rfl) rfl rfl <| S0 rfl rfl rfl rfl rfl (Nat.le_refl _) rfl <| xN [2,7,8,11] [2,8,1000059] rfl <| A0 <| A5 rfl rfl <| A4 rfl rfl rfl <| xN [2,7,8,9] [2,8,1000059] rfl <| A0 <| A5 rfl rfl <| a1f rfl rfl (E7 (by omega)) <| A4 rfl rfl rfl <| xN [2,7,8,9] [2,8,1000059] rfl <| M5 <| A3 <| A3 <| A0 <| A5 rfl rfl <| Y5 rfl rfl <| xN [2,7,8,9,43] [2,8,1000059] rfl ?_
   refine A7 rfl (fun hc => absurd hc (by decide)) (fun hc => ?_)
   refine H1 <| A3 <| A0 <| E3 rfl rfl rfl rfl rfl <| A5 rfl rfl <| L5 rfl rfl rfl rfl (O3 rfl (O3 rfl (b1h (by decide) (by decide) rfl (by simp) fun _ => W1))) (fun _ => rfl) ⟨by decide, rfl, dT rfl, Nat.le_refl _⟩ (fun _ => rfl) (fun _ => rfl) (fun _ => D7 (by rfl) (D7 (B1 (A8 fun _ => rfl)) (by rfl))) ?_
   intro z
   simp only [P2, List.cons_append, List.nil_append]
   refine A4 rfl rfl rfl <| A4 rfl rfl rfl <| xN [2,3,4] [2,300002] rfl <| B4 <| D4 (F7 rfl rfl rfl rfl (E6 rfl (H4 rfl (a2x rfl rfl (by simp) (fun _ => rfl) H6))) (D9 rfl rfl (D9 rfl rfl (E8 C6)))) ?_
   rw [b7e hnn hn, hr1]
   rfl
  rw [hn]
  refine A5 rfl rfl <| M2 rfl rfl rfl (Mv.sized_map fun _ => rfl) I0 (H7 (n := 1) rfl) (by simp) ?_
  rw [show ((List.map tV (w :: ws1)).drop 1).take ((List.map tV (w :: ws1)).length - 1) = ws1.map tV from by rw [List.map_cons, List.drop_succ_cons, List.drop_zero, List.take_of_length_le (by simp)]]
  refine A4 rfl rfl rfl <| xN [2,7,8,9] [2,8] rfl <| A3 <| C5 <| M5 <| A3 <| A3 <| A0 <| A5 rfl rfl <| Y5 rfl rfl <| xN [2,7,8,9,43] [2,8] rfl ?_
  refine A7 rfl (fun hc => ?_) (fun hc => absurd hc (by decide))
  refine B5 <| A3 <| C5 <| A3 <| A0 <| A5 rfl rfl ?_
  rcases hr1 : rdT ws1 with _ | ⟨k1, r1⟩
  ·skip
   apply xC rfl
   ·apply A9
    ·exact B2 rfl
    exact C4
   ·exact (by have hi := ih ws1 ⟨by simp only [List.length_cons] at hws; omega, fun x hx => hws.2 x (List.mem_cons_of_mem _ hx)⟩ (by simp only [List.length_cons] at hkk; omega); rw [hr1] at hi; exact hi)
   refine ⟨⟨rfl, rfl, rfl, dT rfl, rfl⟩, .inl rfl, B0, K4 (K3 rfl (T1 fun _ => K3 rfl T2)), fun _ => D7 (B1 rfl) (by rfl), fun g48 => ?_⟩
   refine A5 rfl rfl <| B9 rfl rfl rfl <| B9 rfl rfl rfl <| B9 rfl rfl rfl <| G4 rfl (fun _ => B3 rfl) (fun _ => rfl) ?_
   intro g10
   refine B7 rfl rfl rfl rfl ⟨by decide, rfl, dT rfl, dT rfl, rfl⟩ rfl (by exact B3 rfl) ?_
   (refine B8 rfl rfl (by (simp; done)) rfl (fun _ => (B1 (by rfl))) (fun _ => rfl) ?_; intro g11)
   refine A4 rfl rfl rfl <| xN [2,7,8,10,11,12] [2,8,10] rfl <| A3 <| A3 <| A0 <| A5 rfl rfl <| L9 rfl <| xN [2,7,8,10,11,53] [2,8,10] rfl ?_
   refine A7 rfl (fun hc => ?_) (fun hc => absurd hc (by decide))
   refine A3 <| A0 <| J0 (fs := [_, _, _]) rfl rfl rfl rfl rfl <| B7 rfl rfl rfl rfl ⟨by decide, rfl, dT rfl, dT rfl, rfl⟩ rfl (by exact B3 rfl) ?_
   (refine C3 rfl rfl (fun _ => rfl) ?_; intro g3)
   refine A4 rfl rfl rfl <| xN [2,3,4] [2,3] rfl <| B4 <| D4 (F7 rfl rfl rfl rfl (E6 rfl (H4 rfl (H4 rfl H6))) (H5 rfl rfl (by simp) (by rfl) (D9 rfl rfl (E8 C6)))) ?_
   rw [a5n hnn hn, hr1]
   rfl
  skip
  apply xC rfl
  ·apply A9
   ·exact B2 rfl
   exact C4
  ·exact (by have hi := ih ws1 ⟨by simp only [List.length_cons] at hws; omega, fun x hx => hws.2 x (List.mem_cons_of_mem _ hx)⟩ (by simp only [List.length_cons] at hkk; omega); rw [hr1] at hi; exact hi)
  refine ⟨⟨rfl, rfl, rfl, dT rfl, rfl⟩, .inl rfl, B0, K7 rfl, fun _ => rfl, fun g48 => ?_⟩
  refine A5 rfl rfl <| B9 rfl rfl rfl <| B9 rfl rfl rfl <| B9 rfl rfl rfl <| G4 rfl (fun _ => B3 rfl) (fun _ => rfl) ?_
  intro g10
  refine B7 rfl rfl rfl rfl ⟨by decide, rfl, dT rfl, dT rfl, rfl⟩ rfl (by exact B3 rfl) <| A4 rfl rfl rfl <| A4 rfl rfl rfl <| xN [2,7,8,10,11,12] [2,8,10] rfl <| A3 <| A3 <| A0 <| A5 rfl rfl <| L9 rfl <| xN [2,7,8,10,11,53] [2,8,10] rfl ?_
  refine A7 rfl (fun hc => absurd hc (by decide)) (fun hc => ?_)
  refine B5 <| A3 <| A0 <| C1 rfl rfl (dT rfl) rfl rfl <| C2 rfl rfl rfl rfl rfl rfl <| E3 rfl rfl rfl rfl rfl <| a1i (es := List.map trV [_]) rfl rfl (dT rfl) rfl rfl (fun _ => B1 (A8 fun _ => rfl)) (fun _ => rfl) ?_
  intro g58
  refine X7 rfl rfl rfl (by simp) (by decide) rfl rfl rfl (dT rfl) (fun _ => ⟨rfl, rfl⟩) (by simp only [H2]; (simp only [List.length_nil, List.length_cons, List.length_append, Nat.zero_add, List.length_map]; omega)) (fun _ => rfl) ?_
  intro g59
  refine C1 rfl rfl (dT rfl) rfl rfl <| S0 rfl rfl rfl rfl rfl (Nat.le_refl _) rfl <| xN [2,7,8,11] [2,8,1000059] rfl <| A0 <| A5 rfl rfl <| A4 rfl rfl rfl <| xN [2,7,8,9] [2,8,1000059] rfl <| A0 <| A5 rfl rfl <| a1f rfl rfl (E7 (by omega)) <| A4 rfl rfl rfl <| xN [2,7,8,9] [2,8,1000059] rfl <| M5 <| A3 <| A3 <| A0 <| A5 rfl rfl <| Y5 rfl rfl <| xN [2,7,8,9,43] [2,8,1000059] rfl ?_
  refine A7 rfl (fun hc => ?_) (fun hc => absurd hc (by decide))
  refine B5 <| A3 <| C5 <| A3 <| A0 <| A5 rfl rfl ?_
  rcases hr2 : rdT r1 with _ | ⟨k2, r2⟩
  ·skip
   apply xC rfl
   ·apply A9
    ·exact B2 rfl
    exact C4
   ·exact (by have hi := ih r1 ⟨by have := Y2 hr1; simp only [List.length_cons] at hws; omega, fun x hx => hws.2 x (List.mem_cons_of_mem _ (b1q hr1 x hx))⟩ (by have := Y2 hr1; simp only [List.length_cons] at hkk; omega); rw [hr2] at hi; exact hi)
   refine ⟨⟨rfl, rfl, rfl, dT rfl, rfl⟩, .inl rfl, B0, K4 (K3 rfl (T1 fun _ => K3 rfl T2)), fun _ => D7 (B1 rfl) (by rfl), fun g48 => ?_⟩
   refine A5 rfl rfl <| B9 rfl rfl rfl <| B9 rfl rfl rfl <| B9 rfl rfl rfl <| G4 rfl (fun _ => B3 rfl) (fun _ => rfl) ?_
   intro g10
   refine B7 rfl rfl rfl rfl ⟨by decide, rfl, dT rfl, dT rfl, rfl⟩ rfl (by exact B3 rfl) ?_
   (refine B8 rfl rfl (by (simp; done)) rfl (fun _ => (B1 (by rfl))) (fun _ => rfl) ?_; intro g11)
   refine A4 rfl rfl rfl <| xN [2,7,8,10,11,12] [2,8,1000059,10] rfl <| A3 <| A3 <| A0 <| A5 rfl rfl <| L9 rfl <| xN [2,7,8,10,11,53] [2,8,1000059,10] rfl ?_
   refine A7 rfl (fun hc => ?_) (fun hc => absurd hc (by decide))
   refine A3 <| A0 <| J0 (fs := [_, _, _]) rfl rfl rfl rfl rfl <| B7 rfl rfl rfl rfl ⟨by decide, rfl, dT rfl, dT rfl, rfl⟩ rfl (by exact B3 rfl) ?_
   (refine C3 rfl rfl (fun _ => rfl) ?_; intro g3)
   refine A4 rfl rfl rfl <| xN [2,3,4] [2,3] rfl <| B4 <| D4 (F7 rfl rfl rfl rfl (E6 rfl (H4 rfl (H4 rfl H6))) (H5 rfl rfl (by simp) (by rfl) (D9 rfl rfl (E8 C6)))) ?_
   rw [a5n hnn hn, hr1, Option.bind_some, hr2]
   rfl
  skip
  apply xC rfl
  ·apply A9
   ·exact B2 rfl
   exact C4
  ·exact (by have hi := ih r1 ⟨by have := Y2 hr1; simp only [List.length_cons] at hws; omega, fun x hx => hws.2 x (List.mem_cons_of_mem _ (b1q hr1 x hx))⟩ (by have := Y2 hr1; simp only [List.length_cons] at hkk; omega); rw [hr2] at hi; exact hi)
  refine ⟨⟨rfl, rfl, rfl, dT rfl, rfl⟩, .inl rfl, B0, K7 rfl, fun _ => rfl, fun g48 => ?_⟩
  refine A5 rfl rfl <| B9 rfl rfl rfl <| B9 rfl rfl rfl <| B9 rfl rfl rfl <| G4 rfl (fun _ => B3 rfl) (fun _ => rfl) ?_
  intro g10
  refine B7 rfl rfl rfl rfl ⟨by decide, rfl, dT rfl, dT rfl, rfl⟩ rfl (by exact B3 rfl) <| A4 rfl rfl rfl <| A4 rfl rfl rfl <| xN [2,7,8,10,11,12] [2,8,1000059,10] rfl <| A3 <| A3 <| A0 <| A5 rfl rfl <| L9 rfl <| xN [2,7,8,10,11,53] [2,8,1000059,10] rfl ?_
  refine A7 rfl (fun hc => absurd hc (by decide)) (fun hc => ?_)
  refine B5 <| A3 <| A0 <| C1 rfl rfl (dT rfl) rfl rfl <| C2 rfl rfl rfl rfl rfl rfl <| E3 rfl rfl rfl rfl rfl <| a1i (es := List.map trV [_]) rfl rfl (dT rfl) rfl rfl (fun _ => B1 (A8 fun _ => rfl)) (fun _ => rfl) ?_
  intro g58
  refine G6 rfl rfl rfl rfl (by (simp; done)) (by simp) (by decide) rfl rfl rfl rfl (dT rfl) (fun _ => ⟨rfl, rfl⟩) (by simp only [H2]; (simp only [List.length_nil, List.length_cons, List.length_append, Nat.zero_add, List.length_map]; omega)) (fun _ => rfl) ?_
  intro g59
  refine C1 rfl rfl (dT rfl) rfl rfl <| S0 rfl rfl rfl rfl rfl (Nat.le_refl _) rfl <| xN [2,7,8,11] [2,8,1000059] rfl <| A0 <| A5 rfl rfl <| A4 rfl rfl rfl <| xN [2,7,8,9] [2,8,1000059] rfl <| A0 <| A5 rfl rfl <| a1f rfl rfl (E7 (by omega)) <| A4 rfl rfl rfl <| xN [2,7,8,9] [2,8,1000059] rfl <| M5 <| A3 <| A3 <| A0 <| A5 rfl rfl <| Y5 rfl rfl <| xN [2,7,8,9,43] [2,8,1000059] rfl ?_
  refine A7 rfl (fun hc => absurd hc (by decide)) (fun hc => ?_)
  refine H1 <| A3 <| A0 <| E3 rfl rfl rfl rfl rfl <| A5 rfl rfl <| L5 rfl rfl rfl rfl (O3 rfl (O3 rfl (b1h (by decide) (by decide) rfl (by simp) fun _ => W1))) (fun _ => rfl) ⟨by decide, rfl, dT rfl, Nat.le_refl _⟩ (fun _ => rfl) (fun _ => rfl) (fun _ => D7 (by rfl) (D7 (B1 (A8 fun _ => rfl)) (by rfl))) ?_
  intro z
  simp only [P2, List.cons_append, List.nil_append]
  refine A4 rfl rfl rfl <| A4 rfl rfl rfl <| xN [2,3,4] [2,300002] rfl <| B4 <| D4 (F7 rfl rfl rfl rfl (E6 rfl (H4 rfl (a2x rfl rfl (by simp) (fun _ => rfl) H6))) (D9 rfl rfl (D9 rfl rfl (E8 C6)))) ?_
  rw [a5n hnn hn, hr1, Option.bind_some, hr2]
  rfl

theorem keep_s_readPlan : G0 Tryz.f60 = [0, 2, 3, 4, 17, 6, 7, 5, 21] := by kernel_rfl
set_option maxHeartbeats 20000000 in
theorem c4b (s : List UInt8) (hs : s.length ≤ 1048576) : CW (cxT oG) 60 [tV s] = some (.tup [trV (rpT s), bV (rdPlan s).isSome], []) := by
 obtain ⟨ws, hws⟩ : ∃ ws, ws = splitB 32 s := ⟨_, rfl⟩
 have hwl := T9 32 s
 have hwp := U3 32 s
 rw [← hws] at hwl hwp
 refine F9 rfl Tryz.func60 rfl ⟨by kernel_rfl, rfl, dT rfl, dT rfl, by decide⟩ keep_s_readPlan <| A3 <| A0 <| G4 rfl (fun _ => B3 rfl) (fun _ => rfl) ?_
 intro g2
 refine A4 rfl rfl rfl <| xN [0,2] [2] rfl <| A3 <| A0 <| A5 rfl rfl ?_
 apply xC rfl
 ·apply A9
  ·exact B2 rfl
  apply A9
  ·exact B2 rfl
  exact C4
 ·exact b5q s (by omega) 32
 refine ⟨⟨rfl, rfl, rfl, dT rfl, rfl⟩, .inl rfl, B0, N1, fun _ => rfl, fun g9 => ?_⟩
 rw [← hws]
 try simp only [List.length_map]
 (refine B8 rfl rfl (by (simp; done)) rfl (fun _ => (B1 (by exact A8 fun _ => rfl))) (fun _ => rfl) ?_; intro g4)
 refine xN [0,2,4] [2,4] rfl <| A3 <| A3 <| A0 <| A5 rfl rfl <| a1j rfl rfl <| Y5 rfl rfl <| A5 rfl rfl ?_
 refine D8 rfl rfl ?_ ?_ <;> intro hg0 <;> have hg := hg0 <;> try simp only [SG] at hg
 ·refine A5 rfl rfl <| gT rfl rfl <| M1 rfl rfl <| gT rfl rfl <| Y5 rfl rfl <| F8 rfl (by assumption) rfl rfl <| xN [2,4,17] [2,4] rfl ?_
  refine A7 rfl ?_ ?_ <;> intro hc <;> try simp only [SL] at hc
  ·refine A3 <| A0 <| J0 (fs := [_, _, _]) rfl rfl rfl rfl rfl <| B7 rfl rfl rfl rfl ⟨by decide, rfl, dT rfl, dT rfl, rfl⟩ rfl (by exact B3 rfl) <| A4 rfl rfl rfl <| xN [2,3] [2] rfl <| B4 <| D4 (F7 rfl rfl rfl rfl (E6 rfl (H4 rfl (H4 rfl H6))) (D9 rfl rfl (E8 C6))) ?_
   obtain ⟨h1, h2⟩ := b3z (s := s) (by rw [hws] at *; omega)
   rw [h1, h2]
   rfl
  have hin := c7k hws (by omega)
  refine B5 <| A3 <| A0 <| A5 rfl rfl ?_
  rcases hr : rdT ws with _ | ⟨t, r⟩
  ·skip
   apply xC rfl
   ·apply A9
    ·exact I4 rfl rfl (by (simp; done)) (fun _ => rfl)
    exact C4
   ·exact (by have hi := b2t (oG := oG) ws ⟨by omega, fun w hw => by have := hwp w hw; omega⟩; rw [hr] at hi; exact hi)
   refine ⟨⟨rfl, rfl, rfl, dT rfl, rfl⟩, .inl rfl, B0, K4 (K3 rfl (T1 fun _ => K3 rfl T2)), fun _ => D7 (a0j (A8 fun _ => rfl) (by decide)) (by rfl), fun g21 => ?_⟩
   refine A5 rfl rfl <| B9 rfl rfl rfl <| B9 rfl rfl rfl <| B9 rfl rfl rfl <| G4 rfl (fun _ => B3 rfl) (fun _ => rfl) ?_
   intro g5
   refine B7 rfl rfl rfl rfl ⟨by decide, rfl, dT rfl, dT rfl, rfl⟩ rfl (by exact B3 rfl) ?_
   (refine B8 rfl rfl (by (simp; done)) rfl (fun _ => (B1 (by rfl))) (fun _ => rfl) ?_; intro g6)
   refine A4 rfl rfl rfl <| xN [2,5,6,7] [2,5] rfl <| A3 <| A0 <| E3 rfl rfl rfl rfl rfl <| A5 rfl rfl <| A5 rfl rfl <| J3 rfl rfl rfl <| J3 rfl rfl rfl <| J3 rfl rfl rfl <| F8 rfl rfl rfl rfl <| B7 rfl rfl rfl rfl ⟨by decide, rfl, dT rfl, dT rfl, rfl⟩ rfl (by exact B3 rfl) <| A4 rfl rfl rfl <| xN [2,3] [2] rfl <| B4 <| D4 (F7 rfl rfl rfl rfl (E6 rfl (E6 rfl (E6 rfl H6))) (D9 rfl rfl (E8 C6))) ?_
   obtain ⟨h1, h2⟩ := hin.1 hr
   rw [h1, h2]
   rfl
  skip
  apply xC rfl
  ·apply A9
   ·exact I4 rfl rfl (by (simp; done)) (fun _ => rfl)
   exact C4
  ·exact (by have hi := b2t (oG := oG) ws ⟨by omega, fun w hw => by have := hwp w hw; omega⟩; rw [hr] at hi; exact hi)
  refine ⟨⟨rfl, rfl, rfl, dT rfl, rfl⟩, .inl rfl, B0, K7 rfl, fun _ => D7 (a0j (A8 fun _ => rfl) (by decide)) (by rfl), fun g21 => ?_⟩
  refine A5 rfl rfl <| B9 rfl rfl rfl <| B9 rfl rfl rfl <| B9 rfl rfl rfl <| G4 rfl (fun _ => B3 rfl) (fun _ => rfl) ?_
  intro g5
  refine B7 rfl rfl rfl rfl ⟨by decide, rfl, dT rfl, dT rfl, rfl⟩ rfl (by exact B3 rfl) <| A4 rfl rfl rfl <| A4 rfl rfl rfl <| xN [2,5,6,7] [2,5] rfl <| A3 <| A0 <| E3 rfl rfl rfl rfl rfl <| A5 rfl rfl <| A5 rfl rfl <| J2 rfl rfl rfl <| A5 rfl rfl <| J2 rfl rfl rfl <| F6 rfl rfl <| J2 rfl rfl rfl <| Q1 rfl rfl <| G1 rfl rfl rfl rfl <| B7 rfl rfl rfl rfl ⟨by decide, rfl, dT rfl, dT rfl, rfl⟩ rfl (by exact B3 rfl) <| A4 rfl rfl rfl <| xN [2,3] [2] rfl <| B4 <| D4 (F7 rfl rfl rfl rfl (E6 rfl (E6 rfl (E6 rfl H6))) (D9 rfl rfl (E8 C6))) ?_
  obtain ⟨h1, h2⟩ := hin.2 t r hr
  rw [h1, h2]
  rfl
 refine gF rfl rfl <| gF rfl rfl <| G1 rfl (by assumption) rfl rfl <| xN [2,4,17] [2,4] rfl ?_
 refine A7 rfl (fun hc => ?_) (fun hc => absurd hc (by decide))
 refine A3 <| A0 <| J0 (fs := [_, _, _]) rfl rfl rfl rfl rfl <| B7 rfl rfl rfl rfl ⟨by decide, rfl, dT rfl, dT rfl, rfl⟩ rfl (by exact B3 rfl) <| A4 rfl rfl rfl <| xN [2,3] [2] rfl <| B4 <| D4 (F7 rfl rfl rfl rfl (E6 rfl (H4 rfl (H4 rfl H6))) (D9 rfl rfl (E8 C6))) ?_
 obtain ⟨h1, h2⟩ := b3z (s := s) (by rw [hws] at *; omega)
 rw [h1, h2]
 rfl

theorem keep_s_numbers : G0 Tryz.f143 = [0, 2, 8, 7, 9, 6, 5, 3] := by kernel_rfl
set_option maxHeartbeats 20000000 in
theorem c7z (ns : List Int) (hl : ns.length ≤ 1000000) (hnb : ∀ n ∈ ns, -1000000 ≤ n ∧ n ≤ 1000000) : CW (cxT oG) 143 [L ns] = some (tV (O1 ns), []) := by
 have hg := fun (i : Nat) (h : i < ns.length) => hnb _ (a4r h)
 have hll := a0g (ns := ns) hnb
 refine F9 rfl Tryz.func143 rfl ⟨by kernel_rfl, rfl, dT rfl, dT rfl, by decide⟩ keep_s_numbers <| A3 <| A0 <| A4 rfl rfl rfl <| xN [0] [] rfl <| A3 <| A0 ?_
 (refine C3 rfl rfl (fun _ => rfl) ?_; intro g3)
 refine xN [0,3] [3] rfl <| A3 <| A3 <| A0 <| A5 rfl rfl <| F6 rfl rfl <| A5 rfl rfl <| xN [3,6,7,8] [3] rfl <| C5 <| H3 (β := Nat × List (List UInt8) × Nat) [(.t 6, _), (.t 7, _)] (fun (z : Nat × List (List UInt8) × Nat) => match z with | (i, ps, g) => [(.t 8, iV i), (.t 3, .sl 3 g none 0 ps.length), (.h 3, .obj g 0 1 (ps.map tV))]) (fun (z : Nat × List (List UInt8) × Nat) => match z with | (i, ps, g) => i ≤ ns.length ∧ ps = (ns.take i).map dec) (fun (z : Nat × List (List UInt8) × Nat) => match z with | (i, ps, g) => ns.length - i) (0, [], _) ⟨rfl, rfl, rfl, rfl, rfl, trivial⟩ ⟨Nat.zero_le _, rfl⟩ ?_
 intro z hb
 obtain ⟨i, ps, g⟩ := z
 try dsimp only at hb
 obtain ⟨hi1, hps⟩ := hb
 have hpl : ps.length = i := by rw [hps]; simp; omega
 refine A3 <| A0 <| I3 rfl rfl <| xN [3,6,7,8,9] [3] rfl <| A3 ?_
 refine A7 rfl ?_ ?_ <;> intro hc <;> try simp only [SL] at hc
 ·refine B5 <| A3 <| C5 <| A3 <| A0 <| F4 rfl rfl rfl (fun _ => rfl) (by omega) <| E4 rfl rfl rfl <| A4 rfl rfl rfl <| xN [3,5,6,7,8] [3] rfl <| A0 <| A5 rfl rfl <| A5 rfl rfl ?_
  have hgi := hg i (by omega)
  apply xC rfl
  ·apply A9
   ·exact B2 rfl
   exact C4
  ·exact d3z (ns.getD i default) (by omega)
  refine ⟨⟨rfl, rfl, rfl, dT rfl, rfl⟩, .inl rfl, B0, B6 rfl, fun _ => rfl, fun g14 => ?_⟩
  refine C8 (es := List.map tV [_]) rfl rfl (dT rfl) rfl rfl (fun _ => B1 (A8 fun _ => rfl)) (fun _ => rfl) ?_
  intro g15
  refine G6 rfl rfl rfl rfl (by (simp; done)) (by simp) (by decide) rfl rfl rfl rfl (dT rfl) (fun _ => ⟨rfl, rfl⟩) (by simp only [H2]; (simp only [List.length_nil, List.length_cons, List.length_append, Nat.zero_add, List.length_map]; omega)) (fun _ => rfl) ?_
  intro g16
  (refine B8 rfl rfl (by (simp; done)) rfl (fun _ => (B1 (by exact A8 fun _ => rfl))) (fun _ => rfl) ?_; intro g3)
  refine xN [3,6,7,8] [3] rfl <| A0 <| G9 rfl rfl (E7 (by omega)) <| A5 rfl rfl <| xN [3,6,7,8] [3] rfl ?_
  refine ⟨(i + 1, ps ++ [dec (ns.getD i default)], _), ?_, (by simp only; omega), ⟨rfl, rfl, rfl, rfl, rfl, trivial⟩⟩
  exact ⟨by omega, by rw [hps, ← b4o (by omega)]⟩
 refine H1 <| A3 <| A0 <| A5 rfl rfl ?_
 have hpe : ps = ns.map dec := by rw [hps, List.take_of_length_le (by omega)]
 have hje : joinB 44 ps = O1 ns := by rw [hpe]; rfl
 apply xC rfl
 ·apply A9
  ·exact L4 rfl rfl rfl (by (simp; done)) (fun _ => rfl)
  apply A9
  ·exact B2 rfl
  exact C4
 ·exact d1d ps 44 (by simp only [H2]; omega) (by rw [hje]; simp only [H2]; omega)
 refine ⟨⟨rfl, rfl, rfl, dT rfl, rfl⟩, .inr ⟨rfl, rfl⟩, B0, B6 rfl, fun _ => rfl, fun g19 => ?_⟩
 refine A4 rfl rfl rfl <| xN [2] [] rfl <| B4 <| C7 rfl rfl trivial ?_
 rw [hje]

theorem keep_s_listTextI : G0 Tryz.f113 = [0, 2] := by kernel_rfl
set_option maxHeartbeats 20000000 in
theorem a9w (ns : List Int) (hl : ns.length ≤ 1000000) (hnb : ∀ n ∈ ns, -1000000 ≤ n ∧ n ≤ 1000000) : CW (cxT oG) 113 [L ns] = some (tV (Q3 ns), []) := by
 have hll := a0g (ns := ns) hnb
 refine F9 rfl Tryz.func113 rfl ⟨by kernel_rfl, rfl, dT rfl, dT rfl, by decide⟩ keep_s_listTextI <| A3 <| A0 <| A4 rfl rfl rfl <| xN [0] [] rfl <| A3 <| A0 <| A5 rfl rfl ?_
 apply xC rfl
 ·apply A9
  ·exact B2 rfl
  exact C4
 ·exact c7z ns hl hnb
 refine ⟨⟨rfl, rfl, rfl, dT rfl, rfl⟩, .inl rfl, B0, B6 rfl, fun _ => rfl, fun g4 => ?_⟩
 iterate 2 refine K5 rfl rfl (by simp only [H2, List.length_append, List.length_cons, List.length_nil]; omega) ?_
 refine A4 rfl rfl rfl <| xN [2] [] rfl <| B4 <| C7 rfl rfl trivial ?_
 rfl

theorem keep_s_readListI : G0 Tryz.f104 = [0, 2, 3, 4, 6, 5, 27, 29, 33, 32, 34, 31, 9, 11, 43, 10, 7] := by kernel_rfl
set_option maxHeartbeats 20000000 in
theorem c0y (w : List UInt8) (hs : w.length ≤ 1048576) : CW (cxT oG) 104 [tV w] = some (.tup [.own 1 ((rlX w).map iV), bV (okI w)], []) := by
 have hc1 := d0w 91 w
 have hc2 := c8t 93 (a3i 91 w)
 refine F9 rfl Tryz.func104 rfl ⟨by kernel_rfl, rfl, dT rfl, dT rfl, by decide⟩ keep_s_readListI <| A3 <| A0 ?_
 (refine C3 rfl rfl (fun _ => rfl) ?_; intro g2)
 refine A4 rfl rfl rfl <| xN [0] [] rfl <| A3 <| A0 <| A5 rfl rfl ?_
 apply xC rfl
 ·apply A9
  ·exact B2 rfl
  apply A9
  ·exact B2 rfl
  exact C4
 ·exact d3t w 91
 refine ⟨⟨rfl, rfl, rfl, dT rfl, rfl⟩, .inl rfl, B0, K7 rfl, fun _ => rfl, fun g14 => ?_⟩
 refine A5 rfl rfl <| B9 rfl rfl rfl <| B9 rfl rfl rfl <| A4 rfl rfl rfl <| A4 rfl rfl rfl <| xN [0,4,5] [] rfl <| A3 <| A0 <| A5 rfl rfl ?_
 apply xC rfl
 ·apply A9
  ·exact B2 rfl
  apply A9
  ·exact B2 rfl
  exact C4
 ·exact d4i (a3i 91 w) 93 (by omega)
 refine ⟨⟨rfl, rfl, rfl, dT rfl, rfl⟩, .inl rfl, B0, K7 rfl, fun _ => rfl, fun g19 => ?_⟩
 refine A5 rfl rfl <| B9 rfl rfl rfl <| B9 rfl rfl rfl <| A4 rfl rfl rfl <| A4 rfl rfl rfl <| xN [0,4,5,6] [] rfl <| A3 <| A3 <| A0 <| A5 rfl rfl <| L9 rfl <| A5 rfl rfl ?_
 refine D8 rfl rfl ?_ ?_ <;> intro hg0 <;> have hg := hg0 <;> try simp only [SG] at hg
 ·refine A5 rfl rfl <| gT rfl rfl <| L9 rfl <| F8 rfl (by assumption) rfl rfl <| xN [0,4,27] [] rfl ?_
  refine A7 rfl ?_ ?_ <;> intro hc <;> try simp only [SL] at hc
  ·refine A3 <| A0 ?_
   (refine C3 rfl rfl (fun _ => rfl) ?_; intro g2)
   refine A4 rfl rfl rfl <| xN [2,3] [2] rfl <| B4 <| D4 (H5 rfl rfl (by simp) (by rfl) (D9 rfl rfl (E8 C6))) ?_
   obtain ⟨h1, h2⟩ := b7o (b9l (w := w) (by simp_all [okB]))
   rw [h1, h2]
   rfl
  have hok : okB w = true := by simp [okB]; constructor <;> assumption
  obtain ⟨ps, hps0⟩ : ∃ ps, ps = splitB 44 (a4p w) := ⟨_, rfl⟩
  have hpl := T9 44 (a4p w)
  have hpp := U3 44 (a4p w)
  rw [← hps0] at hpl hpp
  have hil := c8x hok
  refine B5 <| A3 <| A0 ?_
  (refine C3 rfl rfl (fun _ => rfl) ?_; intro g7)
  refine xN [0,4,7] [7] rfl <| A3 <| A3 <| A0 <| A5 rfl rfl <| a7k rfl rfl <| xN [0,4,7,29] [7] rfl ?_
  refine A7 rfl ?_ ?_ <;> intro hc <;> try simp only [SL] at hc
  ·have hin : a4p w ≠ [] := hc
   refine A3 <| A0 <| A5 rfl rfl ?_
   have hps := hps0
   apply c9m rfl
   ·apply A9
    ·exact B2 rfl
    apply A9
    ·exact B2 rfl
    exact C4
   ·exact b8i (a4p w) 44 (by unfold a4p; omega)
   ·exact ⟨rfl, rfl, rfl, dT rfl, rfl⟩
   ·exact .inl rfl
   ·exact B0
   ·exact N1
   ·(intro _; exact D7 (B1 (A8 fun _ => rfl)) rfl)
   intro g31
   rw [← hps]
   try simp only [List.length_map]
   refine M1 rfl rfl <| A5 rfl rfl <| xN [0,7,31,32,33] [7,1000031] rfl <| C5 <| H3 (β := Nat × List Int × Nat) [(.t 0, _), (.t 31, _), (.t 32, _), (.h 1000031, _)] (fun (z : Nat × List Int × Nat) => match z with | (i, ns, g) => [(.t 33, iV i), (.t 7, .sl 7 g none 0 ns.length), (.h 7, .obj g 0 1 (ns.map iV))]) (fun (z : Nat × List Int × Nat) => match z with | (i, ns, g) => i ≤ ps.length ∧ rdA (ps.take i) = some ns) (fun (z : Nat × List Int × Nat) => match z with | (i, ns, g) => ps.length - i) (0, [], _) ⟨rfl, rfl, rfl, rfl, rfl, rfl, rfl, trivial⟩ ⟨Nat.zero_le _, rfl⟩ ?_
   intro z hb
   obtain ⟨i, ns, g⟩ := z
   try dsimp only at hb
   obtain ⟨hi1, hrd⟩ := hb
   have hpi := fun h : i < ps.length => hpp _ (R8 h)
   have hnl := b2v hrd
   rw [List.length_take] at hnl
   refine A3 <| A0 <| I3 rfl rfl <| xN [0,7,31,32,33,34] [7,1000031] rfl <| A3 ?_
   refine A7 rfl ?_ ?_ <;> intro hc <;> try simp only [SL] at hc
   ·refine B5 <| A3 <| C5 <| A3 <| A0 <| H9 rfl rfl rfl rfl (by omega) (by (simp; done)) rfl <| I9 rfl rfl (by omega) (fun _ => rfl) (fun _ => rfl) rfl <| A4 rfl rfl rfl <| xN [0,7,9,31,32,33] [7,1000031] rfl <| A3 <| A0 <| A5 rfl rfl ?_
    rcases hat : Lib.atoiAll (ps.getD i default) with v | _ | _
    ·skip
     apply xC rfl
     ·apply A9
      ·exact B2 rfl
      exact C4
     ·exact (by have hi := c2s (oG := oG) (ps.getD i default) (by omega); unfold atR at hi; rw [hat] at hi; exact hi)
     refine ⟨⟨rfl, rfl, rfl, dT rfl, rfl⟩, .inl rfl, B0, K7 rfl, fun _ => rfl, fun g39 => ?_⟩
     refine A5 rfl rfl <| B9 rfl rfl rfl <| B9 rfl rfl rfl <| A4 rfl rfl rfl <| A4 rfl rfl rfl <| xN [0,7,10,11,31,32,33] [7,1000031] rfl <| A3 <| A3 <| A0 <| A5 rfl rfl <| d1a rfl rfl rfl rfl <| xN [0,7,10,31,32,33,43] [7,1000031] rfl ?_
     refine A7 rfl (fun hc => absurd hc (by decide)) (fun hc => ?_)
     refine B5 <| A0 <| A5 rfl rfl <| A5 rfl rfl <| C8 (es := List.map iV [_]) rfl rfl (dT rfl) rfl rfl (fun _ => B1 (A8 fun _ => rfl)) (fun _ => rfl) ?_
     intro g46
     refine G6 rfl rfl rfl rfl (by (simp; done)) (by simp) (by decide) rfl rfl rfl rfl (dT rfl) (fun _ => ⟨rfl, rfl⟩) (by simp only [H2]; (simp only [List.length_nil, List.length_cons, List.length_append, Nat.zero_add, List.length_map]; omega)) (fun _ => rfl) ?_
     intro g47
     (refine B8 rfl rfl (by (simp; done)) rfl (fun _ => (B1 (by exact A8 fun _ => rfl))) (fun _ => rfl) ?_; intro g7)
     refine xN [0,7,31,32,33] [7,1000031] rfl <| A0 <| G9 rfl rfl (E7 (by omega)) <| A5 rfl rfl <| xN [0,7,31,32,33] [7,1000031] rfl ?_
     refine ⟨(i + 1, ns ++ [v], _), ?_, (by simp only; omega), ⟨rfl, rfl, rfl, rfl, rfl, rfl, rfl, trivial⟩⟩
     exact ⟨by omega, d0b (by omega) hrd hat⟩
    ·skip
     apply xC rfl
     ·apply A9
      ·exact B2 rfl
      exact C4
     ·exact (by have hi := c2s (oG := oG) (ps.getD i default) (by omega); unfold atR at hi; rw [hat] at hi; exact hi)
     refine ⟨⟨rfl, rfl, rfl, dT rfl, rfl⟩, .inl rfl, B0, K7 rfl, fun _ => rfl, fun g39 => ?_⟩
     refine A5 rfl rfl <| B9 rfl rfl rfl <| B9 rfl rfl rfl <| A4 rfl rfl rfl <| A4 rfl rfl rfl <| xN [0,7,10,11,31,32,33] [7,1000031] rfl <| A3 <| A3 <| A0 <| A5 rfl rfl <| c1b rfl rfl rfl <| xN [0,7,10,31,32,33,43] [7,1000031] rfl ?_
     refine A7 rfl (fun hc => ?_) (fun hc => absurd hc (by decide))
     refine A3 <| A0 ?_
     (refine C3 rfl rfl (fun _ => rfl) ?_; intro g2)
     refine A4 rfl rfl rfl <| xN [2,3] [2] rfl <| B4 <| D4 (H5 rfl rfl (by simp) (by rfl) (D9 rfl rfl (E8 C6))) ?_
     obtain ⟨h1, h2⟩ := b7o (w := w) (by rw [b1p hok hin, ← hps0]; exact b9o (i := i) (by omega) (by intro v hv; rw [hat] at hv; cases hv))
     rw [h1, h2]
     rfl
    skip
    apply xC rfl
    ·apply A9
     ·exact B2 rfl
     exact C4
    ·exact (by have hi := c2s (oG := oG) (ps.getD i default) (by omega); unfold atR at hi; rw [hat] at hi; exact hi)
    refine ⟨⟨rfl, rfl, rfl, dT rfl, rfl⟩, .inl rfl, B0, K7 rfl, fun _ => rfl, fun g39 => ?_⟩
    refine A5 rfl rfl <| B9 rfl rfl rfl <| B9 rfl rfl rfl <| A4 rfl rfl rfl <| A4 rfl rfl rfl <| xN [0,7,10,11,31,32,33] [7,1000031] rfl <| A3 <| A3 <| A0 <| A5 rfl rfl <| c1b rfl rfl rfl <| xN [0,7,10,31,32,33,43] [7,1000031] rfl ?_
    refine A7 rfl (fun hc => ?_) (fun hc => absurd hc (by decide))
    refine A3 <| A0 ?_
    (refine C3 rfl rfl (fun _ => rfl) ?_; intro g2)
    refine A4 rfl rfl rfl <| xN [2,3] [2] rfl <| B4 <| D4 (H5 rfl rfl (by simp) (by rfl) (D9 rfl rfl (E8 C6))) ?_
    obtain ⟨h1, h2⟩ := b7o (w := w) (by rw [b1p hok hin, ← hps0]; exact b9o (i := i) (by omega) (by intro v hv; rw [hat] at hv; cases hv))
    rw [h1, h2]
    rfl
   refine H1 <| A3 <| A0 <| A5 rfl rfl <| A5 rfl rfl ?_
   apply xC rfl
   ·apply A9
    ·exact L4 rfl rfl rfl (by (simp; done)) (fun _ => rfl)
    exact C4
   ·exact a6m ns (by omega)
   refine ⟨⟨rfl, rfl, rfl, dT rfl, rfl⟩, .inr ⟨rfl, rfl⟩, B0, B6 rfl, fun _ => rfl, fun g51 => ?_⟩
   refine A5 rfl rfl ?_
   refine D8 rfl rfl ?_ ?_ <;> intro hg0 <;> have hg := hg0 <;> try simp only [SG] at hg
   ·refine A5 rfl rfl <| gT rfl rfl ?_
    (have hnb := d3f (ns := ns) (by assumption); have hvl := c9a (show vd ns = true by assumption))
    apply xC rfl
    ·apply A9
     ·exact L4 rfl rfl rfl (by (simp; done)) (fun _ => rfl)
     exact C4
    ·exact a9w ns (by omega) hnb
    refine ⟨⟨rfl, rfl, rfl, dT rfl, rfl⟩, .inr ⟨rfl, rfl⟩, B0, B6 rfl, fun _ => rfl, fun g54 => ?_⟩
    refine gT rfl rfl <| A5 rfl rfl <| gT rfl rfl <| R4 rfl rfl <| G1 rfl (by assumption) rfl rfl ?_
    (refine B8 rfl rfl (by (simp; done)) rfl (fun _ => (B1 (by exact A8 fun _ => rfl))) (fun _ => rfl) ?_; intro g2)
    refine A4 rfl rfl rfl <| xN [2,3] [2] rfl <| B4 <| D4 (H5 rfl rfl (by simp) (by exact A8 fun _ => rfl) (D9 rfl rfl (E8 C6))) ?_
    (have hx := hin; obtain ⟨h1, h2⟩ := a6n (ns := ns) (w := w) (by rw [b1p hok hx, ← hps0]; rw [List.take_of_length_le (by omega)] at hrd; exact hrd))
    (rw [h1, h2, hg, Bool.true_and]; rfl)
   refine gF rfl rfl <| gF rfl rfl <| gF rfl rfl <| F8 rfl (by assumption) rfl rfl ?_
   (refine B8 rfl rfl (by (simp; done)) rfl (fun _ => (B1 (by exact A8 fun _ => rfl))) (fun _ => rfl) ?_; intro g2)
   refine A4 rfl rfl rfl <| xN [2,3] [2] rfl <| B4 <| D4 (H5 rfl rfl (by simp) (by exact A8 fun _ => rfl) (D9 rfl rfl (E8 C6))) ?_
   (have hx := hin; obtain ⟨h1, h2⟩ := a6n (ns := ns) (w := w) (by rw [b1p hok hx, ← hps0]; rw [List.take_of_length_le (by omega)] at hrd; exact hrd))
   (rw [h1, h2, hg, Bool.false_and]; rfl)
  have hie : a4p w = [] := hc
  refine B5 <| A3 <| A0 <| A5 rfl rfl <| A5 rfl rfl ?_
  apply xC rfl
  ·apply A9
   ·exact b6s rfl rfl rfl rfl rfl
   exact C4
  ·exact a6m [] (by decide)
  refine ⟨⟨rfl, rfl, rfl, dT rfl, rfl⟩, .inr ⟨rfl, rfl⟩, B0, B6 rfl, fun _ => rfl, fun g51 => ?_⟩
  refine A5 rfl rfl ?_
  refine D8 rfl rfl ?_ ?_ <;> intro hg0 <;> have hg := hg0 <;> try simp only [SG] at hg
  ·refine A5 rfl rfl <| gT rfl rfl ?_
   skip
   apply xC rfl
   ·apply A9
    ·exact b6s rfl rfl rfl rfl rfl
    exact C4
   ·exact a9w [] (by decide) (by simp)
   refine ⟨⟨rfl, rfl, rfl, dT rfl, rfl⟩, .inr ⟨rfl, rfl⟩, B0, B6 rfl, fun _ => rfl, fun g54 => ?_⟩
   refine gT rfl rfl <| A5 rfl rfl <| gT rfl rfl <| R4 rfl rfl <| G1 rfl rfl rfl rfl ?_
   (refine B8 rfl rfl (by (simp; done)) rfl (fun _ => (B1 (by rfl))) (fun _ => rfl) ?_; intro g2)
   refine A4 rfl rfl rfl <| xN [2,3] [2] rfl <| B4 <| D4 (H5 rfl rfl (by simp) (by rfl) (D9 rfl rfl (E8 C6))) ?_
   obtain ⟨h1, h2⟩ := a6n (ns := []) (w := w) (c5s hok hie)
   (rw [h1, h2, hg, Bool.true_and]; rfl)
  refine gF rfl rfl <| gF rfl rfl <| gF rfl rfl <| F8 rfl (by assumption) rfl rfl ?_
  (refine B8 rfl rfl (by (simp; done)) rfl (fun _ => (B1 (by rfl))) (fun _ => rfl) ?_; intro g2)
  refine A4 rfl rfl rfl <| xN [2,3] [2] rfl <| B4 <| D4 (H5 rfl rfl (by simp) (by rfl) (D9 rfl rfl (E8 C6))) ?_
  obtain ⟨h1, h2⟩ := a6n (ns := []) (w := w) (c5s hok hie)
  (rw [h1, h2, hg, Bool.false_and]; rfl)
 refine gF rfl rfl <| G1 rfl (by assumption) rfl rfl <| xN [0,4,27] [] rfl ?_
 refine A7 rfl (fun hc => ?_) (fun hc => absurd hc (by decide))
 refine A3 <| A0 ?_
 (refine C3 rfl rfl (fun _ => rfl) ?_; intro g2)
 refine A4 rfl rfl rfl <| xN [2,3] [2] rfl <| B4 <| D4 (H5 rfl rfl (by simp) (by rfl) (D9 rfl rfl (E8 C6))) ?_
 obtain ⟨h1, h2⟩ := b7o (b9l (w := w) (by simp_all [okB]))
 rw [h1, h2]
 rfl

theorem keep_s_readWord : G0 Tryz.f63 = [0, 2, 3, 4, 6, 12, 5] := by kernel_rfl
set_option maxHeartbeats 20000000 in
theorem a0k (w : List UInt8) (hs : w.length ≤ 1048576) : CW (cxT oG) 63 [tV w] = some (.tup [tV (if (numsOf w).isSome = true then lW else w), .own 1 (((numsOf w).getD []).map iV), bV ((numsOf w).isSome || decide (0 ≤ rch (bA w)))], []) := by
 refine F9 rfl Tryz.func63 rfl ⟨by kernel_rfl, rfl, dT rfl, dT rfl, by decide⟩ keep_s_readWord <| A3 <| A0 <| A4 rfl rfl rfl ?_
 (refine C3 rfl rfl (fun _ => rfl) ?_; intro g3)
 refine A4 rfl rfl rfl <| xN [0] [] rfl <| A3 <| A3 <| A0 <| A5 rfl rfl ?_
 apply xC rfl
 ·apply A9
  ·exact B2 rfl
  exact C4
 ·exact (by have hi := c0y (oG := oG) w hs; rw [d3r] at hi; exact hi)
 refine ⟨⟨rfl, rfl, rfl, dT rfl, rfl⟩, .inr ⟨a2w _ _, rfl⟩, B0, K4 (T1 fun _ => K3 rfl T2), fun _ => rfl, fun g9 => ?_⟩
 simp only [List.length_map]
 refine A5 rfl rfl <| B9 rfl rfl rfl <| B9 rfl rfl rfl ?_
 (refine B8 rfl rfl (by (simp; done)) rfl (fun _ => (B1 (by exact A8 fun _ => rfl))) (fun _ => rfl) ?_; intro g5)
 refine A4 rfl rfl rfl <| xN [0,5,6] [5] rfl <| A3 <| A0 <| A5 rfl rfl <| xN [0,5,12] [5] rfl ?_
 refine A7 rfl ?_ ?_ <;> intro hc <;> try simp only [SL] at hc
 ·obtain ⟨ns, hns⟩ := Option.isSome_iff_exists.1 hc
  have hraw := d4c hns
  refine A3 <| A0 <| A5 rfl rfl <| A4 rfl rfl rfl ?_
  (refine B8 rfl rfl (by (simp; done)) rfl (fun _ => (B1 (by exact A8 fun _ => rfl))) (fun _ => rfl) ?_; intro g3)
  refine A4 rfl rfl rfl <| xN [2,3,4] [3] rfl <| B4 <| D4 (D9 rfl rfl (H5 rfl rfl (by simp) (by exact A8 fun _ => rfl) (D9 rfl rfl (E8 C6)))) ?_
  rw [hns, hraw]
  rfl
 have hnn : numsOf w = none := by simpa using hc
 have hwo := d2h w
 refine B5 <| A3 <| A0 <| A5 rfl rfl <| A5 rfl rfl <| a7k rfl rfl <| A5 rfl rfl ?_
 refine D8 rfl rfl ?_ ?_ <;> intro hg0 <;> have hg := hg0 <;> try simp only [SG] at hg
 ·refine A5 rfl rfl <| gT rfl rfl ?_
  apply xC rfl
  ·apply A9
   ·exact B2 rfl
   exact C4
  ·exact a7r (bA w)
  refine ⟨⟨rfl, rfl, rfl, dT rfl, rfl⟩, .inl rfl, B0, B6 rfl, fun _ => rfl, fun g19 => ?_⟩
  refine gT rfl rfl <| c5j rfl rfl <| G1 rfl (by assumption) rfl rfl <| A4 rfl rfl rfl ?_
  (refine C3 rfl rfl (fun _ => rfl) ?_; intro g3)
  refine A4 rfl rfl rfl <| xN [2,3,4] [3] rfl <| B4 <| D4 (D9 rfl rfl (H5 rfl rfl (by simp) (by rfl) (D9 rfl rfl (E8 C6)))) ?_
  rw [hnn, ← hwo]
  simp_all
  try rfl
 refine gF rfl rfl <| gF rfl rfl <| F8 rfl (by assumption) rfl rfl <| A4 rfl rfl rfl ?_
 (refine C3 rfl rfl (fun _ => rfl) ?_; intro g3)
 refine A4 rfl rfl rfl <| xN [2,3,4] [3] rfl <| B4 <| D4 (D9 rfl rfl (H5 rfl rfl (by simp) (by rfl) (D9 rfl rfl (E8 C6)))) ?_
 rw [hnn, ← hwo]
 simp_all
 try rfl

theorem keep_s_readWords : G0 Tryz.f133 = [0, 2, 3, 4, 15, 7, 26, 6, 5, 35, 34, 36, 9, 12, 44, 8, 10, 11, 39, 50] := by kernel_rfl
set_option maxHeartbeats 20000000 in
theorem a9z (ws : List W8) (hws : ws.length ≤ 1048600 ∧ ∀ w ∈ ws, w.length ≤ 1048576) : CW (cxT oG) 133 [.list (ws.map tV)] = some (rtR (rdT ws), []) := by
 obtain ⟨kk, hkk⟩ : ∃ kk : Nat, ws.length < kk := ⟨_, Nat.lt_succ_self _⟩
 revert ws
 induction kk with
 | zero => intro ws hws hkk; exact absurd hkk (Nat.not_lt_zero _)
 | succ kk ih =>
  intro ws hws hkk
  refine F9 rfl Tryz.func133 rfl ⟨by kernel_rfl, rfl, dT rfl, dT rfl, by decide⟩ keep_s_readWords <| A3 <| A0 <| G4 rfl (fun _ => B3 rfl) (fun _ => rfl) ?_
  intro g2
  (refine C3 rfl rfl (fun _ => rfl) ?_; intro g3)
  refine A4 rfl rfl rfl <| xN [0,2] [2] rfl <| A3 <| A3 <| A0 <| A5 rfl rfl <| F6 rfl rfl <| Q1 rfl rfl <| xN [0,2,15] [2] rfl ?_
  refine A7 rfl ?_ ?_ <;> intro hc <;> try simp only [SL] at hc
  ·have hw0 : ws = [] := List.length_eq_zero_iff.1 (by simpa using hc)
   subst hw0
   refine A3 <| A0 <| J0 (fs := [_, _, _]) rfl rfl rfl rfl rfl <| B7 rfl rfl rfl rfl ⟨by decide, rfl, dT rfl, dT rfl, rfl⟩ rfl (by exact B3 rfl) ?_
   (refine C3 rfl rfl (fun _ => rfl) ?_; intro g3)
   refine A4 rfl rfl rfl <| xN [2,3,4] [2,3] rfl <| B4 <| D4 (F7 rfl rfl rfl rfl (E6 rfl (H4 rfl (H4 rfl H6))) (H5 rfl rfl (by simp) (by rfl) (D9 rfl rfl (E8 C6)))) ?_
   rfl
  obtain ⟨w, ws1, rfl⟩ : ∃ w ws1, ws = w :: ws1 := List.exists_cons_of_ne_nil (fun e => by subst e; simp at hc)
  have hw := hws.2 w (by simp)
  refine B5 <| A3 <| A0 <| A5 rfl rfl <| F4 rfl rfl rfl (fun _ => rfl) (by (change 0 < _; omega)) <| E4 rfl rfl rfl ?_
  rcases c9i w with ⟨ns, hns⟩ | ⟨hnn, hn⟩ | ⟨hnn, hn⟩ | ⟨hnn, hn⟩ | ⟨hnn, hn⟩
  ·skip
   apply xC rfl
   ·apply A9
    ·exact B2 rfl
    exact C4
   ·exact (show CW (cxT oG) 63 [tV w] = some (.tup [tV lW, .own 1 (ns.map iV), bV true], []) from by have hi := a0k (oG := oG) w (by omega); rw [hns] at hi; exact hi)
   refine ⟨⟨rfl, rfl, rfl, dT rfl, rfl⟩, .inr ⟨by simp [hasList, F5], rfl⟩, B0, K4 (K3 rfl (T1 fun _ => K3 rfl T2)), fun _ => D7 (B1 (A8 fun _ => rfl)) (by rfl), fun g21 => ?_⟩
   try simp only [List.length_map]
   refine A5 rfl rfl <| B9 rfl rfl rfl <| B9 rfl rfl rfl <| B9 rfl rfl rfl <| A4 rfl rfl rfl ?_
   (refine B8 rfl rfl (by (simp; done)) rfl (fun _ => (B1 (by exact A8 fun _ => rfl))) (fun _ => rfl) ?_; intro g6)
   refine A4 rfl rfl rfl <| xN [0,2,5,6,7] [2,6] rfl <| A3 <| A3 <| A0 <| A5 rfl rfl <| L9 rfl <| xN [0,2,5,6,26] [2,6] rfl ?_
   refine A7 rfl (fun hc => absurd hc (by decide)) (fun hc => ?_)
   refine B5 <| A3 <| A0 <| A5 rfl rfl <| A5 rfl rfl <| J0 (fs := [_, _, _]) rfl rfl rfl rfl rfl <| A5 rfl rfl <| M2 rfl rfl rfl (Mv.sized_map fun _ => rfl) I0 (H7 (n := 1) rfl) (by simp) ?_
   rw [show ((List.map tV (w :: ws1)).drop 1).take ((List.map tV (w :: ws1)).length - 1) = ws1.map tV from by rw [List.map_cons, List.drop_succ_cons, List.drop_zero, List.take_of_length_le (by simp)]]
   refine G4 rfl (fun _ => B3 rfl) (fun _ => rfl) ?_
   intro g8
   refine L5 rfl rfl rfl rfl (O3 rfl (a2r (by decide) (O3 rfl W1))) (fun _ => rfl) ⟨by decide, rfl, dT rfl, Nat.le_refl _⟩ (fun _ => rfl) (fun _ => rfl) (fun _ => (by rfl)) ?_
   intro z
   simp only [P2, List.cons_append, List.nil_append]
   refine A4 rfl rfl rfl ?_
   refine P7 ⟨fun _ => ⟨by (simp only [a1p, List.nil_append, List.append_nil, List.map_cons, List.map_nil, List.cons_append]; decide +kernel), by decide +kernel⟩, [(.t 2, _), (.t 5, _), (.t 8, _), (.t 9, _), (.h 2, _), (.h 8, _), (.h 6, _)], ⟨rfl, rfl, rfl, rfl, rfl, rfl, rfl, rfl, rfl, rfl, rfl, rfl, rfl, rfl, trivial⟩, ?_⟩
   refine A3 <| A3 <| A0 <| A5 rfl rfl ?_
   apply xC rfl
   ·apply A9
    ·exact B2 rfl
    exact C4
   ·exact a7r (bA lW)
   refine ⟨⟨rfl, rfl, rfl, dT rfl, rfl⟩, .inl rfl, B0, B6 rfl, fun _ => rfl, fun g34 => ?_⟩
   rw [show nd (bA lW) = 0 from d2j rfl]
   refine A5 rfl rfl <| xN [2,8,9,34,35] [2,8,6] rfl <| C5 <| M5 <| A3 <| A0 <| I3 rfl rfl <| xN [2,8,9,34,35,36] [2,8,6] rfl <| A3 ?_
   refine A7 rfl (fun hc => absurd hc (by decide)) (fun hc => ?_)
   refine H1 <| A3 <| A0 <| E3 rfl rfl rfl rfl rfl <| A5 rfl rfl <| L5 rfl rfl rfl rfl (O3 rfl (a2r (by decide) (O3 rfl W1))) (fun _ => rfl) ⟨by decide, rfl, dT rfl, Nat.le_refl _⟩ (fun _ => rfl) (fun _ => rfl) (fun _ => (by rfl)) ?_
   intro z
   simp only [P2, List.cons_append, List.nil_append]
   refine A4 rfl rfl rfl <| A4 rfl rfl rfl <| xN [2,3,4] [2,6] rfl <| B4 <| D4 (F7 rfl rfl rfl rfl (E6 rfl (a2x rfl rfl (by simp) (fun _ => rfl) (H4 rfl H6))) (D9 rfl rfl (D9 rfl rfl (E8 C6)))) ?_
   rw [b9r hns]
   rfl
  ·skip
   apply xC rfl
   ·apply A9
    ·exact B2 rfl
    exact C4
   ·exact (show CW (cxT oG) 63 [tV w] = some (.tup [tV w, .own 1 [], bV true], []) from by have hi := a0k (oG := oG) w (by omega); rw [hnn] at hi; rw [show decide (0 ≤ rch (bA w)) = true from decide_eq_true (by omega)] at hi; exact hi)
   refine ⟨⟨rfl, rfl, rfl, dT rfl, rfl⟩, .inr ⟨rfl, rfl⟩, B0, K4 (K3 rfl (T1 fun _ => K3 rfl T2)), fun _ => D7 (B1 rfl) (by rfl), fun g21 => ?_⟩
   try simp only [List.length_map]
   refine A5 rfl rfl <| B9 rfl rfl rfl <| B9 rfl rfl rfl <| B9 rfl rfl rfl <| A4 rfl rfl rfl ?_
   (refine B8 rfl rfl (by (simp; done)) rfl (fun _ => (B1 (by rfl))) (fun _ => rfl) ?_; intro g6)
   refine A4 rfl rfl rfl <| xN [0,2,5,6,7] [2,6] rfl <| A3 <| A3 <| A0 <| A5 rfl rfl <| L9 rfl <| xN [0,2,5,6,26] [2,6] rfl ?_
   refine A7 rfl (fun hc => absurd hc (by decide)) (fun hc => ?_)
   refine B5 <| A3 <| A0 <| A5 rfl rfl <| A5 rfl rfl <| J0 (fs := [_, _, _]) rfl rfl rfl rfl rfl <| A5 rfl rfl <| M2 rfl rfl rfl (Mv.sized_map fun _ => rfl) I0 (H7 (n := 1) rfl) (by simp) ?_
   rw [show ((List.map tV (w :: ws1)).drop 1).take ((List.map tV (w :: ws1)).length - 1) = ws1.map tV from by rw [List.map_cons, List.drop_succ_cons, List.drop_zero, List.take_of_length_le (by simp)]]
   refine G4 rfl (fun _ => B3 rfl) (fun _ => rfl) ?_
   intro g8
   refine L5 rfl rfl rfl rfl (O3 rfl (a2r (by decide) (O3 rfl W1))) (fun _ => rfl) ⟨by decide, rfl, dT rfl, Nat.le_refl _⟩ (fun _ => rfl) (fun _ => rfl) (fun _ => (by rfl)) ?_
   intro z
   simp only [P2, List.cons_append, List.nil_append]
   refine A4 rfl rfl rfl ?_
   refine P7 ⟨fun _ => ⟨by (simp only [a1p, List.nil_append, List.append_nil, List.map_cons, List.map_nil, List.cons_append]; decide +kernel), by decide +kernel⟩, [(.t 2, _), (.t 5, _), (.t 8, _), (.t 9, _), (.h 2, _), (.h 8, _), (.h 6, _)], ⟨rfl, rfl, rfl, rfl, rfl, rfl, rfl, rfl, rfl, rfl, rfl, rfl, rfl, rfl, trivial⟩, ?_⟩
   refine A3 <| A3 <| A0 <| A5 rfl rfl ?_
   apply xC rfl
   ·apply A9
    ·exact B2 rfl
    exact C4
   ·exact a7r (bA w)
   refine ⟨⟨rfl, rfl, rfl, dT rfl, rfl⟩, .inl rfl, B0, B6 rfl, fun _ => rfl, fun g34 => ?_⟩
   rw [show nd (bA w) = 0 from (a8t (by omega)).trans hn]
   refine A5 rfl rfl <| xN [2,8,9,34,35] [2,8,6] rfl <| C5 <| M5 <| A3 <| A0 <| I3 rfl rfl <| xN [2,8,9,34,35,36] [2,8,6] rfl <| A3 ?_
   refine A7 rfl (fun hc => absurd hc (by decide)) (fun hc => ?_)
   refine H1 <| A3 <| A0 <| E3 rfl rfl rfl rfl rfl <| A5 rfl rfl <| L5 rfl rfl rfl rfl (O3 rfl (a2r (by decide) (O3 rfl W1))) (fun _ => rfl) ⟨by decide, rfl, dT rfl, Nat.le_refl _⟩ (fun _ => rfl) (fun _ => rfl) (fun _ => (by rfl)) ?_
   intro z
   simp only [P2, List.cons_append, List.nil_append]
   refine A4 rfl rfl rfl <| A4 rfl rfl rfl <| xN [2,3,4] [2,6] rfl <| B4 <| D4 (F7 rfl rfl rfl rfl (E6 rfl (b8l rfl rfl rfl (H4 rfl H6))) (D9 rfl rfl (D9 rfl rfl (E8 C6)))) ?_
   rw [c5u hnn hn]
   rfl
  ·skip
   apply xC rfl
   ·apply A9
    ·exact B2 rfl
    exact C4
   ·exact (show CW (cxT oG) 63 [tV w] = some (.tup [tV w, .own 1 [], bV true], []) from by have hi := a0k (oG := oG) w (by omega); rw [hnn] at hi; rw [show decide (0 ≤ rch (bA w)) = true from decide_eq_true (by omega)] at hi; exact hi)
   refine ⟨⟨rfl, rfl, rfl, dT rfl, rfl⟩, .inr ⟨rfl, rfl⟩, B0, K4 (K3 rfl (T1 fun _ => K3 rfl T2)), fun _ => D7 (B1 rfl) (by rfl), fun g21 => ?_⟩
   try simp only [List.length_map]
   refine A5 rfl rfl <| B9 rfl rfl rfl <| B9 rfl rfl rfl <| B9 rfl rfl rfl <| A4 rfl rfl rfl ?_
   (refine B8 rfl rfl (by (simp; done)) rfl (fun _ => (B1 (by rfl))) (fun _ => rfl) ?_; intro g6)
   refine A4 rfl rfl rfl <| xN [0,2,5,6,7] [2,6] rfl <| A3 <| A3 <| A0 <| A5 rfl rfl <| L9 rfl <| xN [0,2,5,6,26] [2,6] rfl ?_
   refine A7 rfl (fun hc => absurd hc (by decide)) (fun hc => ?_)
   refine B5 <| A3 <| A0 <| A5 rfl rfl <| A5 rfl rfl <| J0 (fs := [_, _, _]) rfl rfl rfl rfl rfl <| A5 rfl rfl <| M2 rfl rfl rfl (Mv.sized_map fun _ => rfl) I0 (H7 (n := 1) rfl) (by simp) ?_
   rw [show ((List.map tV (w :: ws1)).drop 1).take ((List.map tV (w :: ws1)).length - 1) = ws1.map tV from by rw [List.map_cons, List.drop_succ_cons, List.drop_zero, List.take_of_length_le (by simp)]]
   refine G4 rfl (fun _ => B3 rfl) (fun _ => rfl) ?_
   intro g8
   refine L5 rfl rfl rfl rfl (O3 rfl (a2r (by decide) (O3 rfl W1))) (fun _ => rfl) ⟨by decide, rfl, dT rfl, Nat.le_refl _⟩ (fun _ => rfl) (fun _ => rfl) (fun _ => (by rfl)) ?_
   intro z
   simp only [P2, List.cons_append, List.nil_append]
   refine A4 rfl rfl rfl ?_
   refine P7 ⟨fun _ => ⟨by (simp only [a1p, List.nil_append, List.append_nil, List.map_cons, List.map_nil, List.cons_append]; decide +kernel), by decide +kernel⟩, [(.t 2, _), (.t 5, _), (.t 8, _), (.t 9, _), (.h 2, _), (.h 8, _), (.h 6, _)], ⟨rfl, rfl, rfl, rfl, rfl, rfl, rfl, rfl, rfl, rfl, rfl, rfl, rfl, rfl, trivial⟩, ?_⟩
   refine A3 <| A3 <| A0 <| A5 rfl rfl ?_
   apply xC rfl
   ·apply A9
    ·exact B2 rfl
    exact C4
   ·exact a7r (bA w)
   refine ⟨⟨rfl, rfl, rfl, dT rfl, rfl⟩, .inl rfl, B0, B6 rfl, fun _ => rfl, fun g34 => ?_⟩
   rw [show nd (bA w) = 1 from (a8t (by omega)).trans hn]
   refine A5 rfl rfl <| xN [2,8,9,34,35] [2,8,6] rfl <| C5 <| M5 <| A3 <| A0 <| I3 rfl rfl <| xN [2,8,9,34,35,36] [2,8,6] rfl <| A3 ?_
   refine A7 rfl (fun hc => ?_) (fun hc => absurd hc (by decide))
   refine B5 <| A3 <| C5 <| A3 <| A0 <| A5 rfl rfl ?_
   rcases hr1 : rdT ws1 with _ | ⟨k1, r1⟩
   ·skip
    apply xC rfl
    ·apply A9
     ·exact B2 rfl
     exact C4
    ·exact (by have hi := ih ws1 ⟨by simp only [List.length_cons] at hws; omega, fun x hx => hws.2 x (List.mem_cons_of_mem _ hx)⟩ (by simp only [List.length_cons] at hkk; omega); rw [hr1] at hi; exact hi)
    refine ⟨⟨rfl, rfl, rfl, dT rfl, rfl⟩, .inl rfl, B0, K4 (K3 rfl (T1 fun _ => K3 rfl T2)), fun _ => D7 (B1 rfl) (by rfl), fun g39 => ?_⟩
    refine A5 rfl rfl <| B9 rfl rfl rfl <| B9 rfl rfl rfl <| B9 rfl rfl rfl <| G4 rfl (fun _ => B3 rfl) (fun _ => rfl) ?_
    intro g10
    refine B7 rfl rfl rfl rfl ⟨by decide, rfl, dT rfl, dT rfl, rfl⟩ rfl (by exact B3 rfl) ?_
    (refine B8 rfl rfl (by (simp; done)) rfl (fun _ => (B1 (by rfl))) (fun _ => rfl) ?_; intro g11)
    refine A4 rfl rfl rfl <| xN [2,8,10,11,12,34,35] [2,8,6,10] rfl <| A3 <| A3 <| A0 <| A5 rfl rfl <| L9 rfl <| xN [2,8,10,11,34,35,44] [2,8,6,10] rfl ?_
    refine A7 rfl (fun hc => ?_) (fun hc => absurd hc (by decide))
    refine A3 <| A0 <| J0 (fs := [_, _, _]) rfl rfl rfl rfl rfl <| B7 rfl rfl rfl rfl ⟨by decide, rfl, dT rfl, dT rfl, rfl⟩ rfl (by exact B3 rfl) ?_
    (refine C3 rfl rfl (fun _ => rfl) ?_; intro g3)
    refine A4 rfl rfl rfl <| xN [2,3,4] [2,3] rfl <| B4 <| D4 (F7 rfl rfl rfl rfl (E6 rfl (H4 rfl (H4 rfl H6))) (H5 rfl rfl (by simp) (by rfl) (D9 rfl rfl (E8 C6)))) ?_
    rw [b7e hnn hn, hr1]
    rfl
   skip
   apply xC rfl
   ·apply A9
    ·exact B2 rfl
    exact C4
   ·exact (by have hi := ih ws1 ⟨by simp only [List.length_cons] at hws; omega, fun x hx => hws.2 x (List.mem_cons_of_mem _ hx)⟩ (by simp only [List.length_cons] at hkk; omega); rw [hr1] at hi; exact hi)
   refine ⟨⟨rfl, rfl, rfl, dT rfl, rfl⟩, .inl rfl, B0, K7 rfl, fun _ => rfl, fun g39 => ?_⟩
   refine A5 rfl rfl <| B9 rfl rfl rfl <| B9 rfl rfl rfl <| B9 rfl rfl rfl <| G4 rfl (fun _ => B3 rfl) (fun _ => rfl) ?_
   intro g10
   refine B7 rfl rfl rfl rfl ⟨by decide, rfl, dT rfl, dT rfl, rfl⟩ rfl (by exact B3 rfl) <| A4 rfl rfl rfl <| A4 rfl rfl rfl <| xN [2,8,10,11,12,34,35] [2,8,6,10] rfl <| A3 <| A3 <| A0 <| A5 rfl rfl <| L9 rfl <| xN [2,8,10,11,34,35,44] [2,8,6,10] rfl ?_
   refine A7 rfl (fun hc => absurd hc (by decide)) (fun hc => ?_)
   refine B5 <| A3 <| A0 <| C1 rfl rfl (dT rfl) rfl rfl <| C2 rfl rfl rfl rfl rfl rfl <| E3 rfl rfl rfl rfl rfl <| C8 (es := List.map trV [_]) rfl rfl (dT rfl) rfl rfl (fun _ => B1 (A8 fun _ => rfl)) (fun _ => rfl) ?_
   intro g49
   refine X7 rfl rfl rfl (by simp) (by decide) rfl rfl rfl (dT rfl) (fun _ => ⟨rfl, rfl⟩) (by simp only [H2]; (simp only [List.length_nil, List.length_cons, List.length_append, Nat.zero_add, List.length_map]; omega)) (fun _ => rfl) ?_
   intro g50
   refine C1 rfl rfl (dT rfl) rfl rfl <| S0 rfl rfl rfl rfl rfl (Nat.le_refl _) rfl <| xN [2,8,11,34,35] [2,8,6,1000050] rfl <| A0 <| A5 rfl rfl <| A4 rfl rfl rfl <| xN [2,8,9,34,35] [2,8,6,1000050] rfl <| A0 <| G9 rfl rfl (E7 (by omega)) <| A5 rfl rfl <| xN [2,8,9,34,35] [2,8,6,1000050] rfl <| M5 <| A3 <| A0 <| I3 rfl rfl <| xN [2,8,9,34,35,36] [2,8,6,1000050] rfl <| A3 ?_
   refine A7 rfl (fun hc => absurd hc (by decide)) (fun hc => ?_)
   refine H1 <| A3 <| A0 <| E3 rfl rfl rfl rfl rfl <| A5 rfl rfl <| L5 rfl rfl rfl rfl (O3 rfl (a2r (by decide) (b1h (by decide) (by decide) rfl (by simp) fun _ => W1))) (fun _ => rfl) ⟨by decide, rfl, dT rfl, Nat.le_refl _⟩ (fun _ => rfl) (fun _ => rfl) (fun _ => D7 (by rfl) (D7 (B1 (A8 fun _ => rfl)) (by rfl))) ?_
   intro z
   simp only [P2, List.cons_append, List.nil_append]
   refine A4 rfl rfl rfl <| A4 rfl rfl rfl <| xN [2,3,4] [2,6,300002] rfl <| B4 <| D4 (F7 rfl rfl rfl rfl (E6 rfl (b8l rfl rfl rfl (a2x rfl rfl (by simp) (fun _ => rfl) H6))) (D9 rfl rfl (D9 rfl rfl (E8 C6)))) ?_
   rw [b7e hnn hn, hr1]
   rfl
  ·skip
   apply xC rfl
   ·apply A9
    ·exact B2 rfl
    exact C4
   ·exact (show CW (cxT oG) 63 [tV w] = some (.tup [tV w, .own 1 [], bV true], []) from by have hi := a0k (oG := oG) w (by omega); rw [hnn] at hi; rw [show decide (0 ≤ rch (bA w)) = true from decide_eq_true (by omega)] at hi; exact hi)
   refine ⟨⟨rfl, rfl, rfl, dT rfl, rfl⟩, .inr ⟨rfl, rfl⟩, B0, K4 (K3 rfl (T1 fun _ => K3 rfl T2)), fun _ => D7 (B1 rfl) (by rfl), fun g21 => ?_⟩
   try simp only [List.length_map]
   refine A5 rfl rfl <| B9 rfl rfl rfl <| B9 rfl rfl rfl <| B9 rfl rfl rfl <| A4 rfl rfl rfl ?_
   (refine B8 rfl rfl (by (simp; done)) rfl (fun _ => (B1 (by rfl))) (fun _ => rfl) ?_; intro g6)
   refine A4 rfl rfl rfl <| xN [0,2,5,6,7] [2,6] rfl <| A3 <| A3 <| A0 <| A5 rfl rfl <| L9 rfl <| xN [0,2,5,6,26] [2,6] rfl ?_
   refine A7 rfl (fun hc => absurd hc (by decide)) (fun hc => ?_)
   refine B5 <| A3 <| A0 <| A5 rfl rfl <| A5 rfl rfl <| J0 (fs := [_, _, _]) rfl rfl rfl rfl rfl <| A5 rfl rfl <| M2 rfl rfl rfl (Mv.sized_map fun _ => rfl) I0 (H7 (n := 1) rfl) (by simp) ?_
   rw [show ((List.map tV (w :: ws1)).drop 1).take ((List.map tV (w :: ws1)).length - 1) = ws1.map tV from by rw [List.map_cons, List.drop_succ_cons, List.drop_zero, List.take_of_length_le (by simp)]]
   refine G4 rfl (fun _ => B3 rfl) (fun _ => rfl) ?_
   intro g8
   refine L5 rfl rfl rfl rfl (O3 rfl (a2r (by decide) (O3 rfl W1))) (fun _ => rfl) ⟨by decide, rfl, dT rfl, Nat.le_refl _⟩ (fun _ => rfl) (fun _ => rfl) (fun _ => (by rfl)) ?_
   intro z
   simp only [P2, List.cons_append, List.nil_append]
   refine A4 rfl rfl rfl ?_
   refine P7 ⟨fun _ => ⟨by (simp only [a1p, List.nil_append, List.append_nil, List.map_cons, List.map_nil, List.cons_append]; decide +kernel), by decide +kernel⟩, [(.t 2, _), (.t 5, _), (.t 8, _), (.t 9, _), (.h 2, _), (.h 8, _), (.h 6, _)], ⟨rfl, rfl, rfl, rfl, rfl, rfl, rfl, rfl, rfl, rfl, rfl, rfl, rfl, rfl, trivial⟩, ?_⟩
   refine A3 <| A3 <| A0 <| A5 rfl rfl ?_
   apply xC rfl
   ·apply A9
    ·exact B2 rfl
    exact C4
   ·exact a7r (bA w)
   refine ⟨⟨rfl, rfl, rfl, dT rfl, rfl⟩, .inl rfl, B0, B6 rfl, fun _ => rfl, fun g34 => ?_⟩
   rw [show nd (bA w) = 2 from (a8t (by omega)).trans hn]
   refine A5 rfl rfl <| xN [2,8,9,34,35] [2,8,6] rfl <| C5 <| M5 <| A3 <| A0 <| I3 rfl rfl <| xN [2,8,9,34,35,36] [2,8,6] rfl <| A3 ?_
   refine A7 rfl (fun hc => ?_) (fun hc => absurd hc (by decide))
   refine B5 <| A3 <| C5 <| A3 <| A0 <| A5 rfl rfl ?_
   rcases hr1 : rdT ws1 with _ | ⟨k1, r1⟩
   ·skip
    apply xC rfl
    ·apply A9
     ·exact B2 rfl
     exact C4
    ·exact (by have hi := ih ws1 ⟨by simp only [List.length_cons] at hws; omega, fun x hx => hws.2 x (List.mem_cons_of_mem _ hx)⟩ (by simp only [List.length_cons] at hkk; omega); rw [hr1] at hi; exact hi)
    refine ⟨⟨rfl, rfl, rfl, dT rfl, rfl⟩, .inl rfl, B0, K4 (K3 rfl (T1 fun _ => K3 rfl T2)), fun _ => D7 (B1 rfl) (by rfl), fun g39 => ?_⟩
    refine A5 rfl rfl <| B9 rfl rfl rfl <| B9 rfl rfl rfl <| B9 rfl rfl rfl <| G4 rfl (fun _ => B3 rfl) (fun _ => rfl) ?_
    intro g10
    refine B7 rfl rfl rfl rfl ⟨by decide, rfl, dT rfl, dT rfl, rfl⟩ rfl (by exact B3 rfl) ?_
    (refine B8 rfl rfl (by (simp; done)) rfl (fun _ => (B1 (by rfl))) (fun _ => rfl) ?_; intro g11)
    refine A4 rfl rfl rfl <| xN [2,8,10,11,12,34,35] [2,8,6,10] rfl <| A3 <| A3 <| A0 <| A5 rfl rfl <| L9 rfl <| xN [2,8,10,11,34,35,44] [2,8,6,10] rfl ?_
    refine A7 rfl (fun hc => ?_) (fun hc => absurd hc (by decide))
    refine A3 <| A0 <| J0 (fs := [_, _, _]) rfl rfl rfl rfl rfl <| B7 rfl rfl rfl rfl ⟨by decide, rfl, dT rfl, dT rfl, rfl⟩ rfl (by exact B3 rfl) ?_
    (refine C3 rfl rfl (fun _ => rfl) ?_; intro g3)
    refine A4 rfl rfl rfl <| xN [2,3,4] [2,3] rfl <| B4 <| D4 (F7 rfl rfl rfl rfl (E6 rfl (H4 rfl (H4 rfl H6))) (H5 rfl rfl (by simp) (by rfl) (D9 rfl rfl (E8 C6)))) ?_
    rw [a5n hnn hn, hr1]
    rfl
   skip
   apply xC rfl
   ·apply A9
    ·exact B2 rfl
    exact C4
   ·exact (by have hi := ih ws1 ⟨by simp only [List.length_cons] at hws; omega, fun x hx => hws.2 x (List.mem_cons_of_mem _ hx)⟩ (by simp only [List.length_cons] at hkk; omega); rw [hr1] at hi; exact hi)
   refine ⟨⟨rfl, rfl, rfl, dT rfl, rfl⟩, .inl rfl, B0, K7 rfl, fun _ => rfl, fun g39 => ?_⟩
   refine A5 rfl rfl <| B9 rfl rfl rfl <| B9 rfl rfl rfl <| B9 rfl rfl rfl <| G4 rfl (fun _ => B3 rfl) (fun _ => rfl) ?_
   intro g10
   refine B7 rfl rfl rfl rfl ⟨by decide, rfl, dT rfl, dT rfl, rfl⟩ rfl (by exact B3 rfl) <| A4 rfl rfl rfl <| A4 rfl rfl rfl <| xN [2,8,10,11,12,34,35] [2,8,6,10] rfl <| A3 <| A3 <| A0 <| A5 rfl rfl <| L9 rfl <| xN [2,8,10,11,34,35,44] [2,8,6,10] rfl ?_
   refine A7 rfl (fun hc => absurd hc (by decide)) (fun hc => ?_)
   refine B5 <| A3 <| A0 <| C1 rfl rfl (dT rfl) rfl rfl <| C2 rfl rfl rfl rfl rfl rfl <| E3 rfl rfl rfl rfl rfl <| C8 (es := List.map trV [_]) rfl rfl (dT rfl) rfl rfl (fun _ => B1 (A8 fun _ => rfl)) (fun _ => rfl) ?_
   intro g49
   refine X7 rfl rfl rfl (by simp) (by decide) rfl rfl rfl (dT rfl) (fun _ => ⟨rfl, rfl⟩) (by simp only [H2]; (simp only [List.length_nil, List.length_cons, List.length_append, Nat.zero_add, List.length_map]; omega)) (fun _ => rfl) ?_
   intro g50
   refine C1 rfl rfl (dT rfl) rfl rfl <| S0 rfl rfl rfl rfl rfl (Nat.le_refl _) rfl <| xN [2,8,11,34,35] [2,8,6,1000050] rfl <| A0 <| A5 rfl rfl <| A4 rfl rfl rfl <| xN [2,8,9,34,35] [2,8,6,1000050] rfl <| A0 <| G9 rfl rfl (E7 (by omega)) <| A5 rfl rfl <| xN [2,8,9,34,35] [2,8,6,1000050] rfl <| M5 <| A3 <| A0 <| I3 rfl rfl <| xN [2,8,9,34,35,36] [2,8,6,1000050] rfl <| A3 ?_
   refine A7 rfl (fun hc => ?_) (fun hc => absurd hc (by decide))
   refine B5 <| A3 <| C5 <| A3 <| A0 <| A5 rfl rfl ?_
   rcases hr2 : rdT r1 with _ | ⟨k2, r2⟩
   ·skip
    apply xC rfl
    ·apply A9
     ·exact B2 rfl
     exact C4
    ·exact (by have hi := ih r1 ⟨by have := Y2 hr1; simp only [List.length_cons] at hws; omega, fun x hx => hws.2 x (List.mem_cons_of_mem _ (b1q hr1 x hx))⟩ (by have := Y2 hr1; simp only [List.length_cons] at hkk; omega); rw [hr2] at hi; exact hi)
    refine ⟨⟨rfl, rfl, rfl, dT rfl, rfl⟩, .inl rfl, B0, K4 (K3 rfl (T1 fun _ => K3 rfl T2)), fun _ => D7 (B1 rfl) (by rfl), fun g39 => ?_⟩
    refine A5 rfl rfl <| B9 rfl rfl rfl <| B9 rfl rfl rfl <| B9 rfl rfl rfl <| G4 rfl (fun _ => B3 rfl) (fun _ => rfl) ?_
    intro g10
    refine B7 rfl rfl rfl rfl ⟨by decide, rfl, dT rfl, dT rfl, rfl⟩ rfl (by exact B3 rfl) ?_
    (refine B8 rfl rfl (by (simp; done)) rfl (fun _ => (B1 (by rfl))) (fun _ => rfl) ?_; intro g11)
    refine A4 rfl rfl rfl <| xN [2,8,10,11,12,34,35] [2,8,6,1000050,10] rfl <| A3 <| A3 <| A0 <| A5 rfl rfl <| L9 rfl <| xN [2,8,10,11,34,35,44] [2,8,6,1000050,10] rfl ?_
    refine A7 rfl (fun hc => ?_) (fun hc => absurd hc (by decide))
    refine A3 <| A0 <| J0 (fs := [_, _, _]) rfl rfl rfl rfl rfl <| B7 rfl rfl rfl rfl ⟨by decide, rfl, dT rfl, dT rfl, rfl⟩ rfl (by exact B3 rfl) ?_
    (refine C3 rfl rfl (fun _ => rfl) ?_; intro g3)
    refine A4 rfl rfl rfl <| xN [2,3,4] [2,3] rfl <| B4 <| D4 (F7 rfl rfl rfl rfl (E6 rfl (H4 rfl (H4 rfl H6))) (H5 rfl rfl (by simp) (by rfl) (D9 rfl rfl (E8 C6)))) ?_
    rw [a5n hnn hn, hr1, Option.bind_some, hr2]
    rfl
   skip
   apply xC rfl
   ·apply A9
    ·exact B2 rfl
    exact C4
   ·exact (by have hi := ih r1 ⟨by have := Y2 hr1; simp only [List.length_cons] at hws; omega, fun x hx => hws.2 x (List.mem_cons_of_mem _ (b1q hr1 x hx))⟩ (by have := Y2 hr1; simp only [List.length_cons] at hkk; omega); rw [hr2] at hi; exact hi)
   refine ⟨⟨rfl, rfl, rfl, dT rfl, rfl⟩, .inl rfl, B0, K7 rfl, fun _ => rfl, fun g39 => ?_⟩
   refine A5 rfl rfl <| B9 rfl rfl rfl <| B9 rfl rfl rfl <| B9 rfl rfl rfl <| G4 rfl (fun _ => B3 rfl) (fun _ => rfl) ?_
   intro g10
   refine B7 rfl rfl rfl rfl ⟨by decide, rfl, dT rfl, dT rfl, rfl⟩ rfl (by exact B3 rfl) <| A4 rfl rfl rfl <| A4 rfl rfl rfl <| xN [2,8,10,11,12,34,35] [2,8,6,1000050,10] rfl <| A3 <| A3 <| A0 <| A5 rfl rfl <| L9 rfl <| xN [2,8,10,11,34,35,44] [2,8,6,1000050,10] rfl ?_
   refine A7 rfl (fun hc => absurd hc (by decide)) (fun hc => ?_)
   refine B5 <| A3 <| A0 <| C1 rfl rfl (dT rfl) rfl rfl <| C2 rfl rfl rfl rfl rfl rfl <| E3 rfl rfl rfl rfl rfl <| C8 (es := List.map trV [_]) rfl rfl (dT rfl) rfl rfl (fun _ => B1 (A8 fun _ => rfl)) (fun _ => rfl) ?_
   intro g49
   refine G6 rfl rfl rfl rfl (by (simp; done)) (by simp) (by decide) rfl rfl rfl rfl (dT rfl) (fun _ => ⟨rfl, rfl⟩) (by simp only [H2]; (simp only [List.length_nil, List.length_cons, List.length_append, Nat.zero_add, List.length_map]; omega)) (fun _ => rfl) ?_
   intro g50
   refine C1 rfl rfl (dT rfl) rfl rfl <| S0 rfl rfl rfl rfl rfl (Nat.le_refl _) rfl <| xN [2,8,11,34,35] [2,8,6,1000050] rfl <| A0 <| A5 rfl rfl <| A4 rfl rfl rfl <| xN [2,8,9,34,35] [2,8,6,1000050] rfl <| A0 <| G9 rfl rfl (E7 (by omega)) <| A5 rfl rfl <| xN [2,8,9,34,35] [2,8,6,1000050] rfl <| M5 <| A3 <| A0 <| I3 rfl rfl <| xN [2,8,9,34,35,36] [2,8,6,1000050] rfl <| A3 ?_
   refine A7 rfl (fun hc => absurd hc (by decide)) (fun hc => ?_)
   refine H1 <| A3 <| A0 <| E3 rfl rfl rfl rfl rfl <| A5 rfl rfl <| L5 rfl rfl rfl rfl (O3 rfl (a2r (by decide) (b1h (by decide) (by decide) rfl (by simp) fun _ => W1))) (fun _ => rfl) ⟨by decide, rfl, dT rfl, Nat.le_refl _⟩ (fun _ => rfl) (fun _ => rfl) (fun _ => D7 (by rfl) (D7 (B1 (A8 fun _ => rfl)) (by rfl))) ?_
   intro z
   simp only [P2, List.cons_append, List.nil_append]
   refine A4 rfl rfl rfl <| A4 rfl rfl rfl <| xN [2,3,4] [2,6,300002] rfl <| B4 <| D4 (F7 rfl rfl rfl rfl (E6 rfl (b8l rfl rfl rfl (a2x rfl rfl (by simp) (fun _ => rfl) H6))) (D9 rfl rfl (D9 rfl rfl (E8 C6)))) ?_
   rw [a5n hnn hn, hr1, Option.bind_some, hr2]
   rfl
  skip
  apply xC rfl
  ·apply A9
   ·exact B2 rfl
   exact C4
  ·exact (show CW (cxT oG) 63 [tV w] = some (.tup [tV w, .own 1 [], bV false], []) from by have hi := a0k (oG := oG) w (by omega); rw [hnn] at hi; rw [show decide (0 ≤ rch (bA w)) = false from decide_eq_false (by omega)] at hi; exact hi)
  refine ⟨⟨rfl, rfl, rfl, dT rfl, rfl⟩, .inr ⟨rfl, rfl⟩, B0, K4 (K3 rfl (T1 fun _ => K3 rfl T2)), fun _ => D7 (B1 rfl) (by rfl), fun g21 => ?_⟩
  try simp only [List.length_map]
  refine A5 rfl rfl <| B9 rfl rfl rfl <| B9 rfl rfl rfl <| B9 rfl rfl rfl <| A4 rfl rfl rfl ?_
  (refine B8 rfl rfl (by (simp; done)) rfl (fun _ => (B1 (by rfl))) (fun _ => rfl) ?_; intro g6)
  refine A4 rfl rfl rfl <| xN [0,2,5,6,7] [2,6] rfl <| A3 <| A3 <| A0 <| A5 rfl rfl <| L9 rfl <| xN [0,2,5,6,26] [2,6] rfl ?_
  refine A7 rfl (fun hc => ?_) (fun hc => absurd hc (by decide))
  refine A3 <| A0 <| J0 (fs := [_, _, _]) rfl rfl rfl rfl rfl <| B7 rfl rfl rfl rfl ⟨by decide, rfl, dT rfl, dT rfl, rfl⟩ rfl (by exact B3 rfl) ?_
  (refine C3 rfl rfl (fun _ => rfl) ?_; intro g3)
  refine A4 rfl rfl rfl <| xN [2,3,4] [2,3] rfl <| B4 <| D4 (F7 rfl rfl rfl rfl (E6 rfl (H4 rfl (H4 rfl H6))) (H5 rfl rfl (by simp) (by rfl) (D9 rfl rfl (E8 C6)))) ?_
  rw [c5n hnn hn]
  rfl

theorem keep_s_readPlanI : G0 Tryz.f97 = [0, 2, 3, 4, 6, 7, 5, 12] := by kernel_rfl
set_option maxHeartbeats 20000000 in
theorem c2b (s : List UInt8) (hs : s.length ≤ 1048576) : CW (cxT oG) 97 [tV s] = some (.tup [trV (ipT s), bV (c3u s)], []) := by
 obtain ⟨ws, hws⟩ : ∃ ws, ws = splitB 32 s := ⟨_, rfl⟩
 have hwl := T9 32 s
 have hwp := U3 32 s
 rw [← hws] at hwl hwp
 refine F9 rfl Tryz.func97 rfl ⟨by kernel_rfl, rfl, dT rfl, dT rfl, by decide⟩ keep_s_readPlanI <| A3 <| A0 <| G4 rfl (fun _ => B3 rfl) (fun _ => rfl) ?_
 intro g2
 refine A4 rfl rfl rfl <| xN [0,2] [2] rfl <| A3 <| A0 <| A5 rfl rfl ?_
 apply xC rfl
 ·apply A9
  ·exact B2 rfl
  apply A9
  ·exact B2 rfl
  exact C4
 ·exact b8i s 32 (by omega)
 refine ⟨⟨rfl, rfl, rfl, dT rfl, rfl⟩, .inl rfl, B0, N1, fun _ => rfl, fun g9 => ?_⟩
 rw [← hws]
 try simp only [List.length_map]
 (refine B8 rfl rfl (by (simp; done)) rfl (fun _ => (B1 (by exact A8 fun _ => rfl))) (fun _ => rfl) ?_; intro g4)
 refine xN [2,4] [2,4] rfl <| A3 <| A0 <| A5 rfl rfl ?_
 rcases hr : rdT ws with _ | ⟨t, r⟩
 ·skip
  apply xC rfl
  ·apply A9
   ·exact I4 rfl rfl (by (simp; done)) (fun _ => rfl)
   exact C4
  ·exact (by have hi := a9z (oG := oG) ws ⟨by omega, fun w hw => by have := hwp w hw; omega⟩; rw [hr] at hi; exact hi)
  refine ⟨⟨rfl, rfl, rfl, dT rfl, rfl⟩, .inl rfl, B0, K4 (K3 rfl (T1 fun _ => K3 rfl T2)), fun _ => D7 (a0j (A8 fun _ => rfl) (by decide)) (by rfl), fun g12 => ?_⟩
  refine A5 rfl rfl <| B9 rfl rfl rfl <| B9 rfl rfl rfl <| B9 rfl rfl rfl <| G4 rfl (fun _ => B3 rfl) (fun _ => rfl) ?_
  intro g5
  refine B7 rfl rfl rfl rfl ⟨by decide, rfl, dT rfl, dT rfl, rfl⟩ rfl (by exact B3 rfl) ?_
  (refine B8 rfl rfl (by (simp; done)) rfl (fun _ => (B1 (by rfl))) (fun _ => rfl) ?_; intro g6)
  refine A4 rfl rfl rfl <| xN [2,4,5,6,7] [2,4,5] rfl <| A3 <| A0 <| E3 rfl rfl rfl rfl rfl <| A5 rfl rfl <| A5 rfl rfl <| J3 rfl rfl rfl <| J3 rfl rfl rfl <| J3 rfl rfl rfl <| F8 rfl rfl rfl rfl <| A5 rfl rfl <| J3 rfl rfl rfl <| J3 rfl rfl rfl <| J3 rfl rfl rfl <| F8 rfl rfl rfl rfl <| B7 rfl rfl rfl rfl ⟨by decide, rfl, dT rfl, dT rfl, rfl⟩ rfl (by exact B3 rfl) <| A4 rfl rfl rfl <| xN [2,3] [2] rfl <| B4 <| D4 (F7 rfl rfl rfl rfl (E6 rfl (E6 rfl (E6 rfl H6))) (D9 rfl rfl (E8 C6))) ?_
  obtain ⟨h1, h2⟩ := d2e hws hr
  rw [h1, h2]
  rfl
 skip
 apply xC rfl
 ·apply A9
  ·exact I4 rfl rfl (by (simp; done)) (fun _ => rfl)
  exact C4
 ·exact (by have hi := a9z (oG := oG) ws ⟨by omega, fun w hw => by have := hwp w hw; omega⟩; rw [hr] at hi; exact hi)
 refine ⟨⟨rfl, rfl, rfl, dT rfl, rfl⟩, .inl rfl, B0, K7 rfl, fun _ => D7 (a0j (A8 fun _ => rfl) (by decide)) (by rfl), fun g12 => ?_⟩
 refine A5 rfl rfl <| B9 rfl rfl rfl <| B9 rfl rfl rfl <| B9 rfl rfl rfl <| G4 rfl (fun _ => B3 rfl) (fun _ => rfl) ?_
 intro g5
 refine B7 rfl rfl rfl rfl ⟨by decide, rfl, dT rfl, dT rfl, rfl⟩ rfl (by exact B3 rfl) <| A4 rfl rfl rfl <| A4 rfl rfl rfl <| xN [2,4,5,6,7] [2,4,5] rfl <| A3 <| A0 <| E3 rfl rfl rfl rfl rfl <| A5 rfl rfl <| A5 rfl rfl <| J2 rfl rfl rfl <| A5 rfl rfl <| J2 rfl rfl rfl <| F6 rfl rfl <| J2 rfl rfl rfl <| Q1 rfl rfl <| G1 rfl rfl rfl rfl <| A5 rfl rfl ?_
 refine D8 rfl rfl ?_ ?_ <;> intro hg0 <;> have hg := hg0 <;> try simp only [SG] at hg
 ·refine A5 rfl rfl <| gT rfl rfl <| M1 rfl rfl <| gT rfl rfl <| b3e rfl rfl <| G1 rfl (by assumption) rfl rfl <| B7 rfl rfl rfl rfl ⟨by decide, rfl, dT rfl, dT rfl, rfl⟩ rfl (by exact B3 rfl) <| A4 rfl rfl rfl <| xN [2,3] [2] rfl <| B4 <| D4 (F7 rfl rfl rfl rfl (E6 rfl (E6 rfl (E6 rfl H6))) (D9 rfl rfl (E8 C6))) ?_
  obtain ⟨h1, h2⟩ := c5k hws hr
  rw [h1, h2]
  simp_all
  try rfl
 refine gF rfl rfl <| gF rfl rfl <| F8 rfl (by assumption) rfl rfl <| B7 rfl rfl rfl rfl ⟨by decide, rfl, dT rfl, dT rfl, rfl⟩ rfl (by exact B3 rfl) <| A4 rfl rfl rfl <| xN [2,3] [2] rfl <| B4 <| D4 (F7 rfl rfl rfl rfl (E6 rfl (E6 rfl (E6 rfl H6))) (D9 rfl rfl (E8 C6))) ?_
 obtain ⟨h1, h2⟩ := c5k hws hr
 rw [h1, h2]
 simp_all
 try rfl

theorem keep_s_validPlan : G0 Tryz.f57 = [0, 2, 3, 5, 4, 8] := by kernel_rfl
set_option maxHeartbeats 20000000 in
theorem a9v (s : List UInt8) (hs : s.length ≤ 1048576) : CW (cxT oG) 57 [tV s] = some (.tup [trV (ipT s), bV (rdPlan s).isSome], []) := by
 have hip := d5d s
 refine F9 rfl Tryz.func57 rfl ⟨by kernel_rfl, rfl, dT rfl, dT rfl, by decide⟩ keep_s_validPlan <| A3 <| A0 <| G4 rfl (fun _ => B3 rfl) (fun _ => rfl) ?_
 intro g2
 refine A4 rfl rfl rfl <| xN [0,2] [2] rfl <| A3 <| A0 <| A5 rfl rfl ?_
 apply xC rfl
 ·apply A9
  ·exact B2 rfl
  exact C4
 ·exact c2b s hs
 refine ⟨⟨rfl, rfl, rfl, dT rfl, rfl⟩, .inl rfl, B0, K7 rfl, fun _ => rfl, fun g8 => ?_⟩
 refine A5 rfl rfl <| B9 rfl rfl rfl <| B9 rfl rfl rfl <| G4 rfl (fun _ => B3 rfl) (fun _ => rfl) ?_
 intro g4
 refine B7 rfl rfl rfl rfl ⟨by decide, rfl, dT rfl, dT rfl, rfl⟩ rfl (by exact B3 rfl) <| A4 rfl rfl rfl <| xN [0,2,4,5] [2,4] rfl <| A3 <| A0 <| E3 rfl rfl rfl rfl rfl <| A5 rfl rfl <| A5 rfl rfl ?_
 refine D8 rfl rfl ?_ ?_ <;> intro hg0 <;> have hg := hg0 <;> try simp only [SG] at hg
 ·refine A5 rfl rfl <| gT rfl rfl <| a1j rfl rfl <| gT rfl rfl <| b3e rfl rfl <| G1 rfl (by assumption) rfl rfl <| B7 rfl rfl rfl rfl ⟨by decide, rfl, dT rfl, dT rfl, rfl⟩ rfl (by exact B3 rfl) <| A4 rfl rfl rfl <| xN [2,3] [2] rfl <| B4 <| D4 (F7 rfl rfl rfl rfl (E6 rfl (E6 rfl (E6 rfl H6))) (D9 rfl rfl (E8 C6))) ?_
  rw [← hip]
  simp_all
  try rfl
 refine gF rfl rfl <| gF rfl rfl <| F8 rfl (by assumption) rfl rfl <| B7 rfl rfl rfl rfl ⟨by decide, rfl, dT rfl, dT rfl, rfl⟩ rfl (by exact B3 rfl) <| A4 rfl rfl rfl <| xN [2,3] [2] rfl <| B4 <| D4 (F7 rfl rfl rfl rfl (E6 rfl (E6 rfl (E6 rfl H6))) (D9 rfl rfl (E8 C6))) ?_
 rw [← hip]
 simp_all
 try rfl

theorem keep_s_ValidPlanI : G0 Tryz.f72 = [0, 2, 4, 7] := by kernel_rfl
set_option maxHeartbeats 20000000 in
theorem a6y (s : List UInt8) (hs : s.length ≤ 1048576) : CW (cxT oG) 72 [tV s] = some (bV (rdPlan s).isSome, []) := by
 refine F9 rfl Tryz.func72 rfl ⟨by kernel_rfl, rfl, dT rfl, dT rfl, by decide⟩ keep_s_ValidPlanI <| A3 <| A0 <| A4 rfl rfl rfl <| xN [0] [] rfl <| A3 <| A0 <| A5 rfl rfl ?_
 apply xC rfl
 ·apply A9
  ·exact B2 rfl
  exact C4
 ·exact a9v s hs
 refine ⟨⟨rfl, rfl, rfl, dT rfl, rfl⟩, .inl rfl, B0, K7 rfl, fun _ => rfl, fun g7 => ?_⟩
 refine A5 rfl rfl <| B9 rfl rfl rfl <| B9 rfl rfl rfl <| G4 rfl (fun _ => B3 rfl) (fun _ => rfl) ?_
 intro g3
 refine B7 rfl rfl rfl rfl ⟨by decide, rfl, dT rfl, dT rfl, rfl⟩ rfl (by exact B3 rfl) <| A4 rfl rfl rfl <| xN [4] [] rfl <| A3 <| A0 <| A5 rfl rfl <| A4 rfl rfl rfl <| xN [2] [] rfl <| B4 <| C7 rfl rfl trivial ?_
 rfl

theorem keep_s_costI : G0 Tryz.f81 = [0, 2, 1, 7, 8, 11, 20, 19, 21, 18, 5, 3] := by kernel_rfl
set_option maxHeartbeats 20000000 in
theorem d2k (t : Pl) (ht : t.sz ≤ 1000) : CW (cxT oG) 81 [trK t] = some (iV (costP t), []) := by
 obtain ⟨kk, hkk⟩ : ∃ kk : Nat, t.sz < kk := ⟨_, Nat.lt_succ_self _⟩
 revert t
 induction kk with
 | zero => intro t ht hkk; exact absurd hkk (Nat.not_lt_zero _)
 | succ kk ih =>
  intro t ht hkk
  have hkl := a7z t
  have hpb := Y8 t
  have hprb := b0b (bA t.op)
  have hkb := fun i => Y8 (t.kids.getD i default)
  have hkz := fun i => Z7 (t := t) (i := i)
  refine F9 rfl Tryz.func81 rfl ⟨by kernel_rfl, rfl, dT rfl, dT rfl, by decide⟩ keep_s_costI <| A3 <| A0 <| a9r rfl rfl rfl (fun _ => B3 rfl) (fun _ => rfl) ?_
  intro g1
  refine A4 rfl rfl rfl <| xN [1] [1] rfl <| A3 <| A0 <| A4 rfl rfl rfl <| xN [1,3] [1] rfl <| A3 <| A3 <| A0 <| C1 rfl rfl (dT rfl) rfl rfl <| C2 rfl rfl rfl rfl rfl rfl <| xN [1,3,7] [1] rfl <| C5 <| A3 <| A3 <| A0 <| R4 rfl rfl <| A4 rfl rfl rfl <| xN [1,3,7,8] [1] rfl ?_
  refine A7 rfl ?_ ?_ <;> intro hc <;> try simp only [SL] at hc
  ·refine B5 ?_
   refine A7 rfl (fun hc => ?_) (fun hc => absurd hc (by simp_all))
   refine A0 <| A4 rfl rfl rfl <| xN [1,3] [1] rfl <| A3 <| A3 <| A0 <| C1 rfl rfl (dT rfl) rfl rfl <| C2 rfl rfl rfl rfl rfl rfl <| F6 rfl rfl <| A5 rfl rfl <| xN [3,18,19,20] [] rfl <| C5 <| H3 (β := Nat × Int) [(.t 18, _), (.t 19, _)] (fun (z : Nat × Int) => match z with | (i, a) => [(.t 20, iV i), (.t 3, iV a)]) (fun (z : Nat × Int) => match z with | (i, a) => i ≤ t.kids.length ∧ a = P3 t i) (fun (z : Nat × Int) => match z with | (i, a) => t.kids.length - i) (0, _) ⟨rfl, rfl, rfl, rfl, trivial⟩ ⟨Nat.zero_le _, by show _ = pr (bA t.op); simp_all [pr]⟩ ?_
   intro z hb
   obtain ⟨i, a⟩ := z
   try dsimp only at hb
   obtain ⟨hi1, ha⟩ := hb
   have hnb := Y1 hi1
   rw [← ha] at hnb
   refine A3 <| A0 <| I3 rfl rfl <| xN [3,18,19,20,21] [] rfl <| A3 ?_
   refine A7 rfl ?_ ?_ <;> intro hc <;> try simp only [SL] at hc
   ·refine B5 <| A3 <| C5 <| A3 <| A0 <| F4 rfl rfl rfl (fun _ => rfl) (by omega) <| E4 rfl rfl rfl <| G4 rfl (fun _ => B3 rfl) (fun _ => rfl) ?_
    intro g5
    refine B7 rfl rfl rfl rfl ⟨by decide, rfl, dT rfl, dT rfl, rfl⟩ rfl (by exact B3 rfl) <| xN [3,5,18,19,20] [5] rfl <| A0 <| A5 rfl rfl <| E3 rfl rfl rfl rfl rfl ?_
    have h1 := hkb i
    have h2 := hkz i (by omega)
    apply xC rfl
    ·apply A9
     ·exact B2 rfl
     exact C4
    ·exact (by have hk2 := Z7 (t := t) (i := i) (by omega); have hi := ih (t.kids.getD i default) (by omega) (by omega); rw [← Y0] at hi; exact hi)
    refine ⟨⟨rfl, rfl, rfl, dT rfl, rfl⟩, .inl rfl, B0, B6 rfl, fun _ => rfl, fun g26 => ?_⟩
    refine G9 rfl rfl (E7 (by omega)) <| A4 rfl rfl rfl <| xN [3,18,19,20] [] rfl <| A0 <| G9 rfl rfl (E7 (by omega)) <| A5 rfl rfl <| xN [3,18,19,20] [] rfl ?_
    refine ⟨(i + 1, _), ⟨by omega, by rw [P3, ← ha]⟩, (by simp only; omega), ⟨rfl, rfl, rfl, rfl, trivial⟩⟩
   refine H1 <| A3 <| A0 <| A5 rfl rfl <| A4 rfl rfl rfl <| xN [2] [] rfl <| B4 <| C7 rfl rfl trivial ?_
   rw [ha, show i = t.kids.length by omega, U7]
  refine A0 <| R4 rfl rfl <| A4 rfl rfl rfl <| xN [1,3,7,8] [1] rfl ?_
  refine A7 rfl ?_ ?_ <;> intro hc <;> try simp only [SL] at hc
  ·refine A0 <| A4 rfl rfl rfl <| xN [1,3] [1] rfl <| A3 <| A3 <| A0 <| C1 rfl rfl (dT rfl) rfl rfl <| C2 rfl rfl rfl rfl rfl rfl <| F6 rfl rfl <| A5 rfl rfl <| xN [3,18,19,20] [] rfl <| C5 <| H3 (β := Nat × Int) [(.t 18, _), (.t 19, _)] (fun (z : Nat × Int) => match z with | (i, a) => [(.t 20, iV i), (.t 3, iV a)]) (fun (z : Nat × Int) => match z with | (i, a) => i ≤ t.kids.length ∧ a = P3 t i) (fun (z : Nat × Int) => match z with | (i, a) => t.kids.length - i) (0, _) ⟨rfl, rfl, rfl, rfl, trivial⟩ ⟨Nat.zero_le _, by show _ = pr (bA t.op); simp_all [pr]⟩ ?_
   intro z hb
   obtain ⟨i, a⟩ := z
   try dsimp only at hb
   obtain ⟨hi1, ha⟩ := hb
   have hnb := Y1 hi1
   rw [← ha] at hnb
   refine A3 <| A0 <| I3 rfl rfl <| xN [3,18,19,20,21] [] rfl <| A3 ?_
   refine A7 rfl ?_ ?_ <;> intro hc <;> try simp only [SL] at hc
   ·refine B5 <| A3 <| C5 <| A3 <| A0 <| F4 rfl rfl rfl (fun _ => rfl) (by omega) <| E4 rfl rfl rfl <| G4 rfl (fun _ => B3 rfl) (fun _ => rfl) ?_
    intro g5
    refine B7 rfl rfl rfl rfl ⟨by decide, rfl, dT rfl, dT rfl, rfl⟩ rfl (by exact B3 rfl) <| xN [3,5,18,19,20] [5] rfl <| A0 <| A5 rfl rfl <| E3 rfl rfl rfl rfl rfl ?_
    have h1 := hkb i
    have h2 := hkz i (by omega)
    apply xC rfl
    ·apply A9
     ·exact B2 rfl
     exact C4
    ·exact (by have hk2 := Z7 (t := t) (i := i) (by omega); have hi := ih (t.kids.getD i default) (by omega) (by omega); rw [← Y0] at hi; exact hi)
    refine ⟨⟨rfl, rfl, rfl, dT rfl, rfl⟩, .inl rfl, B0, B6 rfl, fun _ => rfl, fun g26 => ?_⟩
    refine G9 rfl rfl (E7 (by omega)) <| A4 rfl rfl rfl <| xN [3,18,19,20] [] rfl <| A0 <| G9 rfl rfl (E7 (by omega)) <| A5 rfl rfl <| xN [3,18,19,20] [] rfl ?_
    refine ⟨(i + 1, _), ⟨by omega, by rw [P3, ← ha]⟩, (by simp only; omega), ⟨rfl, rfl, rfl, rfl, trivial⟩⟩
   refine H1 <| A3 <| A0 <| A5 rfl rfl <| A4 rfl rfl rfl <| xN [2] [] rfl <| B4 <| C7 rfl rfl trivial ?_
   rw [ha, show i = t.kids.length by omega, U7]
  refine A3 <| A3 <| A0 <| R4 rfl rfl <| A4 rfl rfl rfl <| xN [1,3,7,11] [1] rfl ?_
  refine A7 rfl ?_ ?_ <;> intro hc <;> try simp only [SL] at hc
  ·refine B5 ?_
   refine A7 rfl (fun hc => ?_) (fun hc => absurd hc (by simp_all))
   refine A0 <| A4 rfl rfl rfl <| xN [1,3] [1] rfl <| A3 <| A3 <| A0 <| C1 rfl rfl (dT rfl) rfl rfl <| C2 rfl rfl rfl rfl rfl rfl <| F6 rfl rfl <| A5 rfl rfl <| xN [3,18,19,20] [] rfl <| C5 <| H3 (β := Nat × Int) [(.t 18, _), (.t 19, _)] (fun (z : Nat × Int) => match z with | (i, a) => [(.t 20, iV i), (.t 3, iV a)]) (fun (z : Nat × Int) => match z with | (i, a) => i ≤ t.kids.length ∧ a = P3 t i) (fun (z : Nat × Int) => match z with | (i, a) => t.kids.length - i) (0, _) ⟨rfl, rfl, rfl, rfl, trivial⟩ ⟨Nat.zero_le _, by show _ = pr (bA t.op); simp_all [pr]⟩ ?_
   intro z hb
   obtain ⟨i, a⟩ := z
   try dsimp only at hb
   obtain ⟨hi1, ha⟩ := hb
   have hnb := Y1 hi1
   rw [← ha] at hnb
   refine A3 <| A0 <| I3 rfl rfl <| xN [3,18,19,20,21] [] rfl <| A3 ?_
   refine A7 rfl ?_ ?_ <;> intro hc <;> try simp only [SL] at hc
   ·refine B5 <| A3 <| C5 <| A3 <| A0 <| F4 rfl rfl rfl (fun _ => rfl) (by omega) <| E4 rfl rfl rfl <| G4 rfl (fun _ => B3 rfl) (fun _ => rfl) ?_
    intro g5
    refine B7 rfl rfl rfl rfl ⟨by decide, rfl, dT rfl, dT rfl, rfl⟩ rfl (by exact B3 rfl) <| xN [3,5,18,19,20] [5] rfl <| A0 <| A5 rfl rfl <| E3 rfl rfl rfl rfl rfl ?_
    have h1 := hkb i
    have h2 := hkz i (by omega)
    apply xC rfl
    ·apply A9
     ·exact B2 rfl
     exact C4
    ·exact (by have hk2 := Z7 (t := t) (i := i) (by omega); have hi := ih (t.kids.getD i default) (by omega) (by omega); rw [← Y0] at hi; exact hi)
    refine ⟨⟨rfl, rfl, rfl, dT rfl, rfl⟩, .inl rfl, B0, B6 rfl, fun _ => rfl, fun g26 => ?_⟩
    refine G9 rfl rfl (E7 (by omega)) <| A4 rfl rfl rfl <| xN [3,18,19,20] [] rfl <| A0 <| G9 rfl rfl (E7 (by omega)) <| A5 rfl rfl <| xN [3,18,19,20] [] rfl ?_
    refine ⟨(i + 1, _), ⟨by omega, by rw [P3, ← ha]⟩, (by simp only; omega), ⟨rfl, rfl, rfl, rfl, trivial⟩⟩
   refine H1 <| A3 <| A0 <| A5 rfl rfl <| A4 rfl rfl rfl <| xN [2] [] rfl <| B4 <| C7 rfl rfl trivial ?_
   rw [ha, show i = t.kids.length by omega, U7]
  refine A3 <| A0 <| R4 rfl rfl <| A4 rfl rfl rfl <| xN [1,3,7,11] [1] rfl ?_
  refine A7 rfl ?_ ?_ <;> intro hc <;> try simp only [SL] at hc
  ·refine B5 ?_
   refine A7 rfl (fun hc => ?_) (fun hc => absurd hc (by simp_all))
   refine A0 <| A4 rfl rfl rfl <| xN [1,3] [1] rfl <| A3 <| A3 <| A0 <| C1 rfl rfl (dT rfl) rfl rfl <| C2 rfl rfl rfl rfl rfl rfl <| F6 rfl rfl <| A5 rfl rfl <| xN [3,18,19,20] [] rfl <| C5 <| H3 (β := Nat × Int) [(.t 18, _), (.t 19, _)] (fun (z : Nat × Int) => match z with | (i, a) => [(.t 20, iV i), (.t 3, iV a)]) (fun (z : Nat × Int) => match z with | (i, a) => i ≤ t.kids.length ∧ a = P3 t i) (fun (z : Nat × Int) => match z with | (i, a) => t.kids.length - i) (0, _) ⟨rfl, rfl, rfl, rfl, trivial⟩ ⟨Nat.zero_le _, by show _ = pr (bA t.op); simp_all [pr]⟩ ?_
   intro z hb
   obtain ⟨i, a⟩ := z
   try dsimp only at hb
   obtain ⟨hi1, ha⟩ := hb
   have hnb := Y1 hi1
   rw [← ha] at hnb
   refine A3 <| A0 <| I3 rfl rfl <| xN [3,18,19,20,21] [] rfl <| A3 ?_
   refine A7 rfl ?_ ?_ <;> intro hc <;> try simp only [SL] at hc
   ·refine B5 <| A3 <| C5 <| A3 <| A0 <| F4 rfl rfl rfl (fun _ => rfl) (by omega) <| E4 rfl rfl rfl <| G4 rfl (fun _ => B3 rfl) (fun _ => rfl) ?_
    intro g5
    refine B7 rfl rfl rfl rfl ⟨by decide, rfl, dT rfl, dT rfl, rfl⟩ rfl (by exact B3 rfl) <| xN [3,5,18,19,20] [5] rfl <| A0 <| A5 rfl rfl <| E3 rfl rfl rfl rfl rfl ?_
    have h1 := hkb i
    have h2 := hkz i (by omega)
    apply xC rfl
    ·apply A9
     ·exact B2 rfl
     exact C4
    ·exact (by have hk2 := Z7 (t := t) (i := i) (by omega); have hi := ih (t.kids.getD i default) (by omega) (by omega); rw [← Y0] at hi; exact hi)
    refine ⟨⟨rfl, rfl, rfl, dT rfl, rfl⟩, .inl rfl, B0, B6 rfl, fun _ => rfl, fun g26 => ?_⟩
    refine G9 rfl rfl (E7 (by omega)) <| A4 rfl rfl rfl <| xN [3,18,19,20] [] rfl <| A0 <| G9 rfl rfl (E7 (by omega)) <| A5 rfl rfl <| xN [3,18,19,20] [] rfl ?_
    refine ⟨(i + 1, _), ⟨by omega, by rw [P3, ← ha]⟩, (by simp only; omega), ⟨rfl, rfl, rfl, rfl, trivial⟩⟩
   refine H1 <| A3 <| A0 <| A5 rfl rfl <| A4 rfl rfl rfl <| xN [2] [] rfl <| B4 <| C7 rfl rfl trivial ?_
   rw [ha, show i = t.kids.length by omega, U7]
  refine A3 <| A0 <| R4 rfl rfl <| A4 rfl rfl rfl <| xN [1,3,7,11] [1] rfl ?_
  refine A7 rfl ?_ ?_ <;> intro hc <;> try simp only [SL] at hc
  ·refine B5 ?_
   refine A7 rfl (fun hc => ?_) (fun hc => absurd hc (by simp_all))
   refine A0 <| A4 rfl rfl rfl <| xN [1,3] [1] rfl <| A3 <| A3 <| A0 <| C1 rfl rfl (dT rfl) rfl rfl <| C2 rfl rfl rfl rfl rfl rfl <| F6 rfl rfl <| A5 rfl rfl <| xN [3,18,19,20] [] rfl <| C5 <| H3 (β := Nat × Int) [(.t 18, _), (.t 19, _)] (fun (z : Nat × Int) => match z with | (i, a) => [(.t 20, iV i), (.t 3, iV a)]) (fun (z : Nat × Int) => match z with | (i, a) => i ≤ t.kids.length ∧ a = P3 t i) (fun (z : Nat × Int) => match z with | (i, a) => t.kids.length - i) (0, _) ⟨rfl, rfl, rfl, rfl, trivial⟩ ⟨Nat.zero_le _, by show _ = pr (bA t.op); simp_all [pr]⟩ ?_
   intro z hb
   obtain ⟨i, a⟩ := z
   try dsimp only at hb
   obtain ⟨hi1, ha⟩ := hb
   have hnb := Y1 hi1
   rw [← ha] at hnb
   refine A3 <| A0 <| I3 rfl rfl <| xN [3,18,19,20,21] [] rfl <| A3 ?_
   refine A7 rfl ?_ ?_ <;> intro hc <;> try simp only [SL] at hc
   ·refine B5 <| A3 <| C5 <| A3 <| A0 <| F4 rfl rfl rfl (fun _ => rfl) (by omega) <| E4 rfl rfl rfl <| G4 rfl (fun _ => B3 rfl) (fun _ => rfl) ?_
    intro g5
    refine B7 rfl rfl rfl rfl ⟨by decide, rfl, dT rfl, dT rfl, rfl⟩ rfl (by exact B3 rfl) <| xN [3,5,18,19,20] [5] rfl <| A0 <| A5 rfl rfl <| E3 rfl rfl rfl rfl rfl ?_
    have h1 := hkb i
    have h2 := hkz i (by omega)
    apply xC rfl
    ·apply A9
     ·exact B2 rfl
     exact C4
    ·exact (by have hk2 := Z7 (t := t) (i := i) (by omega); have hi := ih (t.kids.getD i default) (by omega) (by omega); rw [← Y0] at hi; exact hi)
    refine ⟨⟨rfl, rfl, rfl, dT rfl, rfl⟩, .inl rfl, B0, B6 rfl, fun _ => rfl, fun g26 => ?_⟩
    refine G9 rfl rfl (E7 (by omega)) <| A4 rfl rfl rfl <| xN [3,18,19,20] [] rfl <| A0 <| G9 rfl rfl (E7 (by omega)) <| A5 rfl rfl <| xN [3,18,19,20] [] rfl ?_
    refine ⟨(i + 1, _), ⟨by omega, by rw [P3, ← ha]⟩, (by simp only; omega), ⟨rfl, rfl, rfl, rfl, trivial⟩⟩
   refine H1 <| A3 <| A0 <| A5 rfl rfl <| A4 rfl rfl rfl <| xN [2] [] rfl <| B4 <| C7 rfl rfl trivial ?_
   rw [ha, show i = t.kids.length by omega, U7]
  refine A3 <| A0 <| R4 rfl rfl <| A4 rfl rfl rfl <| xN [1,3,7,11] [1] rfl ?_
  refine A7 rfl ?_ ?_ <;> intro hc <;> try simp only [SL] at hc
  ·refine B5 ?_
   refine A7 rfl (fun hc => ?_) (fun hc => absurd hc (by simp_all))
   refine A0 <| A4 rfl rfl rfl <| xN [1,3] [1] rfl <| A3 <| A3 <| A0 <| C1 rfl rfl (dT rfl) rfl rfl <| C2 rfl rfl rfl rfl rfl rfl <| F6 rfl rfl <| A5 rfl rfl <| xN [3,18,19,20] [] rfl <| C5 <| H3 (β := Nat × Int) [(.t 18, _), (.t 19, _)] (fun (z : Nat × Int) => match z with | (i, a) => [(.t 20, iV i), (.t 3, iV a)]) (fun (z : Nat × Int) => match z with | (i, a) => i ≤ t.kids.length ∧ a = P3 t i) (fun (z : Nat × Int) => match z with | (i, a) => t.kids.length - i) (0, _) ⟨rfl, rfl, rfl, rfl, trivial⟩ ⟨Nat.zero_le _, by show _ = pr (bA t.op); simp_all [pr]⟩ ?_
   intro z hb
   obtain ⟨i, a⟩ := z
   try dsimp only at hb
   obtain ⟨hi1, ha⟩ := hb
   have hnb := Y1 hi1
   rw [← ha] at hnb
   refine A3 <| A0 <| I3 rfl rfl <| xN [3,18,19,20,21] [] rfl <| A3 ?_
   refine A7 rfl ?_ ?_ <;> intro hc <;> try simp only [SL] at hc
   ·refine B5 <| A3 <| C5 <| A3 <| A0 <| F4 rfl rfl rfl (fun _ => rfl) (by omega) <| E4 rfl rfl rfl <| G4 rfl (fun _ => B3 rfl) (fun _ => rfl) ?_
    intro g5
    refine B7 rfl rfl rfl rfl ⟨by decide, rfl, dT rfl, dT rfl, rfl⟩ rfl (by exact B3 rfl) <| xN [3,5,18,19,20] [5] rfl <| A0 <| A5 rfl rfl <| E3 rfl rfl rfl rfl rfl ?_
    have h1 := hkb i
    have h2 := hkz i (by omega)
    apply xC rfl
    ·apply A9
     ·exact B2 rfl
     exact C4
    ·exact (by have hk2 := Z7 (t := t) (i := i) (by omega); have hi := ih (t.kids.getD i default) (by omega) (by omega); rw [← Y0] at hi; exact hi)
    refine ⟨⟨rfl, rfl, rfl, dT rfl, rfl⟩, .inl rfl, B0, B6 rfl, fun _ => rfl, fun g26 => ?_⟩
    refine G9 rfl rfl (E7 (by omega)) <| A4 rfl rfl rfl <| xN [3,18,19,20] [] rfl <| A0 <| G9 rfl rfl (E7 (by omega)) <| A5 rfl rfl <| xN [3,18,19,20] [] rfl ?_
    refine ⟨(i + 1, _), ⟨by omega, by rw [P3, ← ha]⟩, (by simp only; omega), ⟨rfl, rfl, rfl, rfl, trivial⟩⟩
   refine H1 <| A3 <| A0 <| A5 rfl rfl <| A4 rfl rfl rfl <| xN [2] [] rfl <| B4 <| C7 rfl rfl trivial ?_
   rw [ha, show i = t.kids.length by omega, U7]
  refine A0 <| R4 rfl rfl <| A4 rfl rfl rfl <| xN [1,3,11] [1] rfl ?_
  refine A7 rfl ?_ ?_ <;> intro hc <;> try simp only [SL] at hc
  ·refine A0 <| A4 rfl rfl rfl <| xN [1,3] [1] rfl <| A3 <| A3 <| A0 <| C1 rfl rfl (dT rfl) rfl rfl <| C2 rfl rfl rfl rfl rfl rfl <| F6 rfl rfl <| A5 rfl rfl <| xN [3,18,19,20] [] rfl <| C5 <| H3 (β := Nat × Int) [(.t 18, _), (.t 19, _)] (fun (z : Nat × Int) => match z with | (i, a) => [(.t 20, iV i), (.t 3, iV a)]) (fun (z : Nat × Int) => match z with | (i, a) => i ≤ t.kids.length ∧ a = P3 t i) (fun (z : Nat × Int) => match z with | (i, a) => t.kids.length - i) (0, _) ⟨rfl, rfl, rfl, rfl, trivial⟩ ⟨Nat.zero_le _, by show _ = pr (bA t.op); simp_all [pr]⟩ ?_
   intro z hb
   obtain ⟨i, a⟩ := z
   try dsimp only at hb
   obtain ⟨hi1, ha⟩ := hb
   have hnb := Y1 hi1
   rw [← ha] at hnb
   refine A3 <| A0 <| I3 rfl rfl <| xN [3,18,19,20,21] [] rfl <| A3 ?_
   refine A7 rfl ?_ ?_ <;> intro hc <;> try simp only [SL] at hc
   ·refine B5 <| A3 <| C5 <| A3 <| A0 <| F4 rfl rfl rfl (fun _ => rfl) (by omega) <| E4 rfl rfl rfl <| G4 rfl (fun _ => B3 rfl) (fun _ => rfl) ?_
    intro g5
    refine B7 rfl rfl rfl rfl ⟨by decide, rfl, dT rfl, dT rfl, rfl⟩ rfl (by exact B3 rfl) <| xN [3,5,18,19,20] [5] rfl <| A0 <| A5 rfl rfl <| E3 rfl rfl rfl rfl rfl ?_
    have h1 := hkb i
    have h2 := hkz i (by omega)
    apply xC rfl
    ·apply A9
     ·exact B2 rfl
     exact C4
    ·exact (by have hk2 := Z7 (t := t) (i := i) (by omega); have hi := ih (t.kids.getD i default) (by omega) (by omega); rw [← Y0] at hi; exact hi)
    refine ⟨⟨rfl, rfl, rfl, dT rfl, rfl⟩, .inl rfl, B0, B6 rfl, fun _ => rfl, fun g26 => ?_⟩
    refine G9 rfl rfl (E7 (by omega)) <| A4 rfl rfl rfl <| xN [3,18,19,20] [] rfl <| A0 <| G9 rfl rfl (E7 (by omega)) <| A5 rfl rfl <| xN [3,18,19,20] [] rfl ?_
    refine ⟨(i + 1, _), ⟨by omega, by rw [P3, ← ha]⟩, (by simp only; omega), ⟨rfl, rfl, rfl, rfl, trivial⟩⟩
   refine H1 <| A3 <| A0 <| A5 rfl rfl <| A4 rfl rfl rfl <| xN [2] [] rfl <| B4 <| C7 rfl rfl trivial ?_
   rw [ha, show i = t.kids.length by omega, U7]
  refine B5 <| A3 <| A3 <| A0 <| C1 rfl rfl (dT rfl) rfl rfl <| C2 rfl rfl rfl rfl rfl rfl <| F6 rfl rfl <| A5 rfl rfl <| xN [3,18,19,20] [] rfl <| C5 <| H3 (β := Nat × Int) [(.t 18, _), (.t 19, _)] (fun (z : Nat × Int) => match z with | (i, a) => [(.t 20, iV i), (.t 3, iV a)]) (fun (z : Nat × Int) => match z with | (i, a) => i ≤ t.kids.length ∧ a = P3 t i) (fun (z : Nat × Int) => match z with | (i, a) => t.kids.length - i) (0, _) ⟨rfl, rfl, rfl, rfl, trivial⟩ ⟨Nat.zero_le _, by show _ = pr (bA t.op); simp_all [pr]⟩ ?_
  intro z hb
  obtain ⟨i, a⟩ := z
  try dsimp only at hb
  obtain ⟨hi1, ha⟩ := hb
  have hnb := Y1 hi1
  rw [← ha] at hnb
  refine A3 <| A0 <| I3 rfl rfl <| xN [3,18,19,20,21] [] rfl <| A3 ?_
  refine A7 rfl ?_ ?_ <;> intro hc <;> try simp only [SL] at hc
  ·refine B5 <| A3 <| C5 <| A3 <| A0 <| F4 rfl rfl rfl (fun _ => rfl) (by omega) <| E4 rfl rfl rfl <| G4 rfl (fun _ => B3 rfl) (fun _ => rfl) ?_
   intro g5
   refine B7 rfl rfl rfl rfl ⟨by decide, rfl, dT rfl, dT rfl, rfl⟩ rfl (by exact B3 rfl) <| xN [3,5,18,19,20] [5] rfl <| A0 <| A5 rfl rfl <| E3 rfl rfl rfl rfl rfl ?_
   have h1 := hkb i
   have h2 := hkz i (by omega)
   apply xC rfl
   ·apply A9
    ·exact B2 rfl
    exact C4
   ·exact (by have hk2 := Z7 (t := t) (i := i) (by omega); have hi := ih (t.kids.getD i default) (by omega) (by omega); rw [← Y0] at hi; exact hi)
   refine ⟨⟨rfl, rfl, rfl, dT rfl, rfl⟩, .inl rfl, B0, B6 rfl, fun _ => rfl, fun g26 => ?_⟩
   refine G9 rfl rfl (E7 (by omega)) <| A4 rfl rfl rfl <| xN [3,18,19,20] [] rfl <| A0 <| G9 rfl rfl (E7 (by omega)) <| A5 rfl rfl <| xN [3,18,19,20] [] rfl ?_
   refine ⟨(i + 1, _), ⟨by omega, by rw [P3, ← ha]⟩, (by simp only; omega), ⟨rfl, rfl, rfl, rfl, trivial⟩⟩
  refine H1 <| A3 <| A0 <| A5 rfl rfl <| A4 rfl rfl rfl <| xN [2] [] rfl <| B4 <| C7 rfl rfl trivial ?_
  rw [ha, show i = t.kids.length by omega, U7]

theorem keep_s_CostOfI : G0 Tryz.f34 = [0, 2, 4, 11, 3, 7] := by kernel_rfl
set_option maxHeartbeats 20000000 in
theorem b6c (s : List UInt8) (hs : s.length ≤ 1048576) : CW (cxT oG) 34 [tV s] = some (iV (b2q s), []) := by
 refine F9 rfl Tryz.func34 rfl ⟨by kernel_rfl, rfl, dT rfl, dT rfl, by decide⟩ keep_s_CostOfI <| A3 <| A0 <| A4 rfl rfl rfl <| xN [0] [] rfl <| A3 <| A0 <| A5 rfl rfl ?_
 apply xC rfl
 ·apply A9
  ·exact B2 rfl
  exact C4
 ·exact a9v s hs
 refine ⟨⟨rfl, rfl, rfl, dT rfl, rfl⟩, .inl rfl, B0, K7 rfl, fun _ => rfl, fun g7 => ?_⟩
 refine A5 rfl rfl <| B9 rfl rfl rfl <| B9 rfl rfl rfl <| G4 rfl (fun _ => B3 rfl) (fun _ => rfl) ?_
 intro g3
 refine B7 rfl rfl rfl rfl ⟨by decide, rfl, dT rfl, dT rfl, rfl⟩ rfl (by exact B3 rfl) <| A4 rfl rfl rfl <| xN [3,4] [3] rfl <| A3 <| A3 <| A0 <| A5 rfl rfl <| L9 rfl <| xN [3,11] [3] rfl ?_
 refine A7 rfl ?_ ?_ <;> intro hc <;> try simp only [SL] at hc
 ·refine A3 <| A0 <| A4 rfl rfl rfl <| xN [2] [] rfl <| B4 <| C7 rfl rfl trivial ?_
  rw [c3w hc]
  rfl
 refine B5 <| A3 <| A0 <| E3 rfl rfl rfl rfl rfl ?_
 obtain ⟨t, ht1, ht2, ht3⟩ := a2m hc
 rw [d3p ht1, Y0]
 apply xC rfl
 ·apply A9
  ·exact B2 rfl
  exact C4
 ·exact d2k t (by omega)
 refine ⟨⟨rfl, rfl, rfl, dT rfl, rfl⟩, .inl rfl, B0, B6 rfl, fun _ => rfl, fun g13 => ?_⟩
 refine A4 rfl rfl rfl <| xN [2] [] rfl <| B4 <| C7 rfl rfl trivial ?_
 rw [a6f ht1]

theorem keep_s_ClipT : G0 Tryz.f67 = [0, 2] := by kernel_rfl
set_option maxHeartbeats 20000000 in
theorem d1q (xs : List W8) (hx : xs.length ≤ H2) : CW (cxT oG) 67 [.own 1 (xs.map tV)] = some (.own 1 (xs.map tV), []) := by
 refine F9 rfl Tryz.func67 rfl ⟨by kernel_rfl, rfl, dT rfl, dT rfl, by decide⟩ keep_s_ClipT <| A3 <| A0 ?_
 (refine C3 rfl rfl (fun _ => rfl) ?_; intro g2)
 refine xN [0] [0] rfl <| A3 <| A0 <| A5 rfl rfl <| A5 rfl rfl <| M1 rfl rfl <| A5 rfl rfl <| M1 rfl rfl ?_
 refine d3q rfl rfl rfl rfl rfl rfl (fun hz => ?_) (fun hz => ?_)
 ·skip
  (refine C3 rfl rfl (fun _ => rfl) ?_; intro g2)
  refine xN [2] [0,2] rfl <| B4 <| T5 rfl rfl (by (simp; done)) (by rfl) trivial ?_
  (have h0 : xs = [] := (by simpa using hz); subst h0; rfl)
 skip
 (refine B8 rfl rfl (by (simp; done)) rfl (fun _ => (B1 (by exact A8 fun _ => rfl))) (fun _ => rfl) ?_; intro g2)
 refine xN [2] [0,2] rfl <| B4 <| T5 rfl rfl (by (simp; done)) (by exact A8 fun _ => rfl) trivial ?_
 rfl

theorem keep_s_showTree : G0 Tryz.f80 = [0, 2, 1, 7, 4, 19, 3] := by kernel_rfl
set_option maxHeartbeats 20000000 in
theorem c3j (t : Pl) (hln : (showP t).length ≤ 1048576) (hgd : t.good) : CW (cxT oG) 80 [trK t] = some (tV (showP t), []) := by
 obtain ⟨kk, hkk⟩ : ∃ kk : Nat, t.sz < kk := ⟨_, Nat.lt_succ_self _⟩
 revert t
 induction kk with
 | zero => intro t hln hgd hkk; exact absurd hkk (Nat.not_lt_zero _)
 | succ kk ih =>
  intro t hln hgd hkk
  have hkl := a7z t
  have hkz := fun i => Z7 (t := t) (i := i)
  have hkg := fun i => a6q hgd (i := i)
  have hst := fun i h => c2o (t := t) h (i := i)
  have hall := fun h => b5n (t := t) h
  refine F9 rfl Tryz.func80 rfl ⟨by kernel_rfl, rfl, dT rfl, dT rfl, by decide⟩ keep_s_showTree <| A3 <| A0 <| a9r rfl rfl rfl (fun _ => B3 rfl) (fun _ => rfl) ?_
  intro g1
  refine A4 rfl rfl rfl <| xN [1] [1] rfl <| A3 <| A3 <| A0 <| C1 rfl rfl (dT rfl) rfl rfl <| C2 rfl rfl rfl rfl rfl rfl <| R4 rfl rfl <| xN [1,7] [1] rfl ?_
  refine A7 rfl ?_ ?_ <;> intro hc <;> try simp only [SL] at hc
  ·obtain ⟨ns, rfl, hv⟩ := c6y hgd (by assumption)
   have hl := c9a hv
   have hnb := d3f hv
   have hll := a0g hnb
   refine A3 <| A0 <| C1 rfl rfl (dT rfl) rfl rfl <| C2 rfl rfl rfl rfl rfl rfl ?_
   apply xC rfl
   ·apply A9
    ·exact B2 rfl
    exact C4
   ·exact a5z ns (by omega) hnb
   refine ⟨⟨rfl, rfl, rfl, dT rfl, rfl⟩, .inl rfl, B0, B6 rfl, fun _ => rfl, fun g10 => ?_⟩
   iterate 2 refine K5 rfl rfl (by simp only [H2, List.length_append, List.length_cons, List.length_nil]; omega) ?_
   refine A4 rfl rfl rfl <| xN [2] [] rfl <| B4 <| C7 rfl rfl trivial ?_
   rfl
  have hop : t.op ≠ lW := by assumption
  refine B5 <| A3 <| A0 <| C1 rfl rfl (dT rfl) rfl rfl <| C2 rfl rfl rfl rfl rfl rfl <| A4 rfl rfl rfl <| xN [1,3] [1] rfl <| A3 <| A3 <| A0 <| A4 rfl rfl rfl <| xN [1,3,4] [1] rfl <| C5 <| H3 (β := Nat × W8) [(.t 1, _), (.h 1, _)] (fun (z : Nat × W8) => match z with | (i, a) => [(.t 4, iV i), (.t 3, tV a)]) (fun (z : Nat × W8) => match z with | (i, a) => i ≤ t.kids.length ∧ a = a5w t i) (fun (z : Nat × W8) => match z with | (i, a) => t.kids.length - i) (0, _) ⟨rfl, rfl, rfl, rfl, trivial⟩ ⟨Nat.zero_le _, rfl⟩ ?_
  intro z hb
  obtain ⟨i, a⟩ := z
  try dsimp only at hb
  obtain ⟨hi1, ha⟩ := hb
  have hst1 := fun h => hst i hop h
  rw [← ha] at hst1
  refine A3 <| A3 <| A0 <| A5 rfl rfl <| C1 rfl rfl (dT rfl) rfl rfl <| C2 rfl rfl rfl rfl rfl rfl <| F6 rfl rfl <| I3 rfl rfl <| xN [1,3,4,19] [1] rfl ?_
  refine A7 rfl ?_ ?_ <;> intro hc <;> try simp only [SL] at hc
  ·refine B5 <| A3 <| C5 <| A0 <| A5 rfl rfl <| K5 rfl rfl (by simp only [H2, List.length_append, List.length_cons, List.length_nil]; omega) <| C1 rfl rfl (dT rfl) rfl rfl <| C2 rfl rfl rfl rfl rfl rfl <| A5 rfl rfl <| F4 rfl rfl rfl (fun _ => rfl) (by omega) <| E4 rfl rfl rfl ?_
   have h1 := hst i hop (by omega)
   have h2 := hkz i (by omega)
   apply xC rfl
   ·apply A9
    ·exact B2 rfl
    exact C4
   ·exact (by have hi := ih (t.kids.getD i default) (by have := d1o (t := t) (i := i) (by omega); omega) (hkg i (by omega)) (by omega); rw [← Y0] at hi; exact hi)
   refine ⟨⟨rfl, rfl, rfl, dT rfl, rfl⟩, .inl rfl, B0, B6 rfl, fun _ => rfl, fun g29 => ?_⟩
   refine K5 rfl rfl (by simp only [H2, List.length_append, List.length_cons, List.length_nil]; omega) <| A4 rfl rfl rfl <| xN [1,3,4] [1] rfl <| A0 <| A5 rfl rfl <| G9 rfl rfl (E7 (by omega)) <| A4 rfl rfl rfl <| xN [1,3,4] [1] rfl ?_
   refine ⟨(i + 1, _), ⟨by omega, by rw [a5w, ← ha]⟩, (by simp only; omega), ⟨rfl, rfl, rfl, rfl, trivial⟩⟩
  refine H1 <| A3 <| A0 <| A5 rfl rfl <| A4 rfl rfl rfl <| xN [2] [] rfl <| B4 <| C7 rfl rfl trivial ?_
  rw [ha, show i = t.kids.length by omega, hall hop]

theorem keep_s_rule : G0 Tryz.f123 = [0, 2, 3, 1, 17, 4, 28, 29, 38, 42] := by kernel_rfl
set_option maxHeartbeats 20000000 in
theorem d3s (t : Pl) (hgd : t.good) : CW (cxT oG) 123 [trK t] = some (.tup [trV ((S6 t).getD t), bV (S6 t).isSome], []) := by
 have hkl := a7z t
 have hol := c5l hgd
 have hkg := fun h => c5l (a6q hgd (i := 0) h)
 refine F9 rfl Tryz.func123 rfl ⟨by kernel_rfl, rfl, dT rfl, dT rfl, by decide⟩ keep_s_rule <| A3 <| A0 <| a9r rfl rfl rfl (fun _ => B3 rfl) (fun _ => rfl) ?_
 intro g1
 refine G4 rfl (fun _ => B3 rfl) (fun _ => rfl) ?_
 intro g2
 refine A4 rfl rfl rfl <| xN [1,2] [1,2] rfl <| A3 <| A3 <| A0 <| C1 rfl rfl (dT rfl) rfl rfl <| C2 rfl rfl rfl rfl rfl rfl <| F6 rfl rfl <| b8z rfl rfl <| A5 rfl rfl ?_
 refine D8 rfl rfl ?_ ?_ <;> intro hg0 <;> have hg := hg0 <;> try simp only [SG] at hg
 ·refine C1 rfl rfl (dT rfl) rfl rfl <| gT rfl rfl <| C2 rfl rfl rfl rfl rfl rfl <| gT rfl rfl <| F4 rfl rfl rfl (fun _ => rfl) (by (change 0 < _; omega)) <| gT rfl rfl <| C1 rfl rfl (dT rfl) rfl rfl <| gT rfl rfl <| b3j rfl rfl rfl <| gT rfl rfl ?_
  rw [a1x]
  refine F6 rfl rfl <| gT rfl rfl <| b8z rfl rfl <| F8 rfl (by assumption) rfl rfl <| xN [1,2,17] [1,2] rfl ?_
  refine A7 rfl ?_ ?_ <;> intro hc <;> try simp only [SL] at hc
  ·refine A3 <| A0 <| E3 rfl rfl rfl rfl rfl <| B7 rfl rfl rfl rfl ⟨by decide, rfl, dT rfl, dT rfl, rfl⟩ rfl (by exact B3 rfl) <| A4 rfl rfl rfl <| xN [2,3] [2] rfl <| B4 <| D4 (F7 rfl rfl rfl rfl (E6 rfl (E6 rfl (E6 rfl H6))) (D9 rfl rfl (E8 C6))) ?_
   (rw [b5o (by omega)]; show AV.tup [trK t, bV false] = AV.tup [trV t, bV false]; rw [Y0])
  refine B5 <| A3 <| A0 <| C1 rfl rfl (dT rfl) rfl rfl <| C2 rfl rfl rfl rfl rfl rfl <| F4 rfl rfl rfl (fun _ => rfl) (by (change 0 < _; omega)) <| E4 rfl rfl rfl <| G4 rfl (fun _ => B3 rfl) (fun _ => rfl) ?_
  intro g4
  refine B7 rfl rfl rfl rfl ⟨by decide, rfl, dT rfl, dT rfl, rfl⟩ rfl (by exact B3 rfl) <| xN [1,2,4] [1,2,4] rfl <| A3 <| A3 <| A0 <| C1 rfl rfl (dT rfl) rfl rfl <| C2 rfl rfl rfl rfl rfl rfl <| K5 rfl rfl (by simp only [H2, List.length_append, List.length_cons, List.length_nil]; omega) <| C1 rfl rfl (dT rfl) rfl rfl <| C2 rfl rfl rfl rfl rfl rfl <| K5 rfl rfl (by simp only [H2, List.length_append, List.length_cons, List.length_nil]; omega) <| xN [1,2,4,28] [1,2,4] rfl <| C5 <| A3 <| A3 <| A0 <| R4 rfl rfl <| A4 rfl rfl rfl <| xN [1,2,4,28,29] [1,2,4] rfl ?_
  refine A7 rfl ?_ ?_ <;> intro hc <;> try simp only [SL] at hc
  ·refine B5 ?_
   refine A7 rfl (fun hc => ?_) (fun hc => absurd hc (by simp_all))
   refine A3 <| A0 <| C1 rfl rfl (dT rfl) rfl rfl <| C2 rfl rfl rfl rfl rfl rfl ?_
   rw [a1x]
   refine L1 rfl rfl rfl (fun _ => rfl) (by show (0 : Int) ≤ 0 ∧ (0 : Int) < ((t.kids.getD 0 default).kids.length : Int); omega) <| E4 rfl rfl rfl <| B7 rfl rfl rfl rfl ⟨by decide, rfl, dT rfl, dT rfl, rfl⟩ rfl (by exact B3 rfl) <| A4 rfl rfl rfl <| xN [2,3] [2] rfl <| B4 <| D4 (F7 rfl rfl rfl rfl (E6 rfl (E6 rfl (E6 rfl H6))) (D9 rfl rfl (E8 C6))) ?_
   (rw [b6t (t := t) (k := [114, 101, 118, 32, 114, 101, 118]) (by omega) (by omega) (by assumption) (by decide)]; rfl)
  refine A3 <| A0 <| R4 rfl rfl <| A4 rfl rfl rfl <| xN [1,2,4,28,29] [1,2,4] rfl ?_
  refine A7 rfl ?_ ?_ <;> intro hc <;> try simp only [SL] at hc
  ·refine B5 ?_
   refine A7 rfl (fun hc => ?_) (fun hc => absurd hc (by simp_all))
   refine A3 <| A0 <| C1 rfl rfl (dT rfl) rfl rfl <| C2 rfl rfl rfl rfl rfl rfl ?_
   rw [a1x]
   refine L1 rfl rfl rfl (fun _ => rfl) (by show (0 : Int) ≤ 0 ∧ (0 : Int) < ((t.kids.getD 0 default).kids.length : Int); omega) <| E4 rfl rfl rfl <| B7 rfl rfl rfl rfl ⟨by decide, rfl, dT rfl, dT rfl, rfl⟩ rfl (by exact B3 rfl) <| A4 rfl rfl rfl <| xN [2,3] [2] rfl <| B4 <| D4 (F7 rfl rfl rfl rfl (E6 rfl (E6 rfl (E6 rfl H6))) (D9 rfl rfl (E8 C6))) ?_
   (rw [b6t (t := t) (k := [110, 101, 103, 32, 110, 101, 103]) (by omega) (by omega) (by assumption) (by decide)]; rfl)
  refine A3 <| A0 <| R4 rfl rfl <| A4 rfl rfl rfl <| xN [1,2,4,28,29] [1,2,4] rfl ?_
  refine A7 rfl ?_ ?_ <;> intro hc <;> try simp only [SL] at hc
  ·refine B5 ?_
   refine A7 rfl (fun hc => ?_) (fun hc => absurd hc (by simp_all))
   refine A3 <| A0 <| C1 rfl rfl (dT rfl) rfl rfl <| C2 rfl rfl rfl rfl rfl rfl ?_
   rw [a1x]
   refine L1 rfl rfl rfl (fun _ => rfl) (by show (0 : Int) ≤ 0 ∧ (0 : Int) < ((t.kids.getD 0 default).kids.length : Int); omega) <| E4 rfl rfl rfl <| B7 rfl rfl rfl rfl ⟨by decide, rfl, dT rfl, dT rfl, rfl⟩ rfl (by exact B3 rfl) <| A4 rfl rfl rfl <| xN [2,3] [2] rfl <| B4 <| D4 (F7 rfl rfl rfl rfl (E6 rfl (E6 rfl (E6 rfl H6))) (D9 rfl rfl (E8 C6))) ?_
   (rw [b6t (t := t) (k := [100, 105, 102, 102, 32, 115, 117, 109, 115]) (by omega) (by omega) (by assumption) (by decide)]; rfl)
  refine A0 <| R4 rfl rfl <| A4 rfl rfl rfl <| xN [1,2,4,28,29] [1,2,4] rfl ?_
  refine A7 rfl ?_ ?_ <;> intro hc <;> try simp only [SL] at hc
  ·refine A3 <| A0 <| C1 rfl rfl (dT rfl) rfl rfl <| C2 rfl rfl rfl rfl rfl rfl ?_
   rw [a1x]
   refine L1 rfl rfl rfl (fun _ => rfl) (by show (0 : Int) ≤ 0 ∧ (0 : Int) < ((t.kids.getD 0 default).kids.length : Int); omega) <| E4 rfl rfl rfl <| B7 rfl rfl rfl rfl ⟨by decide, rfl, dT rfl, dT rfl, rfl⟩ rfl (by exact B3 rfl) <| A4 rfl rfl rfl <| xN [2,3] [2] rfl <| B4 <| D4 (F7 rfl rfl rfl rfl (E6 rfl (E6 rfl (E6 rfl H6))) (D9 rfl rfl (E8 C6))) ?_
   (rw [b6t (t := t) (k := [115, 117, 109, 115, 32, 100, 105, 102, 102]) (by omega) (by omega) (by assumption) (by decide)]; rfl)
  refine A3 <| A3 <| A0 <| R4 rfl rfl <| A4 rfl rfl rfl <| xN [1,2,4,28,38] [1,2,4] rfl ?_
  refine A7 rfl ?_ ?_ <;> intro hc <;> try simp only [SL] at hc
  ·refine B5 ?_
   refine A7 rfl (fun hc => ?_) (fun hc => absurd hc (by simp_all))
   refine A3 <| A0 <| E3 rfl rfl rfl rfl rfl <| B7 rfl rfl rfl rfl ⟨by decide, rfl, dT rfl, dT rfl, rfl⟩ rfl (by exact B3 rfl) <| A4 rfl rfl rfl <| xN [2,3] [2] rfl <| B4 <| D4 (F7 rfl rfl rfl rfl (E6 rfl (E6 rfl (E6 rfl H6))) (D9 rfl rfl (E8 C6))) ?_
   (rw [c9t (t := t) (k := [115, 111, 114, 116, 32, 115, 111, 114, 116]) (by omega) (by omega) (by assumption) (by decide)]; rfl)
  refine A0 <| R4 rfl rfl <| A4 rfl rfl rfl <| xN [1,2,4,28,38] [1,2,4] rfl ?_
  refine A7 rfl ?_ ?_ <;> intro hc <;> try simp only [SL] at hc
  ·refine A3 <| A0 <| E3 rfl rfl rfl rfl rfl <| B7 rfl rfl rfl rfl ⟨by decide, rfl, dT rfl, dT rfl, rfl⟩ rfl (by exact B3 rfl) <| A4 rfl rfl rfl <| xN [2,3] [2] rfl <| B4 <| D4 (F7 rfl rfl rfl rfl (E6 rfl (E6 rfl (E6 rfl H6))) (D9 rfl rfl (E8 C6))) ?_
   (rw [c9t (t := t) (k := [97, 98, 115, 32, 97, 98, 115]) (by omega) (by omega) (by assumption) (by decide)]; rfl)
  refine A3 <| A3 <| A0 <| R4 rfl rfl <| A4 rfl rfl rfl <| xN [1,2,4,28,42] [1,2,4] rfl ?_
  refine A7 rfl ?_ ?_ <;> intro hc <;> try simp only [SL] at hc
  ·refine B5 ?_
   refine A7 rfl (fun hc => ?_) (fun hc => absurd hc (by simp_all))
   refine A3 <| A0 <| C1 rfl rfl (dT rfl) rfl rfl <| C2 rfl rfl rfl rfl rfl rfl <| C1 rfl rfl (dT rfl) rfl rfl <| C2 rfl rfl rfl rfl rfl rfl <| J0 (fs := [_, _, _]) rfl rfl rfl rfl rfl <| B7 rfl rfl rfl rfl ⟨by decide, rfl, dT rfl, dT rfl, rfl⟩ rfl (by exact B3 rfl) <| A4 rfl rfl rfl <| xN [2,3] [2] rfl <| B4 <| D4 (F7 rfl rfl rfl rfl (E6 rfl (H4 rfl (E6 rfl H6))) (D9 rfl rfl (E8 C6))) ?_
   (rw [b8k (t := t) (k := [115, 111, 114, 116, 32, 114, 101, 118]) (by omega) (by omega) (by assumption) (by decide)]; show AV.tup [AV.agg [tV t.op, AV.list [], AV.list (a3n (t.kids.getD 0 default))], bV true] = AV.tup [trV (.un t.op ((t.kids.getD 0 default).kids.getD 0 default)), bV true]; rw [b1c (w := t.op) (t := t.kids.getD 0 default) (by omega)]; rfl)
  refine A3 <| A0 <| R4 rfl rfl <| A4 rfl rfl rfl <| xN [1,2,4,28,42] [1,2,4] rfl ?_
  refine A7 rfl ?_ ?_ <;> intro hc <;> try simp only [SL] at hc
  ·refine B5 ?_
   refine A7 rfl (fun hc => ?_) (fun hc => absurd hc (by simp_all))
   refine A3 <| A0 <| C1 rfl rfl (dT rfl) rfl rfl <| C2 rfl rfl rfl rfl rfl rfl <| C1 rfl rfl (dT rfl) rfl rfl <| C2 rfl rfl rfl rfl rfl rfl <| J0 (fs := [_, _, _]) rfl rfl rfl rfl rfl <| B7 rfl rfl rfl rfl ⟨by decide, rfl, dT rfl, dT rfl, rfl⟩ rfl (by exact B3 rfl) <| A4 rfl rfl rfl <| xN [2,3] [2] rfl <| B4 <| D4 (F7 rfl rfl rfl rfl (E6 rfl (H4 rfl (E6 rfl H6))) (D9 rfl rfl (E8 C6))) ?_
   (rw [b8k (t := t) (k := [97, 98, 115, 32, 110, 101, 103]) (by omega) (by omega) (by assumption) (by decide)]; show AV.tup [AV.agg [tV t.op, AV.list [], AV.list (a3n (t.kids.getD 0 default))], bV true] = AV.tup [trV (.un t.op ((t.kids.getD 0 default).kids.getD 0 default)), bV true]; rw [b1c (w := t.op) (t := t.kids.getD 0 default) (by omega)]; rfl)
  refine A3 <| A0 <| R4 rfl rfl <| A4 rfl rfl rfl <| xN [1,2,4,28,42] [1,2,4] rfl ?_
  refine A7 rfl ?_ ?_ <;> intro hc <;> try simp only [SL] at hc
  ·refine B5 ?_
   refine A7 rfl (fun hc => ?_) (fun hc => absurd hc (by simp_all))
   refine A3 <| A0 <| C1 rfl rfl (dT rfl) rfl rfl <| C2 rfl rfl rfl rfl rfl rfl <| C1 rfl rfl (dT rfl) rfl rfl <| C2 rfl rfl rfl rfl rfl rfl <| J0 (fs := [_, _, _]) rfl rfl rfl rfl rfl <| B7 rfl rfl rfl rfl ⟨by decide, rfl, dT rfl, dT rfl, rfl⟩ rfl (by exact B3 rfl) <| A4 rfl rfl rfl <| xN [2,3] [2] rfl <| B4 <| D4 (F7 rfl rfl rfl rfl (E6 rfl (H4 rfl (E6 rfl H6))) (D9 rfl rfl (E8 C6))) ?_
   (rw [b8k (t := t) (k := [116, 111, 116, 97, 108, 32, 115, 111, 114, 116]) (by omega) (by omega) (by assumption) (by decide)]; show AV.tup [AV.agg [tV t.op, AV.list [], AV.list (a3n (t.kids.getD 0 default))], bV true] = AV.tup [trV (.un t.op ((t.kids.getD 0 default).kids.getD 0 default)), bV true]; rw [b1c (w := t.op) (t := t.kids.getD 0 default) (by omega)]; rfl)
  refine A0 <| R4 rfl rfl <| A4 rfl rfl rfl <| xN [1,2,4,42] [1,2,4] rfl ?_
  refine A7 rfl ?_ ?_ <;> intro hc <;> try simp only [SL] at hc
  ·refine A3 <| A0 <| C1 rfl rfl (dT rfl) rfl rfl <| C2 rfl rfl rfl rfl rfl rfl <| C1 rfl rfl (dT rfl) rfl rfl <| C2 rfl rfl rfl rfl rfl rfl <| J0 (fs := [_, _, _]) rfl rfl rfl rfl rfl <| B7 rfl rfl rfl rfl ⟨by decide, rfl, dT rfl, dT rfl, rfl⟩ rfl (by exact B3 rfl) <| A4 rfl rfl rfl <| xN [2,3] [2] rfl <| B4 <| D4 (F7 rfl rfl rfl rfl (E6 rfl (H4 rfl (E6 rfl H6))) (D9 rfl rfl (E8 C6))) ?_
   (rw [b8k (t := t) (k := [116, 111, 116, 97, 108, 32, 114, 101, 118]) (by omega) (by omega) (by assumption) (by decide)]; show AV.tup [AV.agg [tV t.op, AV.list [], AV.list (a3n (t.kids.getD 0 default))], bV true] = AV.tup [trV (.un t.op ((t.kids.getD 0 default).kids.getD 0 default)), bV true]; rw [b1c (w := t.op) (t := t.kids.getD 0 default) (by omega)]; rfl)
  refine B5 <| A3 <| A0 <| E3 rfl rfl rfl rfl rfl <| B7 rfl rfl rfl rfl ⟨by decide, rfl, dT rfl, dT rfl, rfl⟩ rfl (by exact B3 rfl) <| A4 rfl rfl rfl <| xN [2,3] [2] rfl <| B4 <| D4 (F7 rfl rfl rfl rfl (E6 rfl (E6 rfl (E6 rfl H6))) (D9 rfl rfl (E8 C6))) ?_
  (rw [c1m (by omega) (by omega), d2f (by simp only [goneL, List.mem_cons, List.not_mem_nil, or_false]; rintro x (rfl | rfl | rfl | rfl | rfl | rfl | rfl | rfl | rfl | rfl) <;> assumption)]; show AV.tup [trK t, bV false] = AV.tup [trV t, bV false]; rw [Y0])
 iterate 6 refine gF rfl rfl ?_
 refine G1 rfl (by assumption) rfl rfl <| xN [1,2,17] [1,2] rfl ?_
 refine A7 rfl (fun hc => ?_) (fun hc => absurd hc (by decide))
 refine A3 <| A0 <| E3 rfl rfl rfl rfl rfl <| B7 rfl rfl rfl rfl ⟨by decide, rfl, dT rfl, dT rfl, rfl⟩ rfl (by exact B3 rfl) <| A4 rfl rfl rfl <| xN [2,3] [2] rfl <| B4 <| D4 (F7 rfl rfl rfl rfl (E6 rfl (E6 rfl (E6 rfl H6))) (D9 rfl rfl (E8 C6))) ?_
 (rw [b5o (by omega)]; show AV.tup [trK t, bV false] = AV.tup [trV t, bV false]; rw [Y0])

theorem keep_s_oneRule : G0 Tryz.f79 = [0, 2, 1, 5, 16, 4, 3, 6, 25, 7, 8, 37, 9, 13] := by kernel_rfl
set_option maxHeartbeats 20000000 in
theorem c7r (t : Pl) (hsz : t.sz ≤ 1000) (hgd : t.good) : CW (cxT oG) 79 [trK t] = some (.own 3 ((oneP t).map trV), []) := by
 obtain ⟨kk, hkk⟩ : ∃ kk : Nat, t.sz < kk := ⟨_, Nat.lt_succ_self _⟩
 revert t
 induction kk with
 | zero => intro t hsz hgd hkk; exact absurd hkk (Nat.not_lt_zero _)
 | succ kk ih =>
  intro t hsz hgd hkk
  have hkl := a7z t
  have hhl := fun i (h : i ≤ t.kids.length) => c1c (t := t) h
  have hjl := fun i j (h : i < t.kids.length) => d0v (t := t) (j := j) h
  refine F9 rfl Tryz.func79 rfl ⟨by kernel_rfl, rfl, dT rfl, dT rfl, by decide⟩ keep_s_oneRule <| A3 <| A0 <| a9r rfl rfl rfl (fun _ => B3 rfl) (fun _ => rfl) ?_
  intro g1
  (refine C3 rfl rfl (fun _ => rfl) ?_; intro g2)
  refine xN [1] [1] rfl <| A3 <| A0 <| C8 (es := List.map trV []) rfl rfl (dT rfl) rfl rfl (fun _ => B1 (A8 fun _ => rfl)) (fun _ => rfl) ?_
  intro g10
  (refine B8 rfl rfl (by (simp; done)) rfl (fun _ => (B1 (by exact A8 fun _ => rfl))) (fun _ => rfl) ?_; intro g3)
  refine xN [1,3] [1,3] rfl <| A3 <| A0 <| E3 rfl rfl rfl rfl rfl ?_
  apply xC rfl
  ·apply A9
   ·exact B2 rfl
   exact C4
  ·exact d3s t hgd
  refine ⟨⟨rfl, rfl, rfl, dT rfl, rfl⟩, .inl rfl, B0, K7 rfl, fun _ => rfl, fun g13 => ?_⟩
  refine A5 rfl rfl <| B9 rfl rfl rfl <| B9 rfl rfl rfl <| G4 rfl (fun _ => B3 rfl) (fun _ => rfl) ?_
  intro g4
  refine B7 rfl rfl rfl rfl ⟨by decide, rfl, dT rfl, dT rfl, rfl⟩ rfl (by exact B3 rfl) <| A4 rfl rfl rfl <| xN [1,3,4,5] [1,3,4] rfl <| A3 <| A3 <| A0 <| A5 rfl rfl <| xN [1,3,4,16] [1,3,4] rfl ?_
  refine A7 rfl ?_ ?_ <;> intro hc <;> try simp only [SL] at hc
  ·refine A0 <| A5 rfl rfl <| E3 rfl rfl rfl rfl rfl <| C8 (es := List.map trV [_]) rfl rfl (dT rfl) rfl rfl (fun _ => B1 (A8 fun _ => rfl)) (fun _ => rfl) ?_
   intro g19
   refine G6 rfl rfl rfl rfl (by (simp; done)) (by simp) (by decide) rfl rfl rfl rfl (dT rfl) (fun _ => ⟨rfl, rfl⟩) (by simp only [H2]; (simp only [List.length_nil, List.length_cons, List.length_append, Nat.zero_add, List.length_map]; omega)) (fun _ => rfl) ?_
   intro g20
   (refine B8 rfl rfl (by (simp; done)) rfl (fun _ => (B1 (by exact A8 fun _ => rfl))) (fun _ => rfl) ?_; intro g3)
   refine xN [1,3] [1,3] rfl <| A3 <| A3 <| A0 <| A4 rfl rfl rfl <| xN [1,3,6] [1,3] rfl <| C5 <| H3 (β := Nat × List Pl × Nat) [(.t 1, _), (.h 1, _)] (fun (z : Nat × List Pl × Nat) => match z with | (i, us, g) => [(.t 6, iV i), (.h 3, .obj g 0 3 (us.map trV)), (.t 3, .sl 3 g none 0 us.length)]) (fun (z : Nat × List Pl × Nat) => match z with | (i, us, g) => i ≤ t.kids.length ∧ us = a8c t i) (fun (z : Nat × List Pl × Nat) => match z with | (i, us, g) => t.kids.length - i) (0, _, _) ⟨rfl, rfl, rfl, rfl, rfl, trivial⟩ ⟨Nat.zero_le _, by (rw [a8c, Option.isSome_iff_exists.1 hc |>.choose_spec]; rfl)⟩ ?_
   intro z hb
   obtain ⟨i, us, g⟩ := z
   try dsimp only at hb
   obtain ⟨hi1, hus⟩ := hb
   have hul := hhl i hi1
   rw [← hus] at hul
   refine A3 <| A3 <| A0 <| A5 rfl rfl <| C1 rfl rfl (dT rfl) rfl rfl <| C2 rfl rfl rfl rfl rfl rfl <| F6 rfl rfl <| I3 rfl rfl <| xN [1,3,6,25] [1,3] rfl ?_
   refine A7 rfl ?_ ?_ <;> intro hc <;> try simp only [SL] at hc
   ·refine B5 <| A3 <| C5 <| A3 <| A0 <| C1 rfl rfl (dT rfl) rfl rfl <| C2 rfl rfl rfl rfl rfl rfl <| A5 rfl rfl <| F4 rfl rfl rfl (fun _ => rfl) (by omega) <| E4 rfl rfl rfl ?_
    have hks := Z7 (t := t) (i := i) (by omega)
    have hol := a0y (t.kids.getD i default)
    apply xC rfl
    ·apply A9
     ·exact B2 rfl
     exact C4
    ·exact (by have hi := ih (t.kids.getD i default) (by omega) (a6q hgd (by omega)) (by omega); rw [← Y0] at hi; exact hi)
    refine ⟨⟨rfl, rfl, rfl, dT rfl, rfl⟩, .inl rfl, B0, N1, fun _ => rfl, fun g33 => ?_⟩
    simp only [List.length_map]
    (refine B8 rfl rfl (by (simp; done)) rfl (fun _ => (B1 (by exact A8 fun _ => rfl))) (fun _ => rfl) ?_; intro g7)
    refine xN [1,3,6,7] [1,3,7] rfl <| A3 <| A0 <| A4 rfl rfl rfl <| xN [1,3,6,7,8] [1,3,7] rfl <| C5 <| H3 (β := Nat × List Pl × Nat) [(.t 1, _), (.t 6, _), (.t 7, _), (.h 1, _), (.h 7, _)] (fun (z : Nat × List Pl × Nat) => match z with | (j, vs, g1) => [(.t 8, iV j), (.h 3, .obj g1 0 3 (vs.map trV)), (.t 3, .sl 3 g1 none 0 vs.length)]) (fun (z : Nat × List Pl × Nat) => match z with | (j, vs, g1) => j ≤ (oneP (t.kids.getD i default)).length ∧ vs = b0o t i j) (fun (z : Nat × List Pl × Nat) => match z with | (j, vs, g1) => (oneP (t.kids.getD i default)).length - j) (0, _, _) ⟨rfl, rfl, rfl, rfl, rfl, rfl, rfl, rfl, trivial⟩ ⟨Nat.zero_le _, by rw [hus, b6g]⟩ ?_
    intro z hb
    obtain ⟨j, vs, g1⟩ := z
    try dsimp only at hb
    obtain ⟨hj1, hvs⟩ := hb
    have hvl := hjl i j (by omega)
    rw [← hvs] at hvl
    refine A3 <| A3 <| A0 <| A5 rfl rfl <| A5 rfl rfl <| M1 rfl rfl <| I3 rfl rfl <| xN [1,3,6,7,8,37] [1,3,7] rfl ?_
    refine A7 rfl ?_ ?_ <;> intro hc <;> try simp only [SL] at hc
    ·refine B5 <| A3 <| C5 <| A3 <| A0 <| C8 (es := List.map trV []) rfl rfl (dT rfl) rfl rfl (fun _ => B1 (A8 fun _ => rfl)) (fun _ => rfl) ?_
     intro g40
     refine C1 rfl rfl (dT rfl) rfl rfl <| C2 rfl rfl rfl rfl rfl rfl <| a3r rfl rfl rfl (by (simp; done)) rfl rfl rfl (dT rfl) (fun _ => ⟨rfl, rfl, rfl⟩) (by simp only [H2]; (simp only [List.length_nil, List.length_cons, List.length_append, Nat.zero_add, List.length_map]; omega)) (fun _ => rfl) ?_
     intro g43
     (refine B8 rfl rfl (by (simp; done)) rfl (fun _ => (B1 (by exact A8 fun _ => rfl))) (fun _ => rfl) ?_; intro g9)
     refine xN [1,3,6,7,8,9] [1,3,7,9] rfl <| A3 <| A0 <| A5 rfl rfl <| A5 rfl rfl <| A5 rfl rfl <| A5 rfl rfl <| H9 rfl rfl rfl rfl (by omega) (by (simp; done)) rfl <| I9 rfl rfl (by omega) (fun _ => rfl) (fun _ => rfl) rfl <| H9 rfl rfl rfl rfl (by (simp; omega)) (by (simp; done)) rfl <| a8a rfl rfl rfl (by (simp; omega)) (fun _ _ => ⟨rfl, rfl, dT rfl, dT rfl, rfl, rfl⟩) (by decide) (by exact B1 (A8 fun _ => rfl)) <| xN [1,3,6,7,8,9] [1,3,7,9] rfl <| A0 <| A5 rfl rfl <| C1 rfl rfl (dT rfl) rfl rfl <| C2 rfl rfl rfl rfl rfl rfl <| C1 rfl rfl (dT rfl) rfl rfl <| C2 rfl rfl rfl rfl rfl rfl <| A5 rfl rfl <| J0 (fs := [_, _, _]) rfl rfl rfl rfl rfl <| b0a (mk := 2) (fs := [_, _, _]) rfl rfl rfl (dT rfl) rfl rfl (b7a rfl (b7a rfl (d0f rfl (by simp) (fun _ => rfl) W1))) (fun _ _ => D7 (a0j (A8 fun _ => rfl) (by decide)) (D7 (B1 rfl) (I5 rfl))) ?_
     intro z58 g58
     simp only [P2, List.cons_append, List.nil_append]
     rw [c9r (by omega)]
     refine G6 rfl rfl rfl rfl (by (simp; done)) (by simp) (by decide) rfl rfl rfl rfl (dT rfl) (fun _ => ⟨rfl, rfl⟩) (by simp only [H2]; (simp only [List.length_nil, List.length_cons, List.length_append, Nat.zero_add, List.length_map]; omega)) (fun _ => rfl) ?_
     intro g59
     (refine B8 rfl rfl (by (simp; done)) rfl (fun _ => (B1 (by exact A8 fun _ => rfl))) (fun _ => rfl) ?_; intro g3)
     refine xN [1,3,6,7,8] [1,3,7] rfl <| A0 <| A5 rfl rfl <| G9 rfl rfl (E7 (by omega)) <| A4 rfl rfl rfl <| xN [1,3,6,7,8] [1,3,7] rfl ?_
     refine ⟨(j + 1, _, _), ⟨by omega, by rw [hvs]; exact b5u (by omega)⟩, (by simp only; omega), ⟨rfl, rfl, rfl, rfl, rfl, rfl, rfl, rfl, trivial⟩⟩
    refine H1 <| A0 <| A5 rfl rfl <| G9 rfl rfl (E7 (by omega)) <| A4 rfl rfl rfl <| xN [1,3,6] [1,3] rfl ?_
    refine ⟨(i + 1, _, _), ⟨by omega, by rw [hvs]; exact c0i (by omega)⟩, (by simp only; omega), ⟨rfl, rfl, rfl, rfl, rfl, trivial⟩⟩
   refine H1 <| A3 <| A0 <| A5 rfl rfl ?_
   (refine B8 rfl rfl (by (simp; done)) rfl (fun _ => (B1 (by exact A8 fun _ => rfl))) (fun _ => rfl) ?_; intro g2)
   refine xN [2] [2] rfl <| B4 <| T5 rfl rfl (by simp) (by exact A8 fun _ => rfl) trivial ?_
   rw [hus, show i = t.kids.length by omega, b4f]
  refine B5 <| A3 <| A3 <| A0 <| A4 rfl rfl rfl <| xN [1,3,6] [1,3] rfl <| C5 <| H3 (β := Nat × List Pl × Nat) [(.t 1, _), (.h 1, _)] (fun (z : Nat × List Pl × Nat) => match z with | (i, us, g) => [(.t 6, iV i), (.h 3, .obj g 0 3 (us.map trV)), (.t 3, .sl 3 g none 0 us.length)]) (fun (z : Nat × List Pl × Nat) => match z with | (i, us, g) => i ≤ t.kids.length ∧ us = a8c t i) (fun (z : Nat × List Pl × Nat) => match z with | (i, us, g) => t.kids.length - i) (0, _, _) ⟨rfl, rfl, rfl, rfl, rfl, trivial⟩ ⟨Nat.zero_le _, by (rw [a8c]; simp_all)⟩ ?_
  intro z hb
  obtain ⟨i, us, g⟩ := z
  try dsimp only at hb
  obtain ⟨hi1, hus⟩ := hb
  have hul := hhl i hi1
  rw [← hus] at hul
  refine A3 <| A3 <| A0 <| A5 rfl rfl <| C1 rfl rfl (dT rfl) rfl rfl <| C2 rfl rfl rfl rfl rfl rfl <| F6 rfl rfl <| I3 rfl rfl <| xN [1,3,6,25] [1,3] rfl ?_
  refine A7 rfl ?_ ?_ <;> intro hc <;> try simp only [SL] at hc
  ·refine B5 <| A3 <| C5 <| A3 <| A0 <| C1 rfl rfl (dT rfl) rfl rfl <| C2 rfl rfl rfl rfl rfl rfl <| A5 rfl rfl <| F4 rfl rfl rfl (fun _ => rfl) (by omega) <| E4 rfl rfl rfl ?_
   have hks := Z7 (t := t) (i := i) (by omega)
   have hol := a0y (t.kids.getD i default)
   apply xC rfl
   ·apply A9
    ·exact B2 rfl
    exact C4
   ·exact (by have hi := ih (t.kids.getD i default) (by omega) (a6q hgd (by omega)) (by omega); rw [← Y0] at hi; exact hi)
   refine ⟨⟨rfl, rfl, rfl, dT rfl, rfl⟩, .inl rfl, B0, N1, fun _ => rfl, fun g33 => ?_⟩
   simp only [List.length_map]
   (refine B8 rfl rfl (by (simp; done)) rfl (fun _ => (B1 (by exact A8 fun _ => rfl))) (fun _ => rfl) ?_; intro g7)
   refine xN [1,3,6,7] [1,3,7] rfl <| A3 <| A0 <| A4 rfl rfl rfl <| xN [1,3,6,7,8] [1,3,7] rfl <| C5 <| H3 (β := Nat × List Pl × Nat) [(.t 1, _), (.t 6, _), (.t 7, _), (.h 1, _), (.h 7, _)] (fun (z : Nat × List Pl × Nat) => match z with | (j, vs, g1) => [(.t 8, iV j), (.h 3, .obj g1 0 3 (vs.map trV)), (.t 3, .sl 3 g1 none 0 vs.length)]) (fun (z : Nat × List Pl × Nat) => match z with | (j, vs, g1) => j ≤ (oneP (t.kids.getD i default)).length ∧ vs = b0o t i j) (fun (z : Nat × List Pl × Nat) => match z with | (j, vs, g1) => (oneP (t.kids.getD i default)).length - j) (0, _, _) ⟨rfl, rfl, rfl, rfl, rfl, rfl, rfl, rfl, trivial⟩ ⟨Nat.zero_le _, by rw [hus, b6g]⟩ ?_
   intro z hb
   obtain ⟨j, vs, g1⟩ := z
   try dsimp only at hb
   obtain ⟨hj1, hvs⟩ := hb
   have hvl := hjl i j (by omega)
   rw [← hvs] at hvl
   refine A3 <| A3 <| A0 <| A5 rfl rfl <| A5 rfl rfl <| M1 rfl rfl <| I3 rfl rfl <| xN [1,3,6,7,8,37] [1,3,7] rfl ?_
   refine A7 rfl ?_ ?_ <;> intro hc <;> try simp only [SL] at hc
   ·refine B5 <| A3 <| C5 <| A3 <| A0 <| C8 (es := List.map trV []) rfl rfl (dT rfl) rfl rfl (fun _ => B1 (A8 fun _ => rfl)) (fun _ => rfl) ?_
    intro g40
    refine C1 rfl rfl (dT rfl) rfl rfl <| C2 rfl rfl rfl rfl rfl rfl <| a3r rfl rfl rfl (by (simp; done)) rfl rfl rfl (dT rfl) (fun _ => ⟨rfl, rfl, rfl⟩) (by simp only [H2]; (simp only [List.length_nil, List.length_cons, List.length_append, Nat.zero_add, List.length_map]; omega)) (fun _ => rfl) ?_
    intro g43
    (refine B8 rfl rfl (by (simp; done)) rfl (fun _ => (B1 (by exact A8 fun _ => rfl))) (fun _ => rfl) ?_; intro g9)
    refine xN [1,3,6,7,8,9] [1,3,7,9] rfl <| A3 <| A0 <| A5 rfl rfl <| A5 rfl rfl <| A5 rfl rfl <| A5 rfl rfl <| H9 rfl rfl rfl rfl (by omega) (by (simp; done)) rfl <| I9 rfl rfl (by omega) (fun _ => rfl) (fun _ => rfl) rfl <| H9 rfl rfl rfl rfl (by (simp; omega)) (by (simp; done)) rfl <| a8a rfl rfl rfl (by (simp; omega)) (fun _ _ => ⟨rfl, rfl, dT rfl, dT rfl, rfl, rfl⟩) (by decide) (by exact B1 (A8 fun _ => rfl)) <| xN [1,3,6,7,8,9] [1,3,7,9] rfl <| A0 <| A5 rfl rfl <| C1 rfl rfl (dT rfl) rfl rfl <| C2 rfl rfl rfl rfl rfl rfl <| C1 rfl rfl (dT rfl) rfl rfl <| C2 rfl rfl rfl rfl rfl rfl <| A5 rfl rfl <| J0 (fs := [_, _, _]) rfl rfl rfl rfl rfl <| b0a (mk := 2) (fs := [_, _, _]) rfl rfl rfl (dT rfl) rfl rfl (b7a rfl (b7a rfl (d0f rfl (by simp) (fun _ => rfl) W1))) (fun _ _ => D7 (a0j (A8 fun _ => rfl) (by decide)) (D7 (B1 rfl) (I5 rfl))) ?_
    intro z58 g58
    simp only [P2, List.cons_append, List.nil_append]
    rw [c9r (by omega)]
    refine G6 rfl rfl rfl rfl (by (simp; done)) (by simp) (by decide) rfl rfl rfl rfl (dT rfl) (fun _ => ⟨rfl, rfl⟩) (by simp only [H2]; (simp only [List.length_nil, List.length_cons, List.length_append, Nat.zero_add, List.length_map]; omega)) (fun _ => rfl) ?_
    intro g59
    (refine B8 rfl rfl (by (simp; done)) rfl (fun _ => (B1 (by exact A8 fun _ => rfl))) (fun _ => rfl) ?_; intro g3)
    refine xN [1,3,6,7,8] [1,3,7] rfl <| A0 <| A5 rfl rfl <| G9 rfl rfl (E7 (by omega)) <| A4 rfl rfl rfl <| xN [1,3,6,7,8] [1,3,7] rfl ?_
    refine ⟨(j + 1, _, _), ⟨by omega, by rw [hvs]; exact b5u (by omega)⟩, (by simp only; omega), ⟨rfl, rfl, rfl, rfl, rfl, rfl, rfl, rfl, trivial⟩⟩
   refine H1 <| A0 <| A5 rfl rfl <| G9 rfl rfl (E7 (by omega)) <| A4 rfl rfl rfl <| xN [1,3,6] [1,3] rfl ?_
   refine ⟨(i + 1, _, _), ⟨by omega, by rw [hvs]; exact c0i (by omega)⟩, (by simp only; omega), ⟨rfl, rfl, rfl, rfl, rfl, trivial⟩⟩
  refine H1 <| A3 <| A0 <| A5 rfl rfl ?_
  (refine B8 rfl rfl (by (simp; done)) rfl (fun _ => (B1 (by exact A8 fun _ => rfl))) (fun _ => rfl) ?_; intro g2)
  refine xN [2] [2] rfl <| B4 <| T5 rfl rfl (by simp) (by exact A8 fun _ => rfl) trivial ?_
  rw [hus, show i = t.kids.length by omega, b4f]

theorem keep_s_rules : G0 Tryz.f78 = [0, 2, 3, 5, 17, 7, 37, 40, 39, 41, 38, 6, 9, 62, 10, 8, 4] := by kernel_rfl
set_option maxHeartbeats 20000000 in
theorem c4w (s : List UInt8) (hs : s.length ≤ 1048576) (hw : (splitB 32 s).length ≤ 1000) : CW (cxT (some rG)) 78 [tV s] = some (.own 1 (((K0 (splitB 32 s)).map (joinB 32)).map tV), []) := by
 obtain ⟨ws, hws⟩ : ∃ ws, ws = splitB 32 s := ⟨_, rfl⟩
 rw [← hws]
 have hwl : ws.length ≤ 1000 := by rw [hws]; exact hw
 have hwp : ∀ w ∈ ws, w.length ≤ 1048576 := fun w h => by rw [hws] at h; have := U3 32 s w h; omega
 have hpi := fun (i : Nat) (h : i < ws.length) => hwp _ (R8 h)
 have hjl : (joinB 32 ws).length ≤ 1048576 := by rw [hws, a6b]; exact hs
 have hne : 1 ≤ ws.length := by rw [hws]; have := a8z 32 s; cases h : splitB 32 s with | nil => exact absurd h this | cons a b => simp
 refine F9 rfl Tryz.func78 rfl ⟨by kernel_rfl, rfl, dT rfl, dT rfl, by decide⟩ keep_s_rules <| A3 <| A0 ?_
 (refine C3 rfl rfl (fun _ => rfl) ?_; intro g2)
 refine xN [0] [] rfl <| A3 <| A0 <| A5 rfl rfl ?_
 apply xC rfl
 ·apply A9
  ·exact B2 rfl
  apply A9
  ·exact B2 rfl
  exact C4
 ·exact b8i s 32 (by omega)
 refine ⟨⟨rfl, rfl, rfl, dT rfl, rfl⟩, .inl rfl, B0, N1, fun _ => rfl, fun g12 => ?_⟩
 rw [← hws]
 try simp only [List.length_map]
 (refine B8 rfl rfl (by (simp; done)) rfl (fun _ => (B1 (by exact A8 fun _ => rfl))) (fun _ => rfl) ?_; intro g3)
 refine xN [3] [3] rfl <| A3 <| A0 ?_
 (refine C3 rfl rfl (fun _ => rfl) ?_; intro g4)
 refine xN [3,4] [3,4] rfl <| A3 <| A3 <| A0 <| A4 rfl rfl rfl <| xN [3,4,5] [3,4] rfl <| C5 <| H3 (β := Nat × List W8 × Nat) [(.t 3, _), (.h 3, _)] (fun (z : Nat × List W8 × Nat) => match z with | (i, us, g) => [(.t 5, iV i), (.h 4, .obj g 0 1 (us.map tV)), (.t 4, .sl 4 g none 0 us.length)]) (fun (z : Nat × List W8 × Nat) => match z with | (i, us, g) => i + 1 ≤ ws.length ∧ us = (hitsN ws i).map (joinB 32)) (fun (z : Nat × List W8 × Nat) => match z with | (i, us, g) => ws.length - i) (0, [], _) ⟨rfl, rfl, rfl, rfl, rfl, trivial⟩ ⟨by omega, rfl⟩ ?_
 intro z hb
 obtain ⟨i, us, g⟩ := z
 try dsimp only at hb
 obtain ⟨hi1, hus⟩ := hb
 have hul : us.length ≤ i := by rw [hus, List.length_map]; exact b6i ws i
 refine A3 <| A3 <| A0 <| A5 rfl rfl <| G9 rfl rfl (E7 (by omega)) <| A5 rfl rfl <| M1 rfl rfl <| I3 rfl rfl <| xN [3,4,5,17] [3,4] rfl ?_
 refine A7 rfl ?_ ?_ <;> intro hc <;> try simp only [SL] at hc
 ·refine B5 <| A3 <| C5 <| A3 <| A0 <| c2h rfl rfl rfl <| A5 rfl rfl <| A5 rfl rfl <| H9 rfl rfl rfl rfl (by omega) (by (simp; done)) rfl <| I9 rfl rfl (by omega) (fun _ => rfl) (fun _ => rfl) rfl ?_
  have hp1 := hpi i (by omega)
  refine K5 rfl rfl (by simp only [H2, List.length_append, List.length_cons, List.length_nil]; omega) <| A5 rfl rfl <| A5 rfl rfl <| G9 rfl rfl (E7 (by omega)) <| H9 rfl rfl rfl rfl (by (simp; omega)) (by (simp; done)) rfl <| I9 rfl rfl (by (simp; omega)) (fun _ => rfl) (fun _ => rfl) rfl ?_
  have hp2 := hpi (i + 1) (by omega)
  refine K5 rfl rfl (by simp only [H2, List.length_append, List.length_cons, List.length_nil]; omega) ?_
  rcases hkey : keyG ((ws.getD i default ++ [32]) ++ ws.getD (i + 1) default) with _ | ⟨x, y⟩
  ·skip
   refine c2a (u := .undef) (b := false) (v := .agg [bV false, bV false]) rfl rfl (show (cxT (some rG)).mp rG = some goneTb from if_pos rfl) rfl ⟨rfl, rfl⟩ (by rw [b3d, hkey]; rfl) rfl <| A5 rfl rfl <| B9 rfl rfl rfl <| B9 rfl rfl rfl <| G4 rfl (fun _ => B3 rfl) (fun _ => rfl) ?_
   intro g6
   refine B7 rfl rfl rfl rfl ⟨by decide, rfl, dT rfl, dT rfl, rfl⟩ rfl (by exact B3 rfl) <| A4 rfl rfl rfl ?_
   refine P7 ⟨fun _ => ⟨by decide +kernel, by decide +kernel⟩, [(.t 3, _), (.t 4, _), (.t 5, _), (.t 6, _), (.t 7, _), (.h 3, _), (.h 4, _), (.h 6, _)], ⟨rfl, rfl, rfl, rfl, rfl, rfl, rfl, rfl, rfl, rfl, rfl, rfl, rfl, rfl, rfl, rfl, trivial⟩, ?_⟩
   refine A3 <| A3 <| A0 <| A5 rfl rfl <| L9 rfl <| xN [3,4,5,6,37] [3,4,6] rfl ?_
   refine A7 rfl (fun hc => ?_) (fun hc => absurd hc (by decide))
   refine H1 <| A0 <| A5 rfl rfl <| G9 rfl rfl (E7 (by omega)) <| A4 rfl rfl rfl <| xN [3,4,5] [3,4] rfl ?_
   refine ⟨(i + 1, _, _), ⟨by omega, by rw [hitsN, List.map_append, hus, b2a, hkey]; simp⟩, (by simp only; omega), ⟨rfl, rfl, rfl, rfl, rfl, trivial⟩⟩
  skip
  refine c2a (u := .undef) (b := true) (v := .agg [bV x, bV y]) rfl rfl (show (cxT (some rG)).mp rG = some goneTb from if_pos rfl) rfl ⟨rfl, rfl⟩ (by rw [b3d, hkey]; rfl) rfl <| A5 rfl rfl <| B9 rfl rfl rfl <| B9 rfl rfl rfl <| G4 rfl (fun _ => B3 rfl) (fun _ => rfl) ?_
  intro g6
  refine B7 rfl rfl rfl rfl ⟨by decide, rfl, dT rfl, dT rfl, rfl⟩ rfl (by exact B3 rfl) <| A4 rfl rfl rfl ?_
  refine P7 ⟨fun _ => ⟨by decide +kernel, by decide +kernel⟩, [(.t 3, _), (.t 4, _), (.t 5, _), (.t 6, _), (.t 7, _), (.h 3, _), (.h 4, _), (.h 6, _)], ⟨rfl, rfl, rfl, rfl, rfl, rfl, rfl, rfl, rfl, rfl, rfl, rfl, rfl, rfl, rfl, rfl, trivial⟩, ?_⟩
  refine A3 <| A3 <| A0 <| A5 rfl rfl <| L9 rfl <| xN [3,4,5,6,37] [3,4,6] rfl ?_
  refine A7 rfl (fun hc => absurd hc (by decide)) (fun hc => ?_)
  refine B5 <| A3 <| A0 ?_
  (refine C3 rfl rfl (fun _ => rfl) ?_; intro g8)
  refine xN [3,4,5,6,8] [3,4,6,8] rfl <| A3 <| A3 <| A0 <| A5 rfl rfl <| M1 rfl rfl <| A5 rfl rfl <| xN [3,4,5,6,8,38,39,40] [3,4,6,8] rfl <| C5 <| H3 (β := Nat × List W8 × Nat) [(.t 3, _), (.t 4, _), (.t 5, _), (.t 6, _), (.t 38, _), (.t 39, _), (.h 3, _), (.h 4, _), (.h 6, _)] (fun (z : Nat × List W8 × Nat) => match z with | (k, ls, g1) => [(.t 40, iV k), (.h 8, .obj g1 0 1 (ls.map tV)), (.t 8, .sl 8 g1 none 0 ls.length)]) (fun (z : Nat × List W8 × Nat) => match z with | (k, ls, g1) => k ≤ ws.length ∧ ls = leftN ws i x y k) (fun (z : Nat × List W8 × Nat) => match z with | (k, ls, g1) => ws.length - k) (0, [], _) ⟨rfl, rfl, rfl, rfl, rfl, rfl, rfl, rfl, rfl, rfl, rfl, rfl, trivial⟩ ⟨Nat.zero_le _, rfl⟩ ?_
  intro z hb
  obtain ⟨k, ls, g1⟩ := z
  try dsimp only at hb
  obtain ⟨hk1, hls⟩ := hb
  have hll : ls.length ≤ k := by rw [hls]; exact b5p ws i x y k
  refine A3 <| A0 <| I3 rfl rfl <| xN [3,4,5,6,8,38,39,40,41] [3,4,6,8] rfl <| A3 ?_
  refine A7 rfl ?_ ?_ <;> intro hc <;> try simp only [SL] at hc
  ·refine B5 <| A3 <| C5 <| A3 <| A0 <| A5 rfl rfl <| H9 rfl rfl rfl rfl (by omega) (by (simp; done)) rfl <| I9 rfl rfl (by omega) (fun _ => rfl) (fun _ => rfl) rfl <| A4 rfl rfl rfl <| A4 rfl rfl rfl <| xN [3,4,5,6,8,9,10,38,39,40] [3,4,6,8] rfl <| A3 <| A0 <| A5 rfl rfl <| A5 rfl rfl <| Q1 rfl rfl <| A5 rfl rfl ?_
   refine D8 rfl rfl ?_ ?_ <;> intro hg0 <;> have hg := hg0 <;> try simp only [SG] at hg
   ·refine a4x rfl rfl rfl rfl rfl (by omega) rfl <| gT rfl rfl <| C2 rfl rfl rfl rfl rfl rfl <| G1 rfl (by assumption) rfl rfl <| A5 rfl rfl ?_
    refine D8 rfl rfl ?_ ?_ <;> intro hg0 <;> have hg := hg0 <;> try simp only [SG] at hg
    ·refine A5 rfl rfl <| gT rfl rfl <| A5 rfl rfl <| gT rfl rfl <| G9 rfl rfl (E7 (by omega)) <| gT rfl rfl <| Q1 rfl rfl <| gT rfl rfl <| A5 rfl rfl ?_
     refine D8 rfl rfl ?_ ?_ <;> intro hg0 <;> have hg := hg0 <;> try simp only [SG] at hg
     ·refine a4x rfl rfl rfl rfl rfl (by omega) rfl <| gT rfl rfl <| C2 rfl rfl rfl rfl rfl rfl <| gT rfl rfl <| G1 rfl (by assumption) rfl rfl <| F8 rfl (by assumption) rfl rfl <| L9 rfl <| xN [3,4,5,6,8,10,38,39,40,62] [3,4,6,8] rfl ?_
      refine A7 rfl ?_ ?_ <;> intro hc <;> try simp only [SL] at hc
      ·refine A0 <| A5 rfl rfl <| A5 rfl rfl <| C8 (es := List.map tV [_]) rfl rfl (dT rfl) rfl rfl (fun _ => B1 (A8 fun _ => rfl)) (fun _ => rfl) ?_
       intro g65
       refine G6 rfl rfl rfl rfl (by (simp; done)) (by simp) (by decide) rfl rfl rfl rfl (dT rfl) (fun _ => ⟨rfl, rfl⟩) (by simp only [H2]; omega) (fun _ => rfl) ?_
       intro g66
       (refine B8 rfl rfl (by (simp; done)) rfl (fun _ => (B1 (by exact A8 fun _ => rfl))) (fun _ => rfl) ?_; intro g8)
       refine xN [3,4,5,6,8,38,39,40] [3,4,6,8] rfl <| A0 <| G9 rfl rfl (E7 (by omega)) <| A5 rfl rfl <| xN [3,4,5,6,8,38,39,40] [3,4,6,8] rfl ?_
       refine ⟨(k + 1, _, _), ⟨by omega, by (exfalso; omega)⟩, (by simp only; omega), ⟨rfl, rfl, rfl, rfl, rfl, rfl, rfl, rfl, rfl, rfl, rfl, rfl, trivial⟩⟩
      refine B5 <| A0 <| G9 rfl rfl (E7 (by omega)) <| A5 rfl rfl <| xN [3,4,5,6,8,38,39,40] [3,4,6,8] rfl ?_
      refine ⟨(k + 1, _, _), ⟨by omega, by (exfalso; omega)⟩, (by simp only; omega), ⟨rfl, rfl, rfl, rfl, rfl, rfl, rfl, rfl, rfl, rfl, rfl, rfl, trivial⟩⟩
     refine gF rfl rfl <| gT rfl rfl <| F8 rfl (by assumption) rfl rfl <| F8 rfl (by assumption) rfl rfl <| L9 rfl <| xN [3,4,5,6,8,10,38,39,40,62] [3,4,6,8] rfl ?_
     refine A7 rfl (fun hc => ?_) (fun hc => absurd hc (by decide))
     refine A0 <| A5 rfl rfl <| A5 rfl rfl <| C8 (es := List.map tV [_]) rfl rfl (dT rfl) rfl rfl (fun _ => B1 (A8 fun _ => rfl)) (fun _ => rfl) ?_
     intro g65
     refine G6 rfl rfl rfl rfl (by (simp; done)) (by simp) (by decide) rfl rfl rfl rfl (dT rfl) (fun _ => ⟨rfl, rfl⟩) (by simp only [H2]; (simp only [List.length_nil, List.length_cons, List.length_append, Nat.zero_add, List.length_map]; omega)) (fun _ => rfl) ?_
     intro g66
     (refine B8 rfl rfl (by (simp; done)) rfl (fun _ => (B1 (by exact A8 fun _ => rfl))) (fun _ => rfl) ?_; intro g8)
     refine xN [3,4,5,6,8,38,39,40] [3,4,6,8] rfl <| A0 <| G9 rfl rfl (E7 (by omega)) <| A5 rfl rfl <| xN [3,4,5,6,8,38,39,40] [3,4,6,8] rfl ?_
     refine ⟨(k + 1, _, _), ⟨by omega, by exact b1v hls (by rintro (⟨h1, h2⟩ | ⟨h1, h2⟩) <;> first | omega | exact Bool.noConfusion (h2.symm.trans (show x = false by assumption)))⟩, (by simp only; omega), ⟨rfl, rfl, rfl, rfl, rfl, rfl, rfl, rfl, rfl, rfl, rfl, rfl, trivial⟩⟩
    iterate 4 refine gF rfl rfl ?_
    refine b5w rfl rfl <| b5w rfl rfl <| gF rfl rfl <| G1 rfl (by assumption) rfl rfl <| L9 rfl <| xN [3,4,5,6,8,10,38,39,40,62] [3,4,6,8] rfl ?_
    refine A7 rfl (fun hc => absurd hc (by decide)) (fun hc => ?_)
    refine B5 <| A0 <| G9 rfl rfl (E7 (by omega)) <| A5 rfl rfl <| xN [3,4,5,6,8,38,39,40] [3,4,6,8] rfl ?_
    refine ⟨(k + 1, _, _), ⟨by omega, by exact b5s hls (.inl ⟨by omega, by assumption⟩)⟩, (by simp only; omega), ⟨rfl, rfl, rfl, rfl, rfl, rfl, rfl, rfl, rfl, rfl, rfl, rfl, trivial⟩⟩
   refine gF rfl rfl <| F8 rfl (by assumption) rfl rfl <| A5 rfl rfl <| J2 rfl rfl rfl <| A5 rfl rfl <| J2 rfl rfl rfl <| A5 rfl rfl <| J2 rfl rfl rfl <| G9 rfl rfl (E7 (by omega)) <| J2 rfl rfl rfl <| Q1 rfl rfl <| J2 rfl rfl rfl <| A5 rfl rfl ?_
   refine D8 rfl rfl ?_ ?_ <;> intro hg0 <;> have hg := hg0 <;> try simp only [SG] at hg
   ·refine a4x rfl rfl rfl rfl rfl (by omega) rfl <| gT rfl rfl <| C2 rfl rfl rfl rfl rfl rfl <| J2 rfl rfl rfl <| G1 rfl (by assumption) rfl rfl <| F8 rfl rfl rfl rfl <| L9 rfl <| xN [3,4,5,6,8,10,38,39,40,62] [3,4,6,8] rfl ?_
    refine A7 rfl ?_ ?_ <;> intro hc <;> try simp only [SL] at hc
    ·refine A0 <| A5 rfl rfl <| A5 rfl rfl <| C8 (es := List.map tV [_]) rfl rfl (dT rfl) rfl rfl (fun _ => B1 (A8 fun _ => rfl)) (fun _ => rfl) ?_
     intro g65
     refine G6 rfl rfl rfl rfl (by (simp; done)) (by simp) (by decide) rfl rfl rfl rfl (dT rfl) (fun _ => ⟨rfl, rfl⟩) (by simp only [H2]; (simp only [List.length_nil, List.length_cons, List.length_append, Nat.zero_add, List.length_map]; omega)) (fun _ => rfl) ?_
     intro g66
     (refine B8 rfl rfl (by (simp; done)) rfl (fun _ => (B1 (by exact A8 fun _ => rfl))) (fun _ => rfl) ?_; intro g8)
     refine xN [3,4,5,6,8,38,39,40] [3,4,6,8] rfl <| A0 <| G9 rfl rfl (E7 (by omega)) <| A5 rfl rfl <| xN [3,4,5,6,8,38,39,40] [3,4,6,8] rfl ?_
     refine ⟨(k + 1, _, _), ⟨by omega, by exact b1v hls (by rintro (⟨h1, h2⟩ | ⟨h1, h2⟩) <;> first | omega | exact Bool.noConfusion (h2.symm.trans (show y = false by assumption)))⟩, (by simp only; omega), ⟨rfl, rfl, rfl, rfl, rfl, rfl, rfl, rfl, rfl, rfl, rfl, rfl, trivial⟩⟩
    refine B5 <| A0 <| G9 rfl rfl (E7 (by omega)) <| A5 rfl rfl <| xN [3,4,5,6,8,38,39,40] [3,4,6,8] rfl ?_
    refine ⟨(k + 1, _, _), ⟨by omega, by exact b5s hls (.inr ⟨by omega, by assumption⟩)⟩, (by simp only; omega), ⟨rfl, rfl, rfl, rfl, rfl, rfl, rfl, rfl, rfl, rfl, rfl, rfl, trivial⟩⟩
   refine gF rfl rfl <| J2 rfl rfl rfl <| F8 rfl (by assumption) rfl rfl <| F8 rfl rfl rfl rfl <| L9 rfl <| xN [3,4,5,6,8,10,38,39,40,62] [3,4,6,8] rfl ?_
   refine A7 rfl (fun hc => ?_) (fun hc => absurd hc (by decide))
   refine A0 <| A5 rfl rfl <| A5 rfl rfl <| C8 (es := List.map tV [_]) rfl rfl (dT rfl) rfl rfl (fun _ => B1 (A8 fun _ => rfl)) (fun _ => rfl) ?_
   intro g65
   refine G6 rfl rfl rfl rfl (by (simp; done)) (by simp) (by decide) rfl rfl rfl rfl (dT rfl) (fun _ => ⟨rfl, rfl⟩) (by simp only [H2]; (simp only [List.length_nil, List.length_cons, List.length_append, Nat.zero_add, List.length_map]; omega)) (fun _ => rfl) ?_
   intro g66
   (refine B8 rfl rfl (by (simp; done)) rfl (fun _ => (B1 (by exact A8 fun _ => rfl))) (fun _ => rfl) ?_; intro g8)
   refine xN [3,4,5,6,8,38,39,40] [3,4,6,8] rfl <| A0 <| G9 rfl rfl (E7 (by omega)) <| A5 rfl rfl <| xN [3,4,5,6,8,38,39,40] [3,4,6,8] rfl ?_
   refine ⟨(k + 1, _, _), ⟨by omega, by exact b1v hls (by rintro (⟨h1, h2⟩ | ⟨h1, h2⟩) <;> omega)⟩, (by simp only; omega), ⟨rfl, rfl, rfl, rfl, rfl, rfl, rfl, rfl, rfl, rfl, rfl, rfl, trivial⟩⟩
  refine H1 <| A0 <| A5 rfl rfl <| A5 rfl rfl ?_
  apply xC rfl
  ·apply A9
   ·exact L4 rfl rfl rfl (by (simp; done)) (fun _ => rfl)
   apply A9
   ·exact B2 rfl
   exact C4
  ·exact d1d ls 32 (by simp only [H2]; omega) (by rw [hls]; have := c8i (i := i) (x := x) (y := y) hjl (show k = ws.length by omega); simp only [H2]; omega)
  refine ⟨⟨rfl, rfl, rfl, dT rfl, rfl⟩, .inr ⟨rfl, rfl⟩, B0, B6 rfl, fun _ => rfl, fun g70 => ?_⟩
  refine C8 (es := List.map tV [_]) rfl rfl (dT rfl) rfl rfl (fun _ => B1 (A8 fun _ => rfl)) (fun _ => rfl) ?_
  intro g71
  refine G6 rfl rfl rfl rfl (by (simp; done)) (by simp) (by decide) rfl rfl rfl rfl (dT rfl) (fun _ => ⟨rfl, rfl⟩) (by simp only [H2]; (simp only [List.length_nil, List.length_cons, List.length_append, Nat.zero_add, List.length_map]; omega)) (fun _ => rfl) ?_
  intro g72
  (refine B8 rfl rfl (by (simp; done)) rfl (fun _ => (B1 (by exact A8 fun _ => rfl))) (fun _ => rfl) ?_; intro g4)
  refine xN [3,4,5] [3,4] rfl <| A0 <| A5 rfl rfl <| G9 rfl rfl (E7 (by omega)) <| A4 rfl rfl rfl <| xN [3,4,5] [3,4] rfl ?_
  refine ⟨(i + 1, _, _), ⟨by omega, by rw [hitsN, List.map_append, hus, b2a, hkey]; (rw [hls, show k = ws.length by omega]; rfl)⟩, (by simp only; omega), ⟨rfl, rfl, rfl, rfl, rfl, trivial⟩⟩
 refine H1 <| A3 <| A0 <| A5 rfl rfl ?_
 apply xC rfl
 ·apply A9
  ·exact d3b rfl rfl (by (simp; done)) (A8 fun _ => rfl)
  exact C4
 ·exact d1q us (by simp only [H2]; omega)
 refine ⟨⟨rfl, rfl, rfl, dT rfl, rfl⟩, .inl rfl, B0, N1, fun _ => rfl, fun g74 => ?_⟩
 simp only [List.length_map]
 (refine B8 rfl rfl (by (simp; done)) rfl (fun _ => (B1 (by exact A8 fun _ => rfl))) (fun _ => rfl) ?_; intro g2)
 refine xN [2] [2] rfl <| B4 <| T5 rfl rfl (by simp) (by exact A8 fun _ => rfl) trivial ?_
 rw [hus, show i = ws.length - 1 by omega, b1u]

theorem keep_s_normalI : G0 Tryz.f74 = [0, 2, 3, 8] := by kernel_rfl
set_option maxHeartbeats 20000000 in
theorem c7v (t : Pl) (hwf : t.wf) (hsz : t.sz ≤ 1000) (hln : (showP t).length ≤ 1048576) : CW (cxT (some rG)) 74 [tV (showP t)] = some (tV (showP (normP t)), []) := by
 refine F9 rfl Tryz.func74 rfl ⟨by kernel_rfl, rfl, dT rfl, dT rfl, by decide⟩ keep_s_normalI <| A3 <| A0 <| A4 rfl rfl rfl <| xN [0] [] rfl <| C5 <| c5q (β := Pl) (fun (u : Pl) => [(.t 0, tV (showP u))]) (fun (u : Pl) => u.sz ≤ t.sz ∧ u.wf ∧ (showP u).length ≤ (showP t).length ∧ normP u = normP t) (fun (u : Pl) => u.sz) t ⟨rfl, trivial⟩ ⟨Nat.le_refl _, hwf, Nat.le_refl _, rfl⟩ ?_
 intro u hb
 obtain ⟨hus, huw, hul, hun⟩ := hb
 refine C5 <| A3 <| A0 <| A5 rfl rfl ?_
 apply xC rfl
 ·apply A9
  ·exact B2 rfl
  exact C4
 ·exact (by have hi := c4w (rG := rG) (showP u) (by omega) (by rw [a4y huw]; omega); rw [b3h huw] at hi; exact hi)
 refine ⟨⟨rfl, rfl, rfl, dT rfl, rfl⟩, .inl rfl, B0, N1, fun _ => rfl, fun g5 => ?_⟩
 simp only [List.length_map]
 (refine B8 rfl rfl (by (simp; done)) rfl (fun _ => (B1 (by exact A8 fun _ => rfl))) (fun _ => rfl) ?_; intro g3)
 refine xN [0,3] [3] rfl <| A3 <| A3 <| A0 <| A5 rfl rfl <| M1 rfl rfl <| Q1 rfl rfl <| xN [0,3,8] [3] rfl ?_
 refine A7 rfl ?_ ?_ <;> intro hc <;> try simp only [SL] at hc
 ·refine A3 <| A0 <| A5 rfl rfl <| A4 rfl rfl rfl <| xN [2] [] rfl <| B4 <| C7 rfl rfl trivial ?_
  rw [← hun, a2g (List.length_eq_zero_iff.1 (by omega))]
 have hmem : (oneP u).getD 0 default ∈ oneP u := R8 (by omega)
 have hok := P6 u huw _ hmem
 have hsw := a0q u _ hmem
 have hg0 : ((oneP u).map showP).getD 0 default = showP ((oneP u).getD 0 default) := by rw [List.getD_eq_getElem?_getD, List.getD_eq_getElem?_getD, List.getElem?_map, List.getElem?_eq_getElem (by omega)]; rfl
 refine B5 <| A0 <| A5 rfl rfl <| H9 rfl rfl rfl rfl (by (change 0 < _; omega)) (by (simp; done)) rfl <| I9 rfl rfl (by (simp; omega)) (fun _ => rfl) (fun _ => rfl) rfl <| A4 rfl rfl rfl <| xN [0] [] rfl ?_
 try rw [hg0]
 refine ⟨((oneP u).getD 0 default), ⟨by omega, hok.1, by omega, by rw [← hun]; exact b8s huw hmem⟩, (by omega), ⟨rfl, trivial⟩⟩

theorem keep_s_OneRuleS : G0 Tryz.f32 = [0, 2, 4, 14, 3, 5, 7, 21, 6, 10] := by kernel_rfl
set_option maxHeartbeats 20000000 in
theorem b2b (s : List UInt8) (hs : s.length ≤ 1048576) : CW (cxT oG) 32 [tV s] = some (.own 1 ((oneT s).map tV), []) := by
 refine F9 rfl Tryz.func32 rfl ⟨by kernel_rfl, rfl, dT rfl, dT rfl, by decide⟩ keep_s_OneRuleS <| A3 <| A0 ?_
 (refine C3 rfl rfl (fun _ => rfl) ?_; intro g2)
 refine xN [0] [] rfl <| A3 <| A0 <| A5 rfl rfl ?_
 apply xC rfl
 ·apply A9
  ·exact B2 rfl
  exact C4
 ·exact c4b s hs
 refine ⟨⟨rfl, rfl, rfl, dT rfl, rfl⟩, .inl rfl, B0, K7 rfl, fun _ => rfl, fun g10 => ?_⟩
 refine A5 rfl rfl <| B9 rfl rfl rfl <| B9 rfl rfl rfl <| G4 rfl (fun _ => B3 rfl) (fun _ => rfl) ?_
 intro g3
 refine B7 rfl rfl rfl rfl ⟨by decide, rfl, dT rfl, dT rfl, rfl⟩ rfl (by exact B3 rfl) <| A4 rfl rfl rfl <| xN [3,4] [3] rfl <| A3 <| A3 <| A0 <| A5 rfl rfl <| L9 rfl <| xN [3,14] [3] rfl ?_
 refine A7 rfl ?_ ?_ <;> intro hc <;> try simp only [SL] at hc
 ·refine A3 <| A0 ?_
  (refine C3 rfl rfl (fun _ => rfl) ?_; intro g2)
  refine xN [2] [2] rfl <| B4 <| T5 rfl rfl (by simp) (by rfl) trivial ?_
  rw [a8x hc]
  rfl
 refine B5 <| A3 <| A0 <| E3 rfl rfl rfl rfl rfl ?_
 obtain ⟨t, ht1, ht2, ht3⟩ := a2m hc
 obtain ⟨hst, hwf, hgd, hsl, hsz⟩ := W3 ht1
 rw [ht2, Y0]
 have hol := a0y t
 apply xC rfl
 ·apply A9
  ·exact B2 rfl
  exact C4
 ·exact c7r t (by omega) hgd
 refine ⟨⟨rfl, rfl, rfl, dT rfl, rfl⟩, .inl rfl, B0, N1, fun _ => rfl, fun g16 => ?_⟩
 simp only [List.length_map]
 (refine B8 rfl rfl (by (simp; done)) rfl (fun _ => (B1 (by exact A8 fun _ => rfl))) (fun _ => rfl) ?_; intro g5)
 refine xN [5] [5] rfl <| A3 <| A0 <| C8 (es := List.map tV []) rfl rfl (dT rfl) rfl rfl (fun _ => B1 (A8 fun _ => rfl)) (fun _ => rfl) ?_
 intro g17
 (refine B8 rfl rfl (by (simp; done)) rfl (fun _ => (B1 (by exact A8 fun _ => rfl))) (fun _ => rfl) ?_; intro g6)
 refine xN [5,6] [5,6] rfl <| A3 <| A3 <| A0 <| A4 rfl rfl rfl <| xN [5,6,7] [5,6] rfl <| C5 <| H3 (β := Nat × List W8 × Nat) [(.t 5, _), (.h 5, _)] (fun (z : Nat × List W8 × Nat) => match z with | (i, us, g) => [(.t 7, iV i), (.h 6, .obj g 0 1 (us.map tV)), (.t 6, .sl 6 g none 0 us.length)]) (fun (z : Nat × List W8 × Nat) => match z with | (i, us, g) => i ≤ (oneP t).length ∧ us = ((oneP t).take i).map showP) (fun (z : Nat × List W8 × Nat) => match z with | (i, us, g) => (oneP t).length - i) (0, [], _) ⟨rfl, rfl, rfl, rfl, rfl, trivial⟩ ⟨Nat.zero_le _, rfl⟩ ?_
 intro z hb
 obtain ⟨i, us, g⟩ := z
 try dsimp only at hb
 obtain ⟨hi1, hus⟩ := hb
 have hul : us.length ≤ i := by rw [hus, List.length_map, List.length_take]; omega
 refine A3 <| A3 <| A0 <| A5 rfl rfl <| A5 rfl rfl <| M1 rfl rfl <| I3 rfl rfl <| xN [5,6,7,21] [5,6] rfl ?_
 refine A7 rfl ?_ ?_ <;> intro hc <;> try simp only [SL] at hc
 ·refine B5 <| A3 <| C5 <| A0 <| A5 rfl rfl <| A5 rfl rfl <| A5 rfl rfl <| H9 rfl rfl rfl rfl (by omega) (by (simp; done)) rfl <| I9 rfl rfl (by omega) (fun _ => rfl) (fun _ => rfl) rfl ?_
  have hmem : (oneP t).getD i default ∈ oneP t := R8 (by omega)
  have hsw := a0q t _ hmem
  rw [← hst] at hsw
  rw [Y0]
  apply xC rfl
  ·apply A9
   ·exact B2 rfl
   exact C4
  ·exact c3j ((oneP t).getD i default) (by omega) (a4w t hgd _ hmem)
  refine ⟨⟨rfl, rfl, rfl, dT rfl, rfl⟩, .inl rfl, B0, B6 rfl, fun _ => rfl, fun g29 => ?_⟩
  refine C8 (es := List.map tV [_]) rfl rfl (dT rfl) rfl rfl (fun _ => B1 (A8 fun _ => rfl)) (fun _ => rfl) ?_
  intro g30
  refine G6 rfl rfl rfl rfl (by (simp; done)) (by simp) (by decide) rfl rfl rfl rfl (dT rfl) (fun _ => ⟨rfl, rfl⟩) (by simp only [H2]; (simp only [List.length_nil, List.length_cons, List.length_append, Nat.zero_add, List.length_map]; omega)) (fun _ => rfl) ?_
  intro g31
  (refine B8 rfl rfl (by (simp; done)) rfl (fun _ => (B1 (by exact A8 fun _ => rfl))) (fun _ => rfl) ?_; intro g6)
  refine xN [5,6,7] [5,6] rfl <| A0 <| A5 rfl rfl <| G9 rfl rfl (E7 (by omega)) <| A4 rfl rfl rfl <| xN [5,6,7] [5,6] rfl ?_
  refine ⟨(i + 1, _, _), ⟨by omega, by rw [hus, a8q (by omega), List.map_append]; rfl⟩, (by simp only; omega), ⟨rfl, rfl, rfl, rfl, rfl, trivial⟩⟩
 refine H1 <| A3 <| A0 <| A5 rfl rfl ?_
 (refine B8 rfl rfl (by (simp; done)) rfl (fun _ => (B1 (by exact A8 fun _ => rfl))) (fun _ => rfl) ?_; intro g2)
 refine xN [2] [2] rfl <| B4 <| T5 rfl rfl (by simp) (by exact A8 fun _ => rfl) trivial ?_
 rw [a9d ht1, hus, List.take_of_length_le (by omega)]

theorem keep_s_OneRuleI : G0 Tryz.f30 = [0, 2, 5] := by kernel_rfl
set_option maxHeartbeats 20000000 in
theorem c3c (s : List UInt8) (hs : s.length ≤ 1048576) : CW (cxT (some rG)) 30 [tV s] = some (.own 1 ((oneT s).map tV), []) := by
 refine F9 rfl Tryz.func30 rfl ⟨by kernel_rfl, rfl, dT rfl, dT rfl, by decide⟩ keep_s_OneRuleI <| A3 <| A0 ?_
 (refine C3 rfl rfl (fun _ => rfl) ?_; intro g2)
 refine xN [0] [] rfl <| A3 <| A3 <| A0 <| A5 rfl rfl ?_
 apply xC rfl
 ·apply A9
  ·exact B2 rfl
  exact C4
 ·exact a6y s hs
 refine ⟨⟨rfl, rfl, rfl, dT rfl, rfl⟩, .inl rfl, B0, B6 rfl, fun _ => rfl, fun g4 => ?_⟩
 refine L9 rfl <| xN [0,5] [] rfl ?_
 refine A7 rfl ?_ ?_ <;> intro hc <;> try simp only [SL] at hc
 ·refine A3 <| A0 ?_
  (refine C3 rfl rfl (fun _ => rfl) ?_; intro g2)
  refine xN [2] [2] rfl <| B4 <| T5 rfl rfl (by simp) (by rfl) trivial ?_
  rw [a8x hc]
  rfl
 refine B5 <| A3 <| A0 <| A5 rfl rfl ?_
 obtain ⟨t, ht1, ht2, ht3⟩ := a2m hc
 obtain ⟨hst, hwf, hgd, hsl, hsz⟩ := W3 ht1
 apply xC rfl
 ·apply A9
  ·exact B2 rfl
  exact C4
 ·exact (by have hi := c4w (rG := rG) s (by omega) (by rw [hst, a4y hwf]; omega); rw [hst, b3h hwf, ← hst] at hi; exact hi)
 refine ⟨⟨rfl, rfl, rfl, dT rfl, rfl⟩, .inl rfl, B0, N1, fun _ => rfl, fun g7 => ?_⟩
 simp only [List.length_map]
 (refine B8 rfl rfl (by (simp; done)) rfl (fun _ => (B1 (by exact A8 fun _ => rfl))) (fun _ => rfl) ?_; intro g2)
 refine xN [2] [2] rfl <| B4 <| T5 rfl rfl (by simp) (by exact A8 fun _ => rfl) trivial ?_
 rw [a9d ht1]

theorem keep_s_NormalOfI : G0 Tryz.f33 = [0, 2, 5] := by kernel_rfl
set_option maxHeartbeats 20000000 in
theorem a3v (s : List UInt8) (hs : s.length ≤ 1048576) : CW (cxT (some rG)) 33 [tV s] = some (tV (a7g s), []) := by
 refine F9 rfl Tryz.func33 rfl ⟨by kernel_rfl, rfl, dT rfl, dT rfl, by decide⟩ keep_s_NormalOfI <| A3 <| A0 <| A4 rfl rfl rfl <| xN [0] [] rfl <| A3 <| A3 <| A0 <| A5 rfl rfl ?_
 apply xC rfl
 ·apply A9
  ·exact B2 rfl
  exact C4
 ·exact a6y s hs
 refine ⟨⟨rfl, rfl, rfl, dT rfl, rfl⟩, .inl rfl, B0, B6 rfl, fun _ => rfl, fun g4 => ?_⟩
 refine L9 rfl <| xN [0,5] [] rfl ?_
 refine A7 rfl ?_ ?_ <;> intro hc <;> try simp only [SL] at hc
 ·refine A3 <| A0 <| A4 rfl rfl rfl <| xN [2] [] rfl <| B4 <| C7 rfl rfl trivial ?_
  rw [c2t hc]
  rfl
 refine B5 <| A3 <| A0 <| A5 rfl rfl ?_
 obtain ⟨t, ht1, ht2, ht3⟩ := a2m hc
 obtain ⟨hst, hwf, hgd, hsl, hsz⟩ := W3 ht1
 subst hst
 apply xC rfl
 ·apply A9
  ·exact B2 rfl
  exact C4
 ·exact c7v t hwf (by omega) (by omega)
 refine ⟨⟨rfl, rfl, rfl, dT rfl, rfl⟩, .inl rfl, B0, B6 rfl, fun _ => rfl, fun g7 => ?_⟩
 refine A4 rfl rfl rfl <| xN [2] [] rfl <| B4 <| C7 rfl rfl trivial ?_
 rw [a2i ht1]

theorem keep_s_pick : G0 Tryz.f91 = [0, 1, 4, 24, 5, 36, 6] := by kernel_rfl
set_option maxHeartbeats 20000000 in
theorem Z2 (bs : List Int) (p : Int) (hbs : a3e bs) (hl : bs.length ≤ 1048576) (hp : 0 ≤ p ∧ p ≤ 1000000000) (n : Int) (hn : n ≤ 1000000000) : ∃ res outs, (fun res outs => ∃ k, res = iV k ∧ outs = [[rdr bs (p + 1)]] ∧ (1 ≤ n → 0 ≤ k ∧ k < n) ∧ (n < 1 → k = 0)) res outs ∧ CW (cxT oG) 91 [.ownp [rdr bs p] 0 0, iV n] = some (res, outs) := by
 refine R9 rfl Tryz.func91 rfl ⟨by kernel_rfl, rfl, dT rfl, dT rfl, by decide⟩ keep_s_pick <| A3 <| A0 <| A4 rfl rfl rfl <| xN [0,1] [0] rfl <| A3 <| A0 <| A5 rfl rfl <| A5 rfl rfl <| M6 rfl rfl rfl <| C1 rfl rfl (dT rfl) rfl rfl <| C2 rfl rfl rfl rfl rfl rfl <| G9 rfl rfl (E7 (by omega)) <| M6 rfl rfl rfl <| C1 rfl rfl (dT rfl) rfl rfl <| b8c rfl rfl rfl rfl rfl ⟨by decide, rfl, dT rfl, dT rfl, rfl⟩ (by exact c7a rfl) <| xN [0,1] [0] rfl <| A3 <| A3 <| A0 <| A5 rfl rfl <| I3 rfl rfl <| A5 rfl rfl ?_
 refine D8 rfl rfl ?_ ?_ <;> intro hg0 <;> have hg := hg0 <;> try simp only [SG] at hg
 ·refine A5 rfl rfl <| gT rfl rfl <| M6 rfl rfl rfl <| gT rfl rfl <| C1 rfl rfl (dT rfl) rfl rfl <| gT rfl rfl <| C2 rfl rfl rfl rfl rfl rfl <| gT rfl rfl <| F6 rfl rfl <| gT rfl rfl <| Q1 rfl rfl <| F8 rfl (by assumption) rfl rfl <| xN [0,1,24] [0] rfl ?_
  refine A7 rfl ?_ ?_ <;> intro hc <;> try simp only [SL] at hc
  ·refine A3 <| A0 <| A4 rfl rfl rfl <| xN [4] [0] rfl <| B4 ?_
   refine ⟨_, _, ?_, J1 rfl rfl (I8 rfl rfl)⟩
   refine ⟨_, rfl, rfl, fun h => ?_, fun h => ?_⟩
   ·omega
   omega
  refine B5 <| A3 <| A0 <| A5 rfl rfl <| M6 rfl rfl rfl <| C1 rfl rfl (dT rfl) rfl rfl <| C2 rfl rfl rfl rfl rfl rfl <| a1f rfl rfl (E7 (by omega)) <| A4 rfl rfl rfl <| xN [0,1,5] [0] rfl <| A3 <| A3 <| A0 <| A5 rfl rfl <| A5 rfl rfl <| M6 rfl rfl rfl <| C1 rfl rfl (dT rfl) rfl rfl <| C2 rfl rfl rfl rfl rfl rfl <| F6 rfl rfl <| I3 rfl rfl <| xN [0,1,5,36] [0] rfl ?_
  refine A7 rfl ?_ ?_ <;> intro hc <;> try simp only [SL] at hc
  ·refine A3 <| A0 <| A5 rfl rfl <| M6 rfl rfl rfl <| C1 rfl rfl (dT rfl) rfl rfl <| C2 rfl rfl rfl rfl rfl rfl <| A5 rfl rfl <| L1 rfl rfl rfl (fun _ => rfl) (by omega) <| E4 rfl rfl rfl <| a8m rfl rfl rfl (E7 (by have := hbs.getD (p + 1 - 1).toNat; omega)) <| A5 rfl rfl ?_
   have hk := hbs.getD (p + 1 - 1).toNat
   refine b9x rfl rfl (by omega) <| A4 rfl rfl rfl <| xN [4] [0] rfl <| B4 ?_
   refine ⟨_, _, ?_, J1 rfl rfl (I8 rfl rfl)⟩
   refine ⟨_, rfl, rfl, fun h => ?_, fun h => ?_⟩
   ·exact b1o (by omega) (by omega)
   omega
  refine B5 <| A3 <| A0 <| A5 rfl rfl <| M6 rfl rfl rfl <| C1 rfl rfl (dT rfl) rfl rfl <| C2 rfl rfl rfl rfl rfl rfl <| A5 rfl rfl <| A5 rfl rfl <| M6 rfl rfl rfl <| C1 rfl rfl (dT rfl) rfl rfl <| C2 rfl rfl rfl rfl rfl rfl <| F6 rfl rfl ?_
  have hlen : 0 < (bs.length : Int) := by omega
  refine b9x rfl rfl (by omega) ?_
  have hm1 := b1o (a := p + 1 - 1) (by omega) hlen
  refine L1 rfl rfl rfl (fun _ => rfl) (by omega) <| E4 rfl rfl rfl <| a8m rfl rfl rfl (E7 (by have := hbs.getD ((p + 1 - 1).tmod bs.length).toNat; omega)) ?_
  have hk := hbs.getD ((p + 1 - 1).tmod bs.length).toNat
  refine b0f rfl rfl (E7 (by omega)) <| A5 rfl rfl <| M6 rfl rfl rfl <| C1 rfl rfl (dT rfl) rfl rfl <| C2 rfl rfl rfl rfl rfl rfl <| A5 rfl rfl <| b0f rfl rfl (E7 (by omega)) <| G9 rfl rfl (E7 (by omega)) <| A5 rfl rfl <| M6 rfl rfl rfl <| C1 rfl rfl (dT rfl) rfl rfl <| C2 rfl rfl rfl rfl rfl rfl <| F6 rfl rfl <| b9x rfl rfl (by omega) ?_
  have hm2 := b1o (a := (p + 1 - 1) * 7 + 3) (by omega) hlen
  refine L1 rfl rfl rfl (fun _ => rfl) (by omega) <| E4 rfl rfl rfl <| a8m rfl rfl rfl (E7 (by have := hbs.getD (((p + 1 - 1) * 7 + 3).tmod bs.length).toNat; omega)) ?_
  have hk2 := hbs.getD (((p + 1 - 1) * 7 + 3).tmod bs.length).toNat
  refine b0f rfl rfl (E7 (by omega)) <| G9 rfl rfl (E7 (by omega)) <| A5 rfl rfl <| b0f rfl rfl (E7 (by omega)) <| G9 rfl rfl (E7 (by omega)) <| A5 rfl rfl <| A5 rfl rfl <| M6 rfl rfl rfl <| C1 rfl rfl (dT rfl) rfl rfl <| C2 rfl rfl rfl rfl rfl rfl <| F6 rfl rfl ?_
  have hd := c6b (a := p + 1 - 1) (b := bs.length) (by omega) (by omega)
  refine c8r rfl rfl ⟨by omega, E7 (by omega)⟩ <| b0f rfl rfl (E7 (by omega)) <| G9 rfl rfl (E7 (by omega)) <| A4 rfl rfl rfl ?_
  refine P7 ⟨fun _ => ⟨by decide +kernel, by decide +kernel⟩, [(.t 1, _), (.t 6, _), (.h 0, _)], ⟨rfl, rfl, rfl, rfl, rfl, rfl, trivial⟩, ?_⟩
  refine A3 <| A0 <| A5 rfl rfl <| A5 rfl rfl ?_
  have hd2 := c6b (a := (bs.getD ((p + 1 - 1).tmod bs.length).toNat default * 131 + bs.getD (((p + 1 - 1) * 7 + 3).tmod bs.length).toNat default * 1117 + (p + 1 - 1) * 29 + (p + 1 - 1).tdiv bs.length * 53)) (b := 64) (by omega) (by decide)
  refine c8r rfl rfl ⟨by omega, E7 (by omega)⟩ ?_
  have hx := d4b (x := (bs.getD ((p + 1 - 1).tmod bs.length).toNat default * 131 + bs.getD (((p + 1 - 1) * 7 + 3).tmod bs.length).toNat default * 1117 + (p + 1 - 1) * 29 + (p + 1 - 1).tdiv bs.length * 53)) (by omega) (y := (bs.getD ((p + 1 - 1).tmod bs.length).toNat default * 131 + bs.getD (((p + 1 - 1) * 7 + 3).tmod bs.length).toNat default * 1117 + (p + 1 - 1) * 29 + (p + 1 - 1).tdiv bs.length * 53).tdiv 64) (by omega)
  refine d5f rfl rfl <| A4 rfl rfl rfl <| xN [1,6] [0] rfl <| A3 <| A0 <| A5 rfl rfl <| A5 rfl rfl <| b9x rfl rfl (by omega) <| A4 rfl rfl rfl <| xN [4] [0] rfl <| B4 ?_
  refine ⟨_, _, ?_, J1 rfl rfl (I8 rfl rfl)⟩
  refine ⟨_, rfl, rfl, fun h => ?_, fun h => ?_⟩
  ·exact b1o (by omega) (by omega)
  omega
 iterate 5 refine gF rfl rfl ?_
 refine G1 rfl (by assumption) rfl rfl <| xN [0,1,24] [0] rfl ?_
 refine A7 rfl (fun hc => ?_) (fun hc => absurd hc (by decide))
 refine A3 <| A0 <| A4 rfl rfl rfl <| xN [4] [0] rfl <| B4 ?_
 refine ⟨_, _, ?_, J1 rfl rfl (I8 rfl rfl)⟩
 refine ⟨_, rfl, rfl, fun h => ?_, fun h => ?_⟩
 ·omega
 omega

theorem keep_s_one : G0 Tryz.f94 = [0, 1, 4] := by kernel_rfl
set_option maxHeartbeats 20000000 in
theorem d0h (bs : List Int) (p : Int) (hbs : a3e bs) (hl : bs.length ≤ 1048576) (hp : 0 ≤ p ∧ p ≤ 1000000000) (xs : List Int) (hx : 1 ≤ xs.length ∧ xs.length ≤ 1000) : ∃ res outs, (fun res outs => ∃ k, res = iV k ∧ outs = [[rdr bs (p + 1)]] ∧ k ∈ xs) res outs ∧ CW (cxT oG) 94 [.ownp [rdr bs p] 0 0, L xs] = some (res, outs) := by
 refine R9 rfl Tryz.func94 rfl ⟨by kernel_rfl, rfl, dT rfl, dT rfl, by decide⟩ keep_s_one <| A3 <| A0 <| A4 rfl rfl rfl <| xN [0,1] [0] rfl <| A3 <| A0 <| A5 rfl rfl <| A5 rfl rfl <| A5 rfl rfl <| F6 rfl rfl ?_
 obtain ⟨_, _, ⟨k, rfl, rfl, hk1, hk2⟩, hC⟩ := Z2 (oG := oG) bs p hbs hl hp xs.length (by omega)
 have hk1 := hk1 (by omega)
 apply xC rfl
 ·apply A9
  ·exact K2 rfl (by decide) rfl
  apply A9
  ·exact B2 rfl
  exact C4
 ·exact hC
 refine ⟨⟨rfl, rfl, rfl, dT rfl, rfl⟩, .inl rfl, G7 rfl rfl rfl B0, B6 rfl, fun _ => rfl, fun g9 => ?_⟩
 refine L1 rfl rfl rfl (fun _ => rfl) (by omega) <| E4 rfl rfl rfl <| A4 rfl rfl rfl <| xN [4] [0] rfl <| B4 ?_
 refine ⟨_, _, ?_, J1 rfl rfl (I8 rfl rfl)⟩
 refine ⟨_, rfl, rfl, a4r (by omega)⟩

theorem keep_s_newReader : G0 Tryz.f54 = [0, 2, 5] := by kernel_rfl
set_option maxHeartbeats 20000000 in
theorem b9j (bs : List Int) (hl : bs.length ≤ 1048576) : ∃ res outs, (fun res outs => res = .ownp [rdr (bs.take 2000) 0] 0 0 ∧ outs = []) res outs ∧ CW (cxT oG) 54 [.list (bs.map uV)] = some (res, outs) := by
 refine R9 rfl Tryz.func54 rfl ⟨by kernel_rfl, rfl, dT rfl, dT rfl, by decide⟩ keep_s_newReader <| A3 <| A0 <| A4 rfl rfl rfl <| xN [0] [] rfl <| A3 <| A3 <| A0 <| A5 rfl rfl <| F6 rfl rfl <| Y5 rfl rfl <| xN [0,5] [] rfl ?_
 refine A7 rfl ?_ ?_ <;> intro hc <;> try simp only [SL] at hc
 ·refine A0 <| A5 rfl rfl <| M2 rfl rfl rfl (Mv.sized_map fun _ => rfl) (H7 rfl) I0 (by (simp; omega)) <| A4 rfl rfl rfl <| xN [0] [] rfl <| A3 <| A0 <| A5 rfl rfl <| J0 (fs := [_, _]) rfl rfl rfl rfl rfl <| a9r rfl rfl rfl (fun _ => B3 rfl) (fun _ => rfl) ?_
  intro g10
  (refine a7h rfl rfl rfl rfl (fun _ => B3 rfl) (fun _ => rfl) ?_; intro g2)
  refine xN [2] [2] rfl <| B4 ?_
  refine ⟨_, _, ?_, c5y rfl rfl rfl C6⟩
  have e : rdr (bs.take 2000) 0 = .agg [.list ((bs.map uV).take 2000), iV 0] := by unfold rdr; rw [List.map_take]
  rw [e]
  exact ⟨rfl, rfl⟩
 refine B5 <| A3 <| A0 <| A5 rfl rfl <| J0 (fs := [_, _]) rfl rfl rfl rfl rfl <| a9r rfl rfl rfl (fun _ => B3 rfl) (fun _ => rfl) ?_
 intro g10
 (refine a7h rfl rfl rfl rfl (fun _ => B3 rfl) (fun _ => rfl) ?_; intro g2)
 refine xN [2] [2] rfl <| B4 ?_
 refine ⟨_, _, ?_, c5y rfl rfl rfl C6⟩
 have e : bs.take 2000 = bs := List.take_of_length_le (by omega)
 rw [e]
 exact ⟨rfl, rfl⟩

theorem keep_s_ofT : G0 Tryz.f92 = [0, 1, 4] := by kernel_rfl
set_option maxHeartbeats 20000000 in
theorem a9m (bs : List Int) (p : Int) (hbs : a3e bs) (hl : bs.length ≤ 1048576) (hp : 0 ≤ p ∧ p ≤ 1000000000) (ss : List W8) (hs : 1 ≤ ss.length ∧ ss.length ≤ 1000) : ∃ res outs, (fun res outs => ∃ k, res = tV k ∧ outs = [[rdr bs (p + 1)]] ∧ k ∈ ss) res outs ∧ CW (cxT oG) 92 [.ownp [rdr bs p] 0 0, .list (ss.map tV)] = some (res, outs) := by
 refine R9 rfl Tryz.func92 rfl ⟨by kernel_rfl, rfl, dT rfl, dT rfl, by decide⟩ keep_s_ofT <| A3 <| A0 <| A4 rfl rfl rfl <| xN [0,1] [0] rfl <| A3 <| A0 <| A5 rfl rfl <| A5 rfl rfl <| A5 rfl rfl <| F6 rfl rfl ?_
 obtain ⟨_, _, ⟨k, rfl, rfl, hk, -⟩, hC⟩ := Z2 (oG := oG) bs (p) hbs hl (by omega) (ss.length) (by omega)
 have hk := hk (by omega)
 apply xC rfl
 ·apply A9
  ·exact K2 rfl (by decide) rfl
  apply A9
  ·exact B2 rfl
  exact C4
 ·exact hC
 refine ⟨⟨rfl, rfl, rfl, dT rfl, rfl⟩, .inl rfl, G7 rfl rfl rfl B0, B6 rfl, fun _ => rfl, fun g9 => ?_⟩
 refine L1 rfl rfl rfl (fun _ => rfl) (by omega) <| E4 rfl rfl rfl <| A4 rfl rfl rfl <| xN [4] [0] rfl <| B4 ?_
 refine ⟨_, _, ?_, J1 rfl rfl (I8 rfl rfl)⟩
 refine ⟨_, rfl, rfl, R8 (by omega)⟩
end Go.Proofs.YtcpmbhfnapijaaaGreatDoor
