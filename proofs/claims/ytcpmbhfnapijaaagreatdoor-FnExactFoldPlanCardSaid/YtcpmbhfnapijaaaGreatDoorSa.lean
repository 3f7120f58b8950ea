/- What each function of the program gives on the abstract machine, part 1 of 2. Conditions: those in front of each theorem. -/
import Derived.Test.YtcpmbhfnapijaaaGreatDoorMd
import Derived.Test.YtcpmbhfnapijaaaGreatDoorChecked
import Derived.KernelRfl

set_option linter.unusedVariables false
set_option linter.unusedSimpArgs false
namespace Go.Proofs.YtcpmbhfnapijaaaGreatDoor
open Go Go.Mv Go.Proofs
set_option maxRecDepth 100000

theorem SD : (∀ {p : Prop} [Decidable p], (decide p = true) = p) ∧ (∀ {p : Prop} {_ : Decidable p}, decide p = false ↔ ¬p) ∧ (∀ (b : Bool), ((!b) = true) = (b = false)) ∧ (∀ (b : Bool), ((!b) = false) = (b = true)) ∧ (∀ {α : Type} [BEq α] [LawfulBEq α] {a b : α}, (a != b) = true ↔ a ≠ b) ∧
    (∀ {α : Type} [BEq α] [LawfulBEq α] {a b : α}, (a == b) = true ↔ a = b) ∧ (∀ {α : Type} (a b : α), (a ≠ b) = ¬a = b) ∧ (!true) = false ∧ (!false) = true ∧ (∀ {α : Type} [BEq α] [LawfulBEq α] {a b : α}, (a == b) = false ↔ a ≠ b) ∧ (∀ {α : Type} [BEq α] [LawfulBEq α] {a b : α}, (a != b) = false ↔ a = b) ∧
    (∀ {p : Prop} [Decidable p], ¬¬p ↔ p) ∧ (∀ {a b : Int}, ¬a < b ↔ b ≤ a) ∧ (∀ {a b : Int}, ¬a ≤ b ↔ b < a) :=
  ⟨@decide_eq_true_eq, @decide_eq_false_iff_not, @Bool.not_eq_true', @Bool.not_eq_false', @bne_iff_ne, @beq_iff_eq, @ne_eq, @Bool.not_true, @Bool.not_false, @beq_eq_false_iff_ne, @bne_eq_false_iff_eq, @Decidable.not_not, @Int.not_lt, @Int.not_le⟩
theorem SG : ((∀ {p : Prop} [Decidable p], (decide p = true) = p) ∧ (∀ {p : Prop} {_ : Decidable p}, decide p = false ↔ ¬p) ∧ (∀ (b : Bool), ((!b) = true) = (b = false)) ∧ (∀ (b : Bool), ((!b) = false) = (b = true)) ∧ (∀ {α : Type} [BEq α] [LawfulBEq α] {a b : α}, (a != b) = true ↔ a ≠ b) ∧
    (∀ {α : Type} [BEq α] [LawfulBEq α] {a b : α}, (a == b) = true ↔ a = b) ∧ (∀ {α : Type} (a b : α), (a ≠ b) = ¬a = b) ∧ (!true) = false ∧ (!false) = true ∧ (∀ {α : Type} [BEq α] [LawfulBEq α] {a b : α}, (a == b) = false ↔ a ≠ b) ∧ (∀ {α : Type} [BEq α] [LawfulBEq α] {a b : α}, (a != b) = false ↔ a = b) ∧
    (∀ {p : Prop} [Decidable p], ¬¬p ↔ p) ∧ (∀ {a b : Int}, ¬a < b ↔ b ≤ a) ∧ (∀ {a b : Int}, ¬a ≤ b ↔ b < a)) ∧
    (∀ (a b : Bool), ((a && b) = true) = (a = true ∧ b = true)) ∧ (∀ {x y : Bool}, (x && y) = false ↔ x = false ∨ y = false) ∧ (∀ (a b : Bool), ((a || b) = true) = (a = true ∨ b = true)) ∧ (∀ {x y : Bool}, (x || y) = false ↔ x = false ∧ y = false) :=
  ⟨SD, @Bool.and_eq_true, @Bool.and_eq_false_iff, @Bool.or_eq_true, @Bool.or_eq_false_iff⟩
def c4v (keep : List Nat) (A : Asr) : List Mv.Loc → Asr → Option Asr
  | l :: ls, B => match keepLoc keep l, Mv.look A l with
    | true, some a => c4v keep A ls ((l, a) :: B)
    | _, _ => none
  | [], B => some B
theorem c3i {keep : List Nat} {A : Asr} : ∀ (ls : List Mv.Loc) {B C : Asr}, KeepL keep A B → c4v keep A ls B = some C → KeepL keep A C
  | [], B, C, h, e => by simp only [c4v, Option.some.injEq] at e; rw [← e]; exact h
  | l :: ls, B, C, h, e => by
    simp only [c4v] at e
    split at e
    · exact c3i ls (show KeepL keep A ((l, _) :: B) from ⟨by assumption, by assumption, h⟩) e
    · cases e
theorem kS (ts hs : List Nat) {keep : List Nat} {A B : Asr} (h : c4v keep A (ts.map .t ++ hs.map .h) [] = some B) : KeepL keep A B := c3i _ (show KeepL keep A [] from trivial) h
section
variable {cx : Cx} {keep : List Nat} {ops0 : Array Oper} {r : List Oper} {A : Asr} {Q : Asr → List Log → Prop}
variable {d ty : Nat} {pos : String} {aft : Array Edge}
theorem gT {op : Op} {dst : Option Nat} {g dg : Nat} {want b : Bool} (hd : (ops0[g]?).bind (·.dst) = some dg) (hb : Mv.look A (.t dg) = some (.val (.bool b)))
    (h : XR cx keep ops0 (⟨dst, op, ty, pos, aft, none⟩ :: r) A fun A' lg => Q A' (c4b (.t dg) lg)) (hw : b = want := by assumption) : XR cx keep ops0 (⟨dst, op, ty, pos, aft, some (g, want)⟩ :: r) A Q := J1 hd hb hw h
theorem gF {op : Op} {g dg : Nat} {want b : Bool} (hd : (ops0[g]?).bind (·.dst) = some dg) (hb : Mv.look A (.t dg) = some (.val (.bool b)))
    (h : XR cx keep ops0 r ((.t d, .val (.tuple #[])) :: A) fun A' lg => Q A' (([.t dg], [.t d]) :: lg)) (hw : b = !want := by assumption) : XR cx keep ops0 (⟨some d, op, ty, pos, aft, some (g, want)⟩ :: r) A Q := J8 hd hb hw h
theorem xN {B : Asr} {p : Asr → List Log → Prop} {R : Asr → Prop} (ts hs : List Nat) (h : c4v keep A (ts.map .t ++ hs.map .h) [] = some B) (q : R B) :
    XR cx keep ops0 [] A (fun A' lg => (false = true → p A' lg) ∧ ∃ B, KeepL keep A' B ∧ R B) := L1 ⟨nofun, B, kS ts hs h, q⟩
theorem xC {G : Type} {k : Nat} {args : Array Operand} {Ts : Array Nat} {vs av : List AV} {ids : List (Nat × Bool)} {wp wb : Ws} {lp lb li : List Mv.Loc} {res : AV} {outs : List (List AV)} {v : G → AV} {wi : G → Ws}
    (hv : opds A args.toList = some vs) (hp : a4q (CW cx) A (cx.md k) 0 vs av ids wp lp) (hC : CW cx k av = some (res, outs))
    (hr : (apartIds ids = true ∧ Q1 ((a0x (cx.md k) 0 vs).map (·.1)) = true ∧ Q1 ((cidAll (cx.md k) 0 av).map (·.1)) = true ∧ av.length ≤ 1000 ∧ a4c av = true) ∧
      (ids.all (fun x => x.2) = true ∨ (hasList res = false ∧ outs.any G2 = false)) ∧
      c0q (CW cx) (puts A wp) (a0x (cx.md k) 0 vs) outs wb lb ∧ a6p (CW cx) (puts (puts A wp) wb) d res v wi li ∧
      (∀ g, tRefsOk keep (keptWs keep (wp ++ (wb ++ (wi g ++ [(.t d, v g)])))) = true) ∧
      ∀ g, XR cx keep ops0 r (J4 A (wp ++ (wb ++ (wi g ++ [(.t d, v g)])))) fun A' lg => Q A' ((a1u args.toList ++ (lp ++ (lb ++ li)), a1t (wp ++ (wb ++ (wi g ++ [(.t d, v g)])))) :: lg)) :
    XR cx keep ops0 (⟨some d, .call ⟨.value (.func k), args, Ts⟩, ty, pos, aft, none⟩ :: r) A Q :=
  b6j hv hp hC hr.1 hr.2.1 hr.2.2.1 hr.2.2.2.1 hr.2.2.2.2.1 hr.2.2.2.2.2
end
theorem SL : (∀ {α β : Type} {av : List α} (f : α → β), (av.map f).length = av.length) ∧ (((∀ {p : Prop} [Decidable p], (decide p = true) = p) ∧ (∀ {p : Prop} {_ : Decidable p}, decide p = false ↔ ¬p) ∧ (∀ (b : Bool), ((!b) = true) = (b = false)) ∧ (∀ (b : Bool), ((!b) = false) = (b = true)) ∧ (∀ {α : Type} [BEq α] [LawfulBEq α] {a b : α}, (a != b) = true ↔ a ≠ b) ∧
    (∀ {α : Type} [BEq α] [LawfulBEq α] {a b : α}, (a == b) = true ↔ a = b) ∧ (∀ {α : Type} (a b : α), (a ≠ b) = ¬a = b) ∧ (!true) = false ∧ (!false) = true ∧ (∀ {α : Type} [BEq α] [LawfulBEq α] {a b : α}, (a == b) = false ↔ a ≠ b) ∧ (∀ {α : Type} [BEq α] [LawfulBEq α] {a b : α}, (a != b) = false ↔ a = b) ∧
    (∀ {p : Prop} [Decidable p], ¬¬p ↔ p) ∧ (∀ {a b : Int}, ¬a < b ↔ b ≤ a) ∧ (∀ {a b : Int}, ¬a ≤ b ↔ b < a)) ∧
    (∀ (a b : Bool), ((a && b) = true) = (a = true ∧ b = true)) ∧ (∀ {x y : Bool}, (x && y) = false ↔ x = false ∨ y = false) ∧ (∀ (a b : Bool), ((a || b) = true) = (a = true ∨ b = true)) ∧ (∀ {x y : Bool}, (x || y) = false ↔ x = false ∧ y = false)) := ⟨@List.length_map.{0, 0}, SG⟩
theorem dT {p : Prop} [Decidable p] (h : decide p = true) : p := of_decide_eq_true h

def mdT : List (Nat × List Nat) := [(23, [3, 3, 3, 3]), (25, [2]), (41, [2]), (42, [1]), (48, [1]), (54, [3, 3, 3, 3]), (55, [3, 3, 3, 3]), (56, [3, 3, 3, 3]), (57, [3, 3, 3, 3]), (60, [3, 3, 3, 3]), (67, [2]), (70, [0, 2]), (71, [2]), (75, [0, 2]), (79, [3, 3, 3, 3]), (82, [3, 3, 3, 3]), (89, [3, 3, 3, 3]), (91, [3, 3, 3, 3]), (92, [3, 3, 3, 3]), (93, [3, 3, 3, 3]), (94, [3, 3, 3, 3]), (95, [3, 3, 3, 3]), (96, [3, 3, 3, 3]), (97, [3, 3, 3, 3]), (102, [3, 3, 3, 3]), (107, [1]), (108, [1]), (112, [2]), (118, [3, 3, 3, 3]), (123, [3, 3, 3, 3]), (131, [3, 3, 3, 3]), (133, [3, 3, 3, 3])]
noncomputable def d2d : List (Nat × (List AV → Option (AV × List (List AV)))) := [(106, a6v), (107, a9u), (121, b1w), (122, b5y), (136, b5l), (137, b5f), (138, b4t), (165, a9r)]
variable {oG : Option Nat} {rG : Nat}
noncomputable def cxT (oG : Option Nat) : Cx := { P := Tryz.prog, md := d2s mdT, ext := c3a d2d, it := fun _ => none, fz := fun k => [57, 60, 82, 89, 97, 102, 118, 123, 131, 133].contains k, fzB := fun T d => [(69, 58), (34, 98), (23, 57), (23, 26), (23, 47), (23, 67), (23, 103)].contains (T, d), gl := fun g => match oG with | some r => if g = 0 then some (.val (.map (some r))) else none | none => none, mp := fun k => match oG with | some r => if k = r then some d1y else none | none => none }
noncomputable def cxE : Cx := { P := Tryz.prog, md := d2s mdT, ext := fun _ => none, fz := fun k => [57, 60, 82, 89, 97, 102, 118, 123, 131, 133].contains k }
theorem c3o (xs : List Int) (hl : xs.length ≤ H6) : CW (cxT oG) 106 [.list (xs.map iV)] = some (.own 1 (xs.map iV), []) := a3f (cxT oG) rfl (by simp [a6v, c4c, hl])
theorem d2h (xs : List Int) (hl : xs.length ≤ H6) : CW (cxT oG) 107 [.own 1 (xs.map iV)] = some (.tup [], [(T7 xs).map iV]) := a3f (cxT oG) rfl (by simp [a9u, c4c, hl])
theorem c2v (l : List UInt8) (b : UInt8) (hl : l.length < 4294967281) : CW (cxT oG) 121 [tV l, tV [b]] = some (.own 1 ((splitB b l).map tV), []) := a3f (cxT oG) rfl (by show (if l.length < 4294967281 then some ((AV.own 1 ((splitB b l).map tV), []) : AV × List (List AV)) else none) = _; rw [if_pos hl])
theorem d1k (ps : List (List UInt8)) (b : UInt8) (h1 : ps.length ≤ H6) (h2 : (joinB b ps).length ≤ H6) : CW (cxT oG) 122 [.list (ps.map tV), tV [b]] = some (tV (joinB b ps), []) := a3f (cxT oG) rfl (by show ((unT (ps.map tV)).bind fun ps => if ps.length ≤ H6 ∧ (joinB b ps).length ≤ H6 then some ((tV (joinB b ps), []) : AV × List (List AV)) else none) = _; rw [c9y, Option.bind_some, if_pos ⟨h1, h2⟩])
theorem d1z (l : List UInt8) (b : UInt8) : CW (cxT oG) 136 [tV l, tV [b]] = some (.tup [tV (a3d b l), bV (decide (l.head? = some b))], []) := a3f (cxT oG) rfl rfl
theorem d1t (l : List UInt8) (b : UInt8) (hl : l.length < 4294967281) : CW (cxT oG) 137 [tV l, tV [b]] = some (.tup [tV (b3f b l), bV (decide (l.getLast? = some b))], []) := a3f (cxT oG) rfl (by show (if l.length < 4294967281 then some ((AV.tup [tV (b3f b l), bV (decide (l.getLast? = some b))], []) : AV × List (List AV)) else none) = _; rw [if_pos hl])
theorem c1h (l : List UInt8) (hl : l.length < 4294967281) : CW (cxT oG) 138 [tV l] = some (atR l, []) := a3f (cxT oG) rfl (by show (if l.length < 4294967281 then some ((atR l, []) : AV × List (List AV)) else none) = _; rw [if_pos hl])
theorem d1n (n : Int) (h : -9223372036854775808 ≤ n ∧ n ≤ 9223372036854775807) : CW (cxT oG) 165 [iV n] = some (tV (dec n), []) := a3f (cxT oG) rfl (by simp [a9r, h])

theorem keep_s_inRange : G8 Tryz.f135 = [0, 1, 2, 6] := by kernel_rfl
set_option maxHeartbeats 20000000 in
theorem b3t (n lo hi : Int) : CW (cxT oG) 135 [iV n, iV lo, iV hi] = some (bV (decide (lo ≤ n) && decide (n ≤ hi)), []) := by
 refine G3 rfl Tryz.func135 rfl ⟨by kernel_rfl, rfl, dT rfl, dT rfl, by decide⟩ keep_s_inRange <| A3 <| A0 <| A5 rfl rfl rfl <| xN [0,1,2] [] rfl <| A3 <| A0 <| A4 rfl rfl <| A4 rfl rfl <| a6c rfl rfl <| A4 rfl rfl ?_
 refine E6 rfl rfl ?_ ?_ <;> intro hg0 <;> have hg := hg0 <;> try simp only [SG] at hg
 ·refine A4 rfl rfl <| gT rfl rfl <| A4 rfl rfl <| gT rfl rfl <| a6c rfl rfl <| G5 rfl (by assumption) rfl rfl <| A5 rfl rfl rfl <| xN [6] [] rfl <| C0 <| D7 rfl rfl trivial ?_
  simp_all [ofConst]; try omega
 refine gF rfl rfl <| gF rfl rfl <| H5 rfl (by assumption) rfl rfl <| A5 rfl rfl rfl <| xN [6] [] rfl <| C0 <| D7 rfl rfl trivial ?_
 simp_all [ofConst]; try omega

theorem keep_s_in : G8 Tryz.f114 = [0, 1, 2, 6] := by kernel_rfl
set_option maxHeartbeats 20000000 in
theorem d3i (n lo hi : Int) : CW (cxT oG) 114 [iV n, iV lo, iV hi] = some (bV (decide (lo ≤ n) && decide (n ≤ hi)), []) := by
 refine G3 rfl Tryz.func114 rfl ⟨by kernel_rfl, rfl, dT rfl, dT rfl, by decide⟩ keep_s_in <| A3 <| A0 <| A5 rfl rfl rfl <| xN [0,1,2] [] rfl <| A3 <| A0 <| A4 rfl rfl <| A4 rfl rfl <| c3u rfl rfl <| A4 rfl rfl ?_
 refine E6 rfl rfl ?_ ?_ <;> intro hg0 <;> have hg := hg0 <;> try simp only [SG] at hg
 ·refine A4 rfl rfl <| gT rfl rfl <| A4 rfl rfl <| gT rfl rfl <| a6c rfl rfl <| G5 rfl (by assumption) rfl rfl <| A5 rfl rfl rfl <| xN [6] [] rfl <| C0 <| D7 rfl rfl trivial ?_
  simp_all [ofConst]; try omega
 refine gF rfl rfl <| gF rfl rfl <| H5 rfl (by assumption) rfl rfl <| A5 rfl rfl rfl <| xN [6] [] rfl <| C0 <| D7 rfl rfl trivial ?_
 simp_all [ofConst]; try omega

theorem keep_s_IndexFunc2 : G8 Tryz.f164 = [0, 1, 4, 8, 7, 9, 5, 16] := by kernel_rfl
set_option maxHeartbeats 20000000 in
theorem b6q (xs : List Int) (hl : xs.length ≤ 1000) (k : Nat) (a b : AV) (q : Int → Bool) (hq : ∀ x, CW (cxT oG) k [iV x, .ipt a 0, .ipt b 0] = some (bV (q x), [])) : ∃ res outs, (fun res outs => ∃ r : Int, res = iV r ∧ outs = [] ∧ decide (0 ≤ r) = xs.any q) res outs ∧ CW (cxT oG) 164 [L xs, .clo k [.ipt a 0, .ipt b 0]] = some (res, outs) := by
 refine b3x rfl Tryz.func164 rfl ⟨by kernel_rfl, rfl, dT rfl, dT rfl, by decide⟩ keep_s_IndexFunc2 <| A3 <| A0 <| A5 rfl rfl rfl <| xN [0,1] [] rfl <| A3 <| A3 <| A0 <| A4 rfl rfl <| D6 rfl rfl <| A4 rfl rfl <| xN [0,1,7,8] [] rfl <| C1 <| H4 (β := Nat) [(.t 0, _), (.t 1, _), (.t 7, _)] (fun (i : Nat) => [(.t 8, iV i)]) (fun (i : Nat) => i ≤ xs.length ∧ ∀ j, j < i → q (xs.getD j default) = false) (fun (i : Nat) => xs.length - i) 0 ⟨rfl, rfl, rfl, rfl, trivial⟩ ⟨Nat.zero_le _, fun j h => by omega⟩ ?_
 intro i hb
 obtain ⟨hi1, hi2⟩ := hb
 refine A3 <| A0 <| H2 rfl rfl <| xN [0,1,7,8,9] [] rfl <| A3 ?_
 refine A8 rfl ?_ ?_ <;> intro hc <;> try simp only [SL] at hc
 ·refine B5 <| A3 <| C1 <| A3 <| A0 <| A4 rfl rfl <| A5 rfl rfl rfl <| xN [0,1,5,7,8] [] rfl <| A3 <| A0 <| A4 rfl rfl <| A4 rfl rfl <| A4 rfl rfl <| C7 rfl rfl rfl (fun _ => rfl) (by omega) <| C6 rfl rfl rfl ?_
  apply d0y rfl rfl
  ·apply B3
   ·exact B7 rfl
   apply B3
   ·exact B7 rfl
   apply B3
   ·exact B7 rfl
   exact D3
  ·exact hq (xs.getD i default)
  ·exact ⟨rfl, rfl, rfl, dT rfl, rfl⟩
  ·exact .inl rfl
  ·exact B8
  ·exact D5 rfl
  ·exact fun _ => rfl
  intro g16
  refine xN [0,1,5,7,8,16] [] rfl ?_
  refine A8 rfl ?_ ?_ <;> intro hc <;> try simp only [SL] at hc
  ·refine A3 <| A0 <| A4 rfl rfl <| A5 rfl rfl rfl <| xN [4] [] rfl <| C0 ?_
   refine ⟨_, _, ?_, b5t rfl rfl C4⟩
   exact ⟨_, rfl, rfl, d0a (by omega) hc⟩
  refine B5 <| A0 <| H0 rfl rfl (F3 (by omega)) <| A4 rfl rfl <| xN [0,1,7,8] [] rfl ?_
  refine ⟨i + 1, ⟨by omega, fun a ha => by rcases Nat.lt_succ_iff_lt_or_eq.1 ha with h | h; exact hi2 a h; subst h; exact hc⟩, (by omega), ⟨rfl, rfl, rfl, rfl, trivial⟩⟩
 refine G4 <| A3 <| A0 <| A5 rfl rfl rfl <| xN [4] [] rfl <| C0 ?_
 refine ⟨_, _, ?_, b5t rfl rfl C4⟩
 exact ⟨-1, rfl, rfl, c8f fun j hj => hi2 j (by omega)⟩

theorem keep_s_ContainsFunc2 : G8 Tryz.f141 = [0, 1, 4] := by kernel_rfl
set_option maxHeartbeats 20000000 in
theorem a9n (xs : List Int) (hl : xs.length ≤ 1000) (k : Nat) (a b : AV) (q : Int → Bool) (hq : ∀ x, CW (cxT oG) k [iV x, .ipt a 0, .ipt b 0] = some (bV (q x), [])) : CW (cxT oG) 141 [L xs, .clo k [.ipt a 0, .ipt b 0]] = some (bV (xs.any q), []) := by
 obtain ⟨_, _, ⟨r, rfl, rfl, hr⟩, hC⟩ := b6q (oG := oG) xs hl k a b q hq
 refine G3 rfl Tryz.func141 rfl ⟨by kernel_rfl, rfl, dT rfl, dT rfl, by decide⟩ keep_s_ContainsFunc2 <| A3 <| A0 <| A5 rfl rfl rfl <| xN [0,1] [] rfl <| A3 <| A0 <| A4 rfl rfl <| A4 rfl rfl ?_
 apply xC rfl
 ·apply B3
  ·exact B7 rfl
  apply B3
  ·exact c8v rfl (c6g (c6g c6h))
  exact D3
 ·exact hC
 refine ⟨⟨rfl, rfl, rfl, dT rfl, rfl⟩, .inl rfl, B8, D5 rfl, fun _ => rfl, fun g7 => ?_⟩
 refine c3u rfl rfl <| A5 rfl rfl rfl <| xN [4] [] rfl <| C0 <| D7 rfl rfl trivial ?_
 rw [← hr]

theorem keep_s_allIn1 : G8 Tryz.f142 = [0, 1, 2, 4] := by kernel_rfl
set_option maxHeartbeats 20000000 in
theorem c8i (x lo hi : Int) : CW (cxT oG) 142 [iV x, .ipt (iV lo) 0, .ipt (iV hi) 0] = some (bV (!(decide (lo ≤ x) && decide (x ≤ hi))), []) := by
 refine G3 rfl Tryz.func142 rfl ⟨by kernel_rfl, rfl, dT rfl, dT rfl, by decide⟩ keep_s_allIn1 <| A3 <| A0 <| A5 rfl rfl rfl <| xN [0,1,2] [] rfl <| A3 <| A0 <| A4 rfl rfl <| C6 rfl rfl rfl <| C6 rfl rfl rfl ?_
 apply xC rfl
 ·apply B3
  ·exact B7 rfl
  apply B3
  ·exact B7 rfl
  apply B3
  ·exact B7 rfl
  exact D3
 ·exact d3i _ _ _
 refine ⟨⟨rfl, rfl, rfl, dT rfl, rfl⟩, .inl rfl, B8, D5 rfl, fun _ => rfl, fun g8 => ?_⟩
 refine K9 rfl <| A5 rfl rfl rfl <| xN [4] [] rfl <| C0 <| D7 rfl rfl trivial ?_
 rfl

theorem keep_s_allIn : G8 Tryz.f111 = [0, 1, 2, 6, 4, 5] := by kernel_rfl
set_option maxHeartbeats 20000000 in
theorem c3m (xs : List Int) (hl : xs.length ≤ 1000) (lo hi : Int) : CW (cxT oG) 111 [L xs, iV lo, iV hi] = some (bV (a7p lo hi xs), []) := by
 refine G3 rfl Tryz.func111 rfl ⟨by kernel_rfl, rfl, dT rfl, dT rfl, by decide⟩ keep_s_allIn <| A3 <| A0 <| a5g rfl rfl rfl (fun _ => B2 rfl) (fun _ => rfl) ?_
 intro g4
 refine a5g rfl rfl rfl (fun _ => B2 rfl) (fun _ => rfl) ?_
 intro g5
 refine A5 rfl rfl rfl <| xN [0,4,5] [4,5] rfl <| A3 <| A0 <| A4 rfl rfl <| c0n rfl rfl ?_
 apply xC rfl
 ·apply B3
  ·exact B7 rfl
  apply B3
  ·exact c8v rfl (c7z rfl rfl (c7z rfl rfl c6h))
  exact D3
 ·exact a9n xs hl 142 (iV lo) (iV hi) _ (fun x => c8i x lo hi)
 refine ⟨⟨rfl, rfl, rfl, dT rfl, rfl⟩, .inr ⟨rfl, rfl⟩, B8, D5 rfl, fun _ => rfl, fun g9 => ?_⟩
 refine K9 rfl <| A5 rfl rfl rfl <| xN [6] [] rfl <| C0 <| D7 rfl rfl trivial ?_
 exact congrArg bV (c8h lo hi xs)

theorem keep_s_validData : G8 Tryz.f103 = [0, 2, 3, 7, 15] := by kernel_rfl
set_option maxHeartbeats 20000000 in
theorem a3y (xs : List Int) (hl : xs.length ≤ 1048576) : CW (cxT oG) 103 [L xs] = some (bV (vd xs), []) := by
 refine G3 rfl Tryz.func103 rfl ⟨by kernel_rfl, rfl, dT rfl, dT rfl, by decide⟩ keep_s_validData <| A3 <| A0 <| A5 rfl rfl rfl <| xN [0] [] rfl <| A3 <| A3 <| A0 <| A5 rfl rfl rfl <| xN [0,3] [] rfl <| C1 <| H4 (β := Nat) [(.t 0, _)] (fun (i : Nat) => [(.t 3, iV i)]) (fun (i : Nat) => i ≤ xs.length ∧ ∀ j, j < i → -200 ≤ xs.getD j default ∧ xs.getD j default ≤ 200) (fun (i : Nat) => xs.length - i) 0 ⟨rfl, rfl, trivial⟩ ⟨Nat.zero_le _, fun j h => by omega⟩ ?_
 intro i hb
 obtain ⟨hi1, hi2⟩ := hb
 refine A3 <| A3 <| A0 <| A4 rfl rfl <| A4 rfl rfl <| D6 rfl rfl <| H2 rfl rfl <| xN [0,3,7] [] rfl ?_
 refine A8 rfl ?_ ?_ <;> intro hc <;> try simp only [SL] at hc
 ·refine B5 <| A3 <| C1 <| A3 <| A0 <| A4 rfl rfl <| A4 rfl rfl <| C7 rfl rfl rfl (fun _ => rfl) (by omega) <| C6 rfl rfl rfl ?_
  apply xC rfl
  ·apply B3
   ·exact B7 rfl
   apply B3
   ·exact B7 rfl
   apply B3
   ·exact B7 rfl
   exact D3
  ·exact b3t _ _ _
  refine ⟨⟨rfl, rfl, rfl, dT rfl, rfl⟩, .inl rfl, B8, D5 rfl, fun _ => rfl, fun g14 => ?_⟩
  refine K9 rfl <| xN [0,3,15] [] rfl ?_
  refine A8 rfl ?_ ?_ <;> intro hc <;> try simp only [SL] at hc
  ·refine A3 <| A0 <| A5 rfl rfl rfl <| xN [2] [] rfl <| C0 <| D7 rfl rfl trivial ?_
   rw [vd, b8v (show i < xs.length by omega) (by (simp_all; omega)), Bool.and_false]
   rfl
  refine B5 <| A0 <| A4 rfl rfl <| H0 rfl rfl (F3 (by omega)) <| A5 rfl rfl rfl <| xN [0,3] [] rfl ?_
  refine ⟨i + 1, ⟨by omega, fun j hj => by rcases Nat.lt_succ_iff_lt_or_eq.1 hj with h | h; (· exact hi2 j h); (· subst h; assumption)⟩, (by omega), ⟨rfl, rfl, trivial⟩⟩
 refine G4 <| A3 <| A0 <| A4 rfl rfl <| D6 rfl rfl <| a6c rfl rfl <| A5 rfl rfl rfl <| xN [2] [] rfl <| C0 <| D7 rfl rfl trivial ?_
 rw [vd, c4f fun j hj => hi2 j (by omega), Bool.and_true]
 exact congrArg bV (decide_eq_decide.2 (by omega))

theorem keep_s_validDataI : G8 Tryz.f100 = [0, 2] := by kernel_rfl
set_option maxHeartbeats 20000000 in
theorem Z5 (xs : List Int) (hl : xs.length ≤ 1048576) : CW (cxT oG) 100 [L xs] = some (bV (vd xs), []) := by
 refine G3 rfl Tryz.func100 rfl ⟨by kernel_rfl, rfl, dT rfl, dT rfl, by decide⟩ keep_s_validDataI <| A3 <| A0 <| A5 rfl rfl rfl <| xN [0] [] rfl <| A3 <| A0 <| A4 rfl rfl <| D6 rfl rfl <| a6c rfl rfl <| A4 rfl rfl ?_
 refine E6 rfl rfl ?_ ?_ <;> intro hg0 <;> have hg := hg0 <;> try simp only [SG] at hg
 ·refine A4 rfl rfl <| gT rfl rfl ?_
  apply xC rfl
  ·apply B3
   ·exact B7 rfl
   apply B3
   ·exact B7 rfl
   apply B3
   ·exact B7 rfl
   exact D3
  ·exact c3m xs (by omega) (-200) 200
  refine ⟨⟨rfl, rfl, rfl, dT rfl, rfl⟩, .inl rfl, B8, D5 rfl, fun _ => rfl, fun g8 => ?_⟩
  refine G5 rfl (by assumption) rfl rfl <| A5 rfl rfl rfl <| xN [2] [] rfl <| C0 <| D7 rfl rfl trivial ?_
  cases hb : a7p (-200) 200 xs <;> simp_all [vd, ofConst] <;> omega
 refine gF rfl rfl <| H5 rfl (by assumption) rfl rfl <| A5 rfl rfl rfl <| xN [2] [] rfl <| C0 <| D7 rfl rfl trivial ?_
 cases hb : a7p (-200) 200 xs <;> simp_all [vd, ofConst] <;> omega

theorem keep_s_needs : G8 Tryz.f64 = [0, 2, 3, 4, 10, 19] := by kernel_rfl
set_option maxHeartbeats 20000000 in
theorem a6o (w : ByteArray) : CW (cxT oG) 64 [sV w] = some (iV (nd w), []) := by
 refine G3 rfl Tryz.func64 rfl ⟨by kernel_rfl, rfl, dT rfl, dT rfl, by decide⟩ keep_s_needs <| A3 <| A0 <| A5 rfl rfl rfl <| xN [0] [] rfl <| A3 <| A3 <| A0 <| A4 rfl rfl <| xN [3] [] rfl <| C1 <| A3 <| A3 <| A0 <| I8 rfl rfl <| A5 rfl rfl rfl <| xN [3,4] [] rfl ?_
 refine A8 rfl ?_ ?_ <;> intro hc <;> try simp only [SL] at hc
 ·refine B5 ?_
  refine A8 rfl (fun hc => ?_) (fun hc => absurd hc (by simp_all))
  refine A3 <| A0 <| A5 rfl rfl rfl <| xN [2] [] rfl <| C0 <| D7 rfl rfl trivial <| congrArg iV ?_
  simp_all [nd]
 refine A3 <| A0 <| I8 rfl rfl <| A5 rfl rfl rfl <| xN [3,4] [] rfl ?_
 refine A8 rfl ?_ ?_ <;> intro hc <;> try simp only [SL] at hc
 ·refine B5 ?_
  refine A8 rfl (fun hc => ?_) (fun hc => absurd hc (by simp_all))
  refine A3 <| A0 <| A5 rfl rfl rfl <| xN [2] [] rfl <| C0 <| D7 rfl rfl trivial <| congrArg iV ?_
  simp_all [nd]
 refine A3 <| A0 <| I8 rfl rfl <| A5 rfl rfl rfl <| xN [3,4] [] rfl ?_
 refine A8 rfl ?_ ?_ <;> intro hc <;> try simp only [SL] at hc
 ·refine B5 ?_
  refine A8 rfl (fun hc => ?_) (fun hc => absurd hc (by simp_all))
  refine A3 <| A0 <| A5 rfl rfl rfl <| xN [2] [] rfl <| C0 <| D7 rfl rfl trivial <| congrArg iV ?_
  simp_all [nd]
 refine A3 <| A0 <| I8 rfl rfl <| A5 rfl rfl rfl <| xN [3,4] [] rfl ?_
 refine A8 rfl ?_ ?_ <;> intro hc <;> try simp only [SL] at hc
 ·refine B5 ?_
  refine A8 rfl (fun hc => ?_) (fun hc => absurd hc (by simp_all))
  refine A3 <| A0 <| A5 rfl rfl rfl <| xN [2] [] rfl <| C0 <| D7 rfl rfl trivial <| congrArg iV ?_
  simp_all [nd]
 refine A0 <| I8 rfl rfl <| A5 rfl rfl rfl <| xN [3,4] [] rfl ?_
 refine A8 rfl ?_ ?_ <;> intro hc <;> try simp only [SL] at hc
 ·refine A3 <| A0 <| A5 rfl rfl rfl <| xN [2] [] rfl <| C0 <| D7 rfl rfl trivial <| congrArg iV ?_
  simp_all [nd]
 refine A3 <| A3 <| A0 <| I8 rfl rfl <| A5 rfl rfl rfl <| xN [3,10] [] rfl ?_
 refine A8 rfl ?_ ?_ <;> intro hc <;> try simp only [SL] at hc
 ·refine B5 ?_
  refine A8 rfl (fun hc => ?_) (fun hc => absurd hc (by simp_all))
  refine A3 <| A0 <| A5 rfl rfl rfl <| xN [2] [] rfl <| C0 <| D7 rfl rfl trivial <| congrArg iV ?_
  simp_all [nd]
 refine A3 <| A0 <| I8 rfl rfl <| A5 rfl rfl rfl <| xN [3,10] [] rfl ?_
 refine A8 rfl ?_ ?_ <;> intro hc <;> try simp only [SL] at hc
 ·refine B5 ?_
  refine A8 rfl (fun hc => ?_) (fun hc => absurd hc (by simp_all))
  refine A3 <| A0 <| A5 rfl rfl rfl <| xN [2] [] rfl <| C0 <| D7 rfl rfl trivial <| congrArg iV ?_
  simp_all [nd]
 refine A3 <| A0 <| I8 rfl rfl <| A5 rfl rfl rfl <| xN [3,10] [] rfl ?_
 refine A8 rfl ?_ ?_ <;> intro hc <;> try simp only [SL] at hc
 ·refine B5 ?_
  refine A8 rfl (fun hc => ?_) (fun hc => absurd hc (by simp_all))
  refine A3 <| A0 <| A5 rfl rfl rfl <| xN [2] [] rfl <| C0 <| D7 rfl rfl trivial <| congrArg iV ?_
  simp_all [nd]
 refine A3 <| A0 <| I8 rfl rfl <| A5 rfl rfl rfl <| xN [3,10] [] rfl ?_
 refine A8 rfl ?_ ?_ <;> intro hc <;> try simp only [SL] at hc
 ·refine B5 ?_
  refine A8 rfl (fun hc => ?_) (fun hc => absurd hc (by simp_all))
  refine A3 <| A0 <| A5 rfl rfl rfl <| xN [2] [] rfl <| C0 <| D7 rfl rfl trivial <| congrArg iV ?_
  simp_all [nd]
 refine A3 <| A0 <| I8 rfl rfl <| A5 rfl rfl rfl <| xN [3,10] [] rfl ?_
 refine A8 rfl ?_ ?_ <;> intro hc <;> try simp only [SL] at hc
 ·refine B5 ?_
  refine A8 rfl (fun hc => ?_) (fun hc => absurd hc (by simp_all))
  refine A3 <| A0 <| A5 rfl rfl rfl <| xN [2] [] rfl <| C0 <| D7 rfl rfl trivial <| congrArg iV ?_
  simp_all [nd]
 refine A3 <| A0 <| I8 rfl rfl <| A5 rfl rfl rfl <| xN [3,10] [] rfl ?_
 refine A8 rfl ?_ ?_ <;> intro hc <;> try simp only [SL] at hc
 ·refine B5 ?_
  refine A8 rfl (fun hc => ?_) (fun hc => absurd hc (by simp_all))
  refine A3 <| A0 <| A5 rfl rfl rfl <| xN [2] [] rfl <| C0 <| D7 rfl rfl trivial <| congrArg iV ?_
  simp_all [nd]
 refine A3 <| A0 <| I8 rfl rfl <| A5 rfl rfl rfl <| xN [3,10] [] rfl ?_
 refine A8 rfl ?_ ?_ <;> intro hc <;> try simp only [SL] at hc
 ·refine B5 ?_
  refine A8 rfl (fun hc => ?_) (fun hc => absurd hc (by simp_all))
  refine A3 <| A0 <| A5 rfl rfl rfl <| xN [2] [] rfl <| C0 <| D7 rfl rfl trivial <| congrArg iV ?_
  simp_all [nd]
 refine A0 <| I8 rfl rfl <| A5 rfl rfl rfl <| xN [3,10] [] rfl ?_
 refine A8 rfl ?_ ?_ <;> intro hc <;> try simp only [SL] at hc
 ·refine A3 <| A0 <| A5 rfl rfl rfl <| xN [2] [] rfl <| C0 <| D7 rfl rfl trivial <| congrArg iV ?_
  simp_all [nd]
 refine A3 <| A3 <| A0 <| I8 rfl rfl <| A5 rfl rfl rfl <| xN [3,19] [] rfl ?_
 refine A8 rfl ?_ ?_ <;> intro hc <;> try simp only [SL] at hc
 ·refine B5 ?_
  refine A8 rfl (fun hc => ?_) (fun hc => absurd hc (by simp_all))
  refine A3 <| A0 <| A5 rfl rfl rfl <| xN [2] [] rfl <| C0 <| D7 rfl rfl trivial <| congrArg iV ?_
  simp_all [nd]
 refine A0 <| I8 rfl rfl <| A5 rfl rfl rfl <| xN [19] [] rfl ?_
 refine A8 rfl ?_ ?_ <;> intro hc <;> try simp only [SL] at hc
 ·refine A3 <| A0 <| A5 rfl rfl rfl <| xN [2] [] rfl <| C0 <| D7 rfl rfl trivial <| congrArg iV ?_
  simp_all [nd]
 refine B5 <| A3 <| A0 <| A5 rfl rfl rfl <| xN [2] [] rfl <| C0 <| D7 rfl rfl trivial <| congrArg iV ?_
 simp_all [nd]

theorem keep_s_reachOf : G8 Tryz.f86 = [0, 2, 3, 4, 13, 16] := by kernel_rfl
set_option maxHeartbeats 20000000 in
theorem c5a (w : ByteArray) : CW (cxT oG) 86 [sV w] = some (iV (rch w), []) := by
 refine G3 rfl Tryz.func86 rfl ⟨by kernel_rfl, rfl, dT rfl, dT rfl, by decide⟩ keep_s_reachOf <| A3 <| A0 <| A5 rfl rfl rfl <| xN [0] [] rfl <| A3 <| A3 <| A0 <| A4 rfl rfl <| xN [3] [] rfl <| C1 <| A3 <| A3 <| A0 <| I8 rfl rfl <| A5 rfl rfl rfl <| xN [3,4] [] rfl ?_
 refine A8 rfl ?_ ?_ <;> intro hc <;> try simp only [SL] at hc
 ·refine B5 ?_
  refine A8 rfl (fun hc => ?_) (fun hc => absurd hc (by simp_all))
  refine A3 <| A0 <| A5 rfl rfl rfl <| xN [2] [] rfl <| C0 <| D7 rfl rfl trivial <| congrArg iV ?_
  simp_all [rch]
 refine A3 <| A0 <| I8 rfl rfl <| A5 rfl rfl rfl <| xN [3,4] [] rfl ?_
 refine A8 rfl ?_ ?_ <;> intro hc <;> try simp only [SL] at hc
 ·refine B5 ?_
  refine A8 rfl (fun hc => ?_) (fun hc => absurd hc (by simp_all))
  refine A3 <| A0 <| A5 rfl rfl rfl <| xN [2] [] rfl <| C0 <| D7 rfl rfl trivial <| congrArg iV ?_
  simp_all [rch]
 refine A3 <| A0 <| I8 rfl rfl <| A5 rfl rfl rfl <| xN [3,4] [] rfl ?_
 refine A8 rfl ?_ ?_ <;> intro hc <;> try simp only [SL] at hc
 ·refine B5 ?_
  refine A8 rfl (fun hc => ?_) (fun hc => absurd hc (by simp_all))
  refine A3 <| A0 <| A5 rfl rfl rfl <| xN [2] [] rfl <| C0 <| D7 rfl rfl trivial <| congrArg iV ?_
  simp_all [rch]
 refine A3 <| A0 <| I8 rfl rfl <| A5 rfl rfl rfl <| xN [3,4] [] rfl ?_
 refine A8 rfl ?_ ?_ <;> intro hc <;> try simp only [SL] at hc
 ·refine B5 ?_
  refine A8 rfl (fun hc => ?_) (fun hc => absurd hc (by simp_all))
  refine A3 <| A0 <| A5 rfl rfl rfl <| xN [2] [] rfl <| C0 <| D7 rfl rfl trivial <| congrArg iV ?_
  simp_all [rch]
 refine A3 <| A0 <| I8 rfl rfl <| A5 rfl rfl rfl <| xN [3,4] [] rfl ?_
 refine A8 rfl ?_ ?_ <;> intro hc <;> try simp only [SL] at hc
 ·refine B5 ?_
  refine A8 rfl (fun hc => ?_) (fun hc => absurd hc (by simp_all))
  refine A3 <| A0 <| A5 rfl rfl rfl <| xN [2] [] rfl <| C0 <| D7 rfl rfl trivial <| congrArg iV ?_
  simp_all [rch]
 refine A3 <| A0 <| I8 rfl rfl <| A5 rfl rfl rfl <| xN [3,4] [] rfl ?_
 refine A8 rfl ?_ ?_ <;> intro hc <;> try simp only [SL] at hc
 ·refine B5 ?_
  refine A8 rfl (fun hc => ?_) (fun hc => absurd hc (by simp_all))
  refine A3 <| A0 <| A5 rfl rfl rfl <| xN [2] [] rfl <| C0 <| D7 rfl rfl trivial <| congrArg iV ?_
  simp_all [rch]
 refine A3 <| A0 <| I8 rfl rfl <| A5 rfl rfl rfl <| xN [3,4] [] rfl ?_
 refine A8 rfl ?_ ?_ <;> intro hc <;> try simp only [SL] at hc
 ·refine B5 ?_
  refine A8 rfl (fun hc => ?_) (fun hc => absurd hc (by simp_all))
  refine A3 <| A0 <| A5 rfl rfl rfl <| xN [2] [] rfl <| C0 <| D7 rfl rfl trivial <| congrArg iV ?_
  simp_all [rch]
 refine A0 <| I8 rfl rfl <| A5 rfl rfl rfl <| xN [3,4] [] rfl ?_
 refine A8 rfl ?_ ?_ <;> intro hc <;> try simp only [SL] at hc
 ·refine A3 <| A0 <| A5 rfl rfl rfl <| xN [2] [] rfl <| C0 <| D7 rfl rfl trivial <| congrArg iV ?_
  simp_all [rch]
 refine A3 <| A3 <| A0 <| I8 rfl rfl <| A5 rfl rfl rfl <| xN [3,13] [] rfl ?_
 refine A8 rfl ?_ ?_ <;> intro hc <;> try simp only [SL] at hc
 ·refine B5 ?_
  refine A8 rfl (fun hc => ?_) (fun hc => absurd hc (by simp_all))
  refine A3 <| A0 <| A5 rfl rfl rfl <| xN [2] [] rfl <| C0 <| D7 rfl rfl trivial <| congrArg iV ?_
  simp_all [rch]
 refine A0 <| I8 rfl rfl <| A5 rfl rfl rfl <| xN [3,13] [] rfl ?_
 refine A8 rfl ?_ ?_ <;> intro hc <;> try simp only [SL] at hc
 ·refine A3 <| A0 <| A5 rfl rfl rfl <| xN [2] [] rfl <| C0 <| D7 rfl rfl trivial <| congrArg iV ?_
  simp_all [rch]
 refine A3 <| A3 <| A0 <| I8 rfl rfl <| A5 rfl rfl rfl <| xN [3,16] [] rfl ?_
 refine A8 rfl ?_ ?_ <;> intro hc <;> try simp only [SL] at hc
 ·refine B5 ?_
  refine A8 rfl (fun hc => ?_) (fun hc => absurd hc (by simp_all))
  refine A3 <| A0 <| A5 rfl rfl rfl <| xN [2] [] rfl <| C0 <| D7 rfl rfl trivial <| congrArg iV ?_
  simp_all [rch]
 refine A3 <| A0 <| I8 rfl rfl <| A5 rfl rfl rfl <| xN [3,16] [] rfl ?_
 refine A8 rfl ?_ ?_ <;> intro hc <;> try simp only [SL] at hc
 ·refine B5 ?_
  refine A8 rfl (fun hc => ?_) (fun hc => absurd hc (by simp_all))
  refine A3 <| A0 <| A5 rfl rfl rfl <| xN [2] [] rfl <| C0 <| D7 rfl rfl trivial <| congrArg iV ?_
  simp_all [rch]
 refine A3 <| A0 <| I8 rfl rfl <| A5 rfl rfl rfl <| xN [3,16] [] rfl ?_
 refine A8 rfl ?_ ?_ <;> intro hc <;> try simp only [SL] at hc
 ·refine B5 ?_
  refine A8 rfl (fun hc => ?_) (fun hc => absurd hc (by simp_all))
  refine A3 <| A0 <| A5 rfl rfl rfl <| xN [2] [] rfl <| C0 <| D7 rfl rfl trivial <| congrArg iV ?_
  simp_all [rch]
 refine A0 <| I8 rfl rfl <| A5 rfl rfl rfl <| xN [16] [] rfl ?_
 refine A8 rfl ?_ ?_ <;> intro hc <;> try simp only [SL] at hc
 ·refine A3 <| A0 <| A5 rfl rfl rfl <| xN [2] [] rfl <| C0 <| D7 rfl rfl trivial <| congrArg iV ?_
  simp_all [rch]
 refine B5 <| A3 <| A0 <| A5 rfl rfl rfl <| xN [2] [] rfl <| C0 <| D7 rfl rfl trivial <| congrArg iV ?_
 simp_all [rch]

theorem keep_s_number : G8 Tryz.f148 = [0, 2, 4, 10] := by kernel_rfl
set_option maxHeartbeats 20000000 in
theorem a3i (n : Int) (hn : -1000000 ≤ n ∧ n ≤ 1000000) : CW (cxT oG) 148 [iV n] = some (tV (dec n), []) := by
 obtain ⟨kk, hkk⟩ : ∃ kk : Nat, 2 * n.natAbs + (if n < 0 then 1 else 0) < kk := ⟨_, Nat.lt_succ_self _⟩
 revert n
 induction kk with
 | zero => intro n hn hkk; exact absurd hkk (Nat.not_lt_zero _)
 | succ kk ih =>
  intro n hn hkk
  refine G3 rfl Tryz.func148 rfl ⟨by kernel_rfl, rfl, dT rfl, dT rfl, by decide⟩ keep_s_number <| A3 <| A0 <| A5 rfl rfl rfl <| xN [0] [] rfl <| A3 <| A3 <| A0 <| A4 rfl rfl <| H2 rfl rfl <| xN [0,4] [] rfl ?_
  refine A8 rfl ?_ ?_ <;> intro hc <;> try simp only [SL] at hc
  ·refine A3 <| A0 <| A4 rfl rfl <| b4o rfl (F3 (by omega)) ?_
   have hdl := U0 (m := -n) (by omega)
   apply xC rfl
   ·apply B3
    ·exact B7 rfl
    exact D3
   ·exact ih (-n) (by omega) (by split at hkk <;> split <;> omega)
   refine ⟨⟨rfl, rfl, rfl, dT rfl, rfl⟩, .inl rfl, B8, D5 rfl, fun _ => rfl, fun g7 => ?_⟩
   refine a0l rfl rfl (by simp only [H6, List.length_append, List.length_cons, List.length_nil]; omega) <| A5 rfl rfl rfl <| xN [2] [] rfl <| C0 <| D7 rfl rfl trivial ?_
   exact congrArg tV (d1b (by assumption)).symm
  refine B5 <| A3 <| A3 <| A0 <| A4 rfl rfl <| H2 rfl rfl <| xN [0,10] [] rfl ?_
  refine A8 rfl ?_ ?_ <;> intro hc <;> try simp only [SL] at hc
  ·refine A3 <| A0 <| A4 rfl rfl <| A4 rfl rfl <| H0 rfl rfl (F3 (by omega)) <| a3k rfl rfl (a4i rfl (by omega)) (a4i rfl (by omega)) (by (simp; omega)) <| A5 rfl rfl rfl <| xN [2] [] rfl <| C0 <| D7 rfl rfl trivial ?_
   rw [c9s (by omega)]
  refine B5 <| A3 <| A0 <| A4 rfl rfl ?_
  have hd10 : n.tdiv 10 = n / 10 := Int.tdiv_eq_ediv_of_nonneg (by omega)
  refine d2y rfl rfl ⟨by omega, F3 (by omega)⟩ ?_
  have hd10 : n.tdiv 10 = n / 10 := Int.tdiv_eq_ediv_of_nonneg (by omega)
  have hdl0 := U0 (m := n.tdiv 10) (by omega)
  apply xC rfl
  ·apply B3
   ·exact B7 rfl
   exact D3
  ·exact ih (n.tdiv 10) (by omega) (by split at hkk <;> split <;> omega)
  refine ⟨⟨rfl, rfl, rfl, dT rfl, rfl⟩, .inl rfl, B8, D5 rfl, fun _ => rfl, fun g17 => ?_⟩
  refine A4 rfl rfl <| d3d rfl rfl (by omega) ?_
  have hm10 : n.tmod 10 = n % 10 := Int.tmod_eq_emod_of_nonneg (by omega)
  have hdl1 := U0 (m := n.tmod 10) (by omega)
  apply xC rfl
  ·apply B3
   ·exact B7 rfl
   exact D3
  ·exact ih (n.tmod 10) (by omega) (by split at hkk <;> split <;> omega)
  refine ⟨⟨rfl, rfl, rfl, dT rfl, rfl⟩, .inl rfl, B8, D5 rfl, fun _ => rfl, fun g20 => ?_⟩
  refine a0l rfl rfl (by simp only [H6, List.length_append, List.length_cons, List.length_nil]; omega) <| A5 rfl rfl rfl <| xN [2] [] rfl <| C0 <| D7 rfl rfl trivial ?_
  rw [← d2j (by omega)]

theorem keep_s_listText : G8 Tryz.f124 = [0, 2, 4, 8, 12, 3] := by kernel_rfl
set_option maxHeartbeats 20000000 in
theorem c2l (ns : List Int) (hl : ns.length ≤ 1000000) (hnb : ∀ n ∈ ns, -1000000 ≤ n ∧ n ≤ 1000000) : CW (cxT oG) 124 [L ns] = some (tV (O9 ns), []) := by
 have hg := fun (i : Nat) (h : i < ns.length) => hnb _ (a6d h)
 refine G3 rfl Tryz.func124 rfl ⟨by kernel_rfl, rfl, dT rfl, dT rfl, by decide⟩ keep_s_listText <| A3 <| A0 <| A5 rfl rfl rfl <| xN [0] [] rfl <| A3 <| A0 <| A5 rfl rfl rfl <| xN [0,3] [] rfl <| A3 <| A3 <| A0 <| A5 rfl rfl rfl <| xN [0,3,4] [] rfl <| C1 <| H4 (β := Nat) [(.t 0, _)] (fun (i : Nat) => [(.t 4, iV i), (.t 3, tV (O9 (ns.take i)))]) (fun (i : Nat) => i ≤ ns.length) (fun (i : Nat) => ns.length - i) 0 ⟨rfl, rfl, rfl, trivial⟩ (Nat.zero_le _) ?_
 intro i hb
 have hi1 := hb
 have hll := a0e (ns := ns.take i) (fun n hn => hnb n (List.mem_of_mem_take hn))
 rw [List.length_take] at hll
 refine A3 <| A3 <| A0 <| A4 rfl rfl <| A4 rfl rfl <| D6 rfl rfl <| H2 rfl rfl <| xN [0,3,4,8] [] rfl ?_
 refine A8 rfl ?_ ?_ <;> intro hc <;> try simp only [SL] at hc
 ·refine B5 <| A3 <| C1 <| A3 <| A3 <| A0 <| A4 rfl rfl <| P1 rfl rfl <| xN [0,3,4,12] [] rfl ?_
  refine A8 rfl ?_ ?_ <;> intro hc <;> try simp only [SL] at hc
  ·have hi0 : 0 < i := by omega
   refine A0 <| A4 rfl rfl <| a0l rfl rfl (by simp only [H6, List.length_append, List.length_cons, List.length_nil]; omega) <| A5 rfl rfl rfl <| xN [0,3,4] [] rfl <| A0 <| A4 rfl rfl <| A4 rfl rfl <| A4 rfl rfl <| C7 rfl rfl rfl (fun _ => rfl) (by omega) <| C6 rfl rfl rfl ?_
   have hgi := hg i (by omega)
   have hdl := U0 hgi
   apply xC rfl
   ·apply B3
    ·exact B7 rfl
    exact D3
   ·exact a3i (ns.getD i default) hgi
   refine ⟨⟨rfl, rfl, rfl, dT rfl, rfl⟩, .inl rfl, B8, D5 rfl, fun _ => rfl, fun g20 => ?_⟩
   refine a0l rfl rfl (by simp only [H6, List.length_append, List.length_cons, List.length_nil]; omega) <| A5 rfl rfl rfl <| xN [0,3,4] [] rfl <| A0 <| A4 rfl rfl <| H0 rfl rfl (F3 (by omega)) <| A5 rfl rfl rfl <| xN [0,3,4] [] rfl ?_
   rw [← b7o (by omega) hi0]
   refine ⟨i + 1, ?_, (by omega), ⟨rfl, rfl, rfl, trivial⟩⟩
   omega
  have hi0 : i = 0 := by omega
  refine B5 <| A0 <| A4 rfl rfl <| A4 rfl rfl <| A4 rfl rfl <| C7 rfl rfl rfl (fun _ => rfl) (by omega) <| C6 rfl rfl rfl ?_
  have hgi := hg i (by omega)
  have hdl := U0 hgi
  apply xC rfl
  ·apply B3
   ·exact B7 rfl
   exact D3
  ·exact a3i (ns.getD i default) hgi
  refine ⟨⟨rfl, rfl, rfl, dT rfl, rfl⟩, .inl rfl, B8, D5 rfl, fun _ => rfl, fun g20 => ?_⟩
  refine a0l rfl rfl (by simp only [H6, List.length_append, List.length_cons, List.length_nil]; omega) <| A5 rfl rfl rfl <| xN [0,3,4] [] rfl <| A0 <| A4 rfl rfl <| H0 rfl rfl (F3 (by omega)) <| A5 rfl rfl rfl <| xN [0,3,4] [] rfl ?_
  rw [← b9p (by omega) hi0]
  refine ⟨i + 1, ?_, (by omega), ⟨rfl, rfl, rfl, trivial⟩⟩
  omega
 refine G4 <| A3 <| A0 <| A4 rfl rfl <| A5 rfl rfl rfl <| xN [2] [] rfl <| C0 <| D7 rfl rfl trivial ?_
 rw [List.take_of_length_le (by omega)]

theorem keep_s_splitAt : G8 Tryz.f101 = [0, 1, 4, 7, 12, 19, 6, 5] := by kernel_rfl
set_option maxHeartbeats 20000000 in
theorem b4a (s : List UInt8) (hs : s.length ≤ 1048576) (c : UInt8) : CW (cxT oG) 101 [tV s, uV c.toNat] = some (.own 1 ((splitB c s).map tV), []) := by
 refine G3 rfl Tryz.func101 rfl ⟨by kernel_rfl, rfl, dT rfl, dT rfl, by decide⟩ keep_s_splitAt <| A3 <| A0 ?_
 (refine B9 rfl rfl (fun _ => rfl) ?_; intro g4)
 refine xN [0,1] [] rfl <| A3 <| A0 <| D4 (es := List.map tV []) rfl rfl (dT rfl) rfl rfl (fun _ => A9 (A7 fun _ => rfl)) (fun _ => rfl) ?_
 intro g8
 (refine B0 rfl rfl (by (simp; done)) rfl (fun _ => (A9 (by exact A7 fun _ => rfl))) (fun _ => rfl) ?_; intro g5)
 refine xN [0,1,5] [5] rfl <| A3 <| A0 <| A5 rfl rfl rfl <| xN [0,1,5,6] [5] rfl <| A3 <| A3 <| A0 <| A5 rfl rfl rfl <| xN [0,1,5,6,7] [5] rfl <| C1 <| H4 (β := Nat × Nat × List (List UInt8) × Nat) [(.t 0, _), (.t 1, _)] (fun (z : Nat × Nat × List (List UInt8) × Nat) => match z with | (i, fr, out, g) => [(.t 7, iV i), (.t 6, iV fr), (.t 5, .sl 5 g none 0 out.length), (.h 5, .obj g 0 1 (out.map tV))]) (fun (z : Nat × Nat × List (List UInt8) × Nat) => match z with | (i, fr, out, g) => i ≤ s.length ∧ fr ≤ i ∧ out.length ≤ i ∧ splitB c s = out ++ U5 ((s.drop fr).take (i - fr)) (splitB c (s.drop i))) (fun (z : Nat × Nat × List (List UInt8) × Nat) => match z with | (i, fr, out, g) => s.length - i) (0, 0, [], _) ⟨rfl, rfl, rfl, rfl, rfl, rfl, trivial⟩ ⟨Nat.zero_le _, Nat.le_refl _, Nat.le_refl _, by simp [b4i]⟩ ?_
 intro z hb
 obtain ⟨i, fr, out, g⟩ := z
 try dsimp only at hb
 obtain ⟨hi1, hfr, hol, hsp⟩ := hb
 refine A3 <| A3 <| A0 <| A4 rfl rfl <| A4 rfl rfl <| a3v rfl rfl <| H2 rfl rfl <| xN [0,1,5,6,7,12] [5] rfl ?_
 refine A8 rfl ?_ ?_ <;> intro hc <;> try simp only [SL] at hc
 ·refine B5 <| A3 <| C1 <| A3 <| A0 <| A4 rfl rfl <| A4 rfl rfl <| P2 rfl rfl rfl (by omega) <| A4 rfl rfl <| Y3 rfl rfl <| xN [0,1,5,6,7,19] [5] rfl ?_
  refine A8 rfl ?_ ?_ <;> intro hc <;> try simp only [SL] at hc
  ·have hcb : s.getD i 0 = c := UInt8.toNat_inj.1 (by omega)
   refine A3 <| A0 ?_
   iterate 4 refine A4 rfl rfl ?_
   refine a3k rfl rfl (I0 rfl) (I0 rfl) (by omega) <| D4 (es := List.map tV [_]) rfl rfl (dT rfl) rfl rfl (fun _ => A9 (A7 fun _ => rfl)) (fun _ => rfl) ?_
   intro g25
   refine F7 rfl rfl rfl rfl (by (simp; done)) (by simp) (by decide) rfl rfl rfl rfl (dT rfl) (fun _ => ⟨rfl, rfl⟩) (by simp only [H6]; (simp only [List.length_nil, List.length_cons, List.length_append, Nat.zero_add, List.length_map]; omega)) (fun _ => rfl) ?_
   intro g26
   (refine B0 rfl rfl (by (simp; done)) rfl (fun _ => (A9 (by exact A7 fun _ => rfl))) (fun _ => rfl) ?_; intro g5)
   refine xN [0,1,5,7] [5] rfl <| A0 <| A4 rfl rfl <| H0 rfl rfl (F3 (by omega)) <| A5 rfl rfl rfl <| xN [0,1,5,6,7] [5] rfl <| A0 <| A4 rfl rfl <| H0 rfl rfl (F3 (by omega)) <| A5 rfl rfl rfl <| xN [0,1,5,6,7] [5] rfl ?_
   refine ⟨(i + 1, i + 1, out ++ [(s.drop fr).take (i - fr)], _), ?_, (by simp only; omega), ⟨rfl, rfl, rfl, rfl, rfl, rfl, trivial⟩⟩
   have hst := b2j (by omega) hfr hsp
   exact ⟨by omega, by omega, by simp; omega, hst.1 hcb⟩
  have hcb : s.getD i 0 ≠ c := fun e => hc (by rw [e])
  refine B5 <| A0 <| A4 rfl rfl <| H0 rfl rfl (F3 (by omega)) <| A5 rfl rfl rfl <| xN [0,1,5,6,7] [5] rfl ?_
  refine ⟨(i + 1, fr, out, _), ?_, (by simp only; omega), ⟨rfl, rfl, rfl, rfl, rfl, rfl, trivial⟩⟩
  have hst := b2j (by omega) hfr hsp
  exact ⟨by omega, by omega, by omega, hst.2 hcb⟩
 refine G4 <| A3 <| A0 <| A4 rfl rfl <| A4 rfl rfl <| A4 rfl rfl <| a3k rfl rfl L2 (I0 rfl) (by omega) <| D4 (es := List.map tV [_]) rfl rfl (dT rfl) rfl rfl (fun _ => A9 (A7 fun _ => rfl)) (fun _ => rfl) ?_
 intro g33
 refine F7 rfl rfl rfl rfl (by (simp; done)) (by simp) (by decide) rfl rfl rfl rfl (dT rfl) (fun _ => ⟨rfl, rfl⟩) (by simp only [H6]; (simp only [List.length_nil, List.length_cons, List.length_append, Nat.zero_add, List.length_map]; omega)) (fun _ => rfl) ?_
 intro g34
 (refine B0 rfl rfl (by (simp; done)) rfl (fun _ => (A9 (by exact A7 fun _ => rfl))) (fun _ => rfl) ?_; intro g4)
 refine xN [4] [4] rfl <| C0 <| Q6 rfl rfl (by simp) (by exact A7 fun _ => rfl) trivial ?_
 have hil : i = s.length := by omega
 rw [hsp, hil, List.drop_length, splitB, U5, List.append_nil]

theorem keep_s_readList : G8 Tryz.f125 = [0, 2, 3, 5, 6, 17, 7, 8, 31, 10, 37, 9, 53, 62, 75, 4] := by kernel_rfl
set_option maxHeartbeats 20000000 in
theorem c1y (s : List UInt8) (hs : s.length ≤ 1048576) : CW (cxT oG) 125 [tV s] = some (.tup [.own 1 (((rdL s).getD []).map iV), bV (rdL s).isSome], []) := by
 obtain ⟨ps, hps⟩ : ∃ ps, ps = splitB 44 s := ⟨_, rfl⟩
 have hpl := T6 44 s
 rw [← hps] at hpl
 have hpp := Y2 44 s
 rw [← hps] at hpp
 refine G3 rfl Tryz.func125 rfl ⟨by kernel_rfl, rfl, dT rfl, dT rfl, by decide⟩ keep_s_readList <| A3 <| A0 ?_
 (refine B9 rfl rfl (fun _ => rfl) ?_; intro g2)
 refine A5 rfl rfl rfl <| xN [0] [] rfl <| A3 <| A0 <| D4 (es := List.map iV []) rfl rfl (dT rfl) rfl rfl (fun _ => A9 (A7 fun _ => rfl)) (fun _ => rfl) ?_
 intro g11
 (refine B0 rfl rfl (by (simp; done)) rfl (fun _ => (A9 (by exact A7 fun _ => rfl))) (fun _ => rfl) ?_; intro g4)
 refine xN [0,4] [4] rfl <| A3 <| A0 <| A4 rfl rfl ?_
 apply xC rfl
 ·apply B3
  ·exact B7 rfl
  apply B3
  ·exact B7 rfl
  exact D3
 ·exact b4a s hs 44
 refine ⟨⟨rfl, rfl, rfl, dT rfl, rfl⟩, .inl rfl, B8, N2, fun _ => rfl, fun g13 => ?_⟩
 rw [← hps]
 try simp only [List.length_map]
 (refine B0 rfl rfl (by (simp; done)) rfl (fun _ => (A9 (by exact A7 fun _ => rfl))) (fun _ => rfl) ?_; intro g5)
 refine xN [4,5] [4,5] rfl <| A3 <| A3 <| A0 <| A5 rfl rfl rfl <| xN [4,5,6] [4,5] rfl <| C1 <| H4 (β := Nat × List Int × Nat) [(.t 5, _), (.h 5, _)] (fun (z : Nat × List Int × Nat) => match z with | (i, ns, g) => [(.t 6, iV i), (.t 4, .sl 4 g none 0 ns.length), (.h 4, .obj g 0 1 (ns.map iV))]) (fun (z : Nat × List Int × Nat) => match z with | (i, ns, g) => i ≤ ps.length ∧ a0j (ps.take i) = some ns) (fun (z : Nat × List Int × Nat) => match z with | (i, ns, g) => ps.length - i) (0, [], _) ⟨rfl, rfl, rfl, rfl, rfl, trivial⟩ ⟨Nat.zero_le _, rfl⟩ ?_
 intro z hb
 obtain ⟨i, ns, g⟩ := z
 try dsimp only at hb
 obtain ⟨hi1, hrd⟩ := hb
 have hnl := a8o hrd
 rw [List.length_take] at hnl
 have hpi := fun h : i < ps.length => hpp _ (a1k h)
 refine A3 <| A3 <| A0 <| A4 rfl rfl <| A4 rfl rfl <| N6 rfl rfl <| H2 rfl rfl <| xN [4,5,6,17] [4,5] rfl ?_
 refine A8 rfl ?_ ?_ <;> intro hc <;> try simp only [SL] at hc
 ·refine B5 <| A3 <| C1 <| A3 <| A0 <| A4 rfl rfl <| A4 rfl rfl <| F9 rfl rfl rfl rfl (by omega) (by (simp; done)) rfl <| I5 rfl rfl (by omega) (fun _ => rfl) (fun _ => rfl) rfl <| A5 rfl rfl rfl <| xN [4,5,6,7] [4,5] rfl <| A3 <| A0 <| A4 rfl rfl <| b1m rfl rfl <| A4 rfl rfl ?_
  refine E6 rfl rfl ?_ ?_ <;> intro hg0 <;> have hg := hg0 <;> try simp only [SG] at hg
  ·refine A4 rfl rfl <| gT rfl rfl ?_
   have hp0 : 0 < (ps.getD i default).length := List.length_pos_iff.2 (by assumption)
   refine P2 (n := 0) rfl rfl rfl hp0 <| gT rfl rfl <| Y3 rfl rfl <| G5 rfl (by assumption) rfl rfl <| A5 rfl rfl rfl <| xN [4,5,6,7,8] [4,5] rfl <| A3 <| A3 <| A0 <| A4 rfl rfl <| xN [4,5,6,7,8,31] [4,5] rfl ?_
   refine A8 rfl ?_ ?_ <;> intro hc <;> try simp only [SL] at hc
   ·obtain ⟨hng, hup⟩ := d2z (p := (ps.getD i default)) (by assumption) (by omega)
    have hul := b6e (ps.getD i default)
    rw [hup] at hul
    refine A0 <| A4 rfl rfl <| a3k rfl rfl L2 (I0 (n := 1) rfl) (by omega) <| A5 rfl rfl rfl <| xN [4,5,6,7,8] [4,5] rfl <| A3 <| A0 <| A5 rfl rfl rfl <| xN [4,5,6,7,8,9] [4,5] rfl <| A3 <| A3 <| A0 <| A5 rfl rfl rfl <| xN [4,5,6,7,8,9,10] [4,5] rfl <| C1 ?_
    have hup0 := hup
    refine H4 (β := Nat × Int) [(.t 4, _), (.t 5, _), (.t 6, _), (.t 7, _), (.t 8, _), (.h 4, _), (.h 5, _)] (fun (z : Nat × Int) => match z with | (k, a) => [(.t 10, iV k), (.t 9, iV a)]) (fun (z : Nat × Int) => match z with | (k, a) => k ≤ (unS (ps.getD i default)).length ∧ 0 ≤ a ∧ V1 0 ((unS (ps.getD i default)).take k) = some a.toNat) (fun (z : Nat × Int) => match z with | (k, a) => (unS (ps.getD i default)).length - k) (0, 0) ⟨rfl, rfl, rfl, rfl, rfl, rfl, rfl, rfl, rfl, trivial⟩ ⟨Nat.zero_le _, by decide, rfl⟩ ?_
    intro z hb
    obtain ⟨k, a⟩ := z
    try dsimp only at hb
    obtain ⟨hk1, ha0, hdg⟩ := hb
    have hab := b0d (by decide) hdg
    rw [hup] at hk1 hdg
    refine A3 <| A3 <| A0 <| A4 rfl rfl <| A4 rfl rfl <| a3v rfl rfl <| H2 rfl rfl <| xN [4,5,6,7,8,9,10,37] [4,5] rfl ?_
    refine A8 rfl ?_ ?_ <;> intro hc <;> try simp only [SL] at hc
    ·refine B5 <| A3 <| C1 <| A3 <| A3 <| A0 <| A4 rfl rfl <| A4 rfl rfl <| P2 rfl rfl rfl (by omega) <| H2 rfl rfl <| A4 rfl rfl ?_
     refine E6 rfl rfl ?_ ?_ <;> intro hg0 <;> have hg := hg0 <;> try simp only [SG] at hg
     ·refine A4 rfl rfl <| gT rfl rfl <| A4 rfl rfl <| gT rfl rfl <| P2 rfl rfl rfl (by omega) <| gT rfl rfl <| P1 rfl rfl <| H5 rfl (by assumption) rfl rfl <| A4 rfl rfl ?_
      refine E6 rfl rfl ?_ ?_ <;> intro hg0 <;> have hg := hg0 <;> try simp only [SG] at hg
      ·refine A4 rfl rfl <| gT rfl rfl <| P1 rfl rfl <| H5 rfl (by assumption) rfl rfl <| xN [4,5,6,7,8,9,10,53] [4,5] rfl ?_
       refine A8 rfl ?_ ?_ <;> intro hc <;> try simp only [SL] at hc
       ·refine A3 <| A0 ?_
        (refine B9 rfl rfl (fun _ => rfl) ?_; intro g2)
        refine A5 rfl rfl rfl <| xN [2,3] [2] rfl <| C0 <| C8 (G9 rfl rfl (by simp) (by rfl) (E7 rfl rfl (D9 C4))) ?_
        rw [rdL, ← hps, L6 (show i < ps.length by omega) (V2 (by rw [hup]; exact S1 (by omega) hdg (by omega)))]
        rfl
       refine B5 <| A0 <| A4 rfl rfl <| c3k rfl rfl (F3 (by omega)) <| A4 rfl rfl <| A4 rfl rfl <| P2 rfl rfl rfl (by omega) <| U4 rfl rfl (d2m (by omega)) <| b6x rfl rfl rfl (F3 (by omega)) <| H0 rfl rfl (F3 (by omega)) <| A5 rfl rfl rfl <| xN [4,5,6,7,8,9,10] [4,5] rfl <| A0 <| A4 rfl rfl <| H0 rfl rfl (F3 (by omega)) <| A5 rfl rfl rfl <| xN [4,5,6,7,8,9,10] [4,5] rfl ?_
       refine ⟨(k + 1, _), ?_, (by simp only [hup]; omega), ⟨rfl, rfl, rfl, rfl, rfl, rfl, rfl, rfl, rfl, trivial⟩⟩
       rw [hup]
       have hds := a8f (by omega) hdg (by omega)
       exact ⟨by omega, by omega, hds.trans (congrArg some (by omega))⟩
      refine gF rfl rfl <| G5 rfl (by assumption) rfl rfl <| xN [4,5,6,7,8,9,10,53] [4,5] rfl ?_
      refine A8 rfl (fun hc => ?_) (fun hc => absurd hc (by decide))
      refine A3 <| A0 ?_
      (refine B9 rfl rfl (fun _ => rfl) ?_; intro g2)
      refine A5 rfl rfl rfl <| xN [2,3] [2] rfl <| C0 <| C8 (G9 rfl rfl (by simp) (by rfl) (E7 rfl rfl (D9 C4))) ?_
      rw [rdL, ← hps, L6 (show i < ps.length by omega) (V2 (by rw [hup]; exact S1 (by omega) hdg (by omega)))]
      rfl
     refine gF rfl rfl <| gF rfl rfl <| gF rfl rfl <| G5 rfl (by assumption) rfl rfl <| A4 rfl rfl <| J8 rfl rfl rfl <| J8 rfl rfl rfl <| G5 rfl rfl rfl rfl <| xN [4,5,6,7,8,9,10,53] [4,5] rfl ?_
     refine A8 rfl (fun hc => ?_) (fun hc => absurd hc (by decide))
     refine A3 <| A0 ?_
     (refine B9 rfl rfl (fun _ => rfl) ?_; intro g2)
     refine A5 rfl rfl rfl <| xN [2,3] [2] rfl <| C0 <| C8 (G9 rfl rfl (by simp) (by rfl) (E7 rfl rfl (D9 C4))) ?_
     rw [rdL, ← hps, L6 (show i < ps.length by omega) (V2 (by rw [hup]; exact S1 (by omega) hdg (by omega)))]
     rfl
    have hdU : V1 0 (unS (ps.getD i default)) = some a.toNat := by rw [hup]; rw [List.take_of_length_le (by omega)] at hdg; exact hdg
    refine G4 <| A3 <| A3 <| A0 <| A4 rfl rfl <| xN [4,5,6,7,9,62] [4,5] rfl ?_
    refine A8 rfl (fun hc => ?_) (fun hc => absurd hc (by simp_all))
    refine A0 <| A4 rfl rfl <| b4o rfl (F3 (by omega)) <| A5 rfl rfl rfl <| xN [4,5,6,7,9] [4,5] rfl <| A3 <| A3 <| A0 <| A4 rfl rfl <| a1m rfl rfl <| A4 rfl rfl ?_
    refine E6 rfl rfl ?_ ?_ <;> intro hg0 <;> have hg := hg0 <;> try simp only [SG] at hg
    ·refine A4 rfl rfl <| gT rfl rfl ?_
     have hdl1 := U0 (m := -a) (by omega)
     have hdl2 := U0 (m := a) (by omega)
     apply xC rfl
     ·apply B3
      ·exact B7 rfl
      exact D3
     ·exact a3i (-a) (by omega)
     refine ⟨⟨rfl, rfl, rfl, dT rfl, rfl⟩, .inl rfl, B8, D5 rfl, fun _ => rfl, fun g69 => ?_⟩
     refine gT rfl rfl <| A4 rfl rfl <| gT rfl rfl <| A4 rfl rfl <| gT rfl rfl <| F9 rfl rfl rfl rfl (by omega) (by (simp; done)) rfl <| gT rfl rfl <| I5 rfl rfl (by omega) (fun _ => rfl) (fun _ => rfl) rfl <| gT rfl rfl <| b1m rfl rfl <| H5 rfl (by assumption) rfl rfl ?_
     refine L1 ⟨fun _ => ⟨by (simp only [a1t, List.nil_append, List.append_nil, List.map_cons, List.map_nil, List.cons_append]; decide +kernel), by decide +kernel⟩, [(.t 4, _), (.t 5, _), (.t 6, _), (.t 9, _), (.t 75, _), (.h 4, _), (.h 5, _)], ⟨rfl, rfl, rfl, rfl, rfl, rfl, rfl, rfl, rfl, rfl, rfl, rfl, rfl, rfl, trivial⟩, ?_⟩
     refine A8 rfl ?_ ?_ <;> intro hc <;> try simp only [SL] at hc
     ·refine A3 <| A0 ?_
      (refine B9 rfl rfl (fun _ => rfl) ?_; intro g2)
      refine A5 rfl rfl rfl <| xN [2,3] [2] rfl <| C0 <| C8 (G9 rfl rfl (by simp) (by rfl) (E7 rfl rfl (D9 C4))) ?_
      have hno : rdI (ps.getD i default) = none := by exact a7s (m := -a) hdU (by (rw [hng, if_pos rfl]; omega)) (by exact .inr (by assumption))
      rw [rdL, ← hps, L6 (show i < ps.length by omega) hno]
      rfl
     have hri := c2s (m := -a) hdU (by (rw [hng, if_pos rfl]; omega)) (by rw [hup]; assumption) (by assumption)
     refine B5 <| A0 <| A4 rfl rfl <| A4 rfl rfl <| D4 (es := List.map iV [_]) rfl rfl (dT rfl) rfl rfl (fun _ => A9 (A7 fun _ => rfl)) (fun _ => rfl) ?_
     intro g78
     refine F7 rfl rfl rfl rfl (by (simp; done)) (by simp) (by decide) rfl rfl rfl rfl (dT rfl) (fun _ => ⟨rfl, rfl⟩) (by simp only [H6]; (simp only [List.length_nil, List.length_cons, List.length_append, Nat.zero_add, List.length_map]; omega)) (fun _ => rfl) ?_
     intro g79
     (refine B0 rfl rfl (by (simp; done)) rfl (fun _ => (A9 (by exact A7 fun _ => rfl))) (fun _ => rfl) ?_; intro g4)
     refine xN [4,5,6] [4,5] rfl <| A0 <| A4 rfl rfl <| H0 rfl rfl (F3 (by omega)) <| A5 rfl rfl rfl <| xN [4,5,6] [4,5] rfl ?_
     refine ⟨(i + 1, ns ++ [-a], _), ?_, (by simp only; omega), ⟨rfl, rfl, rfl, rfl, rfl, trivial⟩⟩
     exact ⟨by omega, a7j (by omega) hrd hri⟩
    iterate 6 refine gF rfl rfl ?_
    refine G5 rfl (by assumption) rfl rfl ?_
    refine L1 ⟨fun _ => ⟨by decide +kernel, by decide +kernel⟩, [(.t 4, _), (.t 5, _), (.t 6, _), (.t 9, _), (.t 75, _), (.h 4, _), (.h 5, _)], ⟨rfl, rfl, rfl, rfl, rfl, rfl, rfl, rfl, rfl, rfl, rfl, rfl, rfl, rfl, trivial⟩, ?_⟩
    refine A8 rfl (fun hc => ?_) (fun hc => absurd hc (by decide))
    refine A3 <| A0 ?_
    (refine B9 rfl rfl (fun _ => rfl) ?_; intro g2)
    refine A5 rfl rfl rfl <| xN [2,3] [2] rfl <| C0 <| C8 (G9 rfl rfl (by simp) (by rfl) (E7 rfl rfl (D9 C4))) ?_
    have hno : rdI (ps.getD i default) = none := by exact a7s (m := -a) hdU (by (rw [hng, if_pos rfl]; omega)) (by exact .inl (by rw [hup]; assumption))
    rw [rdL, ← hps, L6 (show i < ps.length by omega) hno]
    rfl
   obtain ⟨hng, hup⟩ := d1i (p := (ps.getD i default)) (by exact .inr (by omega))
   have hul := b6e (ps.getD i default)
   rw [hup] at hul
   refine B5 <| A3 <| A0 <| A5 rfl rfl rfl <| xN [4,5,6,7,8,9] [4,5] rfl <| A3 <| A3 <| A0 <| A5 rfl rfl rfl <| xN [4,5,6,7,8,9,10] [4,5] rfl <| C1 ?_
   have hup0 := hup
   refine H4 (β := Nat × Int) [(.t 4, _), (.t 5, _), (.t 6, _), (.t 7, _), (.t 8, _), (.h 4, _), (.h 5, _)] (fun (z : Nat × Int) => match z with | (k, a) => [(.t 10, iV k), (.t 9, iV a)]) (fun (z : Nat × Int) => match z with | (k, a) => k ≤ (unS (ps.getD i default)).length ∧ 0 ≤ a ∧ V1 0 ((unS (ps.getD i default)).take k) = some a.toNat) (fun (z : Nat × Int) => match z with | (k, a) => (unS (ps.getD i default)).length - k) (0, 0) ⟨rfl, rfl, rfl, rfl, rfl, rfl, rfl, rfl, rfl, trivial⟩ ⟨Nat.zero_le _, by decide, rfl⟩ ?_
   intro z hb
   obtain ⟨k, a⟩ := z
   try dsimp only at hb
   obtain ⟨hk1, ha0, hdg⟩ := hb
   have hab := b0d (by decide) hdg
   rw [hup] at hk1 hdg
   refine A3 <| A3 <| A0 <| A4 rfl rfl <| A4 rfl rfl <| a3v rfl rfl <| H2 rfl rfl <| xN [4,5,6,7,8,9,10,37] [4,5] rfl ?_
   refine A8 rfl ?_ ?_ <;> intro hc <;> try simp only [SL] at hc
   ·refine B5 <| A3 <| C1 <| A3 <| A3 <| A0 <| A4 rfl rfl <| A4 rfl rfl <| P2 rfl rfl rfl (by omega) <| H2 rfl rfl <| A4 rfl rfl ?_
    refine E6 rfl rfl ?_ ?_ <;> intro hg0 <;> have hg := hg0 <;> try simp only [SG] at hg
    ·refine A4 rfl rfl <| gT rfl rfl <| A4 rfl rfl <| gT rfl rfl <| P2 rfl rfl rfl (by omega) <| gT rfl rfl <| P1 rfl rfl <| H5 rfl (by assumption) rfl rfl <| A4 rfl rfl ?_
     refine E6 rfl rfl ?_ ?_ <;> intro hg0 <;> have hg := hg0 <;> try simp only [SG] at hg
     ·refine A4 rfl rfl <| gT rfl rfl <| P1 rfl rfl <| H5 rfl (by assumption) rfl rfl <| xN [4,5,6,7,8,9,10,53] [4,5] rfl ?_
      refine A8 rfl ?_ ?_ <;> intro hc <;> try simp only [SL] at hc
      ·refine A3 <| A0 ?_
       (refine B9 rfl rfl (fun _ => rfl) ?_; intro g2)
       refine A5 rfl rfl rfl <| xN [2,3] [2] rfl <| C0 <| C8 (G9 rfl rfl (by simp) (by rfl) (E7 rfl rfl (D9 C4))) ?_
       rw [rdL, ← hps, L6 (show i < ps.length by omega) (V2 (by rw [hup]; exact S1 (by omega) hdg (by omega)))]
       rfl
      refine B5 <| A0 <| A4 rfl rfl <| c3k rfl rfl (F3 (by omega)) <| A4 rfl rfl <| A4 rfl rfl <| P2 rfl rfl rfl (by omega) <| U4 rfl rfl (d2m (by omega)) <| b6x rfl rfl rfl (F3 (by omega)) <| H0 rfl rfl (F3 (by omega)) <| A5 rfl rfl rfl <| xN [4,5,6,7,8,9,10] [4,5] rfl <| A0 <| A4 rfl rfl <| H0 rfl rfl (F3 (by omega)) <| A5 rfl rfl rfl <| xN [4,5,6,7,8,9,10] [4,5] rfl ?_
      refine ⟨(k + 1, _), ?_, (by simp only [hup]; omega), ⟨rfl, rfl, rfl, rfl, rfl, rfl, rfl, rfl, rfl, trivial⟩⟩
      rw [hup]
      have hds := a8f (by omega) hdg (by omega)
      exact ⟨by omega, by omega, hds.trans (congrArg some (by omega))⟩
     refine gF rfl rfl <| G5 rfl (by assumption) rfl rfl <| xN [4,5,6,7,8,9,10,53] [4,5] rfl ?_
     refine A8 rfl (fun hc => ?_) (fun hc => absurd hc (by decide))
     refine A3 <| A0 ?_
     (refine B9 rfl rfl (fun _ => rfl) ?_; intro g2)
     refine A5 rfl rfl rfl <| xN [2,3] [2] rfl <| C0 <| C8 (G9 rfl rfl (by simp) (by rfl) (E7 rfl rfl (D9 C4))) ?_
     rw [rdL, ← hps, L6 (show i < ps.length by omega) (V2 (by rw [hup]; exact S1 (by omega) hdg (by omega)))]
     rfl
    refine gF rfl rfl <| gF rfl rfl <| gF rfl rfl <| G5 rfl (by assumption) rfl rfl <| A4 rfl rfl <| J8 rfl rfl rfl <| J8 rfl rfl rfl <| G5 rfl rfl rfl rfl <| xN [4,5,6,7,8,9,10,53] [4,5] rfl ?_
    refine A8 rfl (fun hc => ?_) (fun hc => absurd hc (by decide))
    refine A3 <| A0 ?_
    (refine B9 rfl rfl (fun _ => rfl) ?_; intro g2)
    refine A5 rfl rfl rfl <| xN [2,3] [2] rfl <| C0 <| C8 (G9 rfl rfl (by simp) (by rfl) (E7 rfl rfl (D9 C4))) ?_
    rw [rdL, ← hps, L6 (show i < ps.length by omega) (V2 (by rw [hup]; exact S1 (by omega) hdg (by omega)))]
    rfl
   have hdU : V1 0 (unS (ps.getD i default)) = some a.toNat := by rw [hup]; rw [List.take_of_length_le (by omega)] at hdg; exact hdg
   refine G4 <| A3 <| A3 <| A0 <| A4 rfl rfl <| xN [4,5,6,7,9,62] [4,5] rfl ?_
   refine A8 rfl (fun hc => absurd hc (by simp_all)) (fun hc => ?_)
   refine B5 <| A3 <| A3 <| A0 <| A4 rfl rfl <| a1m rfl rfl <| A4 rfl rfl ?_
   refine E6 rfl rfl ?_ ?_ <;> intro hg0 <;> have hg := hg0 <;> try simp only [SG] at hg
   ·refine A4 rfl rfl <| gT rfl rfl ?_
    have hdl1 := U0 (m := -a) (by omega)
    have hdl2 := U0 (m := a) (by omega)
    apply xC rfl
    ·apply B3
     ·exact B7 rfl
     exact D3
    ·exact a3i a (by omega)
    refine ⟨⟨rfl, rfl, rfl, dT rfl, rfl⟩, .inl rfl, B8, D5 rfl, fun _ => rfl, fun g69 => ?_⟩
    refine gT rfl rfl <| A4 rfl rfl <| gT rfl rfl <| A4 rfl rfl <| gT rfl rfl <| F9 rfl rfl rfl rfl (by omega) (by (simp; done)) rfl <| gT rfl rfl <| I5 rfl rfl (by omega) (fun _ => rfl) (fun _ => rfl) rfl <| gT rfl rfl <| b1m rfl rfl <| H5 rfl (by assumption) rfl rfl ?_
    refine L1 ⟨fun _ => ⟨by (simp only [a1t, List.nil_append, List.append_nil, List.map_cons, List.map_nil, List.cons_append]; decide +kernel), by decide +kernel⟩, [(.t 4, _), (.t 5, _), (.t 6, _), (.t 9, _), (.t 75, _), (.h 4, _), (.h 5, _)], ⟨rfl, rfl, rfl, rfl, rfl, rfl, rfl, rfl, rfl, rfl, rfl, rfl, rfl, rfl, trivial⟩, ?_⟩
    refine A8 rfl ?_ ?_ <;> intro hc <;> try simp only [SL] at hc
    ·refine A3 <| A0 ?_
     (refine B9 rfl rfl (fun _ => rfl) ?_; intro g2)
     refine A5 rfl rfl rfl <| xN [2,3] [2] rfl <| C0 <| C8 (G9 rfl rfl (by simp) (by rfl) (E7 rfl rfl (D9 C4))) ?_
     have hno : rdI (ps.getD i default) = none := by exact a7s (m := a) hdU (by (rw [hng, if_neg (by decide)]; omega)) (by exact .inr (by assumption))
     rw [rdL, ← hps, L6 (show i < ps.length by omega) hno]
     rfl
    have hri := c2s (m := a) hdU (by (rw [hng, if_neg (by decide)]; omega)) (by rw [hup]; assumption) (by assumption)
    refine B5 <| A0 <| A4 rfl rfl <| A4 rfl rfl <| D4 (es := List.map iV [_]) rfl rfl (dT rfl) rfl rfl (fun _ => A9 (A7 fun _ => rfl)) (fun _ => rfl) ?_
    intro g78
    refine F7 rfl rfl rfl rfl (by (simp; done)) (by simp) (by decide) rfl rfl rfl rfl (dT rfl) (fun _ => ⟨rfl, rfl⟩) (by simp only [H6]; (simp only [List.length_nil, List.length_cons, List.length_append, Nat.zero_add, List.length_map]; omega)) (fun _ => rfl) ?_
    intro g79
    (refine B0 rfl rfl (by (simp; done)) rfl (fun _ => (A9 (by exact A7 fun _ => rfl))) (fun _ => rfl) ?_; intro g4)
    refine xN [4,5,6] [4,5] rfl <| A0 <| A4 rfl rfl <| H0 rfl rfl (F3 (by omega)) <| A5 rfl rfl rfl <| xN [4,5,6] [4,5] rfl ?_
    refine ⟨(i + 1, ns ++ [a], _), ?_, (by simp only; omega), ⟨rfl, rfl, rfl, rfl, rfl, trivial⟩⟩
    exact ⟨by omega, a7j (by omega) hrd hri⟩
   iterate 6 refine gF rfl rfl ?_
   refine G5 rfl (by assumption) rfl rfl ?_
   refine L1 ⟨fun _ => ⟨by decide +kernel, by decide +kernel⟩, [(.t 4, _), (.t 5, _), (.t 6, _), (.t 9, _), (.t 75, _), (.h 4, _), (.h 5, _)], ⟨rfl, rfl, rfl, rfl, rfl, rfl, rfl, rfl, rfl, rfl, rfl, rfl, rfl, rfl, trivial⟩, ?_⟩
   refine A8 rfl (fun hc => ?_) (fun hc => absurd hc (by decide))
   refine A3 <| A0 ?_
   (refine B9 rfl rfl (fun _ => rfl) ?_; intro g2)
   refine A5 rfl rfl rfl <| xN [2,3] [2] rfl <| C0 <| C8 (G9 rfl rfl (by simp) (by rfl) (E7 rfl rfl (D9 C4))) ?_
   have hno : rdI (ps.getD i default) = none := by exact a7s (m := a) hdU (by (rw [hng, if_neg (by decide)]; omega)) (by exact .inl (by rw [hup]; assumption))
   rw [rdL, ← hps, L6 (show i < ps.length by omega) hno]
   rfl
  refine gF rfl rfl <| gF rfl rfl <| H5 rfl (by assumption) rfl rfl <| A5 rfl rfl rfl <| xN [4,5,6,7,8] [4,5] rfl <| A3 <| A3 <| A0 <| A4 rfl rfl <| xN [4,5,6,7,8,31] [4,5] rfl ?_
  refine A8 rfl (fun hc => absurd hc (by decide)) (fun hc => ?_)
  refine B5 <| A3 <| A0 <| A5 rfl rfl rfl <| xN [4,5,6,7,8,9] [4,5] rfl <| A3 <| A3 <| A0 <| A5 rfl rfl rfl <| xN [4,5,6,7,8,9,10] [4,5] rfl <| C1 ?_
  (obtain ⟨hng, hup⟩ := d1i (p := (ps.getD i default)) (.inl (by assumption)); have hul := b6e (ps.getD i default); rw [hup] at hul)
  refine H4 (β := Nat × Int) [(.t 4, _), (.t 5, _), (.t 6, _), (.t 7, _), (.t 8, _), (.h 4, _), (.h 5, _)] (fun (z : Nat × Int) => match z with | (k, a) => [(.t 10, iV k), (.t 9, iV a)]) (fun (z : Nat × Int) => match z with | (k, a) => k ≤ (unS (ps.getD i default)).length ∧ 0 ≤ a ∧ V1 0 ((unS (ps.getD i default)).take k) = some a.toNat) (fun (z : Nat × Int) => match z with | (k, a) => (unS (ps.getD i default)).length - k) (0, 0) ⟨rfl, rfl, rfl, rfl, rfl, rfl, rfl, rfl, rfl, trivial⟩ ⟨Nat.zero_le _, by decide, rfl⟩ ?_
  intro z hb
  obtain ⟨k, a⟩ := z
  try dsimp only at hb
  obtain ⟨hk1, ha0, hdg⟩ := hb
  have hab := b0d (by decide) hdg
  rw [hup] at hk1 hdg
  refine A3 <| A3 <| A0 <| A4 rfl rfl <| A4 rfl rfl <| a3v rfl rfl <| H2 rfl rfl <| xN [4,5,6,7,8,9,10,37] [4,5] rfl ?_
  refine A8 rfl ?_ ?_ <;> intro hc <;> try simp only [SL] at hc
  ·refine B5 <| A3 <| C1 <| A3 <| A3 <| A0 <| A4 rfl rfl <| A4 rfl rfl <| P2 rfl rfl rfl (by omega) <| H2 rfl rfl <| A4 rfl rfl ?_
   refine E6 rfl rfl ?_ ?_ <;> intro hg0 <;> have hg := hg0 <;> try simp only [SG] at hg
   ·refine A4 rfl rfl <| gT rfl rfl <| A4 rfl rfl <| gT rfl rfl <| P2 rfl rfl rfl (by omega) <| gT rfl rfl <| P1 rfl rfl <| H5 rfl (by assumption) rfl rfl <| A4 rfl rfl ?_
    refine E6 rfl rfl ?_ ?_ <;> intro hg0 <;> have hg := hg0 <;> try simp only [SG] at hg
    ·refine A4 rfl rfl <| gT rfl rfl <| P1 rfl rfl <| H5 rfl (by assumption) rfl rfl <| xN [4,5,6,7,8,9,10,53] [4,5] rfl ?_
     refine A8 rfl ?_ ?_ <;> intro hc <;> try simp only [SL] at hc
     ·refine A3 <| A0 ?_
      (refine B9 rfl rfl (fun _ => rfl) ?_; intro g2)
      refine A5 rfl rfl rfl <| xN [2,3] [2] rfl <| C0 <| C8 (G9 rfl rfl (by simp) (by rfl) (E7 rfl rfl (D9 C4))) ?_
      rw [rdL, ← hps, L6 (show i < ps.length by omega) (V2 (by rw [hup]; exact S1 (by omega) hdg (by omega)))]
      rfl
     refine B5 <| A0 <| A4 rfl rfl <| c3k rfl rfl (F3 (by omega)) <| A4 rfl rfl <| A4 rfl rfl <| P2 rfl rfl rfl (by omega) <| U4 rfl rfl (d2m (by omega)) <| b6x rfl rfl rfl (F3 (by omega)) <| H0 rfl rfl (F3 (by omega)) <| A5 rfl rfl rfl <| xN [4,5,6,7,8,9,10] [4,5] rfl <| A0 <| A4 rfl rfl <| H0 rfl rfl (F3 (by omega)) <| A5 rfl rfl rfl <| xN [4,5,6,7,8,9,10] [4,5] rfl ?_
     refine ⟨(k + 1, _), ?_, (by simp only [hup]; omega), ⟨rfl, rfl, rfl, rfl, rfl, rfl, rfl, rfl, rfl, trivial⟩⟩
     rw [hup]
     have hds := a8f (by omega) hdg (by omega)
     exact ⟨by omega, by omega, hds.trans (congrArg some (by omega))⟩
    refine gF rfl rfl <| G5 rfl (by assumption) rfl rfl <| xN [4,5,6,7,8,9,10,53] [4,5] rfl ?_
    refine A8 rfl (fun hc => ?_) (fun hc => absurd hc (by decide))
    refine A3 <| A0 ?_
    (refine B9 rfl rfl (fun _ => rfl) ?_; intro g2)
    refine A5 rfl rfl rfl <| xN [2,3] [2] rfl <| C0 <| C8 (G9 rfl rfl (by simp) (by rfl) (E7 rfl rfl (D9 C4))) ?_
    rw [rdL, ← hps, L6 (show i < ps.length by omega) (V2 (by rw [hup]; exact S1 (by omega) hdg (by omega)))]
    rfl
   refine gF rfl rfl <| gF rfl rfl <| gF rfl rfl <| G5 rfl (by assumption) rfl rfl <| A4 rfl rfl <| J8 rfl rfl rfl <| J8 rfl rfl rfl <| G5 rfl rfl rfl rfl <| xN [4,5,6,7,8,9,10,53] [4,5] rfl ?_
   refine A8 rfl (fun hc => ?_) (fun hc => absurd hc (by decide))
   refine A3 <| A0 ?_
   (refine B9 rfl rfl (fun _ => rfl) ?_; intro g2)
   refine A5 rfl rfl rfl <| xN [2,3] [2] rfl <| C0 <| C8 (G9 rfl rfl (by simp) (by rfl) (E7 rfl rfl (D9 C4))) ?_
   rw [rdL, ← hps, L6 (show i < ps.length by omega) (V2 (by rw [hup]; exact S1 (by omega) hdg (by omega)))]
   rfl
  have hdU : V1 0 (unS (ps.getD i default)) = some a.toNat := by rw [hup]; rw [List.take_of_length_le (by omega)] at hdg; exact hdg
  refine G4 <| A3 <| A3 <| A0 <| A4 rfl rfl <| xN [4,5,6,7,9,62] [4,5] rfl ?_
  refine A8 rfl (fun hc => absurd hc (by decide)) (fun hc => ?_)
  refine B5 <| A3 <| A3 <| A0 <| A4 rfl rfl <| a1m rfl rfl <| A4 rfl rfl ?_
  refine E6 rfl rfl ?_ ?_ <;> intro hg0 <;> have hg := hg0 <;> try simp only [SG] at hg
  ·refine A4 rfl rfl <| gT rfl rfl ?_
   have hdl1 := U0 (m := -a) (by omega)
   have hdl2 := U0 (m := a) (by omega)
   apply xC rfl
   ·apply B3
    ·exact B7 rfl
    exact D3
   ·exact a3i a (by omega)
   refine ⟨⟨rfl, rfl, rfl, dT rfl, rfl⟩, .inl rfl, B8, D5 rfl, fun _ => rfl, fun g69 => ?_⟩
   refine gT rfl rfl <| A4 rfl rfl <| gT rfl rfl <| A4 rfl rfl <| gT rfl rfl <| F9 rfl rfl rfl rfl (by omega) (by (simp; done)) rfl <| gT rfl rfl <| I5 rfl rfl (by omega) (fun _ => rfl) (fun _ => rfl) rfl <| gT rfl rfl <| b1m rfl rfl <| H5 rfl (by assumption) rfl rfl ?_
   refine L1 ⟨fun _ => ⟨by (simp only [a1t, List.nil_append, List.append_nil, List.map_cons, List.map_nil, List.cons_append]; decide +kernel), by decide +kernel⟩, [(.t 4, _), (.t 5, _), (.t 6, _), (.t 9, _), (.t 75, _), (.h 4, _), (.h 5, _)], ⟨rfl, rfl, rfl, rfl, rfl, rfl, rfl, rfl, rfl, rfl, rfl, rfl, rfl, rfl, trivial⟩, ?_⟩
   refine A8 rfl ?_ ?_ <;> intro hc <;> try simp only [SL] at hc
   ·refine A3 <| A0 ?_
    (refine B9 rfl rfl (fun _ => rfl) ?_; intro g2)
    refine A5 rfl rfl rfl <| xN [2,3] [2] rfl <| C0 <| C8 (G9 rfl rfl (by simp) (by rfl) (E7 rfl rfl (D9 C4))) ?_
    have hno : rdI (ps.getD i default) = none := by exact a7s (m := a) hdU (by (rw [hng, if_neg (by decide)]; omega)) (by exact .inl (by rw [hup]; assumption))
    rw [rdL, ← hps, L6 (show i < ps.length by omega) hno]
    rfl
   have hri := c2s (m := a) hdU (by (rw [hng, if_neg (by decide)]; omega)) (by rw [hup]; assumption) (by assumption)
   refine B5 <| A0 <| A4 rfl rfl <| A4 rfl rfl <| D4 (es := List.map iV [_]) rfl rfl (dT rfl) rfl rfl (fun _ => A9 (A7 fun _ => rfl)) (fun _ => rfl) ?_
   intro g78
   refine F7 rfl rfl rfl rfl (by (simp; done)) (by simp) (by decide) rfl rfl rfl rfl (dT rfl) (fun _ => ⟨rfl, rfl⟩) (by simp only [H6]; (simp only [List.length_nil, List.length_cons, List.length_append, Nat.zero_add, List.length_map]; omega)) (fun _ => rfl) ?_
   intro g79
   (refine B0 rfl rfl (by (simp; done)) rfl (fun _ => (A9 (by exact A7 fun _ => rfl))) (fun _ => rfl) ?_; intro g4)
   refine xN [4,5,6] [4,5] rfl <| A0 <| A4 rfl rfl <| H0 rfl rfl (F3 (by omega)) <| A5 rfl rfl rfl <| xN [4,5,6] [4,5] rfl ?_
   refine ⟨(i + 1, ns ++ [a], _), ?_, (by simp only; omega), ⟨rfl, rfl, rfl, rfl, rfl, trivial⟩⟩
   exact ⟨by omega, a7j (by omega) hrd hri⟩
  iterate 6 refine gF rfl rfl ?_
  refine G5 rfl (by assumption) rfl rfl ?_
  refine L1 ⟨fun _ => ⟨by decide +kernel, by decide +kernel⟩, [(.t 4, _), (.t 5, _), (.t 6, _), (.t 9, _), (.t 75, _), (.h 4, _), (.h 5, _)], ⟨rfl, rfl, rfl, rfl, rfl, rfl, rfl, rfl, rfl, rfl, rfl, rfl, rfl, rfl, trivial⟩, ?_⟩
  refine A8 rfl (fun hc => ?_) (fun hc => absurd hc (by decide))
  refine A3 <| A0 ?_
  (refine B9 rfl rfl (fun _ => rfl) ?_; intro g2)
  refine A5 rfl rfl rfl <| xN [2,3] [2] rfl <| C0 <| C8 (G9 rfl rfl (by simp) (by rfl) (E7 rfl rfl (D9 C4))) ?_
  have hno : rdI (ps.getD i default) = none := by exact a7s (m := a) hdU (by (rw [hng, if_neg (by decide)]; omega)) (by exact .inl (by rw [hup]; assumption))
  rw [rdL, ← hps, L6 (show i < ps.length by omega) hno]
  rfl
 refine G4 <| A3 <| A0 <| A4 rfl rfl ?_
 (refine B0 rfl rfl (by (simp; done)) rfl (fun _ => (A9 (by exact A7 fun _ => rfl))) (fun _ => rfl) ?_; intro g2)
 refine A5 rfl rfl rfl <| xN [2,3] [2] rfl <| C0 <| C8 (G9 rfl rfl (by simp) (by exact A7 fun _ => rfl) (E7 rfl rfl (D9 C4))) ?_
 have hil : i = ps.length := by omega
 rw [hil, List.take_length] at hrd
 rw [rdL, ← hps, hrd]
 rfl

theorem keep_s_readNums : G8 Tryz.f85 = [0, 2, 3, 4, 22, 24, 5, 6] := by kernel_rfl
set_option maxHeartbeats 20000000 in
theorem c1c (s : List UInt8) (hs : s.length ≤ 1048576) : CW (cxT oG) 85 [tV s] = some (.tup [.own 1 ((b9b s).map iV), bV (numsOf s).isSome], []) := by
 refine G3 rfl Tryz.func85 rfl ⟨by kernel_rfl, rfl, dT rfl, dT rfl, by decide⟩ keep_s_readNums <| A3 <| A0 ?_
 (refine B9 rfl rfl (fun _ => rfl) ?_; intro g2)
 refine A5 rfl rfl rfl <| xN [0] [] rfl <| A3 <| A0 <| A4 rfl rfl <| a3v rfl rfl <| A5 rfl rfl rfl <| xN [0,4] [] rfl <| A3 <| A3 <| A0 <| A4 rfl rfl <| H2 rfl rfl <| A4 rfl rfl ?_
 refine E6 rfl rfl ?_ ?_ <;> intro hg0 <;> have hg := hg0 <;> try simp only [SG] at hg
 ·refine A4 rfl rfl <| gT rfl rfl <| P2 (n := 0) rfl rfl rfl (by omega) <| gT rfl rfl <| c2w rfl rfl <| H5 rfl (by assumption) rfl rfl <| A4 rfl rfl ?_
  refine E6 rfl rfl ?_ ?_ <;> intro hg0 <;> have hg := hg0 <;> try simp only [SG] at hg
  ·refine A4 rfl rfl <| gT rfl rfl <| A4 rfl rfl <| gT rfl rfl <| U4 rfl rfl (F3 (by omega)) <| gT rfl rfl ?_
   rw [show ((s.length : Int) - 1) = ((s.length - 1 : Nat) : Int) by omega]
   refine P2 rfl rfl rfl (by omega) <| gT rfl rfl <| c2w rfl rfl <| H5 rfl (by assumption) rfl rfl <| xN [0,4,22] [] rfl ?_
   refine A8 rfl ?_ ?_ <;> intro hc <;> try simp only [SL] at hc
   ·refine A3 <| A0 ?_
    (refine B9 rfl rfl (fun _ => rfl) ?_; intro g2)
    refine A5 rfl rfl rfl <| xN [2,3] [2] rfl <| C0 <| C8 (G9 rfl rfl (by simp) (by rfl) (E7 rfl rfl (D9 C4))) ?_
    obtain ⟨hn1, hn2⟩ := a4w (s := s) (by exact .inr (.inr (by omega)))
    rw [hn1, hn2]
    rfl
   have hin := c4s (s := s) (by omega) (by omega) (by omega)
   refine B5 <| A3 <| A3 <| A0 <| A4 rfl rfl <| Y3 rfl rfl <| xN [0,4,24] [] rfl ?_
   refine A8 rfl ?_ ?_ <;> intro hc <;> try simp only [SL] at hc
   ·refine A3 <| A0 <| D4 (es := List.map iV []) rfl rfl (dT rfl) rfl rfl (fun _ => A9 (A7 fun _ => rfl)) (fun _ => rfl) ?_
    intro g25
    (refine B0 rfl rfl (by (simp; done)) rfl (fun _ => (A9 (by exact A7 fun _ => rfl))) (fun _ => rfl) ?_; intro g2)
    refine A5 rfl rfl rfl <| xN [2,3] [2] rfl <| C0 <| C8 (G9 rfl rfl (by simp) (by rfl) (E7 rfl rfl (D9 C4))) ?_
    obtain ⟨hn1, hn2⟩ := hin.1 (by omega)
    rw [hn1, hn2]
    rfl
   refine B5 <| A3 <| A0 <| A4 rfl rfl <| A4 rfl rfl <| U4 rfl rfl (F3 (by omega)) ?_
   rw [show ((s.length : Int) - 1) = ((s.length - 1 : Nat) : Int) by omega]
   have hrl := d1a ((s.drop 1).take (s.length - 1 - 1))
   have hin2 : ((s.drop 1).take (s.length - 1 - 1)).length ≤ s.length - 2 := by simp only [List.length_take, List.length_drop]; omega
   refine a3k rfl rfl (I0 rfl) (I0 (n := 1) rfl) (by omega) ?_
   apply xC rfl
   ·apply B3
    ·exact B7 rfl
    exact D3
   ·exact c1y ((s.drop 1).take (s.length - 1 - 1)) (by omega)
   refine ⟨⟨rfl, rfl, rfl, dT rfl, rfl⟩, .inr ⟨K0 _ _, rfl⟩, B8, I2 (M8 fun _ => I7 rfl M9), fun _ => rfl, fun g31 => ?_⟩
   simp only [List.length_map]
   refine A4 rfl rfl <| B6 rfl rfl rfl <| B6 rfl rfl rfl ?_
   (refine B0 rfl rfl (by (simp; done)) rfl (fun _ => (A9 (by exact A7 fun _ => rfl))) (fun _ => rfl) ?_; intro g5)
   refine A5 rfl rfl rfl <| xN [5,6] [5] rfl <| A3 <| A0 <| A4 rfl rfl <| A4 rfl rfl <| A4 rfl rfl ?_
   refine E6 rfl rfl ?_ ?_ <;> intro hg0 <;> have hg := hg0 <;> try simp only [SG] at hg
   ·refine A4 rfl rfl <| gT rfl rfl ?_
    apply xC rfl
    ·apply B3
     ·exact K2 rfl rfl rfl (by (simp; done)) (fun _ => rfl)
     exact D3
    ·exact a3y ((rdL ((s.drop 1).take (s.length - 1 - 1))).getD []) (by omega)
    refine ⟨⟨rfl, rfl, rfl, dT rfl, rfl⟩, .inr ⟨rfl, rfl⟩, B8, D5 rfl, fun _ => rfl, fun g38 => ?_⟩
    refine G5 rfl (by assumption) rfl rfl ?_
    (refine B0 rfl rfl (by (simp; done)) rfl (fun _ => (A9 (by exact A7 fun _ => rfl))) (fun _ => rfl) ?_; intro g2)
    refine A5 rfl rfl rfl <| xN [2,3] [2] rfl <| C0 <| C8 (G9 rfl rfl (by simp) (by exact A7 fun _ => rfl) (E7 rfl rfl (D9 C4))) ?_
    obtain ⟨hn1, hn2⟩ := hin.2 (by omega)
    rw [hn2, b0p hn1]
    simp_all
    try rfl
   refine gF rfl rfl <| H5 rfl (by assumption) rfl rfl ?_
   (refine B0 rfl rfl (by (simp; done)) rfl (fun _ => (A9 (by exact A7 fun _ => rfl))) (fun _ => rfl) ?_; intro g2)
   refine A5 rfl rfl rfl <| xN [2,3] [2] rfl <| C0 <| C8 (G9 rfl rfl (by simp) (by exact A7 fun _ => rfl) (E7 rfl rfl (D9 C4))) ?_
   obtain ⟨hn1, hn2⟩ := hin.2 (by omega)
   rw [hn2, b0p hn1]
   simp_all
   try rfl
  iterate 4 refine gF rfl rfl ?_
  refine G5 rfl (by assumption) rfl rfl <| xN [0,4,22] [] rfl ?_
  refine A8 rfl (fun hc => ?_) (fun hc => absurd hc (by decide))
  refine A3 <| A0 ?_
  (refine B9 rfl rfl (fun _ => rfl) ?_; intro g2)
  refine A5 rfl rfl rfl <| xN [2,3] [2] rfl <| C0 <| C8 (G9 rfl rfl (by simp) (by rfl) (E7 rfl rfl (D9 C4))) ?_
  obtain ⟨hn1, hn2⟩ := a4w (s := s) (by exact .inr (.inl (by omega)))
  rw [hn1, hn2]
  rfl
 refine gF rfl rfl <| gF rfl rfl <| G5 rfl (by assumption) rfl rfl <| A4 rfl rfl ?_
 iterate 5 refine J8 rfl rfl rfl ?_
 refine G5 rfl rfl rfl rfl <| xN [0,4,22] [] rfl ?_
 refine A8 rfl (fun hc => ?_) (fun hc => absurd hc (by decide))
 refine A3 <| A0 ?_
 (refine B9 rfl rfl (fun _ => rfl) ?_; intro g2)
 refine A5 rfl rfl rfl <| xN [2,3] [2] rfl <| C0 <| C8 (G9 rfl rfl (by simp) (by rfl) (E7 rfl rfl (D9 C4))) ?_
 obtain ⟨hn1, hn2⟩ := a4w (s := s) (by exact .inl (by omega))
 rw [hn1, hn2]
 rfl

theorem keep_s_readTree : G8 Tryz.f102 = [0, 2, 3, 4, 15, 6, 24, 5, 7, 34, 43, 9, 12, 53, 8, 10, 11, 48, 59] := by kernel_rfl
set_option maxHeartbeats 20000000 in
theorem b0q (ws : List W8) (hws : ws.length ≤ 1048600 ∧ ∀ w ∈ ws, w.length ≤ 1048576) : CW (cxT oG) 102 [.list (ws.map tV)] = some (rtR (rdT ws), []) := by
 obtain ⟨kk, hkk⟩ : ∃ kk : Nat, ws.length < kk := ⟨_, Nat.lt_succ_self _⟩
 revert ws
 induction kk with
 | zero => intro ws hws hkk; exact absurd hkk (Nat.not_lt_zero _)
 | succ kk ih =>
  intro ws hws hkk
  refine G3 rfl Tryz.func102 rfl ⟨by kernel_rfl, rfl, dT rfl, dT rfl, by decide⟩ keep_s_readTree <| A3 <| A0 <| F5 rfl (fun _ => B2 rfl) (fun _ => rfl) ?_
  intro g2
  (refine B9 rfl rfl (fun _ => rfl) ?_; intro g3)
  refine A5 rfl rfl rfl <| xN [0,2] [2] rfl <| A3 <| A3 <| A0 <| A4 rfl rfl <| D6 rfl rfl <| Y3 rfl rfl <| xN [0,2,15] [2] rfl ?_
  refine A8 rfl ?_ ?_ <;> intro hc <;> try simp only [SL] at hc
  ·have hw0 : ws = [] := List.length_eq_zero_iff.1 (by simpa using hc)
   subst hw0
   refine A3 <| A0 <| I6 (fs := [_, _, _]) rfl rfl rfl rfl rfl <| C2 rfl rfl rfl rfl ⟨by decide, rfl, dT rfl, dT rfl, rfl⟩ rfl (by exact B2 rfl) ?_
   (refine B9 rfl rfl (fun _ => rfl) ?_; intro g3)
   refine A5 rfl rfl rfl <| xN [2,3,4] [2,3] rfl <| C0 <| C8 (F6 rfl rfl rfl rfl (F0 rfl (I1 rfl (I1 rfl H7))) (G9 rfl rfl (by simp) (by rfl) (E7 rfl rfl (D9 C4)))) ?_
   rfl
  obtain ⟨w, ws1, rfl⟩ : ∃ w ws1, ws = w :: ws1 := List.exists_cons_of_ne_nil (fun e => by subst e; simp at hc)
  have hw := hws.2 w (by simp)
  refine B5 <| A3 <| A0 <| A4 rfl rfl <| C7 rfl rfl rfl (fun _ => rfl) (by (change 0 < _; omega)) <| C6 rfl rfl rfl ?_
  apply xC rfl
  ·apply B3
   ·exact B7 rfl
   exact D3
  ·exact c1c w (by omega)
  refine ⟨⟨rfl, rfl, rfl, dT rfl, rfl⟩, .inr ⟨K0 _ _, rfl⟩, B8, I2 (M8 fun _ => I7 rfl M9), fun _ => rfl, fun g21 => ?_⟩
  simp only [List.length_map]
  refine A4 rfl rfl <| B6 rfl rfl rfl <| B6 rfl rfl rfl ?_
  (refine B0 rfl rfl (by (simp; done)) rfl (fun _ => (A9 (by exact A7 fun _ => rfl))) (fun _ => rfl) ?_; intro g5)
  refine A5 rfl rfl rfl <| xN [0,2,5,6] [2,5] rfl <| A3 <| A3 <| A0 <| A4 rfl rfl <| xN [0,2,5,24] [2,5] rfl ?_
  refine A8 rfl ?_ ?_ <;> intro hc <;> try simp only [SL] at hc
  ·obtain ⟨ns, hns⟩ := Option.isSome_iff_exists.1 hc
   have hraw := d0v hns
   refine A3 <| A0 <| A4 rfl rfl <| I6 (fs := [_, _, _]) rfl rfl rfl rfl rfl <| A4 rfl rfl <| N9 rfl rfl rfl (Mv.sized_map fun _ => rfl) L2 (I0 (n := 1) rfl) (by simp) ?_
   rw [show ((List.map tV (w :: ws1)).drop 1).take ((List.map tV (w :: ws1)).length - 1) = ws1.map tV from by rw [List.map_cons, List.drop_succ_cons, List.drop_zero, List.take_of_length_le (by simp)]]
   refine E9 rfl rfl rfl rfl (G1 rfl (L7 (by decide) (G1 rfl J0))) (fun _ => rfl) ⟨by decide, rfl, dT rfl, Nat.le_refl _⟩ (fun _ => rfl) (fun _ => rfl) (fun _ => (by rfl)) ?_
   intro z
   simp only [J4, List.cons_append, List.nil_append]
   refine A5 rfl rfl rfl <| A5 rfl rfl rfl ?_
   refine L1 ⟨fun _ => ⟨by (simp only [a1t, List.nil_append, List.append_nil, List.map_cons, List.map_nil, List.cons_append]; decide +kernel), by decide +kernel⟩, [(.t 2, _), (.t 3, _), (.t 4, _), (.h 2, _), (.h 5, _)], ⟨rfl, rfl, rfl, rfl, rfl, rfl, rfl, rfl, rfl, rfl, trivial⟩, ?_⟩
   refine C0 <| C8 (F6 rfl rfl rfl rfl (F0 rfl (J5 rfl rfl (by simp) (fun _ => rfl) (I1 rfl H7))) (E7 rfl rfl (E7 rfl rfl (D9 C4)))) ?_
   rw [b9i hns, hraw]
   rfl
  have hnn : numsOf w = none := by simpa using hc
  refine B5 <| A3 <| A0 <| A4 rfl rfl <| C7 rfl rfl rfl (fun _ => rfl) (by (change 0 < _; omega)) <| C6 rfl rfl rfl ?_
  apply xC rfl
  ·apply B3
   ·exact B7 rfl
   exact D3
  ·exact c5a (bA w)
  refine ⟨⟨rfl, rfl, rfl, dT rfl, rfl⟩, .inl rfl, B8, D5 rfl, fun _ => rfl, fun g32 => ?_⟩
  refine A5 rfl rfl rfl <| xN [0,2,7] [2] rfl <| A3 <| A3 <| A0 <| A4 rfl rfl <| H2 rfl rfl <| xN [0,2,7,34] [2] rfl ?_
  refine A8 rfl ?_ ?_ <;> intro hc <;> try simp only [SL] at hc
  ·refine A3 <| A0 <| I6 (fs := [_, _, _]) rfl rfl rfl rfl rfl <| C2 rfl rfl rfl rfl ⟨by decide, rfl, dT rfl, dT rfl, rfl⟩ rfl (by exact B2 rfl) ?_
   (refine B9 rfl rfl (fun _ => rfl) ?_; intro g3)
   refine A5 rfl rfl rfl <| xN [2,3,4] [2,3] rfl <| C0 <| C8 (F6 rfl rfl rfl rfl (F0 rfl (I1 rfl (I1 rfl H7))) (G9 rfl rfl (by simp) (by rfl) (E7 rfl rfl (D9 C4)))) ?_
   rw [c2z hnn (by omega)]
   rfl
  refine B5 <| A3 <| A0 <| A4 rfl rfl <| C7 rfl rfl rfl (fun _ => rfl) (by (change 0 < _; omega)) <| C6 rfl rfl rfl <| I6 (fs := [_, _, _]) rfl rfl rfl rfl rfl <| F5 rfl (fun _ => B2 rfl) (fun _ => rfl) ?_
  intro g8
  refine C2 rfl rfl rfl rfl ⟨by decide, rfl, dT rfl, dT rfl, rfl⟩ rfl (by exact B2 rfl) <| xN [0,2,7,8] [2,8] rfl <| A3 <| A0 ?_
  rcases b3v (w := bA w) (by omega) with hn | hn | hn
  ·rw [hn]
   refine A4 rfl rfl <| N9 rfl rfl rfl (Mv.sized_map fun _ => rfl) L2 (I0 (n := 1) rfl) (by simp) ?_
   rw [show ((List.map tV (w :: ws1)).drop 1).take ((List.map tV (w :: ws1)).length - 1) = ws1.map tV from by rw [List.map_cons, List.drop_succ_cons, List.drop_zero, List.take_of_length_le (by simp)]]
   refine A5 rfl rfl rfl <| xN [2,7,8,9] [2,8] rfl <| A3 <| C1 <| G6 <| A3 <| A3 <| A0 <| A4 rfl rfl <| P1 rfl rfl <| xN [2,7,8,9,43] [2,8] rfl ?_
   refine A8 rfl (fun hc => absurd hc (by decide)) (fun hc => ?_)
   refine G4 <| A3 <| A0 <| C5 rfl rfl rfl rfl rfl <| A4 rfl rfl <| C2 rfl rfl rfl rfl ⟨by decide, rfl, dT rfl, dT rfl, rfl⟩ rfl (by exact B2 rfl) <| A5 rfl rfl rfl <| A5 rfl rfl rfl <| xN [2,3,4] [2] rfl <| C0 <| C8 (F6 rfl rfl rfl rfl (F0 rfl (I1 rfl (I1 rfl H7))) (E7 rfl rfl (E7 rfl rfl (D9 C4)))) ?_
   rw [c3j hnn hn]
   rfl
  ·rw [hn]
   refine A4 rfl rfl <| N9 rfl rfl rfl (Mv.sized_map fun _ => rfl) L2 (I0 (n := 1) rfl) (by simp) ?_
   rw [show ((List.map tV (w :: ws1)).drop 1).take ((List.map tV (w :: ws1)).length - 1) = ws1.map tV from by rw [List.map_cons, List.drop_succ_cons, List.drop_zero, List.take_of_length_le (by simp)]]
   refine A5 rfl rfl rfl <| xN [2,7,8,9] [2,8] rfl <| A3 <| C1 <| G6 <| A3 <| A3 <| A0 <| A4 rfl rfl <| P1 rfl rfl <| xN [2,7,8,9,43] [2,8] rfl ?_
   refine A8 rfl (fun hc => ?_) (fun hc => absurd hc (by decide))
   refine B5 <| A3 <| C1 <| A3 <| A0 <| A4 rfl rfl ?_
   rcases hr1 : rdT ws1 with _ | ⟨k1, r1⟩
   ·skip
    apply xC rfl
    ·apply B3
     ·exact B7 rfl
     exact D3
    ·exact (by have hi := ih ws1 ⟨by simp only [List.length_cons] at hws; omega, fun x hx => hws.2 x (List.mem_cons_of_mem _ hx)⟩ (by simp only [List.length_cons] at hkk; omega); rw [hr1] at hi; exact hi)
    refine ⟨⟨rfl, rfl, rfl, dT rfl, rfl⟩, .inl rfl, B8, I2 (I7 rfl (M8 fun _ => I7 rfl M9)), fun _ => C9 (A9 rfl) (by rfl), fun g48 => ?_⟩
    refine A4 rfl rfl <| B6 rfl rfl rfl <| B6 rfl rfl rfl <| B6 rfl rfl rfl <| F5 rfl (fun _ => B2 rfl) (fun _ => rfl) ?_
    intro g10
    refine C2 rfl rfl rfl rfl ⟨by decide, rfl, dT rfl, dT rfl, rfl⟩ rfl (by exact B2 rfl) ?_
    (refine B0 rfl rfl (by (simp; done)) rfl (fun _ => (A9 (by rfl))) (fun _ => rfl) ?_; intro g11)
    refine A5 rfl rfl rfl <| xN [2,7,8,10,11,12] [2,8,10] rfl <| A3 <| A3 <| A0 <| A4 rfl rfl <| K9 rfl <| xN [2,7,8,10,11,53] [2,8,10] rfl ?_
    refine A8 rfl (fun hc => ?_) (fun hc => absurd hc (by decide))
    refine A3 <| A0 <| I6 (fs := [_, _, _]) rfl rfl rfl rfl rfl <| C2 rfl rfl rfl rfl ⟨by decide, rfl, dT rfl, dT rfl, rfl⟩ rfl (by exact B2 rfl) ?_
    (refine B9 rfl rfl (fun _ => rfl) ?_; intro g3)
    refine A5 rfl rfl rfl <| xN [2,3,4] [2,3] rfl <| C0 <| C8 (F6 rfl rfl rfl rfl (F0 rfl (I1 rfl (I1 rfl H7))) (G9 rfl rfl (by simp) (by rfl) (E7 rfl rfl (D9 C4)))) ?_
    rw [b5m hnn hn, hr1]
    rfl
   skip
   apply xC rfl
   ·apply B3
    ·exact B7 rfl
    exact D3
   ·exact (by have hi := ih ws1 ⟨by simp only [List.length_cons] at hws; omega, fun x hx => hws.2 x (List.mem_cons_of_mem _ hx)⟩ (by simp only [List.length_cons] at hkk; omega); rw [hr1] at hi; exact hi)
   refine ⟨⟨rfl, rfl, rfl, dT rfl, rfl⟩, .inl rfl, B8, L0 rfl, fun _ => rfl, fun g48 => ?_⟩
   refine A4 rfl rfl <| B6 rfl rfl rfl <| B6 rfl rfl rfl <| B6 rfl rfl rfl <| F5 rfl (fun _ => B2 rfl) (fun _ => rfl) ?_
   intro g10
   refine C2 rfl rfl rfl rfl ⟨by decide, rfl, dT rfl, dT rfl, rfl⟩ rfl (by exact B2 rfl) <| A5 rfl rfl rfl <| A5 rfl rfl rfl <| xN [2,7,8,10,11,12] [2,8,10] rfl <| A3 <| A3 <| A0 <| A4 rfl rfl <| K9 rfl <| xN [2,7,8,10,11,53] [2,8,10] rfl ?_
   refine A8 rfl (fun hc => absurd hc (by decide)) (fun hc => ?_)
   refine B5 <| A3 <| A0 <| B1 rfl rfl (dT rfl) rfl rfl <| B4 rfl rfl rfl rfl rfl rfl <| C5 rfl rfl rfl rfl rfl <| a1c (es := List.map trV [_]) rfl rfl (dT rfl) rfl rfl (fun _ => A9 (A7 fun _ => rfl)) (fun _ => rfl) ?_
   intro g58
   refine P8 rfl rfl rfl (by simp) (by decide) rfl rfl rfl (dT rfl) (fun _ => ⟨rfl, rfl⟩) (by simp only [H6]; (simp only [List.length_nil, List.length_cons, List.length_append, Nat.zero_add, List.length_map]; omega)) (fun _ => rfl) ?_
   intro g59
   refine B1 rfl rfl (dT rfl) rfl rfl <| L8 rfl rfl rfl rfl rfl (Nat.le_refl _) rfl <| xN [2,7,8,11] [2,8,1000059] rfl <| A0 <| A4 rfl rfl <| A5 rfl rfl rfl <| xN [2,7,8,9] [2,8,1000059] rfl <| A0 <| A4 rfl rfl <| U4 rfl rfl (F3 (by omega)) <| A5 rfl rfl rfl <| xN [2,7,8,9] [2,8,1000059] rfl <| G6 <| A3 <| A3 <| A0 <| A4 rfl rfl <| P1 rfl rfl <| xN [2,7,8,9,43] [2,8,1000059] rfl ?_
   refine A8 rfl (fun hc => absurd hc (by decide)) (fun hc => ?_)
   refine G4 <| A3 <| A0 <| C5 rfl rfl rfl rfl rfl <| A4 rfl rfl <| E9 rfl rfl rfl rfl (G1 rfl (G1 rfl (V7 (by decide) (by decide) rfl (by simp) fun _ => J0))) (fun _ => rfl) ⟨by decide, rfl, dT rfl, Nat.le_refl _⟩ (fun _ => rfl) (fun _ => rfl) (fun _ => C9 (by rfl) (C9 (A9 (A7 fun _ => rfl)) (by rfl))) ?_
   intro z
   simp only [J4, List.cons_append, List.nil_append]
   refine A5 rfl rfl rfl <| A5 rfl rfl rfl <| xN [2,3,4] [2,300002] rfl <| C0 <| C8 (F6 rfl rfl rfl rfl (F0 rfl (I1 rfl (J5 rfl rfl (by simp) (fun _ => rfl) H7))) (E7 rfl rfl (E7 rfl rfl (D9 C4)))) ?_
   rw [b5m hnn hn, hr1]
   rfl
  rw [hn]
  refine A4 rfl rfl <| N9 rfl rfl rfl (Mv.sized_map fun _ => rfl) L2 (I0 (n := 1) rfl) (by simp) ?_
  rw [show ((List.map tV (w :: ws1)).drop 1).take ((List.map tV (w :: ws1)).length - 1) = ws1.map tV from by rw [List.map_cons, List.drop_succ_cons, List.drop_zero, List.take_of_length_le (by simp)]]
  refine A5 rfl rfl rfl <| xN [2,7,8,9] [2,8] rfl <| A3 <| C1 <| G6 <| A3 <| A3 <| A0 <| A4 rfl rfl <| P1 rfl rfl <| xN [2,7,8,9,43] [2,8] rfl ?_
  refine A8 rfl (fun hc => ?_) (fun hc => absurd hc (by decide))
  refine B5 <| A3 <| C1 <| A3 <| A0 <| A4 rfl rfl ?_
  rcases hr1 : rdT ws1 with _ | ⟨k1, r1⟩
  ·skip
   apply xC rfl
   ·apply B3
    ·exact B7 rfl
    exact D3
   ·exact (by have hi := ih ws1 ⟨by simp only [List.length_cons] at hws; omega, fun x hx => hws.2 x (List.mem_cons_of_mem _ hx)⟩ (by simp only [List.length_cons] at hkk; omega); rw [hr1] at hi; exact hi)
   refine ⟨⟨rfl, rfl, rfl, dT rfl, rfl⟩, .inl rfl, B8, I2 (I7 rfl (M8 fun _ => I7 rfl M9)), fun _ => C9 (A9 rfl) (by rfl), fun g48 => ?_⟩
   refine A4 rfl rfl <| B6 rfl rfl rfl <| B6 rfl rfl rfl <| B6 rfl rfl rfl <| F5 rfl (fun _ => B2 rfl) (fun _ => rfl) ?_
   intro g10
   refine C2 rfl rfl rfl rfl ⟨by decide, rfl, dT rfl, dT rfl, rfl⟩ rfl (by exact B2 rfl) ?_
   (refine B0 rfl rfl (by (simp; done)) rfl (fun _ => (A9 (by rfl))) (fun _ => rfl) ?_; intro g11)
   refine A5 rfl rfl rfl <| xN [2,7,8,10,11,12] [2,8,10] rfl <| A3 <| A3 <| A0 <| A4 rfl rfl <| K9 rfl <| xN [2,7,8,10,11,53] [2,8,10] rfl ?_
   refine A8 rfl (fun hc => ?_) (fun hc => absurd hc (by decide))
   refine A3 <| A0 <| I6 (fs := [_, _, _]) rfl rfl rfl rfl rfl <| C2 rfl rfl rfl rfl ⟨by decide, rfl, dT rfl, dT rfl, rfl⟩ rfl (by exact B2 rfl) ?_
   (refine B9 rfl rfl (fun _ => rfl) ?_; intro g3)
   refine A5 rfl rfl rfl <| xN [2,3,4] [2,3] rfl <| C0 <| C8 (F6 rfl rfl rfl rfl (F0 rfl (I1 rfl (I1 rfl H7))) (G9 rfl rfl (by simp) (by rfl) (E7 rfl rfl (D9 C4)))) ?_
   rw [a5c hnn hn, hr1]
   rfl
  skip
  apply xC rfl
  ·apply B3
   ·exact B7 rfl
   exact D3
  ·exact (by have hi := ih ws1 ⟨by simp only [List.length_cons] at hws; omega, fun x hx => hws.2 x (List.mem_cons_of_mem _ hx)⟩ (by simp only [List.length_cons] at hkk; omega); rw [hr1] at hi; exact hi)
  refine ⟨⟨rfl, rfl, rfl, dT rfl, rfl⟩, .inl rfl, B8, L0 rfl, fun _ => rfl, fun g48 => ?_⟩
  refine A4 rfl rfl <| B6 rfl rfl rfl <| B6 rfl rfl rfl <| B6 rfl rfl rfl <| F5 rfl (fun _ => B2 rfl) (fun _ => rfl) ?_
  intro g10
  refine C2 rfl rfl rfl rfl ⟨by decide, rfl, dT rfl, dT rfl, rfl⟩ rfl (by exact B2 rfl) <| A5 rfl rfl rfl <| A5 rfl rfl rfl <| xN [2,7,8,10,11,12] [2,8,10] rfl <| A3 <| A3 <| A0 <| A4 rfl rfl <| K9 rfl <| xN [2,7,8,10,11,53] [2,8,10] rfl ?_
  refine A8 rfl (fun hc => absurd hc (by decide)) (fun hc => ?_)
  refine B5 <| A3 <| A0 <| B1 rfl rfl (dT rfl) rfl rfl <| B4 rfl rfl rfl rfl rfl rfl <| C5 rfl rfl rfl rfl rfl <| a1c (es := List.map trV [_]) rfl rfl (dT rfl) rfl rfl (fun _ => A9 (A7 fun _ => rfl)) (fun _ => rfl) ?_
  intro g58
  refine P8 rfl rfl rfl (by simp) (by decide) rfl rfl rfl (dT rfl) (fun _ => ⟨rfl, rfl⟩) (by simp only [H6]; (simp only [List.length_nil, List.length_cons, List.length_append, Nat.zero_add, List.length_map]; omega)) (fun _ => rfl) ?_
  intro g59
  refine B1 rfl rfl (dT rfl) rfl rfl <| L8 rfl rfl rfl rfl rfl (Nat.le_refl _) rfl <| xN [2,7,8,11] [2,8,1000059] rfl <| A0 <| A4 rfl rfl <| A5 rfl rfl rfl <| xN [2,7,8,9] [2,8,1000059] rfl <| A0 <| A4 rfl rfl <| U4 rfl rfl (F3 (by omega)) <| A5 rfl rfl rfl <| xN [2,7,8,9] [2,8,1000059] rfl <| G6 <| A3 <| A3 <| A0 <| A4 rfl rfl <| P1 rfl rfl <| xN [2,7,8,9,43] [2,8,1000059] rfl ?_
  refine A8 rfl (fun hc => ?_) (fun hc => absurd hc (by decide))
  refine B5 <| A3 <| C1 <| A3 <| A0 <| A4 rfl rfl ?_
  rcases hr2 : rdT r1 with _ | ⟨k2, r2⟩
  ·skip
   apply xC rfl
   ·apply B3
    ·exact B7 rfl
    exact D3
   ·exact (by have hi := ih r1 ⟨by have := Y8 hr1; simp only [List.length_cons] at hws; omega, fun x hx => hws.2 x (List.mem_cons_of_mem _ (b0b hr1 x hx))⟩ (by have := Y8 hr1; simp only [List.length_cons] at hkk; omega); rw [hr2] at hi; exact hi)
   refine ⟨⟨rfl, rfl, rfl, dT rfl, rfl⟩, .inl rfl, B8, I2 (I7 rfl (M8 fun _ => I7 rfl M9)), fun _ => C9 (A9 rfl) (by rfl), fun g48 => ?_⟩
   refine A4 rfl rfl <| B6 rfl rfl rfl <| B6 rfl rfl rfl <| B6 rfl rfl rfl <| F5 rfl (fun _ => B2 rfl) (fun _ => rfl) ?_
   intro g10
   refine C2 rfl rfl rfl rfl ⟨by decide, rfl, dT rfl, dT rfl, rfl⟩ rfl (by exact B2 rfl) ?_
   (refine B0 rfl rfl (by (simp; done)) rfl (fun _ => (A9 (by rfl))) (fun _ => rfl) ?_; intro g11)
   refine A5 rfl rfl rfl <| xN [2,7,8,10,11,12] [2,8,1000059,10] rfl <| A3 <| A3 <| A0 <| A4 rfl rfl <| K9 rfl <| xN [2,7,8,10,11,53] [2,8,1000059,10] rfl ?_
   refine A8 rfl (fun hc => ?_) (fun hc => absurd hc (by decide))
   refine A3 <| A0 <| I6 (fs := [_, _, _]) rfl rfl rfl rfl rfl <| C2 rfl rfl rfl rfl ⟨by decide, rfl, dT rfl, dT rfl, rfl⟩ rfl (by exact B2 rfl) ?_
   (refine B9 rfl rfl (fun _ => rfl) ?_; intro g3)
   refine A5 rfl rfl rfl <| xN [2,3,4] [2,3] rfl <| C0 <| C8 (F6 rfl rfl rfl rfl (F0 rfl (I1 rfl (I1 rfl H7))) (G9 rfl rfl (by simp) (by rfl) (E7 rfl rfl (D9 C4)))) ?_
   rw [a5c hnn hn, hr1, Option.bind_some, hr2]
   rfl
  skip
  apply xC rfl
  ·apply B3
   ·exact B7 rfl
   exact D3
  ·exact (by have hi := ih r1 ⟨by have := Y8 hr1; simp only [List.length_cons] at hws; omega, fun x hx => hws.2 x (List.mem_cons_of_mem _ (b0b hr1 x hx))⟩ (by have := Y8 hr1; simp only [List.length_cons] at hkk; omega); rw [hr2] at hi; exact hi)
  refine ⟨⟨rfl, rfl, rfl, dT rfl, rfl⟩, .inl rfl, B8, L0 rfl, fun _ => rfl, fun g48 => ?_⟩
  refine A4 rfl rfl <| B6 rfl rfl rfl <| B6 rfl rfl rfl <| B6 rfl rfl rfl <| F5 rfl (fun _ => B2 rfl) (fun _ => rfl) ?_
  intro g10
  refine C2 rfl rfl rfl rfl ⟨by decide, rfl, dT rfl, dT rfl, rfl⟩ rfl (by exact B2 rfl) <| A5 rfl rfl rfl <| A5 rfl rfl rfl <| xN [2,7,8,10,11,12] [2,8,1000059,10] rfl <| A3 <| A3 <| A0 <| A4 rfl rfl <| K9 rfl <| xN [2,7,8,10,11,53] [2,8,1000059,10] rfl ?_
  refine A8 rfl (fun hc => absurd hc (by decide)) (fun hc => ?_)
  refine B5 <| A3 <| A0 <| B1 rfl rfl (dT rfl) rfl rfl <| B4 rfl rfl rfl rfl rfl rfl <| C5 rfl rfl rfl rfl rfl <| a1c (es := List.map trV [_]) rfl rfl (dT rfl) rfl rfl (fun _ => A9 (A7 fun _ => rfl)) (fun _ => rfl) ?_
  intro g58
  refine F7 rfl rfl rfl rfl (by (simp; done)) (by simp) (by decide) rfl rfl rfl rfl (dT rfl) (fun _ => ⟨rfl, rfl⟩) (by simp only [H6]; (simp only [List.length_nil, List.length_cons, List.length_append, Nat.zero_add, List.length_map]; omega)) (fun _ => rfl) ?_
  intro g59
  refine B1 rfl rfl (dT rfl) rfl rfl <| L8 rfl rfl rfl rfl rfl (Nat.le_refl _) rfl <| xN [2,7,8,11] [2,8,1000059] rfl <| A0 <| A4 rfl rfl <| A5 rfl rfl rfl <| xN [2,7,8,9] [2,8,1000059] rfl <| A0 <| A4 rfl rfl <| U4 rfl rfl (F3 (by omega)) <| A5 rfl rfl rfl <| xN [2,7,8,9] [2,8,1000059] rfl <| G6 <| A3 <| A3 <| A0 <| A4 rfl rfl <| P1 rfl rfl <| xN [2,7,8,9,43] [2,8,1000059] rfl ?_
  refine A8 rfl (fun hc => absurd hc (by decide)) (fun hc => ?_)
  refine G4 <| A3 <| A0 <| C5 rfl rfl rfl rfl rfl <| A4 rfl rfl <| E9 rfl rfl rfl rfl (G1 rfl (G1 rfl (V7 (by decide) (by decide) rfl (by simp) fun _ => J0))) (fun _ => rfl) ⟨by decide, rfl, dT rfl, Nat.le_refl _⟩ (fun _ => rfl) (fun _ => rfl) (fun _ => C9 (by rfl) (C9 (A9 (A7 fun _ => rfl)) (by rfl))) ?_
  intro z
  simp only [J4, List.cons_append, List.nil_append]
  refine A5 rfl rfl rfl <| A5 rfl rfl rfl <| xN [2,3,4] [2,300002] rfl <| C0 <| C8 (F6 rfl rfl rfl rfl (F0 rfl (I1 rfl (J5 rfl rfl (by simp) (fun _ => rfl) H7))) (E7 rfl rfl (E7 rfl rfl (D9 C4)))) ?_
  rw [a5c hnn hn, hr1, Option.bind_some, hr2]
  rfl

theorem keep_s_readPlan : G8 Tryz.f60 = [0, 2, 3, 4, 17, 6, 7, 5, 21] := by kernel_rfl
set_option maxHeartbeats 20000000 in
theorem c1m (s : List UInt8) (hs : s.length ≤ 1048576) : CW (cxT oG) 60 [tV s] = some (.tup [trV (rpT s), bV (rdPlan s).isSome], []) := by
 obtain ⟨ws, hws⟩ : ∃ ws, ws = splitB 32 s := ⟨_, rfl⟩
 have hwl := T6 32 s
 have hwp := Y2 32 s
 rw [← hws] at hwl hwp
 refine G3 rfl Tryz.func60 rfl ⟨by kernel_rfl, rfl, dT rfl, dT rfl, by decide⟩ keep_s_readPlan <| A3 <| A0 <| F5 rfl (fun _ => B2 rfl) (fun _ => rfl) ?_
 intro g2
 refine A5 rfl rfl rfl <| xN [0,2] [2] rfl <| A3 <| A0 <| A4 rfl rfl ?_
 apply xC rfl
 ·apply B3
  ·exact B7 rfl
  apply B3
  ·exact B7 rfl
  exact D3
 ·exact b4a s (by omega) 32
 refine ⟨⟨rfl, rfl, rfl, dT rfl, rfl⟩, .inl rfl, B8, N2, fun _ => rfl, fun g9 => ?_⟩
 rw [← hws]
 try simp only [List.length_map]
 (refine B0 rfl rfl (by (simp; done)) rfl (fun _ => (A9 (by exact A7 fun _ => rfl))) (fun _ => rfl) ?_; intro g4)
 refine xN [0,2,4] [2,4] rfl <| A3 <| A3 <| A0 <| A4 rfl rfl <| a3v rfl rfl <| P1 rfl rfl <| A4 rfl rfl ?_
 refine E6 rfl rfl ?_ ?_ <;> intro hg0 <;> have hg := hg0 <;> try simp only [SG] at hg
 ·refine A4 rfl rfl <| gT rfl rfl <| N6 rfl rfl <| gT rfl rfl <| P1 rfl rfl <| H5 rfl (by assumption) rfl rfl <| xN [2,4,17] [2,4] rfl ?_
  refine A8 rfl ?_ ?_ <;> intro hc <;> try simp only [SL] at hc
  ·refine A3 <| A0 <| I6 (fs := [_, _, _]) rfl rfl rfl rfl rfl <| C2 rfl rfl rfl rfl ⟨by decide, rfl, dT rfl, dT rfl, rfl⟩ rfl (by exact B2 rfl) <| A5 rfl rfl rfl <| xN [2,3] [2] rfl <| C0 <| C8 (F6 rfl rfl rfl rfl (F0 rfl (I1 rfl (I1 rfl H7))) (E7 rfl rfl (D9 C4))) ?_
   obtain ⟨h1, h2⟩ := b1p (s := s) (by rw [hws] at *; omega)
   rw [h1, h2]
   rfl
  have hin := c4t hws (by omega)
  refine B5 <| A3 <| A0 <| A4 rfl rfl ?_
  rcases hr : rdT ws with _ | ⟨t, r⟩
  ·skip
   apply xC rfl
   ·apply B3
    ·exact a0v rfl rfl (by (simp; done)) (fun _ => rfl)
    exact D3
   ·exact (by have hi := b0q (oG := oG) ws ⟨by omega, fun w hw => by have := hwp w hw; omega⟩; rw [hr] at hi; exact hi)
   refine ⟨⟨rfl, rfl, rfl, dT rfl, rfl⟩, .inl rfl, B8, I2 (I7 rfl (M8 fun _ => I7 rfl M9)), fun _ => C9 (a5b (A7 fun _ => rfl) (by decide)) (by rfl), fun g21 => ?_⟩
   refine A4 rfl rfl <| B6 rfl rfl rfl <| B6 rfl rfl rfl <| B6 rfl rfl rfl <| F5 rfl (fun _ => B2 rfl) (fun _ => rfl) ?_
   intro g5
   refine C2 rfl rfl rfl rfl ⟨by decide, rfl, dT rfl, dT rfl, rfl⟩ rfl (by exact B2 rfl) ?_
   (refine B0 rfl rfl (by (simp; done)) rfl (fun _ => (A9 (by rfl))) (fun _ => rfl) ?_; intro g6)
   refine A5 rfl rfl rfl <| xN [2,5,6,7] [2,5] rfl <| A3 <| A0 <| C5 rfl rfl rfl rfl rfl <| A4 rfl rfl <| A4 rfl rfl <| J8 rfl rfl rfl <| J8 rfl rfl rfl <| J8 rfl rfl rfl <| H5 rfl rfl rfl rfl <| C2 rfl rfl rfl rfl ⟨by decide, rfl, dT rfl, dT rfl, rfl⟩ rfl (by exact B2 rfl) <| A5 rfl rfl rfl <| xN [2,3] [2] rfl <| C0 <| C8 (F6 rfl rfl rfl rfl (F0 rfl (F0 rfl (F0 rfl H7))) (E7 rfl rfl (D9 C4))) ?_
   obtain ⟨h1, h2⟩ := hin.1 hr
   rw [h1, h2]
   rfl
  skip
  apply xC rfl
  ·apply B3
   ·exact a0v rfl rfl (by (simp; done)) (fun _ => rfl)
   exact D3
  ·exact (by have hi := b0q (oG := oG) ws ⟨by omega, fun w hw => by have := hwp w hw; omega⟩; rw [hr] at hi; exact hi)
  refine ⟨⟨rfl, rfl, rfl, dT rfl, rfl⟩, .inl rfl, B8, L0 rfl, fun _ => C9 (a5b (A7 fun _ => rfl) (by decide)) (by rfl), fun g21 => ?_⟩
  refine A4 rfl rfl <| B6 rfl rfl rfl <| B6 rfl rfl rfl <| B6 rfl rfl rfl <| F5 rfl (fun _ => B2 rfl) (fun _ => rfl) ?_
  intro g5
  refine C2 rfl rfl rfl rfl ⟨by decide, rfl, dT rfl, dT rfl, rfl⟩ rfl (by exact B2 rfl) <| A5 rfl rfl rfl <| A5 rfl rfl rfl <| xN [2,5,6,7] [2,5] rfl <| A3 <| A0 <| C5 rfl rfl rfl rfl rfl <| A4 rfl rfl <| A4 rfl rfl <| J1 rfl rfl rfl <| A4 rfl rfl <| J1 rfl rfl rfl <| D6 rfl rfl <| J1 rfl rfl rfl <| Y3 rfl rfl <| G5 rfl rfl rfl rfl <| C2 rfl rfl rfl rfl ⟨by decide, rfl, dT rfl, dT rfl, rfl⟩ rfl (by exact B2 rfl) <| A5 rfl rfl rfl <| xN [2,3] [2] rfl <| C0 <| C8 (F6 rfl rfl rfl rfl (F0 rfl (F0 rfl (F0 rfl H7))) (E7 rfl rfl (D9 C4))) ?_
  obtain ⟨h1, h2⟩ := hin.2 t r hr
  rw [h1, h2]
  rfl
 refine gF rfl rfl <| gF rfl rfl <| G5 rfl (by assumption) rfl rfl <| xN [2,4,17] [2,4] rfl ?_
 refine A8 rfl (fun hc => ?_) (fun hc => absurd hc (by decide))
 refine A3 <| A0 <| I6 (fs := [_, _, _]) rfl rfl rfl rfl rfl <| C2 rfl rfl rfl rfl ⟨by decide, rfl, dT rfl, dT rfl, rfl⟩ rfl (by exact B2 rfl) <| A5 rfl rfl rfl <| xN [2,3] [2] rfl <| C0 <| C8 (F6 rfl rfl rfl rfl (F0 rfl (I1 rfl (I1 rfl H7))) (E7 rfl rfl (D9 C4))) ?_
 obtain ⟨h1, h2⟩ := b1p (s := s) (by rw [hws] at *; omega)
 rw [h1, h2]
 rfl

theorem keep_s_numbers : G8 Tryz.f143 = [0, 2, 8, 7, 9, 6, 5, 3] := by kernel_rfl
set_option maxHeartbeats 20000000 in
theorem c4l (ns : List Int) (hl : ns.length ≤ 1000000) (hnb : ∀ n ∈ ns, -1000000 ≤ n ∧ n ≤ 1000000) : CW (cxT oG) 143 [L ns] = some (tV (O9 ns), []) := by
 have hg := fun (i : Nat) (h : i < ns.length) => hnb _ (a6d h)
 have hll := a0e (ns := ns) hnb
 refine G3 rfl Tryz.func143 rfl ⟨by kernel_rfl, rfl, dT rfl, dT rfl, by decide⟩ keep_s_numbers <| A3 <| A0 <| A5 rfl rfl rfl <| xN [0] [] rfl <| A3 <| A0 ?_
 (refine B9 rfl rfl (fun _ => rfl) ?_; intro g3)
 refine xN [0,3] [3] rfl <| A3 <| A3 <| A0 <| A4 rfl rfl <| D6 rfl rfl <| A4 rfl rfl <| xN [3,6,7,8] [3] rfl <| C1 <| H4 (β := Nat × List (List UInt8) × Nat) [(.t 6, _), (.t 7, _)] (fun (z : Nat × List (List UInt8) × Nat) => match z with | (i, ps, g) => [(.t 8, iV i), (.t 3, .sl 3 g none 0 ps.length), (.h 3, .obj g 0 1 (ps.map tV))]) (fun (z : Nat × List (List UInt8) × Nat) => match z with | (i, ps, g) => i ≤ ns.length ∧ ps = (ns.take i).map dec) (fun (z : Nat × List (List UInt8) × Nat) => match z with | (i, ps, g) => ns.length - i) (0, [], _) ⟨rfl, rfl, rfl, rfl, rfl, trivial⟩ ⟨Nat.zero_le _, rfl⟩ ?_
 intro z hb
 obtain ⟨i, ps, g⟩ := z
 try dsimp only at hb
 obtain ⟨hi1, hps⟩ := hb
 have hpl : ps.length = i := by rw [hps]; simp; omega
 refine A3 <| A0 <| H2 rfl rfl <| xN [3,6,7,8,9] [3] rfl <| A3 ?_
 refine A8 rfl ?_ ?_ <;> intro hc <;> try simp only [SL] at hc
 ·refine B5 <| A3 <| C1 <| A3 <| A0 <| C7 rfl rfl rfl (fun _ => rfl) (by omega) <| C6 rfl rfl rfl <| A5 rfl rfl rfl <| xN [3,5,6,7,8] [3] rfl <| A0 <| A4 rfl rfl <| A4 rfl rfl ?_
  have hgi := hg i (by omega)
  apply xC rfl
  ·apply B3
   ·exact B7 rfl
   exact D3
  ·exact d1n (ns.getD i default) (by omega)
  refine ⟨⟨rfl, rfl, rfl, dT rfl, rfl⟩, .inl rfl, B8, D5 rfl, fun _ => rfl, fun g14 => ?_⟩
  refine D4 (es := List.map tV [_]) rfl rfl (dT rfl) rfl rfl (fun _ => A9 (A7 fun _ => rfl)) (fun _ => rfl) ?_
  intro g15
  refine F7 rfl rfl rfl rfl (by (simp; done)) (by simp) (by decide) rfl rfl rfl rfl (dT rfl) (fun _ => ⟨rfl, rfl⟩) (by simp only [H6]; (simp only [List.length_nil, List.length_cons, List.length_append, Nat.zero_add, List.length_map]; omega)) (fun _ => rfl) ?_
  intro g16
  (refine B0 rfl rfl (by (simp; done)) rfl (fun _ => (A9 (by exact A7 fun _ => rfl))) (fun _ => rfl) ?_; intro g3)
  refine xN [3,6,7,8] [3] rfl <| A0 <| H0 rfl rfl (F3 (by omega)) <| A4 rfl rfl <| xN [3,6,7,8] [3] rfl ?_
  refine ⟨(i + 1, ps ++ [dec (ns.getD i default)], _), ?_, (by simp only; omega), ⟨rfl, rfl, rfl, rfl, rfl, trivial⟩⟩
  exact ⟨by omega, by rw [hps, ← b2q (by omega)]⟩
 refine G4 <| A3 <| A0 <| A4 rfl rfl ?_
 have hpe : ps = ns.map dec := by rw [hps, List.take_of_length_le (by omega)]
 have hje : joinB 44 ps = O9 ns := by rw [hpe]; rfl
 apply xC rfl
 ·apply B3
  ·exact K2 rfl rfl rfl (by (simp; done)) (fun _ => rfl)
  apply B3
  ·exact B7 rfl
  exact D3
 ·exact d1k ps 44 (by simp only [H6]; omega) (by rw [hje]; simp only [H6]; omega)
 refine ⟨⟨rfl, rfl, rfl, dT rfl, rfl⟩, .inr ⟨rfl, rfl⟩, B8, D5 rfl, fun _ => rfl, fun g19 => ?_⟩
 refine A5 rfl rfl rfl <| xN [2] [] rfl <| C0 <| D7 rfl rfl trivial ?_
 rw [hje]

theorem keep_s_listTextI : G8 Tryz.f113 = [0, 2] := by kernel_rfl
set_option maxHeartbeats 20000000 in
theorem a3x (ns : List Int) (hl : ns.length ≤ 1000000) (hnb : ∀ n ∈ ns, -1000000 ≤ n ∧ n ≤ 1000000) : CW (cxT oG) 113 [L ns] = some (tV (Q2 ns), []) := by
 have hll := a0e (ns := ns) hnb
 refine G3 rfl Tryz.func113 rfl ⟨by kernel_rfl, rfl, dT rfl, dT rfl, by decide⟩ keep_s_listTextI <| A3 <| A0 <| A5 rfl rfl rfl <| xN [0] [] rfl <| A3 <| A0 <| A4 rfl rfl ?_
 apply xC rfl
 ·apply B3
  ·exact B7 rfl
  exact D3
 ·exact c4l ns hl hnb
 refine ⟨⟨rfl, rfl, rfl, dT rfl, rfl⟩, .inl rfl, B8, D5 rfl, fun _ => rfl, fun g4 => ?_⟩
 iterate 2 refine a0l rfl rfl (by simp only [H6, List.length_append, List.length_cons, List.length_nil]; omega) ?_
 refine A5 rfl rfl rfl <| xN [2] [] rfl <| C0 <| D7 rfl rfl trivial ?_
 rfl

theorem keep_s_readListI : G8 Tryz.f104 = [0, 2, 3, 4, 6, 5, 27, 29, 33, 32, 34, 31, 9, 11, 43, 10, 7] := by kernel_rfl
set_option maxHeartbeats 20000000 in
theorem b8x (w : List UInt8) (hs : w.length ≤ 1048576) : CW (cxT oG) 104 [tV w] = some (.tup [.own 1 ((rlX w).map iV), bV (okI w)], []) := by
 have hc1 := c7w 91 w
 have hc2 := c9a 93 (a3d 91 w)
 refine G3 rfl Tryz.func104 rfl ⟨by kernel_rfl, rfl, dT rfl, dT rfl, by decide⟩ keep_s_readListI <| A3 <| A0 ?_
 (refine B9 rfl rfl (fun _ => rfl) ?_; intro g2)
 refine A5 rfl rfl rfl <| xN [0] [] rfl <| A3 <| A0 <| A4 rfl rfl ?_
 apply xC rfl
 ·apply B3
  ·exact B7 rfl
  apply B3
  ·exact B7 rfl
  exact D3
 ·exact d1z w 91
 refine ⟨⟨rfl, rfl, rfl, dT rfl, rfl⟩, .inl rfl, B8, L0 rfl, fun _ => rfl, fun g14 => ?_⟩
 refine A4 rfl rfl <| B6 rfl rfl rfl <| B6 rfl rfl rfl <| A5 rfl rfl rfl <| A5 rfl rfl rfl <| xN [0,4,5] [] rfl <| A3 <| A0 <| A4 rfl rfl ?_
 apply xC rfl
 ·apply B3
  ·exact B7 rfl
  apply B3
  ·exact B7 rfl
  exact D3
 ·exact d1t (a3d 91 w) 93 (by omega)
 refine ⟨⟨rfl, rfl, rfl, dT rfl, rfl⟩, .inl rfl, B8, L0 rfl, fun _ => rfl, fun g19 => ?_⟩
 refine A4 rfl rfl <| B6 rfl rfl rfl <| B6 rfl rfl rfl <| A5 rfl rfl rfl <| A5 rfl rfl rfl <| xN [0,4,5,6] [] rfl <| A3 <| A3 <| A0 <| A4 rfl rfl <| K9 rfl <| A4 rfl rfl ?_
 refine E6 rfl rfl ?_ ?_ <;> intro hg0 <;> have hg := hg0 <;> try simp only [SG] at hg
 ·refine A4 rfl rfl <| gT rfl rfl <| K9 rfl <| H5 rfl (by assumption) rfl rfl <| xN [0,4,27] [] rfl ?_
  refine A8 rfl ?_ ?_ <;> intro hc <;> try simp only [SL] at hc
  ·refine A3 <| A0 ?_
   (refine B9 rfl rfl (fun _ => rfl) ?_; intro g2)
   refine A5 rfl rfl rfl <| xN [2,3] [2] rfl <| C0 <| C8 (G9 rfl rfl (by simp) (by rfl) (E7 rfl rfl (D9 C4))) ?_
   obtain ⟨h1, h2⟩ := b6f (b7p (w := w) (by simp_all [okB]))
   rw [h1, h2]
   rfl
  have hok : okB w = true := by simp [okB]; constructor <;> assumption
  obtain ⟨ps, hps0⟩ : ∃ ps, ps = splitB 44 (a3h w) := ⟨_, rfl⟩
  have hpl := T6 44 (a3h w)
  have hpp := Y2 44 (a3h w)
  rw [← hps0] at hpl hpp
  have hil := c6f hok
  refine B5 <| A3 <| A0 ?_
  (refine B9 rfl rfl (fun _ => rfl) ?_; intro g7)
  refine xN [0,4,7] [7] rfl <| A3 <| A3 <| A0 <| A4 rfl rfl <| b1m rfl rfl <| xN [0,4,7,29] [7] rfl ?_
  refine A8 rfl ?_ ?_ <;> intro hc <;> try simp only [SL] at hc
  ·have hin : a3h w ≠ [] := hc
   refine A3 <| A0 <| A4 rfl rfl ?_
   have hps := hps0
   apply b6j rfl
   ·apply B3
    ·exact B7 rfl
    apply B3
    ·exact B7 rfl
    exact D3
   ·exact c2v (a3h w) 44 (by unfold a3h; omega)
   ·exact ⟨rfl, rfl, rfl, dT rfl, rfl⟩
   ·exact .inl rfl
   ·exact B8
   ·exact N2
   ·(intro _; exact C9 (A9 (A7 fun _ => rfl)) rfl)
   intro g31
   rw [← hps]
   try simp only [List.length_map]
   refine N6 rfl rfl <| A4 rfl rfl <| xN [0,7,31,32,33] [7,1000031] rfl <| C1 <| H4 (β := Nat × List Int × Nat) [(.t 0, _), (.t 31, _), (.t 32, _), (.h 1000031, _)] (fun (z : Nat × List Int × Nat) => match z with | (i, ns, g) => [(.t 33, iV i), (.t 7, .sl 7 g none 0 ns.length), (.h 7, .obj g 0 1 (ns.map iV))]) (fun (z : Nat × List Int × Nat) => match z with | (i, ns, g) => i ≤ ps.length ∧ rdA (ps.take i) = some ns) (fun (z : Nat × List Int × Nat) => match z with | (i, ns, g) => ps.length - i) (0, [], _) ⟨rfl, rfl, rfl, rfl, rfl, rfl, rfl, trivial⟩ ⟨Nat.zero_le _, rfl⟩ ?_
   intro z hb
   obtain ⟨i, ns, g⟩ := z
   try dsimp only at hb
   obtain ⟨hi1, hrd⟩ := hb
   have hpi := fun h : i < ps.length => hpp _ (a1k h)
   have hnl := b2b hrd
   rw [List.length_take] at hnl
   refine A3 <| A0 <| H2 rfl rfl <| xN [0,7,31,32,33,34] [7,1000031] rfl <| A3 ?_
   refine A8 rfl ?_ ?_ <;> intro hc <;> try simp only [SL] at hc
   ·refine B5 <| A3 <| C1 <| A3 <| A0 <| F9 rfl rfl rfl rfl (by omega) (by (simp; done)) rfl <| I5 rfl rfl (by omega) (fun _ => rfl) (fun _ => rfl) rfl <| A5 rfl rfl rfl <| xN [0,7,9,31,32,33] [7,1000031] rfl <| A3 <| A0 <| A4 rfl rfl ?_
    rcases hat : Lib.atoiAll (ps.getD i default) with v | _ | _
    ·skip
     apply xC rfl
     ·apply B3
      ·exact B7 rfl
      exact D3
     ·exact (by have hi := c1h (oG := oG) (ps.getD i default) (by omega); unfold atR at hi; rw [hat] at hi; exact hi)
     refine ⟨⟨rfl, rfl, rfl, dT rfl, rfl⟩, .inl rfl, B8, L0 rfl, fun _ => rfl, fun g39 => ?_⟩
     refine A4 rfl rfl <| B6 rfl rfl rfl <| B6 rfl rfl rfl <| A5 rfl rfl rfl <| A5 rfl rfl rfl <| xN [0,7,10,11,31,32,33] [7,1000031] rfl <| A3 <| A3 <| A0 <| A4 rfl rfl <| c8e rfl rfl rfl rfl <| xN [0,7,10,31,32,33,43] [7,1000031] rfl ?_
     refine A8 rfl (fun hc => absurd hc (by decide)) (fun hc => ?_)
     refine B5 <| A0 <| A4 rfl rfl <| A4 rfl rfl <| D4 (es := List.map iV [_]) rfl rfl (dT rfl) rfl rfl (fun _ => A9 (A7 fun _ => rfl)) (fun _ => rfl) ?_
     intro g46
     refine F7 rfl rfl rfl rfl (by (simp; done)) (by simp) (by decide) rfl rfl rfl rfl (dT rfl) (fun _ => ⟨rfl, rfl⟩) (by simp only [H6]; (simp only [List.length_nil, List.length_cons, List.length_append, Nat.zero_add, List.length_map]; omega)) (fun _ => rfl) ?_
     intro g47
     (refine B0 rfl rfl (by (simp; done)) rfl (fun _ => (A9 (by exact A7 fun _ => rfl))) (fun _ => rfl) ?_; intro g7)
     refine xN [0,7,31,32,33] [7,1000031] rfl <| A0 <| H0 rfl rfl (F3 (by omega)) <| A4 rfl rfl <| xN [0,7,31,32,33] [7,1000031] rfl ?_
     refine ⟨(i + 1, ns ++ [v], _), ?_, (by simp only; omega), ⟨rfl, rfl, rfl, rfl, rfl, rfl, rfl, trivial⟩⟩
     exact ⟨by omega, c7k (by omega) hrd hat⟩
    ·skip
     apply xC rfl
     ·apply B3
      ·exact B7 rfl
      exact D3
     ·exact (by have hi := c1h (oG := oG) (ps.getD i default) (by omega); unfold atR at hi; rw [hat] at hi; exact hi)
     refine ⟨⟨rfl, rfl, rfl, dT rfl, rfl⟩, .inl rfl, B8, L0 rfl, fun _ => rfl, fun g39 => ?_⟩
     refine A4 rfl rfl <| B6 rfl rfl rfl <| B6 rfl rfl rfl <| A5 rfl rfl rfl <| A5 rfl rfl rfl <| xN [0,7,10,11,31,32,33] [7,1000031] rfl <| A3 <| A3 <| A0 <| A4 rfl rfl <| b8l rfl rfl rfl <| xN [0,7,10,31,32,33,43] [7,1000031] rfl ?_
     refine A8 rfl (fun hc => ?_) (fun hc => absurd hc (by decide))
     refine A3 <| A0 ?_
     (refine B9 rfl rfl (fun _ => rfl) ?_; intro g2)
     refine A5 rfl rfl rfl <| xN [2,3] [2] rfl <| C0 <| C8 (G9 rfl rfl (by simp) (by rfl) (E7 rfl rfl (D9 C4))) ?_
     obtain ⟨h1, h2⟩ := b6f (w := w) (by rw [a9v hok hin, ← hps0]; exact b7n (i := i) (by omega) (by intro v hv; rw [hat] at hv; cases hv))
     rw [h1, h2]
     rfl
    skip
    apply xC rfl
    ·apply B3
     ·exact B7 rfl
     exact D3
    ·exact (by have hi := c1h (oG := oG) (ps.getD i default) (by omega); unfold atR at hi; rw [hat] at hi; exact hi)
    refine ⟨⟨rfl, rfl, rfl, dT rfl, rfl⟩, .inl rfl, B8, L0 rfl, fun _ => rfl, fun g39 => ?_⟩
    refine A4 rfl rfl <| B6 rfl rfl rfl <| B6 rfl rfl rfl <| A5 rfl rfl rfl <| A5 rfl rfl rfl <| xN [0,7,10,11,31,32,33] [7,1000031] rfl <| A3 <| A3 <| A0 <| A4 rfl rfl <| b8l rfl rfl rfl <| xN [0,7,10,31,32,33,43] [7,1000031] rfl ?_
    refine A8 rfl (fun hc => ?_) (fun hc => absurd hc (by decide))
    refine A3 <| A0 ?_
    (refine B9 rfl rfl (fun _ => rfl) ?_; intro g2)
    refine A5 rfl rfl rfl <| xN [2,3] [2] rfl <| C0 <| C8 (G9 rfl rfl (by simp) (by rfl) (E7 rfl rfl (D9 C4))) ?_
    obtain ⟨h1, h2⟩ := b6f (w := w) (by rw [a9v hok hin, ← hps0]; exact b7n (i := i) (by omega) (by intro v hv; rw [hat] at hv; cases hv))
    rw [h1, h2]
    rfl
   refine G4 <| A3 <| A0 <| A4 rfl rfl <| A4 rfl rfl ?_
   apply xC rfl
   ·apply B3
    ·exact K2 rfl rfl rfl (by (simp; done)) (fun _ => rfl)
    exact D3
   ·exact Z5 ns (by omega)
   refine ⟨⟨rfl, rfl, rfl, dT rfl, rfl⟩, .inr ⟨rfl, rfl⟩, B8, D5 rfl, fun _ => rfl, fun g51 => ?_⟩
   refine A4 rfl rfl ?_
   refine E6 rfl rfl ?_ ?_ <;> intro hg0 <;> have hg := hg0 <;> try simp only [SG] at hg
   ·refine A4 rfl rfl <| gT rfl rfl ?_
    (have hnb := c2y (ns := ns) (by assumption); have hvl := a7y (show vd ns = true by assumption))
    apply xC rfl
    ·apply B3
     ·exact K2 rfl rfl rfl (by (simp; done)) (fun _ => rfl)
     exact D3
    ·exact a3x ns (by omega) hnb
    refine ⟨⟨rfl, rfl, rfl, dT rfl, rfl⟩, .inr ⟨rfl, rfl⟩, B8, D5 rfl, fun _ => rfl, fun g54 => ?_⟩
    refine gT rfl rfl <| A4 rfl rfl <| gT rfl rfl <| a1m rfl rfl <| G5 rfl (by assumption) rfl rfl ?_
    (refine B0 rfl rfl (by (simp; done)) rfl (fun _ => (A9 (by exact A7 fun _ => rfl))) (fun _ => rfl) ?_; intro g2)
    refine A5 rfl rfl rfl <| xN [2,3] [2] rfl <| C0 <| C8 (G9 rfl rfl (by simp) (by exact A7 fun _ => rfl) (E7 rfl rfl (D9 C4))) ?_
    (have hx := hin; obtain ⟨h1, h2⟩ := a6a (ns := ns) (w := w) (by rw [a9v hok hx, ← hps0]; rw [List.take_of_length_le (by omega)] at hrd; exact hrd))
    (rw [h1, h2, hg, Bool.true_and]; rfl)
   refine gF rfl rfl <| gF rfl rfl <| gF rfl rfl <| H5 rfl (by assumption) rfl rfl ?_
   (refine B0 rfl rfl (by (simp; done)) rfl (fun _ => (A9 (by exact A7 fun _ => rfl))) (fun _ => rfl) ?_; intro g2)
   refine A5 rfl rfl rfl <| xN [2,3] [2] rfl <| C0 <| C8 (G9 rfl rfl (by simp) (by exact A7 fun _ => rfl) (E7 rfl rfl (D9 C4))) ?_
   (have hx := hin; obtain ⟨h1, h2⟩ := a6a (ns := ns) (w := w) (by rw [a9v hok hx, ← hps0]; rw [List.take_of_length_le (by omega)] at hrd; exact hrd))
   (rw [h1, h2, hg, Bool.false_and]; rfl)
  have hie : a3h w = [] := hc
  refine B5 <| A3 <| A0 <| A4 rfl rfl <| A4 rfl rfl ?_
  apply xC rfl
  ·apply B3
   ·exact a9z rfl rfl rfl rfl rfl
   exact D3
  ·exact Z5 [] (by decide)
  refine ⟨⟨rfl, rfl, rfl, dT rfl, rfl⟩, .inr ⟨rfl, rfl⟩, B8, D5 rfl, fun _ => rfl, fun g51 => ?_⟩
  refine A4 rfl rfl ?_
  refine E6 rfl rfl ?_ ?_ <;> intro hg0 <;> have hg := hg0 <;> try simp only [SG] at hg
  ·refine A4 rfl rfl <| gT rfl rfl ?_
   skip
   apply xC rfl
   ·apply B3
    ·exact a9z rfl rfl rfl rfl rfl
    exact D3
   ·exact a3x [] (by decide) (by simp)
   refine ⟨⟨rfl, rfl, rfl, dT rfl, rfl⟩, .inr ⟨rfl, rfl⟩, B8, D5 rfl, fun _ => rfl, fun g54 => ?_⟩
   refine gT rfl rfl <| A4 rfl rfl <| gT rfl rfl <| a1m rfl rfl <| G5 rfl rfl rfl rfl ?_
   (refine B0 rfl rfl (by (simp; done)) rfl (fun _ => (A9 (by rfl))) (fun _ => rfl) ?_; intro g2)
   refine A5 rfl rfl rfl <| xN [2,3] [2] rfl <| C0 <| C8 (G9 rfl rfl (by simp) (by rfl) (E7 rfl rfl (D9 C4))) ?_
   obtain ⟨h1, h2⟩ := a6a (ns := []) (w := w) (c4e hok hie)
   (rw [h1, h2, hg, Bool.true_and]; rfl)
  refine gF rfl rfl <| gF rfl rfl <| gF rfl rfl <| H5 rfl (by assumption) rfl rfl ?_
  (refine B0 rfl rfl (by (simp; done)) rfl (fun _ => (A9 (by rfl))) (fun _ => rfl) ?_; intro g2)
  refine A5 rfl rfl rfl <| xN [2,3] [2] rfl <| C0 <| C8 (G9 rfl rfl (by simp) (by rfl) (E7 rfl rfl (D9 C4))) ?_
  obtain ⟨h1, h2⟩ := a6a (ns := []) (w := w) (c4e hok hie)
  (rw [h1, h2, hg, Bool.false_and]; rfl)
 refine gF rfl rfl <| G5 rfl (by assumption) rfl rfl <| xN [0,4,27] [] rfl ?_
 refine A8 rfl (fun hc => ?_) (fun hc => absurd hc (by decide))
 refine A3 <| A0 ?_
 (refine B9 rfl rfl (fun _ => rfl) ?_; intro g2)
 refine A5 rfl rfl rfl <| xN [2,3] [2] rfl <| C0 <| C8 (G9 rfl rfl (by simp) (by rfl) (E7 rfl rfl (D9 C4))) ?_
 obtain ⟨h1, h2⟩ := b6f (b7p (w := w) (by simp_all [okB]))
 rw [h1, h2]
 rfl

theorem keep_s_readWord : G8 Tryz.f63 = [0, 2, 3, 4, 6, 12, 5] := by kernel_rfl
set_option maxHeartbeats 20000000 in
theorem a0i (w : List UInt8) (hs : w.length ≤ 1048576) : CW (cxT oG) 63 [tV w] = some (.tup [tV (if (numsOf w).isSome = true then lW else w), .own 1 (((numsOf w).getD []).map iV), bV ((numsOf w).isSome || decide (0 ≤ rch (bA w)))], []) := by
 refine G3 rfl Tryz.func63 rfl ⟨by kernel_rfl, rfl, dT rfl, dT rfl, by decide⟩ keep_s_readWord <| A3 <| A0 <| A5 rfl rfl rfl ?_
 (refine B9 rfl rfl (fun _ => rfl) ?_; intro g3)
 refine A5 rfl rfl rfl <| xN [0] [] rfl <| A3 <| A3 <| A0 <| A4 rfl rfl ?_
 apply xC rfl
 ·apply B3
  ·exact B7 rfl
  exact D3
 ·exact (by have hi := b8x (oG := oG) w hs; rw [d2c] at hi; exact hi)
 refine ⟨⟨rfl, rfl, rfl, dT rfl, rfl⟩, .inr ⟨K0 _ _, rfl⟩, B8, I2 (M8 fun _ => I7 rfl M9), fun _ => rfl, fun g9 => ?_⟩
 simp only [List.length_map]
 refine A4 rfl rfl <| B6 rfl rfl rfl <| B6 rfl rfl rfl ?_
 (refine B0 rfl rfl (by (simp; done)) rfl (fun _ => (A9 (by exact A7 fun _ => rfl))) (fun _ => rfl) ?_; intro g5)
 refine A5 rfl rfl rfl <| xN [0,5,6] [5] rfl <| A3 <| A0 <| A4 rfl rfl <| xN [0,5,12] [5] rfl ?_
 refine A8 rfl ?_ ?_ <;> intro hc <;> try simp only [SL] at hc
 ·obtain ⟨ns, hns⟩ := Option.isSome_iff_exists.1 hc
  have hraw := d1x hns
  refine A3 <| A0 <| A4 rfl rfl <| A5 rfl rfl rfl ?_
  (refine B0 rfl rfl (by (simp; done)) rfl (fun _ => (A9 (by exact A7 fun _ => rfl))) (fun _ => rfl) ?_; intro g3)
  refine A5 rfl rfl rfl <| xN [2,3,4] [3] rfl <| C0 <| C8 (E7 rfl rfl (G9 rfl rfl (by simp) (by exact A7 fun _ => rfl) (E7 rfl rfl (D9 C4)))) ?_
  rw [hns, hraw]
  rfl
 have hnn : numsOf w = none := by simpa using hc
 have hwo := c9t w
 refine B5 <| A3 <| A0 <| A4 rfl rfl <| A4 rfl rfl <| b1m rfl rfl <| A4 rfl rfl ?_
 refine E6 rfl rfl ?_ ?_ <;> intro hg0 <;> have hg := hg0 <;> try simp only [SG] at hg
 ·refine A4 rfl rfl <| gT rfl rfl ?_
  apply xC rfl
  ·apply B3
   ·exact B7 rfl
   exact D3
  ·exact a6o (bA w)
  refine ⟨⟨rfl, rfl, rfl, dT rfl, rfl⟩, .inl rfl, B8, D5 rfl, fun _ => rfl, fun g19 => ?_⟩
  refine gT rfl rfl <| c3u rfl rfl <| G5 rfl (by assumption) rfl rfl <| A5 rfl rfl rfl ?_
  (refine B9 rfl rfl (fun _ => rfl) ?_; intro g3)
  refine A5 rfl rfl rfl <| xN [2,3,4] [3] rfl <| C0 <| C8 (E7 rfl rfl (G9 rfl rfl (by simp) (by rfl) (E7 rfl rfl (D9 C4)))) ?_
  rw [hnn, ← hwo]
  simp_all
  try rfl
 refine gF rfl rfl <| gF rfl rfl <| H5 rfl (by assumption) rfl rfl <| A5 rfl rfl rfl ?_
 (refine B9 rfl rfl (fun _ => rfl) ?_; intro g3)
 refine A5 rfl rfl rfl <| xN [2,3,4] [3] rfl <| C0 <| C8 (E7 rfl rfl (G9 rfl rfl (by simp) (by rfl) (E7 rfl rfl (D9 C4)))) ?_
 rw [hnn, ← hwo]
 simp_all
 try rfl

theorem keep_s_readWords : G8 Tryz.f133 = [0, 2, 3, 4, 15, 7, 26, 6, 5, 35, 34, 36, 9, 12, 44, 8, 10, 11, 39, 50] := by kernel_rfl
set_option maxHeartbeats 20000000 in
theorem a8p (ws : List W8) (hws : ws.length ≤ 1048600 ∧ ∀ w ∈ ws, w.length ≤ 1048576) : CW (cxT oG) 133 [.list (ws.map tV)] = some (rtR (rdT ws), []) := by
 obtain ⟨kk, hkk⟩ : ∃ kk : Nat, ws.length < kk := ⟨_, Nat.lt_succ_self _⟩
 revert ws
 induction kk with
 | zero => intro ws hws hkk; exact absurd hkk (Nat.not_lt_zero _)
 | succ kk ih =>
  intro ws hws hkk
  refine G3 rfl Tryz.func133 rfl ⟨by kernel_rfl, rfl, dT rfl, dT rfl, by decide⟩ keep_s_readWords <| A3 <| A0 <| F5 rfl (fun _ => B2 rfl) (fun _ => rfl) ?_
  intro g2
  (refine B9 rfl rfl (fun _ => rfl) ?_; intro g3)
  refine A5 rfl rfl rfl <| xN [0,2] [2] rfl <| A3 <| A3 <| A0 <| A4 rfl rfl <| D6 rfl rfl <| Y3 rfl rfl <| xN [0,2,15] [2] rfl ?_
  refine A8 rfl ?_ ?_ <;> intro hc <;> try simp only [SL] at hc
  ·have hw0 : ws = [] := List.length_eq_zero_iff.1 (by simpa using hc)
   subst hw0
   refine A3 <| A0 <| I6 (fs := [_, _, _]) rfl rfl rfl rfl rfl <| C2 rfl rfl rfl rfl ⟨by decide, rfl, dT rfl, dT rfl, rfl⟩ rfl (by exact B2 rfl) ?_
   (refine B9 rfl rfl (fun _ => rfl) ?_; intro g3)
   refine A5 rfl rfl rfl <| xN [2,3,4] [2,3] rfl <| C0 <| C8 (F6 rfl rfl rfl rfl (F0 rfl (I1 rfl (I1 rfl H7))) (G9 rfl rfl (by simp) (by rfl) (E7 rfl rfl (D9 C4)))) ?_
   rfl
  obtain ⟨w, ws1, rfl⟩ : ∃ w ws1, ws = w :: ws1 := List.exists_cons_of_ne_nil (fun e => by subst e; simp at hc)
  have hw := hws.2 w (by simp)
  refine B5 <| A3 <| A0 <| A4 rfl rfl <| C7 rfl rfl rfl (fun _ => rfl) (by (change 0 < _; omega)) <| C6 rfl rfl rfl ?_
  rcases c9f w with ⟨ns, hns⟩ | ⟨hnn, hn⟩ | ⟨hnn, hn⟩ | ⟨hnn, hn⟩ | ⟨hnn, hn⟩
  ·skip
   apply xC rfl
   ·apply B3
    ·exact B7 rfl
    exact D3
   ·exact (show CW (cxT oG) 63 [tV w] = some (.tup [tV lW, .own 1 (ns.map iV), bV true], []) from by have hi := a0i (oG := oG) w (by omega); rw [hns] at hi; exact hi)
   refine ⟨⟨rfl, rfl, rfl, dT rfl, rfl⟩, .inr ⟨by simp [hasList, G2], rfl⟩, B8, I2 (I7 rfl (M8 fun _ => I7 rfl M9)), fun _ => C9 (A9 (A7 fun _ => rfl)) (by rfl), fun g21 => ?_⟩
   try simp only [List.length_map]
   refine A4 rfl rfl <| B6 rfl rfl rfl <| B6 rfl rfl rfl <| B6 rfl rfl rfl <| A5 rfl rfl rfl ?_
   (refine B0 rfl rfl (by (simp; done)) rfl (fun _ => (A9 (by exact A7 fun _ => rfl))) (fun _ => rfl) ?_; intro g6)
   refine A5 rfl rfl rfl <| xN [0,2,5,6,7] [2,6] rfl <| A3 <| A3 <| A0 <| A4 rfl rfl <| K9 rfl <| xN [0,2,5,6,26] [2,6] rfl ?_
   refine A8 rfl (fun hc => absurd hc (by decide)) (fun hc => ?_)
   refine B5 <| A3 <| A0 <| A4 rfl rfl <| A4 rfl rfl <| I6 (fs := [_, _, _]) rfl rfl rfl rfl rfl <| A4 rfl rfl <| N9 rfl rfl rfl (Mv.sized_map fun _ => rfl) L2 (I0 (n := 1) rfl) (by simp) ?_
   rw [show ((List.map tV (w :: ws1)).drop 1).take ((List.map tV (w :: ws1)).length - 1) = ws1.map tV from by rw [List.map_cons, List.drop_succ_cons, List.drop_zero, List.take_of_length_le (by simp)]]
   refine F5 rfl (fun _ => B2 rfl) (fun _ => rfl) ?_
   intro g8
   refine E9 rfl rfl rfl rfl (G1 rfl (L7 (by decide) (G1 rfl J0))) (fun _ => rfl) ⟨by decide, rfl, dT rfl, Nat.le_refl _⟩ (fun _ => rfl) (fun _ => rfl) (fun _ => (by rfl)) ?_
   intro z
   simp only [J4, List.cons_append, List.nil_append]
   refine A5 rfl rfl rfl ?_
   refine L1 ⟨fun _ => ⟨by (simp only [a1t, List.nil_append, List.append_nil, List.map_cons, List.map_nil, List.cons_append]; decide +kernel), by decide +kernel⟩, [(.t 2, _), (.t 5, _), (.t 8, _), (.t 9, _), (.h 2, _), (.h 8, _), (.h 6, _)], ⟨rfl, rfl, rfl, rfl, rfl, rfl, rfl, rfl, rfl, rfl, rfl, rfl, rfl, rfl, trivial⟩, ?_⟩
   refine A3 <| A3 <| A0 <| A4 rfl rfl ?_
   apply xC rfl
   ·apply B3
    ·exact B7 rfl
    exact D3
   ·exact a6o (bA lW)
   refine ⟨⟨rfl, rfl, rfl, dT rfl, rfl⟩, .inl rfl, B8, D5 rfl, fun _ => rfl, fun g34 => ?_⟩
   rw [show nd (bA lW) = 0 from c9l rfl]
   refine A4 rfl rfl <| xN [2,8,9,34,35] [2,8,6] rfl <| C1 <| G6 <| A3 <| A0 <| H2 rfl rfl <| xN [2,8,9,34,35,36] [2,8,6] rfl <| A3 ?_
   refine A8 rfl (fun hc => absurd hc (by decide)) (fun hc => ?_)
   refine G4 <| A3 <| A0 <| C5 rfl rfl rfl rfl rfl <| A4 rfl rfl <| E9 rfl rfl rfl rfl (G1 rfl (L7 (by decide) (G1 rfl J0))) (fun _ => rfl) ⟨by decide, rfl, dT rfl, Nat.le_refl _⟩ (fun _ => rfl) (fun _ => rfl) (fun _ => (by rfl)) ?_
   intro z
   simp only [J4, List.cons_append, List.nil_append]
   refine A5 rfl rfl rfl <| A5 rfl rfl rfl <| xN [2,3,4] [2,6] rfl <| C0 <| C8 (F6 rfl rfl rfl rfl (F0 rfl (J5 rfl rfl (by simp) (fun _ => rfl) (I1 rfl H7))) (E7 rfl rfl (E7 rfl rfl (D9 C4)))) ?_
   rw [b9i hns]
   rfl
  ·skip
   apply xC rfl
   ·apply B3
    ·exact B7 rfl
    exact D3
   ·exact (show CW (cxT oG) 63 [tV w] = some (.tup [tV w, .own 1 [], bV true], []) from by have hi := a0i (oG := oG) w (by omega); rw [hnn] at hi; rw [show decide (0 ≤ rch (bA w)) = true from decide_eq_true (by omega)] at hi; exact hi)
   refine ⟨⟨rfl, rfl, rfl, dT rfl, rfl⟩, .inr ⟨rfl, rfl⟩, B8, I2 (I7 rfl (M8 fun _ => I7 rfl M9)), fun _ => C9 (A9 rfl) (by rfl), fun g21 => ?_⟩
   try simp only [List.length_map]
   refine A4 rfl rfl <| B6 rfl rfl rfl <| B6 rfl rfl rfl <| B6 rfl rfl rfl <| A5 rfl rfl rfl ?_
   (refine B0 rfl rfl (by (simp; done)) rfl (fun _ => (A9 (by rfl))) (fun _ => rfl) ?_; intro g6)
   refine A5 rfl rfl rfl <| xN [0,2,5,6,7] [2,6] rfl <| A3 <| A3 <| A0 <| A4 rfl rfl <| K9 rfl <| xN [0,2,5,6,26] [2,6] rfl ?_
   refine A8 rfl (fun hc => absurd hc (by decide)) (fun hc => ?_)
   refine B5 <| A3 <| A0 <| A4 rfl rfl <| A4 rfl rfl <| I6 (fs := [_, _, _]) rfl rfl rfl rfl rfl <| A4 rfl rfl <| N9 rfl rfl rfl (Mv.sized_map fun _ => rfl) L2 (I0 (n := 1) rfl) (by simp) ?_
   rw [show ((List.map tV (w :: ws1)).drop 1).take ((List.map tV (w :: ws1)).length - 1) = ws1.map tV from by rw [List.map_cons, List.drop_succ_cons, List.drop_zero, List.take_of_length_le (by simp)]]
   refine F5 rfl (fun _ => B2 rfl) (fun _ => rfl) ?_
   intro g8
   refine E9 rfl rfl rfl rfl (G1 rfl (L7 (by decide) (G1 rfl J0))) (fun _ => rfl) ⟨by decide, rfl, dT rfl, Nat.le_refl _⟩ (fun _ => rfl) (fun _ => rfl) (fun _ => (by rfl)) ?_
   intro z
   simp only [J4, List.cons_append, List.nil_append]
   refine A5 rfl rfl rfl ?_
   refine L1 ⟨fun _ => ⟨by (simp only [a1t, List.nil_append, List.append_nil, List.map_cons, List.map_nil, List.cons_append]; decide +kernel), by decide +kernel⟩, [(.t 2, _), (.t 5, _), (.t 8, _), (.t 9, _), (.h 2, _), (.h 8, _), (.h 6, _)], ⟨rfl, rfl, rfl, rfl, rfl, rfl, rfl, rfl, rfl, rfl, rfl, rfl, rfl, rfl, trivial⟩, ?_⟩
   refine A3 <| A3 <| A0 <| A4 rfl rfl ?_
   apply xC rfl
   ·apply B3
    ·exact B7 rfl
    exact D3
   ·exact a6o (bA w)
   refine ⟨⟨rfl, rfl, rfl, dT rfl, rfl⟩, .inl rfl, B8, D5 rfl, fun _ => rfl, fun g34 => ?_⟩
   rw [show nd (bA w) = 0 from (S4 (by omega)).trans hn]
   refine A4 rfl rfl <| xN [2,8,9,34,35] [2,8,6] rfl <| C1 <| G6 <| A3 <| A0 <| H2 rfl rfl <| xN [2,8,9,34,35,36] [2,8,6] rfl <| A3 ?_
   refine A8 rfl (fun hc => absurd hc (by decide)) (fun hc => ?_)
   refine G4 <| A3 <| A0 <| C5 rfl rfl rfl rfl rfl <| A4 rfl rfl <| E9 rfl rfl rfl rfl (G1 rfl (L7 (by decide) (G1 rfl J0))) (fun _ => rfl) ⟨by decide, rfl, dT rfl, Nat.le_refl _⟩ (fun _ => rfl) (fun _ => rfl) (fun _ => (by rfl)) ?_
   intro z
   simp only [J4, List.cons_append, List.nil_append]
   refine A5 rfl rfl rfl <| A5 rfl rfl rfl <| xN [2,3,4] [2,6] rfl <| C0 <| C8 (F6 rfl rfl rfl rfl (F0 rfl (b5q rfl rfl rfl (I1 rfl H7))) (E7 rfl rfl (E7 rfl rfl (D9 C4)))) ?_
   rw [c3j hnn hn]
   rfl
  ·skip
   apply xC rfl
   ·apply B3
    ·exact B7 rfl
    exact D3
   ·exact (show CW (cxT oG) 63 [tV w] = some (.tup [tV w, .own 1 [], bV true], []) from by have hi := a0i (oG := oG) w (by omega); rw [hnn] at hi; rw [show decide (0 ≤ rch (bA w)) = true from decide_eq_true (by omega)] at hi; exact hi)
   refine ⟨⟨rfl, rfl, rfl, dT rfl, rfl⟩, .inr ⟨rfl, rfl⟩, B8, I2 (I7 rfl (M8 fun _ => I7 rfl M9)), fun _ => C9 (A9 rfl) (by rfl), fun g21 => ?_⟩
   try simp only [List.length_map]
   refine A4 rfl rfl <| B6 rfl rfl rfl <| B6 rfl rfl rfl <| B6 rfl rfl rfl <| A5 rfl rfl rfl ?_
   (refine B0 rfl rfl (by (simp; done)) rfl (fun _ => (A9 (by rfl))) (fun _ => rfl) ?_; intro g6)
   refine A5 rfl rfl rfl <| xN [0,2,5,6,7] [2,6] rfl <| A3 <| A3 <| A0 <| A4 rfl rfl <| K9 rfl <| xN [0,2,5,6,26] [2,6] rfl ?_
   refine A8 rfl (fun hc => absurd hc (by decide)) (fun hc => ?_)
   refine B5 <| A3 <| A0 <| A4 rfl rfl <| A4 rfl rfl <| I6 (fs := [_, _, _]) rfl rfl rfl rfl rfl <| A4 rfl rfl <| N9 rfl rfl rfl (Mv.sized_map fun _ => rfl) L2 (I0 (n := 1) rfl) (by simp) ?_
   rw [show ((List.map tV (w :: ws1)).drop 1).take ((List.map tV (w :: ws1)).length - 1) = ws1.map tV from by rw [List.map_cons, List.drop_succ_cons, List.drop_zero, List.take_of_length_le (by simp)]]
   refine F5 rfl (fun _ => B2 rfl) (fun _ => rfl) ?_
   intro g8
   refine E9 rfl rfl rfl rfl (G1 rfl (L7 (by decide) (G1 rfl J0))) (fun _ => rfl) ⟨by decide, rfl, dT rfl, Nat.le_refl _⟩ (fun _ => rfl) (fun _ => rfl) (fun _ => (by rfl)) ?_
   intro z
   simp only [J4, List.cons_append, List.nil_append]
   refine A5 rfl rfl rfl ?_
   refine L1 ⟨fun _ => ⟨by (simp only [a1t, List.nil_append, List.append_nil, List.map_cons, List.map_nil, List.cons_append]; decide +kernel), by decide +kernel⟩, [(.t 2, _), (.t 5, _), (.t 8, _), (.t 9, _), (.h 2, _), (.h 8, _), (.h 6, _)], ⟨rfl, rfl, rfl, rfl, rfl, rfl, rfl, rfl, rfl, rfl, rfl, rfl, rfl, rfl, trivial⟩, ?_⟩
   refine A3 <| A3 <| A0 <| A4 rfl rfl ?_
   apply xC rfl
   ·apply B3
    ·exact B7 rfl
    exact D3
   ·exact a6o (bA w)
   refine ⟨⟨rfl, rfl, rfl, dT rfl, rfl⟩, .inl rfl, B8, D5 rfl, fun _ => rfl, fun g34 => ?_⟩
   rw [show nd (bA w) = 1 from (S4 (by omega)).trans hn]
   refine A4 rfl rfl <| xN [2,8,9,34,35] [2,8,6] rfl <| C1 <| G6 <| A3 <| A0 <| H2 rfl rfl <| xN [2,8,9,34,35,36] [2,8,6] rfl <| A3 ?_
   refine A8 rfl (fun hc => ?_) (fun hc => absurd hc (by decide))
   refine B5 <| A3 <| C1 <| A3 <| A0 <| A4 rfl rfl ?_
   rcases hr1 : rdT ws1 with _ | ⟨k1, r1⟩
   ·skip
    apply xC rfl
    ·apply B3
     ·exact B7 rfl
     exact D3
    ·exact (by have hi := ih ws1 ⟨by simp only [List.length_cons] at hws; omega, fun x hx => hws.2 x (List.mem_cons_of_mem _ hx)⟩ (by simp only [List.length_cons] at hkk; omega); rw [hr1] at hi; exact hi)
    refine ⟨⟨rfl, rfl, rfl, dT rfl, rfl⟩, .inl rfl, B8, I2 (I7 rfl (M8 fun _ => I7 rfl M9)), fun _ => C9 (A9 rfl) (by rfl), fun g39 => ?_⟩
    refine A4 rfl rfl <| B6 rfl rfl rfl <| B6 rfl rfl rfl <| B6 rfl rfl rfl <| F5 rfl (fun _ => B2 rfl) (fun _ => rfl) ?_
    intro g10
    refine C2 rfl rfl rfl rfl ⟨by decide, rfl, dT rfl, dT rfl, rfl⟩ rfl (by exact B2 rfl) ?_
    (refine B0 rfl rfl (by (simp; done)) rfl (fun _ => (A9 (by rfl))) (fun _ => rfl) ?_; intro g11)
    refine A5 rfl rfl rfl <| xN [2,8,10,11,12,34,35] [2,8,6,10] rfl <| A3 <| A3 <| A0 <| A4 rfl rfl <| K9 rfl <| xN [2,8,10,11,34,35,44] [2,8,6,10] rfl ?_
    refine A8 rfl (fun hc => ?_) (fun hc => absurd hc (by decide))
    refine A3 <| A0 <| I6 (fs := [_, _, _]) rfl rfl rfl rfl rfl <| C2 rfl rfl rfl rfl ⟨by decide, rfl, dT rfl, dT rfl, rfl⟩ rfl (by exact B2 rfl) ?_
    (refine B9 rfl rfl (fun _ => rfl) ?_; intro g3)
    refine A5 rfl rfl rfl <| xN [2,3,4] [2,3] rfl <| C0 <| C8 (F6 rfl rfl rfl rfl (F0 rfl (I1 rfl (I1 rfl H7))) (G9 rfl rfl (by simp) (by rfl) (E7 rfl rfl (D9 C4)))) ?_
    rw [b5m hnn hn, hr1]
    rfl
   skip
   apply xC rfl
   ·apply B3
    ·exact B7 rfl
    exact D3
   ·exact (by have hi := ih ws1 ⟨by simp only [List.length_cons] at hws; omega, fun x hx => hws.2 x (List.mem_cons_of_mem _ hx)⟩ (by simp only [List.length_cons] at hkk; omega); rw [hr1] at hi; exact hi)
   refine ⟨⟨rfl, rfl, rfl, dT rfl, rfl⟩, .inl rfl, B8, L0 rfl, fun _ => rfl, fun g39 => ?_⟩
   refine A4 rfl rfl <| B6 rfl rfl rfl <| B6 rfl rfl rfl <| B6 rfl rfl rfl <| F5 rfl (fun _ => B2 rfl) (fun _ => rfl) ?_
   intro g10
   refine C2 rfl rfl rfl rfl ⟨by decide, rfl, dT rfl, dT rfl, rfl⟩ rfl (by exact B2 rfl) <| A5 rfl rfl rfl <| A5 rfl rfl rfl <| xN [2,8,10,11,12,34,35] [2,8,6,10] rfl <| A3 <| A3 <| A0 <| A4 rfl rfl <| K9 rfl <| xN [2,8,10,11,34,35,44] [2,8,6,10] rfl ?_
   refine A8 rfl (fun hc => absurd hc (by decide)) (fun hc => ?_)
   refine B5 <| A3 <| A0 <| B1 rfl rfl (dT rfl) rfl rfl <| B4 rfl rfl rfl rfl rfl rfl <| C5 rfl rfl rfl rfl rfl <| D4 (es := List.map trV [_]) rfl rfl (dT rfl) rfl rfl (fun _ => A9 (A7 fun _ => rfl)) (fun _ => rfl) ?_
   intro g49
   refine P8 rfl rfl rfl (by simp) (by decide) rfl rfl rfl (dT rfl) (fun _ => ⟨rfl, rfl⟩) (by simp only [H6]; (simp only [List.length_nil, List.length_cons, List.length_append, Nat.zero_add, List.length_map]; omega)) (fun _ => rfl) ?_
   intro g50
   refine B1 rfl rfl (dT rfl) rfl rfl <| L8 rfl rfl rfl rfl rfl (Nat.le_refl _) rfl <| xN [2,8,11,34,35] [2,8,6,1000050] rfl <| A0 <| A4 rfl rfl <| A5 rfl rfl rfl <| xN [2,8,9,34,35] [2,8,6,1000050] rfl <| A0 <| H0 rfl rfl (F3 (by omega)) <| A4 rfl rfl <| xN [2,8,9,34,35] [2,8,6,1000050] rfl <| G6 <| A3 <| A0 <| H2 rfl rfl <| xN [2,8,9,34,35,36] [2,8,6,1000050] rfl <| A3 ?_
   refine A8 rfl (fun hc => absurd hc (by decide)) (fun hc => ?_)
   refine G4 <| A3 <| A0 <| C5 rfl rfl rfl rfl rfl <| A4 rfl rfl <| E9 rfl rfl rfl rfl (G1 rfl (L7 (by decide) (V7 (by decide) (by decide) rfl (by simp) fun _ => J0))) (fun _ => rfl) ⟨by decide, rfl, dT rfl, Nat.le_refl _⟩ (fun _ => rfl) (fun _ => rfl) (fun _ => C9 (by rfl) (C9 (A9 (A7 fun _ => rfl)) (by rfl))) ?_
   intro z
   simp only [J4, List.cons_append, List.nil_append]
   refine A5 rfl rfl rfl <| A5 rfl rfl rfl <| xN [2,3,4] [2,6,300002] rfl <| C0 <| C8 (F6 rfl rfl rfl rfl (F0 rfl (b5q rfl rfl rfl (J5 rfl rfl (by simp) (fun _ => rfl) H7))) (E7 rfl rfl (E7 rfl rfl (D9 C4)))) ?_
   rw [b5m hnn hn, hr1]
   rfl
  ·skip
   apply xC rfl
   ·apply B3
    ·exact B7 rfl
    exact D3
   ·exact (show CW (cxT oG) 63 [tV w] = some (.tup [tV w, .own 1 [], bV true], []) from by have hi := a0i (oG := oG) w (by omega); rw [hnn] at hi; rw [show decide (0 ≤ rch (bA w)) = true from decide_eq_true (by omega)] at hi; exact hi)
   refine ⟨⟨rfl, rfl, rfl, dT rfl, rfl⟩, .inr ⟨rfl, rfl⟩, B8, I2 (I7 rfl (M8 fun _ => I7 rfl M9)), fun _ => C9 (A9 rfl) (by rfl), fun g21 => ?_⟩
   try simp only [List.length_map]
   refine A4 rfl rfl <| B6 rfl rfl rfl <| B6 rfl rfl rfl <| B6 rfl rfl rfl <| A5 rfl rfl rfl ?_
   (refine B0 rfl rfl (by (simp; done)) rfl (fun _ => (A9 (by rfl))) (fun _ => rfl) ?_; intro g6)
   refine A5 rfl rfl rfl <| xN [0,2,5,6,7] [2,6] rfl <| A3 <| A3 <| A0 <| A4 rfl rfl <| K9 rfl <| xN [0,2,5,6,26] [2,6] rfl ?_
   refine A8 rfl (fun hc => absurd hc (by decide)) (fun hc => ?_)
   refine B5 <| A3 <| A0 <| A4 rfl rfl <| A4 rfl rfl <| I6 (fs := [_, _, _]) rfl rfl rfl rfl rfl <| A4 rfl rfl <| N9 rfl rfl rfl (Mv.sized_map fun _ => rfl) L2 (I0 (n := 1) rfl) (by simp) ?_
   rw [show ((List.map tV (w :: ws1)).drop 1).take ((List.map tV (w :: ws1)).length - 1) = ws1.map tV from by rw [List.map_cons, List.drop_succ_cons, List.drop_zero, List.take_of_length_le (by simp)]]
   refine F5 rfl (fun _ => B2 rfl) (fun _ => rfl) ?_
   intro g8
   refine E9 rfl rfl rfl rfl (G1 rfl (L7 (by decide) (G1 rfl J0))) (fun _ => rfl) ⟨by decide, rfl, dT rfl, Nat.le_refl _⟩ (fun _ => rfl) (fun _ => rfl) (fun _ => (by rfl)) ?_
   intro z
   simp only [J4, List.cons_append, List.nil_append]
   refine A5 rfl rfl rfl ?_
   refine L1 ⟨fun _ => ⟨by (simp only [a1t, List.nil_append, List.append_nil, List.map_cons, List.map_nil, List.cons_append]; decide +kernel), by decide +kernel⟩, [(.t 2, _), (.t 5, _), (.t 8, _), (.t 9, _), (.h 2, _), (.h 8, _), (.h 6, _)], ⟨rfl, rfl, rfl, rfl, rfl, rfl, rfl, rfl, rfl, rfl, rfl, rfl, rfl, rfl, trivial⟩, ?_⟩
   refine A3 <| A3 <| A0 <| A4 rfl rfl ?_
   apply xC rfl
   ·apply B3
    ·exact B7 rfl
    exact D3
   ·exact a6o (bA w)
   refine ⟨⟨rfl, rfl, rfl, dT rfl, rfl⟩, .inl rfl, B8, D5 rfl, fun _ => rfl, fun g34 => ?_⟩
   rw [show nd (bA w) = 2 from (S4 (by omega)).trans hn]
   refine A4 rfl rfl <| xN [2,8,9,34,35] [2,8,6] rfl <| C1 <| G6 <| A3 <| A0 <| H2 rfl rfl <| xN [2,8,9,34,35,36] [2,8,6] rfl <| A3 ?_
   refine A8 rfl (fun hc => ?_) (fun hc => absurd hc (by decide))
   refine B5 <| A3 <| C1 <| A3 <| A0 <| A4 rfl rfl ?_
   rcases hr1 : rdT ws1 with _ | ⟨k1, r1⟩
   ·skip
    apply xC rfl
    ·apply B3
     ·exact B7 rfl
     exact D3
    ·exact (by have hi := ih ws1 ⟨by simp only [List.length_cons] at hws; omega, fun x hx => hws.2 x (List.mem_cons_of_mem _ hx)⟩ (by simp only [List.length_cons] at hkk; omega); rw [hr1] at hi; exact hi)
    refine ⟨⟨rfl, rfl, rfl, dT rfl, rfl⟩, .inl rfl, B8, I2 (I7 rfl (M8 fun _ => I7 rfl M9)), fun _ => C9 (A9 rfl) (by rfl), fun g39 => ?_⟩
    refine A4 rfl rfl <| B6 rfl rfl rfl <| B6 rfl rfl rfl <| B6 rfl rfl rfl <| F5 rfl (fun _ => B2 rfl) (fun _ => rfl) ?_
    intro g10
    refine C2 rfl rfl rfl rfl ⟨by decide, rfl, dT rfl, dT rfl, rfl⟩ rfl (by exact B2 rfl) ?_
    (refine B0 rfl rfl (by (simp; done)) rfl (fun _ => (A9 (by rfl))) (fun _ => rfl) ?_; intro g11)
    refine A5 rfl rfl rfl <| xN [2,8,10,11,12,34,35] [2,8,6,10] rfl <| A3 <| A3 <| A0 <| A4 rfl rfl <| K9 rfl <| xN [2,8,10,11,34,35,44] [2,8,6,10] rfl ?_
    refine A8 rfl (fun hc => ?_) (fun hc => absurd hc (by decide))
    refine A3 <| A0 <| I6 (fs := [_, _, _]) rfl rfl rfl rfl rfl <| C2 rfl rfl rfl rfl ⟨by decide, rfl, dT rfl, dT rfl, rfl⟩ rfl (by exact B2 rfl) ?_
    (refine B9 rfl rfl (fun _ => rfl) ?_; intro g3)
    refine A5 rfl rfl rfl <| xN [2,3,4] [2,3] rfl <| C0 <| C8 (F6 rfl rfl rfl rfl (F0 rfl (I1 rfl (I1 rfl H7))) (G9 rfl rfl (by simp) (by rfl) (E7 rfl rfl (D9 C4)))) ?_
    rw [a5c hnn hn, hr1]
    rfl
   skip
   apply xC rfl
   ·apply B3
    ·exact B7 rfl
    exact D3
   ·exact (by have hi := ih ws1 ⟨by simp only [List.length_cons] at hws; omega, fun x hx => hws.2 x (List.mem_cons_of_mem _ hx)⟩ (by simp only [List.length_cons] at hkk; omega); rw [hr1] at hi; exact hi)
   refine ⟨⟨rfl, rfl, rfl, dT rfl, rfl⟩, .inl rfl, B8, L0 rfl, fun _ => rfl, fun g39 => ?_⟩
   refine A4 rfl rfl <| B6 rfl rfl rfl <| B6 rfl rfl rfl <| B6 rfl rfl rfl <| F5 rfl (fun _ => B2 rfl) (fun _ => rfl) ?_
   intro g10
   refine C2 rfl rfl rfl rfl ⟨by decide, rfl, dT rfl, dT rfl, rfl⟩ rfl (by exact B2 rfl) <| A5 rfl rfl rfl <| A5 rfl rfl rfl <| xN [2,8,10,11,12,34,35] [2,8,6,10] rfl <| A3 <| A3 <| A0 <| A4 rfl rfl <| K9 rfl <| xN [2,8,10,11,34,35,44] [2,8,6,10] rfl ?_
   refine A8 rfl (fun hc => absurd hc (by decide)) (fun hc => ?_)
   refine B5 <| A3 <| A0 <| B1 rfl rfl (dT rfl) rfl rfl <| B4 rfl rfl rfl rfl rfl rfl <| C5 rfl rfl rfl rfl rfl <| D4 (es := List.map trV [_]) rfl rfl (dT rfl) rfl rfl (fun _ => A9 (A7 fun _ => rfl)) (fun _ => rfl) ?_
   intro g49
   refine P8 rfl rfl rfl (by simp) (by decide) rfl rfl rfl (dT rfl) (fun _ => ⟨rfl, rfl⟩) (by simp only [H6]; (simp only [List.length_nil, List.length_cons, List.length_append, Nat.zero_add, List.length_map]; omega)) (fun _ => rfl) ?_
   intro g50
   refine B1 rfl rfl (dT rfl) rfl rfl <| L8 rfl rfl rfl rfl rfl (Nat.le_refl _) rfl <| xN [2,8,11,34,35] [2,8,6,1000050] rfl <| A0 <| A4 rfl rfl <| A5 rfl rfl rfl <| xN [2,8,9,34,35] [2,8,6,1000050] rfl <| A0 <| H0 rfl rfl (F3 (by omega)) <| A4 rfl rfl <| xN [2,8,9,34,35] [2,8,6,1000050] rfl <| G6 <| A3 <| A0 <| H2 rfl rfl <| xN [2,8,9,34,35,36] [2,8,6,1000050] rfl <| A3 ?_
   refine A8 rfl (fun hc => ?_) (fun hc => absurd hc (by decide))
   refine B5 <| A3 <| C1 <| A3 <| A0 <| A4 rfl rfl ?_
   rcases hr2 : rdT r1 with _ | ⟨k2, r2⟩
   ·skip
    apply xC rfl
    ·apply B3
     ·exact B7 rfl
     exact D3
    ·exact (by have hi := ih r1 ⟨by have := Y8 hr1; simp only [List.length_cons] at hws; omega, fun x hx => hws.2 x (List.mem_cons_of_mem _ (b0b hr1 x hx))⟩ (by have := Y8 hr1; simp only [List.length_cons] at hkk; omega); rw [hr2] at hi; exact hi)
    refine ⟨⟨rfl, rfl, rfl, dT rfl, rfl⟩, .inl rfl, B8, I2 (I7 rfl (M8 fun _ => I7 rfl M9)), fun _ => C9 (A9 rfl) (by rfl), fun g39 => ?_⟩
    refine A4 rfl rfl <| B6 rfl rfl rfl <| B6 rfl rfl rfl <| B6 rfl rfl rfl <| F5 rfl (fun _ => B2 rfl) (fun _ => rfl) ?_
    intro g10
    refine C2 rfl rfl rfl rfl ⟨by decide, rfl, dT rfl, dT rfl, rfl⟩ rfl (by exact B2 rfl) ?_
    (refine B0 rfl rfl (by (simp; done)) rfl (fun _ => (A9 (by rfl))) (fun _ => rfl) ?_; intro g11)
    refine A5 rfl rfl rfl <| xN [2,8,10,11,12,34,35] [2,8,6,1000050,10] rfl <| A3 <| A3 <| A0 <| A4 rfl rfl <| K9 rfl <| xN [2,8,10,11,34,35,44] [2,8,6,1000050,10] rfl ?_
    refine A8 rfl (fun hc => ?_) (fun hc => absurd hc (by decide))
    refine A3 <| A0 <| I6 (fs := [_, _, _]) rfl rfl rfl rfl rfl <| C2 rfl rfl rfl rfl ⟨by decide, rfl, dT rfl, dT rfl, rfl⟩ rfl (by exact B2 rfl) ?_
    (refine B9 rfl rfl (fun _ => rfl) ?_; intro g3)
    refine A5 rfl rfl rfl <| xN [2,3,4] [2,3] rfl <| C0 <| C8 (F6 rfl rfl rfl rfl (F0 rfl (I1 rfl (I1 rfl H7))) (G9 rfl rfl (by simp) (by rfl) (E7 rfl rfl (D9 C4)))) ?_
    rw [a5c hnn hn, hr1, Option.bind_some, hr2]
    rfl
   skip
   apply xC rfl
   ·apply B3
    ·exact B7 rfl
    exact D3
   ·exact (by have hi := ih r1 ⟨by have := Y8 hr1; simp only [List.length_cons] at hws; omega, fun x hx => hws.2 x (List.mem_cons_of_mem _ (b0b hr1 x hx))⟩ (by have := Y8 hr1; simp only [List.length_cons] at hkk; omega); rw [hr2] at hi; exact hi)
   refine ⟨⟨rfl, rfl, rfl, dT rfl, rfl⟩, .inl rfl, B8, L0 rfl, fun _ => rfl, fun g39 => ?_⟩
   refine A4 rfl rfl <| B6 rfl rfl rfl <| B6 rfl rfl rfl <| B6 rfl rfl rfl <| F5 rfl (fun _ => B2 rfl) (fun _ => rfl) ?_
   intro g10
   refine C2 rfl rfl rfl rfl ⟨by decide, rfl, dT rfl, dT rfl, rfl⟩ rfl (by exact B2 rfl) <| A5 rfl rfl rfl <| A5 rfl rfl rfl <| xN [2,8,10,11,12,34,35] [2,8,6,1000050,10] rfl <| A3 <| A3 <| A0 <| A4 rfl rfl <| K9 rfl <| xN [2,8,10,11,34,35,44] [2,8,6,1000050,10] rfl ?_
   refine A8 rfl (fun hc => absurd hc (by decide)) (fun hc => ?_)
   refine B5 <| A3 <| A0 <| B1 rfl rfl (dT rfl) rfl rfl <| B4 rfl rfl rfl rfl rfl rfl <| C5 rfl rfl rfl rfl rfl <| D4 (es := List.map trV [_]) rfl rfl (dT rfl) rfl rfl (fun _ => A9 (A7 fun _ => rfl)) (fun _ => rfl) ?_
   intro g49
   refine F7 rfl rfl rfl rfl (by (simp; done)) (by simp) (by decide) rfl rfl rfl rfl (dT rfl) (fun _ => ⟨rfl, rfl⟩) (by simp only [H6]; (simp only [List.length_nil, List.length_cons, List.length_append, Nat.zero_add, List.length_map]; omega)) (fun _ => rfl) ?_
   intro g50
   refine B1 rfl rfl (dT rfl) rfl rfl <| L8 rfl rfl rfl rfl rfl (Nat.le_refl _) rfl <| xN [2,8,11,34,35] [2,8,6,1000050] rfl <| A0 <| A4 rfl rfl <| A5 rfl rfl rfl <| xN [2,8,9,34,35] [2,8,6,1000050] rfl <| A0 <| H0 rfl rfl (F3 (by omega)) <| A4 rfl rfl <| xN [2,8,9,34,35] [2,8,6,1000050] rfl <| G6 <| A3 <| A0 <| H2 rfl rfl <| xN [2,8,9,34,35,36] [2,8,6,1000050] rfl <| A3 ?_
   refine A8 rfl (fun hc => absurd hc (by decide)) (fun hc => ?_)
   refine G4 <| A3 <| A0 <| C5 rfl rfl rfl rfl rfl <| A4 rfl rfl <| E9 rfl rfl rfl rfl (G1 rfl (L7 (by decide) (V7 (by decide) (by decide) rfl (by simp) fun _ => J0))) (fun _ => rfl) ⟨by decide, rfl, dT rfl, Nat.le_refl _⟩ (fun _ => rfl) (fun _ => rfl) (fun _ => C9 (by rfl) (C9 (A9 (A7 fun _ => rfl)) (by rfl))) ?_
   intro z
   simp only [J4, List.cons_append, List.nil_append]
   refine A5 rfl rfl rfl <| A5 rfl rfl rfl <| xN [2,3,4] [2,6,300002] rfl <| C0 <| C8 (F6 rfl rfl rfl rfl (F0 rfl (b5q rfl rfl rfl (J5 rfl rfl (by simp) (fun _ => rfl) H7))) (E7 rfl rfl (E7 rfl rfl (D9 C4)))) ?_
   rw [a5c hnn hn, hr1, Option.bind_some, hr2]
   rfl
  skip
  apply xC rfl
  ·apply B3
   ·exact B7 rfl
   exact D3
  ·exact (show CW (cxT oG) 63 [tV w] = some (.tup [tV w, .own 1 [], bV false], []) from by have hi := a0i (oG := oG) w (by omega); rw [hnn] at hi; rw [show decide (0 ≤ rch (bA w)) = false from decide_eq_false (by omega)] at hi; exact hi)
  refine ⟨⟨rfl, rfl, rfl, dT rfl, rfl⟩, .inr ⟨rfl, rfl⟩, B8, I2 (I7 rfl (M8 fun _ => I7 rfl M9)), fun _ => C9 (A9 rfl) (by rfl), fun g21 => ?_⟩
  try simp only [List.length_map]
  refine A4 rfl rfl <| B6 rfl rfl rfl <| B6 rfl rfl rfl <| B6 rfl rfl rfl <| A5 rfl rfl rfl ?_
  (refine B0 rfl rfl (by (simp; done)) rfl (fun _ => (A9 (by rfl))) (fun _ => rfl) ?_; intro g6)
  refine A5 rfl rfl rfl <| xN [0,2,5,6,7] [2,6] rfl <| A3 <| A3 <| A0 <| A4 rfl rfl <| K9 rfl <| xN [0,2,5,6,26] [2,6] rfl ?_
  refine A8 rfl (fun hc => ?_) (fun hc => absurd hc (by decide))
  refine A3 <| A0 <| I6 (fs := [_, _, _]) rfl rfl rfl rfl rfl <| C2 rfl rfl rfl rfl ⟨by decide, rfl, dT rfl, dT rfl, rfl⟩ rfl (by exact B2 rfl) ?_
  (refine B9 rfl rfl (fun _ => rfl) ?_; intro g3)
  refine A5 rfl rfl rfl <| xN [2,3,4] [2,3] rfl <| C0 <| C8 (F6 rfl rfl rfl rfl (F0 rfl (I1 rfl (I1 rfl H7))) (G9 rfl rfl (by simp) (by rfl) (E7 rfl rfl (D9 C4)))) ?_
  rw [c2z hnn hn]
  rfl

theorem keep_s_readPlanI : G8 Tryz.f97 = [0, 2, 3, 4, 6, 7, 5, 12] := by kernel_rfl
set_option maxHeartbeats 20000000 in
theorem a8n (s : List UInt8) (hs : s.length ≤ 1048576) : CW (cxT oG) 97 [tV s] = some (.tup [trV (ipT s), bV (b7j s)], []) := by
 obtain ⟨ws, hws⟩ : ∃ ws, ws = splitB 32 s := ⟨_, rfl⟩
 have hwl := T6 32 s
 have hwp := Y2 32 s
 rw [← hws] at hwl hwp
 refine G3 rfl Tryz.func97 rfl ⟨by kernel_rfl, rfl, dT rfl, dT rfl, by decide⟩ keep_s_readPlanI <| A3 <| A0 <| F5 rfl (fun _ => B2 rfl) (fun _ => rfl) ?_
 intro g2
 refine A5 rfl rfl rfl <| xN [0,2] [2] rfl <| A3 <| A0 <| A4 rfl rfl ?_
 apply xC rfl
 ·apply B3
  ·exact B7 rfl
  apply B3
  ·exact B7 rfl
  exact D3
 ·exact c2v s 32 (by omega)
 refine ⟨⟨rfl, rfl, rfl, dT rfl, rfl⟩, .inl rfl, B8, N2, fun _ => rfl, fun g9 => ?_⟩
 rw [← hws]
 try simp only [List.length_map]
 (refine B0 rfl rfl (by (simp; done)) rfl (fun _ => (A9 (by exact A7 fun _ => rfl))) (fun _ => rfl) ?_; intro g4)
 refine xN [2,4] [2,4] rfl <| A3 <| A0 <| A4 rfl rfl ?_
 rcases hr : rdT ws with _ | ⟨t, r⟩
 ·skip
  apply xC rfl
  ·apply B3
   ·exact a0v rfl rfl (by (simp; done)) (fun _ => rfl)
   exact D3
  ·exact (by have hi := a8p (oG := oG) ws ⟨by omega, fun w hw => by have := hwp w hw; omega⟩; rw [hr] at hi; exact hi)
  refine ⟨⟨rfl, rfl, rfl, dT rfl, rfl⟩, .inl rfl, B8, I2 (I7 rfl (M8 fun _ => I7 rfl M9)), fun _ => C9 (a5b (A7 fun _ => rfl) (by decide)) (by rfl), fun g12 => ?_⟩
  refine A4 rfl rfl <| B6 rfl rfl rfl <| B6 rfl rfl rfl <| B6 rfl rfl rfl <| F5 rfl (fun _ => B2 rfl) (fun _ => rfl) ?_
  intro g5
  refine C2 rfl rfl rfl rfl ⟨by decide, rfl, dT rfl, dT rfl, rfl⟩ rfl (by exact B2 rfl) ?_
  (refine B0 rfl rfl (by (simp; done)) rfl (fun _ => (A9 (by rfl))) (fun _ => rfl) ?_; intro g6)
  refine A5 rfl rfl rfl <| xN [2,4,5,6,7] [2,4,5] rfl <| A3 <| A0 <| C5 rfl rfl rfl rfl rfl <| A4 rfl rfl <| A4 rfl rfl <| J8 rfl rfl rfl <| J8 rfl rfl rfl <| J8 rfl rfl rfl <| H5 rfl rfl rfl rfl <| A4 rfl rfl <| J8 rfl rfl rfl <| J8 rfl rfl rfl <| J8 rfl rfl rfl <| H5 rfl rfl rfl rfl <| C2 rfl rfl rfl rfl ⟨by decide, rfl, dT rfl, dT rfl, rfl⟩ rfl (by exact B2 rfl) <| A5 rfl rfl rfl <| xN [2,3] [2] rfl <| C0 <| C8 (F6 rfl rfl rfl rfl (F0 rfl (F0 rfl (F0 rfl H7))) (E7 rfl rfl (D9 C4))) ?_
  obtain ⟨h1, h2⟩ := d0p hws hr
  rw [h1, h2]
  rfl
 skip
 apply xC rfl
 ·apply B3
  ·exact a0v rfl rfl (by (simp; done)) (fun _ => rfl)
  exact D3
 ·exact (by have hi := a8p (oG := oG) ws ⟨by omega, fun w hw => by have := hwp w hw; omega⟩; rw [hr] at hi; exact hi)
 refine ⟨⟨rfl, rfl, rfl, dT rfl, rfl⟩, .inl rfl, B8, L0 rfl, fun _ => C9 (a5b (A7 fun _ => rfl) (by decide)) (by rfl), fun g12 => ?_⟩
 refine A4 rfl rfl <| B6 rfl rfl rfl <| B6 rfl rfl rfl <| B6 rfl rfl rfl <| F5 rfl (fun _ => B2 rfl) (fun _ => rfl) ?_
 intro g5
 refine C2 rfl rfl rfl rfl ⟨by decide, rfl, dT rfl, dT rfl, rfl⟩ rfl (by exact B2 rfl) <| A5 rfl rfl rfl <| A5 rfl rfl rfl <| xN [2,4,5,6,7] [2,4,5] rfl <| A3 <| A0 <| C5 rfl rfl rfl rfl rfl <| A4 rfl rfl <| A4 rfl rfl <| J1 rfl rfl rfl <| A4 rfl rfl <| J1 rfl rfl rfl <| D6 rfl rfl <| J1 rfl rfl rfl <| Y3 rfl rfl <| G5 rfl rfl rfl rfl <| A4 rfl rfl ?_
 refine E6 rfl rfl ?_ ?_ <;> intro hg0 <;> have hg := hg0 <;> try simp only [SG] at hg
 ·refine A4 rfl rfl <| gT rfl rfl <| N6 rfl rfl <| gT rfl rfl <| a6c rfl rfl <| G5 rfl (by assumption) rfl rfl <| C2 rfl rfl rfl rfl ⟨by decide, rfl, dT rfl, dT rfl, rfl⟩ rfl (by exact B2 rfl) <| A5 rfl rfl rfl <| xN [2,3] [2] rfl <| C0 <| C8 (F6 rfl rfl rfl rfl (F0 rfl (F0 rfl (F0 rfl H7))) (E7 rfl rfl (D9 C4))) ?_
  obtain ⟨h1, h2⟩ := b6u hws hr
  rw [h1, h2]
  simp_all
  try rfl
 refine gF rfl rfl <| gF rfl rfl <| H5 rfl (by assumption) rfl rfl <| C2 rfl rfl rfl rfl ⟨by decide, rfl, dT rfl, dT rfl, rfl⟩ rfl (by exact B2 rfl) <| A5 rfl rfl rfl <| xN [2,3] [2] rfl <| C0 <| C8 (F6 rfl rfl rfl rfl (F0 rfl (F0 rfl (F0 rfl H7))) (E7 rfl rfl (D9 C4))) ?_
 obtain ⟨h1, h2⟩ := b6u hws hr
 rw [h1, h2]
 simp_all
 try rfl

theorem keep_s_validPlan : G8 Tryz.f57 = [0, 2, 3, 5, 4, 8] := by kernel_rfl
set_option maxHeartbeats 20000000 in
theorem b9q (s : List UInt8) (hs : s.length ≤ 1048576) : CW (cxT oG) 57 [tV s] = some (.tup [trV (ipT s), bV (rdPlan s).isSome], []) := by
 have hip := d2v s
 refine G3 rfl Tryz.func57 rfl ⟨by kernel_rfl, rfl, dT rfl, dT rfl, by decide⟩ keep_s_validPlan <| A3 <| A0 <| F5 rfl (fun _ => B2 rfl) (fun _ => rfl) ?_
 intro g2
 refine A5 rfl rfl rfl <| xN [0,2] [2] rfl <| A3 <| A0 <| A4 rfl rfl ?_
 apply xC rfl
 ·apply B3
  ·exact B7 rfl
  exact D3
 ·exact a8n s hs
 refine ⟨⟨rfl, rfl, rfl, dT rfl, rfl⟩, .inl rfl, B8, L0 rfl, fun _ => rfl, fun g8 => ?_⟩
 refine A4 rfl rfl <| B6 rfl rfl rfl <| B6 rfl rfl rfl <| F5 rfl (fun _ => B2 rfl) (fun _ => rfl) ?_
 intro g4
 refine C2 rfl rfl rfl rfl ⟨by decide, rfl, dT rfl, dT rfl, rfl⟩ rfl (by exact B2 rfl) <| A5 rfl rfl rfl <| xN [0,2,4,5] [2,4] rfl <| A3 <| A0 <| C5 rfl rfl rfl rfl rfl <| A4 rfl rfl <| A4 rfl rfl ?_
 refine E6 rfl rfl ?_ ?_ <;> intro hg0 <;> have hg := hg0 <;> try simp only [SG] at hg
 ·refine A4 rfl rfl <| gT rfl rfl <| a3v rfl rfl <| gT rfl rfl <| a6c rfl rfl <| G5 rfl (by assumption) rfl rfl <| C2 rfl rfl rfl rfl ⟨by decide, rfl, dT rfl, dT rfl, rfl⟩ rfl (by exact B2 rfl) <| A5 rfl rfl rfl <| xN [2,3] [2] rfl <| C0 <| C8 (F6 rfl rfl rfl rfl (F0 rfl (F0 rfl (F0 rfl H7))) (E7 rfl rfl (D9 C4))) ?_
  rw [← hip]
  simp_all
  try rfl
 refine gF rfl rfl <| gF rfl rfl <| H5 rfl (by assumption) rfl rfl <| C2 rfl rfl rfl rfl ⟨by decide, rfl, dT rfl, dT rfl, rfl⟩ rfl (by exact B2 rfl) <| A5 rfl rfl rfl <| xN [2,3] [2] rfl <| C0 <| C8 (F6 rfl rfl rfl rfl (F0 rfl (F0 rfl (F0 rfl H7))) (E7 rfl rfl (D9 C4))) ?_
 rw [← hip]
 simp_all
 try rfl

theorem keep_s_ValidPlanI : G8 Tryz.f72 = [0, 2, 4, 7] := by kernel_rfl
set_option maxHeartbeats 20000000 in
theorem b6d (s : List UInt8) (hs : s.length ≤ 1048576) : CW (cxT oG) 72 [tV s] = some (bV (rdPlan s).isSome, []) := by
 refine G3 rfl Tryz.func72 rfl ⟨by kernel_rfl, rfl, dT rfl, dT rfl, by decide⟩ keep_s_ValidPlanI <| A3 <| A0 <| A5 rfl rfl rfl <| xN [0] [] rfl <| A3 <| A0 <| A4 rfl rfl ?_
 apply xC rfl
 ·apply B3
  ·exact B7 rfl
  exact D3
 ·exact b9q s hs
 refine ⟨⟨rfl, rfl, rfl, dT rfl, rfl⟩, .inl rfl, B8, L0 rfl, fun _ => rfl, fun g7 => ?_⟩
 refine A4 rfl rfl <| B6 rfl rfl rfl <| B6 rfl rfl rfl <| F5 rfl (fun _ => B2 rfl) (fun _ => rfl) ?_
 intro g3
 refine C2 rfl rfl rfl rfl ⟨by decide, rfl, dT rfl, dT rfl, rfl⟩ rfl (by exact B2 rfl) <| A5 rfl rfl rfl <| xN [4] [] rfl <| A3 <| A0 <| A4 rfl rfl <| A5 rfl rfl rfl <| xN [2] [] rfl <| C0 <| D7 rfl rfl trivial ?_
 rfl

theorem keep_s_showTree : G8 Tryz.f80 = [0, 2, 1, 7, 4, 19, 3] := by kernel_rfl
set_option maxHeartbeats 20000000 in
theorem c1j (t : Pl) (hln : (M1 t).length ≤ 1048576) (hgd : t.good) : CW (cxT oG) 80 [trK t] = some (tV (M1 t), []) := by
 obtain ⟨kk, hkk⟩ : ∃ kk : Nat, t.sz < kk := ⟨_, Nat.lt_succ_self _⟩
 revert t
 induction kk with
 | zero => intro t hln hgd hkk; exact absurd hkk (Nat.not_lt_zero _)
 | succ kk ih =>
  intro t hln hgd hkk
  have hkl := b6z t
  have hkz := fun i => c7h (t := t) (i := i)
  have hkg := fun i => b8b hgd (i := i)
  have hst := fun i h => b2f (t := t) h (i := i)
  have hall := fun h => a7n (t := t) h
  refine G3 rfl Tryz.func80 rfl ⟨by kernel_rfl, rfl, dT rfl, dT rfl, by decide⟩ keep_s_showTree <| A3 <| A0 <| a5g rfl rfl rfl (fun _ => B2 rfl) (fun _ => rfl) ?_
  intro g1
  refine A5 rfl rfl rfl <| xN [1] [1] rfl <| A3 <| A3 <| A0 <| B1 rfl rfl (dT rfl) rfl rfl <| B4 rfl rfl rfl rfl rfl rfl <| a1m rfl rfl <| xN [1,7] [1] rfl ?_
  refine A8 rfl ?_ ?_ <;> intro hc <;> try simp only [SL] at hc
  ·obtain ⟨ns, rfl, hv⟩ := U6 hgd (by assumption)
   have hl := a7y hv
   have hnb := c2y hv
   have hll := a0e hnb
   refine A3 <| A0 <| B1 rfl rfl (dT rfl) rfl rfl <| B4 rfl rfl rfl rfl rfl rfl ?_
   apply xC rfl
   ·apply B3
    ·exact B7 rfl
    exact D3
   ·exact c2l ns (by omega) hnb
   refine ⟨⟨rfl, rfl, rfl, dT rfl, rfl⟩, .inl rfl, B8, D5 rfl, fun _ => rfl, fun g10 => ?_⟩
   iterate 2 refine a0l rfl rfl (by simp only [H6, List.length_append, List.length_cons, List.length_nil]; omega) ?_
   refine A5 rfl rfl rfl <| xN [2] [] rfl <| C0 <| D7 rfl rfl trivial ?_
   rfl
  have hop : t.op ≠ lW := by assumption
  refine B5 <| A3 <| A0 <| B1 rfl rfl (dT rfl) rfl rfl <| B4 rfl rfl rfl rfl rfl rfl <| A5 rfl rfl rfl <| xN [1,3] [1] rfl <| A3 <| A3 <| A0 <| A5 rfl rfl rfl <| xN [1,3,4] [1] rfl <| C1 <| H4 (β := Nat × W8) [(.t 1, _), (.h 1, _)] (fun (z : Nat × W8) => match z with | (i, a) => [(.t 4, iV i), (.t 3, tV a)]) (fun (z : Nat × W8) => match z with | (i, a) => i ≤ t.kids.length ∧ a = a0u t i) (fun (z : Nat × W8) => match z with | (i, a) => t.kids.length - i) (0, _) ⟨rfl, rfl, rfl, rfl, trivial⟩ ⟨Nat.zero_le _, rfl⟩ ?_
  intro z hb
  obtain ⟨i, a⟩ := z
  try dsimp only at hb
  obtain ⟨hi1, ha⟩ := hb
  have hst1 := fun h => hst i hop h
  rw [← ha] at hst1
  refine A3 <| A3 <| A0 <| A4 rfl rfl <| B1 rfl rfl (dT rfl) rfl rfl <| B4 rfl rfl rfl rfl rfl rfl <| D6 rfl rfl <| H2 rfl rfl <| xN [1,3,4,19] [1] rfl ?_
  refine A8 rfl ?_ ?_ <;> intro hc <;> try simp only [SL] at hc
  ·refine B5 <| A3 <| C1 <| A0 <| A4 rfl rfl <| a0l rfl rfl (by simp only [H6, List.length_append, List.length_cons, List.length_nil]; omega) <| B1 rfl rfl (dT rfl) rfl rfl <| B4 rfl rfl rfl rfl rfl rfl <| A4 rfl rfl <| C7 rfl rfl rfl (fun _ => rfl) (by omega) <| C6 rfl rfl rfl ?_
   have h1 := hst i hop (by omega)
   have h2 := hkz i (by omega)
   apply xC rfl
   ·apply B3
    ·exact B7 rfl
    exact D3
   ·exact (by have hi := ih (t.kids.getD i default) (by have := b6p (t := t) (i := i) (by omega); omega) (hkg i (by omega)) (by omega); rw [← Z3] at hi; exact hi)
   refine ⟨⟨rfl, rfl, rfl, dT rfl, rfl⟩, .inl rfl, B8, D5 rfl, fun _ => rfl, fun g29 => ?_⟩
   refine a0l rfl rfl (by simp only [H6, List.length_append, List.length_cons, List.length_nil]; omega) <| A5 rfl rfl rfl <| xN [1,3,4] [1] rfl <| A0 <| A4 rfl rfl <| H0 rfl rfl (F3 (by omega)) <| A5 rfl rfl rfl <| xN [1,3,4] [1] rfl ?_
   refine ⟨(i + 1, _), ⟨by omega, by rw [a0u, ← ha]⟩, (by simp only; omega), ⟨rfl, rfl, rfl, rfl, trivial⟩⟩
  refine G4 <| A3 <| A0 <| A4 rfl rfl <| A5 rfl rfl rfl <| xN [2] [] rfl <| C0 <| D7 rfl rfl trivial ?_
  rw [ha, show i = t.kids.length by omega, hall hop]

theorem keep_s_ClipI : G8 Tryz.f112 = [0, 2] := by kernel_rfl
set_option maxHeartbeats 20000000 in
theorem c3c (xs : List Int) (hx : xs.length ≤ H6) : CW (cxT oG) 112 [.own 1 (xs.map iV)] = some (.own 1 (xs.map iV), []) := by
 refine G3 rfl Tryz.func112 rfl ⟨by kernel_rfl, rfl, dT rfl, dT rfl, by decide⟩ keep_s_ClipI <| A3 <| A0 ?_
 (refine B9 rfl rfl (fun _ => rfl) ?_; intro g2)
 refine xN [0] [0] rfl <| A3 <| A0 <| A4 rfl rfl <| A4 rfl rfl <| N6 rfl rfl <| A4 rfl rfl <| N6 rfl rfl ?_
 refine d2k rfl rfl rfl rfl rfl rfl (fun hz => ?_) (fun hz => ?_)
 ·skip
  (refine B9 rfl rfl (fun _ => rfl) ?_; intro g2)
  refine xN [2] [0,2] rfl <| C0 <| Q6 rfl rfl (by (simp; done)) (by rfl) trivial ?_
  (have h0 : xs = [] := (by simpa using hz); subst h0; rfl)
 skip
 (refine B0 rfl rfl (by (simp; done)) rfl (fun _ => (A9 (by exact A7 fun _ => rfl))) (fun _ => rfl) ?_; intro g2)
 refine xN [2] [0,2] rfl <| C0 <| Q6 rfl rfl (by (simp; done)) (by exact A7 fun _ => rfl) trivial ?_
 rfl

theorem keep_s_clone : G8 Tryz.f105 = [0, 2] := by kernel_rfl
set_option maxHeartbeats 20000000 in
theorem c3f (x : List Int) (hl : x.length ≤ 1048576) : CW (cxT oG) 105 [L x] = some (.own 1 (x.map iV), []) := by
 refine G3 rfl Tryz.func105 rfl ⟨by kernel_rfl, rfl, dT rfl, dT rfl, by decide⟩ keep_s_clone <| A3 <| A0 ?_
 (refine B9 rfl rfl (fun _ => rfl) ?_; intro g2)
 refine xN [0] [] rfl <| A3 <| A0 <| A4 rfl rfl ?_
 apply xC rfl
 ·apply B3
  ·exact B7 rfl
  exact D3
 ·exact c3o x (by simp only [H6]; omega)
 refine ⟨⟨rfl, rfl, rfl, dT rfl, rfl⟩, .inl rfl, B8, N2, fun _ => rfl, fun g4 => ?_⟩
 simp only [List.length_map]
 apply xC rfl
 ·apply B3
  ·exact c3r rfl rfl (by (simp; done)) (A7 fun _ => rfl)
  exact D3
 ·exact c3c x (by simp only [H6]; omega)
 refine ⟨⟨rfl, rfl, rfl, dT rfl, rfl⟩, .inl rfl, B8, N2, fun _ => rfl, fun g5 => ?_⟩
 simp only [List.length_map]
 (refine B0 rfl rfl (by (simp; done)) rfl (fun _ => (A9 (by exact A7 fun _ => rfl))) (fun _ => rfl) ?_; intro g2)
 refine xN [2] [2] rfl <| C0 <| Q6 rfl rfl (by simp) (by exact A7 fun _ => rfl) trivial ?_
 rfl

theorem keep_s_text : G8 Tryz.f119 = [0, 2, 1, 10, 17, 16, 18, 15, 5, 3] := by kernel_rfl
set_option maxHeartbeats 20000000 in
theorem d1v (t : Pl) (hln : (M1 t).length ≤ 1048576) (hgd : t.good) : CW (cxT oG) 119 [trK t] = some (tV (M1 t), []) := by
 obtain ⟨kk, hkk⟩ : ∃ kk : Nat, t.sz < kk := ⟨_, Nat.lt_succ_self _⟩
 revert t
 induction kk with
 | zero => intro t hln hgd hkk; exact absurd hkk (Nat.not_lt_zero _)
 | succ kk ih =>
  intro t hln hgd hkk
  have hkl := b6z t
  have hkz := fun i => c7h (t := t) (i := i)
  have hkg := fun i => b8b hgd (i := i)
  have hst := fun i h => b2f (t := t) h (i := i)
  have hall := fun h => a7n (t := t) h
  have hnl : t.op = lW → t.kids.length = 0 ∧ Q2 t.ns = M1 t := fun e => by obtain ⟨ns, rfl, _⟩ := U6 hgd e; exact ⟨rfl, rfl⟩
  have hvn := d0g hgd
  have hvl := a7y hvn
  have hnb := c2y hvn
  have hll := a0e hnb
  refine G3 rfl Tryz.func119 rfl ⟨by kernel_rfl, rfl, dT rfl, dT rfl, by decide⟩ keep_s_text <| A3 <| A0 <| a5g rfl rfl rfl (fun _ => B2 rfl) (fun _ => rfl) ?_
  intro g1
  refine A5 rfl rfl rfl <| xN [1] [1] rfl <| A3 <| A0 <| B1 rfl rfl (dT rfl) rfl rfl <| B4 rfl rfl rfl rfl rfl rfl <| A5 rfl rfl rfl <| xN [1,3] [1] rfl <| A3 <| A3 <| A0 <| B1 rfl rfl (dT rfl) rfl rfl <| B4 rfl rfl rfl rfl rfl rfl <| a1m rfl rfl <| xN [1,3,10] [1] rfl ?_
  refine A8 rfl ?_ ?_ <;> intro hc <;> try simp only [SL] at hc
  ·refine A0 <| B1 rfl rfl (dT rfl) rfl rfl <| B4 rfl rfl rfl rfl rfl rfl ?_
   apply xC rfl
   ·apply B3
    ·exact B7 rfl
    exact D3
   ·exact a3x t.ns (by omega) hnb
   refine ⟨⟨rfl, rfl, rfl, dT rfl, rfl⟩, .inl rfl, B8, D5 rfl, fun _ => rfl, fun g13 => ?_⟩
   refine A5 rfl rfl rfl <| xN [1,3] [1] rfl <| A3 <| A3 <| A0 <| B1 rfl rfl (dT rfl) rfl rfl <| B4 rfl rfl rfl rfl rfl rfl <| D6 rfl rfl <| A4 rfl rfl <| xN [3,15,16,17] [] rfl <| C1 <| H4 (β := Nat × W8) [(.t 15, _), (.t 16, _)] (fun (z : Nat × W8) => match z with | (i, a) => [(.t 17, iV i), (.t 3, tV a)]) (fun (z : Nat × W8) => match z with | (i, a) => i ≤ t.kids.length ∧ (t.op = lW → a = M1 t) ∧ (t.op ≠ lW → a = a0u t i)) (fun (z : Nat × W8) => match z with | (i, a) => t.kids.length - i) (0, _) ⟨rfl, rfl, rfl, rfl, trivial⟩ ⟨Nat.zero_le _, by exact fun e => (hnl e).2, by exact fun h => absurd (by assumption) h⟩ ?_
   intro z hb
   obtain ⟨i, a⟩ := z
   try dsimp only at hb
   obtain ⟨hi1, ha1, ha2⟩ := hb
   refine A3 <| A0 <| H2 rfl rfl <| xN [3,15,16,17,18] [] rfl <| A3 ?_
   refine A8 rfl ?_ ?_ <;> intro hc <;> try simp only [SL] at hc
   ·refine B5 <| A3 <| C1 <| A3 <| A0 <| C7 rfl rfl rfl (fun _ => rfl) (by omega) <| C6 rfl rfl rfl <| F5 rfl (fun _ => B2 rfl) (fun _ => rfl) ?_
    intro g5
    refine C2 rfl rfl rfl rfl ⟨by decide, rfl, dT rfl, dT rfl, rfl⟩ rfl (by exact B2 rfl) <| xN [3,5,15,16,17] [5] rfl <| A0 <| A4 rfl rfl <| C5 rfl rfl rfl rfl rfl ?_
    have h1 := hst i (fun e => by have := (hnl e).1; omega) (by omega)
    have h2 := hkz i (by omega)
    rw [ha2 (fun e => by have := (hnl e).1; omega)]
    apply xC rfl
    ·apply B3
     ·exact B7 rfl
     exact D3
    ·exact (by have hi := ih (t.kids.getD i default) (by have := b6p (t := t) (i := i) (by omega); omega) (hkg i (by omega)) (by omega); rw [← Z3] at hi; exact hi)
    refine ⟨⟨rfl, rfl, rfl, dT rfl, rfl⟩, .inl rfl, B8, D5 rfl, fun _ => rfl, fun g23 => ?_⟩
    iterate 2 refine a0l rfl rfl (by simp only [H6, List.length_append, List.length_cons, List.length_nil]; omega) ?_
    refine A5 rfl rfl rfl <| xN [3,15,16,17] [] rfl <| A0 <| H0 rfl rfl (F3 (by omega)) <| A4 rfl rfl <| xN [3,15,16,17] [] rfl ?_
    refine ⟨(i + 1, _), ⟨by omega, fun e => by have := (hnl e).1; omega, fun e => by rw [a0u]; simp⟩, (by simp only; omega), ⟨rfl, rfl, rfl, rfl, trivial⟩⟩
   refine G4 <| A3 <| A0 <| A4 rfl rfl <| A5 rfl rfl rfl <| xN [2] [] rfl <| C0 <| D7 rfl rfl trivial ?_
   by_cases e : t.op = lW
   ·rw [ha1 e]
   rw [ha2 e, show i = t.kids.length by omega, hall e]
  refine B5 <| A3 <| A3 <| A0 <| B1 rfl rfl (dT rfl) rfl rfl <| B4 rfl rfl rfl rfl rfl rfl <| D6 rfl rfl <| A4 rfl rfl <| xN [3,15,16,17] [] rfl <| C1 <| H4 (β := Nat × W8) [(.t 15, _), (.t 16, _)] (fun (z : Nat × W8) => match z with | (i, a) => [(.t 17, iV i), (.t 3, tV a)]) (fun (z : Nat × W8) => match z with | (i, a) => i ≤ t.kids.length ∧ (t.op = lW → a = M1 t) ∧ (t.op ≠ lW → a = a0u t i)) (fun (z : Nat × W8) => match z with | (i, a) => t.kids.length - i) (0, _) ⟨rfl, rfl, rfl, rfl, trivial⟩ ⟨Nat.zero_le _, by exact fun e => absurd e (by assumption), by exact fun _ => rfl⟩ ?_
  intro z hb
  obtain ⟨i, a⟩ := z
  try dsimp only at hb
  obtain ⟨hi1, ha1, ha2⟩ := hb
  refine A3 <| A0 <| H2 rfl rfl <| xN [3,15,16,17,18] [] rfl <| A3 ?_
  refine A8 rfl ?_ ?_ <;> intro hc <;> try simp only [SL] at hc
  ·refine B5 <| A3 <| C1 <| A3 <| A0 <| C7 rfl rfl rfl (fun _ => rfl) (by omega) <| C6 rfl rfl rfl <| F5 rfl (fun _ => B2 rfl) (fun _ => rfl) ?_
   intro g5
   refine C2 rfl rfl rfl rfl ⟨by decide, rfl, dT rfl, dT rfl, rfl⟩ rfl (by exact B2 rfl) <| xN [3,5,15,16,17] [5] rfl <| A0 <| A4 rfl rfl <| C5 rfl rfl rfl rfl rfl ?_
   have h1 := hst i (fun e => by have := (hnl e).1; omega) (by omega)
   have h2 := hkz i (by omega)
   rw [ha2 (fun e => by have := (hnl e).1; omega)]
   apply xC rfl
   ·apply B3
    ·exact B7 rfl
    exact D3
   ·exact (by have hi := ih (t.kids.getD i default) (by have := b6p (t := t) (i := i) (by omega); omega) (hkg i (by omega)) (by omega); rw [← Z3] at hi; exact hi)
   refine ⟨⟨rfl, rfl, rfl, dT rfl, rfl⟩, .inl rfl, B8, D5 rfl, fun _ => rfl, fun g23 => ?_⟩
   iterate 2 refine a0l rfl rfl (by simp only [H6, List.length_append, List.length_cons, List.length_nil]; omega) ?_
   refine A5 rfl rfl rfl <| xN [3,15,16,17] [] rfl <| A0 <| H0 rfl rfl (F3 (by omega)) <| A4 rfl rfl <| xN [3,15,16,17] [] rfl ?_
   refine ⟨(i + 1, _), ⟨by omega, fun e => by have := (hnl e).1; omega, fun e => by rw [a0u]; simp⟩, (by simp only; omega), ⟨rfl, rfl, rfl, rfl, trivial⟩⟩
  refine G4 <| A3 <| A0 <| A4 rfl rfl <| A5 rfl rfl rfl <| xN [2] [] rfl <| C0 <| D7 rfl rfl trivial ?_
  by_cases e : t.op = lW
  ·rw [ha1 e]
  rw [ha2 e, show i = t.kids.length by omega, hall e]

theorem keep_s_sortedS : G8 Tryz.f126 = [0, 2, 4, 10, 5, 3, 27] := by kernel_rfl
set_option maxHeartbeats 20000000 in
theorem c6e (xs : List Int) (hl : xs.length ≤ 1000) : CW (cxT oG) 126 [L xs] = some (.own 1 ((T7 xs).map iV), []) := by
 refine G3 rfl Tryz.func126 rfl ⟨by kernel_rfl, rfl, dT rfl, dT rfl, by decide⟩ keep_s_sortedS <| A3 <| A0 ?_
 (refine B9 rfl rfl (fun _ => rfl) ?_; intro g2)
 refine xN [0] [] rfl <| A3 <| A0 <| D4 (es := List.map iV []) rfl rfl (dT rfl) rfl rfl (fun _ => A9 (A7 fun _ => rfl)) (fun _ => rfl) ?_
 intro g6
 (refine B0 rfl rfl (by (simp; done)) rfl (fun _ => (A9 (by exact A7 fun _ => rfl))) (fun _ => rfl) ?_; intro g3)
 refine xN [0,3] [3] rfl <| A3 <| A3 <| A0 <| A5 rfl rfl rfl <| xN [0,3,4] [3] rfl <| C1 <| H4 (β := Nat × List Int × Nat) [(.t 0, _)] (fun (z : Nat × List Int × Nat) => match z with | (i, out, g) => [(.t 4, iV i), (.t 3, .sl 3 g none 0 out.length), (.h 3, .obj g 0 1 (out.map iV))]) (fun (z : Nat × List Int × Nat) => match z with | (i, out, g) => i ≤ xs.length ∧ out = T7 (xs.take i)) (fun (z : Nat × List Int × Nat) => match z with | (i, out, g) => xs.length - i) (0, [], _) ⟨rfl, rfl, rfl, rfl, trivial⟩ ⟨Nat.zero_le _, rfl⟩ ?_
 intro z hb
 obtain ⟨i, out, g⟩ := z
 try dsimp only at hb
 obtain ⟨hi1, hi2⟩ := hb
 have hol : out.length = i := by rw [hi2, a2p, List.length_take]; omega
 refine A3 <| A3 <| A0 <| A4 rfl rfl <| A4 rfl rfl <| D6 rfl rfl <| H2 rfl rfl <| xN [0,3,4,10] [3] rfl ?_
 refine A8 rfl ?_ ?_ <;> intro hc <;> try simp only [SL] at hc
 ·refine B5 <| A3 <| C1 <| A3 <| A0 <| A5 rfl rfl rfl <| xN [0,3,4,5] [3] rfl <| A3 <| C1 <| H4 (β := Nat) [(.t 0, _), (.t 3, _), (.t 4, _), (.h 3, _)] (fun (k : Nat) => [(.t 5, iV k)]) (fun (k : Nat) => k ≤ out.length ∧ ∀ j, j < k → out.getD j default ≤ xs.getD i default) (fun (k : Nat) => out.length - k) 0 ⟨rfl, rfl, rfl, rfl, rfl, trivial⟩ ⟨Nat.zero_le _, fun j h => by omega⟩ ?_
  intro k hb
  obtain ⟨hk1, hk2⟩ := hb
  refine A3 <| A3 <| A0 <| A4 rfl rfl <| A4 rfl rfl <| N6 rfl rfl <| H2 rfl rfl <| A4 rfl rfl ?_
  refine E6 rfl rfl ?_ ?_ <;> intro hg0 <;> have hg := hg0 <;> try simp only [SG] at hg
  ·refine A4 rfl rfl <| gT rfl rfl <| A4 rfl rfl <| gT rfl rfl <| F9 rfl rfl rfl rfl (by omega) (by (simp; done)) rfl <| gT rfl rfl <| I5 rfl rfl (by omega) (fun _ => rfl) (fun _ => rfl) rfl <| gT rfl rfl <| A4 rfl rfl <| gT rfl rfl <| A4 rfl rfl <| gT rfl rfl <| C7 rfl rfl rfl (fun _ => rfl) (by omega) <| gT rfl rfl <| C6 rfl rfl rfl <| gT rfl rfl <| a6c rfl rfl <| G5 rfl (by assumption) rfl rfl ?_
   refine L1 ⟨fun _ => ⟨by decide +kernel, by decide +kernel⟩, [(.t 0, _), (.t 3, _), (.t 4, _), (.t 5, _), (.t 27, _), (.h 3, _)], ⟨rfl, rfl, rfl, rfl, rfl, rfl, rfl, rfl, rfl, rfl, rfl, rfl, trivial⟩, ?_⟩
   refine A8 rfl ?_ ?_ <;> intro hc <;> try simp only [SL] at hc
   ·refine B5 <| C1 <| A0 <| A4 rfl rfl <| H0 rfl rfl (F3 (by omega)) <| A5 rfl rfl rfl <| xN [0,3,4,5] [3] rfl ?_
    refine ⟨k + 1, ⟨by omega, fun a ha => by rcases Nat.lt_succ_iff_lt_or_eq.1 ha with h | h; exact hk2 a h; subst h; exact hc⟩, (by omega), ⟨rfl, rfl, rfl, rfl, rfl, trivial⟩⟩
   refine G4 <| A0 <| D4 (es := List.map iV []) rfl rfl (dT rfl) rfl rfl (fun _ => A9 (A7 fun _ => rfl)) (fun _ => rfl) ?_
   intro g30
   refine A4 rfl rfl <| A4 rfl rfl <| b1e rfl rfl rfl (I0 rfl) (by omega) rfl <| Z6 rfl rfl rfl rfl (by decide) rfl (by (simp; done)) (by omega) rfl rfl rfl (dT rfl) (fun _ => ⟨rfl, rfl, rfl⟩) (by simp only [H6]; (simp only [List.length_nil, List.length_cons, List.length_append, Nat.zero_add, List.length_map]; omega)) (fun _ => rfl) ?_
   intro g34
   refine A4 rfl rfl <| A4 rfl rfl <| C7 rfl rfl rfl (fun _ => rfl) (by omega) <| C6 rfl rfl rfl <| D4 (es := List.map iV [_]) rfl rfl (dT rfl) rfl rfl (fun _ => A9 (A7 fun _ => rfl)) (fun _ => rfl) ?_
   intro g39
   refine F7 rfl rfl rfl rfl (by (simp; done)) (by simp) (by decide) rfl rfl rfl rfl (dT rfl) (fun _ => ⟨rfl, rfl⟩) (by simp only [H6]; (simp; omega)) (fun _ => rfl) ?_
   intro g40
   refine A4 rfl rfl <| A4 rfl rfl <| a8y rfl rfl rfl L2 (I0 rfl) (by omega) rfl <| Z6 rfl rfl rfl rfl (by decide) rfl (by (simp; done)) (by omega) rfl rfl rfl (dT rfl) (fun _ => ⟨rfl, rfl, rfl⟩) (by simp only [H6]; (simp; omega)) (fun _ => rfl) ?_
   intro g44
   (refine B0 rfl rfl (by (simp; done)) rfl (fun _ => (A9 (by exact A7 fun _ => rfl))) (fun _ => rfl) ?_; intro g3)
   refine L1 ⟨fun _ => ⟨by decide +kernel, by decide +kernel⟩, [(.t 0, _), (.t 3, _), (.t 4, _), (.h 3, _)], ⟨rfl, rfl, rfl, rfl, rfl, rfl, rfl, rfl, trivial⟩, ?_⟩
   refine A0 <| A4 rfl rfl <| H0 rfl rfl (F3 (by omega)) <| A5 rfl rfl rfl <| xN [0,3,4] [3] rfl ?_
   refine ⟨(i + 1, _, _), ?_, (by simp only; omega), ⟨rfl, rfl, rfl, rfl, trivial⟩⟩
   exact ⟨by omega, by rw [b0u (by omega), ← hi2]; exact a8g (hi2 ▸ W6 _) hk1 hk2 fun h => by omega⟩
  iterate 8 refine gF rfl rfl ?_
  refine H5 rfl (by assumption) rfl rfl ?_
  refine L1 ⟨fun _ => ⟨by decide +kernel, by decide +kernel⟩, [(.t 0, _), (.t 3, _), (.t 4, _), (.t 5, _), (.t 27, _), (.h 3, _)], ⟨rfl, rfl, rfl, rfl, rfl, rfl, rfl, rfl, rfl, rfl, rfl, rfl, trivial⟩, ?_⟩
  refine A8 rfl (fun hc => absurd hc (by decide)) (fun hc => ?_)
  refine G4 <| A0 <| D4 (es := List.map iV []) rfl rfl (dT rfl) rfl rfl (fun _ => A9 (A7 fun _ => rfl)) (fun _ => rfl) ?_
  intro g30
  refine A4 rfl rfl <| A4 rfl rfl <| b1e rfl rfl rfl (I0 rfl) (by omega) rfl <| Z6 rfl rfl rfl rfl (by decide) rfl (by (simp; done)) (by omega) rfl rfl rfl (dT rfl) (fun _ => ⟨rfl, rfl, rfl⟩) (by simp only [H6]; (simp only [List.length_nil, List.length_cons, List.length_append, Nat.zero_add, List.length_map]; omega)) (fun _ => rfl) ?_
  intro g34
  refine A4 rfl rfl <| A4 rfl rfl <| C7 rfl rfl rfl (fun _ => rfl) (by omega) <| C6 rfl rfl rfl <| D4 (es := List.map iV [_]) rfl rfl (dT rfl) rfl rfl (fun _ => A9 (A7 fun _ => rfl)) (fun _ => rfl) ?_
  intro g39
  refine F7 rfl rfl rfl rfl (by (simp; done)) (by simp) (by decide) rfl rfl rfl rfl (dT rfl) (fun _ => ⟨rfl, rfl⟩) (by simp only [H6]; (simp; omega)) (fun _ => rfl) ?_
  intro g40
  refine A4 rfl rfl <| A4 rfl rfl <| a8y rfl rfl rfl L2 (I0 rfl) (by omega) rfl <| Z6 rfl rfl rfl rfl (by decide) rfl (by (simp; done)) (by omega) rfl rfl rfl (dT rfl) (fun _ => ⟨rfl, rfl, rfl⟩) (by simp only [H6]; (simp; omega)) (fun _ => rfl) ?_
  intro g44
  (refine B0 rfl rfl (by (simp; done)) rfl (fun _ => (A9 (by exact A7 fun _ => rfl))) (fun _ => rfl) ?_; intro g3)
  refine L1 ⟨fun _ => ⟨by decide +kernel, by decide +kernel⟩, [(.t 0, _), (.t 3, _), (.t 4, _), (.h 3, _)], ⟨rfl, rfl, rfl, rfl, rfl, rfl, rfl, rfl, trivial⟩, ?_⟩
  refine A0 <| A4 rfl rfl <| H0 rfl rfl (F3 (by omega)) <| A5 rfl rfl rfl <| xN [0,3,4] [3] rfl ?_
  refine ⟨(i + 1, _, _), ?_, (by simp only; omega), ⟨rfl, rfl, rfl, rfl, trivial⟩⟩
  exact ⟨by omega, by rw [b0u (by omega), ← hi2]; exact a8g (hi2 ▸ W6 _) hk1 hk2 fun h => by omega⟩
 refine G4 <| A3 <| A0 <| A4 rfl rfl ?_
 (refine B0 rfl rfl (by (simp; done)) rfl (fun _ => (A9 (by exact A7 fun _ => rfl))) (fun _ => rfl) ?_; intro g2)
 refine xN [2] [2] rfl <| C0 <| Q6 rfl rfl (by simp) (by exact A7 fun _ => rfl) trivial ?_
 rw [hi2, List.take_of_length_le (by omega)]

theorem keep_s_sumI : G8 Tryz.f110 = [0, 2, 8, 7, 9, 6, 5, 3] := by kernel_rfl
set_option maxHeartbeats 20000000 in
theorem d1q (x : List Int) (hv : vl x = true) : CW (cxT oG) 110 [L x] = some (iV x.sum, []) := by
 have hx40 := (Q9.1 hv).1
 have hgb := a0c hv
 refine G3 rfl Tryz.func110 rfl ⟨by kernel_rfl, rfl, dT rfl, dT rfl, by decide⟩ keep_s_sumI <| A3 <| A0 <| A5 rfl rfl rfl <| xN [0] [] rfl <| A3 <| A0 <| A5 rfl rfl rfl <| xN [0,3] [] rfl <| A3 <| A3 <| A0 <| A4 rfl rfl <| D6 rfl rfl <| A4 rfl rfl <| xN [3,6,7,8] [] rfl <| C1 <| H4 (β := Nat × Int) [(.t 6, _), (.t 7, _)] (fun (z : Nat × Int) => match z with | (i, a) => [(.t 8, iV i), (.t 3, iV a)]) (fun (z : Nat × Int) => match z with | (i, a) => i ≤ x.length ∧ a = prS (I3 x) i) (fun (z : Nat × Int) => match z with | (i, a) => x.length - i) (0, 0) ⟨rfl, rfl, rfl, rfl, trivial⟩ ⟨Nat.zero_le _, rfl⟩ ?_
 intro z hb
 obtain ⟨i, a⟩ := z
 try dsimp only at hb
 obtain ⟨hi1, ha⟩ := hb
 have hsb := b8j hv i
 have hgi : -100000 ≤ x.getD i default ∧ x.getD i default ≤ 100000 := hgb i
 rw [← ha] at hsb
 refine A3 <| A0 <| H2 rfl rfl <| xN [3,6,7,8,9] [] rfl <| A3 ?_
 refine A8 rfl ?_ ?_ <;> intro hc <;> try simp only [SL] at hc
 ·refine B5 <| A3 <| C1 <| A3 <| A0 <| C7 rfl rfl rfl (fun _ => rfl) (by omega) <| C6 rfl rfl rfl <| A5 rfl rfl rfl <| xN [3,5,6,7,8] [] rfl <| A0 <| A4 rfl rfl <| A4 rfl rfl <| H0 rfl rfl (F3 (by omega)) <| A5 rfl rfl rfl <| xN [3,6,7,8] [] rfl <| A0 <| H0 rfl rfl (F3 (by omega)) <| A4 rfl rfl <| xN [3,6,7,8] [] rfl ?_
  refine ⟨(i + 1, a + x.getD i default), ⟨by omega, by rw [prS, ha]; rfl⟩, (by simp only; omega), ⟨rfl, rfl, rfl, rfl, trivial⟩⟩
 refine G4 <| A3 <| A0 <| A4 rfl rfl <| A5 rfl rfl rfl <| xN [2] [] rfl <| C0 <| D7 rfl rfl trivial ?_
 rw [ha, show i = x.length by omega, b4d]

theorem keep_s_sumS : G8 Tryz.f129 = [0, 2, 4, 8, 3] := by kernel_rfl
set_option maxHeartbeats 20000000 in
theorem d2n (x : List Int) (hv : vl x = true) : CW (cxT oG) 129 [L x] = some (iV x.sum, []) := by
 have hx40 := (Q9.1 hv).1
 have hgb := a0c hv
 refine G3 rfl Tryz.func129 rfl ⟨by kernel_rfl, rfl, dT rfl, dT rfl, by decide⟩ keep_s_sumS <| A3 <| A0 <| A5 rfl rfl rfl <| xN [0] [] rfl <| A3 <| A0 <| A5 rfl rfl rfl <| xN [0,3] [] rfl <| A3 <| A3 <| A0 <| A5 rfl rfl rfl <| xN [0,3,4] [] rfl <| C1 <| H4 (β := Nat × Int) [(.t 0, _)] (fun (z : Nat × Int) => match z with | (i, a) => [(.t 4, iV i), (.t 3, iV a)]) (fun (z : Nat × Int) => match z with | (i, a) => i ≤ x.length ∧ a = prS (I3 x) i) (fun (z : Nat × Int) => match z with | (i, a) => x.length - i) (0, 0) ⟨rfl, rfl, rfl, trivial⟩ ⟨Nat.zero_le _, rfl⟩ ?_
 intro z hb
 obtain ⟨i, a⟩ := z
 try dsimp only at hb
 obtain ⟨hi1, ha⟩ := hb
 have hsb := b8j hv i
 have hgi : -100000 ≤ x.getD i default ∧ x.getD i default ≤ 100000 := hgb i
 rw [← ha] at hsb
 refine A3 <| A3 <| A0 <| A4 rfl rfl <| A4 rfl rfl <| D6 rfl rfl <| H2 rfl rfl <| xN [0,3,4,8] [] rfl ?_
 refine A8 rfl ?_ ?_ <;> intro hc <;> try simp only [SL] at hc
 ·refine B5 <| A3 <| C1 <| A0 <| A4 rfl rfl <| A4 rfl rfl <| A4 rfl rfl <| C7 rfl rfl rfl (fun _ => rfl) (by omega) <| C6 rfl rfl rfl <| H0 rfl rfl (F3 (by omega)) <| A5 rfl rfl rfl <| xN [0,3,4] [] rfl <| A0 <| A4 rfl rfl <| H0 rfl rfl (F3 (by omega)) <| A5 rfl rfl rfl <| xN [0,3,4] [] rfl ?_
  refine ⟨(i + 1, a + x.getD i default), ⟨by omega, by rw [prS, ha]; rfl⟩, (by simp only; omega), ⟨rfl, rfl, rfl, trivial⟩⟩
 refine G4 <| A3 <| A0 <| A4 rfl rfl <| A5 rfl rfl rfl <| xN [2] [] rfl <| C0 <| D7 rfl rfl trivial ?_
 rw [ha, show i = x.length by omega, b4d]

theorem keep_s_ranksI : G8 Tryz.f109 = [0, 2, 13, 12, 14, 11, 4, 3, 23, 22, 24, 21, 5, 7, 27, 37] := by kernel_rfl
set_option maxHeartbeats 20000000 in
theorem c8n (x : List Int) (hv : vl x = true) : CW (cxT oG) 109 [L x] = some (.own 1 ((rkI x).map iV), []) := by
 have hx40 := (Q9.1 hv).1
 have hgb := a0c hv
 refine G3 rfl Tryz.func109 rfl ⟨by kernel_rfl, rfl, dT rfl, dT rfl, by decide⟩ keep_s_ranksI <| A3 <| A0 ?_
 (refine B9 rfl rfl (fun _ => rfl) ?_; intro g2)
 refine xN [0] [] rfl <| A3 <| A0 <| A4 rfl rfl <| D6 rfl rfl <| b7c (f := iV) (x0 := 0) rfl rfl rfl rfl rfl (by simp only [H6]; omega) (dT rfl) (fun _ => A9 (by exact A7 fun _ => rfl)) (fun _ => rfl) ?_
 intro g10
 (refine B0 rfl rfl (by (simp; done)) rfl (fun _ => (A9 (by exact A7 fun _ => rfl))) (fun _ => rfl) ?_; intro g3)
 refine xN [0,3] [3] rfl <| A3 <| A3 <| A0 <| A4 rfl rfl <| D6 rfl rfl <| A4 rfl rfl <| xN [0,3,11,12,13] [3] rfl <| C1 ?_
 refine H4 (β := Nat × List Int) [(.t 0, _), (.t 3, _), (.t 11, _), (.t 12, _)] (fun (z : Nat × List Int) => match z with | (i, l) => [(.t 13, iV i), (.h 3, .obj g3 0 1 (l.map iV))]) (fun (z : Nat × List Int) => match z with | (i, l) => i ≤ x.length ∧ S9 x.length (fun i => 1 + prS (rkT x (I3 x i)) x.length) (fun _ => 0) i l) (fun (z : Nat × List Int) => match z with | (i, l) => x.length - i) (0, List.replicate x.length 0) ⟨rfl, rfl, rfl, rfl, rfl, rfl, trivial⟩ ⟨Nat.zero_le _, by simp, fun j hj => by rw [if_neg (by omega)]; simp [List.getD_eq_getElem?_getD, hj]⟩ ?_
 intro z hb
 obtain ⟨i, l⟩ := z
 try dsimp only at hb
 obtain ⟨hi1, hf⟩ := hb
 have hfl := hf.1
 refine A3 <| A0 <| H2 rfl rfl <| xN [0,3,11,12,13,14] [3] rfl <| A3 ?_
 refine A8 rfl ?_ ?_ <;> intro hc <;> try simp only [SL] at hc
 ·refine B5 <| A3 <| C1 <| A3 <| A0 <| A4 rfl rfl <| C7 rfl rfl rfl (fun _ => rfl) (by omega) <| C6 rfl rfl rfl <| A5 rfl rfl rfl <| A5 rfl rfl rfl <| xN [0,3,4,5,11,12,13] [3] rfl <| A3 <| A0 <| A4 rfl rfl <| A4 rfl rfl <| F9 rfl rfl rfl rfl (by omega) (by (simp; omega)) rfl <| M0 rfl rfl rfl (by omega) (fun _ _ => ⟨rfl, rfl, dT rfl, dT rfl, rfl, rfl⟩) (by decide) (by exact A9 (A7 fun _ => rfl)) <| xN [0,3,4,5,11,12,13] [3] rfl <| A3 <| A0 <| A4 rfl rfl <| D6 rfl rfl <| A4 rfl rfl <| xN [0,3,4,5,11,12,13,21,22,23] [3] rfl <| C1 <| H4 (β := Nat × List Int) [(.t 0, _), (.t 3, _), (.t 4, _), (.t 5, _), (.t 11, _), (.t 12, _), (.t 13, _), (.t 21, _), (.t 22, _)] (fun (z : Nat × List Int) => match z with | (k, l2) => [(.t 23, iV k), (.h 3, .obj g3 0 1 (l2.map iV))]) (fun (z : Nat × List Int) => match z with | (k, l2) => k ≤ x.length ∧ l2 = l.set i (1 + prS (rkT x (I3 x i)) k)) (fun (z : Nat × List Int) => match z with | (k, l2) => x.length - k) (0, l.set i 1) ⟨rfl, rfl, rfl, rfl, rfl, rfl, rfl, rfl, rfl, rfl, rfl, trivial⟩ ⟨Nat.zero_le _, rfl⟩ ?_
  intro z hb
  obtain ⟨k, l2⟩ := z
  try dsimp only at hb
  obtain ⟨hk1, hl2⟩ := hb
  have hl2l : l2.length = x.length := by rw [hl2]; simp [hfl]
  have hl2i : l2.getD i default = 1 + prS (rkT x (I3 x i)) k := by rw [hl2, a3u _ _ _ _ (by omega), if_pos rfl]
  have hrb := d3h x (I3 x i) k
  refine A3 <| A0 <| H2 rfl rfl <| xN [0,3,4,5,11,12,13,21,22,23,24] [3] rfl <| A3 ?_
  refine A8 rfl ?_ ?_ <;> intro hc <;> try simp only [SL] at hc
  ·refine B5 <| A3 <| C1 <| A3 <| A0 <| C7 rfl rfl rfl (fun _ => rfl) (by omega) <| C6 rfl rfl rfl <| A5 rfl rfl rfl <| xN [0,3,4,5,7,11,12,13,21,22,23] [3] rfl <| C1 <| A3 <| A0 <| A4 rfl rfl <| A4 rfl rfl <| H2 rfl rfl <| A5 rfl rfl rfl <| xN [0,3,4,5,7,11,12,13,21,22,23,27] [3] rfl ?_
   refine A8 rfl ?_ ?_ <;> intro hc <;> try simp only [SL] at hc
   ·refine A0 <| A4 rfl rfl <| A4 rfl rfl <| F9 rfl rfl rfl rfl (by omega) (by (simp; omega)) rfl <| I5 rfl rfl (by omega) (fun _ => rfl) (fun _ => rfl) rfl <| H0 rfl rfl (F3 (by omega)) <| F9 rfl rfl rfl rfl (by omega) (by (simp; omega)) rfl <| M0 rfl rfl rfl (by omega) (fun _ _ => ⟨rfl, rfl, dT rfl, dT rfl, rfl, rfl⟩) (by decide) (by exact A9 (A7 fun _ => rfl)) <| xN [0,3,4,5,11,12,13,21,22,23] [3] rfl <| A0 <| H0 rfl rfl (F3 (by omega)) <| A4 rfl rfl <| xN [0,3,4,5,11,12,13,21,22,23] [3] rfl ?_
    refine ⟨(k + 1, l2.set i (l2.getD i default + 2)), ?_, (by simp only; omega), ⟨rfl, rfl, rfl, rfl, rfl, rfl, rfl, rfl, rfl, rfl, rfl, trivial⟩⟩
    have hrs : prS (rkT x (I3 x i)) (k + 1) = prS (rkT x (I3 x i)) k + rkT x (I3 x i) k := rfl
    exact ⟨by omega, by rw [hl2i, hl2, List.set_set, hrs, rkT, if_pos (by assumption), Int.add_assoc]⟩
   refine A3 <| A0 <| A4 rfl rfl <| A4 rfl rfl <| Y3 rfl rfl <| A5 rfl rfl rfl <| xN [0,3,4,5,11,12,13,21,22,23,37] [3] rfl ?_
   refine A8 rfl ?_ ?_ <;> intro hc <;> try simp only [SL] at hc
   ·refine A0 <| A4 rfl rfl <| A4 rfl rfl <| F9 rfl rfl rfl rfl (by omega) (by (simp; omega)) rfl <| I5 rfl rfl (by omega) (fun _ => rfl) (fun _ => rfl) rfl <| H0 rfl rfl (F3 (by omega)) <| F9 rfl rfl rfl rfl (by omega) (by (simp; omega)) rfl <| M0 rfl rfl rfl (by omega) (fun _ _ => ⟨rfl, rfl, dT rfl, dT rfl, rfl, rfl⟩) (by decide) (by exact A9 (A7 fun _ => rfl)) <| xN [0,3,4,5,11,12,13,21,22,23] [3] rfl <| A0 <| H0 rfl rfl (F3 (by omega)) <| A4 rfl rfl <| xN [0,3,4,5,11,12,13,21,22,23] [3] rfl ?_
    refine ⟨(k + 1, l2.set i (l2.getD i default + 1)), ?_, (by simp only; omega), ⟨rfl, rfl, rfl, rfl, rfl, rfl, rfl, rfl, rfl, rfl, rfl, trivial⟩⟩
    have hrs : prS (rkT x (I3 x i)) (k + 1) = prS (rkT x (I3 x i)) k + rkT x (I3 x i) k := rfl
    exact ⟨by omega, by rw [hl2i, hl2, List.set_set, hrs, rkT, if_neg (by unfold I3; omega), if_pos (by assumption), Int.add_assoc]⟩
   refine B5 <| A0 <| H0 rfl rfl (F3 (by omega)) <| A4 rfl rfl <| xN [0,3,4,5,11,12,13,21,22,23] [3] rfl ?_
   refine ⟨(k + 1, l2), ?_, (by simp only; omega), ⟨rfl, rfl, rfl, rfl, rfl, rfl, rfl, rfl, rfl, rfl, rfl, trivial⟩⟩
   have hrs : prS (rkT x (I3 x i)) (k + 1) = prS (rkT x (I3 x i)) k + rkT x (I3 x i) k := rfl
   exact ⟨by omega, by rw [hl2, hrs, rkT, if_neg (by unfold I3; omega), if_neg (by unfold I3; omega), Int.add_zero]⟩
  refine G4 <| A0 <| H0 rfl rfl (F3 (by omega)) <| A4 rfl rfl <| xN [0,3,11,12,13] [3] rfl ?_
  refine ⟨(i + 1, l2), ?_, (by simp only; omega), ⟨rfl, rfl, rfl, rfl, rfl, rfl, trivial⟩⟩
  exact ⟨by omega, by rw [hl2]; exact hf.step (by omega) (by rw [show k = x.length by omega])⟩
 refine G4 <| A3 <| A0 <| A4 rfl rfl ?_
 (refine B0 rfl rfl (by (simp; omega)) rfl (fun _ => (A9 (by exact A7 fun _ => rfl))) (fun _ => rfl) ?_; intro g2)
 refine xN [2] [2] rfl <| C0 <| Q6 rfl rfl (by (simp [hfl]; done)) (by exact A7 fun _ => rfl) trivial ?_
 rw [hf.fin (by omega)]
 rfl

theorem keep_s_ranksS : G8 Tryz.f128 = [0, 2, 4, 12, 7, 18, 29, 5, 40, 6, 3] := by kernel_rfl
set_option maxHeartbeats 20000000 in
theorem c8b (x : List Int) (hv : vl x = true) : CW (cxT oG) 128 [L x] = some (.own 1 ((rkI x).map iV), []) := by
 have hx40 := (Q9.1 hv).1
 have hgb := a0c hv
 refine G3 rfl Tryz.func128 rfl ⟨by kernel_rfl, rfl, dT rfl, dT rfl, by decide⟩ keep_s_ranksS <| A3 <| A0 ?_
 (refine B9 rfl rfl (fun _ => rfl) ?_; intro g2)
 refine xN [0] [] rfl <| A3 <| A0 <| D4 (es := List.map iV []) rfl rfl (dT rfl) rfl rfl (fun _ => A9 (A7 fun _ => rfl)) (fun _ => rfl) ?_
 intro g8
 (refine B0 rfl rfl (by (simp; done)) rfl (fun _ => (A9 (by exact A7 fun _ => rfl))) (fun _ => rfl) ?_; intro g3)
 refine xN [0,3] [3] rfl <| A3 <| A3 <| A0 <| A5 rfl rfl rfl <| xN [0,3,4] [3] rfl <| C1 <| H4 (β := Nat × List Int × Nat) [(.t 0, _)] (fun (z : Nat × List Int × Nat) => match z with | (i, l, g) => [(.t 4, iV i), (.h 3, .obj g 0 1 (l.map iV)), (.t 3, .sl 3 g none 0 l.length)]) (fun (z : Nat × List Int × Nat) => match z with | (i, l, g) => i ≤ x.length ∧ l = (List.range i).map fun i => 1 + prS (rkT x (I3 x i)) x.length) (fun (z : Nat × List Int × Nat) => match z with | (i, l, g) => x.length - i) (0, [], _) ⟨rfl, rfl, rfl, rfl, trivial⟩ ⟨Nat.zero_le _, rfl⟩ ?_
 intro z hb
 obtain ⟨i, l, g⟩ := z
 try dsimp only at hb
 obtain ⟨hi1, hl⟩ := hb
 have hll : l.length = i := by rw [hl]; simp
 refine A3 <| A3 <| A0 <| A4 rfl rfl <| A4 rfl rfl <| D6 rfl rfl <| H2 rfl rfl <| xN [0,3,4,12] [3] rfl ?_
 refine A8 rfl ?_ ?_ <;> intro hc <;> try simp only [SL] at hc
 ·refine B5 <| A3 <| C1 <| A3 <| A0 <| A5 rfl rfl rfl <| xN [0,3,4,5] [3] rfl <| A3 <| A0 <| A5 rfl rfl rfl <| xN [0,3,4,5,6] [3] rfl <| A3 <| A3 <| A0 <| A5 rfl rfl rfl <| xN [0,3,4,5,6,7] [3] rfl <| C1 <| H4 (β := Nat × Int × Int) [(.t 0, _), (.t 3, _), (.t 4, _), (.h 3, _)] (fun (z : Nat × Int × Int) => match z with | (k, a, b) => [(.t 7, iV k), (.t 5, iV a), (.t 6, iV b)]) (fun (z : Nat × Int × Int) => match z with | (k, a, b) => k ≤ x.length ∧ 2 * a + b = prS (rkT x (I3 x i)) k ∧ 0 ≤ a ∧ a ≤ k ∧ 0 ≤ b ∧ b ≤ k) (fun (z : Nat × Int × Int) => match z with | (k, a, b) => x.length - k) (0, 0, 0) ⟨rfl, rfl, rfl, rfl, rfl, rfl, rfl, trivial⟩ ⟨Nat.zero_le _, rfl, by decide, by decide, by decide, by decide⟩ ?_
  intro z hb
  obtain ⟨k, a, b⟩ := z
  try dsimp only at hb
  obtain ⟨hk1, hab, ha0, ha1, hb0, hb1⟩ := hb
  refine A3 <| A3 <| A0 <| A4 rfl rfl <| A4 rfl rfl <| D6 rfl rfl <| H2 rfl rfl <| xN [0,3,4,5,6,7,18] [3] rfl ?_
  refine A8 rfl ?_ ?_ <;> intro hc <;> try simp only [SL] at hc
  ·refine B5 <| A3 <| C1 <| A3 <| A3 <| A0 <| A4 rfl rfl <| A4 rfl rfl <| C7 rfl rfl rfl (fun _ => rfl) (by omega) <| C6 rfl rfl rfl <| A4 rfl rfl <| A4 rfl rfl <| C7 rfl rfl rfl (fun _ => rfl) (by omega) <| C6 rfl rfl rfl <| H2 rfl rfl ?_
   refine L1 ⟨fun _ => ⟨by decide +kernel, by decide +kernel⟩, [(.t 0, _), (.t 3, _), (.t 4, _), (.t 5, _), (.t 6, _), (.t 7, _), (.t 29, _), (.h 3, _)], ⟨rfl, rfl, rfl, rfl, rfl, rfl, rfl, rfl, rfl, rfl, rfl, rfl, rfl, rfl, rfl, rfl, trivial⟩, ?_⟩
   refine A8 rfl ?_ ?_ <;> intro hc <;> try simp only [SL] at hc
   ·refine A0 <| A4 rfl rfl <| H0 rfl rfl (F3 (by omega)) <| A5 rfl rfl rfl <| xN [0,3,4,5,6,7] [3] rfl <| A3 <| A0 <| A4 rfl rfl <| A4 rfl rfl <| C7 rfl rfl rfl (fun _ => rfl) (by omega) <| C6 rfl rfl rfl <| A4 rfl rfl <| A4 rfl rfl <| C7 rfl rfl rfl (fun _ => rfl) (by omega) <| C6 rfl rfl rfl <| Y3 rfl rfl ?_
    refine L1 ⟨fun _ => ⟨by decide +kernel, by decide +kernel⟩, [(.t 0, _), (.t 3, _), (.t 4, _), (.t 5, _), (.t 6, _), (.t 7, _), (.t 40, _), (.h 3, _)], ⟨rfl, rfl, rfl, rfl, rfl, rfl, rfl, rfl, rfl, rfl, rfl, rfl, rfl, rfl, rfl, rfl, trivial⟩, ?_⟩
    refine A8 rfl ?_ ?_ <;> intro hc <;> try simp only [SL] at hc
    ·refine A0 <| A4 rfl rfl <| H0 rfl rfl (F3 (by omega)) <| A5 rfl rfl rfl <| xN [0,3,4,5,6,7] [3] rfl <| A0 <| A4 rfl rfl <| H0 rfl rfl (F3 (by omega)) <| A5 rfl rfl rfl <| xN [0,3,4,5,6,7] [3] rfl ?_
     refine ⟨(k + 1, a + 1, b + 1), ?_, (by simp only; omega), ⟨rfl, rfl, rfl, rfl, rfl, rfl, rfl, trivial⟩⟩
     have hrs : prS (rkT x (I3 x i)) (k + 1) = prS (rkT x (I3 x i)) k + rkT x (I3 x i) k := rfl
     exact ⟨by omega, by rw [hrs, ← hab, rkT, if_pos (by assumption)]; omega, by omega, by omega, by omega, by omega⟩
    refine B5 <| A0 <| A4 rfl rfl <| H0 rfl rfl (F3 (by omega)) <| A5 rfl rfl rfl <| xN [0,3,4,5,6,7] [3] rfl ?_
    refine ⟨(k + 1, a + 1, b), ?_, (by simp only; omega), ⟨rfl, rfl, rfl, rfl, rfl, rfl, rfl, trivial⟩⟩
    have hrs : prS (rkT x (I3 x i)) (k + 1) = prS (rkT x (I3 x i)) k + rkT x (I3 x i) k := rfl
    exact ⟨by omega, by rw [hrs, ← hab, rkT, if_pos (by assumption)]; omega, by omega, by omega, by omega, by omega⟩
   refine B5 <| A3 <| A0 <| A4 rfl rfl <| A4 rfl rfl <| C7 rfl rfl rfl (fun _ => rfl) (by omega) <| C6 rfl rfl rfl <| A4 rfl rfl <| A4 rfl rfl <| C7 rfl rfl rfl (fun _ => rfl) (by omega) <| C6 rfl rfl rfl <| Y3 rfl rfl ?_
   refine L1 ⟨fun _ => ⟨by decide +kernel, by decide +kernel⟩, [(.t 0, _), (.t 3, _), (.t 4, _), (.t 5, _), (.t 6, _), (.t 7, _), (.t 40, _), (.h 3, _)], ⟨rfl, rfl, rfl, rfl, rfl, rfl, rfl, rfl, rfl, rfl, rfl, rfl, rfl, rfl, rfl, rfl, trivial⟩, ?_⟩
   refine A8 rfl ?_ ?_ <;> intro hc <;> try simp only [SL] at hc
   ·refine A0 <| A4 rfl rfl <| H0 rfl rfl (F3 (by omega)) <| A5 rfl rfl rfl <| xN [0,3,4,5,6,7] [3] rfl <| A0 <| A4 rfl rfl <| H0 rfl rfl (F3 (by omega)) <| A5 rfl rfl rfl <| xN [0,3,4,5,6,7] [3] rfl ?_
    refine ⟨(k + 1, a, b + 1), ?_, (by simp only; omega), ⟨rfl, rfl, rfl, rfl, rfl, rfl, rfl, trivial⟩⟩
    have hrs : prS (rkT x (I3 x i)) (k + 1) = prS (rkT x (I3 x i)) k + rkT x (I3 x i) k := rfl
    exact ⟨by omega, by rw [hrs, ← hab, rkT, if_neg (by unfold I3; omega), if_pos (by assumption)]; omega, by omega, by omega, by omega, by omega⟩
   refine B5 <| A0 <| A4 rfl rfl <| H0 rfl rfl (F3 (by omega)) <| A5 rfl rfl rfl <| xN [0,3,4,5,6,7] [3] rfl ?_
   refine ⟨(k + 1, a, b), ?_, (by simp only; omega), ⟨rfl, rfl, rfl, rfl, rfl, rfl, rfl, trivial⟩⟩
   have hrs : prS (rkT x (I3 x i)) (k + 1) = prS (rkT x (I3 x i)) k + rkT x (I3 x i) k := rfl
   exact ⟨by omega, by rw [hrs, ← hab, rkT, if_neg (by unfold I3; omega), if_neg (by unfold I3; omega)]; omega, by omega, by omega, by omega, by omega⟩
  refine G4 <| A0 <| A4 rfl rfl <| A4 rfl rfl <| c3k rfl rfl (F3 (by omega)) <| A4 rfl rfl <| H0 rfl rfl (F3 (by omega)) <| H0 rfl rfl (F3 (by omega)) <| D4 (es := List.map iV [_]) rfl rfl (dT rfl) rfl rfl (fun _ => A9 (A7 fun _ => rfl)) (fun _ => rfl) ?_
  intro g49
  refine F7 rfl rfl rfl rfl (by (simp; done)) (by simp) (by decide) rfl rfl rfl rfl (dT rfl) (fun _ => ⟨rfl, rfl⟩) (by simp only [H6]; (simp only [List.length_nil, List.length_cons, List.length_append, Nat.zero_add, List.length_map]; omega)) (fun _ => rfl) ?_
  intro g50
  (refine B0 rfl rfl (by (simp; done)) rfl (fun _ => (A9 (by exact A7 fun _ => rfl))) (fun _ => rfl) ?_; intro g3)
  refine xN [0,3,4] [3] rfl <| A0 <| A4 rfl rfl <| H0 rfl rfl (F3 (by omega)) <| A5 rfl rfl rfl <| xN [0,3,4] [3] rfl ?_
  refine ⟨(i + 1, l ++ [2 * a + b + 1], _), ?_, (by simp only; omega), ⟨rfl, rfl, rfl, rfl, trivial⟩⟩
  exact ⟨by omega, by rw [hl, U3, hab, show k = x.length by omega, Int.add_comm]⟩
 refine G4 <| A3 <| A0 <| A4 rfl rfl ?_
 (refine B0 rfl rfl (by (simp; done)) rfl (fun _ => (A9 (by exact A7 fun _ => rfl))) (fun _ => rfl) ?_; intro g2)
 refine xN [2] [2] rfl <| C0 <| Q6 rfl rfl (by simp) (by exact A7 fun _ => rfl) trivial ?_
 rw [hl, show i = x.length by omega]
 rfl

theorem keep_s_turnedS : G8 Tryz.f127 = [0, 2, 4, 10, 3] := by kernel_rfl
set_option maxHeartbeats 20000000 in
theorem c5y (x : List Int) (hl : x.length ≤ 1000) : CW (cxT oG) 127 [L x] = some (.own 1 (x.reverse.map iV), []) := by
 refine G3 rfl Tryz.func127 rfl ⟨by kernel_rfl, rfl, dT rfl, dT rfl, by decide⟩ keep_s_turnedS <| A3 <| A0 ?_
 (refine B9 rfl rfl (fun _ => rfl) ?_; intro g2)
 refine xN [0] [] rfl <| A3 <| A0 <| D4 (es := List.map iV []) rfl rfl (dT rfl) rfl rfl (fun _ => A9 (A7 fun _ => rfl)) (fun _ => rfl) ?_
 intro g5
 (refine B0 rfl rfl (by (simp; done)) rfl (fun _ => (A9 (by exact A7 fun _ => rfl))) (fun _ => rfl) ?_; intro g3)
 refine xN [0,3] [3] rfl <| A3 <| A3 <| A0 <| A4 rfl rfl <| D6 rfl rfl <| U4 rfl rfl (F3 (by omega)) <| A5 rfl rfl rfl <| xN [0,3,4] [3] rfl <| C1 <| H4 (β := Nat × List Int × Nat) [(.t 0, _)] (fun (z : Nat × List Int × Nat) => match z with | (k, l, g) => [(.t 4, iV ((k : Int) - 1)), (.h 3, .obj g 0 1 (l.map iV)), (.t 3, .sl 3 g none 0 l.length)]) (fun (z : Nat × List Int × Nat) => match z with | (k, l, g) => k ≤ x.length ∧ l = (x.drop k).reverse) (fun (z : Nat × List Int × Nat) => match z with | (k, l, g) => k) (x.length, [], _) ⟨rfl, rfl, rfl, rfl, trivial⟩ ⟨Nat.le_refl _, by simp⟩ ?_
 intro z hb
 obtain ⟨k, l, g⟩ := z
 try dsimp only at hb
 obtain ⟨hk1, hl2⟩ := hb
 have hll : l.length = x.length - k := by rw [hl2]; simp
 refine A3 <| A3 <| A0 <| A4 rfl rfl <| c3u rfl rfl <| xN [0,3,4,10] [3] rfl ?_
 refine A8 rfl ?_ ?_ <;> intro hc <;> try simp only [SL] at hc
 ·obtain ⟨k', rfl⟩ : ∃ k', k = k' + 1 := ⟨k - 1, by omega⟩
  rw [show (((k' + 1 : Nat) : Int) - 1) = (k' : Int) by omega]
  refine B5 <| A3 <| C1 <| A0 <| A4 rfl rfl <| A4 rfl rfl <| A4 rfl rfl <| C7 rfl rfl rfl (fun _ => rfl) (by omega) <| C6 rfl rfl rfl <| D4 (es := List.map iV [_]) rfl rfl (dT rfl) rfl rfl (fun _ => A9 (A7 fun _ => rfl)) (fun _ => rfl) ?_
  intro g18
  refine F7 rfl rfl rfl rfl (by (simp; done)) (by simp) (by decide) rfl rfl rfl rfl (dT rfl) (fun _ => ⟨rfl, rfl⟩) (by simp only [H6]; (simp only [List.length_nil, List.length_cons, List.length_append, Nat.zero_add, List.length_map]; omega)) (fun _ => rfl) ?_
  intro g19
  (refine B0 rfl rfl (by (simp; done)) rfl (fun _ => (A9 (by exact A7 fun _ => rfl))) (fun _ => rfl) ?_; intro g3)
  refine xN [0,3,4] [3] rfl <| A0 <| A4 rfl rfl <| U4 rfl rfl (F3 (by omega)) <| A5 rfl rfl rfl <| xN [0,3,4] [3] rfl ?_
  refine ⟨(k', l ++ [x.getD k' default], _), ?_, (by simp only; omega), ⟨rfl, rfl, rfl, rfl, trivial⟩⟩
  exact ⟨by omega, by rw [hl2, c6a (show k' < x.length by omega), List.reverse_cons]⟩
 refine G4 <| A3 <| A0 <| A4 rfl rfl ?_
 (refine B0 rfl rfl (by (simp; done)) rfl (fun _ => (A9 (by exact A7 fun _ => rfl))) (fun _ => rfl) ?_; intro g2)
 refine xN [2] [2] rfl <| C0 <| Q6 rfl rfl (by simp) (by exact A7 fun _ => rfl) trivial ?_
 rw [hl2, show k = 0 by omega]
 rfl

theorem keep_s_validLong : G8 Tryz.f130 = [0, 2, 3, 7, 15] := by kernel_rfl
set_option maxHeartbeats 20000000 in
theorem b8h (x : List Int) (hl : x.length ≤ 1048576) : CW (cxT oG) 130 [L x] = some (bV (vl x), []) := by
 refine G3 rfl Tryz.func130 rfl ⟨by kernel_rfl, rfl, dT rfl, dT rfl, by decide⟩ keep_s_validLong <| A3 <| A0 <| A5 rfl rfl rfl <| xN [0] [] rfl <| A3 <| A3 <| A0 <| A5 rfl rfl rfl <| xN [0,3] [] rfl <| C1 <| H4 (β := Nat) [(.t 0, _)] (fun (i : Nat) => [(.t 3, iV i)]) (fun (i : Nat) => i ≤ x.length ∧ ∀ j, j < i → -100000 ≤ x.getD j default ∧ x.getD j default ≤ 100000) (fun (i : Nat) => x.length - i) 0 ⟨rfl, rfl, trivial⟩ ⟨Nat.zero_le _, fun j h => by omega⟩ ?_
 intro i hb
 obtain ⟨hi1, hi2⟩ := hb
 refine A3 <| A3 <| A0 <| A4 rfl rfl <| A4 rfl rfl <| D6 rfl rfl <| H2 rfl rfl <| xN [0,3,7] [] rfl ?_
 refine A8 rfl ?_ ?_ <;> intro hc <;> try simp only [SL] at hc
 ·refine B5 <| A3 <| C1 <| A3 <| A0 <| A4 rfl rfl <| A4 rfl rfl <| C7 rfl rfl rfl (fun _ => rfl) (by omega) <| C6 rfl rfl rfl ?_
  apply xC rfl
  ·apply B3
   ·exact B7 rfl
   apply B3
   ·exact B7 rfl
   apply B3
   ·exact B7 rfl
   exact D3
  ·exact b3t _ _ _
  refine ⟨⟨rfl, rfl, rfl, dT rfl, rfl⟩, .inl rfl, B8, D5 rfl, fun _ => rfl, fun g14 => ?_⟩
  refine K9 rfl <| xN [0,3,15] [] rfl ?_
  refine A8 rfl ?_ ?_ <;> intro hc <;> try simp only [SL] at hc
  ·refine A3 <| A0 <| A5 rfl rfl rfl <| xN [2] [] rfl <| C0 <| D7 rfl rfl trivial ?_
   rw [vl, b8v (show i < x.length by omega) (by (simp_all; omega)), Bool.and_false]
   rfl
  refine B5 <| A0 <| A4 rfl rfl <| H0 rfl rfl (F3 (by omega)) <| A5 rfl rfl rfl <| xN [0,3] [] rfl ?_
  refine ⟨i + 1, ⟨by omega, fun j hj => by rcases Nat.lt_succ_iff_lt_or_eq.1 hj with h | h; (· exact hi2 j h); (· subst h; assumption)⟩, (by omega), ⟨rfl, rfl, trivial⟩⟩
 refine G4 <| A3 <| A0 <| A4 rfl rfl <| D6 rfl rfl <| a6c rfl rfl <| A5 rfl rfl rfl <| xN [2] [] rfl <| C0 <| D7 rfl rfl trivial ?_
 rw [vl, c4f fun j hj => hi2 j (by omega), Bool.and_true]
 exact congrArg bV (decide_eq_decide.2 (by omega))

theorem keep_s_Reverse : G8 Tryz.f108 = [0, 3, 2, 9] := by kernel_rfl
set_option maxHeartbeats 20000000 in
theorem c5w (x : List Int) (hl : x.length ≤ 1000) : ∃ res outs, (fun res outs => res = .tup [] ∧ outs = [x.reverse.map iV]) res outs ∧ CW (cxT oG) 108 [.own 1 (x.map iV)] = some (res, outs) := by
 refine b3x rfl Tryz.func108 rfl ⟨by kernel_rfl, rfl, dT rfl, dT rfl, by decide⟩ keep_s_Reverse <| A3 <| A0 <| A4 rfl rfl <| N6 rfl rfl ?_
 simp only [List.length_map]
 refine U4 rfl rfl (F3 (by omega)) <| A5 rfl rfl rfl <| A5 rfl rfl rfl <| xN [0,2,3] [0] rfl <| C1 ?_
 rw [show ((x.length : Int) - 1) = (x.length : Int) - 1 - ((0 : Nat) : Int) by simp]
 refine H4 (β := Nat × List Int) [(.t 0, _)] (fun (z : Nat × List Int) => match z with | (i, l) => [(.t 2, iV i), (.t 3, iV ((x.length : Int) - 1 - (i : Int))), (.h 0, .obj 1 1 1 (l.map iV))]) (fun (z : Nat × List Int) => match z with | (i, l) => i ≤ x.length ∧ b6i x i l) (fun (z : Nat × List Int) => match z with | (i, l) => x.length - i) (0, x) ⟨rfl, rfl, rfl, rfl, trivial⟩ ⟨Nat.zero_le _, b6i.start x⟩ ?_
 intro z hb
 obtain ⟨i, l⟩ := z
 try dsimp only at hb
 obtain ⟨hi1, hr⟩ := hb
 have hrl := hr.1
 refine A3 <| A3 <| A0 <| A4 rfl rfl <| A4 rfl rfl <| H2 rfl rfl <| xN [0,2,3,9] [0] rfl ?_
 refine A8 rfl ?_ ?_ <;> intro hc <;> try simp only [SL] at hc
 ·refine B5 <| A3 <| C1 <| A0 ?_
  iterate 6 refine A4 rfl rfl ?_
  rw [show ((x.length : Int) - 1 - (i : Int)) = ((x.length - 1 - i : Nat) : Int) by omega]
  refine F9 rfl rfl rfl rfl (by (simp; omega)) (by (simp; omega)) rfl <| I5 rfl rfl (by omega) (fun _ => rfl) (fun _ => rfl) rfl <| A4 rfl rfl <| A4 rfl rfl <| F9 rfl rfl rfl rfl (by (simp; omega)) (by (simp; omega)) rfl <| I5 rfl rfl (by omega) (fun _ => rfl) (fun _ => rfl) rfl <| F9 rfl rfl rfl rfl (by (simp; omega)) (by (simp; omega)) rfl <| M0 rfl rfl rfl (by omega) (fun _ _ => ⟨rfl, rfl, dT rfl, dT rfl, rfl, rfl⟩) (by decide) (by exact b4e (A7 fun _ => rfl)) <| F9 rfl rfl rfl rfl (by (simp; omega)) (by (simp; omega)) rfl <| M0 rfl rfl rfl (by (simp; omega)) (fun _ _ => ⟨rfl, rfl, dT rfl, dT rfl, rfl, rfl⟩) (by decide) (by exact b4e (A7 fun _ => rfl)) ?_
  refine L1 ⟨fun _ => ⟨by decide +kernel, by decide +kernel⟩, [(.t 0, _), (.t 2, _), (.t 3, _), (.h 0, _)], ⟨rfl, rfl, rfl, rfl, rfl, rfl, rfl, rfl, trivial⟩, ?_⟩
  refine A0 <| A4 rfl rfl <| H0 rfl rfl (F3 (by omega)) ?_
  rw [show ((x.length - 1 - i : Nat) : Int) = (x.length : Int) - 1 - (i : Int) by omega]
  refine A4 rfl rfl <| U4 rfl rfl (F3 (by omega)) <| A5 rfl rfl rfl <| A5 rfl rfl rfl <| xN [0,2,3] [0] rfl ?_
  rw [show ((x.length : Int) - 1 - (i : Int) - 1) = (x.length : Int) - 1 - ((i + 1 : Nat) : Int) by omega]
  refine ⟨(i + 1, _), ?_, (by simp only; omega), ⟨rfl, rfl, rfl, rfl, trivial⟩⟩
  exact ⟨by omega, hr.step (by omega)⟩
 refine G4 ?_
 refine ⟨_, _, ?_, c6x (c8r rfl (a2f fun _ => rfl))⟩
 exact ⟨rfl, by rw [hr.fin (by omega)]⟩

theorem keep_s_column : G8 Tryz.f65 = [0, 1, 2, 6, 9, 7, 19] := by kernel_rfl
set_option maxHeartbeats 20000000 in
theorem c8u (k : Nat) (hk : k < 4) (nums : List Int) (cols : List (List Int)) (hc4 : cols.length ≤ 1048576) (hcb : ∀ c ∈ cols, c.length ≤ 1048576) : CW (cxT oG) 65 [sV (d0t k), L nums, M cols] = some (.own 1 ((cols.getD k default).map iV), []) := by
 have hgl : (cols.getD k default).length ≤ 1048576 := by rcases Nat.lt_or_ge k cols.length with c | c; (· exact hcb _ (a1k c)); (· rw [List.getD_eq_getElem?_getD, List.getElem?_eq_none c]; exact Nat.zero_le _)
 refine G3 rfl Tryz.func65 rfl ⟨by kernel_rfl, rfl, dT rfl, dT rfl, by decide⟩ keep_s_column <| A3 <| A0 ?_
 (refine B9 rfl rfl (fun _ => rfl) ?_; intro g6)
 refine xN [0,1,2] [] rfl <| A3 <| A3 <| A0 <| A4 rfl rfl <| c7p (t := false) rfl rfl (by match k, hk with | 0, _ => decide +kernel | 1, _ => decide +kernel | 2, _ => decide +kernel | 3, _ => decide +kernel) <| xN [0,1,2,9] [] rfl ?_
 refine A8 rfl (fun hc => ?_) (fun hc => ?_)
 ·try simp only [SD] at hc
  exact absurd hc (by decide)
 try simp only [SL] at hc
 refine B5 <| A3 <| A3 <| A0 <| A4 rfl rfl <| a8m (b := UInt8.ofNat (97 + k)) rfl rfl rfl (by decide) rfl ?_
 rw [show (UInt8.ofNat (97 + k)).toNat = 97 + k from by match k, hk with | 0, _ => rfl | 1, _ => rfl | 2, _ => rfl | 3, _ => rfl]
 refine U4 rfl rfl (by constructor <;> simp [IntKind.min, IntKind.max, IntKind.signed, IntKind.bits] <;> omega) ?_
 rw [show ((97 + k : Nat) : Int) - 97 = (k : Int) by omega]
 refine b6x rfl rfl rfl (F3 (by omega)) <| A5 rfl rfl rfl <| xN [2,7] [] rfl <| A3 <| A0 <| A4 rfl rfl <| A4 rfl rfl <| D6 rfl rfl <| H2 rfl rfl <| xN [2,7,19] [] rfl ?_
 refine A8 rfl ?_ ?_ <;> intro hc <;> try simp only [SL] at hc
 ·refine A3 <| A0 <| A4 rfl rfl <| A4 rfl rfl <| C7 rfl rfl rfl (fun _ => rfl) (by omega) <| C6 rfl rfl rfl ?_
  apply xC rfl
  ·apply B3
   ·exact B7 rfl
   exact D3
  ·exact c3f (cols.getD k default) hgl
  refine ⟨⟨rfl, rfl, rfl, dT rfl, rfl⟩, .inl rfl, B8, N2, fun _ => rfl, fun g24 => ?_⟩
  simp only [List.length_map]
  (refine B0 rfl rfl (by (simp; done)) rfl (fun _ => (A9 (by exact A7 fun _ => rfl))) (fun _ => rfl) ?_; intro g6)
  refine xN [6] [6] rfl <| C0 <| Q6 rfl rfl (by simp) (by exact A7 fun _ => rfl) trivial ?_
  rfl
 refine B5 <| A3 <| A0 ?_
 (refine B9 rfl rfl (fun _ => rfl) ?_; intro g6)
 refine xN [6] [6] rfl <| C0 <| Q6 rfl rfl (by simp) (by rfl) trivial ?_
 rw [List.getD_eq_getElem?_getD, List.getElem?_eq_none (by omega)]
 rfl

theorem keep_s_columnL : G8 Tryz.f65 = [0, 1, 2, 6, 9, 7, 19] := by kernel_rfl
set_option maxHeartbeats 20000000 in
theorem c6c (nums : List Int) (hn : nums.length ≤ 1048576) (cols : List (List Int)) : CW (cxT oG) 65 [sV wList, L nums, M cols] = some (.own 1 (nums.map iV), []) := by
 refine G3 rfl Tryz.func65 rfl ⟨by kernel_rfl, rfl, dT rfl, dT rfl, by decide⟩ keep_s_columnL <| A3 <| A0 ?_
 (refine B9 rfl rfl (fun _ => rfl) ?_; intro g6)
 refine xN [0,1,2] [] rfl <| A3 <| A3 <| A0 <| A4 rfl rfl <| c7p (t := true) rfl rfl (by decide +kernel) <| xN [0,1,2,9] [] rfl ?_
 refine A8 rfl (fun hc => ?_) (fun hc => ?_)
 ·try simp only [SL] at hc
  refine A3 <| A0 <| A4 rfl rfl ?_
  apply xC rfl
  ·apply B3
   ·exact B7 rfl
   exact D3
  ·exact c3f nums hn
  refine ⟨⟨rfl, rfl, rfl, dT rfl, rfl⟩, .inl rfl, B8, N2, fun _ => rfl, fun g11 => ?_⟩
  simp only [List.length_map]
  (refine B0 rfl rfl (by (simp; done)) rfl (fun _ => (A9 (by exact A7 fun _ => rfl))) (fun _ => rfl) ?_; intro g6)
  refine xN [6] [6] rfl <| C0 <| Q6 rfl rfl (by simp) (by exact A7 fun _ => rfl) trivial ?_
  rfl
 try simp only [SD] at hc
 exact absurd hc (by decide)

theorem keep_s_makeBy : G8 Tryz.f66 = [0, 1, 4, 5, 15, 20, 21, 6, 25, 29, 33, 32, 34, 7, 45, 49, 48, 50, 8, 66, 9, 72, 86, 10, 91, 105, 109, 114, 124, 129, 128, 130, 127, 12, 11, 142, 156, 63] := by kernel_rfl
set_option maxHeartbeats 20000000 in
theorem b9f (op : ByteArray) (h1 : 1 ≤ nd op) (x y : List Int) (hx : vl x = true) (hy : vl y = true) (ls : List (List Int)) (hl1 : 1 ≤ ls.length) (hl2 : nd op = 2 → 2 ≤ ls.length) (hlx : ls.getD 0 default = x) (hly : 2 ≤ ls.length → ls.getD 1 default = y) : CW (cxT oG) 66 [sV op, M ls] = some (.tup [.own 1 (((mkR op x y).getD []).map iV), bV (mkR op x y).isSome], []) := by
 have hx40 := (Q9.1 hx).1
 have hy40 := (Q9.1 hy).1
 have hgx := a0c hx
 have hgy := a0c hy
 have hsx := a2p x
 refine G3 rfl Tryz.func66 rfl ⟨by kernel_rfl, rfl, dT rfl, dT rfl, by decide⟩ keep_s_makeBy <| A3 <| A0 ?_
 (refine B9 rfl rfl (fun _ => rfl) ?_; intro g4)
 refine A5 rfl rfl rfl <| xN [0,1] [] rfl <| A3 <| A0 ?_
 (refine B9 rfl rfl (fun _ => rfl) ?_; intro g6)
 refine xN [0,1,6] [6] rfl <| A3 <| A3 <| A0 <| A4 rfl rfl <| D6 rfl rfl <| P1 rfl rfl <| xN [0,1,6,15] [6] rfl ?_
 refine A8 rfl (fun hc => ?_) (fun hc => ?_)
 ·try simp only [SL] at hc
  refine A0 <| A4 rfl rfl <| C7 rfl rfl rfl (fun _ => rfl) (by (change 0 < _; omega)) <| C6 rfl rfl rfl ?_
  rw [hlx]
  apply xC rfl
  ·apply B3
   ·exact B7 rfl
   exact D3
  ·exact c3o x (by simp only [H6]; omega)
  refine ⟨⟨rfl, rfl, rfl, dT rfl, rfl⟩, .inl rfl, B8, N2, fun _ => rfl, fun g19 => ?_⟩
  simp only [List.length_map]
  (refine B0 rfl rfl (by (simp; done)) rfl (fun _ => (A9 (by exact A7 fun _ => rfl))) (fun _ => rfl) ?_; intro g6)
  refine xN [0,1,6] [6] rfl <| b7z <| A3 <| A0 <| A4 rfl rfl <| xN [1,6,20] [6] rfl ?_
  refine c7r (β := List Int × Nat × Nat) [] trivial (fun (z : List Int × Nat × Nat) => match z with | (r, n, g) => [(.h 6, .obj g 0 1 (r.map iV)), (.t 6, .sl 6 g none 0 n)]) (fun (z : List Int × Nat × Nat) => match z with | (r, n, g) => T3 op x y = some r ∧ n = r.length ∧ r.length ≤ 80) ?_ ?_
  ·skip
   refine C1 <| A3 <| A0 <| I8 rfl rfl <| A5 rfl rfl rfl <| xN [1,6,20,21] [6] rfl ?_
   refine A8 rfl ?_ ?_ <;> intro hc <;> try simp only [SL] at hc
   ·try simp at hc
    refine A0 <| A4 rfl rfl ?_
    apply b6j rfl
    ·apply B3
     ·exact b7h rfl rfl (by decide) (by (simp; done)) (a2f fun _ => rfl)
     exact D3
    ·exact d2h x (by simp only [H6]; omega)
    ·exact ⟨rfl, rfl, rfl, dT rfl, rfl⟩
    ·exact .inl rfl
    ·exact b3s rfl (by simp) (b0r _ _) B8
    ·exact L0 rfl
    ·(intro _; exact C9 (A9 (A7 fun _ => rfl)) rfl)
    intro g24
    refine xN [6] [6] rfl ?_
    refine ⟨(_, _, _), ?_, ⟨rfl, rfl, trivial⟩⟩
    exact ⟨(by (simp [T3, *]; done)), (by (simp; done)), (by omega)⟩
   try simp at hc
   refine A3 <| A0 <| I8 rfl rfl <| A5 rfl rfl rfl <| xN [1,6,20,25] [6] rfl ?_
   refine A8 rfl ?_ ?_ <;> intro hc <;> try simp only [SL] at hc
   ·try simp at hc
    refine A0 <| A4 rfl rfl ?_
    obtain ⟨_, _, ⟨rfl, rfl⟩, hRv⟩ := c5w (oG := oG) x (by omega)
    apply b6j rfl
    ·apply B3
     ·exact b7h rfl rfl (by decide) (by (simp; done)) (a2f fun _ => rfl)
     exact D3
    ·exact hRv
    ·exact ⟨rfl, rfl, rfl, dT rfl, rfl⟩
    ·exact .inl rfl
    ·exact b3s rfl (by simp) (b0r _ _) B8
    ·exact L0 rfl
    ·(intro _; exact C9 (A9 (A7 fun _ => rfl)) rfl)
    intro g28
    refine xN [6] [6] rfl ?_
    refine ⟨(_, _, _), ?_, ⟨rfl, rfl, trivial⟩⟩
    exact ⟨(by (simp [T3, *]; done)), (by (simp; done)), (by (simp; omega))⟩
   try simp at hc
   refine A3 <| A0 <| I8 rfl rfl <| A5 rfl rfl rfl <| xN [1,6,20,29] [6] rfl ?_
   refine A8 rfl ?_ ?_ <;> intro hc <;> try simp only [SL] at hc
   ·try simp at hc
    refine A3 <| A0 <| A4 rfl rfl <| N6 rfl rfl <| A4 rfl rfl <| xN [6,32,33] [6] rfl <| C1 <| H4 (β := Nat × List Int) [(.t 6, _), (.t 32, _)] (fun (z : Nat × List Int) => match z with | (i, l) => [(.t 33, iV i), (.h 6, .obj g6 0 1 (l.map iV))]) (fun (z : Nat × List Int) => match z with | (i, l) => i ≤ x.length ∧ S9 x.length (fun i => -(I3 x i)) (I3 x) i l) (fun (z : Nat × List Int) => match z with | (i, l) => x.length - i) (0, x) ⟨rfl, rfl, rfl, rfl, trivial⟩ ⟨Nat.zero_le _, S9.start x _⟩ ?_
    intro z hb
    obtain ⟨i, l⟩ := z
    try dsimp only at hb
    obtain ⟨hi1, hf⟩ := hb
    have hfl := hf.1
    have hfa := fun h : i < x.length => hf.at h
    have hgi := hgx i
    have hgyi : -100000 ≤ y.getD i default ∧ y.getD i default ≤ 100000 := hgy i
    refine A3 <| A0 <| H2 rfl rfl <| xN [6,32,33,34] [6] rfl <| A3 ?_
    refine A8 rfl ?_ ?_ <;> intro hc <;> try simp only [SL] at hc
    ·refine B5 <| A3 <| C1 <| A3 <| A0 <| A4 rfl rfl <| A5 rfl rfl rfl <| xN [6,7,32,33] [6] rfl <| A0 <| A4 rfl rfl <| A4 rfl rfl <| A4 rfl rfl <| A4 rfl rfl <| F9 rfl rfl rfl rfl (by omega) (by (simp; omega)) rfl <| I5 rfl rfl (by omega) (fun _ => rfl) (fun _ => rfl) rfl <| b4o rfl (F3 (by omega)) <| F9 rfl rfl rfl rfl (by omega) (by (simp; omega)) rfl <| M0 rfl rfl rfl (by omega) (fun _ _ => ⟨rfl, rfl, dT rfl, dT rfl, rfl, rfl⟩) (by decide) (by exact A9 (A7 fun _ => rfl)) <| xN [6,32,33] [6] rfl <| A0 <| H0 rfl rfl (F3 (by omega)) <| A4 rfl rfl <| xN [6,32,33] [6] rfl ?_
     refine ⟨(i + 1, l.set i (-(l.getD i default))), ?_, (by simp only; omega), ⟨rfl, rfl, rfl, rfl, trivial⟩⟩
     exact ⟨by omega, hf.step (by omega) (by rw [hfa (by omega)]; done)⟩
    refine G4 ?_
    refine ⟨(_, _, _), ?_, ⟨rfl, rfl, trivial⟩⟩
    exact ⟨by rw [(hf.fin (by omega)).trans (a6f x fun v => -v)]; simp [T3, *], by omega, by omega⟩
   try simp at hc
   refine A3 <| A0 <| I8 rfl rfl <| A5 rfl rfl rfl <| xN [1,6,20,45] [6] rfl ?_
   refine A8 rfl ?_ ?_ <;> intro hc <;> try simp only [SL] at hc
   ·try simp at hc
    refine A3 <| A0 <| A4 rfl rfl <| N6 rfl rfl <| A4 rfl rfl <| xN [6,48,49] [6] rfl <| C1 <| H4 (β := Nat × List Int) [(.t 6, _), (.t 48, _)] (fun (z : Nat × List Int) => match z with | (i, l) => [(.t 49, iV i), (.h 6, .obj g6 0 1 (l.map iV))]) (fun (z : Nat × List Int) => match z with | (i, l) => i ≤ x.length ∧ S9 x.length (fun i => max (I3 x i) (-(I3 x i))) (I3 x) i l) (fun (z : Nat × List Int) => match z with | (i, l) => x.length - i) (0, x) ⟨rfl, rfl, rfl, rfl, trivial⟩ ⟨Nat.zero_le _, S9.start x _⟩ ?_
    intro z hb
    obtain ⟨i, l⟩ := z
    try dsimp only at hb
    obtain ⟨hi1, hf⟩ := hb
    have hfl := hf.1
    have hfa := fun h : i < x.length => hf.at h
    have hgi := hgx i
    have hgyi : -100000 ≤ y.getD i default ∧ y.getD i default ≤ 100000 := hgy i
    refine A3 <| A0 <| H2 rfl rfl <| xN [6,48,49,50] [6] rfl <| A3 ?_
    refine A8 rfl ?_ ?_ <;> intro hc <;> try simp only [SL] at hc
    ·refine B5 <| A3 <| C1 <| A3 <| A0 <| A4 rfl rfl <| A5 rfl rfl rfl <| xN [6,8,48,49] [6] rfl <| A0 <| A4 rfl rfl <| A4 rfl rfl <| A4 rfl rfl <| A4 rfl rfl <| F9 rfl rfl rfl rfl (by omega) (by (simp; omega)) rfl <| I5 rfl rfl (by omega) (fun _ => rfl) (fun _ => rfl) rfl <| A4 rfl rfl <| A4 rfl rfl <| F9 rfl rfl rfl rfl (by omega) (by (simp; omega)) rfl <| I5 rfl rfl (by omega) (fun _ => rfl) (fun _ => rfl) rfl <| b4o rfl (F3 (by omega)) <| d1f rfl rfl <| F9 rfl rfl rfl rfl (by omega) (by (simp; omega)) rfl <| M0 rfl rfl rfl (by omega) (fun _ _ => ⟨rfl, rfl, dT rfl, dT rfl, rfl, rfl⟩) (by decide) (by exact A9 (A7 fun _ => rfl)) ?_
     refine L1 ⟨fun _ => ⟨by decide +kernel, by decide +kernel⟩, [(.t 6, _), (.t 48, _), (.t 49, _), (.h 6, _)], ⟨rfl, rfl, rfl, rfl, rfl, rfl, rfl, rfl, trivial⟩, ?_⟩
     refine A0 <| H0 rfl rfl (F3 (by omega)) <| A4 rfl rfl <| xN [6,48,49] [6] rfl ?_
     refine ⟨(i + 1, l.set i (max (l.getD i default) (-(l.getD i default)))), ?_, (by simp only; omega), ⟨rfl, rfl, rfl, rfl, trivial⟩⟩
     exact ⟨by omega, hf.step (by omega) (by rw [hfa (by omega)]; done)⟩
    refine G4 ?_
    refine ⟨(_, _, _), ?_, ⟨rfl, rfl, trivial⟩⟩
    exact ⟨by rw [(hf.fin (by omega)).trans (a6f x fun v => max v (-v))]; simp [T3, *], by omega, by omega⟩
   try simp at hc
   refine A3 <| A0 <| I8 rfl rfl <| A5 rfl rfl rfl <| xN [1,6,20,66] [6] rfl ?_
   refine A8 rfl ?_ ?_ <;> intro hc <;> try simp only [SL] at hc
   ·try simp at hc
    refine A3 <| A0 <| A4 rfl rfl <| N6 rfl rfl <| U4 rfl rfl (F3 (by omega)) <| A5 rfl rfl rfl <| xN [6,9] [6] rfl <| C1 <| H4 (β := Nat × List Int) [(.t 6, _)] (fun (z : Nat × List Int) => match z with | (k, l) => [(.t 9, iV ((k : Int) - 1)), (.h 6, .obj g6 0 1 (l.map iV))]) (fun (z : Nat × List Int) => match z with | (k, l) => k ≤ x.length ∧ a2z x (k - 1) l) (fun (z : Nat × List Int) => match z with | (k, l) => k) (x.length, x) ⟨rfl, rfl, rfl, trivial⟩ ⟨Nat.le_refl _, a2z.start x⟩ ?_
    intro z hb
    obtain ⟨k, l⟩ := z
    try dsimp only at hb
    obtain ⟨hk1, hd⟩ := hb
    have hdl := hd.1
    refine A3 <| A3 <| A0 <| A4 rfl rfl <| P1 rfl rfl <| xN [6,9,72] [6] rfl ?_
    refine A8 rfl ?_ ?_ <;> intro hc <;> try simp only [SL] at hc
    ·refine B5 <| A3 <| C1 <| A0 <| A4 rfl rfl <| A4 rfl rfl ?_
     rw [show ((k : Int) - 1) = ((k - 1 : Nat) : Int) by omega]
     refine F9 rfl rfl rfl rfl (by omega) (by (simp; omega)) rfl <| I5 rfl rfl (by omega) (fun _ => rfl) (fun _ => rfl) rfl <| A4 rfl rfl <| A4 rfl rfl <| U4 rfl rfl (F3 (by omega)) ?_
     rw [show ((k - 1 : Nat) : Int) - 1 = ((k - 1 - 1 : Nat) : Int) by omega]
     refine F9 rfl rfl rfl rfl (by omega) (by (simp; omega)) rfl <| I5 rfl rfl (by omega) (fun _ => rfl) (fun _ => rfl) rfl ?_
     have hd1 := hd.val (k - 1)
     have hd2 := hd.val (k - 1 - 1)
     have hg1 := hgx (k - 1)
     have hg2 := hgx (k - 1 - 1)
     have hg3 := hgx (k - 1 - 1 - 1)
     refine U4 rfl rfl (F3 (by omega)) <| F9 rfl rfl rfl rfl (by omega) (by (simp; omega)) rfl <| M0 rfl rfl rfl (by omega) (fun _ _ => ⟨rfl, rfl, dT rfl, dT rfl, rfl, rfl⟩) (by decide) (by exact A9 (A7 fun _ => rfl)) ?_
     refine L1 ⟨fun _ => ⟨by decide +kernel, by decide +kernel⟩, [(.t 6, _), (.t 9, _), (.h 6, _)], ⟨rfl, rfl, rfl, rfl, rfl, rfl, trivial⟩, ?_⟩
     refine A0 <| A4 rfl rfl <| U4 rfl rfl (F3 (by omega)) <| A5 rfl rfl rfl <| xN [6,9] [6] rfl ?_
     refine ⟨(k - 1, _), ?_, (by simp only; omega), ⟨rfl, rfl, rfl, trivial⟩⟩
     exact ⟨by omega, hd.step (by omega) (by omega)⟩
    refine G4 ?_
    refine ⟨(_, _, _), ?_, ⟨rfl, rfl, trivial⟩⟩
    exact ⟨by rw [show l = dfI x from a2z.fin ((show k - 1 = 0 by omega) ▸ hd)]; simp [T3, *], by omega, by omega⟩
   try simp at hc
   refine A3 <| A0 <| I8 rfl rfl <| A5 rfl rfl rfl <| xN [1,6,20,86] [6] rfl ?_
   refine A8 rfl ?_ ?_ <;> intro hc <;> try simp only [SL] at hc
   ·try simp at hc
    refine A3 <| A0 <| A5 rfl rfl rfl <| xN [6,10] [6] rfl <| C1 <| H4 (β := Nat × List Int) [(.t 6, _)] (fun (z : Nat × List Int) => match z with | (i, l) => [(.t 10, iV i), (.h 6, .obj g6 0 1 (l.map iV))]) (fun (z : Nat × List Int) => match z with | (i, l) => 1 ≤ i ∧ S9 x.length (fun i => prS (I3 x) (i + 1)) (I3 x) i l) (fun (z : Nat × List Int) => match z with | (i, l) => x.length - i) (1, x) ⟨rfl, rfl, rfl, trivial⟩ ⟨Nat.le_refl _, S9.start1 x⟩ ?_
    intro z hb
    obtain ⟨i, l⟩ := z
    try dsimp only at hb
    obtain ⟨hi1, hf⟩ := hb
    have hfl := hf.1
    have hfa := fun h : i < x.length => hf.at h
    have hgi := hgx i
    refine A3 <| A3 <| A0 <| A4 rfl rfl <| A4 rfl rfl <| N6 rfl rfl <| H2 rfl rfl <| xN [6,10,91] [6] rfl ?_
    refine A8 rfl ?_ ?_ <;> intro hc <;> try simp only [SL] at hc
    ·refine B5 <| A3 <| C1 <| A0 <| A4 rfl rfl <| A4 rfl rfl <| F9 rfl rfl rfl rfl (by omega) (by (simp; omega)) rfl <| I5 rfl rfl (by omega) (fun _ => rfl) (fun _ => rfl) rfl <| A4 rfl rfl <| A4 rfl rfl <| U4 rfl rfl (F3 (by omega)) ?_
     rw [show ((i : Int) - 1) = ((i - 1 : Nat) : Int) by omega]
     refine F9 rfl rfl rfl rfl (by omega) (by (simp; omega)) rfl <| I5 rfl rfl (by omega) (fun _ => rfl) (fun _ => rfl) rfl ?_
     have hfb := hf.before (j := i - 1) (by omega) (by omega)
     have hsb := b8j hx (i - 1 + 1)
     refine H0 rfl rfl (F3 (by omega)) <| F9 rfl rfl rfl rfl (by omega) (by (simp; omega)) rfl <| M0 rfl rfl rfl (by omega) (fun _ _ => ⟨rfl, rfl, dT rfl, dT rfl, rfl, rfl⟩) (by decide) (by exact A9 (A7 fun _ => rfl)) ?_
     refine L1 ⟨fun _ => ⟨by decide +kernel, by decide +kernel⟩, [(.t 6, _), (.t 10, _), (.h 6, _)], ⟨rfl, rfl, rfl, rfl, rfl, rfl, trivial⟩, ?_⟩
     refine A0 <| A4 rfl rfl <| H0 rfl rfl (F3 (by omega)) <| A5 rfl rfl rfl <| xN [6,10] [6] rfl ?_
     refine ⟨(i + 1, l.set i (l.getD i default + l.getD (i - 1) default)), ?_, (by simp only; omega), ⟨rfl, rfl, rfl, trivial⟩⟩
     have hfb2 := hf.before (j := i - 1) (by omega) (by omega)
     rw [show i - 1 + 1 = i by omega] at hfb2
     exact ⟨by omega, hf.step (by omega) (by rw [hfa (by omega), hfb2, Int.add_comm]; rfl)⟩
    refine G4 ?_
    refine ⟨(_, _, _), ?_, ⟨rfl, rfl, trivial⟩⟩
    exact ⟨by rw [show l = smI x from hf.fin (by omega)]; simp [T3, *], by omega, by omega⟩
   try simp at hc
   refine A3 <| A0 <| I8 rfl rfl <| A5 rfl rfl rfl <| xN [1,6,20,105] [6] rfl ?_
   refine A8 rfl ?_ ?_ <;> intro hc <;> try simp only [SL] at hc
   ·try simp at hc
    refine A0 <| A4 rfl rfl ?_
    apply xC rfl
    ·apply B3
     ·exact K2 rfl rfl rfl (by (simp; done)) (fun _ => rfl)
     exact D3
    ·exact c8n x hx
    refine ⟨⟨rfl, rfl, rfl, dT rfl, rfl⟩, .inr ⟨b2p fun _ => rfl, rfl⟩, B8, N2, fun _ => rfl, fun g108 => ?_⟩
    simp only [List.length_map]
    (refine B0 rfl rfl (by (simp; done)) rfl (fun _ => (A9 (by exact A7 fun _ => rfl))) (fun _ => rfl) ?_; intro g6)
    refine xN [6] [6] rfl ?_
    refine ⟨(_, _, _), ?_, ⟨rfl, rfl, trivial⟩⟩
    exact ⟨(by (simp [T3, rkI, *]; done)), (by (simp [dfI, smI, rkI, adI]; done)), (by (simp; omega))⟩
   try simp at hc
   refine A3 <| A0 <| I8 rfl rfl <| A5 rfl rfl rfl <| xN [1,6,20,109] [6] rfl ?_
   refine A8 rfl ?_ ?_ <;> intro hc <;> try simp only [SL] at hc
   ·try simp at hc
    refine A0 <| A4 rfl rfl ?_
    apply xC rfl
    ·apply B3
     ·exact K2 rfl rfl rfl (by (simp; done)) (fun _ => rfl)
     exact D3
    ·exact d1q x hx
    refine ⟨⟨rfl, rfl, rfl, dT rfl, rfl⟩, .inr ⟨rfl, rfl⟩, B8, D5 rfl, fun _ => rfl, fun g112 => ?_⟩
    refine D4 (es := List.map iV [_]) rfl rfl (dT rfl) rfl rfl (fun _ => A9 (A7 fun _ => rfl)) (fun _ => rfl) ?_
    intro g113
    (refine B0 rfl rfl (by (simp; done)) rfl (fun _ => (A9 (by exact A7 fun _ => rfl))) (fun _ => rfl) ?_; intro g6)
    refine xN [6] [6] rfl ?_
    refine ⟨(_, _, _), ?_, ⟨rfl, rfl, trivial⟩⟩
    exact ⟨(by (simp [T3, *]; done)), (by (simp; done)), (by (simp; done))⟩
   try simp at hc
   refine A3 <| A0 <| I8 rfl rfl <| A5 rfl rfl rfl <| xN [1,6,20,114] [6] rfl ?_
   refine A8 rfl ?_ ?_ <;> intro hc <;> try simp only [SL] at hc
   ·try simp at hc
    have h2l := hl2 (c6w (.inl hc))
    refine A3 <| A3 <| A0 <| A4 rfl rfl <| C7 rfl rfl rfl (fun _ => rfl) (by (change 0 < _; omega)) <| C6 rfl rfl rfl ?_
    rw [hlx]
    refine D6 rfl rfl <| A4 rfl rfl <| C7 rfl rfl rfl (fun _ => rfl) (by (simp; omega)) <| C6 rfl rfl rfl ?_
    rw [hly h2l]
    refine D6 rfl rfl <| c2w rfl rfl ?_
    refine L1 ⟨fun _ => ⟨by decide +kernel, by decide +kernel⟩, [(.t 1, _), (.t 6, _), (.t 124, _), (.h 6, _)], ⟨rfl, rfl, rfl, rfl, rfl, rfl, rfl, rfl, trivial⟩, ?_⟩
    refine A8 rfl ?_ ?_ <;> intro hc <;> try simp only [SL] at hc
    ·refine A3 <| A0 ?_
     (refine B9 rfl rfl (fun _ => rfl) ?_; intro g4)
     refine A5 rfl rfl rfl <| xN [4,5] [4] rfl <| C0 <| C8 (G9 rfl rfl (by simp) (by rfl) (E7 rfl rfl (D9 C4))) ?_
     have hne : ¬ x.length = y.length := by omega
     rw [show mkR op x y = none from by simp [mkR, T3, *]]
     rfl
    refine B5 <| A3 <| A0 <| A4 rfl rfl <| C7 rfl rfl rfl (fun _ => rfl) (by (simp; omega)) <| C6 rfl rfl rfl ?_
    rw [hly h2l]
    refine D6 rfl rfl <| A4 rfl rfl <| xN [6,127,128,129] [6] rfl <| C1 <| H4 (β := Nat × List Int) [(.t 6, _), (.t 127, _), (.t 128, _)] (fun (z : Nat × List Int) => match z with | (i, l) => [(.t 129, iV i), (.h 6, .obj g6 0 1 (l.map iV))]) (fun (z : Nat × List Int) => match z with | (i, l) => i ≤ x.length ∧ S9 x.length (fun i => I3 x i + I3 y i) (I3 x) i l) (fun (z : Nat × List Int) => match z with | (i, l) => x.length - i) (0, x) ⟨rfl, rfl, rfl, rfl, rfl, trivial⟩ ⟨Nat.zero_le _, S9.start x _⟩ ?_
    intro z hb
    obtain ⟨i, l⟩ := z
    try dsimp only at hb
    obtain ⟨hi1, hf⟩ := hb
    have hfl := hf.1
    have hfa := fun h : i < x.length => hf.at h
    have hgi := hgx i
    have hgyi : -100000 ≤ y.getD i default ∧ y.getD i default ≤ 100000 := hgy i
    refine A3 <| A0 <| H2 rfl rfl <| xN [6,127,128,129,130] [6] rfl <| A3 ?_
    refine A8 rfl ?_ ?_ <;> intro hc <;> try simp only [SL] at hc
    ·refine B5 <| A3 <| C1 <| A3 <| A0 <| A4 rfl rfl <| C7 rfl rfl rfl (fun _ => rfl) (by omega) <| C6 rfl rfl rfl <| A5 rfl rfl rfl <| A5 rfl rfl rfl <| xN [6,11,12,127,128,129] [6] rfl <| A0 <| A4 rfl rfl <| A4 rfl rfl <| F9 rfl rfl rfl rfl (by omega) (by (simp; omega)) rfl <| I5 rfl rfl (by omega) (fun _ => rfl) (fun _ => rfl) rfl <| A4 rfl rfl <| H0 rfl rfl (F3 (by omega)) <| F9 rfl rfl rfl rfl (by omega) (by (simp; omega)) rfl <| M0 rfl rfl rfl (by omega) (fun _ _ => ⟨rfl, rfl, dT rfl, dT rfl, rfl, rfl⟩) (by decide) (by exact A9 (A7 fun _ => rfl)) <| xN [6,127,128,129] [6] rfl <| A0 <| H0 rfl rfl (F3 (by omega)) <| A4 rfl rfl <| xN [6,127,128,129] [6] rfl ?_
     refine ⟨(i + 1, l.set i (l.getD i default + y.getD i default)), ?_, (by simp only; omega), ⟨rfl, rfl, rfl, rfl, rfl, trivial⟩⟩
     exact ⟨by omega, hf.step (by omega) (by rw [hfa (by omega)]; rfl)⟩
    refine G4 ?_
    refine ⟨(_, _, _), ?_, ⟨rfl, rfl, trivial⟩⟩
    exact ⟨adF (by assumption) (by omega) (hf.fin (by omega)) rfl, by omega, by omega⟩
   try simp at hc
   refine A3 <| A0 <| I8 rfl rfl <| A5 rfl rfl rfl <| xN [1,6,142] [6] rfl ?_
   refine A8 rfl ?_ ?_ <;> intro hc <;> try simp only [SL] at hc
   ·try simp at hc
    have h2l := hl2 (c6w (.inr hc))
    refine A0 <| A4 rfl rfl <| A4 rfl rfl <| C7 rfl rfl rfl (fun _ => rfl) (by (simp; omega)) <| C6 rfl rfl rfl ?_
    rw [hly h2l]
    refine a0n rfl rfl rfl (by (simp; done)) rfl rfl rfl (dT rfl) (fun _ => ⟨rfl, rfl, rfl⟩) (by simp only [H6]; omega) (fun _ => rfl) ?_
    intro g148
    (refine B0 rfl rfl (by (simp; done)) rfl (fun _ => (A9 (by exact A7 fun _ => rfl))) (fun _ => rfl) ?_; intro g6)
    refine xN [6] [6] rfl ?_
    refine ⟨(_, _, _), ?_, ⟨rfl, rfl, trivial⟩⟩
    exact ⟨(by (simp [T3, *]; done)), (by (simp; done)), (by (simp; omega))⟩
   try simp at hc
   refine B5 ?_
   refine ⟨(_, _, _), ?_, ⟨rfl, rfl, trivial⟩⟩
   exact ⟨(by (simp [T3, *]; done)), (by (simp; done)), (by omega)⟩
  intro z hb
  obtain ⟨r, n, g⟩ := z
  try dsimp only at hb
  obtain ⟨hraw, hn, hr80⟩ := hb
  subst hn
  refine A3 <| A3 <| A0 <| A4 rfl rfl <| N6 rfl rfl <| P1 rfl rfl <| A4 rfl rfl ?_
  refine E6 rfl rfl ?_ ?_ <;> intro hg0 <;> have hg := hg0 <;> try simp only [SG] at hg
  ·refine A4 rfl rfl <| gT rfl rfl ?_
   apply xC rfl
   ·apply B3
    ·exact K2 rfl rfl rfl (by (simp; done)) (fun _ => rfl)
    apply B3
    ·exact B7 rfl
    apply B3
    ·exact B7 rfl
    exact D3
   ·exact c3m r (by omega) (-100000) 100000
   refine ⟨⟨rfl, rfl, rfl, dT rfl, rfl⟩, .inr ⟨rfl, rfl⟩, B8, D5 rfl, fun _ => rfl, fun g154 => ?_⟩
   refine gT rfl rfl <| K9 rfl <| H5 rfl (by assumption) rfl rfl <| xN [6,156] [6] rfl ?_
   refine A8 rfl ?_ ?_ <;> intro hc <;> try simp only [SL] at hc
   ·refine A3 <| A0 ?_
    (refine B9 rfl rfl (fun _ => rfl) ?_; intro g4)
    refine A5 rfl rfl rfl <| xN [4,5] [4] rfl <| C0 <| C8 (G9 rfl rfl (by simp) (by rfl) (E7 rfl rfl (D9 C4))) ?_
    rw [mkR, hraw, Option.bind_some, if_neg (by rw [Q9]; simp_all; try omega)]
    rfl
   refine B5 <| A3 <| A0 <| A4 rfl rfl ?_
   apply xC rfl
   ·apply B3
    ·exact c3r rfl rfl (by (simp; done)) (A7 fun _ => rfl)
    exact D3
   ·exact c3c r (by simp only [H6]; omega)
   refine ⟨⟨rfl, rfl, rfl, dT rfl, rfl⟩, .inl rfl, B8, N2, fun _ => rfl, fun g158 => ?_⟩
   simp only [List.length_map]
   (refine B0 rfl rfl (by (simp; done)) rfl (fun _ => (A9 (by exact A7 fun _ => rfl))) (fun _ => rfl) ?_; intro g4)
   refine A5 rfl rfl rfl <| xN [4,5] [4] rfl <| C0 <| C8 (G9 rfl rfl (by simp) (by exact A7 fun _ => rfl) (E7 rfl rfl (D9 C4))) ?_
   rw [mkR, hraw, Option.bind_some, if_pos (Q9.2 ⟨by omega, by simp_all⟩)]
   rfl
  refine gF rfl rfl <| gF rfl rfl <| G5 rfl (by assumption) rfl rfl <| xN [6,156] [6] rfl ?_
  refine A8 rfl (fun hc => ?_) (fun hc => absurd hc (by decide))
  refine A3 <| A0 ?_
  (refine B9 rfl rfl (fun _ => rfl) ?_; intro g4)
  refine A5 rfl rfl rfl <| xN [4,5] [4] rfl <| C0 <| C8 (G9 rfl rfl (by simp) (by rfl) (E7 rfl rfl (D9 C4))) ?_
  rw [mkR, hraw, Option.bind_some, if_neg (by rw [Q9]; simp_all; try omega)]
  rfl
 try simp only [SD] at hc
 omega

theorem keep_s_apply : G8 Tryz.f88 = [0, 1, 2, 6, 7, 16, 17, 21, 25, 9, 30, 8, 41, 10, 46, 62, 11, 67, 71, 91, 13, 96, 12, 109, 113, 120, 126, 14, 130, 145] := by kernel_rfl
set_option maxHeartbeats 20000000 in
theorem c4d (op : ByteArray) (h1 : 1 ≤ nd op) (x y : List Int) (hx : vl x = true) (hy : vl y = true) : CW (cxT oG) 88 [sV op, L x, L y] = some (.tup [.own 1 ((raR op x y).map iV), bV (mkR op x y).isSome], []) := by
 have hx40 := (Q9.1 hx).1
 have hy40 := (Q9.1 hy).1
 have hgx := a0c hx
 have hgy := a0c hy
 have hsx := a2p x
 refine G3 rfl Tryz.func88 rfl ⟨by kernel_rfl, rfl, dT rfl, dT rfl, by decide⟩ keep_s_apply <| A3 <| A0 ?_
 (refine B9 rfl rfl (fun _ => rfl) ?_; intro g6)
 refine A5 rfl rfl rfl <| xN [0,1,2] [] rfl <| A3 <| A0 <| D4 (es := List.map iV []) rfl rfl (dT rfl) rfl rfl (fun _ => A9 (A7 fun _ => rfl)) (fun _ => rfl) ?_
 intro g15
 (refine B0 rfl rfl (by (simp; done)) rfl (fun _ => (A9 (by exact A7 fun _ => rfl))) (fun _ => rfl) ?_; intro g8)
 refine xN [0,1,2,8] [8] rfl <| b7z <| A3 <| A0 <| A4 rfl rfl <| xN [1,2,8,16] [8] rfl ?_
 refine c7r (β := List Int × Nat × Nat) [] trivial (fun (z : List Int × Nat × Nat) => match z with | (r, n, g) => [(.h 8, .obj g 0 1 (r.map iV)), (.t 8, .sl 8 g none 0 n)]) (fun (z : List Int × Nat × Nat) => match z with | (r, n, g) => T3 op x y = some r ∧ n = r.length ∧ r.length ≤ 80) ?_ ?_
 ·skip
  refine C1 <| A3 <| A0 <| I8 rfl rfl <| A5 rfl rfl rfl <| xN [1,2,8,16,17] [8] rfl ?_
  refine A8 rfl ?_ ?_ <;> intro hc <;> try simp only [SL] at hc
  ·try simp at hc
   refine A0 <| A4 rfl rfl ?_
   apply xC rfl
   ·apply B3
    ·exact B7 rfl
    exact D3
   ·exact c6e x (by omega)
   refine ⟨⟨rfl, rfl, rfl, dT rfl, rfl⟩, .inl rfl, B8, N2, fun _ => rfl, fun g20 => ?_⟩
   simp only [List.length_map]
   (refine B0 rfl rfl (by (simp; done)) rfl (fun _ => (A9 (by exact A7 fun _ => rfl))) (fun _ => rfl) ?_; intro g8)
   refine xN [8] [8] rfl ?_
   refine ⟨(_, _, _), ?_, ⟨rfl, rfl, trivial⟩⟩
   exact ⟨(by (simp [T3, *]; done)), (by (simp; done)), (by (simp; omega))⟩
  try simp at hc
  refine A3 <| A0 <| I8 rfl rfl <| A5 rfl rfl rfl <| xN [1,2,8,16,21] [8] rfl ?_
  refine A8 rfl ?_ ?_ <;> intro hc <;> try simp only [SL] at hc
  ·try simp at hc
   refine A0 <| A4 rfl rfl ?_
   apply xC rfl
   ·apply B3
    ·exact B7 rfl
    exact D3
   ·exact c5y x (by omega)
   refine ⟨⟨rfl, rfl, rfl, dT rfl, rfl⟩, .inl rfl, B8, N2, fun _ => rfl, fun g24 => ?_⟩
   simp only [List.length_map]
   (refine B0 rfl rfl (by (simp; done)) rfl (fun _ => (A9 (by exact A7 fun _ => rfl))) (fun _ => rfl) ?_; intro g8)
   refine xN [8] [8] rfl ?_
   refine ⟨(_, _, _), ?_, ⟨rfl, rfl, trivial⟩⟩
   exact ⟨(by (simp [T3, *]; done)), (by (simp; done)), (by (simp; omega))⟩
  try simp at hc
  refine A3 <| A0 <| I8 rfl rfl <| A5 rfl rfl rfl <| xN [1,2,8,16,25] [8] rfl ?_
  refine A8 rfl ?_ ?_ <;> intro hc <;> try simp only [SL] at hc
  ·try simp at hc
   refine A3 <| A0 <| A5 rfl rfl rfl <| xN [1,8,9] [8] rfl <| C1 <| H4 (β := Nat × List Int × Nat) [(.t 1, _)] (fun (z : Nat × List Int × Nat) => match z with | (i, l, g) => [(.t 9, iV i), (.h 8, .obj g 0 1 (l.map iV)), (.t 8, .sl 8 g none 0 l.length)]) (fun (z : Nat × List Int × Nat) => match z with | (i, l, g) => i ≤ x.length ∧ l = (List.range i).map (fun i => -(I3 x i))) (fun (z : Nat × List Int × Nat) => match z with | (i, l, g) => x.length - i) (0, [], _) ⟨rfl, rfl, rfl, rfl, trivial⟩ ⟨Nat.zero_le _, rfl⟩ ?_
   intro z hb
   obtain ⟨i, l, g⟩ := z
   try dsimp only at hb
   obtain ⟨hi1, hl⟩ := hb
   have hll : l.length = i := by rw [hl]; simp
   have hgi : -100000 ≤ x.getD i default ∧ x.getD i default ≤ 100000 := hgx i
   have hgyi : -100000 ≤ y.getD i default ∧ y.getD i default ≤ 100000 := hgy i
   refine A3 <| A3 <| A0 <| A4 rfl rfl <| A4 rfl rfl <| D6 rfl rfl <| H2 rfl rfl <| xN [1,8,9,30] [8] rfl ?_
   refine A8 rfl ?_ ?_ <;> intro hc <;> try simp only [SL] at hc
   ·refine B5 <| A3 <| C1 <| A0 <| A4 rfl rfl <| A4 rfl rfl <| A4 rfl rfl <| C7 rfl rfl rfl (fun _ => rfl) (by omega) <| C6 rfl rfl rfl <| b4o rfl (F3 (by omega)) <| D4 (es := List.map iV [_]) rfl rfl (dT rfl) rfl rfl (fun _ => A9 (A7 fun _ => rfl)) (fun _ => rfl) ?_
    intro g39
    refine F7 rfl rfl rfl rfl (by (simp; done)) (by simp) (by decide) rfl rfl rfl rfl (dT rfl) (fun _ => ⟨rfl, rfl⟩) (by simp only [H6]; (simp only [List.length_nil, List.length_cons, List.length_append, Nat.zero_add, List.length_map]; omega)) (fun _ => rfl) ?_
    intro g40
    (refine B0 rfl rfl (by (simp; done)) rfl (fun _ => (A9 (by exact A7 fun _ => rfl))) (fun _ => rfl) ?_; intro g8)
    refine xN [1,8,9] [8] rfl <| A0 <| A4 rfl rfl <| H0 rfl rfl (F3 (by omega)) <| A5 rfl rfl rfl <| xN [1,8,9] [8] rfl ?_
    refine ⟨(i + 1, l ++ [-(x.getD i default)], _), ?_, (by simp only; omega), ⟨rfl, rfl, rfl, rfl, trivial⟩⟩
    exact ⟨by omega, by rw [hl, U3]; rfl⟩
   refine G4 ?_
   refine ⟨(_, _, _), ?_, ⟨rfl, rfl, trivial⟩⟩
   exact ⟨apF (show l = x.map (fun v => -v) by rw [hl, show i = x.length by omega]; exact a6f x fun v => -v) (by simp [T3, *]), by omega, by omega⟩
  try simp at hc
  refine A3 <| A0 <| I8 rfl rfl <| A5 rfl rfl rfl <| xN [1,2,8,16,41] [8] rfl ?_
  refine A8 rfl ?_ ?_ <;> intro hc <;> try simp only [SL] at hc
  ·try simp at hc
   refine A3 <| A0 <| A5 rfl rfl rfl <| xN [1,8,10] [8] rfl <| C1 <| H4 (β := Nat × List Int × Nat) [(.t 1, _)] (fun (z : Nat × List Int × Nat) => match z with | (i, l, g) => [(.t 10, iV i), (.h 8, .obj g 0 1 (l.map iV)), (.t 8, .sl 8 g none 0 l.length)]) (fun (z : Nat × List Int × Nat) => match z with | (i, l, g) => i ≤ x.length ∧ l = (List.range i).map (fun i => max (I3 x i) (-(I3 x i)))) (fun (z : Nat × List Int × Nat) => match z with | (i, l, g) => x.length - i) (0, [], _) ⟨rfl, rfl, rfl, rfl, trivial⟩ ⟨Nat.zero_le _, rfl⟩ ?_
   intro z hb
   obtain ⟨i, l, g⟩ := z
   try dsimp only at hb
   obtain ⟨hi1, hl⟩ := hb
   have hll : l.length = i := by rw [hl]; simp
   have hgi : -100000 ≤ x.getD i default ∧ x.getD i default ≤ 100000 := hgx i
   have hgyi : -100000 ≤ y.getD i default ∧ y.getD i default ≤ 100000 := hgy i
   refine A3 <| A3 <| A0 <| A4 rfl rfl <| A4 rfl rfl <| D6 rfl rfl <| H2 rfl rfl <| xN [1,8,10,46] [8] rfl ?_
   refine A8 rfl ?_ ?_ <;> intro hc <;> try simp only [SL] at hc
   ·refine B5 <| A3 <| C1 <| A0 <| A4 rfl rfl <| A4 rfl rfl <| A4 rfl rfl <| C7 rfl rfl rfl (fun _ => rfl) (by omega) <| C6 rfl rfl rfl <| A4 rfl rfl <| A4 rfl rfl <| C7 rfl rfl rfl (fun _ => rfl) (by omega) <| C6 rfl rfl rfl <| b4o rfl (F3 (by omega)) <| d1f rfl rfl <| D4 (es := List.map iV [_]) rfl rfl (dT rfl) rfl rfl (fun _ => A9 (A7 fun _ => rfl)) (fun _ => rfl) ?_
    intro g60
    refine F7 rfl rfl rfl rfl (by (simp; done)) (by simp) (by decide) rfl rfl rfl rfl (dT rfl) (fun _ => ⟨rfl, rfl⟩) (by simp only [H6]; (simp only [List.length_nil, List.length_cons, List.length_append, Nat.zero_add, List.length_map]; omega)) (fun _ => rfl) ?_
    intro g61
    (refine B0 rfl rfl (by (simp; done)) rfl (fun _ => (A9 (by exact A7 fun _ => rfl))) (fun _ => rfl) ?_; intro g8)
    refine L1 ⟨fun _ => ⟨by decide +kernel, by decide +kernel⟩, [(.t 1, _), (.t 8, _), (.t 10, _), (.h 8, _)], ⟨rfl, rfl, rfl, rfl, rfl, rfl, rfl, rfl, trivial⟩, ?_⟩
    refine A0 <| A4 rfl rfl <| H0 rfl rfl (F3 (by omega)) <| A5 rfl rfl rfl <| xN [1,8,10] [8] rfl ?_
    refine ⟨(i + 1, l ++ [max (x.getD i default) (-(x.getD i default))], _), ?_, (by simp only; omega), ⟨rfl, rfl, rfl, rfl, trivial⟩⟩
    exact ⟨by omega, by rw [hl, U3]; rfl⟩
   refine G4 ?_
   refine ⟨(_, _, _), ?_, ⟨rfl, rfl, trivial⟩⟩
   exact ⟨apF (show l = x.map (fun v => max v (-v)) by rw [hl, show i = x.length by omega]; exact a6f x fun v => max v (-v)) (by simp [T3, *]), by omega, by omega⟩
  try simp at hc
  refine A3 <| A0 <| I8 rfl rfl <| A5 rfl rfl rfl <| xN [1,2,8,16,62] [8] rfl ?_
  refine A8 rfl ?_ ?_ <;> intro hc <;> try simp only [SL] at hc
  ·try simp at hc
   refine A3 <| A0 <| A5 rfl rfl rfl <| xN [1,8,11] [8] rfl <| C1 <| H4 (β := Nat × List Int × Nat) [(.t 1, _)] (fun (z : Nat × List Int × Nat) => match z with | (i, l, g) => [(.t 11, iV i), (.h 8, .obj g 0 1 (l.map iV)), (.t 8, .sl 8 g none 0 l.length)]) (fun (z : Nat × List Int × Nat) => match z with | (i, l, g) => i ≤ x.length ∧ l = (List.range i).map (fun i => if i = 0 then I3 x 0 else I3 x i - I3 x (i - 1))) (fun (z : Nat × List Int × Nat) => match z with | (i, l, g) => x.length - i) (0, [], _) ⟨rfl, rfl, rfl, rfl, trivial⟩ ⟨Nat.zero_le _, rfl⟩ ?_
   intro z hb
   obtain ⟨i, l, g⟩ := z
   try dsimp only at hb
   obtain ⟨hi1, hl⟩ := hb
   have hll : l.length = i := by rw [hl]; simp
   have hgi : -100000 ≤ x.getD i default ∧ x.getD i default ≤ 100000 := hgx i
   have hgyi : -100000 ≤ y.getD i default ∧ y.getD i default ≤ 100000 := hgy i
   refine A3 <| A3 <| A0 <| A4 rfl rfl <| A4 rfl rfl <| D6 rfl rfl <| H2 rfl rfl <| xN [1,8,11,67] [8] rfl ?_
   refine A8 rfl ?_ ?_ <;> intro hc <;> try simp only [SL] at hc
   ·refine B5 <| A3 <| C1 <| A3 <| A0 <| A4 rfl rfl <| Y3 rfl rfl <| xN [1,8,11,71] [8] rfl ?_
    refine A8 rfl ?_ ?_ <;> intro hc <;> try simp only [SL] at hc
    ·refine A0 <| A4 rfl rfl <| A4 rfl rfl <| C7 rfl rfl rfl (fun _ => rfl) (by (change 0 < _; omega)) <| C6 rfl rfl rfl <| D4 (es := List.map iV [_]) rfl rfl (dT rfl) rfl rfl (fun _ => A9 (A7 fun _ => rfl)) (fun _ => rfl) ?_
     intro g76
     refine F7 rfl rfl rfl rfl (by (simp; done)) (by simp) (by decide) rfl rfl rfl rfl (dT rfl) (fun _ => ⟨rfl, rfl⟩) (by simp only [H6]; (simp only [List.length_nil, List.length_cons, List.length_append, Nat.zero_add, List.length_map]; omega)) (fun _ => rfl) ?_
     intro g77
     (refine B0 rfl rfl (by (simp; done)) rfl (fun _ => (A9 (by exact A7 fun _ => rfl))) (fun _ => rfl) ?_; intro g8)
     refine xN [1,8,11] [8] rfl <| A0 <| A4 rfl rfl <| H0 rfl rfl (F3 (by omega)) <| A5 rfl rfl rfl <| xN [1,8,11] [8] rfl ?_
     refine ⟨(i + 1, l ++ [x.getD 0 default], _), ?_, (by simp only; omega), ⟨rfl, rfl, rfl, rfl, trivial⟩⟩
     exact ⟨by omega, by rw [hl, U3, if_pos (by omega)]; rfl⟩
    refine A0 <| A4 rfl rfl <| A4 rfl rfl <| A4 rfl rfl <| C7 rfl rfl rfl (fun _ => rfl) (by omega) <| C6 rfl rfl rfl <| A4 rfl rfl <| A4 rfl rfl <| U4 rfl rfl (F3 (by omega)) ?_
    rw [show ((i : Int) - 1) = ((i - 1 : Nat) : Int) by omega]
    have hgi2 : -100000 ≤ x.getD (i - 1) default ∧ x.getD (i - 1) default ≤ 100000 := hgx (i - 1)
    refine C7 rfl rfl rfl (fun _ => rfl) (by omega) <| C6 rfl rfl rfl <| U4 rfl rfl (F3 (by omega)) <| D4 (es := List.map iV [_]) rfl rfl (dT rfl) rfl rfl (fun _ => A9 (A7 fun _ => rfl)) (fun _ => rfl) ?_
    intro g89
    refine F7 rfl rfl rfl rfl (by (simp; done)) (by simp) (by decide) rfl rfl rfl rfl (dT rfl) (fun _ => ⟨rfl, rfl⟩) (by simp only [H6]; (simp only [List.length_nil, List.length_cons, List.length_append, Nat.zero_add, List.length_map]; omega)) (fun _ => rfl) ?_
    intro g90
    (refine B0 rfl rfl (by (simp; done)) rfl (fun _ => (A9 (by exact A7 fun _ => rfl))) (fun _ => rfl) ?_; intro g8)
    refine L1 ⟨fun _ => ⟨by decide +kernel, by decide +kernel⟩, [(.t 1, _), (.t 8, _), (.t 11, _), (.h 8, _)], ⟨rfl, rfl, rfl, rfl, rfl, rfl, rfl, rfl, trivial⟩, ?_⟩
    refine A0 <| A4 rfl rfl <| H0 rfl rfl (F3 (by omega)) <| A5 rfl rfl rfl <| xN [1,8,11] [8] rfl ?_
    refine ⟨(i + 1, l ++ [x.getD i default - x.getD (i - 1) default], _), ?_, (by simp only; omega), ⟨rfl, rfl, rfl, rfl, trivial⟩⟩
    exact ⟨by omega, by rw [hl, U3, if_neg (by omega)]; rfl⟩
   refine G4 ?_
   refine ⟨(_, _, _), ?_, ⟨rfl, rfl, trivial⟩⟩
   exact ⟨apF (show l = dfI x by rw [hl, show i = x.length by omega]; rfl) (by simp [T3, *]), by omega, by omega⟩
  try simp at hc
  refine A3 <| A0 <| I8 rfl rfl <| A5 rfl rfl rfl <| xN [1,2,8,16,91] [8] rfl ?_
  refine A8 rfl ?_ ?_ <;> intro hc <;> try simp only [SL] at hc
  ·try simp at hc
   refine A3 <| A0 <| A5 rfl rfl rfl <| xN [1,8,12] [8] rfl <| A3 <| A0 <| A5 rfl rfl rfl <| xN [1,8,12,13] [8] rfl <| C1 <| H4 (β := Nat × Int × List Int × Nat) [(.t 1, _)] (fun (z : Nat × Int × List Int × Nat) => match z with | (i, s, l, g) => [(.t 13, iV i), (.t 12, iV s), (.h 8, .obj g 0 1 (l.map iV)), (.t 8, .sl 8 g none 0 l.length)]) (fun (z : Nat × Int × List Int × Nat) => match z with | (i, s, l, g) => i ≤ x.length ∧ s = prS (I3 x) i ∧ l = (List.range i).map fun i => prS (I3 x) (i + 1)) (fun (z : Nat × Int × List Int × Nat) => match z with | (i, s, l, g) => x.length - i) (0, 0, [], _) ⟨rfl, rfl, rfl, rfl, rfl, trivial⟩ ⟨Nat.zero_le _, rfl, rfl⟩ ?_
   intro z hb
   obtain ⟨i, s, l, g⟩ := z
   try dsimp only at hb
   obtain ⟨hi1, hs, hl⟩ := hb
   have hll : l.length = i := by rw [hl]; simp
   have hgi : -100000 ≤ x.getD i default ∧ x.getD i default ≤ 100000 := hgx i
   have hsb := b8j hx i
   rw [← hs] at hsb
   refine A3 <| A3 <| A0 <| A4 rfl rfl <| A4 rfl rfl <| D6 rfl rfl <| H2 rfl rfl <| xN [1,8,12,13,96] [8] rfl ?_
   refine A8 rfl ?_ ?_ <;> intro hc <;> try simp only [SL] at hc
   ·refine B5 <| A3 <| C1 <| A3 <| A0 <| A4 rfl rfl <| A4 rfl rfl <| A4 rfl rfl <| C7 rfl rfl rfl (fun _ => rfl) (by omega) <| C6 rfl rfl rfl <| H0 rfl rfl (F3 (by omega)) <| A5 rfl rfl rfl <| xN [1,8,12,13] [8] rfl <| A0 <| A4 rfl rfl <| A4 rfl rfl <| D4 (es := List.map iV [_]) rfl rfl (dT rfl) rfl rfl (fun _ => A9 (A7 fun _ => rfl)) (fun _ => rfl) ?_
    intro g107
    refine F7 rfl rfl rfl rfl (by (simp; done)) (by simp) (by decide) rfl rfl rfl rfl (dT rfl) (fun _ => ⟨rfl, rfl⟩) (by simp only [H6]; (simp only [List.length_nil, List.length_cons, List.length_append, Nat.zero_add, List.length_map]; omega)) (fun _ => rfl) ?_
    intro g108
    (refine B0 rfl rfl (by (simp; done)) rfl (fun _ => (A9 (by exact A7 fun _ => rfl))) (fun _ => rfl) ?_; intro g8)
    refine xN [1,8,12,13] [8] rfl <| A0 <| A4 rfl rfl <| H0 rfl rfl (F3 (by omega)) <| A5 rfl rfl rfl <| xN [1,8,12,13] [8] rfl ?_
    refine ⟨(i + 1, s + x.getD i default, l ++ [s + x.getD i default], _), ?_, (by simp only; omega), ⟨rfl, rfl, rfl, rfl, rfl, trivial⟩⟩
    exact ⟨by omega, by rw [prS, hs]; rfl, by rw [hl, U3, prS, hs]; rfl⟩
   refine G4 ?_
   refine ⟨(_, _, _), ?_, ⟨rfl, rfl, trivial⟩⟩
   exact ⟨apF (show l = smI x by rw [hl, show i = x.length by omega]; rfl) (by simp [T3, *]), by omega, by omega⟩
  try simp at hc
  refine A3 <| A0 <| I8 rfl rfl <| A5 rfl rfl rfl <| xN [1,2,8,16,109] [8] rfl ?_
  refine A8 rfl ?_ ?_ <;> intro hc <;> try simp only [SL] at hc
  ·try simp at hc
   refine A0 <| A4 rfl rfl ?_
   apply xC rfl
   ·apply B3
    ·exact B7 rfl
    exact D3
   ·exact c8b x hx
   refine ⟨⟨rfl, rfl, rfl, dT rfl, rfl⟩, .inl rfl, B8, N2, fun _ => rfl, fun g112 => ?_⟩
   simp only [List.length_map]
   (refine B0 rfl rfl (by (simp; done)) rfl (fun _ => (A9 (by exact A7 fun _ => rfl))) (fun _ => rfl) ?_; intro g8)
   refine xN [8] [8] rfl ?_
   refine ⟨(_, _, _), ?_, ⟨rfl, rfl, trivial⟩⟩
   exact ⟨(by (simp [T3, rkI, *]; done)), (by (simp [dfI, smI, rkI, adI]; done)), (by (simp; omega))⟩
  try simp at hc
  refine A3 <| A0 <| I8 rfl rfl <| A5 rfl rfl rfl <| xN [1,2,8,16,113] [8] rfl ?_
  refine A8 rfl ?_ ?_ <;> intro hc <;> try simp only [SL] at hc
  ·try simp at hc
   refine A0 <| A4 rfl rfl <| A4 rfl rfl ?_
   apply xC rfl
   ·apply B3
    ·exact B7 rfl
    exact D3
   ·exact d2n x hx
   refine ⟨⟨rfl, rfl, rfl, dT rfl, rfl⟩, .inl rfl, B8, D5 rfl, fun _ => rfl, fun g117 => ?_⟩
   refine D4 (es := List.map iV [_]) rfl rfl (dT rfl) rfl rfl (fun _ => A9 (A7 fun _ => rfl)) (fun _ => rfl) ?_
   intro g118
   refine F7 rfl rfl rfl rfl (by (simp; done)) (by simp) (by decide) rfl rfl rfl rfl (dT rfl) (fun _ => ⟨rfl, rfl⟩) (by simp only [H6]; (simp only [List.length_nil, List.length_cons, List.length_append, Nat.zero_add, List.length_map]; omega)) (fun _ => rfl) ?_
   intro g119
   (refine B0 rfl rfl (by (simp; done)) rfl (fun _ => (A9 (by exact A7 fun _ => rfl))) (fun _ => rfl) ?_; intro g8)
   refine xN [8] [8] rfl ?_
   refine ⟨(_, _, _), ?_, ⟨rfl, rfl, trivial⟩⟩
   exact ⟨(by (simp [T3, *]; done)), (by (simp; done)), (by (simp; done))⟩
  try simp at hc
  refine A3 <| A0 <| I8 rfl rfl <| A5 rfl rfl rfl <| xN [1,2,8,16,120] [8] rfl ?_
  refine A8 rfl ?_ ?_ <;> intro hc <;> try simp only [SL] at hc
  ·try simp at hc
   refine A3 <| A3 <| A0 <| A4 rfl rfl <| D6 rfl rfl <| A4 rfl rfl <| D6 rfl rfl <| c2w rfl rfl <| xN [1,2,8,126] [8] rfl ?_
   refine A8 rfl ?_ ?_ <;> intro hc <;> try simp only [SL] at hc
   ·refine A3 <| A0 ?_
    (refine B9 rfl rfl (fun _ => rfl) ?_; intro g6)
    refine A5 rfl rfl rfl <| xN [6,7] [6] rfl <| C0 <| C8 (G9 rfl rfl (by simp) (by rfl) (E7 rfl rfl (D9 C4))) ?_
    have hne : ¬ x.length = y.length := by omega
    rw [show mkR op x y = none from by simp [mkR, T3, *], show raR op x y = [] from by simp [raR, T3, *]]
    rfl
   refine B5 <| A3 <| A0 <| A5 rfl rfl rfl <| xN [1,2,8,14] [8] rfl <| C1 <| H4 (β := Nat × List Int × Nat) [(.t 1, _), (.t 2, _)] (fun (z : Nat × List Int × Nat) => match z with | (i, l, g) => [(.t 14, iV i), (.h 8, .obj g 0 1 (l.map iV)), (.t 8, .sl 8 g none 0 l.length)]) (fun (z : Nat × List Int × Nat) => match z with | (i, l, g) => i ≤ x.length ∧ l = (List.range i).map (fun i => I3 x i + I3 y i)) (fun (z : Nat × List Int × Nat) => match z with | (i, l, g) => x.length - i) (0, [], _) ⟨rfl, rfl, rfl, rfl, rfl, trivial⟩ ⟨Nat.zero_le _, rfl⟩ ?_
   intro z hb
   obtain ⟨i, l, g⟩ := z
   try dsimp only at hb
   obtain ⟨hi1, hl⟩ := hb
   have hll : l.length = i := by rw [hl]; simp
   have hgi : -100000 ≤ x.getD i default ∧ x.getD i default ≤ 100000 := hgx i
   have hgyi : -100000 ≤ y.getD i default ∧ y.getD i default ≤ 100000 := hgy i
   refine A3 <| A3 <| A0 <| A4 rfl rfl <| A4 rfl rfl <| D6 rfl rfl <| H2 rfl rfl <| xN [1,2,8,14,130] [8] rfl ?_
   refine A8 rfl ?_ ?_ <;> intro hc <;> try simp only [SL] at hc
   ·refine B5 <| A3 <| C1 <| A0 <| A4 rfl rfl <| A4 rfl rfl <| A4 rfl rfl <| C7 rfl rfl rfl (fun _ => rfl) (by omega) <| C6 rfl rfl rfl <| A4 rfl rfl <| A4 rfl rfl <| C7 rfl rfl rfl (fun _ => rfl) (by omega) <| C6 rfl rfl rfl <| H0 rfl rfl (F3 (by omega)) <| D4 (es := List.map iV [_]) rfl rfl (dT rfl) rfl rfl (fun _ => A9 (A7 fun _ => rfl)) (fun _ => rfl) ?_
    intro g143
    refine F7 rfl rfl rfl rfl (by (simp; done)) (by simp) (by decide) rfl rfl rfl rfl (dT rfl) (fun _ => ⟨rfl, rfl⟩) (by simp only [H6]; (simp only [List.length_nil, List.length_cons, List.length_append, Nat.zero_add, List.length_map]; omega)) (fun _ => rfl) ?_
    intro g144
    (refine B0 rfl rfl (by (simp; done)) rfl (fun _ => (A9 (by exact A7 fun _ => rfl))) (fun _ => rfl) ?_; intro g8)
    refine L1 ⟨fun _ => ⟨by decide +kernel, by decide +kernel⟩, [(.t 1, _), (.t 2, _), (.t 8, _), (.t 14, _), (.h 8, _)], ⟨rfl, rfl, rfl, rfl, rfl, rfl, rfl, rfl, rfl, rfl, trivial⟩, ?_⟩
    refine A0 <| A4 rfl rfl <| H0 rfl rfl (F3 (by omega)) <| A5 rfl rfl rfl <| xN [1,2,8,14] [8] rfl ?_
    refine ⟨(i + 1, l ++ [x.getD i default + y.getD i default], _), ?_, (by simp only; omega), ⟨rfl, rfl, rfl, rfl, rfl, trivial⟩⟩
    exact ⟨by omega, by rw [hl, U3]; rfl⟩
   refine G4 ?_
   refine ⟨(_, _, _), ?_, ⟨rfl, rfl, trivial⟩⟩
   exact ⟨adF (by assumption) (by omega) (by rw [hl, show i = x.length by omega]; rfl) rfl, by omega, by omega⟩
  try simp at hc
  refine A3 <| A0 <| I8 rfl rfl <| A5 rfl rfl rfl <| xN [1,2,8,145] [8] rfl ?_
  refine A8 rfl ?_ ?_ <;> intro hc <;> try simp only [SL] at hc
  ·try simp at hc
   refine A0 <| A4 rfl rfl <| A4 rfl rfl <| a0n rfl rfl rfl (by (simp; done)) rfl rfl rfl (dT rfl) (fun _ => ⟨rfl, rfl, rfl⟩) (by simp only [H6]; (simp only [List.length_nil, List.length_cons, List.length_append, Nat.zero_add, List.length_map]; omega)) (fun _ => rfl) ?_
   intro g149
   refine A4 rfl rfl <| a0n rfl rfl rfl (by (simp; done)) rfl rfl rfl (dT rfl) (fun _ => ⟨rfl, rfl, rfl⟩) (by simp only [H6]; (simp only [List.length_nil, List.length_cons, List.length_append, Nat.zero_add, List.length_map]; omega)) (fun _ => rfl) ?_
   intro g151
   (refine B0 rfl rfl (by (simp; done)) rfl (fun _ => (A9 (by exact A7 fun _ => rfl))) (fun _ => rfl) ?_; intro g8)
   refine xN [8] [8] rfl ?_
   refine ⟨(_, _, _), ?_, ⟨rfl, rfl, trivial⟩⟩
   exact ⟨(by (simp [T3, *]; done)), (by (simp; done)), (by (simp; omega))⟩
  try simp at hc
  refine B5 ?_
  refine ⟨(_, _, _), ?_, ⟨rfl, rfl, trivial⟩⟩
  exact absurd (c6p h1) (by simp [*])
 intro z hb
 obtain ⟨r, n, g⟩ := z
 try dsimp only at hb
 obtain ⟨hraw, hn, hr80⟩ := hb
 subst hn
 refine A3 <| A0 <| A4 rfl rfl <| A4 rfl rfl ?_
 apply xC rfl
 ·apply B3
  ·exact K2 rfl rfl rfl (by (simp; done)) (fun _ => rfl)
  exact D3
 ·exact b8h r (by omega)
 refine ⟨⟨rfl, rfl, rfl, dT rfl, rfl⟩, .inr ⟨rfl, rfl⟩, B8, D5 rfl, fun _ => rfl, fun g154 => ?_⟩
 (refine B0 rfl rfl (by (simp; done)) rfl (fun _ => (A9 (by exact A7 fun _ => rfl))) (fun _ => rfl) ?_; intro g6)
 refine A5 rfl rfl rfl <| xN [6,7] [6] rfl <| C0 <| C8 (G9 rfl rfl (by simp) (by exact A7 fun _ => rfl) (E7 rfl rfl (D9 C4))) ?_
 rw [raR, mkR, hraw, Option.bind_some, Option.getD_some]
 cases hvr : vl r <;> rfl
end Go.Proofs.YtcpmbhfnapijaaaGreatDoor
