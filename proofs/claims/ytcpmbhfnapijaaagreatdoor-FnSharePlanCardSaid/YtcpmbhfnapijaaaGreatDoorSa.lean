/- What each function of the program gives on the abstract machine, part 1 of 2. Conditions: those in front of each theorem. -/
import Derived.Test.YtcpmbhfnapijaaaGreatDoorMd
import Derived.Test.YtcpmbhfnapijaaaGreatDoorChecked
import Derived.KernelRfl

set_option linter.unusedVariables false
set_option linter.unusedSimpArgs false
namespace Go.Proofs.YtcpmbhfnapijaaaGreatDoor
open Go Go.Mv Go.Proofs
set_option maxRecDepth 100000

theorem SD : (∀ {p : Prop} [Decidable p], (decide p = true) = p) ∧ (∀ {p : Prop} {_ : Decidable p}, decide p = false ↔ ¬p) ∧ (∀ (b : Bool), ((!b) = true) = (b = false)) ∧ (∀ (b : Bool), ((!b) = false) = (b = true)) ∧ (∀ {α : Type} [BEq α] [LawfulBEq α] {a b : α}, (a != b) = true ↔ a ≠ b) ∧
    (∀ {α : Type} [BEq α] [LawfulBEq α] {a b : α}, (a == b) = true ↔ a = b) ∧ (∀ {α : Type} (a b : α), (a ≠ b) = ¬a = b) ∧ (!true) = false ∧ (!false) = true ∧ (∀ {α : Type} [BEq α] [LawfulBEq α] {a b : α}, (a == b) = false ↔ a ≠ b) ∧ (∀ {α : Type} [BEq α] [LawfulBEq α] {a b : α}, (a != b) = false ↔ a = b) ∧
    (∀ {p : Prop} [Decidable p], ¬¬p ↔ p) ∧ (∀ {a b : Int}, ¬a < b ↔ b ≤ a) ∧ (∀ {a b : Int}, ¬a ≤ b ↔ b < a) :=
  ⟨@decide_eq_true_eq, @decide_eq_false_iff_not, @Bool.not_eq_true', @Bool.not_eq_false', @bne_iff_ne, @beq_iff_eq, @ne_eq, @Bool.not_true, @Bool.not_false, @beq_eq_false_iff_ne, @bne_eq_false_iff_eq, @Decidable.not_not, @Int.not_lt, @Int.not_le⟩
theorem SG : ((∀ {p : Prop} [Decidable p], (decide p = true) = p) ∧ (∀ {p : Prop} {_ : Decidable p}, decide p = false ↔ ¬p) ∧ (∀ (b : Bool), ((!b) = true) = (b = false)) ∧ (∀ (b : Bool), ((!b) = false) = (b = true)) ∧ (∀ {α : Type} [BEq α] [LawfulBEq α] {a b : α}, (a != b) = true ↔ a ≠ b) ∧
    (∀ {α : Type} [BEq α] [LawfulBEq α] {a b : α}, (a == b) = true ↔ a = b) ∧ (∀ {α : Type} (a b : α), (a ≠ b) = ¬a = b) ∧ (!true) = false ∧ (!false) = true ∧ (∀ {α : Type} [BEq α] [LawfulBEq α] {a b : α}, (a == b) = false ↔ a ≠ b) ∧ (∀ {α : Type} [BEq α] [LawfulBEq α] {a b : α}, (a != b) = false ↔ a = b) ∧
    (∀ {p : Prop} [Decidable p], ¬¬p ↔ p) ∧ (∀ {a b : Int}, ¬a < b ↔ b ≤ a) ∧ (∀ {a b : Int}, ¬a ≤ b ↔ b < a)) ∧
    (∀ (a b : Bool), ((a && b) = true) = (a = true ∧ b = true)) ∧ (∀ {x y : Bool}, (x && y) = false ↔ x = false ∨ y = false) ∧ (∀ (a b : Bool), ((a || b) = true) = (a = true ∨ b = true)) ∧ (∀ {x y : Bool}, (x || y) = false ↔ x = false ∧ y = false) :=
  ⟨SD, @Bool.and_eq_true, @Bool.and_eq_false_iff, @Bool.or_eq_true, @Bool.or_eq_false_iff⟩
def c6e (keep : List Nat) (A : Asr) : List Mv.Loc → Asr → Option Asr
  | l :: ls, B => match keepLoc keep l, Mv.look A l with
    | true, some a => c6e keep A ls ((l, a) :: B)
    | _, _ => none
  | [], B => some B
theorem c4s {keep : List Nat} {A : Asr} : ∀ (ls : List Mv.Loc) {B C : Asr}, KeepL keep A B → c6e keep A ls B = some C → KeepL keep A C
  | [], B, C, h, e => by simp only [c6e, Option.some.injEq] at e; rw [← e]; exact h
  | l :: ls, B, C, h, e => by
    simp only [c6e] at e
    split at e
    · exact c4s ls (show KeepL keep A ((l, _) :: B) from ⟨by assumption, by assumption, h⟩) e
    · cases e
theorem kS (ts hs : List Nat) {keep : List Nat} {A B : Asr} (h : c6e keep A (ts.map .t ++ hs.map .h) [] = some B) : KeepL keep A B := c4s _ (show KeepL keep A [] from trivial) h
section
variable {cx : Cx} {keep : List Nat} {ops0 : Array Oper} {r : List Oper} {A : Asr} {Q : Asr → List Log → Prop}
variable {d ty : Nat} {pos : String} {aft : Array Edge}
theorem gT {op : Op} {dst : Option Nat} {g dg : Nat} {want b : Bool} (hd : (ops0[g]?).bind (·.dst) = some dg) (hb : Mv.look A (.t dg) = some (.val (.bool b)))
    (h : XR cx keep ops0 (⟨dst, op, ty, pos, aft, none⟩ :: r) A fun A' lg => Q A' (c4e (.t dg) lg)) (hw : b = want := by assumption) : XR cx keep ops0 (⟨dst, op, ty, pos, aft, some (g, want)⟩ :: r) A Q := Q0 hd hb hw h
theorem gF {op : Op} {g dg : Nat} {want b : Bool} (hd : (ops0[g]?).bind (·.dst) = some dg) (hb : Mv.look A (.t dg) = some (.val (.bool b)))
    (h : XR cx keep ops0 r ((.t d, .val (.tuple #[])) :: A) fun A' lg => Q A' (([.t dg], [.t d]) :: lg)) (hw : b = !want := by assumption) : XR cx keep ops0 (⟨some d, op, ty, pos, aft, some (g, want)⟩ :: r) A Q := G1 hd hb hw h
theorem xN {B : Asr} {p : Asr → List Log → Prop} {R : Asr → Prop} (ts hs : List Nat) (h : c6e keep A (ts.map .t ++ hs.map .h) [] = some B) (q : R B) :
    XR cx keep ops0 [] A (fun A' lg => (false = true → p A' lg) ∧ ∃ B, KeepL keep A' B ∧ R B) := G6 ⟨nofun, B, kS ts hs h, q⟩
theorem xC {G : Type} {k : Nat} {args : Array Operand} {Ts : Array Nat} {vs av : List AV} {ids : List (Nat × Bool)} {wp wb : Ws} {lp lb li : List Mv.Loc} {res : AV} {outs : List (List AV)} {v : G → AV} {wi : G → Ws}
    (hv : opds A args.toList = some vs) (hp : a6k (CW cx) A (cx.md k) 0 vs av ids wp lp) (hC : CW cx k av = some (res, outs))
    (hr : (apartIds ids = true ∧ S1 ((a1w (cx.md k) 0 vs).map (·.1)) = true ∧ S1 ((cidAll (cx.md k) 0 av).map (·.1)) = true ∧ av.length ≤ 1000 ∧ a4r av = true) ∧
      (ids.all (fun x => x.2) = true ∨ (hasList res = false ∧ outs.any G0 = false)) ∧
      c2q (CW cx) (puts A wp) (a1w (cx.md k) 0 vs) outs wb lb ∧ a4k (CW cx) (puts (puts A wp) wb) d res v wi li ∧
      (∀ g, tRefsOk keep (keptWs keep (wp ++ (wb ++ (wi g ++ [(.t d, v g)])))) = true) ∧
      ∀ g, XR cx keep ops0 r (K5 A (wp ++ (wb ++ (wi g ++ [(.t d, v g)])))) fun A' lg => Q A' ((a2o args.toList ++ (lp ++ (lb ++ li)), O9 (wp ++ (wb ++ (wi g ++ [(.t d, v g)])))) :: lg)) :
    XR cx keep ops0 (⟨some d, .call ⟨.value (.func k), args, Ts⟩, ty, pos, aft, none⟩ :: r) A Q :=
  b7t hv hp hC hr.1 hr.2.1 hr.2.2.1 hr.2.2.2.1 hr.2.2.2.2.1 hr.2.2.2.2.2
end
theorem SL : (∀ {α β : Type} {av : List α} (f : α → β), (av.map f).length = av.length) ∧ (((∀ {p : Prop} [Decidable p], (decide p = true) = p) ∧ (∀ {p : Prop} {_ : Decidable p}, decide p = false ↔ ¬p) ∧ (∀ (b : Bool), ((!b) = true) = (b = false)) ∧ (∀ (b : Bool), ((!b) = false) = (b = true)) ∧ (∀ {α : Type} [BEq α] [LawfulBEq α] {a b : α}, (a != b) = true ↔ a ≠ b) ∧
    (∀ {α : Type} [BEq α] [LawfulBEq α] {a b : α}, (a == b) = true ↔ a = b) ∧ (∀ {α : Type} (a b : α), (a ≠ b) = ¬a = b) ∧ (!true) = false ∧ (!false) = true ∧ (∀ {α : Type} [BEq α] [LawfulBEq α] {a b : α}, (a == b) = false ↔ a ≠ b) ∧ (∀ {α : Type} [BEq α] [LawfulBEq α] {a b : α}, (a != b) = false ↔ a = b) ∧
    (∀ {p : Prop} [Decidable p], ¬¬p ↔ p) ∧ (∀ {a b : Int}, ¬a < b ↔ b ≤ a) ∧ (∀ {a b : Int}, ¬a ≤ b ↔ b < a)) ∧
    (∀ (a b : Bool), ((a && b) = true) = (a = true ∧ b = true)) ∧ (∀ {x y : Bool}, (x && y) = false ↔ x = false ∨ y = false) ∧ (∀ (a b : Bool), ((a || b) = true) = (a = true ∨ b = true)) ∧ (∀ {x y : Bool}, (x || y) = false ↔ x = false ∧ y = false)) := ⟨@List.length_map.{0, 0}, SG⟩
theorem dT {p : Prop} [Decidable p] (h : decide p = true) : p := of_decide_eq_true h

def mdT : List (Nat × List Nat) := [(23, [3, 3, 3, 3]), (25, [2]), (41, [2]), (42, [1]), (48, [1]), (54, [3, 3, 3, 3]), (55, [3, 3, 3, 3]), (56, [3, 3, 3, 3]), (57, [3, 3, 3, 3]), (60, [3, 3, 3, 3]), (67, [2]), (70, [0, 2]), (71, [2]), (75, [0, 2]), (79, [3, 3, 3, 3]), (82, [3, 3, 3, 3]), (89, [3, 3, 3, 3]), (91, [3, 3, 3, 3]), (92, [3, 3, 3, 3]), (93, [3, 3, 3, 3]), (94, [3, 3, 3, 3]), (95, [3, 3, 3, 3]), (96, [3, 3, 3, 3]), (97, [3, 3, 3, 3]), (102, [3, 3, 3, 3]), (107, [1]), (108, [1]), (112, [2]), (118, [3, 3, 3, 3]), (123, [3, 3, 3, 3]), (131, [3, 3, 3, 3]), (133, [3, 3, 3, 3])]
noncomputable def d2t : List (Nat × (List AV → Option (AV × List (List AV)))) := [(106, a7k), (107, b1m), (121, b1v), (122, b6e), (136, b7n), (137, b7o), (138, b6g), (165, b1t)]
variable {oG : Option Nat} {rG : Nat}
noncomputable def cxT (oG : Option Nat) : Cx := { P := Tryz.prog, md := d3y mdT, ext := c4b d2t, it := fun _ => none, fz := fun k => [57, 60, 82, 89, 97, 102, 118, 123, 131, 133].contains k, fzB := fun T d => [(69, 58), (34, 98), (23, 57), (23, 26), (23, 47), (23, 67), (23, 103)].contains (T, d), gl := fun g => match oG with | some r => if g = 0 then some (.val (.map (some r))) else none | none => none, mp := fun k => match oG with | some r => if k = r then some d2p else none | none => none }
noncomputable def cxE : Cx := { P := Tryz.prog, md := d3y mdT, ext := fun _ => none, fz := fun k => [57, 60, 82, 89, 97, 102, 118, 123, 131, 133].contains k }
theorem d1m (xs : List Int) (hl : xs.length ≤ H7) : CW (cxT oG) 106 [.list (xs.map iV)] = some (.own 1 (xs.map iV), []) := a5h (cxT oG) rfl (by simp [a7k, c4t, hl])
theorem s_Sort (xs : List Int) (hl : xs.length ≤ H7) : CW (cxT oG) 107 [.own 1 (xs.map iV)] = some (.tup [], [(a0n xs).map iV]) := a5h (cxT oG) rfl (by simp [b1m, c4t, hl])
theorem c4k (l : List UInt8) (b : UInt8) (hl : l.length < 4294967281) : CW (cxT oG) 121 [tV l, tV [b]] = some (.own 1 ((splitB b l).map tV), []) := a5h (cxT oG) rfl (by show (if l.length < 4294967281 then some ((AV.own 1 ((splitB b l).map tV), []) : AV × List (List AV)) else none) = _; rw [if_pos hl])
theorem d2q (ps : List (List UInt8)) (b : UInt8) (h1 : ps.length ≤ H7) (h2 : (joinB b ps).length ≤ H7) : CW (cxT oG) 122 [.list (ps.map tV), tV [b]] = some (tV (joinB b ps), []) := a5h (cxT oG) rfl (by show ((unT (ps.map tV)).bind fun ps => if ps.length ≤ H7 ∧ (joinB b ps).length ≤ H7 then some ((tV (joinB b ps), []) : AV × List (List AV)) else none) = _; rw [d0e, Option.bind_some, if_pos ⟨h1, h2⟩])
theorem d2w (l : List UInt8) (b : UInt8) : CW (cxT oG) 136 [tV l, tV [b]] = some (.tup [tV (a4e b l), bV (decide (l.head? = some b))], []) := a5h (cxT oG) rfl rfl
theorem d2f (l : List UInt8) (b : UInt8) (hl : l.length < 4294967281) : CW (cxT oG) 137 [tV l, tV [b]] = some (.tup [tV (b4s b l), bV (decide (l.getLast? = some b))], []) := a5h (cxT oG) rfl (by show (if l.length < 4294967281 then some ((AV.tup [tV (b4s b l), bV (decide (l.getLast? = some b))], []) : AV × List (List AV)) else none) = _; rw [if_pos hl])
theorem c3m (l : List UInt8) (hl : l.length < 4294967281) : CW (cxT oG) 138 [tV l] = some (atR l, []) := a5h (cxT oG) rfl (by show (if l.length < 4294967281 then some ((atR l, []) : AV × List (List AV)) else none) = _; rw [if_pos hl])
theorem d3a (n : Int) (h : -9223372036854775808 ≤ n ∧ n ≤ 9223372036854775807) : CW (cxT oG) 165 [iV n] = some (tV (dec n), []) := a5h (cxT oG) rfl (by simp [b1t, h])

theorem keep_s_inRange : G8 Tryz.f135 = [0, 1, 2, 6] := by kernel_rfl
set_option maxHeartbeats 20000000 in
theorem c5b (n lo hi : Int) : CW (cxT oG) 135 [iV n, iV lo, iV hi] = some (bV (decide (lo ≤ n) && decide (n ≤ hi)), []) := by
 refine G9 rfl Tryz.func135 rfl ⟨by kernel_rfl, rfl, dT rfl, dT rfl, by decide⟩ keep_s_inRange <| A4 <| A0 <| A5 rfl rfl rfl <| xN [0,1,2] [] rfl <| A4 <| A0 <| A3 rfl rfl <| A3 rfl rfl <| b2p rfl rfl <| A3 rfl rfl ?_
 refine C8 rfl rfl ?_ ?_ <;> intro hg0 <;> have hg := hg0 <;> try simp only [SG] at hg
 ·refine A3 rfl rfl <| gT rfl rfl <| A3 rfl rfl <| gT rfl rfl <| b2p rfl rfl <| F0 rfl (by assumption) rfl rfl <| A5 rfl rfl rfl <| xN [6] [] rfl <| B6 <| C9 rfl rfl trivial ?_
  simp_all [ofConst]; try omega
 refine gF rfl rfl <| gF rfl rfl <| D6 rfl (by assumption) rfl rfl <| A5 rfl rfl rfl <| xN [6] [] rfl <| B6 <| C9 rfl rfl trivial ?_
 simp_all [ofConst]; try omega

theorem keep_s_in : G8 Tryz.f114 = [0, 1, 2, 6] := by kernel_rfl
set_option maxHeartbeats 20000000 in
theorem d4f (n lo hi : Int) : CW (cxT oG) 114 [iV n, iV lo, iV hi] = some (bV (decide (lo ≤ n) && decide (n ≤ hi)), []) := by
 refine G9 rfl Tryz.func114 rfl ⟨by kernel_rfl, rfl, dT rfl, dT rfl, by decide⟩ keep_s_in <| A4 <| A0 <| A5 rfl rfl rfl <| xN [0,1,2] [] rfl <| A4 <| A0 <| A3 rfl rfl <| A3 rfl rfl <| a0o rfl rfl <| A3 rfl rfl ?_
 refine C8 rfl rfl ?_ ?_ <;> intro hg0 <;> have hg := hg0 <;> try simp only [SG] at hg
 ·refine A3 rfl rfl <| gT rfl rfl <| A3 rfl rfl <| gT rfl rfl <| b2p rfl rfl <| F0 rfl (by assumption) rfl rfl <| A5 rfl rfl rfl <| xN [6] [] rfl <| B6 <| C9 rfl rfl trivial ?_
  simp_all [ofConst]; try omega
 refine gF rfl rfl <| gF rfl rfl <| D6 rfl (by assumption) rfl rfl <| A5 rfl rfl rfl <| xN [6] [] rfl <| B6 <| C9 rfl rfl trivial ?_
 simp_all [ofConst]; try omega

theorem keep_s_IndexFunc2 : G8 Tryz.f164 = [0, 1, 4, 8, 7, 9, 5, 16] := by kernel_rfl
set_option maxHeartbeats 20000000 in
theorem b6y (xs : List Int) (hl : xs.length ≤ 1000) (k : Nat) (a b : AV) (q : Int → Bool) (hq : ∀ x, CW (cxT oG) k [iV x, .ipt a 0, .ipt b 0] = some (bV (q x), [])) : ∃ res outs, (fun res outs => ∃ r : Int, res = iV r ∧ outs = [] ∧ decide (0 ≤ r) = xs.any q) res outs ∧ CW (cxT oG) 164 [L xs, .clo k [.ipt a 0, .ipt b 0]] = some (res, outs) := by
 refine T7 rfl Tryz.func164 rfl ⟨by kernel_rfl, rfl, dT rfl, dT rfl, by decide⟩ keep_s_IndexFunc2 <| A4 <| A0 <| A5 rfl rfl rfl <| xN [0,1] [] rfl <| A4 <| A4 <| A0 <| A3 rfl rfl <| E8 rfl rfl <| A3 rfl rfl <| xN [0,1,7,8] [] rfl <| C6 <| J6 (β := Nat) [(.t 0, _), (.t 1, _), (.t 7, _)] (fun (i : Nat) => [(.t 8, iV i)]) (fun (i : Nat) => i ≤ xs.length ∧ ∀ j, j < i → q (xs.getD j default) = false) (fun (i : Nat) => xs.length - i) 0 ⟨rfl, rfl, rfl, rfl, trivial⟩ ⟨Nat.zero_le _, fun j h => by omega⟩ ?_
 intro i hb
 obtain ⟨hi1, hi2⟩ := hb
 refine A4 <| A0 <| I0 rfl rfl <| xN [0,1,7,8,9] [] rfl <| A4 ?_
 refine A9 rfl ?_ ?_ <;> intro hc <;> try simp only [SL] at hc
 ·refine B5 <| A4 <| C6 <| A4 <| A0 <| A3 rfl rfl <| A5 rfl rfl rfl <| xN [0,1,5,7,8] [] rfl <| A4 <| A0 <| A3 rfl rfl <| A3 rfl rfl <| A3 rfl rfl <| F8 rfl rfl rfl (fun _ => rfl) (by omega) <| F5 rfl rfl rfl ?_
  apply c4w rfl rfl
  ·apply B0
   ·exact B9 rfl
   apply B0
   ·exact B9 rfl
   apply B0
   ·exact B9 rfl
   exact C4
  ·exact hq (xs.getD i default)
  ·exact ⟨rfl, rfl, rfl, dT rfl, rfl⟩
  ·exact .inl rfl
  ·exact B3
  ·exact C3 rfl
  ·exact fun _ => rfl
  intro g16
  refine xN [0,1,5,7,8,16] [] rfl ?_
  refine A9 rfl ?_ ?_ <;> intro hc <;> try simp only [SL] at hc
  ·refine A4 <| A0 <| A3 rfl rfl <| A5 rfl rfl rfl <| xN [4] [] rfl <| B6 ?_
   refine ⟨_, _, ?_, K4 rfl rfl C5⟩
   exact ⟨_, rfl, rfl, d0j (by omega) hc⟩
  refine B5 <| A0 <| H5 rfl rfl (F4 (by omega)) <| A3 rfl rfl <| xN [0,1,7,8] [] rfl ?_
  refine ⟨i + 1, ⟨by omega, fun a ha => by rcases Nat.lt_succ_iff_lt_or_eq.1 ha with h | h; exact hi2 a h; subst h; exact hc⟩, (by omega), ⟨rfl, rfl, rfl, rfl, trivial⟩⟩
 refine H1 <| A4 <| A0 <| A5 rfl rfl rfl <| xN [4] [] rfl <| B6 ?_
 refine ⟨_, _, ?_, K4 rfl rfl C5⟩
 exact ⟨-1, rfl, rfl, c7b fun j hj => hi2 j (by omega)⟩

theorem keep_s_ContainsFunc2 : G8 Tryz.f141 = [0, 1, 4] := by kernel_rfl
set_option maxHeartbeats 20000000 in
theorem b0n (xs : List Int) (hl : xs.length ≤ 1000) (k : Nat) (a b : AV) (q : Int → Bool) (hq : ∀ x, CW (cxT oG) k [iV x, .ipt a 0, .ipt b 0] = some (bV (q x), [])) : CW (cxT oG) 141 [L xs, .clo k [.ipt a 0, .ipt b 0]] = some (bV (xs.any q), []) := by
 obtain ⟨_, _, ⟨r, rfl, rfl, hr⟩, hC⟩ := b6y (oG := oG) xs hl k a b q hq
 refine G9 rfl Tryz.func141 rfl ⟨by kernel_rfl, rfl, dT rfl, dT rfl, by decide⟩ keep_s_ContainsFunc2 <| A4 <| A0 <| A5 rfl rfl rfl <| xN [0,1] [] rfl <| A4 <| A0 <| A3 rfl rfl <| A3 rfl rfl ?_
 apply xC rfl
 ·apply B0
  ·exact B9 rfl
  apply B0
  ·exact a2j rfl (d0b (d0b a2g))
  exact C4
 ·exact hC
 refine ⟨⟨rfl, rfl, rfl, dT rfl, rfl⟩, .inl rfl, B3, C3 rfl, fun _ => rfl, fun g7 => ?_⟩
 refine a0o rfl rfl <| A5 rfl rfl rfl <| xN [4] [] rfl <| B6 <| C9 rfl rfl trivial ?_
 rw [← hr]

theorem keep_s_allIn1 : G8 Tryz.f142 = [0, 1, 2, 4] := by kernel_rfl
set_option maxHeartbeats 20000000 in
theorem c8a (x lo hi : Int) : CW (cxT oG) 142 [iV x, .ipt (iV lo) 0, .ipt (iV hi) 0] = some (bV (!(decide (lo ≤ x) && decide (x ≤ hi))), []) := by
 refine G9 rfl Tryz.func142 rfl ⟨by kernel_rfl, rfl, dT rfl, dT rfl, by decide⟩ keep_s_allIn1 <| A4 <| A0 <| A5 rfl rfl rfl <| xN [0,1,2] [] rfl <| A4 <| A0 <| A3 rfl rfl <| F5 rfl rfl rfl <| F5 rfl rfl rfl ?_
 apply xC rfl
 ·apply B0
  ·exact B9 rfl
  apply B0
  ·exact B9 rfl
  apply B0
  ·exact B9 rfl
  exact C4
 ·exact d4f _ _ _
 refine ⟨⟨rfl, rfl, rfl, dT rfl, rfl⟩, .inl rfl, B3, C3 rfl, fun _ => rfl, fun g8 => ?_⟩
 refine P6 rfl <| A5 rfl rfl rfl <| xN [4] [] rfl <| B6 <| C9 rfl rfl trivial ?_
 rfl

theorem keep_s_allIn : G8 Tryz.f111 = [0, 1, 2, 6, 4, 5] := by kernel_rfl
set_option maxHeartbeats 20000000 in
theorem d0r (xs : List Int) (hl : xs.length ≤ 1000) (lo hi : Int) : CW (cxT oG) 111 [L xs, iV lo, iV hi] = some (bV (b0p lo hi xs), []) := by
 refine G9 rfl Tryz.func111 rfl ⟨by kernel_rfl, rfl, dT rfl, dT rfl, by decide⟩ keep_s_allIn <| A4 <| A0 <| a0e rfl rfl rfl (fun _ => C0 rfl) (fun _ => rfl) ?_
 intro g4
 refine a0e rfl rfl rfl (fun _ => C0 rfl) (fun _ => rfl) ?_
 intro g5
 refine A5 rfl rfl rfl <| xN [0,4,5] [4,5] rfl <| A4 <| A0 <| A3 rfl rfl <| Q8 rfl rfl ?_
 apply xC rfl
 ·apply B0
  ·exact B9 rfl
  apply B0
  ·exact a2j rfl (c7o rfl rfl (c7o rfl rfl a2g))
  exact C4
 ·exact b0n xs hl 142 (iV lo) (iV hi) _ (fun x => c8a x lo hi)
 refine ⟨⟨rfl, rfl, rfl, dT rfl, rfl⟩, .inr ⟨rfl, rfl⟩, B3, C3 rfl, fun _ => rfl, fun g9 => ?_⟩
 refine P6 rfl <| A5 rfl rfl rfl <| xN [6] [] rfl <| B6 <| C9 rfl rfl trivial ?_
 exact congrArg bV (c7g lo hi xs)

theorem keep_s_validData : G8 Tryz.f103 = [0, 2, 3, 7, 15] := by kernel_rfl
set_option maxHeartbeats 20000000 in
theorem b9u (xs : List Int) (hl : xs.length ≤ 1048576) : CW (cxT oG) 103 [L xs] = some (bV (vd xs), []) := by
 refine G9 rfl Tryz.func103 rfl ⟨by kernel_rfl, rfl, dT rfl, dT rfl, by decide⟩ keep_s_validData <| A4 <| A0 <| A5 rfl rfl rfl <| xN [0] [] rfl <| A4 <| A4 <| A0 <| A5 rfl rfl rfl <| xN [0,3] [] rfl <| C6 <| J6 (β := Nat) [(.t 0, _)] (fun (i : Nat) => [(.t 3, iV i)]) (fun (i : Nat) => i ≤ xs.length ∧ ∀ j, j < i → -200 ≤ xs.getD j default ∧ xs.getD j default ≤ 200) (fun (i : Nat) => xs.length - i) 0 ⟨rfl, rfl, trivial⟩ ⟨Nat.zero_le _, fun j h => by omega⟩ ?_
 intro i hb
 obtain ⟨hi1, hi2⟩ := hb
 refine A4 <| A4 <| A0 <| A3 rfl rfl <| A3 rfl rfl <| E8 rfl rfl <| I0 rfl rfl <| xN [0,3,7] [] rfl ?_
 refine A9 rfl ?_ ?_ <;> intro hc <;> try simp only [SL] at hc
 ·refine B5 <| A4 <| C6 <| A4 <| A0 <| A3 rfl rfl <| A3 rfl rfl <| F8 rfl rfl rfl (fun _ => rfl) (by omega) <| F5 rfl rfl rfl ?_
  apply xC rfl
  ·apply B0
   ·exact B9 rfl
   apply B0
   ·exact B9 rfl
   apply B0
   ·exact B9 rfl
   exact C4
  ·exact c5b _ _ _
  refine ⟨⟨rfl, rfl, rfl, dT rfl, rfl⟩, .inl rfl, B3, C3 rfl, fun _ => rfl, fun g14 => ?_⟩
  refine P6 rfl <| xN [0,3,15] [] rfl ?_
  refine A9 rfl ?_ ?_ <;> intro hc <;> try simp only [SL] at hc
  ·refine A4 <| A0 <| A5 rfl rfl rfl <| xN [2] [] rfl <| B6 <| C9 rfl rfl trivial ?_
   rw [vd, c8n (show i < xs.length by omega) (by (simp_all; omega)), Bool.and_false]
   rfl
  refine B5 <| A0 <| A3 rfl rfl <| H5 rfl rfl (F4 (by omega)) <| A5 rfl rfl rfl <| xN [0,3] [] rfl ?_
  refine ⟨i + 1, ⟨by omega, fun j hj => by rcases Nat.lt_succ_iff_lt_or_eq.1 hj with h | h; (· exact hi2 j h); (· subst h; assumption)⟩, (by omega), ⟨rfl, rfl, trivial⟩⟩
 refine H1 <| A4 <| A0 <| A3 rfl rfl <| E8 rfl rfl <| b2p rfl rfl <| A5 rfl rfl rfl <| xN [2] [] rfl <| B6 <| C9 rfl rfl trivial ?_
 rw [vd, d1q fun j hj => hi2 j (by omega), Bool.and_true]
 exact congrArg bV (decide_eq_decide.2 (by omega))

theorem keep_s_validDataI : G8 Tryz.f100 = [0, 2] := by kernel_rfl
set_option maxHeartbeats 20000000 in
theorem a7c (xs : List Int) (hl : xs.length ≤ 1048576) : CW (cxT oG) 100 [L xs] = some (bV (vd xs), []) := by
 refine G9 rfl Tryz.func100 rfl ⟨by kernel_rfl, rfl, dT rfl, dT rfl, by decide⟩ keep_s_validDataI <| A4 <| A0 <| A5 rfl rfl rfl <| xN [0] [] rfl <| A4 <| A0 <| A3 rfl rfl <| E8 rfl rfl <| b2p rfl rfl <| A3 rfl rfl ?_
 refine C8 rfl rfl ?_ ?_ <;> intro hg0 <;> have hg := hg0 <;> try simp only [SG] at hg
 ·refine A3 rfl rfl <| gT rfl rfl ?_
  apply xC rfl
  ·apply B0
   ·exact B9 rfl
   apply B0
   ·exact B9 rfl
   apply B0
   ·exact B9 rfl
   exact C4
  ·exact d0r xs (by omega) (-200) 200
  refine ⟨⟨rfl, rfl, rfl, dT rfl, rfl⟩, .inl rfl, B3, C3 rfl, fun _ => rfl, fun g8 => ?_⟩
  refine F0 rfl (by assumption) rfl rfl <| A5 rfl rfl rfl <| xN [2] [] rfl <| B6 <| C9 rfl rfl trivial ?_
  cases hb : b0p (-200) 200 xs <;> simp_all [vd, ofConst] <;> omega
 refine gF rfl rfl <| D6 rfl (by assumption) rfl rfl <| A5 rfl rfl rfl <| xN [2] [] rfl <| B6 <| C9 rfl rfl trivial ?_
 cases hb : b0p (-200) 200 xs <;> simp_all [vd, ofConst] <;> omega

theorem keep_s_needs : G8 Tryz.f64 = [0, 2, 3, 4, 10, 19] := by kernel_rfl
set_option maxHeartbeats 20000000 in
theorem a7j (w : ByteArray) : CW (cxT oG) 64 [sV w] = some (iV (nd w), []) := by
 refine G9 rfl Tryz.func64 rfl ⟨by kernel_rfl, rfl, dT rfl, dT rfl, by decide⟩ keep_s_needs <| A4 <| A0 <| A5 rfl rfl rfl <| xN [0] [] rfl <| A4 <| A4 <| A0 <| A3 rfl rfl <| xN [3] [] rfl <| C6 <| A4 <| A4 <| A0 <| O4 rfl rfl <| A5 rfl rfl rfl <| xN [3,4] [] rfl ?_
 refine A9 rfl ?_ ?_ <;> intro hc <;> try simp only [SL] at hc
 ·refine B5 ?_
  refine A9 rfl (fun hc => ?_) (fun hc => absurd hc (by simp_all))
  refine A4 <| A0 <| A5 rfl rfl rfl <| xN [2] [] rfl <| B6 <| C9 rfl rfl trivial <| congrArg iV ?_
  simp_all [nd]
 refine A4 <| A0 <| O4 rfl rfl <| A5 rfl rfl rfl <| xN [3,4] [] rfl ?_
 refine A9 rfl ?_ ?_ <;> intro hc <;> try simp only [SL] at hc
 ·refine B5 ?_
  refine A9 rfl (fun hc => ?_) (fun hc => absurd hc (by simp_all))
  refine A4 <| A0 <| A5 rfl rfl rfl <| xN [2] [] rfl <| B6 <| C9 rfl rfl trivial <| congrArg iV ?_
  simp_all [nd]
 refine A4 <| A0 <| O4 rfl rfl <| A5 rfl rfl rfl <| xN [3,4] [] rfl ?_
 refine A9 rfl ?_ ?_ <;> intro hc <;> try simp only [SL] at hc
 ·refine B5 ?_
  refine A9 rfl (fun hc => ?_) (fun hc => absurd hc (by simp_all))
  refine A4 <| A0 <| A5 rfl rfl rfl <| xN [2] [] rfl <| B6 <| C9 rfl rfl trivial <| congrArg iV ?_
  simp_all [nd]
 refine A4 <| A0 <| O4 rfl rfl <| A5 rfl rfl rfl <| xN [3,4] [] rfl ?_
 refine A9 rfl ?_ ?_ <;> intro hc <;> try simp only [SL] at hc
 ·refine B5 ?_
  refine A9 rfl (fun hc => ?_) (fun hc => absurd hc (by simp_all))
  refine A4 <| A0 <| A5 rfl rfl rfl <| xN [2] [] rfl <| B6 <| C9 rfl rfl trivial <| congrArg iV ?_
  simp_all [nd]
 refine A0 <| O4 rfl rfl <| A5 rfl rfl rfl <| xN [3,4] [] rfl ?_
 refine A9 rfl ?_ ?_ <;> intro hc <;> try simp only [SL] at hc
 ·refine A4 <| A0 <| A5 rfl rfl rfl <| xN [2] [] rfl <| B6 <| C9 rfl rfl trivial <| congrArg iV ?_
  simp_all [nd]
 refine A4 <| A4 <| A0 <| O4 rfl rfl <| A5 rfl rfl rfl <| xN [3,10] [] rfl ?_
 refine A9 rfl ?_ ?_ <;> intro hc <;> try simp only [SL] at hc
 ·refine B5 ?_
  refine A9 rfl (fun hc => ?_) (fun hc => absurd hc (by simp_all))
  refine A4 <| A0 <| A5 rfl rfl rfl <| xN [2] [] rfl <| B6 <| C9 rfl rfl trivial <| congrArg iV ?_
  simp_all [nd]
 refine A4 <| A0 <| O4 rfl rfl <| A5 rfl rfl rfl <| xN [3,10] [] rfl ?_
 refine A9 rfl ?_ ?_ <;> intro hc <;> try simp only [SL] at hc
 ·refine B5 ?_
  refine A9 rfl (fun hc => ?_) (fun hc => absurd hc (by simp_all))
  refine A4 <| A0 <| A5 rfl rfl rfl <| xN [2] [] rfl <| B6 <| C9 rfl rfl trivial <| congrArg iV ?_
  simp_all [nd]
 refine A4 <| A0 <| O4 rfl rfl <| A5 rfl rfl rfl <| xN [3,10] [] rfl ?_
 refine A9 rfl ?_ ?_ <;> intro hc <;> try simp only [SL] at hc
 ·refine B5 ?_
  refine A9 rfl (fun hc => ?_) (fun hc => absurd hc (by simp_all))
  refine A4 <| A0 <| A5 rfl rfl rfl <| xN [2] [] rfl <| B6 <| C9 rfl rfl trivial <| congrArg iV ?_
  simp_all [nd]
 refine A4 <| A0 <| O4 rfl rfl <| A5 rfl rfl rfl <| xN [3,10] [] rfl ?_
 refine A9 rfl ?_ ?_ <;> intro hc <;> try simp only [SL] at hc
 ·refine B5 ?_
  refine A9 rfl (fun hc => ?_) (fun hc => absurd hc (by simp_all))
  refine A4 <| A0 <| A5 rfl rfl rfl <| xN [2] [] rfl <| B6 <| C9 rfl rfl trivial <| congrArg iV ?_
  simp_all [nd]
 refine A4 <| A0 <| O4 rfl rfl <| A5 rfl rfl rfl <| xN [3,10] [] rfl ?_
 refine A9 rfl ?_ ?_ <;> intro hc <;> try simp only [SL] at hc
 ·refine B5 ?_
  refine A9 rfl (fun hc => ?_) (fun hc => absurd hc (by simp_all))
  refine A4 <| A0 <| A5 rfl rfl rfl <| xN [2] [] rfl <| B6 <| C9 rfl rfl trivial <| congrArg iV ?_
  simp_all [nd]
 refine A4 <| A0 <| O4 rfl rfl <| A5 rfl rfl rfl <| xN [3,10] [] rfl ?_
 refine A9 rfl ?_ ?_ <;> intro hc <;> try simp only [SL] at hc
 ·refine B5 ?_
  refine A9 rfl (fun hc => ?_) (fun hc => absurd hc (by simp_all))
  refine A4 <| A0 <| A5 rfl rfl rfl <| xN [2] [] rfl <| B6 <| C9 rfl rfl trivial <| congrArg iV ?_
  simp_all [nd]
 refine A4 <| A0 <| O4 rfl rfl <| A5 rfl rfl rfl <| xN [3,10] [] rfl ?_
 refine A9 rfl ?_ ?_ <;> intro hc <;> try simp only [SL] at hc
 ·refine B5 ?_
  refine A9 rfl (fun hc => ?_) (fun hc => absurd hc (by simp_all))
  refine A4 <| A0 <| A5 rfl rfl rfl <| xN [2] [] rfl <| B6 <| C9 rfl rfl trivial <| congrArg iV ?_
  simp_all [nd]
 refine A0 <| O4 rfl rfl <| A5 rfl rfl rfl <| xN [3,10] [] rfl ?_
 refine A9 rfl ?_ ?_ <;> intro hc <;> try simp only [SL] at hc
 ·refine A4 <| A0 <| A5 rfl rfl rfl <| xN [2] [] rfl <| B6 <| C9 rfl rfl trivial <| congrArg iV ?_
  simp_all [nd]
 refine A4 <| A4 <| A0 <| O4 rfl rfl <| A5 rfl rfl rfl <| xN [3,19] [] rfl ?_
 refine A9 rfl ?_ ?_ <;> intro hc <;> try simp only [SL] at hc
 ·refine B5 ?_
  refine A9 rfl (fun hc => ?_) (fun hc => absurd hc (by simp_all))
  refine A4 <| A0 <| A5 rfl rfl rfl <| xN [2] [] rfl <| B6 <| C9 rfl rfl trivial <| congrArg iV ?_
  simp_all [nd]
 refine A0 <| O4 rfl rfl <| A5 rfl rfl rfl <| xN [19] [] rfl ?_
 refine A9 rfl ?_ ?_ <;> intro hc <;> try simp only [SL] at hc
 ·refine A4 <| A0 <| A5 rfl rfl rfl <| xN [2] [] rfl <| B6 <| C9 rfl rfl trivial <| congrArg iV ?_
  simp_all [nd]
 refine B5 <| A4 <| A0 <| A5 rfl rfl rfl <| xN [2] [] rfl <| B6 <| C9 rfl rfl trivial <| congrArg iV ?_
 simp_all [nd]

theorem keep_s_reachOf : G8 Tryz.f86 = [0, 2, 3, 4, 13, 16] := by kernel_rfl
set_option maxHeartbeats 20000000 in
theorem c5y (w : ByteArray) : CW (cxT oG) 86 [sV w] = some (iV (rch w), []) := by
 refine G9 rfl Tryz.func86 rfl ⟨by kernel_rfl, rfl, dT rfl, dT rfl, by decide⟩ keep_s_reachOf <| A4 <| A0 <| A5 rfl rfl rfl <| xN [0] [] rfl <| A4 <| A4 <| A0 <| A3 rfl rfl <| xN [3] [] rfl <| C6 <| A4 <| A4 <| A0 <| O4 rfl rfl <| A5 rfl rfl rfl <| xN [3,4] [] rfl ?_
 refine A9 rfl ?_ ?_ <;> intro hc <;> try simp only [SL] at hc
 ·refine B5 ?_
  refine A9 rfl (fun hc => ?_) (fun hc => absurd hc (by simp_all))
  refine A4 <| A0 <| A5 rfl rfl rfl <| xN [2] [] rfl <| B6 <| C9 rfl rfl trivial <| congrArg iV ?_
  simp_all [rch]
 refine A4 <| A0 <| O4 rfl rfl <| A5 rfl rfl rfl <| xN [3,4] [] rfl ?_
 refine A9 rfl ?_ ?_ <;> intro hc <;> try simp only [SL] at hc
 ·refine B5 ?_
  refine A9 rfl (fun hc => ?_) (fun hc => absurd hc (by simp_all))
  refine A4 <| A0 <| A5 rfl rfl rfl <| xN [2] [] rfl <| B6 <| C9 rfl rfl trivial <| congrArg iV ?_
  simp_all [rch]
 refine A4 <| A0 <| O4 rfl rfl <| A5 rfl rfl rfl <| xN [3,4] [] rfl ?_
 refine A9 rfl ?_ ?_ <;> intro hc <;> try simp only [SL] at hc
 ·refine B5 ?_
  refine A9 rfl (fun hc => ?_) (fun hc => absurd hc (by simp_all))
  refine A4 <| A0 <| A5 rfl rfl rfl <| xN [2] [] rfl <| B6 <| C9 rfl rfl trivial <| congrArg iV ?_
  simp_all [rch]
 refine A4 <| A0 <| O4 rfl rfl <| A5 rfl rfl rfl <| xN [3,4] [] rfl ?_
 refine A9 rfl ?_ ?_ <;> intro hc <;> try simp only [SL] at hc
 ·refine B5 ?_
  refine A9 rfl (fun hc => ?_) (fun hc => absurd hc (by simp_all))
  refine A4 <| A0 <| A5 rfl rfl rfl <| xN [2] [] rfl <| B6 <| C9 rfl rfl trivial <| congrArg iV ?_
  simp_all [rch]
 refine A4 <| A0 <| O4 rfl rfl <| A5 rfl rfl rfl <| xN [3,4] [] rfl ?_
 refine A9 rfl ?_ ?_ <;> intro hc <;> try simp only [SL] at hc
 ·refine B5 ?_
  refine A9 rfl (fun hc => ?_) (fun hc => absurd hc (by simp_all))
  refine A4 <| A0 <| A5 rfl rfl rfl <| xN [2] [] rfl <| B6 <| C9 rfl rfl trivial <| congrArg iV ?_
  simp_all [rch]
 refine A4 <| A0 <| O4 rfl rfl <| A5 rfl rfl rfl <| xN [3,4] [] rfl ?_
 refine A9 rfl ?_ ?_ <;> intro hc <;> try simp only [SL] at hc
 ·refine B5 ?_
  refine A9 rfl (fun hc => ?_) (fun hc => absurd hc (by simp_all))
  refine A4 <| A0 <| A5 rfl rfl rfl <| xN [2] [] rfl <| B6 <| C9 rfl rfl trivial <| congrArg iV ?_
  simp_all [rch]
 refine A4 <| A0 <| O4 rfl rfl <| A5 rfl rfl rfl <| xN [3,4] [] rfl ?_
 refine A9 rfl ?_ ?_ <;> intro hc <;> try simp only [SL] at hc
 ·refine B5 ?_
  refine A9 rfl (fun hc => ?_) (fun hc => absurd hc (by simp_all))
  refine A4 <| A0 <| A5 rfl rfl rfl <| xN [2] [] rfl <| B6 <| C9 rfl rfl trivial <| congrArg iV ?_
  simp_all [rch]
 refine A0 <| O4 rfl rfl <| A5 rfl rfl rfl <| xN [3,4] [] rfl ?_
 refine A9 rfl ?_ ?_ <;> intro hc <;> try simp only [SL] at hc
 ·refine A4 <| A0 <| A5 rfl rfl rfl <| xN [2] [] rfl <| B6 <| C9 rfl rfl trivial <| congrArg iV ?_
  simp_all [rch]
 refine A4 <| A4 <| A0 <| O4 rfl rfl <| A5 rfl rfl rfl <| xN [3,13] [] rfl ?_
 refine A9 rfl ?_ ?_ <;> intro hc <;> try simp only [SL] at hc
 ·refine B5 ?_
  refine A9 rfl (fun hc => ?_) (fun hc => absurd hc (by simp_all))
  refine A4 <| A0 <| A5 rfl rfl rfl <| xN [2] [] rfl <| B6 <| C9 rfl rfl trivial <| congrArg iV ?_
  simp_all [rch]
 refine A0 <| O4 rfl rfl <| A5 rfl rfl rfl <| xN [3,13] [] rfl ?_
 refine A9 rfl ?_ ?_ <;> intro hc <;> try simp only [SL] at hc
 ·refine A4 <| A0 <| A5 rfl rfl rfl <| xN [2] [] rfl <| B6 <| C9 rfl rfl trivial <| congrArg iV ?_
  simp_all [rch]
 refine A4 <| A4 <| A0 <| O4 rfl rfl <| A5 rfl rfl rfl <| xN [3,16] [] rfl ?_
 refine A9 rfl ?_ ?_ <;> intro hc <;> try simp only [SL] at hc
 ·refine B5 ?_
  refine A9 rfl (fun hc => ?_) (fun hc => absurd hc (by simp_all))
  refine A4 <| A0 <| A5 rfl rfl rfl <| xN [2] [] rfl <| B6 <| C9 rfl rfl trivial <| congrArg iV ?_
  simp_all [rch]
 refine A4 <| A0 <| O4 rfl rfl <| A5 rfl rfl rfl <| xN [3,16] [] rfl ?_
 refine A9 rfl ?_ ?_ <;> intro hc <;> try simp only [SL] at hc
 ·refine B5 ?_
  refine A9 rfl (fun hc => ?_) (fun hc => absurd hc (by simp_all))
  refine A4 <| A0 <| A5 rfl rfl rfl <| xN [2] [] rfl <| B6 <| C9 rfl rfl trivial <| congrArg iV ?_
  simp_all [rch]
 refine A4 <| A0 <| O4 rfl rfl <| A5 rfl rfl rfl <| xN [3,16] [] rfl ?_
 refine A9 rfl ?_ ?_ <;> intro hc <;> try simp only [SL] at hc
 ·refine B5 ?_
  refine A9 rfl (fun hc => ?_) (fun hc => absurd hc (by simp_all))
  refine A4 <| A0 <| A5 rfl rfl rfl <| xN [2] [] rfl <| B6 <| C9 rfl rfl trivial <| congrArg iV ?_
  simp_all [rch]
 refine A0 <| O4 rfl rfl <| A5 rfl rfl rfl <| xN [16] [] rfl ?_
 refine A9 rfl ?_ ?_ <;> intro hc <;> try simp only [SL] at hc
 ·refine A4 <| A0 <| A5 rfl rfl rfl <| xN [2] [] rfl <| B6 <| C9 rfl rfl trivial <| congrArg iV ?_
  simp_all [rch]
 refine B5 <| A4 <| A0 <| A5 rfl rfl rfl <| xN [2] [] rfl <| B6 <| C9 rfl rfl trivial <| congrArg iV ?_
 simp_all [rch]

theorem keep_s_number : G8 Tryz.f148 = [0, 2, 4, 10] := by kernel_rfl
set_option maxHeartbeats 20000000 in
theorem a5c (n : Int) (hn : -1000000 ≤ n ∧ n ≤ 1000000) : CW (cxT oG) 148 [iV n] = some (tV (dec n), []) := by
 obtain ⟨kk, hkk⟩ : ∃ kk : Nat, 2 * n.natAbs + (if n < 0 then 1 else 0) < kk := ⟨_, Nat.lt_succ_self _⟩
 revert n
 induction kk with
 | zero => intro n hn hkk; exact absurd hkk (Nat.not_lt_zero _)
 | succ kk ih =>
  intro n hn hkk
  refine G9 rfl Tryz.func148 rfl ⟨by kernel_rfl, rfl, dT rfl, dT rfl, by decide⟩ keep_s_number <| A4 <| A0 <| A5 rfl rfl rfl <| xN [0] [] rfl <| A4 <| A4 <| A0 <| A3 rfl rfl <| I0 rfl rfl <| xN [0,4] [] rfl ?_
  refine A9 rfl ?_ ?_ <;> intro hc <;> try simp only [SL] at hc
  ·refine A4 <| A0 <| A3 rfl rfl <| d1u rfl (F4 (by omega)) ?_
   have hdl := V5 (m := -n) (by omega)
   apply xC rfl
   ·apply B0
    ·exact B9 rfl
    exact C4
   ·exact ih (-n) (by omega) (by split at hkk <;> split <;> omega)
   refine ⟨⟨rfl, rfl, rfl, dT rfl, rfl⟩, .inl rfl, B3, C3 rfl, fun _ => rfl, fun g7 => ?_⟩
   refine P4 rfl rfl (by simp only [H7, List.length_append, List.length_cons, List.length_nil]; omega) <| A5 rfl rfl rfl <| xN [2] [] rfl <| B6 <| C9 rfl rfl trivial ?_
   exact congrArg tV (d0o (by assumption)).symm
  refine B5 <| A4 <| A4 <| A0 <| A3 rfl rfl <| I0 rfl rfl <| xN [0,10] [] rfl ?_
  refine A9 rfl ?_ ?_ <;> intro hc <;> try simp only [SL] at hc
  ·refine A4 <| A0 <| A3 rfl rfl <| A3 rfl rfl <| H5 rfl rfl (F4 (by omega)) <| V2 rfl rfl (Q3 rfl (by omega)) (Q3 rfl (by omega)) (by (simp; omega)) <| A5 rfl rfl rfl <| xN [2] [] rfl <| B6 <| C9 rfl rfl trivial ?_
   rw [d1f (by omega)]
  refine B5 <| A4 <| A0 <| A3 rfl rfl ?_
  have hd10 : n.tdiv 10 = n / 10 := Int.tdiv_eq_ediv_of_nonneg (by omega)
  refine c7y rfl rfl ⟨by omega, F4 (by omega)⟩ ?_
  have hd10 : n.tdiv 10 = n / 10 := Int.tdiv_eq_ediv_of_nonneg (by omega)
  have hdl0 := V5 (m := n.tdiv 10) (by omega)
  apply xC rfl
  ·apply B0
   ·exact B9 rfl
   exact C4
  ·exact ih (n.tdiv 10) (by omega) (by split at hkk <;> split <;> omega)
  refine ⟨⟨rfl, rfl, rfl, dT rfl, rfl⟩, .inl rfl, B3, C3 rfl, fun _ => rfl, fun g17 => ?_⟩
  refine A3 rfl rfl <| b8y rfl rfl (by omega) ?_
  have hm10 : n.tmod 10 = n % 10 := Int.tmod_eq_emod_of_nonneg (by omega)
  have hdl1 := V5 (m := n.tmod 10) (by omega)
  apply xC rfl
  ·apply B0
   ·exact B9 rfl
   exact C4
  ·exact ih (n.tmod 10) (by omega) (by split at hkk <;> split <;> omega)
  refine ⟨⟨rfl, rfl, rfl, dT rfl, rfl⟩, .inl rfl, B3, C3 rfl, fun _ => rfl, fun g20 => ?_⟩
  refine P4 rfl rfl (by simp only [H7, List.length_append, List.length_cons, List.length_nil]; omega) <| A5 rfl rfl rfl <| xN [2] [] rfl <| B6 <| C9 rfl rfl trivial ?_
  rw [← d3h (by omega)]

theorem keep_s_listText : G8 Tryz.f124 = [0, 2, 4, 8, 12, 3] := by kernel_rfl
set_option maxHeartbeats 20000000 in
theorem b3u (ns : List Int) (hl : ns.length ≤ 1000000) (hnb : ∀ n ∈ ns, -1000000 ≤ n ∧ n ≤ 1000000) : CW (cxT oG) 124 [L ns] = some (tV (P9 ns), []) := by
 have hg := fun (i : Nat) (h : i < ns.length) => hnb _ (a5o h)
 refine G9 rfl Tryz.func124 rfl ⟨by kernel_rfl, rfl, dT rfl, dT rfl, by decide⟩ keep_s_listText <| A4 <| A0 <| A5 rfl rfl rfl <| xN [0] [] rfl <| A4 <| A0 <| A5 rfl rfl rfl <| xN [0,3] [] rfl <| A4 <| A4 <| A0 <| A5 rfl rfl rfl <| xN [0,3,4] [] rfl <| C6 <| J6 (β := Nat) [(.t 0, _)] (fun (i : Nat) => [(.t 4, iV i), (.t 3, tV (P9 (ns.take i)))]) (fun (i : Nat) => i ≤ ns.length) (fun (i : Nat) => ns.length - i) 0 ⟨rfl, rfl, rfl, trivial⟩ (Nat.zero_le _) ?_
 intro i hb
 have hi1 := hb
 have hll := a2w (ns := ns.take i) (fun n hn => hnb n (List.mem_of_mem_take hn))
 rw [List.length_take] at hll
 refine A4 <| A4 <| A0 <| A3 rfl rfl <| A3 rfl rfl <| E8 rfl rfl <| I0 rfl rfl <| xN [0,3,4,8] [] rfl ?_
 refine A9 rfl ?_ ?_ <;> intro hc <;> try simp only [SL] at hc
 ·refine B5 <| A4 <| C6 <| A4 <| A4 <| A0 <| A3 rfl rfl <| a0c rfl rfl <| xN [0,3,4,12] [] rfl ?_
  refine A9 rfl ?_ ?_ <;> intro hc <;> try simp only [SL] at hc
  ·have hi0 : 0 < i := by omega
   refine A0 <| A3 rfl rfl <| P4 rfl rfl (by simp only [H7, List.length_append, List.length_cons, List.length_nil]; omega) <| A5 rfl rfl rfl <| xN [0,3,4] [] rfl <| A0 <| A3 rfl rfl <| A3 rfl rfl <| A3 rfl rfl <| F8 rfl rfl rfl (fun _ => rfl) (by omega) <| F5 rfl rfl rfl ?_
   have hgi := hg i (by omega)
   have hdl := V5 hgi
   apply xC rfl
   ·apply B0
    ·exact B9 rfl
    exact C4
   ·exact a5c (ns.getD i default) hgi
   refine ⟨⟨rfl, rfl, rfl, dT rfl, rfl⟩, .inl rfl, B3, C3 rfl, fun _ => rfl, fun g20 => ?_⟩
   refine P4 rfl rfl (by simp only [H7, List.length_append, List.length_cons, List.length_nil]; omega) <| A5 rfl rfl rfl <| xN [0,3,4] [] rfl <| A0 <| A3 rfl rfl <| H5 rfl rfl (F4 (by omega)) <| A5 rfl rfl rfl <| xN [0,3,4] [] rfl ?_
   rw [← b9a (by omega) hi0]
   refine ⟨i + 1, ?_, (by omega), ⟨rfl, rfl, rfl, trivial⟩⟩
   omega
  have hi0 : i = 0 := by omega
  refine B5 <| A0 <| A3 rfl rfl <| A3 rfl rfl <| A3 rfl rfl <| F8 rfl rfl rfl (fun _ => rfl) (by omega) <| F5 rfl rfl rfl ?_
  have hgi := hg i (by omega)
  have hdl := V5 hgi
  apply xC rfl
  ·apply B0
   ·exact B9 rfl
   exact C4
  ·exact a5c (ns.getD i default) hgi
  refine ⟨⟨rfl, rfl, rfl, dT rfl, rfl⟩, .inl rfl, B3, C3 rfl, fun _ => rfl, fun g20 => ?_⟩
  refine P4 rfl rfl (by simp only [H7, List.length_append, List.length_cons, List.length_nil]; omega) <| A5 rfl rfl rfl <| xN [0,3,4] [] rfl <| A0 <| A3 rfl rfl <| H5 rfl rfl (F4 (by omega)) <| A5 rfl rfl rfl <| xN [0,3,4] [] rfl ?_
  rw [← c1h (by omega) hi0]
  refine ⟨i + 1, ?_, (by omega), ⟨rfl, rfl, rfl, trivial⟩⟩
  omega
 refine H1 <| A4 <| A0 <| A3 rfl rfl <| A5 rfl rfl rfl <| xN [2] [] rfl <| B6 <| C9 rfl rfl trivial ?_
 rw [List.take_of_length_le (by omega)]

theorem keep_s_splitAt : G8 Tryz.f101 = [0, 1, 4, 7, 12, 19, 6, 5] := by kernel_rfl
set_option maxHeartbeats 20000000 in
theorem b5h (s : List UInt8) (hs : s.length ≤ 1048576) (c : UInt8) : CW (cxT oG) 101 [tV s, uV c.toNat] = some (.own 1 ((splitB c s).map tV), []) := by
 refine G9 rfl Tryz.func101 rfl ⟨by kernel_rfl, rfl, dT rfl, dT rfl, by decide⟩ keep_s_splitAt <| A4 <| A0 ?_
 (refine C2 rfl rfl (fun _ => rfl) ?_; intro g4)
 refine xN [0,1] [] rfl <| A4 <| A0 <| E6 (es := List.map tV []) rfl rfl (dT rfl) rfl rfl (fun _ => B1 (A7 fun _ => rfl)) (fun _ => rfl) ?_
 intro g8
 (refine B2 rfl rfl (by (simp; done)) rfl (fun _ => (B1 (by exact A7 fun _ => rfl))) (fun _ => rfl) ?_; intro g5)
 refine xN [0,1,5] [5] rfl <| A4 <| A0 <| A5 rfl rfl rfl <| xN [0,1,5,6] [5] rfl <| A4 <| A4 <| A0 <| A5 rfl rfl rfl <| xN [0,1,5,6,7] [5] rfl <| C6 <| J6 (β := Nat × Nat × List (List UInt8) × Nat) [(.t 0, _), (.t 1, _)] (fun (z : Nat × Nat × List (List UInt8) × Nat) => match z with | (i, fr, out, g) => [(.t 7, iV i), (.t 6, iV fr), (.t 5, .sl 5 g none 0 out.length), (.h 5, .obj g 0 1 (out.map tV))]) (fun (z : Nat × Nat × List (List UInt8) × Nat) => match z with | (i, fr, out, g) => i ≤ s.length ∧ fr ≤ i ∧ out.length ≤ i ∧ splitB c s = out ++ W5 ((s.drop fr).take (i - fr)) (splitB c (s.drop i))) (fun (z : Nat × Nat × List (List UInt8) × Nat) => match z with | (i, fr, out, g) => s.length - i) (0, 0, [], _) ⟨rfl, rfl, rfl, rfl, rfl, rfl, trivial⟩ ⟨Nat.zero_le _, Nat.le_refl _, Nat.le_refl _, by simp [b5y]⟩ ?_
 intro z hb
 obtain ⟨i, fr, out, g⟩ := z
 try dsimp only at hb
 obtain ⟨hi1, hfr, hol, hsp⟩ := hb
 refine A4 <| A4 <| A0 <| A3 rfl rfl <| A3 rfl rfl <| a2c rfl rfl <| I0 rfl rfl <| xN [0,1,5,6,7,12] [5] rfl ?_
 refine A9 rfl ?_ ?_ <;> intro hc <;> try simp only [SL] at hc
 ·refine B5 <| A4 <| C6 <| A4 <| A0 <| A3 rfl rfl <| A3 rfl rfl <| P7 rfl rfl rfl (by omega) <| A3 rfl rfl <| N5 rfl rfl <| xN [0,1,5,6,7,19] [5] rfl ?_
  refine A9 rfl ?_ ?_ <;> intro hc <;> try simp only [SL] at hc
  ·have hcb : s.getD i 0 = c := UInt8.toNat_inj.1 (by omega)
   refine A4 <| A0 ?_
   iterate 4 refine A3 rfl rfl ?_
   refine V2 rfl rfl (H6 rfl) (H6 rfl) (by omega) <| E6 (es := List.map tV [_]) rfl rfl (dT rfl) rfl rfl (fun _ => B1 (A7 fun _ => rfl)) (fun _ => rfl) ?_
   intro g25
   refine H0 rfl rfl rfl rfl (by (simp; done)) (by simp) (by decide) rfl rfl rfl rfl (dT rfl) (fun _ => ⟨rfl, rfl⟩) (by simp only [H7]; (simp only [List.length_nil, List.length_cons, List.length_append, Nat.zero_add, List.length_map]; omega)) (fun _ => rfl) ?_
   intro g26
   (refine B2 rfl rfl (by (simp; done)) rfl (fun _ => (B1 (by exact A7 fun _ => rfl))) (fun _ => rfl) ?_; intro g5)
   refine xN [0,1,5,7] [5] rfl <| A0 <| A3 rfl rfl <| H5 rfl rfl (F4 (by omega)) <| A5 rfl rfl rfl <| xN [0,1,5,6,7] [5] rfl <| A0 <| A3 rfl rfl <| H5 rfl rfl (F4 (by omega)) <| A5 rfl rfl rfl <| xN [0,1,5,6,7] [5] rfl ?_
   refine ⟨(i + 1, i + 1, out ++ [(s.drop fr).take (i - fr)], _), ?_, (by simp only; omega), ⟨rfl, rfl, rfl, rfl, rfl, rfl, trivial⟩⟩
   have hst := b4b (by omega) hfr hsp
   exact ⟨by omega, by omega, by simp; omega, hst.1 hcb⟩
  have hcb : s.getD i 0 ≠ c := fun e => hc (by rw [e])
  refine B5 <| A0 <| A3 rfl rfl <| H5 rfl rfl (F4 (by omega)) <| A5 rfl rfl rfl <| xN [0,1,5,6,7] [5] rfl ?_
  refine ⟨(i + 1, fr, out, _), ?_, (by simp only; omega), ⟨rfl, rfl, rfl, rfl, rfl, rfl, trivial⟩⟩
  have hst := b4b (by omega) hfr hsp
  exact ⟨by omega, by omega, by omega, hst.2 hcb⟩
 refine H1 <| A4 <| A0 <| A3 rfl rfl <| A3 rfl rfl <| A3 rfl rfl <| V2 rfl rfl J5 (H6 rfl) (by omega) <| E6 (es := List.map tV [_]) rfl rfl (dT rfl) rfl rfl (fun _ => B1 (A7 fun _ => rfl)) (fun _ => rfl) ?_
 intro g33
 refine H0 rfl rfl rfl rfl (by (simp; done)) (by simp) (by decide) rfl rfl rfl rfl (dT rfl) (fun _ => ⟨rfl, rfl⟩) (by simp only [H7]; (simp only [List.length_nil, List.length_cons, List.length_append, Nat.zero_add, List.length_map]; omega)) (fun _ => rfl) ?_
 intro g34
 (refine B2 rfl rfl (by (simp; done)) rfl (fun _ => (B1 (by exact A7 fun _ => rfl))) (fun _ => rfl) ?_; intro g4)
 refine xN [4] [4] rfl <| B6 <| V0 rfl rfl (by simp) (by exact A7 fun _ => rfl) trivial ?_
 have hil : i = s.length := by omega
 rw [hsp, hil, List.drop_length, splitB, W5, List.append_nil]

theorem keep_s_readList : G8 Tryz.f125 = [0, 2, 3, 5, 6, 17, 7, 8, 31, 10, 37, 9, 53, 62, 75, 4] := by kernel_rfl
set_option maxHeartbeats 20000000 in
theorem c2n (s : List UInt8) (hs : s.length ≤ 1048576) : CW (cxT oG) 125 [tV s] = some (.tup [.own 1 (((rdL s).getD []).map iV), bV (rdL s).isSome], []) := by
 obtain ⟨ps, hps⟩ : ∃ ps, ps = splitB 44 s := ⟨_, rfl⟩
 have hpl := U9 44 s
 rw [← hps] at hpl
 have hpp := a0d 44 s
 rw [← hps] at hpp
 refine G9 rfl Tryz.func125 rfl ⟨by kernel_rfl, rfl, dT rfl, dT rfl, by decide⟩ keep_s_readList <| A4 <| A0 ?_
 (refine C2 rfl rfl (fun _ => rfl) ?_; intro g2)
 refine A5 rfl rfl rfl <| xN [0] [] rfl <| A4 <| A0 <| E6 (es := List.map iV []) rfl rfl (dT rfl) rfl rfl (fun _ => B1 (A7 fun _ => rfl)) (fun _ => rfl) ?_
 intro g11
 (refine B2 rfl rfl (by (simp; done)) rfl (fun _ => (B1 (by exact A7 fun _ => rfl))) (fun _ => rfl) ?_; intro g4)
 refine xN [0,4] [4] rfl <| A4 <| A0 <| A3 rfl rfl ?_
 apply xC rfl
 ·apply B0
  ·exact B9 rfl
  apply B0
  ·exact B9 rfl
  exact C4
 ·exact b5h s hs 44
 refine ⟨⟨rfl, rfl, rfl, dT rfl, rfl⟩, .inl rfl, B3, L8, fun _ => rfl, fun g13 => ?_⟩
 rw [← hps]
 try simp only [List.length_map]
 (refine B2 rfl rfl (by (simp; done)) rfl (fun _ => (B1 (by exact A7 fun _ => rfl))) (fun _ => rfl) ?_; intro g5)
 refine xN [4,5] [4,5] rfl <| A4 <| A4 <| A0 <| A5 rfl rfl rfl <| xN [4,5,6] [4,5] rfl <| C6 <| J6 (β := Nat × List Int × Nat) [(.t 5, _), (.h 5, _)] (fun (z : Nat × List Int × Nat) => match z with | (i, ns, g) => [(.t 6, iV i), (.t 4, .sl 4 g none 0 ns.length), (.h 4, .obj g 0 1 (ns.map iV))]) (fun (z : Nat × List Int × Nat) => match z with | (i, ns, g) => i ≤ ps.length ∧ a1i (ps.take i) = some ns) (fun (z : Nat × List Int × Nat) => match z with | (i, ns, g) => ps.length - i) (0, [], _) ⟨rfl, rfl, rfl, rfl, rfl, trivial⟩ ⟨Nat.zero_le _, rfl⟩ ?_
 intro z hb
 obtain ⟨i, ns, g⟩ := z
 try dsimp only at hb
 obtain ⟨hi1, hrd⟩ := hb
 have hnl := b0f hrd
 rw [List.length_take] at hnl
 have hpi := fun h : i < ps.length => hpp _ (L1 h)
 refine A4 <| A4 <| A0 <| A3 rfl rfl <| A3 rfl rfl <| I1 rfl rfl <| I0 rfl rfl <| xN [4,5,6,17] [4,5] rfl ?_
 refine A9 rfl ?_ ?_ <;> intro hc <;> try simp only [SL] at hc
 ·refine B5 <| A4 <| C6 <| A4 <| A0 <| A3 rfl rfl <| A3 rfl rfl <| E3 rfl rfl rfl rfl (by omega) (by (simp; done)) rfl <| S5 rfl rfl (by omega) (fun _ => rfl) (fun _ => rfl) rfl <| A5 rfl rfl rfl <| xN [4,5,6,7] [4,5] rfl <| A4 <| A0 <| A3 rfl rfl <| b5u rfl rfl <| A3 rfl rfl ?_
  refine C8 rfl rfl ?_ ?_ <;> intro hg0 <;> have hg := hg0 <;> try simp only [SG] at hg
  ·refine A3 rfl rfl <| gT rfl rfl ?_
   have hp0 : 0 < (ps.getD i default).length := List.length_pos_iff.2 (by assumption)
   refine P7 (n := 0) rfl rfl rfl hp0 <| gT rfl rfl <| N5 rfl rfl <| F0 rfl (by assumption) rfl rfl <| A5 rfl rfl rfl <| xN [4,5,6,7,8] [4,5] rfl <| A4 <| A4 <| A0 <| A3 rfl rfl <| xN [4,5,6,7,8,31] [4,5] rfl ?_
   refine A9 rfl ?_ ?_ <;> intro hc <;> try simp only [SL] at hc
   ·obtain ⟨hng, hup⟩ := d3v (p := (ps.getD i default)) (by assumption) (by omega)
    have hul := b8a (ps.getD i default)
    rw [hup] at hul
    refine A0 <| A3 rfl rfl <| V2 rfl rfl J5 (H6 (n := 1) rfl) (by omega) <| A5 rfl rfl rfl <| xN [4,5,6,7,8] [4,5] rfl <| A4 <| A0 <| A5 rfl rfl rfl <| xN [4,5,6,7,8,9] [4,5] rfl <| A4 <| A4 <| A0 <| A5 rfl rfl rfl <| xN [4,5,6,7,8,9,10] [4,5] rfl <| C6 ?_
    have hup0 := hup
    refine J6 (β := Nat × Int) [(.t 4, _), (.t 5, _), (.t 6, _), (.t 7, _), (.t 8, _), (.h 4, _), (.h 5, _)] (fun (z : Nat × Int) => match z with | (k, a) => [(.t 10, iV k), (.t 9, iV a)]) (fun (z : Nat × Int) => match z with | (k, a) => k ≤ (unS (ps.getD i default)).length ∧ 0 ≤ a ∧ W9 0 ((unS (ps.getD i default)).take k) = some a.toNat) (fun (z : Nat × Int) => match z with | (k, a) => (unS (ps.getD i default)).length - k) (0, 0) ⟨rfl, rfl, rfl, rfl, rfl, rfl, rfl, rfl, rfl, trivial⟩ ⟨Nat.zero_le _, by decide, rfl⟩ ?_
    intro z hb
    obtain ⟨k, a⟩ := z
    try dsimp only at hb
    obtain ⟨hk1, ha0, hdg⟩ := hb
    have hab := b1b (by decide) hdg
    rw [hup] at hk1 hdg
    refine A4 <| A4 <| A0 <| A3 rfl rfl <| A3 rfl rfl <| a2c rfl rfl <| I0 rfl rfl <| xN [4,5,6,7,8,9,10,37] [4,5] rfl ?_
    refine A9 rfl ?_ ?_ <;> intro hc <;> try simp only [SL] at hc
    ·refine B5 <| A4 <| C6 <| A4 <| A4 <| A0 <| A3 rfl rfl <| A3 rfl rfl <| P7 rfl rfl rfl (by omega) <| I0 rfl rfl <| A3 rfl rfl ?_
     refine C8 rfl rfl ?_ ?_ <;> intro hg0 <;> have hg := hg0 <;> try simp only [SG] at hg
     ·refine A3 rfl rfl <| gT rfl rfl <| A3 rfl rfl <| gT rfl rfl <| P7 rfl rfl rfl (by omega) <| gT rfl rfl <| a0c rfl rfl <| D6 rfl (by assumption) rfl rfl <| A3 rfl rfl ?_
      refine C8 rfl rfl ?_ ?_ <;> intro hg0 <;> have hg := hg0 <;> try simp only [SG] at hg
      ·refine A3 rfl rfl <| gT rfl rfl <| a0c rfl rfl <| D6 rfl (by assumption) rfl rfl <| xN [4,5,6,7,8,9,10,53] [4,5] rfl ?_
       refine A9 rfl ?_ ?_ <;> intro hc <;> try simp only [SL] at hc
       ·refine A4 <| A0 ?_
        (refine C2 rfl rfl (fun _ => rfl) ?_; intro g2)
        refine A5 rfl rfl rfl <| xN [2,3] [2] rfl <| B6 <| D3 (F9 rfl rfl (by simp) (by rfl) (D7 rfl rfl (E7 C5))) ?_
        rw [rdL, ← hps, M5 (show i < ps.length by omega) (X5 (by rw [hup]; exact U2 (by omega) hdg (by omega)))]
        rfl
       refine B5 <| A0 <| A3 rfl rfl <| a9n rfl rfl (F4 (by omega)) <| A3 rfl rfl <| A3 rfl rfl <| P7 rfl rfl rfl (by omega) <| a1j rfl rfl (d3k (by omega)) <| a8l rfl rfl rfl (F4 (by omega)) <| H5 rfl rfl (F4 (by omega)) <| A5 rfl rfl rfl <| xN [4,5,6,7,8,9,10] [4,5] rfl <| A0 <| A3 rfl rfl <| H5 rfl rfl (F4 (by omega)) <| A5 rfl rfl rfl <| xN [4,5,6,7,8,9,10] [4,5] rfl ?_
       refine ⟨(k + 1, _), ?_, (by simp only [hup]; omega), ⟨rfl, rfl, rfl, rfl, rfl, rfl, rfl, rfl, rfl, trivial⟩⟩
       rw [hup]
       have hds := a8r (by omega) hdg (by omega)
       exact ⟨by omega, by omega, hds.trans (congrArg some (by omega))⟩
      refine gF rfl rfl <| F0 rfl (by assumption) rfl rfl <| xN [4,5,6,7,8,9,10,53] [4,5] rfl ?_
      refine A9 rfl (fun hc => ?_) (fun hc => absurd hc (by decide))
      refine A4 <| A0 ?_
      (refine C2 rfl rfl (fun _ => rfl) ?_; intro g2)
      refine A5 rfl rfl rfl <| xN [2,3] [2] rfl <| B6 <| D3 (F9 rfl rfl (by simp) (by rfl) (D7 rfl rfl (E7 C5))) ?_
      rw [rdL, ← hps, M5 (show i < ps.length by omega) (X5 (by rw [hup]; exact U2 (by omega) hdg (by omega)))]
      rfl
     refine gF rfl rfl <| gF rfl rfl <| gF rfl rfl <| F0 rfl (by assumption) rfl rfl <| A3 rfl rfl <| G1 rfl rfl rfl <| G1 rfl rfl rfl <| F0 rfl rfl rfl rfl <| xN [4,5,6,7,8,9,10,53] [4,5] rfl ?_
     refine A9 rfl (fun hc => ?_) (fun hc => absurd hc (by decide))
     refine A4 <| A0 ?_
     (refine C2 rfl rfl (fun _ => rfl) ?_; intro g2)
     refine A5 rfl rfl rfl <| xN [2,3] [2] rfl <| B6 <| D3 (F9 rfl rfl (by simp) (by rfl) (D7 rfl rfl (E7 C5))) ?_
     rw [rdL, ← hps, M5 (show i < ps.length by omega) (X5 (by rw [hup]; exact U2 (by omega) hdg (by omega)))]
     rfl
    have hdU : W9 0 (unS (ps.getD i default)) = some a.toNat := by rw [hup]; rw [List.take_of_length_le (by omega)] at hdg; exact hdg
    refine H1 <| A4 <| A4 <| A0 <| A3 rfl rfl <| xN [4,5,6,7,9,62] [4,5] rfl ?_
    refine A9 rfl (fun hc => ?_) (fun hc => absurd hc (by simp_all))
    refine A0 <| A3 rfl rfl <| d1u rfl (F4 (by omega)) <| A5 rfl rfl rfl <| xN [4,5,6,7,9] [4,5] rfl <| A4 <| A4 <| A0 <| A3 rfl rfl <| a1s rfl rfl <| A3 rfl rfl ?_
    refine C8 rfl rfl ?_ ?_ <;> intro hg0 <;> have hg := hg0 <;> try simp only [SG] at hg
    ·refine A3 rfl rfl <| gT rfl rfl ?_
     have hdl1 := V5 (m := -a) (by omega)
     have hdl2 := V5 (m := a) (by omega)
     apply xC rfl
     ·apply B0
      ·exact B9 rfl
      exact C4
     ·exact a5c (-a) (by omega)
     refine ⟨⟨rfl, rfl, rfl, dT rfl, rfl⟩, .inl rfl, B3, C3 rfl, fun _ => rfl, fun g69 => ?_⟩
     refine gT rfl rfl <| A3 rfl rfl <| gT rfl rfl <| A3 rfl rfl <| gT rfl rfl <| E3 rfl rfl rfl rfl (by omega) (by (simp; done)) rfl <| gT rfl rfl <| S5 rfl rfl (by omega) (fun _ => rfl) (fun _ => rfl) rfl <| gT rfl rfl <| b5u rfl rfl <| D6 rfl (by assumption) rfl rfl ?_
     refine G6 ⟨fun _ => ⟨by (simp only [O9, List.nil_append, List.append_nil, List.map_cons, List.map_nil, List.cons_append]; decide +kernel), by decide +kernel⟩, [(.t 4, _), (.t 5, _), (.t 6, _), (.t 9, _), (.t 75, _), (.h 4, _), (.h 5, _)], ⟨rfl, rfl, rfl, rfl, rfl, rfl, rfl, rfl, rfl, rfl, rfl, rfl, rfl, rfl, trivial⟩, ?_⟩
     refine A9 rfl ?_ ?_ <;> intro hc <;> try simp only [SL] at hc
     ·refine A4 <| A0 ?_
      (refine C2 rfl rfl (fun _ => rfl) ?_; intro g2)
      refine A5 rfl rfl rfl <| xN [2,3] [2] rfl <| B6 <| D3 (F9 rfl rfl (by simp) (by rfl) (D7 rfl rfl (E7 C5))) ?_
      have hno : rdI (ps.getD i default) = none := by exact a9e (m := -a) hdU (by (rw [hng, if_pos rfl]; omega)) (by exact .inr (by assumption))
      rw [rdL, ← hps, M5 (show i < ps.length by omega) hno]
      rfl
     have hri := c2g (m := -a) hdU (by (rw [hng, if_pos rfl]; omega)) (by rw [hup]; assumption) (by assumption)
     refine B5 <| A0 <| A3 rfl rfl <| A3 rfl rfl <| E6 (es := List.map iV [_]) rfl rfl (dT rfl) rfl rfl (fun _ => B1 (A7 fun _ => rfl)) (fun _ => rfl) ?_
     intro g78
     refine H0 rfl rfl rfl rfl (by (simp; done)) (by simp) (by decide) rfl rfl rfl rfl (dT rfl) (fun _ => ⟨rfl, rfl⟩) (by simp only [H7]; (simp only [List.length_nil, List.length_cons, List.length_append, Nat.zero_add, List.length_map]; omega)) (fun _ => rfl) ?_
     intro g79
     (refine B2 rfl rfl (by (simp; done)) rfl (fun _ => (B1 (by exact A7 fun _ => rfl))) (fun _ => rfl) ?_; intro g4)
     refine xN [4,5,6] [4,5] rfl <| A0 <| A3 rfl rfl <| H5 rfl rfl (F4 (by omega)) <| A5 rfl rfl rfl <| xN [4,5,6] [4,5] rfl ?_
     refine ⟨(i + 1, ns ++ [-a], _), ?_, (by simp only; omega), ⟨rfl, rfl, rfl, rfl, rfl, trivial⟩⟩
     exact ⟨by omega, a8u (by omega) hrd hri⟩
    iterate 6 refine gF rfl rfl ?_
    refine F0 rfl (by assumption) rfl rfl ?_
    refine G6 ⟨fun _ => ⟨by decide +kernel, by decide +kernel⟩, [(.t 4, _), (.t 5, _), (.t 6, _), (.t 9, _), (.t 75, _), (.h 4, _), (.h 5, _)], ⟨rfl, rfl, rfl, rfl, rfl, rfl, rfl, rfl, rfl, rfl, rfl, rfl, rfl, rfl, trivial⟩, ?_⟩
    refine A9 rfl (fun hc => ?_) (fun hc => absurd hc (by decide))
    refine A4 <| A0 ?_
    (refine C2 rfl rfl (fun _ => rfl) ?_; intro g2)
    refine A5 rfl rfl rfl <| xN [2,3] [2] rfl <| B6 <| D3 (F9 rfl rfl (by simp) (by rfl) (D7 rfl rfl (E7 C5))) ?_
    have hno : rdI (ps.getD i default) = none := by exact a9e (m := -a) hdU (by (rw [hng, if_pos rfl]; omega)) (by exact .inl (by rw [hup]; assumption))
    rw [rdL, ← hps, M5 (show i < ps.length by omega) hno]
    rfl
   obtain ⟨hng, hup⟩ := d1v (p := (ps.getD i default)) (by exact .inr (by omega))
   have hul := b8a (ps.getD i default)
   rw [hup] at hul
   refine B5 <| A4 <| A0 <| A5 rfl rfl rfl <| xN [4,5,6,7,8,9] [4,5] rfl <| A4 <| A4 <| A0 <| A5 rfl rfl rfl <| xN [4,5,6,7,8,9,10] [4,5] rfl <| C6 ?_
   have hup0 := hup
   refine J6 (β := Nat × Int) [(.t 4, _), (.t 5, _), (.t 6, _), (.t 7, _), (.t 8, _), (.h 4, _), (.h 5, _)] (fun (z : Nat × Int) => match z with | (k, a) => [(.t 10, iV k), (.t 9, iV a)]) (fun (z : Nat × Int) => match z with | (k, a) => k ≤ (unS (ps.getD i default)).length ∧ 0 ≤ a ∧ W9 0 ((unS (ps.getD i default)).take k) = some a.toNat) (fun (z : Nat × Int) => match z with | (k, a) => (unS (ps.getD i default)).length - k) (0, 0) ⟨rfl, rfl, rfl, rfl, rfl, rfl, rfl, rfl, rfl, trivial⟩ ⟨Nat.zero_le _, by decide, rfl⟩ ?_
   intro z hb
   obtain ⟨k, a⟩ := z
   try dsimp only at hb
   obtain ⟨hk1, ha0, hdg⟩ := hb
   have hab := b1b (by decide) hdg
   rw [hup] at hk1 hdg
   refine A4 <| A4 <| A0 <| A3 rfl rfl <| A3 rfl rfl <| a2c rfl rfl <| I0 rfl rfl <| xN [4,5,6,7,8,9,10,37] [4,5] rfl ?_
   refine A9 rfl ?_ ?_ <;> intro hc <;> try simp only [SL] at hc
   ·refine B5 <| A4 <| C6 <| A4 <| A4 <| A0 <| A3 rfl rfl <| A3 rfl rfl <| P7 rfl rfl rfl (by omega) <| I0 rfl rfl <| A3 rfl rfl ?_
    refine C8 rfl rfl ?_ ?_ <;> intro hg0 <;> have hg := hg0 <;> try simp only [SG] at hg
    ·refine A3 rfl rfl <| gT rfl rfl <| A3 rfl rfl <| gT rfl rfl <| P7 rfl rfl rfl (by omega) <| gT rfl rfl <| a0c rfl rfl <| D6 rfl (by assumption) rfl rfl <| A3 rfl rfl ?_
     refine C8 rfl rfl ?_ ?_ <;> intro hg0 <;> have hg := hg0 <;> try simp only [SG] at hg
     ·refine A3 rfl rfl <| gT rfl rfl <| a0c rfl rfl <| D6 rfl (by assumption) rfl rfl <| xN [4,5,6,7,8,9,10,53] [4,5] rfl ?_
      refine A9 rfl ?_ ?_ <;> intro hc <;> try simp only [SL] at hc
      ·refine A4 <| A0 ?_
       (refine C2 rfl rfl (fun _ => rfl) ?_; intro g2)
       refine A5 rfl rfl rfl <| xN [2,3] [2] rfl <| B6 <| D3 (F9 rfl rfl (by simp) (by rfl) (D7 rfl rfl (E7 C5))) ?_
       rw [rdL, ← hps, M5 (show i < ps.length by omega) (X5 (by rw [hup]; exact U2 (by omega) hdg (by omega)))]
       rfl
      refine B5 <| A0 <| A3 rfl rfl <| a9n rfl rfl (F4 (by omega)) <| A3 rfl rfl <| A3 rfl rfl <| P7 rfl rfl rfl (by omega) <| a1j rfl rfl (d3k (by omega)) <| a8l rfl rfl rfl (F4 (by omega)) <| H5 rfl rfl (F4 (by omega)) <| A5 rfl rfl rfl <| xN [4,5,6,7,8,9,10] [4,5] rfl <| A0 <| A3 rfl rfl <| H5 rfl rfl (F4 (by omega)) <| A5 rfl rfl rfl <| xN [4,5,6,7,8,9,10] [4,5] rfl ?_
      refine ⟨(k + 1, _), ?_, (by simp only [hup]; omega), ⟨rfl, rfl, rfl, rfl, rfl, rfl, rfl, rfl, rfl, trivial⟩⟩
      rw [hup]
      have hds := a8r (by omega) hdg (by omega)
      exact ⟨by omega, by omega, hds.trans (congrArg some (by omega))⟩
     refine gF rfl rfl <| F0 rfl (by assumption) rfl rfl <| xN [4,5,6,7,8,9,10,53] [4,5] rfl ?_
     refine A9 rfl (fun hc => ?_) (fun hc => absurd hc (by decide))
     refine A4 <| A0 ?_
     (refine C2 rfl rfl (fun _ => rfl) ?_; intro g2)
     refine A5 rfl rfl rfl <| xN [2,3] [2] rfl <| B6 <| D3 (F9 rfl rfl (by simp) (by rfl) (D7 rfl rfl (E7 C5))) ?_
     rw [rdL, ← hps, M5 (show i < ps.length by omega) (X5 (by rw [hup]; exact U2 (by omega) hdg (by omega)))]
     rfl
    refine gF rfl rfl <| gF rfl rfl <| gF rfl rfl <| F0 rfl (by assumption) rfl rfl <| A3 rfl rfl <| G1 rfl rfl rfl <| G1 rfl rfl rfl <| F0 rfl rfl rfl rfl <| xN [4,5,6,7,8,9,10,53] [4,5] rfl ?_
    refine A9 rfl (fun hc => ?_) (fun hc => absurd hc (by decide))
    refine A4 <| A0 ?_
    (refine C2 rfl rfl (fun _ => rfl) ?_; intro g2)
    refine A5 rfl rfl rfl <| xN [2,3] [2] rfl <| B6 <| D3 (F9 rfl rfl (by simp) (by rfl) (D7 rfl rfl (E7 C5))) ?_
    rw [rdL, ← hps, M5 (show i < ps.length by omega) (X5 (by rw [hup]; exact U2 (by omega) hdg (by omega)))]
    rfl
   have hdU : W9 0 (unS (ps.getD i default)) = some a.toNat := by rw [hup]; rw [List.take_of_length_le (by omega)] at hdg; exact hdg
   refine H1 <| A4 <| A4 <| A0 <| A3 rfl rfl <| xN [4,5,6,7,9,62] [4,5] rfl ?_
   refine A9 rfl (fun hc => absurd hc (by simp_all)) (fun hc => ?_)
   refine B5 <| A4 <| A4 <| A0 <| A3 rfl rfl <| a1s rfl rfl <| A3 rfl rfl ?_
   refine C8 rfl rfl ?_ ?_ <;> intro hg0 <;> have hg := hg0 <;> try simp only [SG] at hg
   ·refine A3 rfl rfl <| gT rfl rfl ?_
    have hdl1 := V5 (m := -a) (by omega)
    have hdl2 := V5 (m := a) (by omega)
    apply xC rfl
    ·apply B0
     ·exact B9 rfl
     exact C4
    ·exact a5c a (by omega)
    refine ⟨⟨rfl, rfl, rfl, dT rfl, rfl⟩, .inl rfl, B3, C3 rfl, fun _ => rfl, fun g69 => ?_⟩
    refine gT rfl rfl <| A3 rfl rfl <| gT rfl rfl <| A3 rfl rfl <| gT rfl rfl <| E3 rfl rfl rfl rfl (by omega) (by (simp; done)) rfl <| gT rfl rfl <| S5 rfl rfl (by omega) (fun _ => rfl) (fun _ => rfl) rfl <| gT rfl rfl <| b5u rfl rfl <| D6 rfl (by assumption) rfl rfl ?_
    refine G6 ⟨fun _ => ⟨by (simp only [O9, List.nil_append, List.append_nil, List.map_cons, List.map_nil, List.cons_append]; decide +kernel), by decide +kernel⟩, [(.t 4, _), (.t 5, _), (.t 6, _), (.t 9, _), (.t 75, _), (.h 4, _), (.h 5, _)], ⟨rfl, rfl, rfl, rfl, rfl, rfl, rfl, rfl, rfl, rfl, rfl, rfl, rfl, rfl, trivial⟩, ?_⟩
    refine A9 rfl ?_ ?_ <;> intro hc <;> try simp only [SL] at hc
    ·refine A4 <| A0 ?_
     (refine C2 rfl rfl (fun _ => rfl) ?_; intro g2)
     refine A5 rfl rfl rfl <| xN [2,3] [2] rfl <| B6 <| D3 (F9 rfl rfl (by simp) (by rfl) (D7 rfl rfl (E7 C5))) ?_
     have hno : rdI (ps.getD i default) = none := by exact a9e (m := a) hdU (by (rw [hng, if_neg (by decide)]; omega)) (by exact .inr (by assumption))
     rw [rdL, ← hps, M5 (show i < ps.length by omega) hno]
     rfl
    have hri := c2g (m := a) hdU (by (rw [hng, if_neg (by decide)]; omega)) (by rw [hup]; assumption) (by assumption)
    refine B5 <| A0 <| A3 rfl rfl <| A3 rfl rfl <| E6 (es := List.map iV [_]) rfl rfl (dT rfl) rfl rfl (fun _ => B1 (A7 fun _ => rfl)) (fun _ => rfl) ?_
    intro g78
    refine H0 rfl rfl rfl rfl (by (simp; done)) (by simp) (by decide) rfl rfl rfl rfl (dT rfl) (fun _ => ⟨rfl, rfl⟩) (by simp only [H7]; (simp only [List.length_nil, List.length_cons, List.length_append, Nat.zero_add, List.length_map]; omega)) (fun _ => rfl) ?_
    intro g79
    (refine B2 rfl rfl (by (simp; done)) rfl (fun _ => (B1 (by exact A7 fun _ => rfl))) (fun _ => rfl) ?_; intro g4)
    refine xN [4,5,6] [4,5] rfl <| A0 <| A3 rfl rfl <| H5 rfl rfl (F4 (by omega)) <| A5 rfl rfl rfl <| xN [4,5,6] [4,5] rfl ?_
    refine ⟨(i + 1, ns ++ [a], _), ?_, (by simp only; omega), ⟨rfl, rfl, rfl, rfl, rfl, trivial⟩⟩
    exact ⟨by omega, a8u (by omega) hrd hri⟩
   iterate 6 refine gF rfl rfl ?_
   refine F0 rfl (by assumption) rfl rfl ?_
   refine G6 ⟨fun _ => ⟨by decide +kernel, by decide +kernel⟩, [(.t 4, _), (.t 5, _), (.t 6, _), (.t 9, _), (.t 75, _), (.h 4, _), (.h 5, _)], ⟨rfl, rfl, rfl, rfl, rfl, rfl, rfl, rfl, rfl, rfl, rfl, rfl, rfl, rfl, trivial⟩, ?_⟩
   refine A9 rfl (fun hc => ?_) (fun hc => absurd hc (by decide))
   refine A4 <| A0 ?_
   (refine C2 rfl rfl (fun _ => rfl) ?_; intro g2)
   refine A5 rfl rfl rfl <| xN [2,3] [2] rfl <| B6 <| D3 (F9 rfl rfl (by simp) (by rfl) (D7 rfl rfl (E7 C5))) ?_
   have hno : rdI (ps.getD i default) = none := by exact a9e (m := a) hdU (by (rw [hng, if_neg (by decide)]; omega)) (by exact .inl (by rw [hup]; assumption))
   rw [rdL, ← hps, M5 (show i < ps.length by omega) hno]
   rfl
  refine gF rfl rfl <| gF rfl rfl <| D6 rfl (by assumption) rfl rfl <| A5 rfl rfl rfl <| xN [4,5,6,7,8] [4,5] rfl <| A4 <| A4 <| A0 <| A3 rfl rfl <| xN [4,5,6,7,8,31] [4,5] rfl ?_
  refine A9 rfl (fun hc => absurd hc (by decide)) (fun hc => ?_)
  refine B5 <| A4 <| A0 <| A5 rfl rfl rfl <| xN [4,5,6,7,8,9] [4,5] rfl <| A4 <| A4 <| A0 <| A5 rfl rfl rfl <| xN [4,5,6,7,8,9,10] [4,5] rfl <| C6 ?_
  (obtain ⟨hng, hup⟩ := d1v (p := (ps.getD i default)) (.inl (by assumption)); have hul := b8a (ps.getD i default); rw [hup] at hul)
  refine J6 (β := Nat × Int) [(.t 4, _), (.t 5, _), (.t 6, _), (.t 7, _), (.t 8, _), (.h 4, _), (.h 5, _)] (fun (z : Nat × Int) => match z with | (k, a) => [(.t 10, iV k), (.t 9, iV a)]) (fun (z : Nat × Int) => match z with | (k, a) => k ≤ (unS (ps.getD i default)).length ∧ 0 ≤ a ∧ W9 0 ((unS (ps.getD i default)).take k) = some a.toNat) (fun (z : Nat × Int) => match z with | (k, a) => (unS (ps.getD i default)).length - k) (0, 0) ⟨rfl, rfl, rfl, rfl, rfl, rfl, rfl, rfl, rfl, trivial⟩ ⟨Nat.zero_le _, by decide, rfl⟩ ?_
  intro z hb
  obtain ⟨k, a⟩ := z
  try dsimp only at hb
  obtain ⟨hk1, ha0, hdg⟩ := hb
  have hab := b1b (by decide) hdg
  rw [hup] at hk1 hdg
  refine A4 <| A4 <| A0 <| A3 rfl rfl <| A3 rfl rfl <| a2c rfl rfl <| I0 rfl rfl <| xN [4,5,6,7,8,9,10,37] [4,5] rfl ?_
  refine A9 rfl ?_ ?_ <;> intro hc <;> try simp only [SL] at hc
  ·refine B5 <| A4 <| C6 <| A4 <| A4 <| A0 <| A3 rfl rfl <| A3 rfl rfl <| P7 rfl rfl rfl (by omega) <| I0 rfl rfl <| A3 rfl rfl ?_
   refine C8 rfl rfl ?_ ?_ <;> intro hg0 <;> have hg := hg0 <;> try simp only [SG] at hg
   ·refine A3 rfl rfl <| gT rfl rfl <| A3 rfl rfl <| gT rfl rfl <| P7 rfl rfl rfl (by omega) <| gT rfl rfl <| a0c rfl rfl <| D6 rfl (by assumption) rfl rfl <| A3 rfl rfl ?_
    refine C8 rfl rfl ?_ ?_ <;> intro hg0 <;> have hg := hg0 <;> try simp only [SG] at hg
    ·refine A3 rfl rfl <| gT rfl rfl <| a0c rfl rfl <| D6 rfl (by assumption) rfl rfl <| xN [4,5,6,7,8,9,10,53] [4,5] rfl ?_
     refine A9 rfl ?_ ?_ <;> intro hc <;> try simp only [SL] at hc
     ·refine A4 <| A0 ?_
      (refine C2 rfl rfl (fun _ => rfl) ?_; intro g2)
      refine A5 rfl rfl rfl <| xN [2,3] [2] rfl <| B6 <| D3 (F9 rfl rfl (by simp) (by rfl) (D7 rfl rfl (E7 C5))) ?_
      rw [rdL, ← hps, M5 (show i < ps.length by omega) (X5 (by rw [hup]; exact U2 (by omega) hdg (by omega)))]
      rfl
     refine B5 <| A0 <| A3 rfl rfl <| a9n rfl rfl (F4 (by omega)) <| A3 rfl rfl <| A3 rfl rfl <| P7 rfl rfl rfl (by omega) <| a1j rfl rfl (d3k (by omega)) <| a8l rfl rfl rfl (F4 (by omega)) <| H5 rfl rfl (F4 (by omega)) <| A5 rfl rfl rfl <| xN [4,5,6,7,8,9,10] [4,5] rfl <| A0 <| A3 rfl rfl <| H5 rfl rfl (F4 (by omega)) <| A5 rfl rfl rfl <| xN [4,5,6,7,8,9,10] [4,5] rfl ?_
     refine ⟨(k + 1, _), ?_, (by simp only [hup]; omega), ⟨rfl, rfl, rfl, rfl, rfl, rfl, rfl, rfl, rfl, trivial⟩⟩
     rw [hup]
     have hds := a8r (by omega) hdg (by omega)
     exact ⟨by omega, by omega, hds.trans (congrArg some (by omega))⟩
    refine gF rfl rfl <| F0 rfl (by assumption) rfl rfl <| xN [4,5,6,7,8,9,10,53] [4,5] rfl ?_
    refine A9 rfl (fun hc => ?_) (fun hc => absurd hc (by decide))
    refine A4 <| A0 ?_
    (refine C2 rfl rfl (fun _ => rfl) ?_; intro g2)
    refine A5 rfl rfl rfl <| xN [2,3] [2] rfl <| B6 <| D3 (F9 rfl rfl (by simp) (by rfl) (D7 rfl rfl (E7 C5))) ?_
    rw [rdL, ← hps, M5 (show i < ps.length by omega) (X5 (by rw [hup]; exact U2 (by omega) hdg (by omega)))]
    rfl
   refine gF rfl rfl <| gF rfl rfl <| gF rfl rfl <| F0 rfl (by assumption) rfl rfl <| A3 rfl rfl <| G1 rfl rfl rfl <| G1 rfl rfl rfl <| F0 rfl rfl rfl rfl <| xN [4,5,6,7,8,9,10,53] [4,5] rfl ?_
   refine A9 rfl (fun hc => ?_) (fun hc => absurd hc (by decide))
   refine A4 <| A0 ?_
   (refine C2 rfl rfl (fun _ => rfl) ?_; intro g2)
   refine A5 rfl rfl rfl <| xN [2,3] [2] rfl <| B6 <| D3 (F9 rfl rfl (by simp) (by rfl) (D7 rfl rfl (E7 C5))) ?_
   rw [rdL, ← hps, M5 (show i < ps.length by omega) (X5 (by rw [hup]; exact U2 (by omega) hdg (by omega)))]
   rfl
  have hdU : W9 0 (unS (ps.getD i default)) = some a.toNat := by rw [hup]; rw [List.take_of_length_le (by omega)] at hdg; exact hdg
  refine H1 <| A4 <| A4 <| A0 <| A3 rfl rfl <| xN [4,5,6,7,9,62] [4,5] rfl ?_
  refine A9 rfl (fun hc => absurd hc (by decide)) (fun hc => ?_)
  refine B5 <| A4 <| A4 <| A0 <| A3 rfl rfl <| a1s rfl rfl <| A3 rfl rfl ?_
  refine C8 rfl rfl ?_ ?_ <;> intro hg0 <;> have hg := hg0 <;> try simp only [SG] at hg
  ·refine A3 rfl rfl <| gT rfl rfl ?_
   have hdl1 := V5 (m := -a) (by omega)
   have hdl2 := V5 (m := a) (by omega)
   apply xC rfl
   ·apply B0
    ·exact B9 rfl
    exact C4
   ·exact a5c a (by omega)
   refine ⟨⟨rfl, rfl, rfl, dT rfl, rfl⟩, .inl rfl, B3, C3 rfl, fun _ => rfl, fun g69 => ?_⟩
   refine gT rfl rfl <| A3 rfl rfl <| gT rfl rfl <| A3 rfl rfl <| gT rfl rfl <| E3 rfl rfl rfl rfl (by omega) (by (simp; done)) rfl <| gT rfl rfl <| S5 rfl rfl (by omega) (fun _ => rfl) (fun _ => rfl) rfl <| gT rfl rfl <| b5u rfl rfl <| D6 rfl (by assumption) rfl rfl ?_
   refine G6 ⟨fun _ => ⟨by (simp only [O9, List.nil_append, List.append_nil, List.map_cons, List.map_nil, List.cons_append]; decide +kernel), by decide +kernel⟩, [(.t 4, _), (.t 5, _), (.t 6, _), (.t 9, _), (.t 75, _), (.h 4, _), (.h 5, _)], ⟨rfl, rfl, rfl, rfl, rfl, rfl, rfl, rfl, rfl, rfl, rfl, rfl, rfl, rfl, trivial⟩, ?_⟩
   refine A9 rfl ?_ ?_ <;> intro hc <;> try simp only [SL] at hc
   ·refine A4 <| A0 ?_
    (refine C2 rfl rfl (fun _ => rfl) ?_; intro g2)
    refine A5 rfl rfl rfl <| xN [2,3] [2] rfl <| B6 <| D3 (F9 rfl rfl (by simp) (by rfl) (D7 rfl rfl (E7 C5))) ?_
    have hno : rdI (ps.getD i default) = none := by exact a9e (m := a) hdU (by (rw [hng, if_neg (by decide)]; omega)) (by exact .inl (by rw [hup]; assumption))
    rw [rdL, ← hps, M5 (show i < ps.length by omega) hno]
    rfl
   have hri := c2g (m := a) hdU (by (rw [hng, if_neg (by decide)]; omega)) (by rw [hup]; assumption) (by assumption)
   refine B5 <| A0 <| A3 rfl rfl <| A3 rfl rfl <| E6 (es := List.map iV [_]) rfl rfl (dT rfl) rfl rfl (fun _ => B1 (A7 fun _ => rfl)) (fun _ => rfl) ?_
   intro g78
   refine H0 rfl rfl rfl rfl (by (simp; done)) (by simp) (by decide) rfl rfl rfl rfl (dT rfl) (fun _ => ⟨rfl, rfl⟩) (by simp only [H7]; (simp only [List.length_nil, List.length_cons, List.length_append, Nat.zero_add, List.length_map]; omega)) (fun _ => rfl) ?_
   intro g79
   (refine B2 rfl rfl (by (simp; done)) rfl (fun _ => (B1 (by exact A7 fun _ => rfl))) (fun _ => rfl) ?_; intro g4)
   refine xN [4,5,6] [4,5] rfl <| A0 <| A3 rfl rfl <| H5 rfl rfl (F4 (by omega)) <| A5 rfl rfl rfl <| xN [4,5,6] [4,5] rfl ?_
   refine ⟨(i + 1, ns ++ [a], _), ?_, (by simp only; omega), ⟨rfl, rfl, rfl, rfl, rfl, trivial⟩⟩
   exact ⟨by omega, a8u (by omega) hrd hri⟩
  iterate 6 refine gF rfl rfl ?_
  refine F0 rfl (by assumption) rfl rfl ?_
  refine G6 ⟨fun _ => ⟨by decide +kernel, by decide +kernel⟩, [(.t 4, _), (.t 5, _), (.t 6, _), (.t 9, _), (.t 75, _), (.h 4, _), (.h 5, _)], ⟨rfl, rfl, rfl, rfl, rfl, rfl, rfl, rfl, rfl, rfl, rfl, rfl, rfl, rfl, trivial⟩, ?_⟩
  refine A9 rfl (fun hc => ?_) (fun hc => absurd hc (by decide))
  refine A4 <| A0 ?_
  (refine C2 rfl rfl (fun _ => rfl) ?_; intro g2)
  refine A5 rfl rfl rfl <| xN [2,3] [2] rfl <| B6 <| D3 (F9 rfl rfl (by simp) (by rfl) (D7 rfl rfl (E7 C5))) ?_
  have hno : rdI (ps.getD i default) = none := by exact a9e (m := a) hdU (by (rw [hng, if_neg (by decide)]; omega)) (by exact .inl (by rw [hup]; assumption))
  rw [rdL, ← hps, M5 (show i < ps.length by omega) hno]
  rfl
 refine H1 <| A4 <| A0 <| A3 rfl rfl ?_
 (refine B2 rfl rfl (by (simp; done)) rfl (fun _ => (B1 (by exact A7 fun _ => rfl))) (fun _ => rfl) ?_; intro g2)
 refine A5 rfl rfl rfl <| xN [2,3] [2] rfl <| B6 <| D3 (F9 rfl rfl (by simp) (by exact A7 fun _ => rfl) (D7 rfl rfl (E7 C5))) ?_
 have hil : i = ps.length := by omega
 rw [hil, List.take_length] at hrd
 rw [rdL, ← hps, hrd]
 rfl

theorem keep_s_readNums : G8 Tryz.f85 = [0, 2, 3, 4, 22, 24, 5, 6] := by kernel_rfl
set_option maxHeartbeats 20000000 in
theorem c2y (s : List UInt8) (hs : s.length ≤ 1048576) : CW (cxT oG) 85 [tV s] = some (.tup [.own 1 ((c0g s).map iV), bV (numsOf s).isSome], []) := by
 refine G9 rfl Tryz.func85 rfl ⟨by kernel_rfl, rfl, dT rfl, dT rfl, by decide⟩ keep_s_readNums <| A4 <| A0 ?_
 (refine C2 rfl rfl (fun _ => rfl) ?_; intro g2)
 refine A5 rfl rfl rfl <| xN [0] [] rfl <| A4 <| A0 <| A3 rfl rfl <| a2c rfl rfl <| A5 rfl rfl rfl <| xN [0,4] [] rfl <| A4 <| A4 <| A0 <| A3 rfl rfl <| I0 rfl rfl <| A3 rfl rfl ?_
 refine C8 rfl rfl ?_ ?_ <;> intro hg0 <;> have hg := hg0 <;> try simp only [SG] at hg
 ·refine A3 rfl rfl <| gT rfl rfl <| P7 (n := 0) rfl rfl rfl (by omega) <| gT rfl rfl <| a5i rfl rfl <| D6 rfl (by assumption) rfl rfl <| A3 rfl rfl ?_
  refine C8 rfl rfl ?_ ?_ <;> intro hg0 <;> have hg := hg0 <;> try simp only [SG] at hg
  ·refine A3 rfl rfl <| gT rfl rfl <| A3 rfl rfl <| gT rfl rfl <| a1j rfl rfl (F4 (by omega)) <| gT rfl rfl ?_
   rw [show ((s.length : Int) - 1) = ((s.length - 1 : Nat) : Int) by omega]
   refine P7 rfl rfl rfl (by omega) <| gT rfl rfl <| a5i rfl rfl <| D6 rfl (by assumption) rfl rfl <| xN [0,4,22] [] rfl ?_
   refine A9 rfl ?_ ?_ <;> intro hc <;> try simp only [SL] at hc
   ·refine A4 <| A0 ?_
    (refine C2 rfl rfl (fun _ => rfl) ?_; intro g2)
    refine A5 rfl rfl rfl <| xN [2,3] [2] rfl <| B6 <| D3 (F9 rfl rfl (by simp) (by rfl) (D7 rfl rfl (E7 C5))) ?_
    obtain ⟨hn1, hn2⟩ := a6e (s := s) (by exact .inr (.inr (by omega)))
    rw [hn1, hn2]
    rfl
   have hin := c5c (s := s) (by omega) (by omega) (by omega)
   refine B5 <| A4 <| A4 <| A0 <| A3 rfl rfl <| N5 rfl rfl <| xN [0,4,24] [] rfl ?_
   refine A9 rfl ?_ ?_ <;> intro hc <;> try simp only [SL] at hc
   ·refine A4 <| A0 <| E6 (es := List.map iV []) rfl rfl (dT rfl) rfl rfl (fun _ => B1 (A7 fun _ => rfl)) (fun _ => rfl) ?_
    intro g25
    (refine B2 rfl rfl (by (simp; done)) rfl (fun _ => (B1 (by exact A7 fun _ => rfl))) (fun _ => rfl) ?_; intro g2)
    refine A5 rfl rfl rfl <| xN [2,3] [2] rfl <| B6 <| D3 (F9 rfl rfl (by simp) (by rfl) (D7 rfl rfl (E7 C5))) ?_
    obtain ⟨hn1, hn2⟩ := hin.1 (by omega)
    rw [hn1, hn2]
    rfl
   refine B5 <| A4 <| A0 <| A3 rfl rfl <| A3 rfl rfl <| a1j rfl rfl (F4 (by omega)) ?_
   rw [show ((s.length : Int) - 1) = ((s.length - 1 : Nat) : Int) by omega]
   have hrl := d1i ((s.drop 1).take (s.length - 1 - 1))
   have hin2 : ((s.drop 1).take (s.length - 1 - 1)).length ≤ s.length - 2 := by simp only [List.length_take, List.length_drop]; omega
   refine V2 rfl rfl (H6 rfl) (H6 (n := 1) rfl) (by omega) ?_
   apply xC rfl
   ·apply B0
    ·exact B9 rfl
    exact C4
   ·exact c2n ((s.drop 1).take (s.length - 1 - 1)) (by omega)
   refine ⟨⟨rfl, rfl, rfl, dT rfl, rfl⟩, .inr ⟨a3n _ _, rfl⟩, B3, H8 (M3 fun _ => I9 rfl M0), fun _ => rfl, fun g31 => ?_⟩
   simp only [List.length_map]
   refine A3 rfl rfl <| B7 rfl rfl rfl <| B7 rfl rfl rfl ?_
   (refine B2 rfl rfl (by (simp; done)) rfl (fun _ => (B1 (by exact A7 fun _ => rfl))) (fun _ => rfl) ?_; intro g5)
   refine A5 rfl rfl rfl <| xN [5,6] [5] rfl <| A4 <| A0 <| A3 rfl rfl <| A3 rfl rfl <| A3 rfl rfl ?_
   refine C8 rfl rfl ?_ ?_ <;> intro hg0 <;> have hg := hg0 <;> try simp only [SG] at hg
   ·refine A3 rfl rfl <| gT rfl rfl ?_
    apply xC rfl
    ·apply B0
     ·exact O5 rfl rfl rfl (by (simp; done)) (fun _ => rfl)
     exact C4
    ·exact b9u ((rdL ((s.drop 1).take (s.length - 1 - 1))).getD []) (by omega)
    refine ⟨⟨rfl, rfl, rfl, dT rfl, rfl⟩, .inr ⟨rfl, rfl⟩, B3, C3 rfl, fun _ => rfl, fun g38 => ?_⟩
    refine F0 rfl (by assumption) rfl rfl ?_
    (refine B2 rfl rfl (by (simp; done)) rfl (fun _ => (B1 (by exact A7 fun _ => rfl))) (fun _ => rfl) ?_; intro g2)
    refine A5 rfl rfl rfl <| xN [2,3] [2] rfl <| B6 <| D3 (F9 rfl rfl (by simp) (by exact A7 fun _ => rfl) (D7 rfl rfl (E7 C5))) ?_
    obtain ⟨hn1, hn2⟩ := hin.2 (by omega)
    rw [hn2, b3k hn1]
    simp_all
    try rfl
   refine gF rfl rfl <| D6 rfl (by assumption) rfl rfl ?_
   (refine B2 rfl rfl (by (simp; done)) rfl (fun _ => (B1 (by exact A7 fun _ => rfl))) (fun _ => rfl) ?_; intro g2)
   refine A5 rfl rfl rfl <| xN [2,3] [2] rfl <| B6 <| D3 (F9 rfl rfl (by simp) (by exact A7 fun _ => rfl) (D7 rfl rfl (E7 C5))) ?_
   obtain ⟨hn1, hn2⟩ := hin.2 (by omega)
   rw [hn2, b3k hn1]
   simp_all
   try rfl
  iterate 4 refine gF rfl rfl ?_
  refine F0 rfl (by assumption) rfl rfl <| xN [0,4,22] [] rfl ?_
  refine A9 rfl (fun hc => ?_) (fun hc => absurd hc (by decide))
  refine A4 <| A0 ?_
  (refine C2 rfl rfl (fun _ => rfl) ?_; intro g2)
  refine A5 rfl rfl rfl <| xN [2,3] [2] rfl <| B6 <| D3 (F9 rfl rfl (by simp) (by rfl) (D7 rfl rfl (E7 C5))) ?_
  obtain ⟨hn1, hn2⟩ := a6e (s := s) (by exact .inr (.inl (by omega)))
  rw [hn1, hn2]
  rfl
 refine gF rfl rfl <| gF rfl rfl <| F0 rfl (by assumption) rfl rfl <| A3 rfl rfl ?_
 iterate 5 refine G1 rfl rfl rfl ?_
 refine F0 rfl rfl rfl rfl <| xN [0,4,22] [] rfl ?_
 refine A9 rfl (fun hc => ?_) (fun hc => absurd hc (by decide))
 refine A4 <| A0 ?_
 (refine C2 rfl rfl (fun _ => rfl) ?_; intro g2)
 refine A5 rfl rfl rfl <| xN [2,3] [2] rfl <| B6 <| D3 (F9 rfl rfl (by simp) (by rfl) (D7 rfl rfl (E7 C5))) ?_
 obtain ⟨hn1, hn2⟩ := a6e (s := s) (by exact .inl (by omega))
 rw [hn1, hn2]
 rfl

theorem keep_s_readTree : G8 Tryz.f102 = [0, 2, 3, 4, 15, 6, 24, 5, 7, 34, 43, 9, 12, 53, 8, 10, 11, 48, 59] := by kernel_rfl
set_option maxHeartbeats 20000000 in
theorem b3f (ws : List W8) (hws : ws.length ≤ 1048600 ∧ ∀ w ∈ ws, w.length ≤ 1048576) : CW (cxT oG) 102 [.list (ws.map tV)] = some (rtR (rdT ws), []) := by
 obtain ⟨kk, hkk⟩ : ∃ kk : Nat, ws.length < kk := ⟨_, Nat.lt_succ_self _⟩
 revert ws
 induction kk with
 | zero => intro ws hws hkk; exact absurd hkk (Nat.not_lt_zero _)
 | succ kk ih =>
  intro ws hws hkk
  refine G9 rfl Tryz.func102 rfl ⟨by kernel_rfl, rfl, dT rfl, dT rfl, by decide⟩ keep_s_readTree <| A4 <| A0 <| G5 rfl (fun _ => C0 rfl) (fun _ => rfl) ?_
  intro g2
  (refine C2 rfl rfl (fun _ => rfl) ?_; intro g3)
  refine A5 rfl rfl rfl <| xN [0,2] [2] rfl <| A4 <| A4 <| A0 <| A3 rfl rfl <| E8 rfl rfl <| N5 rfl rfl <| xN [0,2,15] [2] rfl ?_
  refine A9 rfl ?_ ?_ <;> intro hc <;> try simp only [SL] at hc
  ·have hw0 : ws = [] := List.length_eq_zero_iff.1 (by simpa using hc)
   subst hw0
   refine A4 <| A0 <| I7 (fs := [_, _, _]) rfl rfl rfl rfl rfl <| C7 rfl rfl rfl rfl ⟨by decide, rfl, dT rfl, dT rfl, rfl⟩ rfl (by exact C0 rfl) ?_
   (refine C2 rfl rfl (fun _ => rfl) ?_; intro g3)
   refine A5 rfl rfl rfl <| xN [2,3,4] [2,3] rfl <| B6 <| D3 (I6 rfl rfl rfl rfl (I4 rfl (J2 rfl (J2 rfl M2))) (F9 rfl rfl (by simp) (by rfl) (D7 rfl rfl (E7 C5)))) ?_
   rfl
  obtain ⟨w, ws1, rfl⟩ : ∃ w ws1, ws = w :: ws1 := List.exists_cons_of_ne_nil (fun e => by subst e; simp at hc)
  have hw := hws.2 w (by simp)
  refine B5 <| A4 <| A0 <| A3 rfl rfl <| F8 rfl rfl rfl (fun _ => rfl) (by (change 0 < _; omega)) <| F5 rfl rfl rfl ?_
  apply xC rfl
  ·apply B0
   ·exact B9 rfl
   exact C4
  ·exact c2y w (by omega)
  refine ⟨⟨rfl, rfl, rfl, dT rfl, rfl⟩, .inr ⟨a3n _ _, rfl⟩, B3, H8 (M3 fun _ => I9 rfl M0), fun _ => rfl, fun g21 => ?_⟩
  simp only [List.length_map]
  refine A3 rfl rfl <| B7 rfl rfl rfl <| B7 rfl rfl rfl ?_
  (refine B2 rfl rfl (by (simp; done)) rfl (fun _ => (B1 (by exact A7 fun _ => rfl))) (fun _ => rfl) ?_; intro g5)
  refine A5 rfl rfl rfl <| xN [0,2,5,6] [2,5] rfl <| A4 <| A4 <| A0 <| A3 rfl rfl <| xN [0,2,5,24] [2,5] rfl ?_
  refine A9 rfl ?_ ?_ <;> intro hc <;> try simp only [SL] at hc
  ·obtain ⟨ns, hns⟩ := Option.isSome_iff_exists.1 hc
   have hraw := d1r hns
   refine A4 <| A0 <| A3 rfl rfl <| I7 (fs := [_, _, _]) rfl rfl rfl rfl rfl <| A3 rfl rfl <| N6 rfl rfl rfl (Mv.sized_map fun _ => rfl) J5 (H6 (n := 1) rfl) (by simp) ?_
   rw [show ((List.map tV (w :: ws1)).drop 1).take ((List.map tV (w :: ws1)).length - 1) = ws1.map tV from by rw [List.map_cons, List.drop_succ_cons, List.drop_zero, List.take_of_length_le (by simp)]]
   refine I2 rfl rfl rfl rfl (F7 rfl (a3q (by decide) (F7 rfl K8))) (fun _ => rfl) ⟨by decide, rfl, dT rfl, Nat.le_refl _⟩ (fun _ => rfl) (fun _ => rfl) (fun _ => (by rfl)) ?_
   intro z
   simp only [K5, List.cons_append, List.nil_append]
   refine A5 rfl rfl rfl <| A5 rfl rfl rfl ?_
   refine G6 ⟨fun _ => ⟨by (simp only [O9, List.nil_append, List.append_nil, List.map_cons, List.map_nil, List.cons_append]; decide +kernel), by decide +kernel⟩, [(.t 2, _), (.t 3, _), (.t 4, _), (.h 2, _), (.h 5, _)], ⟨rfl, rfl, rfl, rfl, rfl, rfl, rfl, rfl, rfl, rfl, trivial⟩, ?_⟩
   refine B6 <| D3 (I6 rfl rfl rfl rfl (I4 rfl (a4b rfl rfl (by simp) (fun _ => rfl) (J2 rfl M2))) (D7 rfl rfl (D7 rfl rfl (E7 C5)))) ?_
   rw [b9f hns, hraw]
   rfl
  have hnn : numsOf w = none := by simpa using hc
  refine B5 <| A4 <| A0 <| A3 rfl rfl <| F8 rfl rfl rfl (fun _ => rfl) (by (change 0 < _; omega)) <| F5 rfl rfl rfl ?_
  apply xC rfl
  ·apply B0
   ·exact B9 rfl
   exact C4
  ·exact c5y (bA w)
  refine ⟨⟨rfl, rfl, rfl, dT rfl, rfl⟩, .inl rfl, B3, C3 rfl, fun _ => rfl, fun g32 => ?_⟩
  refine A5 rfl rfl rfl <| xN [0,2,7] [2] rfl <| A4 <| A4 <| A0 <| A3 rfl rfl <| I0 rfl rfl <| xN [0,2,7,34] [2] rfl ?_
  refine A9 rfl ?_ ?_ <;> intro hc <;> try simp only [SL] at hc
  ·refine A4 <| A0 <| I7 (fs := [_, _, _]) rfl rfl rfl rfl rfl <| C7 rfl rfl rfl rfl ⟨by decide, rfl, dT rfl, dT rfl, rfl⟩ rfl (by exact C0 rfl) ?_
   (refine C2 rfl rfl (fun _ => rfl) ?_; intro g3)
   refine A5 rfl rfl rfl <| xN [2,3,4] [2,3] rfl <| B6 <| D3 (I6 rfl rfl rfl rfl (I4 rfl (J2 rfl (J2 rfl M2))) (F9 rfl rfl (by simp) (by rfl) (D7 rfl rfl (E7 C5)))) ?_
   rw [c3x hnn (by omega)]
   rfl
  refine B5 <| A4 <| A0 <| A3 rfl rfl <| F8 rfl rfl rfl (fun _ => rfl) (by (change 0 < _; omega)) <| F5 rfl rfl rfl <| I7 (fs := [_, _, _]) rfl rfl rfl rfl rfl <| G5 rfl (fun _ => C0 rfl) (fun _ => rfl) ?_
  intro g8
  refine C7 rfl rfl rfl rfl ⟨by decide, rfl, dT rfl, dT rfl, rfl⟩ rfl (by exact C0 rfl) <| xN [0,2,7,8] [2,8] rfl <| A4 <| A0 ?_
  rcases b5l (w := bA w) (by omega) with hn | hn | hn
  ·rw [hn]
   refine A3 rfl rfl <| N6 rfl rfl rfl (Mv.sized_map fun _ => rfl) J5 (H6 (n := 1) rfl) (by simp) ?_
   rw [show ((List.map tV (w :: ws1)).drop 1).take ((List.map tV (w :: ws1)).length - 1) = ws1.map tV from by rw [List.map_cons, List.drop_succ_cons, List.drop_zero, List.take_of_length_le (by simp)]]
   refine A5 rfl rfl rfl <| xN [2,7,8,9] [2,8] rfl <| A4 <| C6 <| G2 <| A4 <| A4 <| A0 <| A3 rfl rfl <| a0c rfl rfl <| xN [2,7,8,9,43] [2,8] rfl ?_
   refine A9 rfl (fun hc => absurd hc (by decide)) (fun hc => ?_)
   refine H1 <| A4 <| A0 <| E5 rfl rfl rfl rfl rfl <| A3 rfl rfl <| C7 rfl rfl rfl rfl ⟨by decide, rfl, dT rfl, dT rfl, rfl⟩ rfl (by exact C0 rfl) <| A5 rfl rfl rfl <| A5 rfl rfl rfl <| xN [2,3,4] [2] rfl <| B6 <| D3 (I6 rfl rfl rfl rfl (I4 rfl (J2 rfl (J2 rfl M2))) (D7 rfl rfl (D7 rfl rfl (E7 C5)))) ?_
   rw [c4f hnn hn]
   rfl
  ·rw [hn]
   refine A3 rfl rfl <| N6 rfl rfl rfl (Mv.sized_map fun _ => rfl) J5 (H6 (n := 1) rfl) (by simp) ?_
   rw [show ((List.map tV (w :: ws1)).drop 1).take ((List.map tV (w :: ws1)).length - 1) = ws1.map tV from by rw [List.map_cons, List.drop_succ_cons, List.drop_zero, List.take_of_length_le (by simp)]]
   refine A5 rfl rfl rfl <| xN [2,7,8,9] [2,8] rfl <| A4 <| C6 <| G2 <| A4 <| A4 <| A0 <| A3 rfl rfl <| a0c rfl rfl <| xN [2,7,8,9,43] [2,8] rfl ?_
   refine A9 rfl (fun hc => ?_) (fun hc => absurd hc (by decide))
   refine B5 <| A4 <| C6 <| A4 <| A0 <| A3 rfl rfl ?_
   rcases hr1 : rdT ws1 with _ | ⟨k1, r1⟩
   ·skip
    apply xC rfl
    ·apply B0
     ·exact B9 rfl
     exact C4
    ·exact (by have hi := ih ws1 ⟨by simp only [List.length_cons] at hws; omega, fun x hx => hws.2 x (List.mem_cons_of_mem _ hx)⟩ (by simp only [List.length_cons] at hkk; omega); rw [hr1] at hi; exact hi)
    refine ⟨⟨rfl, rfl, rfl, dT rfl, rfl⟩, .inl rfl, B3, H8 (I9 rfl (M3 fun _ => I9 rfl M0)), fun _ => B4 (B1 rfl) (by rfl), fun g48 => ?_⟩
    refine A3 rfl rfl <| B7 rfl rfl rfl <| B7 rfl rfl rfl <| B7 rfl rfl rfl <| G5 rfl (fun _ => C0 rfl) (fun _ => rfl) ?_
    intro g10
    refine C7 rfl rfl rfl rfl ⟨by decide, rfl, dT rfl, dT rfl, rfl⟩ rfl (by exact C0 rfl) ?_
    (refine B2 rfl rfl (by (simp; done)) rfl (fun _ => (B1 (by rfl))) (fun _ => rfl) ?_; intro g11)
    refine A5 rfl rfl rfl <| xN [2,7,8,10,11,12] [2,8,10] rfl <| A4 <| A4 <| A0 <| A3 rfl rfl <| P6 rfl <| xN [2,7,8,10,11,53] [2,8,10] rfl ?_
    refine A9 rfl (fun hc => ?_) (fun hc => absurd hc (by decide))
    refine A4 <| A0 <| I7 (fs := [_, _, _]) rfl rfl rfl rfl rfl <| C7 rfl rfl rfl rfl ⟨by decide, rfl, dT rfl, dT rfl, rfl⟩ rfl (by exact C0 rfl) ?_
    (refine C2 rfl rfl (fun _ => rfl) ?_; intro g3)
    refine A5 rfl rfl rfl <| xN [2,3,4] [2,3] rfl <| B6 <| D3 (I6 rfl rfl rfl rfl (I4 rfl (J2 rfl (J2 rfl M2))) (F9 rfl rfl (by simp) (by rfl) (D7 rfl rfl (E7 C5)))) ?_
    rw [b7j hnn hn, hr1]
    rfl
   skip
   apply xC rfl
   ·apply B0
    ·exact B9 rfl
    exact C4
   ·exact (by have hi := ih ws1 ⟨by simp only [List.length_cons] at hws; omega, fun x hx => hws.2 x (List.mem_cons_of_mem _ hx)⟩ (by simp only [List.length_cons] at hkk; omega); rw [hr1] at hi; exact hi)
   refine ⟨⟨rfl, rfl, rfl, dT rfl, rfl⟩, .inl rfl, B3, N1 rfl, fun _ => rfl, fun g48 => ?_⟩
   refine A3 rfl rfl <| B7 rfl rfl rfl <| B7 rfl rfl rfl <| B7 rfl rfl rfl <| G5 rfl (fun _ => C0 rfl) (fun _ => rfl) ?_
   intro g10
   refine C7 rfl rfl rfl rfl ⟨by decide, rfl, dT rfl, dT rfl, rfl⟩ rfl (by exact C0 rfl) <| A5 rfl rfl rfl <| A5 rfl rfl rfl <| xN [2,7,8,10,11,12] [2,8,10] rfl <| A4 <| A4 <| A0 <| A3 rfl rfl <| P6 rfl <| xN [2,7,8,10,11,53] [2,8,10] rfl ?_
   refine A9 rfl (fun hc => absurd hc (by decide)) (fun hc => ?_)
   refine B5 <| A4 <| A0 <| A8 rfl rfl (dT rfl) rfl rfl <| B8 rfl rfl rfl rfl rfl rfl <| E5 rfl rfl rfl rfl rfl <| a2h (es := List.map trV [_]) rfl rfl (dT rfl) rfl rfl (fun _ => B1 (A7 fun _ => rfl)) (fun _ => rfl) ?_
   intro g58
   refine R7 rfl rfl rfl (by simp) (by decide) rfl rfl rfl (dT rfl) (fun _ => ⟨rfl, rfl⟩) (by simp only [H7]; (simp only [List.length_nil, List.length_cons, List.length_append, Nat.zero_add, List.length_map]; omega)) (fun _ => rfl) ?_
   intro g59
   refine A8 rfl rfl (dT rfl) rfl rfl <| Q6 rfl rfl rfl rfl rfl (Nat.le_refl _) rfl <| xN [2,7,8,11] [2,8,1000059] rfl <| A0 <| A3 rfl rfl <| A5 rfl rfl rfl <| xN [2,7,8,9] [2,8,1000059] rfl <| A0 <| A3 rfl rfl <| a1j rfl rfl (F4 (by omega)) <| A5 rfl rfl rfl <| xN [2,7,8,9] [2,8,1000059] rfl <| G2 <| A4 <| A4 <| A0 <| A3 rfl rfl <| a0c rfl rfl <| xN [2,7,8,9,43] [2,8,1000059] rfl ?_
   refine A9 rfl (fun hc => absurd hc (by decide)) (fun hc => ?_)
   refine H1 <| A4 <| A0 <| E5 rfl rfl rfl rfl rfl <| A3 rfl rfl <| I2 rfl rfl rfl rfl (F7 rfl (F7 rfl (V8 (by decide) (by decide) rfl (by simp) fun _ => K8))) (fun _ => rfl) ⟨by decide, rfl, dT rfl, Nat.le_refl _⟩ (fun _ => rfl) (fun _ => rfl) (fun _ => B4 (by rfl) (B4 (B1 (A7 fun _ => rfl)) (by rfl))) ?_
   intro z
   simp only [K5, List.cons_append, List.nil_append]
   refine A5 rfl rfl rfl <| A5 rfl rfl rfl <| xN [2,3,4] [2,300002] rfl <| B6 <| D3 (I6 rfl rfl rfl rfl (I4 rfl (J2 rfl (a4b rfl rfl (by simp) (fun _ => rfl) M2))) (D7 rfl rfl (D7 rfl rfl (E7 C5)))) ?_
   rw [b7j hnn hn, hr1]
   rfl
  rw [hn]
  refine A3 rfl rfl <| N6 rfl rfl rfl (Mv.sized_map fun _ => rfl) J5 (H6 (n := 1) rfl) (by simp) ?_
  rw [show ((List.map tV (w :: ws1)).drop 1).take ((List.map tV (w :: ws1)).length - 1) = ws1.map tV from by rw [List.map_cons, List.drop_succ_cons, List.drop_zero, List.take_of_length_le (by simp)]]
  refine A5 rfl rfl rfl <| xN [2,7,8,9] [2,8] rfl <| A4 <| C6 <| G2 <| A4 <| A4 <| A0 <| A3 rfl rfl <| a0c rfl rfl <| xN [2,7,8,9,43] [2,8] rfl ?_
  refine A9 rfl (fun hc => ?_) (fun hc => absurd hc (by decide))
  refine B5 <| A4 <| C6 <| A4 <| A0 <| A3 rfl rfl ?_
  rcases hr1 : rdT ws1 with _ | ⟨k1, r1⟩
  ·skip
   apply xC rfl
   ·apply B0
    ·exact B9 rfl
    exact C4
   ·exact (by have hi := ih ws1 ⟨by simp only [List.length_cons] at hws; omega, fun x hx => hws.2 x (List.mem_cons_of_mem _ hx)⟩ (by simp only [List.length_cons] at hkk; omega); rw [hr1] at hi; exact hi)
   refine ⟨⟨rfl, rfl, rfl, dT rfl, rfl⟩, .inl rfl, B3, H8 (I9 rfl (M3 fun _ => I9 rfl M0)), fun _ => B4 (B1 rfl) (by rfl), fun g48 => ?_⟩
   refine A3 rfl rfl <| B7 rfl rfl rfl <| B7 rfl rfl rfl <| B7 rfl rfl rfl <| G5 rfl (fun _ => C0 rfl) (fun _ => rfl) ?_
   intro g10
   refine C7 rfl rfl rfl rfl ⟨by decide, rfl, dT rfl, dT rfl, rfl⟩ rfl (by exact C0 rfl) ?_
   (refine B2 rfl rfl (by (simp; done)) rfl (fun _ => (B1 (by rfl))) (fun _ => rfl) ?_; intro g11)
   refine A5 rfl rfl rfl <| xN [2,7,8,10,11,12] [2,8,10] rfl <| A4 <| A4 <| A0 <| A3 rfl rfl <| P6 rfl <| xN [2,7,8,10,11,53] [2,8,10] rfl ?_
   refine A9 rfl (fun hc => ?_) (fun hc => absurd hc (by decide))
   refine A4 <| A0 <| I7 (fs := [_, _, _]) rfl rfl rfl rfl rfl <| C7 rfl rfl rfl rfl ⟨by decide, rfl, dT rfl, dT rfl, rfl⟩ rfl (by exact C0 rfl) ?_
   (refine C2 rfl rfl (fun _ => rfl) ?_; intro g3)
   refine A5 rfl rfl rfl <| xN [2,3,4] [2,3] rfl <| B6 <| D3 (I6 rfl rfl rfl rfl (I4 rfl (J2 rfl (J2 rfl M2))) (F9 rfl rfl (by simp) (by rfl) (D7 rfl rfl (E7 C5)))) ?_
   rw [a6j hnn hn, hr1]
   rfl
  skip
  apply xC rfl
  ·apply B0
   ·exact B9 rfl
   exact C4
  ·exact (by have hi := ih ws1 ⟨by simp only [List.length_cons] at hws; omega, fun x hx => hws.2 x (List.mem_cons_of_mem _ hx)⟩ (by simp only [List.length_cons] at hkk; omega); rw [hr1] at hi; exact hi)
  refine ⟨⟨rfl, rfl, rfl, dT rfl, rfl⟩, .inl rfl, B3, N1 rfl, fun _ => rfl, fun g48 => ?_⟩
  refine A3 rfl rfl <| B7 rfl rfl rfl <| B7 rfl rfl rfl <| B7 rfl rfl rfl <| G5 rfl (fun _ => C0 rfl) (fun _ => rfl) ?_
  intro g10
  refine C7 rfl rfl rfl rfl ⟨by decide, rfl, dT rfl, dT rfl, rfl⟩ rfl (by exact C0 rfl) <| A5 rfl rfl rfl <| A5 rfl rfl rfl <| xN [2,7,8,10,11,12] [2,8,10] rfl <| A4 <| A4 <| A0 <| A3 rfl rfl <| P6 rfl <| xN [2,7,8,10,11,53] [2,8,10] rfl ?_
  refine A9 rfl (fun hc => absurd hc (by decide)) (fun hc => ?_)
  refine B5 <| A4 <| A0 <| A8 rfl rfl (dT rfl) rfl rfl <| B8 rfl rfl rfl rfl rfl rfl <| E5 rfl rfl rfl rfl rfl <| a2h (es := List.map trV [_]) rfl rfl (dT rfl) rfl rfl (fun _ => B1 (A7 fun _ => rfl)) (fun _ => rfl) ?_
  intro g58
  refine R7 rfl rfl rfl (by simp) (by decide) rfl rfl rfl (dT rfl) (fun _ => ⟨rfl, rfl⟩) (by simp only [H7]; (simp only [List.length_nil, List.length_cons, List.length_append, Nat.zero_add, List.length_map]; omega)) (fun _ => rfl) ?_
  intro g59
  refine A8 rfl rfl (dT rfl) rfl rfl <| Q6 rfl rfl rfl rfl rfl (Nat.le_refl _) rfl <| xN [2,7,8,11] [2,8,1000059] rfl <| A0 <| A3 rfl rfl <| A5 rfl rfl rfl <| xN [2,7,8,9] [2,8,1000059] rfl <| A0 <| A3 rfl rfl <| a1j rfl rfl (F4 (by omega)) <| A5 rfl rfl rfl <| xN [2,7,8,9] [2,8,1000059] rfl <| G2 <| A4 <| A4 <| A0 <| A3 rfl rfl <| a0c rfl rfl <| xN [2,7,8,9,43] [2,8,1000059] rfl ?_
  refine A9 rfl (fun hc => ?_) (fun hc => absurd hc (by decide))
  refine B5 <| A4 <| C6 <| A4 <| A0 <| A3 rfl rfl ?_
  rcases hr2 : rdT r1 with _ | ⟨k2, r2⟩
  ·skip
   apply xC rfl
   ·apply B0
    ·exact B9 rfl
    exact C4
   ·exact (by have hi := ih r1 ⟨by have := Z7 hr1; simp only [List.length_cons] at hws; omega, fun x hx => hws.2 x (List.mem_cons_of_mem _ (b1f hr1 x hx))⟩ (by have := Z7 hr1; simp only [List.length_cons] at hkk; omega); rw [hr2] at hi; exact hi)
   refine ⟨⟨rfl, rfl, rfl, dT rfl, rfl⟩, .inl rfl, B3, H8 (I9 rfl (M3 fun _ => I9 rfl M0)), fun _ => B4 (B1 rfl) (by rfl), fun g48 => ?_⟩
   refine A3 rfl rfl <| B7 rfl rfl rfl <| B7 rfl rfl rfl <| B7 rfl rfl rfl <| G5 rfl (fun _ => C0 rfl) (fun _ => rfl) ?_
   intro g10
   refine C7 rfl rfl rfl rfl ⟨by decide, rfl, dT rfl, dT rfl, rfl⟩ rfl (by exact C0 rfl) ?_
   (refine B2 rfl rfl (by (simp; done)) rfl (fun _ => (B1 (by rfl))) (fun _ => rfl) ?_; intro g11)
   refine A5 rfl rfl rfl <| xN [2,7,8,10,11,12] [2,8,1000059,10] rfl <| A4 <| A4 <| A0 <| A3 rfl rfl <| P6 rfl <| xN [2,7,8,10,11,53] [2,8,1000059,10] rfl ?_
   refine A9 rfl (fun hc => ?_) (fun hc => absurd hc (by decide))
   refine A4 <| A0 <| I7 (fs := [_, _, _]) rfl rfl rfl rfl rfl <| C7 rfl rfl rfl rfl ⟨by decide, rfl, dT rfl, dT rfl, rfl⟩ rfl (by exact C0 rfl) ?_
   (refine C2 rfl rfl (fun _ => rfl) ?_; intro g3)
   refine A5 rfl rfl rfl <| xN [2,3,4] [2,3] rfl <| B6 <| D3 (I6 rfl rfl rfl rfl (I4 rfl (J2 rfl (J2 rfl M2))) (F9 rfl rfl (by simp) (by rfl) (D7 rfl rfl (E7 C5)))) ?_
   rw [a6j hnn hn, hr1, Option.bind_some, hr2]
   rfl
  skip
  apply xC rfl
  ·apply B0
   ·exact B9 rfl
   exact C4
  ·exact (by have hi := ih r1 ⟨by have := Z7 hr1; simp only [List.length_cons] at hws; omega, fun x hx => hws.2 x (List.mem_cons_of_mem _ (b1f hr1 x hx))⟩ (by have := Z7 hr1; simp only [List.length_cons] at hkk; omega); rw [hr2] at hi; exact hi)
  refine ⟨⟨rfl, rfl, rfl, dT rfl, rfl⟩, .inl rfl, B3, N1 rfl, fun _ => rfl, fun g48 => ?_⟩
  refine A3 rfl rfl <| B7 rfl rfl rfl <| B7 rfl rfl rfl <| B7 rfl rfl rfl <| G5 rfl (fun _ => C0 rfl) (fun _ => rfl) ?_
  intro g10
  refine C7 rfl rfl rfl rfl ⟨by decide, rfl, dT rfl, dT rfl, rfl⟩ rfl (by exact C0 rfl) <| A5 rfl rfl rfl <| A5 rfl rfl rfl <| xN [2,7,8,10,11,12] [2,8,1000059,10] rfl <| A4 <| A4 <| A0 <| A3 rfl rfl <| P6 rfl <| xN [2,7,8,10,11,53] [2,8,1000059,10] rfl ?_
  refine A9 rfl (fun hc => absurd hc (by decide)) (fun hc => ?_)
  refine B5 <| A4 <| A0 <| A8 rfl rfl (dT rfl) rfl rfl <| B8 rfl rfl rfl rfl rfl rfl <| E5 rfl rfl rfl rfl rfl <| a2h (es := List.map trV [_]) rfl rfl (dT rfl) rfl rfl (fun _ => B1 (A7 fun _ => rfl)) (fun _ => rfl) ?_
  intro g58
  refine H0 rfl rfl rfl rfl (by (simp; done)) (by simp) (by decide) rfl rfl rfl rfl (dT rfl) (fun _ => ⟨rfl, rfl⟩) (by simp only [H7]; (simp only [List.length_nil, List.length_cons, List.length_append, Nat.zero_add, List.length_map]; omega)) (fun _ => rfl) ?_
  intro g59
  refine A8 rfl rfl (dT rfl) rfl rfl <| Q6 rfl rfl rfl rfl rfl (Nat.le_refl _) rfl <| xN [2,7,8,11] [2,8,1000059] rfl <| A0 <| A3 rfl rfl <| A5 rfl rfl rfl <| xN [2,7,8,9] [2,8,1000059] rfl <| A0 <| A3 rfl rfl <| a1j rfl rfl (F4 (by omega)) <| A5 rfl rfl rfl <| xN [2,7,8,9] [2,8,1000059] rfl <| G2 <| A4 <| A4 <| A0 <| A3 rfl rfl <| a0c rfl rfl <| xN [2,7,8,9,43] [2,8,1000059] rfl ?_
  refine A9 rfl (fun hc => absurd hc (by decide)) (fun hc => ?_)
  refine H1 <| A4 <| A0 <| E5 rfl rfl rfl rfl rfl <| A3 rfl rfl <| I2 rfl rfl rfl rfl (F7 rfl (F7 rfl (V8 (by decide) (by decide) rfl (by simp) fun _ => K8))) (fun _ => rfl) ⟨by decide, rfl, dT rfl, Nat.le_refl _⟩ (fun _ => rfl) (fun _ => rfl) (fun _ => B4 (by rfl) (B4 (B1 (A7 fun _ => rfl)) (by rfl))) ?_
  intro z
  simp only [K5, List.cons_append, List.nil_append]
  refine A5 rfl rfl rfl <| A5 rfl rfl rfl <| xN [2,3,4] [2,300002] rfl <| B6 <| D3 (I6 rfl rfl rfl rfl (I4 rfl (J2 rfl (a4b rfl rfl (by simp) (fun _ => rfl) M2))) (D7 rfl rfl (D7 rfl rfl (E7 C5)))) ?_
  rw [a6j hnn hn, hr1, Option.bind_some, hr2]
  rfl

theorem keep_s_readPlan : G8 Tryz.f60 = [0, 2, 3, 4, 17, 6, 7, 5, 21] := by kernel_rfl
set_option maxHeartbeats 20000000 in
theorem c3n (s : List UInt8) (hs : s.length ≤ 1048576) : CW (cxT oG) 60 [tV s] = some (.tup [trV (rpT s), bV (rdPlan s).isSome], []) := by
 obtain ⟨ws, hws⟩ : ∃ ws, ws = splitB 32 s := ⟨_, rfl⟩
 have hwl := U9 32 s
 have hwp := a0d 32 s
 rw [← hws] at hwl hwp
 refine G9 rfl Tryz.func60 rfl ⟨by kernel_rfl, rfl, dT rfl, dT rfl, by decide⟩ keep_s_readPlan <| A4 <| A0 <| G5 rfl (fun _ => C0 rfl) (fun _ => rfl) ?_
 intro g2
 refine A5 rfl rfl rfl <| xN [0,2] [2] rfl <| A4 <| A0 <| A3 rfl rfl ?_
 apply xC rfl
 ·apply B0
  ·exact B9 rfl
  apply B0
  ·exact B9 rfl
  exact C4
 ·exact b5h s (by omega) 32
 refine ⟨⟨rfl, rfl, rfl, dT rfl, rfl⟩, .inl rfl, B3, L8, fun _ => rfl, fun g9 => ?_⟩
 rw [← hws]
 try simp only [List.length_map]
 (refine B2 rfl rfl (by (simp; done)) rfl (fun _ => (B1 (by exact A7 fun _ => rfl))) (fun _ => rfl) ?_; intro g4)
 refine xN [0,2,4] [2,4] rfl <| A4 <| A4 <| A0 <| A3 rfl rfl <| a2c rfl rfl <| a0c rfl rfl <| A3 rfl rfl ?_
 refine C8 rfl rfl ?_ ?_ <;> intro hg0 <;> have hg := hg0 <;> try simp only [SG] at hg
 ·refine A3 rfl rfl <| gT rfl rfl <| I1 rfl rfl <| gT rfl rfl <| a0c rfl rfl <| D6 rfl (by assumption) rfl rfl <| xN [2,4,17] [2,4] rfl ?_
  refine A9 rfl ?_ ?_ <;> intro hc <;> try simp only [SL] at hc
  ·refine A4 <| A0 <| I7 (fs := [_, _, _]) rfl rfl rfl rfl rfl <| C7 rfl rfl rfl rfl ⟨by decide, rfl, dT rfl, dT rfl, rfl⟩ rfl (by exact C0 rfl) <| A5 rfl rfl rfl <| xN [2,3] [2] rfl <| B6 <| D3 (I6 rfl rfl rfl rfl (I4 rfl (J2 rfl (J2 rfl M2))) (D7 rfl rfl (E7 C5))) ?_
   obtain ⟨h1, h2⟩ := b2n (s := s) (by rw [hws] at *; omega)
   rw [h1, h2]
   rfl
  have hin := c5l hws (by omega)
  refine B5 <| A4 <| A0 <| A3 rfl rfl ?_
  rcases hr : rdT ws with _ | ⟨t, r⟩
  ·skip
   apply xC rfl
   ·apply B0
    ·exact J9 rfl rfl (by (simp; done)) (fun _ => rfl)
    exact C4
   ·exact (by have hi := b3f (oG := oG) ws ⟨by omega, fun w hw => by have := hwp w hw; omega⟩; rw [hr] at hi; exact hi)
   refine ⟨⟨rfl, rfl, rfl, dT rfl, rfl⟩, .inl rfl, B3, H8 (I9 rfl (M3 fun _ => I9 rfl M0)), fun _ => B4 (a3d (A7 fun _ => rfl) (by decide)) (by rfl), fun g21 => ?_⟩
   refine A3 rfl rfl <| B7 rfl rfl rfl <| B7 rfl rfl rfl <| B7 rfl rfl rfl <| G5 rfl (fun _ => C0 rfl) (fun _ => rfl) ?_
   intro g5
   refine C7 rfl rfl rfl rfl ⟨by decide, rfl, dT rfl, dT rfl, rfl⟩ rfl (by exact C0 rfl) ?_
   (refine B2 rfl rfl (by (simp; done)) rfl (fun _ => (B1 (by rfl))) (fun _ => rfl) ?_; intro g6)
   refine A5 rfl rfl rfl <| xN [2,5,6,7] [2,5] rfl <| A4 <| A0 <| E5 rfl rfl rfl rfl rfl <| A3 rfl rfl <| A3 rfl rfl <| G1 rfl rfl rfl <| G1 rfl rfl rfl <| G1 rfl rfl rfl <| D6 rfl rfl rfl rfl <| C7 rfl rfl rfl rfl ⟨by decide, rfl, dT rfl, dT rfl, rfl⟩ rfl (by exact C0 rfl) <| A5 rfl rfl rfl <| xN [2,3] [2] rfl <| B6 <| D3 (I6 rfl rfl rfl rfl (I4 rfl (I4 rfl (I4 rfl M2))) (D7 rfl rfl (E7 C5))) ?_
   obtain ⟨h1, h2⟩ := hin.1 hr
   rw [h1, h2]
   rfl
  skip
  apply xC rfl
  ·apply B0
   ·exact J9 rfl rfl (by (simp; done)) (fun _ => rfl)
   exact C4
  ·exact (by have hi := b3f (oG := oG) ws ⟨by omega, fun w hw => by have := hwp w hw; omega⟩; rw [hr] at hi; exact hi)
  refine ⟨⟨rfl, rfl, rfl, dT rfl, rfl⟩, .inl rfl, B3, N1 rfl, fun _ => B4 (a3d (A7 fun _ => rfl) (by decide)) (by rfl), fun g21 => ?_⟩
  refine A3 rfl rfl <| B7 rfl rfl rfl <| B7 rfl rfl rfl <| B7 rfl rfl rfl <| G5 rfl (fun _ => C0 rfl) (fun _ => rfl) ?_
  intro g5
  refine C7 rfl rfl rfl rfl ⟨by decide, rfl, dT rfl, dT rfl, rfl⟩ rfl (by exact C0 rfl) <| A5 rfl rfl rfl <| A5 rfl rfl rfl <| xN [2,5,6,7] [2,5] rfl <| A4 <| A0 <| E5 rfl rfl rfl rfl rfl <| A3 rfl rfl <| A3 rfl rfl <| Q0 rfl rfl rfl <| A3 rfl rfl <| Q0 rfl rfl rfl <| E8 rfl rfl <| Q0 rfl rfl rfl <| N5 rfl rfl <| F0 rfl rfl rfl rfl <| C7 rfl rfl rfl rfl ⟨by decide, rfl, dT rfl, dT rfl, rfl⟩ rfl (by exact C0 rfl) <| A5 rfl rfl rfl <| xN [2,3] [2] rfl <| B6 <| D3 (I6 rfl rfl rfl rfl (I4 rfl (I4 rfl (I4 rfl M2))) (D7 rfl rfl (E7 C5))) ?_
  obtain ⟨h1, h2⟩ := hin.2 t r hr
  rw [h1, h2]
  rfl
 refine gF rfl rfl <| gF rfl rfl <| F0 rfl (by assumption) rfl rfl <| xN [2,4,17] [2,4] rfl ?_
 refine A9 rfl (fun hc => ?_) (fun hc => absurd hc (by decide))
 refine A4 <| A0 <| I7 (fs := [_, _, _]) rfl rfl rfl rfl rfl <| C7 rfl rfl rfl rfl ⟨by decide, rfl, dT rfl, dT rfl, rfl⟩ rfl (by exact C0 rfl) <| A5 rfl rfl rfl <| xN [2,3] [2] rfl <| B6 <| D3 (I6 rfl rfl rfl rfl (I4 rfl (J2 rfl (J2 rfl M2))) (D7 rfl rfl (E7 C5))) ?_
 obtain ⟨h1, h2⟩ := b2n (s := s) (by rw [hws] at *; omega)
 rw [h1, h2]
 rfl

theorem keep_s_numbers : G8 Tryz.f143 = [0, 2, 8, 7, 9, 6, 5, 3] := by kernel_rfl
set_option maxHeartbeats 20000000 in
theorem c6y (ns : List Int) (hl : ns.length ≤ 1000000) (hnb : ∀ n ∈ ns, -1000000 ≤ n ∧ n ≤ 1000000) : CW (cxT oG) 143 [L ns] = some (tV (P9 ns), []) := by
 have hg := fun (i : Nat) (h : i < ns.length) => hnb _ (a5o h)
 have hll := a2w (ns := ns) hnb
 refine G9 rfl Tryz.func143 rfl ⟨by kernel_rfl, rfl, dT rfl, dT rfl, by decide⟩ keep_s_numbers <| A4 <| A0 <| A5 rfl rfl rfl <| xN [0] [] rfl <| A4 <| A0 ?_
 (refine C2 rfl rfl (fun _ => rfl) ?_; intro g3)
 refine xN [0,3] [3] rfl <| A4 <| A4 <| A0 <| A3 rfl rfl <| E8 rfl rfl <| A3 rfl rfl <| xN [3,6,7,8] [3] rfl <| C6 <| J6 (β := Nat × List (List UInt8) × Nat) [(.t 6, _), (.t 7, _)] (fun (z : Nat × List (List UInt8) × Nat) => match z with | (i, ps, g) => [(.t 8, iV i), (.t 3, .sl 3 g none 0 ps.length), (.h 3, .obj g 0 1 (ps.map tV))]) (fun (z : Nat × List (List UInt8) × Nat) => match z with | (i, ps, g) => i ≤ ns.length ∧ ps = (ns.take i).map dec) (fun (z : Nat × List (List UInt8) × Nat) => match z with | (i, ps, g) => ns.length - i) (0, [], _) ⟨rfl, rfl, rfl, rfl, rfl, trivial⟩ ⟨Nat.zero_le _, rfl⟩ ?_
 intro z hb
 obtain ⟨i, ps, g⟩ := z
 try dsimp only at hb
 obtain ⟨hi1, hps⟩ := hb
 have hpl : ps.length = i := by rw [hps]; simp; omega
 refine A4 <| A0 <| I0 rfl rfl <| xN [3,6,7,8,9] [3] rfl <| A4 ?_
 refine A9 rfl ?_ ?_ <;> intro hc <;> try simp only [SL] at hc
 ·refine B5 <| A4 <| C6 <| A4 <| A0 <| F8 rfl rfl rfl (fun _ => rfl) (by omega) <| F5 rfl rfl rfl <| A5 rfl rfl rfl <| xN [3,5,6,7,8] [3] rfl <| A0 <| A3 rfl rfl <| A3 rfl rfl ?_
  have hgi := hg i (by omega)
  apply xC rfl
  ·apply B0
   ·exact B9 rfl
   exact C4
  ·exact d3a (ns.getD i default) (by omega)
  refine ⟨⟨rfl, rfl, rfl, dT rfl, rfl⟩, .inl rfl, B3, C3 rfl, fun _ => rfl, fun g14 => ?_⟩
  refine E6 (es := List.map tV [_]) rfl rfl (dT rfl) rfl rfl (fun _ => B1 (A7 fun _ => rfl)) (fun _ => rfl) ?_
  intro g15
  refine H0 rfl rfl rfl rfl (by (simp; done)) (by simp) (by decide) rfl rfl rfl rfl (dT rfl) (fun _ => ⟨rfl, rfl⟩) (by simp only [H7]; (simp only [List.length_nil, List.length_cons, List.length_append, Nat.zero_add, List.length_map]; omega)) (fun _ => rfl) ?_
  intro g16
  (refine B2 rfl rfl (by (simp; done)) rfl (fun _ => (B1 (by exact A7 fun _ => rfl))) (fun _ => rfl) ?_; intro g3)
  refine xN [3,6,7,8] [3] rfl <| A0 <| H5 rfl rfl (F4 (by omega)) <| A3 rfl rfl <| xN [3,6,7,8] [3] rfl ?_
  refine ⟨(i + 1, ps ++ [dec (ns.getD i default)], _), ?_, (by simp only; omega), ⟨rfl, rfl, rfl, rfl, rfl, trivial⟩⟩
  exact ⟨by omega, by rw [hps, ← b4f (by omega)]⟩
 refine H1 <| A4 <| A0 <| A3 rfl rfl ?_
 have hpe : ps = ns.map dec := by rw [hps, List.take_of_length_le (by omega)]
 have hje : joinB 44 ps = P9 ns := by rw [hpe]; rfl
 apply xC rfl
 ·apply B0
  ·exact O5 rfl rfl rfl (by (simp; done)) (fun _ => rfl)
  apply B0
  ·exact B9 rfl
  exact C4
 ·exact d2q ps 44 (by simp only [H7]; omega) (by rw [hje]; simp only [H7]; omega)
 refine ⟨⟨rfl, rfl, rfl, dT rfl, rfl⟩, .inr ⟨rfl, rfl⟩, B3, C3 rfl, fun _ => rfl, fun g19 => ?_⟩
 refine A5 rfl rfl rfl <| xN [2] [] rfl <| B6 <| C9 rfl rfl trivial ?_
 rw [hje]

theorem keep_s_listTextI : G8 Tryz.f113 = [0, 2] := by kernel_rfl
set_option maxHeartbeats 20000000 in
theorem a9t (ns : List Int) (hl : ns.length ≤ 1000000) (hnb : ∀ n ∈ ns, -1000000 ≤ n ∧ n ≤ 1000000) : CW (cxT oG) 113 [L ns] = some (tV (X9 ns), []) := by
 have hll := a2w (ns := ns) hnb
 refine G9 rfl Tryz.func113 rfl ⟨by kernel_rfl, rfl, dT rfl, dT rfl, by decide⟩ keep_s_listTextI <| A4 <| A0 <| A5 rfl rfl rfl <| xN [0] [] rfl <| A4 <| A0 <| A3 rfl rfl ?_
 apply xC rfl
 ·apply B0
  ·exact B9 rfl
  exact C4
 ·exact c6y ns hl hnb
 refine ⟨⟨rfl, rfl, rfl, dT rfl, rfl⟩, .inl rfl, B3, C3 rfl, fun _ => rfl, fun g4 => ?_⟩
 iterate 2 refine P4 rfl rfl (by simp only [H7, List.length_append, List.length_cons, List.length_nil]; omega) ?_
 refine A5 rfl rfl rfl <| xN [2] [] rfl <| B6 <| C9 rfl rfl trivial ?_
 rfl

theorem keep_s_readListI : G8 Tryz.f104 = [0, 2, 3, 4, 6, 5, 27, 29, 33, 32, 34, 31, 9, 11, 43, 10, 7] := by kernel_rfl
set_option maxHeartbeats 20000000 in
theorem c0n (w : List UInt8) (hs : w.length ≤ 1048576) : CW (cxT oG) 104 [tV w] = some (.tup [.own 1 ((rlX w).map iV), bV (okI w)], []) := by
 have hc1 := c8l 91 w
 have hc2 := c8p 93 (a4e 91 w)
 refine G9 rfl Tryz.func104 rfl ⟨by kernel_rfl, rfl, dT rfl, dT rfl, by decide⟩ keep_s_readListI <| A4 <| A0 ?_
 (refine C2 rfl rfl (fun _ => rfl) ?_; intro g2)
 refine A5 rfl rfl rfl <| xN [0] [] rfl <| A4 <| A0 <| A3 rfl rfl ?_
 apply xC rfl
 ·apply B0
  ·exact B9 rfl
  apply B0
  ·exact B9 rfl
  exact C4
 ·exact d2w w 91
 refine ⟨⟨rfl, rfl, rfl, dT rfl, rfl⟩, .inl rfl, B3, N1 rfl, fun _ => rfl, fun g14 => ?_⟩
 refine A3 rfl rfl <| B7 rfl rfl rfl <| B7 rfl rfl rfl <| A5 rfl rfl rfl <| A5 rfl rfl rfl <| xN [0,4,5] [] rfl <| A4 <| A0 <| A3 rfl rfl ?_
 apply xC rfl
 ·apply B0
  ·exact B9 rfl
  apply B0
  ·exact B9 rfl
  exact C4
 ·exact d2f (a4e 91 w) 93 (by omega)
 refine ⟨⟨rfl, rfl, rfl, dT rfl, rfl⟩, .inl rfl, B3, N1 rfl, fun _ => rfl, fun g19 => ?_⟩
 refine A3 rfl rfl <| B7 rfl rfl rfl <| B7 rfl rfl rfl <| A5 rfl rfl rfl <| A5 rfl rfl rfl <| xN [0,4,5,6] [] rfl <| A4 <| A4 <| A0 <| A3 rfl rfl <| P6 rfl <| A3 rfl rfl ?_
 refine C8 rfl rfl ?_ ?_ <;> intro hg0 <;> have hg := hg0 <;> try simp only [SG] at hg
 ·refine A3 rfl rfl <| gT rfl rfl <| P6 rfl <| D6 rfl (by assumption) rfl rfl <| xN [0,4,27] [] rfl ?_
  refine A9 rfl ?_ ?_ <;> intro hc <;> try simp only [SL] at hc
  ·refine A4 <| A0 ?_
   (refine C2 rfl rfl (fun _ => rfl) ?_; intro g2)
   refine A5 rfl rfl rfl <| xN [2,3] [2] rfl <| B6 <| D3 (F9 rfl rfl (by simp) (by rfl) (D7 rfl rfl (E7 C5))) ?_
   obtain ⟨h1, h2⟩ := b6m (b8o (w := w) (by simp_all [okB]))
   rw [h1, h2]
   rfl
  have hok : okB w = true := by simp [okB]; constructor <;> assumption
  obtain ⟨ps, hps0⟩ : ∃ ps, ps = splitB 44 (a5g w) := ⟨_, rfl⟩
  have hpl := U9 44 (a5g w)
  have hpp := a0d 44 (a5g w)
  rw [← hps0] at hpl hpp
  have hil := c7s hok
  refine B5 <| A4 <| A0 ?_
  (refine C2 rfl rfl (fun _ => rfl) ?_; intro g7)
  refine xN [0,4,7] [7] rfl <| A4 <| A4 <| A0 <| A3 rfl rfl <| b5u rfl rfl <| xN [0,4,7,29] [7] rfl ?_
  refine A9 rfl ?_ ?_ <;> intro hc <;> try simp only [SL] at hc
  ·have hin : a5g w ≠ [] := hc
   refine A4 <| A0 <| A3 rfl rfl ?_
   have hps := hps0
   apply b7t rfl
   ·apply B0
    ·exact B9 rfl
    apply B0
    ·exact B9 rfl
    exact C4
   ·exact c4k (a5g w) 44 (by unfold a5g; omega)
   ·exact ⟨rfl, rfl, rfl, dT rfl, rfl⟩
   ·exact .inl rfl
   ·exact B3
   ·exact L8
   ·(intro _; exact B4 (B1 (A7 fun _ => rfl)) rfl)
   intro g31
   rw [← hps]
   try simp only [List.length_map]
   refine I1 rfl rfl <| A3 rfl rfl <| xN [0,7,31,32,33] [7,1000031] rfl <| C6 <| J6 (β := Nat × List Int × Nat) [(.t 0, _), (.t 31, _), (.t 32, _), (.h 1000031, _)] (fun (z : Nat × List Int × Nat) => match z with | (i, ns, g) => [(.t 33, iV i), (.t 7, .sl 7 g none 0 ns.length), (.h 7, .obj g 0 1 (ns.map iV))]) (fun (z : Nat × List Int × Nat) => match z with | (i, ns, g) => i ≤ ps.length ∧ rdA (ps.take i) = some ns) (fun (z : Nat × List Int × Nat) => match z with | (i, ns, g) => ps.length - i) (0, [], _) ⟨rfl, rfl, rfl, rfl, rfl, rfl, rfl, trivial⟩ ⟨Nat.zero_le _, rfl⟩ ?_
   intro z hb
   obtain ⟨i, ns, g⟩ := z
   try dsimp only at hb
   obtain ⟨hi1, hrd⟩ := hb
   have hpi := fun h : i < ps.length => hpp _ (L1 h)
   have hnl := b3s hrd
   rw [List.length_take] at hnl
   refine A4 <| A0 <| I0 rfl rfl <| xN [0,7,31,32,33,34] [7,1000031] rfl <| A4 ?_
   refine A9 rfl ?_ ?_ <;> intro hc <;> try simp only [SL] at hc
   ·refine B5 <| A4 <| C6 <| A4 <| A0 <| E3 rfl rfl rfl rfl (by omega) (by (simp; done)) rfl <| S5 rfl rfl (by omega) (fun _ => rfl) (fun _ => rfl) rfl <| A5 rfl rfl rfl <| xN [0,7,9,31,32,33] [7,1000031] rfl <| A4 <| A0 <| A3 rfl rfl ?_
    rcases hat : Lib.atoiAll (ps.getD i default) with v | _ | _
    ·skip
     apply xC rfl
     ·apply B0
      ·exact B9 rfl
      exact C4
     ·exact (by have hi := c3m (oG := oG) (ps.getD i default) (by omega); unfold atR at hi; rw [hat] at hi; exact hi)
     refine ⟨⟨rfl, rfl, rfl, dT rfl, rfl⟩, .inl rfl, B3, N1 rfl, fun _ => rfl, fun g39 => ?_⟩
     refine A3 rfl rfl <| B7 rfl rfl rfl <| B7 rfl rfl rfl <| A5 rfl rfl rfl <| A5 rfl rfl rfl <| xN [0,7,10,11,31,32,33] [7,1000031] rfl <| A4 <| A4 <| A0 <| A3 rfl rfl <| c7u rfl rfl rfl rfl <| xN [0,7,10,31,32,33,43] [7,1000031] rfl ?_
     refine A9 rfl (fun hc => absurd hc (by decide)) (fun hc => ?_)
     refine B5 <| A0 <| A3 rfl rfl <| A3 rfl rfl <| E6 (es := List.map iV [_]) rfl rfl (dT rfl) rfl rfl (fun _ => B1 (A7 fun _ => rfl)) (fun _ => rfl) ?_
     intro g46
     refine H0 rfl rfl rfl rfl (by (simp; done)) (by simp) (by decide) rfl rfl rfl rfl (dT rfl) (fun _ => ⟨rfl, rfl⟩) (by simp only [H7]; (simp only [List.length_nil, List.length_cons, List.length_append, Nat.zero_add, List.length_map]; omega)) (fun _ => rfl) ?_
     intro g47
     (refine B2 rfl rfl (by (simp; done)) rfl (fun _ => (B1 (by exact A7 fun _ => rfl))) (fun _ => rfl) ?_; intro g7)
     refine xN [0,7,31,32,33] [7,1000031] rfl <| A0 <| H5 rfl rfl (F4 (by omega)) <| A3 rfl rfl <| xN [0,7,31,32,33] [7,1000031] rfl ?_
     refine ⟨(i + 1, ns ++ [v], _), ?_, (by simp only; omega), ⟨rfl, rfl, rfl, rfl, rfl, rfl, rfl, trivial⟩⟩
     exact ⟨by omega, c7q (by omega) hrd hat⟩
    ·skip
     apply xC rfl
     ·apply B0
      ·exact B9 rfl
      exact C4
     ·exact (by have hi := c3m (oG := oG) (ps.getD i default) (by omega); unfold atR at hi; rw [hat] at hi; exact hi)
     refine ⟨⟨rfl, rfl, rfl, dT rfl, rfl⟩, .inl rfl, B3, N1 rfl, fun _ => rfl, fun g39 => ?_⟩
     refine A3 rfl rfl <| B7 rfl rfl rfl <| B7 rfl rfl rfl <| A5 rfl rfl rfl <| A5 rfl rfl rfl <| xN [0,7,10,11,31,32,33] [7,1000031] rfl <| A4 <| A4 <| A0 <| A3 rfl rfl <| c0v rfl rfl rfl <| xN [0,7,10,31,32,33,43] [7,1000031] rfl ?_
     refine A9 rfl (fun hc => ?_) (fun hc => absurd hc (by decide))
     refine A4 <| A0 ?_
     (refine C2 rfl rfl (fun _ => rfl) ?_; intro g2)
     refine A5 rfl rfl rfl <| xN [2,3] [2] rfl <| B6 <| D3 (F9 rfl rfl (by simp) (by rfl) (D7 rfl rfl (E7 C5))) ?_
     obtain ⟨h1, h2⟩ := b6m (w := w) (by rw [b0y hok hin, ← hps0]; exact b9j (i := i) (by omega) (by intro v hv; rw [hat] at hv; cases hv))
     rw [h1, h2]
     rfl
    skip
    apply xC rfl
    ·apply B0
     ·exact B9 rfl
     exact C4
    ·exact (by have hi := c3m (oG := oG) (ps.getD i default) (by omega); unfold atR at hi; rw [hat] at hi; exact hi)
    refine ⟨⟨rfl, rfl, rfl, dT rfl, rfl⟩, .inl rfl, B3, N1 rfl, fun _ => rfl, fun g39 => ?_⟩
    refine A3 rfl rfl <| B7 rfl rfl rfl <| B7 rfl rfl rfl <| A5 rfl rfl rfl <| A5 rfl rfl rfl <| xN [0,7,10,11,31,32,33] [7,1000031] rfl <| A4 <| A4 <| A0 <| A3 rfl rfl <| c0v rfl rfl rfl <| xN [0,7,10,31,32,33,43] [7,1000031] rfl ?_
    refine A9 rfl (fun hc => ?_) (fun hc => absurd hc (by decide))
    refine A4 <| A0 ?_
    (refine C2 rfl rfl (fun _ => rfl) ?_; intro g2)
    refine A5 rfl rfl rfl <| xN [2,3] [2] rfl <| B6 <| D3 (F9 rfl rfl (by simp) (by rfl) (D7 rfl rfl (E7 C5))) ?_
    obtain ⟨h1, h2⟩ := b6m (w := w) (by rw [b0y hok hin, ← hps0]; exact b9j (i := i) (by omega) (by intro v hv; rw [hat] at hv; cases hv))
    rw [h1, h2]
    rfl
   refine H1 <| A4 <| A0 <| A3 rfl rfl <| A3 rfl rfl ?_
   apply xC rfl
   ·apply B0
    ·exact O5 rfl rfl rfl (by (simp; done)) (fun _ => rfl)
    exact C4
   ·exact a7c ns (by omega)
   refine ⟨⟨rfl, rfl, rfl, dT rfl, rfl⟩, .inr ⟨rfl, rfl⟩, B3, C3 rfl, fun _ => rfl, fun g51 => ?_⟩
   refine A3 rfl rfl ?_
   refine C8 rfl rfl ?_ ?_ <;> intro hg0 <;> have hg := hg0 <;> try simp only [SG] at hg
   ·refine A3 rfl rfl <| gT rfl rfl ?_
    (have hnb := d3s (ns := ns) (by assumption); have hvl := S0 (show vd ns = true by assumption))
    apply xC rfl
    ·apply B0
     ·exact O5 rfl rfl rfl (by (simp; done)) (fun _ => rfl)
     exact C4
    ·exact a9t ns (by omega) hnb
    refine ⟨⟨rfl, rfl, rfl, dT rfl, rfl⟩, .inr ⟨rfl, rfl⟩, B3, C3 rfl, fun _ => rfl, fun g54 => ?_⟩
    refine gT rfl rfl <| A3 rfl rfl <| gT rfl rfl <| a1s rfl rfl <| F0 rfl (by assumption) rfl rfl ?_
    (refine B2 rfl rfl (by (simp; done)) rfl (fun _ => (B1 (by exact A7 fun _ => rfl))) (fun _ => rfl) ?_; intro g2)
    refine A5 rfl rfl rfl <| xN [2,3] [2] rfl <| B6 <| D3 (F9 rfl rfl (by simp) (by exact A7 fun _ => rfl) (D7 rfl rfl (E7 C5))) ?_
    (have hx := hin; obtain ⟨h1, h2⟩ := a7h (ns := ns) (w := w) (by rw [b0y hok hx, ← hps0]; rw [List.take_of_length_le (by omega)] at hrd; exact hrd))
    (rw [h1, h2, hg, Bool.true_and]; rfl)
   refine gF rfl rfl <| gF rfl rfl <| gF rfl rfl <| D6 rfl (by assumption) rfl rfl ?_
   (refine B2 rfl rfl (by (simp; done)) rfl (fun _ => (B1 (by exact A7 fun _ => rfl))) (fun _ => rfl) ?_; intro g2)
   refine A5 rfl rfl rfl <| xN [2,3] [2] rfl <| B6 <| D3 (F9 rfl rfl (by simp) (by exact A7 fun _ => rfl) (D7 rfl rfl (E7 C5))) ?_
   (have hx := hin; obtain ⟨h1, h2⟩ := a7h (ns := ns) (w := w) (by rw [b0y hok hx, ← hps0]; rw [List.take_of_length_le (by omega)] at hrd; exact hrd))
   (rw [h1, h2, hg, Bool.false_and]; rfl)
  have hie : a5g w = [] := hc
  refine B5 <| A4 <| A0 <| A3 rfl rfl <| A3 rfl rfl ?_
  apply xC rfl
  ·apply B0
   ·exact b1c rfl rfl rfl rfl rfl
   exact C4
  ·exact a7c [] (by decide)
  refine ⟨⟨rfl, rfl, rfl, dT rfl, rfl⟩, .inr ⟨rfl, rfl⟩, B3, C3 rfl, fun _ => rfl, fun g51 => ?_⟩
  refine A3 rfl rfl ?_
  refine C8 rfl rfl ?_ ?_ <;> intro hg0 <;> have hg := hg0 <;> try simp only [SG] at hg
  ·refine A3 rfl rfl <| gT rfl rfl ?_
   skip
   apply xC rfl
   ·apply B0
    ·exact b1c rfl rfl rfl rfl rfl
    exact C4
   ·exact a9t [] (by decide) (by simp)
   refine ⟨⟨rfl, rfl, rfl, dT rfl, rfl⟩, .inr ⟨rfl, rfl⟩, B3, C3 rfl, fun _ => rfl, fun g54 => ?_⟩
   refine gT rfl rfl <| A3 rfl rfl <| gT rfl rfl <| a1s rfl rfl <| F0 rfl rfl rfl rfl ?_
   (refine B2 rfl rfl (by (simp; done)) rfl (fun _ => (B1 (by rfl))) (fun _ => rfl) ?_; intro g2)
   refine A5 rfl rfl rfl <| xN [2,3] [2] rfl <| B6 <| D3 (F9 rfl rfl (by simp) (by rfl) (D7 rfl rfl (E7 C5))) ?_
   obtain ⟨h1, h2⟩ := a7h (ns := []) (w := w) (c4z hok hie)
   (rw [h1, h2, hg, Bool.true_and]; rfl)
  refine gF rfl rfl <| gF rfl rfl <| gF rfl rfl <| D6 rfl (by assumption) rfl rfl ?_
  (refine B2 rfl rfl (by (simp; done)) rfl (fun _ => (B1 (by rfl))) (fun _ => rfl) ?_; intro g2)
  refine A5 rfl rfl rfl <| xN [2,3] [2] rfl <| B6 <| D3 (F9 rfl rfl (by simp) (by rfl) (D7 rfl rfl (E7 C5))) ?_
  obtain ⟨h1, h2⟩ := a7h (ns := []) (w := w) (c4z hok hie)
  (rw [h1, h2, hg, Bool.false_and]; rfl)
 refine gF rfl rfl <| F0 rfl (by assumption) rfl rfl <| xN [0,4,27] [] rfl ?_
 refine A9 rfl (fun hc => ?_) (fun hc => absurd hc (by decide))
 refine A4 <| A0 ?_
 (refine C2 rfl rfl (fun _ => rfl) ?_; intro g2)
 refine A5 rfl rfl rfl <| xN [2,3] [2] rfl <| B6 <| D3 (F9 rfl rfl (by simp) (by rfl) (D7 rfl rfl (E7 C5))) ?_
 obtain ⟨h1, h2⟩ := b6m (b8o (w := w) (by simp_all [okB]))
 rw [h1, h2]
 rfl

theorem keep_s_readWord : G8 Tryz.f63 = [0, 2, 3, 4, 6, 12, 5] := by kernel_rfl
set_option maxHeartbeats 20000000 in
theorem a1a (w : List UInt8) (hs : w.length ≤ 1048576) : CW (cxT oG) 63 [tV w] = some (.tup [tV (if (numsOf w).isSome = true then lW else w), .own 1 (((numsOf w).getD []).map iV), bV ((numsOf w).isSome || decide (0 ≤ rch (bA w)))], []) := by
 refine G9 rfl Tryz.func63 rfl ⟨by kernel_rfl, rfl, dT rfl, dT rfl, by decide⟩ keep_s_readWord <| A4 <| A0 <| A5 rfl rfl rfl ?_
 (refine C2 rfl rfl (fun _ => rfl) ?_; intro g3)
 refine A5 rfl rfl rfl <| xN [0] [] rfl <| A4 <| A4 <| A0 <| A3 rfl rfl ?_
 apply xC rfl
 ·apply B0
  ·exact B9 rfl
  exact C4
 ·exact (by have hi := c0n (oG := oG) w hs; rw [d3i] at hi; exact hi)
 refine ⟨⟨rfl, rfl, rfl, dT rfl, rfl⟩, .inr ⟨a3n _ _, rfl⟩, B3, H8 (M3 fun _ => I9 rfl M0), fun _ => rfl, fun g9 => ?_⟩
 simp only [List.length_map]
 refine A3 rfl rfl <| B7 rfl rfl rfl <| B7 rfl rfl rfl ?_
 (refine B2 rfl rfl (by (simp; done)) rfl (fun _ => (B1 (by exact A7 fun _ => rfl))) (fun _ => rfl) ?_; intro g5)
 refine A5 rfl rfl rfl <| xN [0,5,6] [5] rfl <| A4 <| A0 <| A3 rfl rfl <| xN [0,5,12] [5] rfl ?_
 refine A9 rfl ?_ ?_ <;> intro hc <;> try simp only [SL] at hc
 ·obtain ⟨ns, hns⟩ := Option.isSome_iff_exists.1 hc
  have hraw := d2l hns
  refine A4 <| A0 <| A3 rfl rfl <| A5 rfl rfl rfl ?_
  (refine B2 rfl rfl (by (simp; done)) rfl (fun _ => (B1 (by exact A7 fun _ => rfl))) (fun _ => rfl) ?_; intro g3)
  refine A5 rfl rfl rfl <| xN [2,3,4] [3] rfl <| B6 <| D3 (D7 rfl rfl (F9 rfl rfl (by simp) (by exact A7 fun _ => rfl) (D7 rfl rfl (E7 C5)))) ?_
  rw [hns, hraw]
  rfl
 have hnn : numsOf w = none := by simpa using hc
 have hwo := d1e w
 refine B5 <| A4 <| A0 <| A3 rfl rfl <| A3 rfl rfl <| b5u rfl rfl <| A3 rfl rfl ?_
 refine C8 rfl rfl ?_ ?_ <;> intro hg0 <;> have hg := hg0 <;> try simp only [SG] at hg
 ·refine A3 rfl rfl <| gT rfl rfl ?_
  apply xC rfl
  ·apply B0
   ·exact B9 rfl
   exact C4
  ·exact a7j (bA w)
  refine ⟨⟨rfl, rfl, rfl, dT rfl, rfl⟩, .inl rfl, B3, C3 rfl, fun _ => rfl, fun g19 => ?_⟩
  refine gT rfl rfl <| a0o rfl rfl <| F0 rfl (by assumption) rfl rfl <| A5 rfl rfl rfl ?_
  (refine C2 rfl rfl (fun _ => rfl) ?_; intro g3)
  refine A5 rfl rfl rfl <| xN [2,3,4] [3] rfl <| B6 <| D3 (D7 rfl rfl (F9 rfl rfl (by simp) (by rfl) (D7 rfl rfl (E7 C5)))) ?_
  rw [hnn, ← hwo]
  simp_all
  try rfl
 refine gF rfl rfl <| gF rfl rfl <| D6 rfl (by assumption) rfl rfl <| A5 rfl rfl rfl ?_
 (refine C2 rfl rfl (fun _ => rfl) ?_; intro g3)
 refine A5 rfl rfl rfl <| xN [2,3,4] [3] rfl <| B6 <| D3 (D7 rfl rfl (F9 rfl rfl (by simp) (by rfl) (D7 rfl rfl (E7 C5)))) ?_
 rw [hnn, ← hwo]
 simp_all
 try rfl

theorem keep_s_readWords : G8 Tryz.f133 = [0, 2, 3, 4, 15, 7, 26, 6, 5, 35, 34, 36, 9, 12, 44, 8, 10, 11, 39, 50] := by kernel_rfl
set_option maxHeartbeats 20000000 in
theorem a9q (ws : List W8) (hws : ws.length ≤ 1048600 ∧ ∀ w ∈ ws, w.length ≤ 1048576) : CW (cxT oG) 133 [.list (ws.map tV)] = some (rtR (rdT ws), []) := by
 obtain ⟨kk, hkk⟩ : ∃ kk : Nat, ws.length < kk := ⟨_, Nat.lt_succ_self _⟩
 revert ws
 induction kk with
 | zero => intro ws hws hkk; exact absurd hkk (Nat.not_lt_zero _)
 | succ kk ih =>
  intro ws hws hkk
  refine G9 rfl Tryz.func133 rfl ⟨by kernel_rfl, rfl, dT rfl, dT rfl, by decide⟩ keep_s_readWords <| A4 <| A0 <| G5 rfl (fun _ => C0 rfl) (fun _ => rfl) ?_
  intro g2
  (refine C2 rfl rfl (fun _ => rfl) ?_; intro g3)
  refine A5 rfl rfl rfl <| xN [0,2] [2] rfl <| A4 <| A4 <| A0 <| A3 rfl rfl <| E8 rfl rfl <| N5 rfl rfl <| xN [0,2,15] [2] rfl ?_
  refine A9 rfl ?_ ?_ <;> intro hc <;> try simp only [SL] at hc
  ·have hw0 : ws = [] := List.length_eq_zero_iff.1 (by simpa using hc)
   subst hw0
   refine A4 <| A0 <| I7 (fs := [_, _, _]) rfl rfl rfl rfl rfl <| C7 rfl rfl rfl rfl ⟨by decide, rfl, dT rfl, dT rfl, rfl⟩ rfl (by exact C0 rfl) ?_
   (refine C2 rfl rfl (fun _ => rfl) ?_; intro g3)
   refine A5 rfl rfl rfl <| xN [2,3,4] [2,3] rfl <| B6 <| D3 (I6 rfl rfl rfl rfl (I4 rfl (J2 rfl (J2 rfl M2))) (F9 rfl rfl (by simp) (by rfl) (D7 rfl rfl (E7 C5)))) ?_
   rfl
  obtain ⟨w, ws1, rfl⟩ : ∃ w ws1, ws = w :: ws1 := List.exists_cons_of_ne_nil (fun e => by subst e; simp at hc)
  have hw := hws.2 w (by simp)
  refine B5 <| A4 <| A0 <| A3 rfl rfl <| F8 rfl rfl rfl (fun _ => rfl) (by (change 0 < _; omega)) <| F5 rfl rfl rfl ?_
  rcases c7f w with ⟨ns, hns⟩ | ⟨hnn, hn⟩ | ⟨hnn, hn⟩ | ⟨hnn, hn⟩ | ⟨hnn, hn⟩
  ·skip
   apply xC rfl
   ·apply B0
    ·exact B9 rfl
    exact C4
   ·exact (show CW (cxT oG) 63 [tV w] = some (.tup [tV lW, .own 1 (ns.map iV), bV true], []) from by have hi := a1a (oG := oG) w (by omega); rw [hns] at hi; exact hi)
   refine ⟨⟨rfl, rfl, rfl, dT rfl, rfl⟩, .inr ⟨by simp [hasList, G0], rfl⟩, B3, H8 (I9 rfl (M3 fun _ => I9 rfl M0)), fun _ => B4 (B1 (A7 fun _ => rfl)) (by rfl), fun g21 => ?_⟩
   try simp only [List.length_map]
   refine A3 rfl rfl <| B7 rfl rfl rfl <| B7 rfl rfl rfl <| B7 rfl rfl rfl <| A5 rfl rfl rfl ?_
   (refine B2 rfl rfl (by (simp; done)) rfl (fun _ => (B1 (by exact A7 fun _ => rfl))) (fun _ => rfl) ?_; intro g6)
   refine A5 rfl rfl rfl <| xN [0,2,5,6,7] [2,6] rfl <| A4 <| A4 <| A0 <| A3 rfl rfl <| P6 rfl <| xN [0,2,5,6,26] [2,6] rfl ?_
   refine A9 rfl (fun hc => absurd hc (by decide)) (fun hc => ?_)
   refine B5 <| A4 <| A0 <| A3 rfl rfl <| A3 rfl rfl <| I7 (fs := [_, _, _]) rfl rfl rfl rfl rfl <| A3 rfl rfl <| N6 rfl rfl rfl (Mv.sized_map fun _ => rfl) J5 (H6 (n := 1) rfl) (by simp) ?_
   rw [show ((List.map tV (w :: ws1)).drop 1).take ((List.map tV (w :: ws1)).length - 1) = ws1.map tV from by rw [List.map_cons, List.drop_succ_cons, List.drop_zero, List.take_of_length_le (by simp)]]
   refine G5 rfl (fun _ => C0 rfl) (fun _ => rfl) ?_
   intro g8
   refine I2 rfl rfl rfl rfl (F7 rfl (a3q (by decide) (F7 rfl K8))) (fun _ => rfl) ⟨by decide, rfl, dT rfl, Nat.le_refl _⟩ (fun _ => rfl) (fun _ => rfl) (fun _ => (by rfl)) ?_
   intro z
   simp only [K5, List.cons_append, List.nil_append]
   refine A5 rfl rfl rfl ?_
   refine G6 ⟨fun _ => ⟨by (simp only [O9, List.nil_append, List.append_nil, List.map_cons, List.map_nil, List.cons_append]; decide +kernel), by decide +kernel⟩, [(.t 2, _), (.t 5, _), (.t 8, _), (.t 9, _), (.h 2, _), (.h 8, _), (.h 6, _)], ⟨rfl, rfl, rfl, rfl, rfl, rfl, rfl, rfl, rfl, rfl, rfl, rfl, rfl, rfl, trivial⟩, ?_⟩
   refine A4 <| A4 <| A0 <| A3 rfl rfl ?_
   apply xC rfl
   ·apply B0
    ·exact B9 rfl
    exact C4
   ·exact a7j (bA lW)
   refine ⟨⟨rfl, rfl, rfl, dT rfl, rfl⟩, .inl rfl, B3, C3 rfl, fun _ => rfl, fun g34 => ?_⟩
   rw [show nd (bA lW) = 0 from d0x rfl]
   refine A3 rfl rfl <| xN [2,8,9,34,35] [2,8,6] rfl <| C6 <| G2 <| A4 <| A0 <| I0 rfl rfl <| xN [2,8,9,34,35,36] [2,8,6] rfl <| A4 ?_
   refine A9 rfl (fun hc => absurd hc (by decide)) (fun hc => ?_)
   refine H1 <| A4 <| A0 <| E5 rfl rfl rfl rfl rfl <| A3 rfl rfl <| I2 rfl rfl rfl rfl (F7 rfl (a3q (by decide) (F7 rfl K8))) (fun _ => rfl) ⟨by decide, rfl, dT rfl, Nat.le_refl _⟩ (fun _ => rfl) (fun _ => rfl) (fun _ => (by rfl)) ?_
   intro z
   simp only [K5, List.cons_append, List.nil_append]
   refine A5 rfl rfl rfl <| A5 rfl rfl rfl <| xN [2,3,4] [2,6] rfl <| B6 <| D3 (I6 rfl rfl rfl rfl (I4 rfl (a4b rfl rfl (by simp) (fun _ => rfl) (J2 rfl M2))) (D7 rfl rfl (D7 rfl rfl (E7 C5)))) ?_
   rw [b9f hns]
   rfl
  ·skip
   apply xC rfl
   ·apply B0
    ·exact B9 rfl
    exact C4
   ·exact (show CW (cxT oG) 63 [tV w] = some (.tup [tV w, .own 1 [], bV true], []) from by have hi := a1a (oG := oG) w (by omega); rw [hnn] at hi; rw [show decide (0 ≤ rch (bA w)) = true from decide_eq_true (by omega)] at hi; exact hi)
   refine ⟨⟨rfl, rfl, rfl, dT rfl, rfl⟩, .inr ⟨rfl, rfl⟩, B3, H8 (I9 rfl (M3 fun _ => I9 rfl M0)), fun _ => B4 (B1 rfl) (by rfl), fun g21 => ?_⟩
   try simp only [List.length_map]
   refine A3 rfl rfl <| B7 rfl rfl rfl <| B7 rfl rfl rfl <| B7 rfl rfl rfl <| A5 rfl rfl rfl ?_
   (refine B2 rfl rfl (by (simp; done)) rfl (fun _ => (B1 (by rfl))) (fun _ => rfl) ?_; intro g6)
   refine A5 rfl rfl rfl <| xN [0,2,5,6,7] [2,6] rfl <| A4 <| A4 <| A0 <| A3 rfl rfl <| P6 rfl <| xN [0,2,5,6,26] [2,6] rfl ?_
   refine A9 rfl (fun hc => absurd hc (by decide)) (fun hc => ?_)
   refine B5 <| A4 <| A0 <| A3 rfl rfl <| A3 rfl rfl <| I7 (fs := [_, _, _]) rfl rfl rfl rfl rfl <| A3 rfl rfl <| N6 rfl rfl rfl (Mv.sized_map fun _ => rfl) J5 (H6 (n := 1) rfl) (by simp) ?_
   rw [show ((List.map tV (w :: ws1)).drop 1).take ((List.map tV (w :: ws1)).length - 1) = ws1.map tV from by rw [List.map_cons, List.drop_succ_cons, List.drop_zero, List.take_of_length_le (by simp)]]
   refine G5 rfl (fun _ => C0 rfl) (fun _ => rfl) ?_
   intro g8
   refine I2 rfl rfl rfl rfl (F7 rfl (a3q (by decide) (F7 rfl K8))) (fun _ => rfl) ⟨by decide, rfl, dT rfl, Nat.le_refl _⟩ (fun _ => rfl) (fun _ => rfl) (fun _ => (by rfl)) ?_
   intro z
   simp only [K5, List.cons_append, List.nil_append]
   refine A5 rfl rfl rfl ?_
   refine G6 ⟨fun _ => ⟨by (simp only [O9, List.nil_append, List.append_nil, List.map_cons, List.map_nil, List.cons_append]; decide +kernel), by decide +kernel⟩, [(.t 2, _), (.t 5, _), (.t 8, _), (.t 9, _), (.h 2, _), (.h 8, _), (.h 6, _)], ⟨rfl, rfl, rfl, rfl, rfl, rfl, rfl, rfl, rfl, rfl, rfl, rfl, rfl, rfl, trivial⟩, ?_⟩
   refine A4 <| A4 <| A0 <| A3 rfl rfl ?_
   apply xC rfl
   ·apply B0
    ·exact B9 rfl
    exact C4
   ·exact a7j (bA w)
   refine ⟨⟨rfl, rfl, rfl, dT rfl, rfl⟩, .inl rfl, B3, C3 rfl, fun _ => rfl, fun g34 => ?_⟩
   rw [show nd (bA w) = 0 from (a9b (by omega)).trans hn]
   refine A3 rfl rfl <| xN [2,8,9,34,35] [2,8,6] rfl <| C6 <| G2 <| A4 <| A0 <| I0 rfl rfl <| xN [2,8,9,34,35,36] [2,8,6] rfl <| A4 ?_
   refine A9 rfl (fun hc => absurd hc (by decide)) (fun hc => ?_)
   refine H1 <| A4 <| A0 <| E5 rfl rfl rfl rfl rfl <| A3 rfl rfl <| I2 rfl rfl rfl rfl (F7 rfl (a3q (by decide) (F7 rfl K8))) (fun _ => rfl) ⟨by decide, rfl, dT rfl, Nat.le_refl _⟩ (fun _ => rfl) (fun _ => rfl) (fun _ => (by rfl)) ?_
   intro z
   simp only [K5, List.cons_append, List.nil_append]
   refine A5 rfl rfl rfl <| A5 rfl rfl rfl <| xN [2,3,4] [2,6] rfl <| B6 <| D3 (I6 rfl rfl rfl rfl (I4 rfl (b6c rfl rfl rfl (J2 rfl M2))) (D7 rfl rfl (D7 rfl rfl (E7 C5)))) ?_
   rw [c4f hnn hn]
   rfl
  ·skip
   apply xC rfl
   ·apply B0
    ·exact B9 rfl
    exact C4
   ·exact (show CW (cxT oG) 63 [tV w] = some (.tup [tV w, .own 1 [], bV true], []) from by have hi := a1a (oG := oG) w (by omega); rw [hnn] at hi; rw [show decide (0 ≤ rch (bA w)) = true from decide_eq_true (by omega)] at hi; exact hi)
   refine ⟨⟨rfl, rfl, rfl, dT rfl, rfl⟩, .inr ⟨rfl, rfl⟩, B3, H8 (I9 rfl (M3 fun _ => I9 rfl M0)), fun _ => B4 (B1 rfl) (by rfl), fun g21 => ?_⟩
   try simp only [List.length_map]
   refine A3 rfl rfl <| B7 rfl rfl rfl <| B7 rfl rfl rfl <| B7 rfl rfl rfl <| A5 rfl rfl rfl ?_
   (refine B2 rfl rfl (by (simp; done)) rfl (fun _ => (B1 (by rfl))) (fun _ => rfl) ?_; intro g6)
   refine A5 rfl rfl rfl <| xN [0,2,5,6,7] [2,6] rfl <| A4 <| A4 <| A0 <| A3 rfl rfl <| P6 rfl <| xN [0,2,5,6,26] [2,6] rfl ?_
   refine A9 rfl (fun hc => absurd hc (by decide)) (fun hc => ?_)
   refine B5 <| A4 <| A0 <| A3 rfl rfl <| A3 rfl rfl <| I7 (fs := [_, _, _]) rfl rfl rfl rfl rfl <| A3 rfl rfl <| N6 rfl rfl rfl (Mv.sized_map fun _ => rfl) J5 (H6 (n := 1) rfl) (by simp) ?_
   rw [show ((List.map tV (w :: ws1)).drop 1).take ((List.map tV (w :: ws1)).length - 1) = ws1.map tV from by rw [List.map_cons, List.drop_succ_cons, List.drop_zero, List.take_of_length_le (by simp)]]
   refine G5 rfl (fun _ => C0 rfl) (fun _ => rfl) ?_
   intro g8
   refine I2 rfl rfl rfl rfl (F7 rfl (a3q (by decide) (F7 rfl K8))) (fun _ => rfl) ⟨by decide, rfl, dT rfl, Nat.le_refl _⟩ (fun _ => rfl) (fun _ => rfl) (fun _ => (by rfl)) ?_
   intro z
   simp only [K5, List.cons_append, List.nil_append]
   refine A5 rfl rfl rfl ?_
   refine G6 ⟨fun _ => ⟨by (simp only [O9, List.nil_append, List.append_nil, List.map_cons, List.map_nil, List.cons_append]; decide +kernel), by decide +kernel⟩, [(.t 2, _), (.t 5, _), (.t 8, _), (.t 9, _), (.h 2, _), (.h 8, _), (.h 6, _)], ⟨rfl, rfl, rfl, rfl, rfl, rfl, rfl, rfl, rfl, rfl, rfl, rfl, rfl, rfl, trivial⟩, ?_⟩
   refine A4 <| A4 <| A0 <| A3 rfl rfl ?_
   apply xC rfl
   ·apply B0
    ·exact B9 rfl
    exact C4
   ·exact a7j (bA w)
   refine ⟨⟨rfl, rfl, rfl, dT rfl, rfl⟩, .inl rfl, B3, C3 rfl, fun _ => rfl, fun g34 => ?_⟩
   rw [show nd (bA w) = 1 from (a9b (by omega)).trans hn]
   refine A3 rfl rfl <| xN [2,8,9,34,35] [2,8,6] rfl <| C6 <| G2 <| A4 <| A0 <| I0 rfl rfl <| xN [2,8,9,34,35,36] [2,8,6] rfl <| A4 ?_
   refine A9 rfl (fun hc => ?_) (fun hc => absurd hc (by decide))
   refine B5 <| A4 <| C6 <| A4 <| A0 <| A3 rfl rfl ?_
   rcases hr1 : rdT ws1 with _ | ⟨k1, r1⟩
   ·skip
    apply xC rfl
    ·apply B0
     ·exact B9 rfl
     exact C4
    ·exact (by have hi := ih ws1 ⟨by simp only [List.length_cons] at hws; omega, fun x hx => hws.2 x (List.mem_cons_of_mem _ hx)⟩ (by simp only [List.length_cons] at hkk; omega); rw [hr1] at hi; exact hi)
    refine ⟨⟨rfl, rfl, rfl, dT rfl, rfl⟩, .inl rfl, B3, H8 (I9 rfl (M3 fun _ => I9 rfl M0)), fun _ => B4 (B1 rfl) (by rfl), fun g39 => ?_⟩
    refine A3 rfl rfl <| B7 rfl rfl rfl <| B7 rfl rfl rfl <| B7 rfl rfl rfl <| G5 rfl (fun _ => C0 rfl) (fun _ => rfl) ?_
    intro g10
    refine C7 rfl rfl rfl rfl ⟨by decide, rfl, dT rfl, dT rfl, rfl⟩ rfl (by exact C0 rfl) ?_
    (refine B2 rfl rfl (by (simp; done)) rfl (fun _ => (B1 (by rfl))) (fun _ => rfl) ?_; intro g11)
    refine A5 rfl rfl rfl <| xN [2,8,10,11,12,34,35] [2,8,6,10] rfl <| A4 <| A4 <| A0 <| A3 rfl rfl <| P6 rfl <| xN [2,8,10,11,34,35,44] [2,8,6,10] rfl ?_
    refine A9 rfl (fun hc => ?_) (fun hc => absurd hc (by decide))
    refine A4 <| A0 <| I7 (fs := [_, _, _]) rfl rfl rfl rfl rfl <| C7 rfl rfl rfl rfl ⟨by decide, rfl, dT rfl, dT rfl, rfl⟩ rfl (by exact C0 rfl) ?_
    (refine C2 rfl rfl (fun _ => rfl) ?_; intro g3)
    refine A5 rfl rfl rfl <| xN [2,3,4] [2,3] rfl <| B6 <| D3 (I6 rfl rfl rfl rfl (I4 rfl (J2 rfl (J2 rfl M2))) (F9 rfl rfl (by simp) (by rfl) (D7 rfl rfl (E7 C5)))) ?_
    rw [b7j hnn hn, hr1]
    rfl
   skip
   apply xC rfl
   ·apply B0
    ·exact B9 rfl
    exact C4
   ·exact (by have hi := ih ws1 ⟨by simp only [List.length_cons] at hws; omega, fun x hx => hws.2 x (List.mem_cons_of_mem _ hx)⟩ (by simp only [List.length_cons] at hkk; omega); rw [hr1] at hi; exact hi)
   refine ⟨⟨rfl, rfl, rfl, dT rfl, rfl⟩, .inl rfl, B3, N1 rfl, fun _ => rfl, fun g39 => ?_⟩
   refine A3 rfl rfl <| B7 rfl rfl rfl <| B7 rfl rfl rfl <| B7 rfl rfl rfl <| G5 rfl (fun _ => C0 rfl) (fun _ => rfl) ?_
   intro g10
   refine C7 rfl rfl rfl rfl ⟨by decide, rfl, dT rfl, dT rfl, rfl⟩ rfl (by exact C0 rfl) <| A5 rfl rfl rfl <| A5 rfl rfl rfl <| xN [2,8,10,11,12,34,35] [2,8,6,10] rfl <| A4 <| A4 <| A0 <| A3 rfl rfl <| P6 rfl <| xN [2,8,10,11,34,35,44] [2,8,6,10] rfl ?_
   refine A9 rfl (fun hc => absurd hc (by decide)) (fun hc => ?_)
   refine B5 <| A4 <| A0 <| A8 rfl rfl (dT rfl) rfl rfl <| B8 rfl rfl rfl rfl rfl rfl <| E5 rfl rfl rfl rfl rfl <| E6 (es := List.map trV [_]) rfl rfl (dT rfl) rfl rfl (fun _ => B1 (A7 fun _ => rfl)) (fun _ => rfl) ?_
   intro g49
   refine R7 rfl rfl rfl (by simp) (by decide) rfl rfl rfl (dT rfl) (fun _ => ⟨rfl, rfl⟩) (by simp only [H7]; (simp only [List.length_nil, List.length_cons, List.length_append, Nat.zero_add, List.length_map]; omega)) (fun _ => rfl) ?_
   intro g50
   refine A8 rfl rfl (dT rfl) rfl rfl <| Q6 rfl rfl rfl rfl rfl (Nat.le_refl _) rfl <| xN [2,8,11,34,35] [2,8,6,1000050] rfl <| A0 <| A3 rfl rfl <| A5 rfl rfl rfl <| xN [2,8,9,34,35] [2,8,6,1000050] rfl <| A0 <| H5 rfl rfl (F4 (by omega)) <| A3 rfl rfl <| xN [2,8,9,34,35] [2,8,6,1000050] rfl <| G2 <| A4 <| A0 <| I0 rfl rfl <| xN [2,8,9,34,35,36] [2,8,6,1000050] rfl <| A4 ?_
   refine A9 rfl (fun hc => absurd hc (by decide)) (fun hc => ?_)
   refine H1 <| A4 <| A0 <| E5 rfl rfl rfl rfl rfl <| A3 rfl rfl <| I2 rfl rfl rfl rfl (F7 rfl (a3q (by decide) (V8 (by decide) (by decide) rfl (by simp) fun _ => K8))) (fun _ => rfl) ⟨by decide, rfl, dT rfl, Nat.le_refl _⟩ (fun _ => rfl) (fun _ => rfl) (fun _ => B4 (by rfl) (B4 (B1 (A7 fun _ => rfl)) (by rfl))) ?_
   intro z
   simp only [K5, List.cons_append, List.nil_append]
   refine A5 rfl rfl rfl <| A5 rfl rfl rfl <| xN [2,3,4] [2,6,300002] rfl <| B6 <| D3 (I6 rfl rfl rfl rfl (I4 rfl (b6c rfl rfl rfl (a4b rfl rfl (by simp) (fun _ => rfl) M2))) (D7 rfl rfl (D7 rfl rfl (E7 C5)))) ?_
   rw [b7j hnn hn, hr1]
   rfl
  ·skip
   apply xC rfl
   ·apply B0
    ·exact B9 rfl
    exact C4
   ·exact (show CW (cxT oG) 63 [tV w] = some (.tup [tV w, .own 1 [], bV true], []) from by have hi := a1a (oG := oG) w (by omega); rw [hnn] at hi; rw [show decide (0 ≤ rch (bA w)) = true from decide_eq_true (by omega)] at hi; exact hi)
   refine ⟨⟨rfl, rfl, rfl, dT rfl, rfl⟩, .inr ⟨rfl, rfl⟩, B3, H8 (I9 rfl (M3 fun _ => I9 rfl M0)), fun _ => B4 (B1 rfl) (by rfl), fun g21 => ?_⟩
   try simp only [List.length_map]
   refine A3 rfl rfl <| B7 rfl rfl rfl <| B7 rfl rfl rfl <| B7 rfl rfl rfl <| A5 rfl rfl rfl ?_
   (refine B2 rfl rfl (by (simp; done)) rfl (fun _ => (B1 (by rfl))) (fun _ => rfl) ?_; intro g6)
   refine A5 rfl rfl rfl <| xN [0,2,5,6,7] [2,6] rfl <| A4 <| A4 <| A0 <| A3 rfl rfl <| P6 rfl <| xN [0,2,5,6,26] [2,6] rfl ?_
   refine A9 rfl (fun hc => absurd hc (by decide)) (fun hc => ?_)
   refine B5 <| A4 <| A0 <| A3 rfl rfl <| A3 rfl rfl <| I7 (fs := [_, _, _]) rfl rfl rfl rfl rfl <| A3 rfl rfl <| N6 rfl rfl rfl (Mv.sized_map fun _ => rfl) J5 (H6 (n := 1) rfl) (by simp) ?_
   rw [show ((List.map tV (w :: ws1)).drop 1).take ((List.map tV (w :: ws1)).length - 1) = ws1.map tV from by rw [List.map_cons, List.drop_succ_cons, List.drop_zero, List.take_of_length_le (by simp)]]
   refine G5 rfl (fun _ => C0 rfl) (fun _ => rfl) ?_
   intro g8
   refine I2 rfl rfl rfl rfl (F7 rfl (a3q (by decide) (F7 rfl K8))) (fun _ => rfl) ⟨by decide, rfl, dT rfl, Nat.le_refl _⟩ (fun _ => rfl) (fun _ => rfl) (fun _ => (by rfl)) ?_
   intro z
   simp only [K5, List.cons_append, List.nil_append]
   refine A5 rfl rfl rfl ?_
   refine G6 ⟨fun _ => ⟨by (simp only [O9, List.nil_append, List.append_nil, List.map_cons, List.map_nil, List.cons_append]; decide +kernel), by decide +kernel⟩, [(.t 2, _), (.t 5, _), (.t 8, _), (.t 9, _), (.h 2, _), (.h 8, _), (.h 6, _)], ⟨rfl, rfl, rfl, rfl, rfl, rfl, rfl, rfl, rfl, rfl, rfl, rfl, rfl, rfl, trivial⟩, ?_⟩
   refine A4 <| A4 <| A0 <| A3 rfl rfl ?_
   apply xC rfl
   ·apply B0
    ·exact B9 rfl
    exact C4
   ·exact a7j (bA w)
   refine ⟨⟨rfl, rfl, rfl, dT rfl, rfl⟩, .inl rfl, B3, C3 rfl, fun _ => rfl, fun g34 => ?_⟩
   rw [show nd (bA w) = 2 from (a9b (by omega)).trans hn]
   refine A3 rfl rfl <| xN [2,8,9,34,35] [2,8,6] rfl <| C6 <| G2 <| A4 <| A0 <| I0 rfl rfl <| xN [2,8,9,34,35,36] [2,8,6] rfl <| A4 ?_
   refine A9 rfl (fun hc => ?_) (fun hc => absurd hc (by decide))
   refine B5 <| A4 <| C6 <| A4 <| A0 <| A3 rfl rfl ?_
   rcases hr1 : rdT ws1 with _ | ⟨k1, r1⟩
   ·skip
    apply xC rfl
    ·apply B0
     ·exact B9 rfl
     exact C4
    ·exact (by have hi := ih ws1 ⟨by simp only [List.length_cons] at hws; omega, fun x hx => hws.2 x (List.mem_cons_of_mem _ hx)⟩ (by simp only [List.length_cons] at hkk; omega); rw [hr1] at hi; exact hi)
    refine ⟨⟨rfl, rfl, rfl, dT rfl, rfl⟩, .inl rfl, B3, H8 (I9 rfl (M3 fun _ => I9 rfl M0)), fun _ => B4 (B1 rfl) (by rfl), fun g39 => ?_⟩
    refine A3 rfl rfl <| B7 rfl rfl rfl <| B7 rfl rfl rfl <| B7 rfl rfl rfl <| G5 rfl (fun _ => C0 rfl) (fun _ => rfl) ?_
    intro g10
    refine C7 rfl rfl rfl rfl ⟨by decide, rfl, dT rfl, dT rfl, rfl⟩ rfl (by exact C0 rfl) ?_
    (refine B2 rfl rfl (by (simp; done)) rfl (fun _ => (B1 (by rfl))) (fun _ => rfl) ?_; intro g11)
    refine A5 rfl rfl rfl <| xN [2,8,10,11,12,34,35] [2,8,6,10] rfl <| A4 <| A4 <| A0 <| A3 rfl rfl <| P6 rfl <| xN [2,8,10,11,34,35,44] [2,8,6,10] rfl ?_
    refine A9 rfl (fun hc => ?_) (fun hc => absurd hc (by decide))
    refine A4 <| A0 <| I7 (fs := [_, _, _]) rfl rfl rfl rfl rfl <| C7 rfl rfl rfl rfl ⟨by decide, rfl, dT rfl, dT rfl, rfl⟩ rfl (by exact C0 rfl) ?_
    (refine C2 rfl rfl (fun _ => rfl) ?_; intro g3)
    refine A5 rfl rfl rfl <| xN [2,3,4] [2,3] rfl <| B6 <| D3 (I6 rfl rfl rfl rfl (I4 rfl (J2 rfl (J2 rfl M2))) (F9 rfl rfl (by simp) (by rfl) (D7 rfl rfl (E7 C5)))) ?_
    rw [a6j hnn hn, hr1]
    rfl
   skip
   apply xC rfl
   ·apply B0
    ·exact B9 rfl
    exact C4
   ·exact (by have hi := ih ws1 ⟨by simp only [List.length_cons] at hws; omega, fun x hx => hws.2 x (List.mem_cons_of_mem _ hx)⟩ (by simp only [List.length_cons] at hkk; omega); rw [hr1] at hi; exact hi)
   refine ⟨⟨rfl, rfl, rfl, dT rfl, rfl⟩, .inl rfl, B3, N1 rfl, fun _ => rfl, fun g39 => ?_⟩
   refine A3 rfl rfl <| B7 rfl rfl rfl <| B7 rfl rfl rfl <| B7 rfl rfl rfl <| G5 rfl (fun _ => C0 rfl) (fun _ => rfl) ?_
   intro g10
   refine C7 rfl rfl rfl rfl ⟨by decide, rfl, dT rfl, dT rfl, rfl⟩ rfl (by exact C0 rfl) <| A5 rfl rfl rfl <| A5 rfl rfl rfl <| xN [2,8,10,11,12,34,35] [2,8,6,10] rfl <| A4 <| A4 <| A0 <| A3 rfl rfl <| P6 rfl <| xN [2,8,10,11,34,35,44] [2,8,6,10] rfl ?_
   refine A9 rfl (fun hc => absurd hc (by decide)) (fun hc => ?_)
   refine B5 <| A4 <| A0 <| A8 rfl rfl (dT rfl) rfl rfl <| B8 rfl rfl rfl rfl rfl rfl <| E5 rfl rfl rfl rfl rfl <| E6 (es := List.map trV [_]) rfl rfl (dT rfl) rfl rfl (fun _ => B1 (A7 fun _ => rfl)) (fun _ => rfl) ?_
   intro g49
   refine R7 rfl rfl rfl (by simp) (by decide) rfl rfl rfl (dT rfl) (fun _ => ⟨rfl, rfl⟩) (by simp only [H7]; (simp only [List.length_nil, List.length_cons, List.length_append, Nat.zero_add, List.length_map]; omega)) (fun _ => rfl) ?_
   intro g50
   refine A8 rfl rfl (dT rfl) rfl rfl <| Q6 rfl rfl rfl rfl rfl (Nat.le_refl _) rfl <| xN [2,8,11,34,35] [2,8,6,1000050] rfl <| A0 <| A3 rfl rfl <| A5 rfl rfl rfl <| xN [2,8,9,34,35] [2,8,6,1000050] rfl <| A0 <| H5 rfl rfl (F4 (by omega)) <| A3 rfl rfl <| xN [2,8,9,34,35] [2,8,6,1000050] rfl <| G2 <| A4 <| A0 <| I0 rfl rfl <| xN [2,8,9,34,35,36] [2,8,6,1000050] rfl <| A4 ?_
   refine A9 rfl (fun hc => ?_) (fun hc => absurd hc (by decide))
   refine B5 <| A4 <| C6 <| A4 <| A0 <| A3 rfl rfl ?_
   rcases hr2 : rdT r1 with _ | ⟨k2, r2⟩
   ·skip
    apply xC rfl
    ·apply B0
     ·exact B9 rfl
     exact C4
    ·exact (by have hi := ih r1 ⟨by have := Z7 hr1; simp only [List.length_cons] at hws; omega, fun x hx => hws.2 x (List.mem_cons_of_mem _ (b1f hr1 x hx))⟩ (by have := Z7 hr1; simp only [List.length_cons] at hkk; omega); rw [hr2] at hi; exact hi)
    refine ⟨⟨rfl, rfl, rfl, dT rfl, rfl⟩, .inl rfl, B3, H8 (I9 rfl (M3 fun _ => I9 rfl M0)), fun _ => B4 (B1 rfl) (by rfl), fun g39 => ?_⟩
    refine A3 rfl rfl <| B7 rfl rfl rfl <| B7 rfl rfl rfl <| B7 rfl rfl rfl <| G5 rfl (fun _ => C0 rfl) (fun _ => rfl) ?_
    intro g10
    refine C7 rfl rfl rfl rfl ⟨by decide, rfl, dT rfl, dT rfl, rfl⟩ rfl (by exact C0 rfl) ?_
    (refine B2 rfl rfl (by (simp; done)) rfl (fun _ => (B1 (by rfl))) (fun _ => rfl) ?_; intro g11)
    refine A5 rfl rfl rfl <| xN [2,8,10,11,12,34,35] [2,8,6,1000050,10] rfl <| A4 <| A4 <| A0 <| A3 rfl rfl <| P6 rfl <| xN [2,8,10,11,34,35,44] [2,8,6,1000050,10] rfl ?_
    refine A9 rfl (fun hc => ?_) (fun hc => absurd hc (by decide))
    refine A4 <| A0 <| I7 (fs := [_, _, _]) rfl rfl rfl rfl rfl <| C7 rfl rfl rfl rfl ⟨by decide, rfl, dT rfl, dT rfl, rfl⟩ rfl (by exact C0 rfl) ?_
    (refine C2 rfl rfl (fun _ => rfl) ?_; intro g3)
    refine A5 rfl rfl rfl <| xN [2,3,4] [2,3] rfl <| B6 <| D3 (I6 rfl rfl rfl rfl (I4 rfl (J2 rfl (J2 rfl M2))) (F9 rfl rfl (by simp) (by rfl) (D7 rfl rfl (E7 C5)))) ?_
    rw [a6j hnn hn, hr1, Option.bind_some, hr2]
    rfl
   skip
   apply xC rfl
   ·apply B0
    ·exact B9 rfl
    exact C4
   ·exact (by have hi := ih r1 ⟨by have := Z7 hr1; simp only [List.length_cons] at hws; omega, fun x hx => hws.2 x (List.mem_cons_of_mem _ (b1f hr1 x hx))⟩ (by have := Z7 hr1; simp only [List.length_cons] at hkk; omega); rw [hr2] at hi; exact hi)
   refine ⟨⟨rfl, rfl, rfl, dT rfl, rfl⟩, .inl rfl, B3, N1 rfl, fun _ => rfl, fun g39 => ?_⟩
   refine A3 rfl rfl <| B7 rfl rfl rfl <| B7 rfl rfl rfl <| B7 rfl rfl rfl <| G5 rfl (fun _ => C0 rfl) (fun _ => rfl) ?_
   intro g10
   refine C7 rfl rfl rfl rfl ⟨by decide, rfl, dT rfl, dT rfl, rfl⟩ rfl (by exact C0 rfl) <| A5 rfl rfl rfl <| A5 rfl rfl rfl <| xN [2,8,10,11,12,34,35] [2,8,6,1000050,10] rfl <| A4 <| A4 <| A0 <| A3 rfl rfl <| P6 rfl <| xN [2,8,10,11,34,35,44] [2,8,6,1000050,10] rfl ?_
   refine A9 rfl (fun hc => absurd hc (by decide)) (fun hc => ?_)
   refine B5 <| A4 <| A0 <| A8 rfl rfl (dT rfl) rfl rfl <| B8 rfl rfl rfl rfl rfl rfl <| E5 rfl rfl rfl rfl rfl <| E6 (es := List.map trV [_]) rfl rfl (dT rfl) rfl rfl (fun _ => B1 (A7 fun _ => rfl)) (fun _ => rfl) ?_
   intro g49
   refine H0 rfl rfl rfl rfl (by (simp; done)) (by simp) (by decide) rfl rfl rfl rfl (dT rfl) (fun _ => ⟨rfl, rfl⟩) (by simp only [H7]; (simp only [List.length_nil, List.length_cons, List.length_append, Nat.zero_add, List.length_map]; omega)) (fun _ => rfl) ?_
   intro g50
   refine A8 rfl rfl (dT rfl) rfl rfl <| Q6 rfl rfl rfl rfl rfl (Nat.le_refl _) rfl <| xN [2,8,11,34,35] [2,8,6,1000050] rfl <| A0 <| A3 rfl rfl <| A5 rfl rfl rfl <| xN [2,8,9,34,35] [2,8,6,1000050] rfl <| A0 <| H5 rfl rfl (F4 (by omega)) <| A3 rfl rfl <| xN [2,8,9,34,35] [2,8,6,1000050] rfl <| G2 <| A4 <| A0 <| I0 rfl rfl <| xN [2,8,9,34,35,36] [2,8,6,1000050] rfl <| A4 ?_
   refine A9 rfl (fun hc => absurd hc (by decide)) (fun hc => ?_)
   refine H1 <| A4 <| A0 <| E5 rfl rfl rfl rfl rfl <| A3 rfl rfl <| I2 rfl rfl rfl rfl (F7 rfl (a3q (by decide) (V8 (by decide) (by decide) rfl (by simp) fun _ => K8))) (fun _ => rfl) ⟨by decide, rfl, dT rfl, Nat.le_refl _⟩ (fun _ => rfl) (fun _ => rfl) (fun _ => B4 (by rfl) (B4 (B1 (A7 fun _ => rfl)) (by rfl))) ?_
   intro z
   simp only [K5, List.cons_append, List.nil_append]
   refine A5 rfl rfl rfl <| A5 rfl rfl rfl <| xN [2,3,4] [2,6,300002] rfl <| B6 <| D3 (I6 rfl rfl rfl rfl (I4 rfl (b6c rfl rfl rfl (a4b rfl rfl (by simp) (fun _ => rfl) M2))) (D7 rfl rfl (D7 rfl rfl (E7 C5)))) ?_
   rw [a6j hnn hn, hr1, Option.bind_some, hr2]
   rfl
  skip
  apply xC rfl
  ·apply B0
   ·exact B9 rfl
   exact C4
  ·exact (show CW (cxT oG) 63 [tV w] = some (.tup [tV w, .own 1 [], bV false], []) from by have hi := a1a (oG := oG) w (by omega); rw [hnn] at hi; rw [show decide (0 ≤ rch (bA w)) = false from decide_eq_false (by omega)] at hi; exact hi)
  refine ⟨⟨rfl, rfl, rfl, dT rfl, rfl⟩, .inr ⟨rfl, rfl⟩, B3, H8 (I9 rfl (M3 fun _ => I9 rfl M0)), fun _ => B4 (B1 rfl) (by rfl), fun g21 => ?_⟩
  try simp only [List.length_map]
  refine A3 rfl rfl <| B7 rfl rfl rfl <| B7 rfl rfl rfl <| B7 rfl rfl rfl <| A5 rfl rfl rfl ?_
  (refine B2 rfl rfl (by (simp; done)) rfl (fun _ => (B1 (by rfl))) (fun _ => rfl) ?_; intro g6)
  refine A5 rfl rfl rfl <| xN [0,2,5,6,7] [2,6] rfl <| A4 <| A4 <| A0 <| A3 rfl rfl <| P6 rfl <| xN [0,2,5,6,26] [2,6] rfl ?_
  refine A9 rfl (fun hc => ?_) (fun hc => absurd hc (by decide))
  refine A4 <| A0 <| I7 (fs := [_, _, _]) rfl rfl rfl rfl rfl <| C7 rfl rfl rfl rfl ⟨by decide, rfl, dT rfl, dT rfl, rfl⟩ rfl (by exact C0 rfl) ?_
  (refine C2 rfl rfl (fun _ => rfl) ?_; intro g3)
  refine A5 rfl rfl rfl <| xN [2,3,4] [2,3] rfl <| B6 <| D3 (I6 rfl rfl rfl rfl (I4 rfl (J2 rfl (J2 rfl M2))) (F9 rfl rfl (by simp) (by rfl) (D7 rfl rfl (E7 C5)))) ?_
  rw [c3x hnn hn]
  rfl

theorem keep_s_readPlanI : G8 Tryz.f97 = [0, 2, 3, 4, 6, 7, 5, 12] := by kernel_rfl
set_option maxHeartbeats 20000000 in
theorem b8j (s : List UInt8) (hs : s.length ≤ 1048576) : CW (cxT oG) 97 [tV s] = some (.tup [trV (ipT s), bV (c1z s)], []) := by
 obtain ⟨ws, hws⟩ : ∃ ws, ws = splitB 32 s := ⟨_, rfl⟩
 have hwl := U9 32 s
 have hwp := a0d 32 s
 rw [← hws] at hwl hwp
 refine G9 rfl Tryz.func97 rfl ⟨by kernel_rfl, rfl, dT rfl, dT rfl, by decide⟩ keep_s_readPlanI <| A4 <| A0 <| G5 rfl (fun _ => C0 rfl) (fun _ => rfl) ?_
 intro g2
 refine A5 rfl rfl rfl <| xN [0,2] [2] rfl <| A4 <| A0 <| A3 rfl rfl ?_
 apply xC rfl
 ·apply B0
  ·exact B9 rfl
  apply B0
  ·exact B9 rfl
  exact C4
 ·exact c4k s 32 (by omega)
 refine ⟨⟨rfl, rfl, rfl, dT rfl, rfl⟩, .inl rfl, B3, L8, fun _ => rfl, fun g9 => ?_⟩
 rw [← hws]
 try simp only [List.length_map]
 (refine B2 rfl rfl (by (simp; done)) rfl (fun _ => (B1 (by exact A7 fun _ => rfl))) (fun _ => rfl) ?_; intro g4)
 refine xN [2,4] [2,4] rfl <| A4 <| A0 <| A3 rfl rfl ?_
 rcases hr : rdT ws with _ | ⟨t, r⟩
 ·skip
  apply xC rfl
  ·apply B0
   ·exact J9 rfl rfl (by (simp; done)) (fun _ => rfl)
   exact C4
  ·exact (by have hi := a9q (oG := oG) ws ⟨by omega, fun w hw => by have := hwp w hw; omega⟩; rw [hr] at hi; exact hi)
  refine ⟨⟨rfl, rfl, rfl, dT rfl, rfl⟩, .inl rfl, B3, H8 (I9 rfl (M3 fun _ => I9 rfl M0)), fun _ => B4 (a3d (A7 fun _ => rfl) (by decide)) (by rfl), fun g12 => ?_⟩
  refine A3 rfl rfl <| B7 rfl rfl rfl <| B7 rfl rfl rfl <| B7 rfl rfl rfl <| G5 rfl (fun _ => C0 rfl) (fun _ => rfl) ?_
  intro g5
  refine C7 rfl rfl rfl rfl ⟨by decide, rfl, dT rfl, dT rfl, rfl⟩ rfl (by exact C0 rfl) ?_
  (refine B2 rfl rfl (by (simp; done)) rfl (fun _ => (B1 (by rfl))) (fun _ => rfl) ?_; intro g6)
  refine A5 rfl rfl rfl <| xN [2,4,5,6,7] [2,4,5] rfl <| A4 <| A0 <| E5 rfl rfl rfl rfl rfl <| A3 rfl rfl <| A3 rfl rfl <| G1 rfl rfl rfl <| G1 rfl rfl rfl <| G1 rfl rfl rfl <| D6 rfl rfl rfl rfl <| A3 rfl rfl <| G1 rfl rfl rfl <| G1 rfl rfl rfl <| G1 rfl rfl rfl <| D6 rfl rfl rfl rfl <| C7 rfl rfl rfl rfl ⟨by decide, rfl, dT rfl, dT rfl, rfl⟩ rfl (by exact C0 rfl) <| A5 rfl rfl rfl <| xN [2,3] [2] rfl <| B6 <| D3 (I6 rfl rfl rfl rfl (I4 rfl (I4 rfl (I4 rfl M2))) (D7 rfl rfl (E7 C5))) ?_
  obtain ⟨h1, h2⟩ := d0p hws hr
  rw [h1, h2]
  rfl
 skip
 apply xC rfl
 ·apply B0
  ·exact J9 rfl rfl (by (simp; done)) (fun _ => rfl)
  exact C4
 ·exact (by have hi := a9q (oG := oG) ws ⟨by omega, fun w hw => by have := hwp w hw; omega⟩; rw [hr] at hi; exact hi)
 refine ⟨⟨rfl, rfl, rfl, dT rfl, rfl⟩, .inl rfl, B3, N1 rfl, fun _ => B4 (a3d (A7 fun _ => rfl) (by decide)) (by rfl), fun g12 => ?_⟩
 refine A3 rfl rfl <| B7 rfl rfl rfl <| B7 rfl rfl rfl <| B7 rfl rfl rfl <| G5 rfl (fun _ => C0 rfl) (fun _ => rfl) ?_
 intro g5
 refine C7 rfl rfl rfl rfl ⟨by decide, rfl, dT rfl, dT rfl, rfl⟩ rfl (by exact C0 rfl) <| A5 rfl rfl rfl <| A5 rfl rfl rfl <| xN [2,4,5,6,7] [2,4,5] rfl <| A4 <| A0 <| E5 rfl rfl rfl rfl rfl <| A3 rfl rfl <| A3 rfl rfl <| Q0 rfl rfl rfl <| A3 rfl rfl <| Q0 rfl rfl rfl <| E8 rfl rfl <| Q0 rfl rfl rfl <| N5 rfl rfl <| F0 rfl rfl rfl rfl <| A3 rfl rfl ?_
 refine C8 rfl rfl ?_ ?_ <;> intro hg0 <;> have hg := hg0 <;> try simp only [SG] at hg
 ·refine A3 rfl rfl <| gT rfl rfl <| I1 rfl rfl <| gT rfl rfl <| b2p rfl rfl <| F0 rfl (by assumption) rfl rfl <| C7 rfl rfl rfl rfl ⟨by decide, rfl, dT rfl, dT rfl, rfl⟩ rfl (by exact C0 rfl) <| A5 rfl rfl rfl <| xN [2,3] [2] rfl <| B6 <| D3 (I6 rfl rfl rfl rfl (I4 rfl (I4 rfl (I4 rfl M2))) (D7 rfl rfl (E7 C5))) ?_
  obtain ⟨h1, h2⟩ := c4p hws hr
  rw [h1, h2]
  simp_all
  try rfl
 refine gF rfl rfl <| gF rfl rfl <| D6 rfl (by assumption) rfl rfl <| C7 rfl rfl rfl rfl ⟨by decide, rfl, dT rfl, dT rfl, rfl⟩ rfl (by exact C0 rfl) <| A5 rfl rfl rfl <| xN [2,3] [2] rfl <| B6 <| D3 (I6 rfl rfl rfl rfl (I4 rfl (I4 rfl (I4 rfl M2))) (D7 rfl rfl (E7 C5))) ?_
 obtain ⟨h1, h2⟩ := c4p hws hr
 rw [h1, h2]
 simp_all
 try rfl

theorem keep_s_validPlan : G8 Tryz.f57 = [0, 2, 3, 5, 4, 8] := by kernel_rfl
set_option maxHeartbeats 20000000 in
theorem b8x (s : List UInt8) (hs : s.length ≤ 1048576) : CW (cxT oG) 57 [tV s] = some (.tup [trV (ipT s), bV (rdPlan s).isSome], []) := by
 have hip := d4b s
 refine G9 rfl Tryz.func57 rfl ⟨by kernel_rfl, rfl, dT rfl, dT rfl, by decide⟩ keep_s_validPlan <| A4 <| A0 <| G5 rfl (fun _ => C0 rfl) (fun _ => rfl) ?_
 intro g2
 refine A5 rfl rfl rfl <| xN [0,2] [2] rfl <| A4 <| A0 <| A3 rfl rfl ?_
 apply xC rfl
 ·apply B0
  ·exact B9 rfl
  exact C4
 ·exact b8j s hs
 refine ⟨⟨rfl, rfl, rfl, dT rfl, rfl⟩, .inl rfl, B3, N1 rfl, fun _ => rfl, fun g8 => ?_⟩
 refine A3 rfl rfl <| B7 rfl rfl rfl <| B7 rfl rfl rfl <| G5 rfl (fun _ => C0 rfl) (fun _ => rfl) ?_
 intro g4
 refine C7 rfl rfl rfl rfl ⟨by decide, rfl, dT rfl, dT rfl, rfl⟩ rfl (by exact C0 rfl) <| A5 rfl rfl rfl <| xN [0,2,4,5] [2,4] rfl <| A4 <| A0 <| E5 rfl rfl rfl rfl rfl <| A3 rfl rfl <| A3 rfl rfl ?_
 refine C8 rfl rfl ?_ ?_ <;> intro hg0 <;> have hg := hg0 <;> try simp only [SG] at hg
 ·refine A3 rfl rfl <| gT rfl rfl <| a2c rfl rfl <| gT rfl rfl <| b2p rfl rfl <| F0 rfl (by assumption) rfl rfl <| C7 rfl rfl rfl rfl ⟨by decide, rfl, dT rfl, dT rfl, rfl⟩ rfl (by exact C0 rfl) <| A5 rfl rfl rfl <| xN [2,3] [2] rfl <| B6 <| D3 (I6 rfl rfl rfl rfl (I4 rfl (I4 rfl (I4 rfl M2))) (D7 rfl rfl (E7 C5))) ?_
  rw [← hip]
  simp_all
  try rfl
 refine gF rfl rfl <| gF rfl rfl <| D6 rfl (by assumption) rfl rfl <| C7 rfl rfl rfl rfl ⟨by decide, rfl, dT rfl, dT rfl, rfl⟩ rfl (by exact C0 rfl) <| A5 rfl rfl rfl <| xN [2,3] [2] rfl <| B6 <| D3 (I6 rfl rfl rfl rfl (I4 rfl (I4 rfl (I4 rfl M2))) (D7 rfl rfl (E7 C5))) ?_
 rw [← hip]
 simp_all
 try rfl

theorem keep_s_pick : G8 Tryz.f91 = [0, 1, 4, 24, 5, 36, 6] := by kernel_rfl
set_option maxHeartbeats 20000000 in
theorem a0l (bs : List Int) (p : Int) (hbs : a4d bs) (hl : bs.length ≤ 1048576) (hp : 0 ≤ p ∧ p ≤ 1000000000) (n : Int) (hn : n ≤ 1000000000) : ∃ res outs, (fun res outs => ∃ k, res = iV k ∧ outs = [[rdr bs (p + 1)]] ∧ (1 ≤ n → 0 ≤ k ∧ k < n) ∧ (n < 1 → k = 0)) res outs ∧ CW (cxT oG) 91 [.ownp [rdr bs p] 0 0, iV n] = some (res, outs) := by
 refine T7 rfl Tryz.func91 rfl ⟨by kernel_rfl, rfl, dT rfl, dT rfl, by decide⟩ keep_s_pick <| A4 <| A0 <| A5 rfl rfl rfl <| xN [0,1] [0] rfl <| A4 <| A0 <| A3 rfl rfl <| A3 rfl rfl <| J8 rfl rfl rfl <| A8 rfl rfl (dT rfl) rfl rfl <| B8 rfl rfl rfl rfl rfl rfl <| H5 rfl rfl (F4 (by omega)) <| J8 rfl rfl rfl <| A8 rfl rfl (dT rfl) rfl rfl <| V6 rfl rfl rfl rfl rfl ⟨by decide, rfl, dT rfl, dT rfl, rfl⟩ (by exact c6h rfl) <| xN [0,1] [0] rfl <| A4 <| A4 <| A0 <| A3 rfl rfl <| I0 rfl rfl <| A3 rfl rfl ?_
 refine C8 rfl rfl ?_ ?_ <;> intro hg0 <;> have hg := hg0 <;> try simp only [SG] at hg
 ·refine A3 rfl rfl <| gT rfl rfl <| J8 rfl rfl rfl <| gT rfl rfl <| A8 rfl rfl (dT rfl) rfl rfl <| gT rfl rfl <| B8 rfl rfl rfl rfl rfl rfl <| gT rfl rfl <| E8 rfl rfl <| gT rfl rfl <| N5 rfl rfl <| D6 rfl (by assumption) rfl rfl <| xN [0,1,24] [0] rfl ?_
  refine A9 rfl ?_ ?_ <;> intro hc <;> try simp only [SL] at hc
  ·refine A4 <| A0 <| A5 rfl rfl rfl <| xN [4] [0] rfl <| B6 ?_
   refine ⟨_, _, ?_, K4 rfl rfl (K1 rfl rfl)⟩
   refine ⟨_, rfl, rfl, fun h => ?_, fun h => ?_⟩
   ·omega
   omega
  refine B5 <| A4 <| A0 <| A3 rfl rfl <| J8 rfl rfl rfl <| A8 rfl rfl (dT rfl) rfl rfl <| B8 rfl rfl rfl rfl rfl rfl <| a1j rfl rfl (F4 (by omega)) <| A5 rfl rfl rfl <| xN [0,1,5] [0] rfl <| A4 <| A4 <| A0 <| A3 rfl rfl <| A3 rfl rfl <| J8 rfl rfl rfl <| A8 rfl rfl (dT rfl) rfl rfl <| B8 rfl rfl rfl rfl rfl rfl <| E8 rfl rfl <| I0 rfl rfl <| xN [0,1,5,36] [0] rfl ?_
  refine A9 rfl ?_ ?_ <;> intro hc <;> try simp only [SL] at hc
  ·refine A4 <| A0 <| A3 rfl rfl <| J8 rfl rfl rfl <| A8 rfl rfl (dT rfl) rfl rfl <| B8 rfl rfl rfl rfl rfl rfl <| A3 rfl rfl <| J3 rfl rfl rfl (fun _ => rfl) (by omega) <| F5 rfl rfl rfl <| a8l rfl rfl rfl (F4 (by have := hbs.getD (p + 1 - 1).toNat; omega)) <| A3 rfl rfl ?_
   have hk := hbs.getD (p + 1 - 1).toNat
   refine b8y rfl rfl (by omega) <| A5 rfl rfl rfl <| xN [4] [0] rfl <| B6 ?_
   refine ⟨_, _, ?_, K4 rfl rfl (K1 rfl rfl)⟩
   refine ⟨_, rfl, rfl, fun h => ?_, fun h => ?_⟩
   ·exact b1a (by omega) (by omega)
   omega
  refine B5 <| A4 <| A0 <| A3 rfl rfl <| J8 rfl rfl rfl <| A8 rfl rfl (dT rfl) rfl rfl <| B8 rfl rfl rfl rfl rfl rfl <| A3 rfl rfl <| A3 rfl rfl <| J8 rfl rfl rfl <| A8 rfl rfl (dT rfl) rfl rfl <| B8 rfl rfl rfl rfl rfl rfl <| E8 rfl rfl ?_
  have hlen : 0 < (bs.length : Int) := by omega
  refine b8y rfl rfl (by omega) ?_
  have hm1 := b1a (a := p + 1 - 1) (by omega) hlen
  refine J3 rfl rfl rfl (fun _ => rfl) (by omega) <| F5 rfl rfl rfl <| a8l rfl rfl rfl (F4 (by have := hbs.getD ((p + 1 - 1).tmod bs.length).toNat; omega)) ?_
  have hk := hbs.getD ((p + 1 - 1).tmod bs.length).toNat
  refine a9n rfl rfl (F4 (by omega)) <| A3 rfl rfl <| J8 rfl rfl rfl <| A8 rfl rfl (dT rfl) rfl rfl <| B8 rfl rfl rfl rfl rfl rfl <| A3 rfl rfl <| a9n rfl rfl (F4 (by omega)) <| H5 rfl rfl (F4 (by omega)) <| A3 rfl rfl <| J8 rfl rfl rfl <| A8 rfl rfl (dT rfl) rfl rfl <| B8 rfl rfl rfl rfl rfl rfl <| E8 rfl rfl <| b8y rfl rfl (by omega) ?_
  have hm2 := b1a (a := (p + 1 - 1) * 7 + 3) (by omega) hlen
  refine J3 rfl rfl rfl (fun _ => rfl) (by omega) <| F5 rfl rfl rfl <| a8l rfl rfl rfl (F4 (by have := hbs.getD (((p + 1 - 1) * 7 + 3).tmod bs.length).toNat; omega)) ?_
  have hk2 := hbs.getD (((p + 1 - 1) * 7 + 3).tmod bs.length).toNat
  refine a9n rfl rfl (F4 (by omega)) <| H5 rfl rfl (F4 (by omega)) <| A3 rfl rfl <| a9n rfl rfl (F4 (by omega)) <| H5 rfl rfl (F4 (by omega)) <| A3 rfl rfl <| A3 rfl rfl <| J8 rfl rfl rfl <| A8 rfl rfl (dT rfl) rfl rfl <| B8 rfl rfl rfl rfl rfl rfl <| E8 rfl rfl ?_
  have hd := c4u (a := p + 1 - 1) (b := bs.length) (by omega) (by omega)
  refine c7y rfl rfl ⟨by omega, F4 (by omega)⟩ <| a9n rfl rfl (F4 (by omega)) <| H5 rfl rfl (F4 (by omega)) <| A5 rfl rfl rfl ?_
  refine G6 ⟨fun _ => ⟨by decide +kernel, by decide +kernel⟩, [(.t 1, _), (.t 6, _), (.h 0, _)], ⟨rfl, rfl, rfl, rfl, rfl, rfl, trivial⟩, ?_⟩
  refine A4 <| A0 <| A3 rfl rfl <| A3 rfl rfl ?_
  have hd2 := c4u (a := (bs.getD ((p + 1 - 1).tmod bs.length).toNat default * 131 + bs.getD (((p + 1 - 1) * 7 + 3).tmod bs.length).toNat default * 1117 + (p + 1 - 1) * 29 + (p + 1 - 1).tdiv bs.length * 53)) (b := 64) (by omega) (by decide)
  refine c7y rfl rfl ⟨by omega, F4 (by omega)⟩ ?_
  have hx := d2y (x := (bs.getD ((p + 1 - 1).tmod bs.length).toNat default * 131 + bs.getD (((p + 1 - 1) * 7 + 3).tmod bs.length).toNat default * 1117 + (p + 1 - 1) * 29 + (p + 1 - 1).tdiv bs.length * 53)) (by omega) (y := (bs.getD ((p + 1 - 1).tmod bs.length).toNat default * 131 + bs.getD (((p + 1 - 1) * 7 + 3).tmod bs.length).toNat default * 1117 + (p + 1 - 1) * 29 + (p + 1 - 1).tdiv bs.length * 53).tdiv 64) (by omega)
  refine d3p rfl rfl <| A5 rfl rfl rfl <| xN [1,6] [0] rfl <| A4 <| A0 <| A3 rfl rfl <| A3 rfl rfl <| b8y rfl rfl (by omega) <| A5 rfl rfl rfl <| xN [4] [0] rfl <| B6 ?_
  refine ⟨_, _, ?_, K4 rfl rfl (K1 rfl rfl)⟩
  refine ⟨_, rfl, rfl, fun h => ?_, fun h => ?_⟩
  ·exact b1a (by omega) (by omega)
  omega
 iterate 5 refine gF rfl rfl ?_
 refine F0 rfl (by assumption) rfl rfl <| xN [0,1,24] [0] rfl ?_
 refine A9 rfl (fun hc => ?_) (fun hc => absurd hc (by decide))
 refine A4 <| A0 <| A5 rfl rfl rfl <| xN [4] [0] rfl <| B6 ?_
 refine ⟨_, _, ?_, K4 rfl rfl (K1 rfl rfl)⟩
 refine ⟨_, rfl, rfl, fun h => ?_, fun h => ?_⟩
 ·omega
 omega

theorem keep_s_one : G8 Tryz.f94 = [0, 1, 4] := by kernel_rfl
set_option maxHeartbeats 20000000 in
theorem c8s (bs : List Int) (p : Int) (hbs : a4d bs) (hl : bs.length ≤ 1048576) (hp : 0 ≤ p ∧ p ≤ 1000000000) (xs : List Int) (hx : 1 ≤ xs.length ∧ xs.length ≤ 1000) : ∃ res outs, (fun res outs => ∃ k, res = iV k ∧ outs = [[rdr bs (p + 1)]] ∧ k ∈ xs) res outs ∧ CW (cxT oG) 94 [.ownp [rdr bs p] 0 0, L xs] = some (res, outs) := by
 refine T7 rfl Tryz.func94 rfl ⟨by kernel_rfl, rfl, dT rfl, dT rfl, by decide⟩ keep_s_one <| A4 <| A0 <| A5 rfl rfl rfl <| xN [0,1] [0] rfl <| A4 <| A0 <| A3 rfl rfl <| A3 rfl rfl <| A3 rfl rfl <| E8 rfl rfl ?_
 obtain ⟨_, _, ⟨k, rfl, rfl, hk1, hk2⟩, hC⟩ := a0l (oG := oG) bs p hbs hl hp xs.length (by omega)
 have hk1 := hk1 (by omega)
 apply xC rfl
 ·apply B0
  ·exact L3 rfl (by decide) rfl
  apply B0
  ·exact B9 rfl
  exact C4
 ·exact hC
 refine ⟨⟨rfl, rfl, rfl, dT rfl, rfl⟩, .inl rfl, H4 rfl rfl rfl B3, C3 rfl, fun _ => rfl, fun g9 => ?_⟩
 refine J3 rfl rfl rfl (fun _ => rfl) (by omega) <| F5 rfl rfl rfl <| A5 rfl rfl rfl <| xN [4] [0] rfl <| B6 ?_
 refine ⟨_, _, ?_, K4 rfl rfl (K1 rfl rfl)⟩
 refine ⟨_, rfl, rfl, a5o (by omega)⟩

theorem keep_s_newReader : G8 Tryz.f54 = [0, 2, 5] := by kernel_rfl
set_option maxHeartbeats 20000000 in
theorem b8t (bs : List Int) (hl : bs.length ≤ 1048576) : ∃ res outs, (fun res outs => res = .ownp [rdr (bs.take 2000) 0] 0 0 ∧ outs = []) res outs ∧ CW (cxT oG) 54 [.list (bs.map uV)] = some (res, outs) := by
 refine T7 rfl Tryz.func54 rfl ⟨by kernel_rfl, rfl, dT rfl, dT rfl, by decide⟩ keep_s_newReader <| A4 <| A0 <| A5 rfl rfl rfl <| xN [0] [] rfl <| A4 <| A4 <| A0 <| A3 rfl rfl <| E8 rfl rfl <| a0c rfl rfl <| xN [0,5] [] rfl ?_
 refine A9 rfl ?_ ?_ <;> intro hc <;> try simp only [SL] at hc
 ·refine A0 <| A3 rfl rfl <| N6 rfl rfl rfl (Mv.sized_map fun _ => rfl) (H6 rfl) J5 (by (simp; omega)) <| A5 rfl rfl rfl <| xN [0] [] rfl <| A4 <| A0 <| A3 rfl rfl <| I7 (fs := [_, _]) rfl rfl rfl rfl rfl <| a0e rfl rfl rfl (fun _ => C0 rfl) (fun _ => rfl) ?_
  intro g10
  (refine a7a rfl rfl rfl rfl (fun _ => C0 rfl) (fun _ => rfl) ?_; intro g2)
  refine xN [2] [2] rfl <| B6 ?_
  refine ⟨_, _, ?_, c4a rfl rfl rfl C5⟩
  have e : rdr (bs.take 2000) 0 = .agg [.list ((bs.map uV).take 2000), iV 0] := by unfold rdr; rw [List.map_take]
  rw [e]
  exact ⟨rfl, rfl⟩
 refine B5 <| A4 <| A0 <| A3 rfl rfl <| I7 (fs := [_, _]) rfl rfl rfl rfl rfl <| a0e rfl rfl rfl (fun _ => C0 rfl) (fun _ => rfl) ?_
 intro g10
 (refine a7a rfl rfl rfl rfl (fun _ => C0 rfl) (fun _ => rfl) ?_; intro g2)
 refine xN [2] [2] rfl <| B6 ?_
 refine ⟨_, _, ?_, c4a rfl rfl rfl C5⟩
 have e : bs.take 2000 = bs := List.take_of_length_le (by omega)
 rw [e]
 exact ⟨rfl, rfl⟩

theorem keep_s_ofT : G8 Tryz.f92 = [0, 1, 4] := by kernel_rfl
set_option maxHeartbeats 20000000 in
theorem b0e (bs : List Int) (p : Int) (hbs : a4d bs) (hl : bs.length ≤ 1048576) (hp : 0 ≤ p ∧ p ≤ 1000000000) (ss : List W8) (hs : 1 ≤ ss.length ∧ ss.length ≤ 1000) : ∃ res outs, (fun res outs => ∃ k, res = tV k ∧ outs = [[rdr bs (p + 1)]] ∧ k ∈ ss) res outs ∧ CW (cxT oG) 92 [.ownp [rdr bs p] 0 0, .list (ss.map tV)] = some (res, outs) := by
 refine T7 rfl Tryz.func92 rfl ⟨by kernel_rfl, rfl, dT rfl, dT rfl, by decide⟩ keep_s_ofT <| A4 <| A0 <| A5 rfl rfl rfl <| xN [0,1] [0] rfl <| A4 <| A0 <| A3 rfl rfl <| A3 rfl rfl <| A3 rfl rfl <| E8 rfl rfl ?_
 obtain ⟨_, _, ⟨k, rfl, rfl, hk, -⟩, hC⟩ := a0l (oG := oG) bs (p) hbs hl (by omega) (ss.length) (by omega)
 have hk := hk (by omega)
 apply xC rfl
 ·apply B0
  ·exact L3 rfl (by decide) rfl
  apply B0
  ·exact B9 rfl
  exact C4
 ·exact hC
 refine ⟨⟨rfl, rfl, rfl, dT rfl, rfl⟩, .inl rfl, H4 rfl rfl rfl B3, C3 rfl, fun _ => rfl, fun g9 => ?_⟩
 refine J3 rfl rfl rfl (fun _ => rfl) (by omega) <| F5 rfl rfl rfl <| A5 rfl rfl rfl <| xN [4] [0] rfl <| B6 ?_
 refine ⟨_, _, ?_, K4 rfl rfl (K1 rfl rfl)⟩
 refine ⟨_, rfl, rfl, L1 (by omega)⟩

theorem keep_s_planText : G8 Tryz.f93 = [0, 1, 4, 15, 18, 6, 5, 29, 42, 7, 50, 8] := by kernel_rfl
set_option maxHeartbeats 20000000 in
theorem c3o (bs : List Int) (p : Int) (d : Nat) (hbs : a4d bs) (hl : bs.length ≤ 1048576) (hp : 0 ≤ p ∧ p + gN d ≤ 50000000)  (hd : d ≤ 5) : ∃ res outs, (fun res outs => ∃ (x : W8) (q : Int), res = tV x ∧ outs = [[rdr bs q]] ∧ p ≤ q ∧ q ≤ p + gN d ∧ x.length ≤ lN d) res outs ∧ CW (cxT oG) 93 [.ownp [rdr bs p] 0 0, iV d] = some (res, outs) := by
 obtain ⟨kk, hkk⟩ : ∃ kk : Nat, d < kk := ⟨_, Nat.lt_succ_self _⟩
 revert bs p d
 induction kk with
 | zero => intro bs p d hbs hl hp hd hkk; exact absurd hkk (Nat.not_lt_zero _)
 | succ kk ih =>
  intro bs p d hbs hl hp hd hkk
  have hgd := b6x d
  have hld := c2k d
  refine T7 rfl Tryz.func93 rfl ⟨by kernel_rfl, rfl, dT rfl, dT rfl, by decide⟩ keep_s_planText <| A4 <| A0 <| A5 rfl rfl rfl <| xN [0,1] [0] rfl <| A4 <| A4 <| A0 <| A3 rfl rfl <| N5 rfl rfl <| A3 rfl rfl ?_
  refine C8 rfl rfl ?_ ?_ <;> intro hg0 <;> have hg := hg0 <;> try simp only [SG] at hg
  ·refine A3 rfl rfl <| gT rfl rfl ?_
   obtain ⟨_, _, ⟨k0, rfl, rfl, hk0, -⟩, hC0⟩ := a0l (oG := oG) bs (p) hbs hl (by omega) (5) (by omega)
   have hk0 := hk0 (by omega)
   apply xC rfl
   ·apply B0
    ·exact L3 rfl (by decide) rfl
    apply B0
    ·exact B9 rfl
    exact C4
   ·exact hC0
   refine ⟨⟨rfl, rfl, rfl, dT rfl, rfl⟩, .inl rfl, H4 rfl rfl rfl B3, C3 rfl, fun _ => rfl, fun g13 => ?_⟩
   refine gT rfl rfl <| N5 rfl rfl <| D6 rfl (by assumption) rfl rfl <| xN [0,1,15] [0] rfl ?_
   refine A9 rfl ?_ ?_ <;> intro hc <;> try simp only [SL] at hc
   ·refine A4 <| A4 <| A0 <| A3 rfl rfl ?_
    obtain ⟨_, _, ⟨k1, rfl, rfl, hk1, -⟩, hC1⟩ := a0l (oG := oG) bs (p + 1) hbs hl (by omega) (2) (by omega)
    have hk1 := hk1 (by omega)
    apply xC rfl
    ·apply B0
     ·exact L3 rfl (by decide) rfl
     apply B0
     ·exact B9 rfl
     exact C4
    ·exact hC1
    refine ⟨⟨rfl, rfl, rfl, dT rfl, rfl⟩, .inl rfl, H4 rfl rfl rfl B3, C3 rfl, fun _ => rfl, fun g17 => ?_⟩
    refine N5 rfl rfl <| xN [0,18] [0] rfl ?_
    refine A9 rfl ?_ ?_ <;> intro hc <;> try simp only [SL] at hc
    ·refine A4 <| A0 <| A3 rfl rfl <| E6 (es := List.map tV [[97], [98], [97], [99], [100]]) rfl rfl (dT rfl) rfl rfl (fun _ => B1 (A7 fun _ => rfl)) (fun _ => rfl) ?_
     intro g20
     obtain ⟨_, _, ⟨w1, rfl, rfl, hw1⟩, hC2⟩ := b0e (oG := oG) bs (p + 1 + 1) hbs hl (by omega) [[97], [98], [97], [99], [100]] (by decide)
     have hw1b : w1.length ≤ 1 := by have hall : ∀ x ∈ ([[97], [98], [97], [99], [100]] : List W8), x.length ≤ 1 := (by decide); exact hall _ hw1
     apply xC rfl
     ·apply B0
      ·exact L3 rfl (by decide) rfl
      apply B0
      ·exact J9 rfl rfl (by (simp; done)) (fun _ => rfl)
      exact C4
     ·exact hC2
     refine ⟨⟨rfl, rfl, rfl, dT rfl, rfl⟩, .inl rfl, H4 rfl rfl rfl B3, C3 rfl, fun _ => rfl, fun g21 => ?_⟩
     refine A5 rfl rfl rfl <| xN [4] [0] rfl <| B6 ?_
     refine ⟨_, _, ?_, K4 rfl rfl (K1 rfl rfl)⟩
     exact ⟨_, _, rfl, rfl, by omega, by omega, by omega⟩
    refine B5 <| A4 <| A0 <| E6 (es := List.map iV []) rfl rfl (dT rfl) rfl rfl (fun _ => B1 (A7 fun _ => rfl)) (fun _ => rfl) ?_
    intro g22
    (refine B2 rfl rfl (by (simp; done)) rfl (fun _ => (B1 (by exact A7 fun _ => rfl))) (fun _ => rfl) ?_; intro g5)
    refine xN [0,5] [0,5] rfl <| A4 <| A4 <| A0 <| A3 rfl rfl <| E6 (es := List.map iV [2, 3, 1, 0, 4]) rfl rfl (dT rfl) rfl rfl (fun _ => B1 (A7 fun _ => rfl)) (fun _ => rfl) ?_
    intro g24
    obtain ⟨_, _, ⟨n1, rfl, rfl, hn1⟩, hC3⟩ := c8s (oG := oG) bs (p + 1 + 1) hbs hl (by omega) [2, 3, 1, 0, 4] (by decide)
    have hn1b : 0 ≤ n1 ∧ n1 ≤ 4 := by simp at hn1; omega
    apply xC rfl
    ·apply B0
     ·exact L3 rfl (by decide) rfl
     apply B0
     ·exact J9 rfl rfl (by (simp; done)) (fun _ => rfl)
     exact C4
    ·exact hC3
    refine ⟨⟨rfl, rfl, rfl, dT rfl, rfl⟩, .inl rfl, H4 rfl rfl rfl B3, C3 rfl, fun _ => rfl, fun g25 => ?_⟩
    refine A5 rfl rfl rfl <| xN [0,5,6] [0,5] rfl <| C6 <| J6 (β := List Int × Nat × Int) [(.t 0, _), (.t 6, _)] (fun (z : List Int × Nat × Int) => match z with | (xs, g, q) => [(.h 0, .obj 1 4 0 [rdr bs q]), (.t 5, .sl 5 g none 0 xs.length), (.h 5, .obj g 0 1 (xs.map iV))]) (fun (z : List Int × Nat × Int) => match z with | (xs, g, q) => (xs.length : Int) ≤ n1 ∧ p ≤ q ∧ q ≤ p + 4 + xs.length ∧ ∀ x ∈ xs, -20 ≤ x ∧ x ≤ 20) (fun (z : List Int × Nat × Int) => match z with | (xs, g, q) => 5 - xs.length) ([], _, _) ⟨rfl, rfl, rfl, rfl, rfl, trivial⟩ ⟨by simp; omega, by omega, by omega, by simp⟩ ?_
    intro z hb
    obtain ⟨xs, g, q⟩ := z
    try dsimp only at hb
    obtain ⟨hx1, hq1, hq2, hxb⟩ := hb
    refine A4 <| A4 <| A0 <| A3 rfl rfl <| I1 rfl rfl <| A3 rfl rfl <| I0 rfl rfl <| xN [0,5,6,29] [0,5] rfl ?_
    refine A9 rfl ?_ ?_ <;> intro hc <;> try simp only [SL] at hc
    ·refine B5 <| C6 <| A0 <| A3 rfl rfl <| A3 rfl rfl ?_
     obtain ⟨_, _, ⟨k2, rfl, rfl, hk2, -⟩, hC4⟩ := a0l (oG := oG) bs (q) hbs hl (by omega) (41) (by omega)
     have hk2 := hk2 (by omega)
     apply xC rfl
     ·apply B0
      ·exact L3 rfl (by decide) rfl
      apply B0
      ·exact B9 rfl
      exact C4
     ·exact hC4
     refine ⟨⟨rfl, rfl, rfl, dT rfl, rfl⟩, .inl rfl, H4 rfl rfl rfl B3, C3 rfl, fun _ => rfl, fun g32 => ?_⟩
     refine a1j rfl rfl (F4 (by omega)) <| E6 (es := List.map iV [k2 - 20]) rfl rfl (dT rfl) rfl rfl (fun _ => B1 (A7 fun _ => rfl)) (fun _ => rfl) ?_
     intro g34
     refine H0 rfl rfl rfl rfl (by (simp; done)) (by simp) (by decide) rfl rfl rfl rfl (dT rfl) (fun _ => ⟨rfl, rfl⟩) (by simp only [H7]; (simp only [List.length_nil, List.length_cons, List.length_append, Nat.zero_add, List.length_map]; omega)) (fun _ => rfl) ?_
     intro g35
     (refine B2 rfl rfl (by (simp; done)) rfl (fun _ => (B1 (by exact A7 fun _ => rfl))) (fun _ => rfl) ?_; intro g5)
     refine xN [0,5,6] [0,5] rfl ?_
     refine ⟨(xs ++ [k2 - 20], _, q + 1), ?_, (by simp only [List.length_append, List.length_singleton]; omega), ⟨rfl, rfl, rfl, rfl, rfl, trivial⟩⟩
     refine ⟨?_, ?_, ?_, fun x hx => ?_⟩
     ·simp only [List.length_append, List.length_singleton]; omega
     ·omega
     ·simp only [List.length_append, List.length_singleton]; omega
     rcases List.mem_append.1 hx with hx | hx
     ·exact hxb x hx
     rw [List.mem_singleton.1 hx]; omega
    refine H1 <| A4 <| A0 <| A3 rfl rfl ?_
    have hll := a2w (ns := xs) (fun n hn => by have := hxb n hn; omega)
    apply xC rfl
    ·apply B0
     ·exact O5 rfl rfl rfl (by (simp; done)) (fun _ => rfl)
     exact C4
    ·exact b3u xs (by omega) (fun n hn => by have := hxb n hn; omega)
    refine ⟨⟨rfl, rfl, rfl, dT rfl, rfl⟩, .inr ⟨rfl, rfl⟩, B3, C3 rfl, fun _ => rfl, fun g37 => ?_⟩
    iterate 2 refine P4 rfl rfl (by simp only [H7, List.length_append, List.length_cons, List.length_nil]; omega) ?_
    refine A5 rfl rfl rfl <| xN [4] [0] rfl <| B6 ?_
    refine ⟨_, _, ?_, K4 rfl rfl (K1 rfl rfl)⟩
    exact ⟨_, _, rfl, rfl, by omega, by omega, by (simp only [List.length_append, List.length_cons, List.length_nil]; omega)⟩
   obtain ⟨d1, rfl⟩ : ∃ d1, d = d1 + 1 := ⟨d - 1, by omega⟩
   have hge : gN (d1 + 1) = 2 * gN d1 + 20 := rfl
   have hle : lN (d1 + 1) = 2 * lN d1 + 60 := rfl
   have hgp := b6x d1
   have hlp := c2k d1
   have hlm := c4l (d := d1 + 1) hd
   refine B5 <| A4 <| A4 <| A0 <| A3 rfl rfl ?_
   obtain ⟨_, _, ⟨k3, rfl, rfl, hk3, -⟩, hC5⟩ := a0l (oG := oG) bs (p + 1) hbs hl (by omega) (4) (by omega)
   have hk3 := hk3 (by omega)
   apply xC rfl
   ·apply B0
    ·exact L3 rfl (by decide) rfl
    apply B0
    ·exact B9 rfl
    exact C4
   ·exact hC5
   refine ⟨⟨rfl, rfl, rfl, dT rfl, rfl⟩, .inl rfl, H4 rfl rfl rfl B3, C3 rfl, fun _ => rfl, fun g41 => ?_⟩
   refine N5 rfl rfl <| xN [0,1,42] [0] rfl ?_
   refine A9 rfl ?_ ?_ <;> intro hc <;> try simp only [SL] at hc
   ·refine A4 <| A0 <| A3 rfl rfl <| A3 rfl rfl <| a1j rfl rfl (F4 (by omega)) ?_
    obtain ⟨_, _, ⟨x1, q1, rfl, rfl, hx11, hx12, hx13⟩, hC6⟩ := ih bs (p + 1 + 1) d1 hbs hl (by omega) (by omega) (by omega)
    rw [show ((d1 + 1 : Nat) : Int) - 1 = (d1 : Int) by omega]
    apply xC rfl
    ·apply B0
     ·exact L3 rfl (by decide) rfl
     apply B0
     ·exact B9 rfl
     exact C4
    ·exact hC6
    refine ⟨⟨rfl, rfl, rfl, dT rfl, rfl⟩, .inl rfl, H4 rfl rfl rfl B3, C3 rfl, fun _ => rfl, fun g46 => ?_⟩
    refine A5 rfl rfl rfl <| xN [0,1,7] [0] rfl <| A4 <| A0 <| A3 rfl rfl <| A5 rfl rfl rfl <| xN [0,1,7,8] [0] rfl <| A4 <| A4 <| A0 <| A3 rfl rfl ?_
    obtain ⟨_, _, ⟨k4, rfl, rfl, hk4, -⟩, hC7⟩ := a0l (oG := oG) bs (q1) hbs hl (by omega) (2) (by omega)
    have hk4 := hk4 (by omega)
    apply xC rfl
    ·apply B0
     ·exact L3 rfl (by decide) rfl
     apply B0
     ·exact B9 rfl
     exact C4
    ·exact hC7
    refine ⟨⟨rfl, rfl, rfl, dT rfl, rfl⟩, .inl rfl, H4 rfl rfl rfl B3, C3 rfl, fun _ => rfl, fun g49 => ?_⟩
    refine N5 rfl rfl <| xN [0,1,7,8,50] [0] rfl ?_
    refine A9 rfl ?_ ?_ <;> intro hc <;> try simp only [SL] at hc
    ·refine A0 <| A3 rfl rfl <| A3 rfl rfl <| a1j rfl rfl (F4 (by omega)) ?_
     obtain ⟨_, _, ⟨x2, q2, rfl, rfl, hx21, hx22, hx23⟩, hC8⟩ := ih bs (q1 + 1) d1 hbs hl (by omega) (by omega) (by omega)
     rw [show ((d1 + 1 : Nat) : Int) - 1 = (d1 : Int) by omega]
     apply xC rfl
     ·apply B0
      ·exact L3 rfl (by decide) rfl
      apply B0
      ·exact B9 rfl
      exact C4
     ·exact hC8
     refine ⟨⟨rfl, rfl, rfl, dT rfl, rfl⟩, .inl rfl, H4 rfl rfl rfl B3, C3 rfl, fun _ => rfl, fun g54 => ?_⟩
     refine A5 rfl rfl rfl <| xN [0,7,8] [0] rfl <| A4 <| A0 <| A3 rfl rfl <| E6 (es := List.map tV [[97, 100, 100], [106, 111, 105, 110], [106, 111, 105, 110]]) rfl rfl (dT rfl) rfl rfl (fun _ => B1 (A7 fun _ => rfl)) (fun _ => rfl) ?_
     intro g56
     obtain ⟨_, _, ⟨w2, rfl, rfl, hw2⟩, hC9⟩ := b0e (oG := oG) bs (q2) hbs hl (by omega) [[97, 100, 100], [106, 111, 105, 110], [106, 111, 105, 110]] (by decide)
     have hw2b : w2.length ≤ 4 := by have hall : ∀ x ∈ ([[97, 100, 100], [106, 111, 105, 110], [106, 111, 105, 110]] : List W8), x.length ≤ 4 := (by decide); exact hall _ hw2
     apply xC rfl
     ·apply B0
      ·exact L3 rfl (by decide) rfl
      apply B0
      ·exact J9 rfl rfl (by (simp; done)) (fun _ => rfl)
      exact C4
     ·exact hC9
     refine ⟨⟨rfl, rfl, rfl, dT rfl, rfl⟩, .inl rfl, H4 rfl rfl rfl B3, C3 rfl, fun _ => rfl, fun g57 => ?_⟩
     refine P4 rfl rfl (by simp only [H7, List.length_append, List.length_cons, List.length_nil]; omega) <| A3 rfl rfl ?_
     iterate 2 refine P4 rfl rfl (by simp only [H7, List.length_append, List.length_cons, List.length_nil]; omega) ?_
     refine A3 rfl rfl <| P4 rfl rfl (by simp only [H7, List.length_append, List.length_cons, List.length_nil]; omega) <| A5 rfl rfl rfl <| xN [4] [0] rfl <| B6 ?_
     refine ⟨_, _, ?_, K4 rfl rfl (K1 rfl rfl)⟩
     exact ⟨_, _, rfl, rfl, by omega, by omega, by (simp only [List.length_append, List.length_cons, List.length_nil]; omega)⟩
    refine B5 <| A4 <| A0 <| A3 rfl rfl <| E6 (es := List.map tV [[97, 100, 100], [106, 111, 105, 110], [106, 111, 105, 110]]) rfl rfl (dT rfl) rfl rfl (fun _ => B1 (A7 fun _ => rfl)) (fun _ => rfl) ?_
    intro g56
    obtain ⟨_, _, ⟨w2, rfl, rfl, hw2⟩, hC9⟩ := b0e (oG := oG) bs (q1 + 1) hbs hl (by omega) [[97, 100, 100], [106, 111, 105, 110], [106, 111, 105, 110]] (by decide)
    have hw2b : w2.length ≤ 4 := by have hall : ∀ x ∈ ([[97, 100, 100], [106, 111, 105, 110], [106, 111, 105, 110]] : List W8), x.length ≤ 4 := (by decide); exact hall _ hw2
    apply xC rfl
    ·apply B0
     ·exact L3 rfl (by decide) rfl
     apply B0
     ·exact J9 rfl rfl (by (simp; done)) (fun _ => rfl)
     exact C4
    ·exact hC9
    refine ⟨⟨rfl, rfl, rfl, dT rfl, rfl⟩, .inl rfl, H4 rfl rfl rfl B3, C3 rfl, fun _ => rfl, fun g57 => ?_⟩
    refine P4 rfl rfl (by simp only [H7, List.length_append, List.length_cons, List.length_nil]; omega) <| A3 rfl rfl ?_
    iterate 2 refine P4 rfl rfl (by simp only [H7, List.length_append, List.length_cons, List.length_nil]; omega) ?_
    refine A3 rfl rfl <| P4 rfl rfl (by simp only [H7, List.length_append, List.length_cons, List.length_nil]; omega) <| A5 rfl rfl rfl <| xN [4] [0] rfl <| B6 ?_
    refine ⟨_, _, ?_, K4 rfl rfl (K1 rfl rfl)⟩
    exact ⟨_, _, rfl, rfl, by omega, by omega, by (simp only [List.length_append, List.length_cons, List.length_nil]; omega)⟩
   refine B5 <| A4 <| A0 <| A3 rfl rfl <| E6 (es := List.map tV [[115, 111, 114, 116], [114, 101, 118], [110, 101, 103], [97, 98, 115], [100, 105, 102, 102], [115, 117, 109, 115], [114, 97, 110, 107, 115], [116, 111, 116, 97, 108], [115, 111, 114, 116], [114, 101, 118], [110, 101, 103], [97, 98, 115]]) rfl rfl (dT rfl) rfl rfl (fun _ => B1 (A7 fun _ => rfl)) (fun _ => rfl) ?_
   intro g65
   obtain ⟨_, _, ⟨w3, rfl, rfl, hw3⟩, hC10⟩ := b0e (oG := oG) bs (p + 1 + 1) hbs hl (by omega) [[115, 111, 114, 116], [114, 101, 118], [110, 101, 103], [97, 98, 115], [100, 105, 102, 102], [115, 117, 109, 115], [114, 97, 110, 107, 115], [116, 111, 116, 97, 108], [115, 111, 114, 116], [114, 101, 118], [110, 101, 103], [97, 98, 115]] (by decide)
   have hw3b : w3.length ≤ 5 := by have hall : ∀ x ∈ ([[115, 111, 114, 116], [114, 101, 118], [110, 101, 103], [97, 98, 115], [100, 105, 102, 102], [115, 117, 109, 115], [114, 97, 110, 107, 115], [116, 111, 116, 97, 108], [115, 111, 114, 116], [114, 101, 118], [110, 101, 103], [97, 98, 115]] : List W8), x.length ≤ 5 := (by decide); exact hall _ hw3
   apply xC rfl
   ·apply B0
    ·exact L3 rfl (by decide) rfl
    apply B0
    ·exact J9 rfl rfl (by (simp; done)) (fun _ => rfl)
    exact C4
   ·exact hC10
   refine ⟨⟨rfl, rfl, rfl, dT rfl, rfl⟩, .inl rfl, H4 rfl rfl rfl B3, C3 rfl, fun _ => rfl, fun g66 => ?_⟩
   refine P4 rfl rfl (by simp only [H7, List.length_append, List.length_cons, List.length_nil]; omega) <| A3 rfl rfl <| A3 rfl rfl <| a1j rfl rfl (F4 (by omega)) ?_
   obtain ⟨_, _, ⟨x3, q3, rfl, rfl, hx31, hx32, hx33⟩, hC11⟩ := ih bs (p + 1 + 1 + 1) d1 hbs hl (by omega) (by omega) (by omega)
   rw [show ((d1 + 1 : Nat) : Int) - 1 = (d1 : Int) by omega]
   apply xC rfl
   ·apply B0
    ·exact L3 rfl (by decide) rfl
    apply B0
    ·exact B9 rfl
    exact C4
   ·exact hC11
   refine ⟨⟨rfl, rfl, rfl, dT rfl, rfl⟩, .inl rfl, H4 rfl rfl rfl B3, C3 rfl, fun _ => rfl, fun g71 => ?_⟩
   refine P4 rfl rfl (by simp only [H7, List.length_append, List.length_cons, List.length_nil]; omega) <| A5 rfl rfl rfl <| xN [4] [0] rfl <| B6 ?_
   refine ⟨_, _, ?_, K4 rfl rfl (K1 rfl rfl)⟩
   exact ⟨_, _, rfl, rfl, by omega, by omega, by (simp only [List.length_append, List.length_cons, List.length_nil]; omega)⟩
  refine gF rfl rfl <| gF rfl rfl <| F0 rfl (by assumption) rfl rfl <| xN [0,1,15] [0] rfl ?_
  refine A9 rfl (fun hc => ?_) (fun hc => absurd hc (by decide))
  refine A4 <| A4 <| A0 <| A3 rfl rfl ?_
  obtain ⟨_, _, ⟨k1, rfl, rfl, hk1, -⟩, hC1⟩ := a0l (oG := oG) bs (p) hbs hl (by omega) (2) (by omega)
  have hk1 := hk1 (by omega)
  apply xC rfl
  ·apply B0
   ·exact L3 rfl (by decide) rfl
   apply B0
   ·exact B9 rfl
   exact C4
  ·exact hC1
  refine ⟨⟨rfl, rfl, rfl, dT rfl, rfl⟩, .inl rfl, H4 rfl rfl rfl B3, C3 rfl, fun _ => rfl, fun g17 => ?_⟩
  refine N5 rfl rfl <| xN [0,18] [0] rfl ?_
  refine A9 rfl ?_ ?_ <;> intro hc <;> try simp only [SL] at hc
  ·refine A4 <| A0 <| A3 rfl rfl <| E6 (es := List.map tV [[97], [98], [97], [99], [100]]) rfl rfl (dT rfl) rfl rfl (fun _ => B1 (A7 fun _ => rfl)) (fun _ => rfl) ?_
   intro g20
   obtain ⟨_, _, ⟨w1, rfl, rfl, hw1⟩, hC2⟩ := b0e (oG := oG) bs (p + 1) hbs hl (by omega) [[97], [98], [97], [99], [100]] (by decide)
   have hw1b : w1.length ≤ 1 := by have hall : ∀ x ∈ ([[97], [98], [97], [99], [100]] : List W8), x.length ≤ 1 := (by decide); exact hall _ hw1
   apply xC rfl
   ·apply B0
    ·exact L3 rfl (by decide) rfl
    apply B0
    ·exact J9 rfl rfl (by (simp; done)) (fun _ => rfl)
    exact C4
   ·exact hC2
   refine ⟨⟨rfl, rfl, rfl, dT rfl, rfl⟩, .inl rfl, H4 rfl rfl rfl B3, C3 rfl, fun _ => rfl, fun g21 => ?_⟩
   refine A5 rfl rfl rfl <| xN [4] [0] rfl <| B6 ?_
   refine ⟨_, _, ?_, K4 rfl rfl (K1 rfl rfl)⟩
   exact ⟨_, _, rfl, rfl, by omega, by omega, by omega⟩
  refine B5 <| A4 <| A0 <| E6 (es := List.map iV []) rfl rfl (dT rfl) rfl rfl (fun _ => B1 (A7 fun _ => rfl)) (fun _ => rfl) ?_
  intro g22
  (refine B2 rfl rfl (by (simp; done)) rfl (fun _ => (B1 (by exact A7 fun _ => rfl))) (fun _ => rfl) ?_; intro g5)
  refine xN [0,5] [0,5] rfl <| A4 <| A4 <| A0 <| A3 rfl rfl <| E6 (es := List.map iV [2, 3, 1, 0, 4]) rfl rfl (dT rfl) rfl rfl (fun _ => B1 (A7 fun _ => rfl)) (fun _ => rfl) ?_
  intro g24
  obtain ⟨_, _, ⟨n1, rfl, rfl, hn1⟩, hC3⟩ := c8s (oG := oG) bs (p + 1) hbs hl (by omega) [2, 3, 1, 0, 4] (by decide)
  have hn1b : 0 ≤ n1 ∧ n1 ≤ 4 := by simp at hn1; omega
  apply xC rfl
  ·apply B0
   ·exact L3 rfl (by decide) rfl
   apply B0
   ·exact J9 rfl rfl (by (simp; done)) (fun _ => rfl)
   exact C4
  ·exact hC3
  refine ⟨⟨rfl, rfl, rfl, dT rfl, rfl⟩, .inl rfl, H4 rfl rfl rfl B3, C3 rfl, fun _ => rfl, fun g25 => ?_⟩
  refine A5 rfl rfl rfl <| xN [0,5,6] [0,5] rfl <| C6 <| J6 (β := List Int × Nat × Int) [(.t 0, _), (.t 6, _)] (fun (z : List Int × Nat × Int) => match z with | (xs, g, q) => [(.h 0, .obj 1 4 0 [rdr bs q]), (.t 5, .sl 5 g none 0 xs.length), (.h 5, .obj g 0 1 (xs.map iV))]) (fun (z : List Int × Nat × Int) => match z with | (xs, g, q) => (xs.length : Int) ≤ n1 ∧ p ≤ q ∧ q ≤ p + 4 + xs.length ∧ ∀ x ∈ xs, -20 ≤ x ∧ x ≤ 20) (fun (z : List Int × Nat × Int) => match z with | (xs, g, q) => 5 - xs.length) ([], _, _) ⟨rfl, rfl, rfl, rfl, rfl, trivial⟩ ⟨by simp; omega, by omega, by omega, by simp⟩ ?_
  intro z hb
  obtain ⟨xs, g, q⟩ := z
  try dsimp only at hb
  obtain ⟨hx1, hq1, hq2, hxb⟩ := hb
  refine A4 <| A4 <| A0 <| A3 rfl rfl <| I1 rfl rfl <| A3 rfl rfl <| I0 rfl rfl <| xN [0,5,6,29] [0,5] rfl ?_
  refine A9 rfl ?_ ?_ <;> intro hc <;> try simp only [SL] at hc
  ·refine B5 <| C6 <| A0 <| A3 rfl rfl <| A3 rfl rfl ?_
   obtain ⟨_, _, ⟨k2, rfl, rfl, hk2, -⟩, hC4⟩ := a0l (oG := oG) bs (q) hbs hl (by omega) (41) (by omega)
   have hk2 := hk2 (by omega)
   apply xC rfl
   ·apply B0
    ·exact L3 rfl (by decide) rfl
    apply B0
    ·exact B9 rfl
    exact C4
   ·exact hC4
   refine ⟨⟨rfl, rfl, rfl, dT rfl, rfl⟩, .inl rfl, H4 rfl rfl rfl B3, C3 rfl, fun _ => rfl, fun g32 => ?_⟩
   refine a1j rfl rfl (F4 (by omega)) <| E6 (es := List.map iV [k2 - 20]) rfl rfl (dT rfl) rfl rfl (fun _ => B1 (A7 fun _ => rfl)) (fun _ => rfl) ?_
   intro g34
   refine H0 rfl rfl rfl rfl (by (simp; done)) (by simp) (by decide) rfl rfl rfl rfl (dT rfl) (fun _ => ⟨rfl, rfl⟩) (by simp only [H7]; (simp only [List.length_nil, List.length_cons, List.length_append, Nat.zero_add, List.length_map]; omega)) (fun _ => rfl) ?_
   intro g35
   (refine B2 rfl rfl (by (simp; done)) rfl (fun _ => (B1 (by exact A7 fun _ => rfl))) (fun _ => rfl) ?_; intro g5)
   refine xN [0,5,6] [0,5] rfl ?_
   refine ⟨(xs ++ [k2 - 20], _, q + 1), ?_, (by simp only [List.length_append, List.length_singleton]; omega), ⟨rfl, rfl, rfl, rfl, rfl, trivial⟩⟩
   refine ⟨?_, ?_, ?_, fun x hx => ?_⟩
   ·simp only [List.length_append, List.length_singleton]; omega
   ·omega
   ·simp only [List.length_append, List.length_singleton]; omega
   rcases List.mem_append.1 hx with hx | hx
   ·exact hxb x hx
   rw [List.mem_singleton.1 hx]; omega
  refine H1 <| A4 <| A0 <| A3 rfl rfl ?_
  have hll := a2w (ns := xs) (fun n hn => by have := hxb n hn; omega)
  apply xC rfl
  ·apply B0
   ·exact O5 rfl rfl rfl (by (simp; done)) (fun _ => rfl)
   exact C4
  ·exact b3u xs (by omega) (fun n hn => by have := hxb n hn; omega)
  refine ⟨⟨rfl, rfl, rfl, dT rfl, rfl⟩, .inr ⟨rfl, rfl⟩, B3, C3 rfl, fun _ => rfl, fun g37 => ?_⟩
  iterate 2 refine P4 rfl rfl (by simp only [H7, List.length_append, List.length_cons, List.length_nil]; omega) ?_
  refine A5 rfl rfl rfl <| xN [4] [0] rfl <| B6 ?_
  refine ⟨_, _, ?_, K4 rfl rfl (K1 rfl rfl)⟩
  exact ⟨_, _, rfl, rfl, by omega, by omega, by (simp only [List.length_append, List.length_cons, List.length_nil]; omega)⟩

theorem keep_s_mutate : G8 Tryz.f95 = [0, 1, 4, 12, 13, 5, 19, 32, 37] := by kernel_rfl
set_option maxHeartbeats 20000000 in
theorem c9s (bs : List Int) (p : Int) (hbs : a4d bs) (hl : bs.length ≤ 1048576) (hp : 0 ≤ p ∧ p ≤ 100000000) (s : W8) (hs : s.length ≤ 100000) : ∃ res outs, (fun res outs => ∃ (x : W8) (q : Int), res = tV x ∧ outs = [[rdr bs q]] ∧ p ≤ q ∧ q ≤ p + 10 ∧ x.length ≤ s.length + 10) res outs ∧ CW (cxT oG) 95 [.ownp [rdr bs p] 0 0, tV s] = some (res, outs) := by
 refine T7 rfl Tryz.func95 rfl ⟨by kernel_rfl, rfl, dT rfl, dT rfl, by decide⟩ keep_s_mutate <| A4 <| A0 <| A5 rfl rfl rfl <| xN [0,1] [0] rfl <| A4 <| A0 <| A3 rfl rfl <| A3 rfl rfl <| a2c rfl rfl <| H5 rfl rfl (F4 (by omega)) ?_
 obtain ⟨_, _, ⟨k0, rfl, rfl, hk0, -⟩, hC0⟩ := a0l (oG := oG) bs (p) hbs hl (by omega) (s.length + 1) (by omega)
 have hk0 := hk0 (by omega)
 apply xC rfl
 ·apply B0
  ·exact L3 rfl (by decide) rfl
  apply B0
  ·exact B9 rfl
  exact C4
 ·exact hC0
 refine ⟨⟨rfl, rfl, rfl, dT rfl, rfl⟩, .inl rfl, H4 rfl rfl rfl B3, C3 rfl, fun _ => rfl, fun g10 => ?_⟩
 refine A5 rfl rfl rfl <| xN [0,1,5] [0] rfl <| A4 <| A4 <| A0 <| A3 rfl rfl ?_
 obtain ⟨_, _, ⟨k1, rfl, rfl, hk1, -⟩, hC1⟩ := a0l (oG := oG) bs (p + 1) hbs hl (by omega) (5) (by omega)
 have hk1 := hk1 (by omega)
 apply xC rfl
 ·apply B0
  ·exact L3 rfl (by decide) rfl
  apply B0
  ·exact B9 rfl
  exact C4
 ·exact hC1
 refine ⟨⟨rfl, rfl, rfl, dT rfl, rfl⟩, .inl rfl, H4 rfl rfl rfl B3, C3 rfl, fun _ => rfl, fun g12 => ?_⟩
 refine xN [0,1,5,12] [0] rfl <| C6 <| A4 <| A4 <| A0 <| N5 rfl rfl <| A5 rfl rfl rfl <| xN [0,1,5,12,13] [0] rfl ?_
 refine A9 rfl ?_ ?_ <;> intro hc <;> try simp only [SL] at hc
 ·refine B5 ?_
  refine A9 rfl (fun hc => ?_) (fun hc => absurd hc (by simp_all))
  refine A4 <| A0 <| A3 rfl rfl <| A3 rfl rfl <| a2c rfl rfl <| I0 rfl rfl <| xN [0,1,5,19] [0] rfl ?_
  refine A9 rfl ?_ ?_ <;> intro hc <;> try simp only [SL] at hc
  ·refine A4 <| A0 <| A3 rfl rfl <| A3 rfl rfl <| V2 rfl rfl (Q3 rfl (by omega)) J5 (by omega) <| A3 rfl rfl <| E6 (es := List.map tV [[48], [49], [97], [44], [45], [93], [32]]) rfl rfl (dT rfl) rfl rfl (fun _ => B1 (A7 fun _ => rfl)) (fun _ => rfl) ?_
   intro g24
   obtain ⟨_, _, ⟨w1, rfl, rfl, hw1⟩, hC2⟩ := b0e (oG := oG) bs (p + 1 + 1) hbs hl (by omega) [[48], [49], [97], [44], [45], [93], [32]] (by decide)
   have hw1b : w1.length ≤ 1 := by have hall : ∀ x ∈ ([[48], [49], [97], [44], [45], [93], [32]] : List W8), x.length ≤ 1 := (by decide); exact hall _ hw1
   apply xC rfl
   ·apply B0
    ·exact L3 rfl (by decide) rfl
    apply B0
    ·exact J9 rfl rfl (by (simp; done)) (fun _ => rfl)
    exact C4
   ·exact hC2
   refine ⟨⟨rfl, rfl, rfl, dT rfl, rfl⟩, .inl rfl, H4 rfl rfl rfl B3, C3 rfl, fun _ => rfl, fun g25 => ?_⟩
   refine P4 rfl rfl (by simp only [H7, List.length_append, List.length_take, List.length_drop]; omega) <| A3 rfl rfl <| A3 rfl rfl <| H5 rfl rfl (F4 (by omega)) <| V2 rfl rfl J5 (Q3 rfl (by omega)) (by omega) <| P4 rfl rfl (by simp only [H7, List.length_append, List.length_take, List.length_drop]; omega) <| A5 rfl rfl rfl ?_
   refine G6 ⟨fun _ => ⟨by (simp only [O9, List.nil_append, List.append_nil, List.map_cons, List.map_nil, List.cons_append]; decide +kernel), by decide +kernel⟩, [(.t 4, _), (.h 0, _)], ⟨rfl, rfl, rfl, rfl, trivial⟩, ?_⟩
   refine B6 ?_
   refine ⟨_, _, ?_, K4 rfl rfl (K1 rfl rfl)⟩
   exact ⟨_, _, rfl, rfl, by omega, by omega, by (simp only [List.length_append, List.length_cons, List.length_nil, List.length_take, List.length_drop]; omega)⟩
  refine B5 <| A4 <| A0 <| A3 rfl rfl <| A5 rfl rfl rfl <| xN [4] [0] rfl <| B6 ?_
  refine ⟨_, _, ?_, K4 rfl rfl (K1 rfl rfl)⟩
  exact ⟨_, _, rfl, rfl, by omega, by omega, by omega⟩
 refine A0 <| N5 rfl rfl <| A5 rfl rfl rfl <| xN [0,1,5,12,13] [0] rfl ?_
 refine A9 rfl ?_ ?_ <;> intro hc <;> try simp only [SL] at hc
 ·refine A4 <| A0 <| A3 rfl rfl <| A3 rfl rfl <| a2c rfl rfl <| I0 rfl rfl <| xN [0,1,5,19] [0] rfl ?_
  refine A9 rfl ?_ ?_ <;> intro hc <;> try simp only [SL] at hc
  ·refine A4 <| A0 <| A3 rfl rfl <| A3 rfl rfl <| V2 rfl rfl (Q3 rfl (by omega)) J5 (by omega) <| A3 rfl rfl <| E6 (es := List.map tV [[48], [49], [97], [44], [45], [93], [32]]) rfl rfl (dT rfl) rfl rfl (fun _ => B1 (A7 fun _ => rfl)) (fun _ => rfl) ?_
   intro g24
   obtain ⟨_, _, ⟨w1, rfl, rfl, hw1⟩, hC2⟩ := b0e (oG := oG) bs (p + 1 + 1) hbs hl (by omega) [[48], [49], [97], [44], [45], [93], [32]] (by decide)
   have hw1b : w1.length ≤ 1 := by have hall : ∀ x ∈ ([[48], [49], [97], [44], [45], [93], [32]] : List W8), x.length ≤ 1 := (by decide); exact hall _ hw1
   apply xC rfl
   ·apply B0
    ·exact L3 rfl (by decide) rfl
    apply B0
    ·exact J9 rfl rfl (by (simp; done)) (fun _ => rfl)
    exact C4
   ·exact hC2
   refine ⟨⟨rfl, rfl, rfl, dT rfl, rfl⟩, .inl rfl, H4 rfl rfl rfl B3, C3 rfl, fun _ => rfl, fun g25 => ?_⟩
   refine P4 rfl rfl (by simp only [H7, List.length_append, List.length_take, List.length_drop]; omega) <| A3 rfl rfl <| A3 rfl rfl <| H5 rfl rfl (F4 (by omega)) <| V2 rfl rfl J5 (Q3 rfl (by omega)) (by omega) <| P4 rfl rfl (by simp only [H7, List.length_append, List.length_take, List.length_drop]; omega) <| A5 rfl rfl rfl ?_
   refine G6 ⟨fun _ => ⟨by (simp only [O9, List.nil_append, List.append_nil, List.map_cons, List.map_nil, List.cons_append]; decide +kernel), by decide +kernel⟩, [(.t 4, _), (.h 0, _)], ⟨rfl, rfl, rfl, rfl, trivial⟩, ?_⟩
   refine B6 ?_
   refine ⟨_, _, ?_, K4 rfl rfl (K1 rfl rfl)⟩
   exact ⟨_, _, rfl, rfl, by omega, by omega, by (simp only [List.length_append, List.length_cons, List.length_nil, List.length_take, List.length_drop]; omega)⟩
  refine B5 <| A4 <| A0 <| A3 rfl rfl <| A5 rfl rfl rfl <| xN [4] [0] rfl <| B6 ?_
  refine ⟨_, _, ?_, K4 rfl rfl (K1 rfl rfl)⟩
  exact ⟨_, _, rfl, rfl, by omega, by omega, by omega⟩
 refine A4 <| A0 <| N5 rfl rfl <| A5 rfl rfl rfl <| xN [0,1,5,12,32] [0] rfl ?_
 refine A9 rfl ?_ ?_ <;> intro hc <;> try simp only [SL] at hc
 ·refine A4 <| A0 <| A3 rfl rfl <| A3 rfl rfl <| V2 rfl rfl (Q3 rfl (by omega)) J5 (by omega) <| A5 rfl rfl rfl <| xN [4] [0] rfl <| B6 ?_
  refine ⟨_, _, ?_, K4 rfl rfl (K1 rfl rfl)⟩
  exact ⟨_, _, rfl, rfl, by omega, by omega, by (simp only [List.length_append, List.length_cons, List.length_nil, List.length_take, List.length_drop]; omega)⟩
 refine A4 <| A0 <| N5 rfl rfl <| A5 rfl rfl rfl <| xN [0,1,37] [0] rfl ?_
 refine A9 rfl ?_ ?_ <;> intro hc <;> try simp only [SL] at hc
 ·refine A4 <| A0 <| A3 rfl rfl <| A3 rfl rfl <| E6 (es := List.map tV [[48], [44], [32], [32, 97]]) rfl rfl (dT rfl) rfl rfl (fun _ => B1 (A7 fun _ => rfl)) (fun _ => rfl) ?_
  intro g41
  obtain ⟨_, _, ⟨w2, rfl, rfl, hw2⟩, hC3⟩ := b0e (oG := oG) bs (p + 1 + 1) hbs hl (by omega) [[48], [44], [32], [32, 97]] (by decide)
  have hw2b : w2.length ≤ 2 := by have hall : ∀ x ∈ ([[48], [44], [32], [32, 97]] : List W8), x.length ≤ 2 := (by decide); exact hall _ hw2
  apply xC rfl
  ·apply B0
   ·exact L3 rfl (by decide) rfl
   apply B0
   ·exact J9 rfl rfl (by (simp; done)) (fun _ => rfl)
   exact C4
  ·exact hC3
  refine ⟨⟨rfl, rfl, rfl, dT rfl, rfl⟩, .inl rfl, H4 rfl rfl rfl B3, C3 rfl, fun _ => rfl, fun g42 => ?_⟩
  refine P4 rfl rfl (by simp only [H7, List.length_append, List.length_cons, List.length_nil]; omega) <| A5 rfl rfl rfl <| xN [4] [0] rfl <| B6 ?_
  refine ⟨_, _, ?_, K4 rfl rfl (K1 rfl rfl)⟩
  exact ⟨_, _, rfl, rfl, by omega, by omega, by (simp only [List.length_append, List.length_cons, List.length_nil, List.length_take, List.length_drop]; omega)⟩
 refine B5 <| A4 <| A0 <| A3 rfl rfl <| A5 rfl rfl rfl <| xN [4] [0] rfl <| B6 ?_
 refine ⟨_, _, ?_, K4 rfl rfl (K1 rfl rfl)⟩
 exact ⟨_, _, rfl, rfl, by omega, by omega, by omega⟩

theorem keep_s_somePlan : G8 Tryz.f55 = [0, 2, 11, 3] := by kernel_rfl
set_option maxHeartbeats 20000000 in
theorem c1y (bs : List Int) (p : Int) (hbs : a4d bs) (hl : bs.length ≤ 1048576) (hp : 0 ≤ p ∧ p ≤ 1000000) : ∃ res outs, (fun res outs => ∃ (x : W8) (q : Int), res = tV x ∧ outs = [[rdr bs q]] ∧ p ≤ q ∧ q ≤ p + 3000 ∧ x.length ≤ 5000) res outs ∧ CW (cxT oG) 55 [.ownp [rdr bs p] 0 0] = some (res, outs) := by
 refine T7 rfl Tryz.func55 rfl ⟨by kernel_rfl, rfl, dT rfl, dT rfl, by decide⟩ keep_s_somePlan <| A4 <| A0 <| A5 rfl rfl rfl <| xN [0] [0] rfl <| A4 <| A0 <| A3 rfl rfl <| A3 rfl rfl <| E6 (es := List.map iV [3, 4, 2, 5, 1, 0]) rfl rfl (dT rfl) rfl rfl (fun _ => B1 (A7 fun _ => rfl)) (fun _ => rfl) ?_
 intro g6
 obtain ⟨_, _, ⟨k0, rfl, rfl, hk0⟩, hC0⟩ := c8s (oG := oG) bs (p) hbs hl (by omega) [3, 4, 2, 5, 1, 0] (by decide)
 have hk0b : 0 ≤ k0 ∧ k0 ≤ 5 := by simp at hk0; omega
 obtain ⟨d, rfl⟩ : ∃ d : Nat, k0 = d := ⟨k0.toNat, by omega⟩
 have hgm := d1j (d := d) (by omega)
 have hlm := c4l (d := d) (by omega)
 have hgp := b6x d
 apply xC rfl
 ·apply B0
  ·exact L3 rfl (by decide) rfl
  apply B0
  ·exact J9 rfl rfl (by (simp; done)) (fun _ => rfl)
  exact C4
 ·exact hC0
 refine ⟨⟨rfl, rfl, rfl, dT rfl, rfl⟩, .inl rfl, H4 rfl rfl rfl B3, C3 rfl, fun _ => rfl, fun g7 => ?_⟩
 obtain ⟨_, _, ⟨x, q, rfl, rfl, hx1, hx2, hx3⟩, hC1⟩ := c3o (oG := oG) bs (p + 1) d hbs hl (by omega) (by omega)
 apply xC rfl
 ·apply B0
  ·exact L3 rfl (by decide) rfl
  apply B0
  ·exact B9 rfl
  exact C4
 ·exact hC1
 refine ⟨⟨rfl, rfl, rfl, dT rfl, rfl⟩, .inl rfl, H4 rfl rfl rfl B3, C3 rfl, fun _ => rfl, fun g8 => ?_⟩
 refine A5 rfl rfl rfl <| xN [0,3] [0] rfl <| A4 <| A4 <| A0 <| A3 rfl rfl ?_
 obtain ⟨_, _, ⟨k1, rfl, rfl, hk1, -⟩, hC2⟩ := a0l (oG := oG) bs (q) hbs hl (by omega) (16) (by omega)
 have hk1 := hk1 (by omega)
 apply xC rfl
 ·apply B0
  ·exact L3 rfl (by decide) rfl
  apply B0
  ·exact B9 rfl
  exact C4
 ·exact hC2
 refine ⟨⟨rfl, rfl, rfl, dT rfl, rfl⟩, .inl rfl, H4 rfl rfl rfl B3, C3 rfl, fun _ => rfl, fun g10 => ?_⟩
 refine N5 rfl rfl <| xN [0,3,11] [0] rfl ?_
 refine A9 rfl ?_ ?_ <;> intro hc <;> try simp only [SL] at hc
 ·refine A0 <| A3 rfl rfl <| A3 rfl rfl ?_
  obtain ⟨_, _, ⟨y, q2, rfl, rfl, hy1, hy2, hy3⟩, hC3⟩ := c9s (oG := oG) bs (q + 1) hbs hl (by omega) x (by omega)
  apply xC rfl
  ·apply B0
   ·exact L3 rfl (by decide) rfl
   apply B0
   ·exact B9 rfl
   exact C4
  ·exact hC3
  refine ⟨⟨rfl, rfl, rfl, dT rfl, rfl⟩, .inl rfl, H4 rfl rfl rfl B3, C3 rfl, fun _ => rfl, fun g14 => ?_⟩
  refine A5 rfl rfl rfl <| xN [3] [0] rfl <| A4 <| A0 <| A3 rfl rfl <| A5 rfl rfl rfl <| xN [2] [0] rfl <| B6 ?_
  refine ⟨_, _, ?_, K4 rfl rfl (K1 rfl rfl)⟩
  exact ⟨_, _, rfl, rfl, by omega, by omega, by omega⟩
 refine B5 <| A4 <| A0 <| A3 rfl rfl <| A5 rfl rfl rfl <| xN [2] [0] rfl <| B6 ?_
 refine ⟨_, _, ?_, K4 rfl rfl (K1 rfl rfl)⟩
 exact ⟨_, _, rfl, rfl, by omega, by omega, by omega⟩

theorem keep_s_drawSharePlan : G8 Tryz.f27 = [0, 2] := by kernel_rfl
set_option maxHeartbeats 20000000 in
theorem b0x (bs : List Int) (hbs : a4d bs) (hl : bs.length ≤ 1048576) : ∃ res outs, (fun res outs => ∃ x : W8, res = tV x ∧ outs = [] ∧ x.length ≤ 5000) res outs ∧ CW (cxT oG) 27 [.list (bs.map uV)] = some (res, outs) := by
 refine T7 rfl Tryz.func27 rfl ⟨by kernel_rfl, rfl, dT rfl, dT rfl, by decide⟩ keep_s_drawSharePlan <| A4 <| A0 <| A5 rfl rfl rfl <| xN [0] [] rfl <| A4 <| A0 <| A3 rfl rfl ?_
 obtain ⟨_, _, ⟨rfl, rfl⟩, hC0⟩ := b8t (oG := oG) bs hl
 have hbs2 : a4d (bs.take 2000) := fun b hb => hbs b (List.mem_of_mem_take hb)
 have hl2 : (bs.take 2000).length ≤ 1048576 := by simp; omega
 apply xC rfl
 ·apply B0
  ·exact B9 rfl
  exact C4
 ·exact hC0
 refine ⟨⟨rfl, rfl, rfl, dT rfl, rfl⟩, .inl rfl, B3, c9r, fun _ => rfl, fun g4 => ?_⟩
 obtain ⟨_, _, ⟨x, q, rfl, rfl, -, -, hx3⟩, hC1⟩ := c1y (oG := oG) (bs.take 2000) 0 hbs2 hl2 (by omega)
 apply xC rfl
 ·apply B0
  ·exact L3 rfl (by decide) rfl
  exact C4
 ·exact hC1
 refine ⟨⟨rfl, rfl, rfl, dT rfl, rfl⟩, .inl rfl, H4 rfl rfl rfl B3, C3 rfl, fun _ => rfl, fun g5 => ?_⟩
 refine A5 rfl rfl rfl <| xN [2] [] rfl <| B6 ?_
 refine ⟨_, _, ?_, K4 rfl rfl C5⟩
 exact ⟨x, rfl, rfl, hx3⟩

theorem keep_s_sameInts : G8 Tryz.f120 = [0, 1, 4, 10, 5, 14, 25] := by kernel_rfl
set_option maxHeartbeats 20000000 in
theorem a3f (a b : List Int) (ha : a.length ≤ 1048576) (hlb : b.length ≤ 1048576) : CW (cxT oG) 120 [L a, L b] = some (bV (decide (a = b)), []) := by
 refine G9 rfl Tryz.func120 rfl ⟨by kernel_rfl, rfl, dT rfl, dT rfl, by decide⟩ keep_s_sameInts <| A4 <| A0 <| A5 rfl rfl rfl <| xN [0,1] [] rfl <| A4 <| A4 <| A0 <| A3 rfl rfl <| E8 rfl rfl <| A3 rfl rfl <| E8 rfl rfl <| a5i rfl rfl <| xN [0,1,10] [] rfl ?_
 refine A9 rfl ?_ ?_ <;> intro hc <;> try simp only [SL] at hc
 ·refine A4 <| A0 <| A5 rfl rfl rfl <| xN [4] [] rfl <| B6 <| C9 rfl rfl trivial ?_
  rw [a0h (by omega)]
  rfl
 refine B5 <| A4 <| A4 <| A0 <| A5 rfl rfl rfl <| xN [0,1,5] [] rfl <| C6 <| J6 (β := Nat) [(.t 0, _), (.t 1, _)] (fun (i : Nat) => [(.t 5, iV i)]) (fun (i : Nat) => i ≤ a.length ∧ ∀ j, j < i → a.getD j default = b.getD j default) (fun (i : Nat) => a.length - i) 0 ⟨rfl, rfl, rfl, trivial⟩ ⟨Nat.zero_le _, fun j h => by omega⟩ ?_
 intro i hb
 obtain ⟨hi1, hi2⟩ := hb
 refine A4 <| A4 <| A0 <| A3 rfl rfl <| A3 rfl rfl <| E8 rfl rfl <| I0 rfl rfl <| xN [0,1,5,14] [] rfl ?_
 refine A9 rfl ?_ ?_ <;> intro hc <;> try simp only [SL] at hc
 ·refine B5 <| A4 <| C6 <| A4 <| A0 <| A3 rfl rfl <| A3 rfl rfl <| F8 rfl rfl rfl (fun _ => rfl) (by omega) <| F5 rfl rfl rfl <| A3 rfl rfl <| A3 rfl rfl <| F8 rfl rfl rfl (fun _ => rfl) (by omega) <| F5 rfl rfl rfl <| a5i rfl rfl ?_
  refine G6 ⟨fun _ => ⟨by decide +kernel, by decide +kernel⟩, [(.t 0, _), (.t 1, _), (.t 5, _), (.t 25, _)], ⟨rfl, rfl, rfl, rfl, rfl, rfl, rfl, rfl, trivial⟩, ?_⟩
  refine A9 rfl ?_ ?_ <;> intro hc <;> try simp only [SL] at hc
  ·refine A4 <| A0 <| A5 rfl rfl rfl <| xN [4] [] rfl <| B6 <| C9 rfl rfl trivial ?_
   rw [a1m (i := i) (by omega) (by assumption)]
   rfl
  refine B5 <| A0 <| A3 rfl rfl <| H5 rfl rfl (F4 (by omega)) <| A5 rfl rfl rfl <| xN [0,1,5] [] rfl ?_
  refine ⟨i + 1, ⟨by omega, fun j hj => by rcases Nat.lt_succ_iff_lt_or_eq.1 hj with h | h; (· exact hi2 j h); (· subst h; assumption)⟩, (by omega), ⟨rfl, rfl, rfl, trivial⟩⟩
 refine H1 <| A4 <| A0 <| A5 rfl rfl rfl <| xN [4] [] rfl <| B6 <| C9 rfl rfl trivial ?_
 rw [a1n (by omega) fun j hj => hi2 j (by omega)]
 rfl

theorem keep_s_shareS : G8 Tryz.f75 = [0, 1, 4, 5, 2, 16, 6, 7, 26, 9, 41, 8, 10, 49, 89, 20, 88] := by kernel_rfl
set_option maxHeartbeats 20000000 in
theorem c7p (t : Pl) (ss : List Stp) (hss : ss.length + t.sz ≤ 1000 ∧ ∀ s ∈ ss, stG s) (hgd : t.good) : CW (cxT oG) 75 [trK t, .own 4 (ss.map stA)] = some (.tup [iV ((shareP t ss).2 : Nat), .own 4 ((shareP t ss).1.map stA)], []) := by
 obtain ⟨kk, hkk⟩ : ∃ kk : Nat, t.sz < kk := ⟨_, Nat.lt_succ_self _⟩
 revert t ss
 induction kk with
 | zero => intro t ss hss hgd hkk; exact absurd hkk (Nat.not_lt_zero _)
 | succ kk ih =>
  intro t ss hss hgd hkk
  refine G9 rfl Tryz.func75 rfl ⟨by kernel_rfl, rfl, dT rfl, dT rfl, by decide⟩ keep_s_shareS <| A4 <| A0 ?_
  rcases t with ns | w | ⟨w, p⟩ | ⟨w, p, q⟩
  ·rw [b6i]
   have hvl := S0 (show vd ns = true from hgd)
   refine a0e rfl rfl rfl (fun _ => C0 rfl) (fun _ => rfl) ?_
   intro g2
   refine A5 rfl rfl rfl ?_
   (refine C2 rfl rfl (fun _ => rfl) ?_; intro g5)
   refine xN [1,2] [1,2] rfl <| A4 <| A0 <| A8 rfl rfl (dT rfl) rfl rfl <| B8 rfl rfl rfl rfl rfl rfl <| I7 (fs := [_, iV (-1), iV (-1), .nil]) rfl rfl rfl rfl rfl <| G5 rfl (fun _ => C0 rfl) (fun _ => rfl) ?_
   intro g6
   refine C7 rfl rfl rfl rfl ⟨by decide, rfl, dT rfl, dT rfl, rfl⟩ rfl (by exact C0 rfl) <| xN [1,2,6] [1,2,6] rfl <| A4 <| A4 <| A0 <| A8 rfl rfl (dT rfl) rfl rfl <| B8 rfl rfl rfl rfl rfl rfl <| a1s rfl rfl <| xN [1,2,6,16] [1,2,6] rfl ?_
   refine A9 rfl (fun hc => ?_) (fun hc => absurd hc (by decide))
   refine A0 <| E6 (es := List.map iV []) rfl rfl (dT rfl) rfl rfl (fun _ => B1 (A7 fun _ => rfl)) (fun _ => rfl) ?_
   intro g17
   refine A8 rfl rfl (dT rfl) rfl rfl <| B8 rfl rfl rfl rfl rfl rfl <| b2z rfl rfl rfl (by (simp; done)) rfl rfl rfl (dT rfl) (fun _ => ⟨rfl, rfl, rfl⟩) (by simp only [H7]; (simp only [List.length_nil, List.length_cons, List.length_append, Nat.zero_add, List.length_map]; omega)) (fun _ => rfl) ?_
   intro g20
   simp only [List.nil_append]
   refine A8 rfl rfl (dT rfl) rfl rfl <| Q6 rfl rfl rfl rfl rfl (Nat.le_refl _) rfl <| xN [1,2,6] [1,2,6,1000020] rfl <| A4 <| A4 <| A0 <| A5 rfl rfl rfl <| xN [1,2,6,7] [1,2,6,1000020] rfl <| C6 <| G2 <| A4 <| A4 <| A0 <| A3 rfl rfl <| A8 rfl rfl (dT rfl) rfl rfl <| B8 rfl rfl rfl rfl rfl rfl <| E8 rfl rfl <| I0 rfl rfl <| xN [1,2,6,7,26] [1,2,6,1000020] rfl ?_
   refine A9 rfl (fun hc => absurd hc (by decide)) (fun hc => ?_)
   refine H1 <| A4 <| A4 <| A0 <| A5 rfl rfl rfl <| xN [1,6,10] [1,6,1000020] rfl <| C6 <| J6 (β := Nat) [(.t 1, _), (.t 6, _), (.h 1, _), (.h 6, _), (.h 1000020, _)] (fun (i : Nat) => [(.t 10, iV i)]) (fun (i : Nat) => i ≤ ss.length ∧ ∀ j, j < i → ss.getD j default ≠ (I8 (.lst ns) (-1) (-1))) (fun (i : Nat) => ss.length - i) 0 ⟨rfl, rfl, rfl, rfl, rfl, rfl, trivial⟩ ⟨Nat.zero_le _, fun j h => by omega⟩ ?_
   intro i hb
   obtain ⟨hi1, hne⟩ := hb
   refine A4 <| A4 <| A0 <| A3 rfl rfl <| A3 rfl rfl <| I1 rfl rfl <| I0 rfl rfl <| xN [1,6,10,49] [1,6,1000020] rfl ?_
   refine A9 rfl ?_ ?_ <;> intro hc <;> try simp only [SL] at hc
   ·refine B5 <| A4 <| C6 <| A4 <| A0 <| A3 rfl rfl <| A3 rfl rfl <| E3 rfl rfl rfl rfl (by (simp; omega)) (by (simp; done)) rfl <| A8 rfl rfl (dT rfl) rfl rfl <| J1 rfl rfl (by omega) (fun _ => rfl) rfl rfl <| A8 rfl rfl (dT rfl) rfl rfl <| B8 rfl rfl rfl rfl rfl rfl <| a1s rfl rfl <| A3 rfl rfl ?_
    refine C8 rfl rfl ?_ ?_ <;> intro hg0 <;> have hg := hg0 <;> try simp only [SG] at hg
    ·refine A3 rfl rfl <| gT rfl rfl <| A3 rfl rfl <| gT rfl rfl <| E3 rfl rfl rfl rfl (by (simp; omega)) (by (simp; done)) rfl <| gT rfl rfl <| A8 rfl rfl (dT rfl) rfl rfl <| gT rfl rfl <| J1 rfl rfl (by omega) (fun _ => rfl) rfl rfl <| gT rfl rfl <| A8 rfl rfl (dT rfl) rfl rfl <| gT rfl rfl <| B8 rfl rfl rfl rfl rfl rfl <| gT rfl rfl <| N5 rfl rfl <| F0 rfl (by assumption) rfl rfl <| A3 rfl rfl ?_
     refine C8 rfl rfl ?_ ?_ <;> intro hg0 <;> have hg := hg0 <;> try simp only [SG] at hg
     ·refine A3 rfl rfl <| gT rfl rfl <| A3 rfl rfl <| gT rfl rfl <| E3 rfl rfl rfl rfl (by (simp; omega)) (by (simp; done)) rfl <| gT rfl rfl <| A8 rfl rfl (dT rfl) rfl rfl <| gT rfl rfl <| J1 rfl rfl (by omega) (fun _ => rfl) rfl rfl <| gT rfl rfl <| A8 rfl rfl (dT rfl) rfl rfl <| gT rfl rfl <| B8 rfl rfl rfl rfl rfl rfl <| gT rfl rfl <| N5 rfl rfl <| F0 rfl (by assumption) rfl rfl <| A3 rfl rfl ?_
      refine C8 rfl rfl ?_ ?_ <;> intro hg0 <;> have hg := hg0 <;> try simp only [SG] at hg
      ·refine A3 rfl rfl <| gT rfl rfl <| A3 rfl rfl <| gT rfl rfl <| E3 rfl rfl rfl rfl (by (simp; omega)) (by (simp; done)) rfl <| gT rfl rfl <| A8 rfl rfl (dT rfl) rfl rfl <| gT rfl rfl <| J1 rfl rfl (by omega) (fun _ => rfl) rfl rfl <| gT rfl rfl <| A8 rfl rfl (dT rfl) rfl rfl <| gT rfl rfl <| B8 rfl rfl rfl rfl rfl rfl <| gT rfl rfl ?_
       apply xC rfl
       ·apply B0
        ·exact B9 rfl
        apply B0
        ·exact O5 rfl rfl rfl (by (simp; done)) (fun _ => rfl)
        exact C4
       ·exact a3f (ss.getD i default).ns ns (by have hsg := hss.2 _ (L1 (xs := ss) (i := i) (by omega)); have := S0 hsg.2; omega) (by omega)
       refine ⟨⟨rfl, rfl, rfl, dT rfl, rfl⟩, .inr ⟨rfl, rfl⟩, B3, C3 rfl, fun _ => rfl, fun g88 => ?_⟩
       refine F0 rfl (by assumption) rfl rfl ?_
       refine G6 ⟨fun _ => ⟨by (simp only [O9, List.nil_append, List.append_nil, List.map_cons, List.map_nil, List.cons_append]; decide +kernel), by decide +kernel⟩, [(.t 1, _), (.t 6, _), (.t 10, _), (.t 89, _), (.h 1, _), (.h 6, _), (.h 1000020, _)], ⟨rfl, rfl, rfl, rfl, rfl, rfl, rfl, rfl, rfl, rfl, rfl, rfl, rfl, rfl, trivial⟩, ?_⟩
       refine A9 rfl ?_ ?_ <;> intro hc <;> try simp only [SL] at hc
       ·refine A4 <| A0 <| A3 rfl rfl <| A3 rfl rfl <| A5 rfl rfl rfl ?_
        (refine B2 rfl rfl (by (simp; done)) rfl (fun _ => (B1 (by exact A7 fun _ => rfl))) (fun _ => rfl) ?_; intro g5)
        refine xN [4,5] [5] rfl <| B6 <| D3 (D7 rfl rfl (F9 rfl rfl (by simp) (by exact A7 fun _ => rfl) (E7 C5))) ?_
        have hx : ss.getD i default = (I8 (.lst ns) (-1) (-1)) := b1d (by assumption) (by assumption) (by assumption) (by assumption)
        obtain ⟨h1, h2⟩ := a2k (by omega) hx hne
        show _ = AV.tup [iV (stIx (I8 (.lst ns) (-1) (-1)) ss : Nat), .own 4 ((stAdd (I8 (.lst ns) (-1) (-1)) ss).map stA)]
        rw [h1, h2]
        rfl
       refine B5 <| A0 <| A3 rfl rfl <| H5 rfl rfl (F4 (by omega)) <| A5 rfl rfl rfl <| xN [1,6,10] [1,6,1000020] rfl ?_
       refine ⟨i + 1, ⟨by omega, fun j hj => by rcases Nat.lt_succ_iff_lt_or_eq.1 hj with h | h; (· exact hne j h); (· subst h; exact b1r (by assumption))⟩, (by omega), ⟨rfl, rfl, rfl, rfl, rfl, rfl, trivial⟩⟩
      iterate 7 refine gF rfl rfl ?_
      refine D6 rfl (by assumption) rfl rfl ?_
      refine G6 ⟨fun _ => ⟨by decide +kernel, by decide +kernel⟩, [(.t 1, _), (.t 6, _), (.t 10, _), (.t 89, _), (.h 1, _), (.h 6, _), (.h 1000020, _)], ⟨rfl, rfl, rfl, rfl, rfl, rfl, rfl, rfl, rfl, rfl, rfl, rfl, rfl, rfl, trivial⟩, ?_⟩
      refine A9 rfl (fun hc => absurd hc (by decide)) (fun hc => ?_)
      refine B5 <| A0 <| A3 rfl rfl <| H5 rfl rfl (F4 (by omega)) <| A5 rfl rfl rfl <| xN [1,6,10] [1,6,1000020] rfl ?_
      refine ⟨i + 1, ⟨by omega, fun j hj => by rcases Nat.lt_succ_iff_lt_or_eq.1 hj with h | h; (· exact hne j h); (· subst h; exact b1o (by assumption))⟩, (by omega), ⟨rfl, rfl, rfl, rfl, rfl, rfl, trivial⟩⟩
     iterate 7 refine gF rfl rfl ?_
     refine D6 rfl (by assumption) rfl rfl <| A3 rfl rfl ?_
     iterate 8 refine G1 rfl rfl rfl ?_
     refine D6 rfl rfl rfl rfl ?_
     refine G6 ⟨fun _ => ⟨by decide +kernel, by decide +kernel⟩, [(.t 1, _), (.t 6, _), (.t 10, _), (.t 89, _), (.h 1, _), (.h 6, _), (.h 1000020, _)], ⟨rfl, rfl, rfl, rfl, rfl, rfl, rfl, rfl, rfl, rfl, rfl, rfl, rfl, rfl, trivial⟩, ?_⟩
     refine A9 rfl (fun hc => absurd hc (by decide)) (fun hc => ?_)
     refine B5 <| A0 <| A3 rfl rfl <| H5 rfl rfl (F4 (by omega)) <| A5 rfl rfl rfl <| xN [1,6,10] [1,6,1000020] rfl ?_
     refine ⟨i + 1, ⟨by omega, fun j hj => by rcases Nat.lt_succ_iff_lt_or_eq.1 hj with h | h; (· exact hne j h); (· subst h; exact b0z (by assumption))⟩, (by omega), ⟨rfl, rfl, rfl, rfl, rfl, rfl, trivial⟩⟩
    iterate 7 refine gF rfl rfl ?_
    refine D6 rfl (by assumption) rfl rfl <| A3 rfl rfl ?_
    iterate 8 refine G1 rfl rfl rfl ?_
    refine D6 rfl rfl rfl rfl <| A3 rfl rfl ?_
    iterate 8 refine G1 rfl rfl rfl ?_
    refine D6 rfl rfl rfl rfl ?_
    refine G6 ⟨fun _ => ⟨by decide +kernel, by decide +kernel⟩, [(.t 1, _), (.t 6, _), (.t 10, _), (.t 89, _), (.h 1, _), (.h 6, _), (.h 1000020, _)], ⟨rfl, rfl, rfl, rfl, rfl, rfl, rfl, rfl, rfl, rfl, rfl, rfl, rfl, rfl, trivial⟩, ?_⟩
    refine A9 rfl (fun hc => absurd hc (by decide)) (fun hc => ?_)
    refine B5 <| A0 <| A3 rfl rfl <| H5 rfl rfl (F4 (by omega)) <| A5 rfl rfl rfl <| xN [1,6,10] [1,6,1000020] rfl ?_
    refine ⟨i + 1, ⟨by omega, fun j hj => by rcases Nat.lt_succ_iff_lt_or_eq.1 hj with h | h; (· exact hne j h); (· subst h; exact b1q (by assumption))⟩, (by omega), ⟨rfl, rfl, rfl, rfl, rfl, rfl, trivial⟩⟩
   refine H1 <| A4 <| A0 <| A3 rfl rfl <| I1 rfl rfl <| E6 (es := List.map stA []) rfl rfl (dT rfl) rfl rfl (fun _ => B1 (A7 fun _ => rfl)) (fun _ => rfl) ?_
   intro g94
   refine A3 rfl rfl <| a0r rfl rfl rfl rfl (by decide) rfl (by (simp; done)) (by (simp; done)) rfl rfl rfl (dT rfl) (fun _ => ⟨rfl, rfl, rfl⟩) (by simp only [H7]; (simp only [List.length_nil, List.length_cons, List.length_append, Nat.zero_add, List.length_map]; omega)) (fun _ => rfl) ?_
   intro g96
   refine E5 rfl rfl rfl rfl rfl <| L7 (mk := 2) (fs := [_, _, _, _]) rfl rfl rfl (dT rfl) rfl rfl (a0i rfl (a0i rfl (a0i rfl (d2k rfl (by simp) (fun _ => rfl) K8)))) (fun _ _ => B4 (a3d (A7 fun _ => rfl) (by decide)) (B4 (B1 rfl) (G7 rfl))) ?_
   intro z98 g98
   simp only [K5, List.cons_append, List.nil_append]
   rw [d3x]
   refine H0 rfl rfl rfl rfl (by (simp; done)) (by simp) (by decide) rfl rfl rfl rfl (dT rfl) (fun _ => ⟨rfl, rfl⟩) (by simp only [H7]; (simp; omega)) (fun _ => rfl) ?_
   intro g99
   refine A5 rfl rfl rfl ?_
   (refine B2 rfl rfl (by (simp; done)) rfl (fun _ => (B1 (by exact A7 fun _ => rfl))) (fun _ => rfl) ?_; intro g5)
   refine G6 ⟨fun _ => ⟨by (simp only [O9, List.nil_append, List.append_nil, List.map_cons, List.map_nil, List.cons_append]; decide +kernel), by decide +kernel⟩, [(.t 4, _), (.t 5, _), (.h 5, _)], ⟨rfl, rfl, rfl, rfl, rfl, rfl, trivial⟩, ?_⟩
   refine B6 <| D3 (D7 rfl rfl (F9 rfl rfl (by simp) (by exact A7 fun _ => rfl) (E7 C5))) ?_
   obtain ⟨h1, h2⟩ := a1h (l := ss) (s := (I8 (.lst ns) (-1) (-1))) fun j hj => hne j (by omega)
   show _ = AV.tup [iV (stIx (I8 (.lst ns) (-1) (-1)) ss : Nat), .own 4 ((stAdd (I8 (.lst ns) (-1) (-1)) ss).map stA)]
   rw [h1, h2]
   simp only [List.length_map, List.drop_zero, List.take_length]
   rfl
  ·rw [b6u]
   have hwl : w ≠ lW := hgd.1
   refine a0e rfl rfl rfl (fun _ => C0 rfl) (fun _ => rfl) ?_
   intro g2
   refine A5 rfl rfl rfl ?_
   (refine C2 rfl rfl (fun _ => rfl) ?_; intro g5)
   refine xN [1,2] [1,2] rfl <| A4 <| A0 <| A8 rfl rfl (dT rfl) rfl rfl <| B8 rfl rfl rfl rfl rfl rfl <| I7 (fs := [_, iV (-1), iV (-1), .nil]) rfl rfl rfl rfl rfl <| G5 rfl (fun _ => C0 rfl) (fun _ => rfl) ?_
   intro g6
   refine C7 rfl rfl rfl rfl ⟨by decide, rfl, dT rfl, dT rfl, rfl⟩ rfl (by exact C0 rfl) <| xN [1,2,6] [1,2,6] rfl <| A4 <| A4 <| A0 <| A8 rfl rfl (dT rfl) rfl rfl <| B8 rfl rfl rfl rfl rfl rfl <| a1s rfl rfl <| xN [1,2,6,16] [1,2,6] rfl ?_
   refine A9 rfl (fun hc => absurd hc (by simp_all)) (fun hc => ?_)
   refine B5 <| A4 <| A4 <| A0 <| A5 rfl rfl rfl <| xN [1,2,6,7] [1,2,6] rfl <| C6 <| G2 <| A4 <| A4 <| A0 <| A3 rfl rfl <| A8 rfl rfl (dT rfl) rfl rfl <| B8 rfl rfl rfl rfl rfl rfl <| E8 rfl rfl <| I0 rfl rfl <| xN [1,2,6,7,26] [1,2,6] rfl ?_
   refine A9 rfl (fun hc => absurd hc (by decide)) (fun hc => ?_)
   refine H1 <| A4 <| A4 <| A0 <| A5 rfl rfl rfl <| xN [1,6,10] [1,6] rfl <| C6 <| J6 (β := Nat) [(.t 1, _), (.t 6, _), (.h 1, _), (.h 6, _)] (fun (i : Nat) => [(.t 10, iV i)]) (fun (i : Nat) => i ≤ ss.length ∧ ∀ j, j < i → ss.getD j default ≠ (I8 (.col w) (-1) (-1))) (fun (i : Nat) => ss.length - i) 0 ⟨rfl, rfl, rfl, rfl, rfl, trivial⟩ ⟨Nat.zero_le _, fun j h => by omega⟩ ?_
   intro i hb
   obtain ⟨hi1, hne⟩ := hb
   refine A4 <| A4 <| A0 <| A3 rfl rfl <| A3 rfl rfl <| I1 rfl rfl <| I0 rfl rfl <| xN [1,6,10,49] [1,6] rfl ?_
   refine A9 rfl ?_ ?_ <;> intro hc <;> try simp only [SL] at hc
   ·refine B5 <| A4 <| C6 <| A4 <| A0 <| A3 rfl rfl <| A3 rfl rfl <| E3 rfl rfl rfl rfl (by (simp; omega)) (by (simp; done)) rfl <| A8 rfl rfl (dT rfl) rfl rfl <| J1 rfl rfl (by omega) (fun _ => rfl) rfl rfl <| A8 rfl rfl (dT rfl) rfl rfl <| B8 rfl rfl rfl rfl rfl rfl <| a1s rfl rfl <| A3 rfl rfl ?_
    refine C8 rfl rfl ?_ ?_ <;> intro hg0 <;> have hg := hg0 <;> try simp only [SG] at hg
    ·refine A3 rfl rfl <| gT rfl rfl <| A3 rfl rfl <| gT rfl rfl <| E3 rfl rfl rfl rfl (by (simp; omega)) (by (simp; done)) rfl <| gT rfl rfl <| A8 rfl rfl (dT rfl) rfl rfl <| gT rfl rfl <| J1 rfl rfl (by omega) (fun _ => rfl) rfl rfl <| gT rfl rfl <| A8 rfl rfl (dT rfl) rfl rfl <| gT rfl rfl <| B8 rfl rfl rfl rfl rfl rfl <| gT rfl rfl <| N5 rfl rfl <| F0 rfl (by assumption) rfl rfl <| A3 rfl rfl ?_
     refine C8 rfl rfl ?_ ?_ <;> intro hg0 <;> have hg := hg0 <;> try simp only [SG] at hg
     ·refine A3 rfl rfl <| gT rfl rfl <| A3 rfl rfl <| gT rfl rfl <| E3 rfl rfl rfl rfl (by (simp; omega)) (by (simp; done)) rfl <| gT rfl rfl <| A8 rfl rfl (dT rfl) rfl rfl <| gT rfl rfl <| J1 rfl rfl (by omega) (fun _ => rfl) rfl rfl <| gT rfl rfl <| A8 rfl rfl (dT rfl) rfl rfl <| gT rfl rfl <| B8 rfl rfl rfl rfl rfl rfl <| gT rfl rfl <| N5 rfl rfl <| F0 rfl (by assumption) rfl rfl <| A3 rfl rfl ?_
      refine C8 rfl rfl ?_ ?_ <;> intro hg0 <;> have hg := hg0 <;> try simp only [SG] at hg
      ·refine A3 rfl rfl <| gT rfl rfl <| A3 rfl rfl <| gT rfl rfl <| E3 rfl rfl rfl rfl (by (simp; omega)) (by (simp; done)) rfl <| gT rfl rfl <| A8 rfl rfl (dT rfl) rfl rfl <| gT rfl rfl <| J1 rfl rfl (by omega) (fun _ => rfl) rfl rfl <| gT rfl rfl <| A8 rfl rfl (dT rfl) rfl rfl <| gT rfl rfl <| B8 rfl rfl rfl rfl rfl rfl <| gT rfl rfl ?_
       apply xC rfl
       ·apply B0
        ·exact B9 rfl
        apply B0
        ·exact a7m (dT rfl)
        exact C4
       ·exact a3f (ss.getD i default).ns [] (by have hsg := hss.2 _ (L1 (xs := ss) (i := i) (by omega)); have := S0 hsg.2; omega) (by decide)
       refine ⟨⟨rfl, rfl, rfl, dT rfl, rfl⟩, .inl rfl, B3, C3 rfl, fun _ => rfl, fun g88 => ?_⟩
       refine F0 rfl (by assumption) rfl rfl ?_
       refine G6 ⟨fun _ => ⟨by (simp only [O9, List.nil_append, List.append_nil, List.map_cons, List.map_nil, List.cons_append]; decide +kernel), by decide +kernel⟩, [(.t 1, _), (.t 6, _), (.t 10, _), (.t 89, _), (.h 1, _), (.h 6, _)], ⟨rfl, rfl, rfl, rfl, rfl, rfl, rfl, rfl, rfl, rfl, rfl, rfl, trivial⟩, ?_⟩
       refine A9 rfl ?_ ?_ <;> intro hc <;> try simp only [SL] at hc
       ·refine A4 <| A0 <| A3 rfl rfl <| A3 rfl rfl <| A5 rfl rfl rfl ?_
        (refine B2 rfl rfl (by (simp; done)) rfl (fun _ => (B1 (by exact A7 fun _ => rfl))) (fun _ => rfl) ?_; intro g5)
        refine xN [4,5] [5] rfl <| B6 <| D3 (D7 rfl rfl (F9 rfl rfl (by simp) (by exact A7 fun _ => rfl) (E7 C5))) ?_
        have hx : ss.getD i default = (I8 (.col w) (-1) (-1)) := b1d (by assumption) (by assumption) (by assumption) (by assumption)
        obtain ⟨h1, h2⟩ := a2k (by omega) hx hne
        show _ = AV.tup [iV (stIx (I8 (.col w) (-1) (-1)) ss : Nat), .own 4 ((stAdd (I8 (.col w) (-1) (-1)) ss).map stA)]
        rw [h1, h2]
        rfl
       refine B5 <| A0 <| A3 rfl rfl <| H5 rfl rfl (F4 (by omega)) <| A5 rfl rfl rfl <| xN [1,6,10] [1,6] rfl ?_
       refine ⟨i + 1, ⟨by omega, fun j hj => by rcases Nat.lt_succ_iff_lt_or_eq.1 hj with h | h; (· exact hne j h); (· subst h; exact b1r (by assumption))⟩, (by omega), ⟨rfl, rfl, rfl, rfl, rfl, trivial⟩⟩
      iterate 7 refine gF rfl rfl ?_
      refine D6 rfl (by assumption) rfl rfl ?_
      refine G6 ⟨fun _ => ⟨by decide +kernel, by decide +kernel⟩, [(.t 1, _), (.t 6, _), (.t 10, _), (.t 89, _), (.h 1, _), (.h 6, _)], ⟨rfl, rfl, rfl, rfl, rfl, rfl, rfl, rfl, rfl, rfl, rfl, rfl, trivial⟩, ?_⟩
      refine A9 rfl (fun hc => absurd hc (by decide)) (fun hc => ?_)
      refine B5 <| A0 <| A3 rfl rfl <| H5 rfl rfl (F4 (by omega)) <| A5 rfl rfl rfl <| xN [1,6,10] [1,6] rfl ?_
      refine ⟨i + 1, ⟨by omega, fun j hj => by rcases Nat.lt_succ_iff_lt_or_eq.1 hj with h | h; (· exact hne j h); (· subst h; exact b1o (by assumption))⟩, (by omega), ⟨rfl, rfl, rfl, rfl, rfl, trivial⟩⟩
     iterate 7 refine gF rfl rfl ?_
     refine D6 rfl (by assumption) rfl rfl <| A3 rfl rfl ?_
     iterate 8 refine G1 rfl rfl rfl ?_
     refine D6 rfl rfl rfl rfl ?_
     refine G6 ⟨fun _ => ⟨by decide +kernel, by decide +kernel⟩, [(.t 1, _), (.t 6, _), (.t 10, _), (.t 89, _), (.h 1, _), (.h 6, _)], ⟨rfl, rfl, rfl, rfl, rfl, rfl, rfl, rfl, rfl, rfl, rfl, rfl, trivial⟩, ?_⟩
     refine A9 rfl (fun hc => absurd hc (by decide)) (fun hc => ?_)
     refine B5 <| A0 <| A3 rfl rfl <| H5 rfl rfl (F4 (by omega)) <| A5 rfl rfl rfl <| xN [1,6,10] [1,6] rfl ?_
     refine ⟨i + 1, ⟨by omega, fun j hj => by rcases Nat.lt_succ_iff_lt_or_eq.1 hj with h | h; (· exact hne j h); (· subst h; exact b0z (by assumption))⟩, (by omega), ⟨rfl, rfl, rfl, rfl, rfl, trivial⟩⟩
    iterate 7 refine gF rfl rfl ?_
    refine D6 rfl (by assumption) rfl rfl <| A3 rfl rfl ?_
    iterate 8 refine G1 rfl rfl rfl ?_
    refine D6 rfl rfl rfl rfl <| A3 rfl rfl ?_
    iterate 8 refine G1 rfl rfl rfl ?_
    refine D6 rfl rfl rfl rfl ?_
    refine G6 ⟨fun _ => ⟨by decide +kernel, by decide +kernel⟩, [(.t 1, _), (.t 6, _), (.t 10, _), (.t 89, _), (.h 1, _), (.h 6, _)], ⟨rfl, rfl, rfl, rfl, rfl, rfl, rfl, rfl, rfl, rfl, rfl, rfl, trivial⟩, ?_⟩
    refine A9 rfl (fun hc => absurd hc (by decide)) (fun hc => ?_)
    refine B5 <| A0 <| A3 rfl rfl <| H5 rfl rfl (F4 (by omega)) <| A5 rfl rfl rfl <| xN [1,6,10] [1,6] rfl ?_
    refine ⟨i + 1, ⟨by omega, fun j hj => by rcases Nat.lt_succ_iff_lt_or_eq.1 hj with h | h; (· exact hne j h); (· subst h; exact b1q (by assumption))⟩, (by omega), ⟨rfl, rfl, rfl, rfl, rfl, trivial⟩⟩
   refine H1 <| A4 <| A0 <| A3 rfl rfl <| I1 rfl rfl <| E6 (es := List.map stA []) rfl rfl (dT rfl) rfl rfl (fun _ => B1 (A7 fun _ => rfl)) (fun _ => rfl) ?_
   intro g94
   refine A3 rfl rfl <| a0r rfl rfl rfl rfl (by decide) rfl (by (simp; done)) (by (simp; done)) rfl rfl rfl (dT rfl) (fun _ => ⟨rfl, rfl, rfl⟩) (by simp only [H7]; (simp only [List.length_nil, List.length_cons, List.length_append, Nat.zero_add, List.length_map]; omega)) (fun _ => rfl) ?_
   intro g96
   refine E5 rfl rfl rfl rfl rfl <| L7 (mk := 2) (fs := [_, _, _, _]) rfl rfl rfl (dT rfl) rfl rfl (a0i rfl (a0i rfl (a0i rfl (b6q K8)))) (fun _ _ => B4 (B1 rfl) (G7 rfl)) ?_
   intro z98 g98
   simp only [K5, List.cons_append, List.nil_append]
   rw [c1r]
   refine H0 rfl rfl rfl rfl (by (simp; done)) (by simp) (by decide) rfl rfl rfl rfl (dT rfl) (fun _ => ⟨rfl, rfl⟩) (by simp only [H7]; (simp; omega)) (fun _ => rfl) ?_
   intro g99
   refine A5 rfl rfl rfl ?_
   (refine B2 rfl rfl (by (simp; done)) rfl (fun _ => (B1 (by exact A7 fun _ => rfl))) (fun _ => rfl) ?_; intro g5)
   refine G6 ⟨fun _ => ⟨by (simp only [O9, List.nil_append, List.append_nil, List.map_cons, List.map_nil, List.cons_append]; decide +kernel), by decide +kernel⟩, [(.t 4, _), (.t 5, _), (.h 5, _)], ⟨rfl, rfl, rfl, rfl, rfl, rfl, trivial⟩, ?_⟩
   refine B6 <| D3 (D7 rfl rfl (F9 rfl rfl (by simp) (by exact A7 fun _ => rfl) (E7 C5))) ?_
   obtain ⟨h1, h2⟩ := a1h (l := ss) (s := (I8 (.col w) (-1) (-1))) fun j hj => hne j (by omega)
   show _ = AV.tup [iV (stIx (I8 (.col w) (-1) (-1)) ss : Nat), .own 4 ((stAdd (I8 (.col w) (-1) (-1)) ss).map stA)]
   rw [h1, h2]
   simp only [List.length_map, List.drop_zero, List.take_length]
   rfl
  ·rw [c2f]
   have hwl : w ≠ lW := hgd.1
   have hs1 := M1 p ss
   have hsz1 : (Pl.un w p).sz = p.sz + 1 := rfl
   refine a0e rfl rfl rfl (fun _ => C0 rfl) (fun _ => rfl) ?_
   intro g2
   refine A5 rfl rfl rfl ?_
   (refine C2 rfl rfl (fun _ => rfl) ?_; intro g5)
   refine xN [1,2] [1,2] rfl <| A4 <| A0 <| A8 rfl rfl (dT rfl) rfl rfl <| B8 rfl rfl rfl rfl rfl rfl <| I7 (fs := [_, iV (-1), iV (-1), .nil]) rfl rfl rfl rfl rfl <| G5 rfl (fun _ => C0 rfl) (fun _ => rfl) ?_
   intro g6
   refine C7 rfl rfl rfl rfl ⟨by decide, rfl, dT rfl, dT rfl, rfl⟩ rfl (by exact C0 rfl) <| xN [1,2,6] [1,2,6] rfl <| A4 <| A4 <| A0 <| A8 rfl rfl (dT rfl) rfl rfl <| B8 rfl rfl rfl rfl rfl rfl <| a1s rfl rfl <| xN [1,2,6,16] [1,2,6] rfl ?_
   refine A9 rfl (fun hc => absurd hc (by simp_all)) (fun hc => ?_)
   refine B5 <| A4 <| A4 <| A0 <| A5 rfl rfl rfl <| xN [1,2,6,7] [1,2,6] rfl <| C6 <| G2 <| A4 <| A4 <| A0 <| A3 rfl rfl <| A8 rfl rfl (dT rfl) rfl rfl <| B8 rfl rfl rfl rfl rfl rfl <| E8 rfl rfl <| I0 rfl rfl <| xN [1,2,6,7,26] [1,2,6] rfl ?_
   refine A9 rfl (fun hc => ?_) (fun hc => absurd hc (by exact fun h => Bool.noConfusion (show true = false from h)))
   refine B5 <| A4 <| C6 <| A4 <| A0 <| A8 rfl rfl (dT rfl) rfl rfl <| B8 rfl rfl rfl rfl rfl rfl <| A3 rfl rfl <| J3 rfl rfl rfl (fun _ => rfl) (by show (0 : Int) ≤ 0 ∧ (0 : Int) < ((1 : Nat) : Int); omega) <| F5 rfl rfl rfl <| A3 rfl rfl ?_
   apply xC rfl
   ·apply B0
    ·exact B9 rfl
    apply B0
    ·exact Z5 rfl rfl (by (simp; done)) (A7 fun _ => rfl)
    exact C4
   ·exact (by have hi := ih p ss ⟨by omega, hss.2⟩ hgd.2.2 (by omega); rw [← a4m] at hi; exact hi)
   refine ⟨⟨rfl, rfl, rfl, dT rfl, rfl⟩, .inl rfl, B3, H8 (I9 rfl (M3 fun _ => M0)), fun _ => B4 (by rfl) (B4 (B1 (A7 fun _ => rfl)) (by rfl)), fun g36 => ?_⟩
   simp only [List.length_map]
   refine A3 rfl rfl <| B7 rfl rfl rfl <| B7 rfl rfl rfl <| A5 rfl rfl rfl ?_
   (refine B2 rfl rfl (by (simp; done)) rfl (fun _ => (B1 (by exact A7 fun _ => rfl))) (fun _ => rfl) ?_; intro g9)
   refine xN [2,6,7,8,9] [2,6,9] rfl <| A4 <| A0 <| A3 rfl rfl ?_
   (refine B2 rfl rfl (by (simp; done)) rfl (fun _ => (B1 (by exact A7 fun _ => rfl))) (fun _ => rfl) ?_; intro g1)
   refine xN [1,2,6,7,8] [1,2,6] rfl <| A4 <| A0 <| A3 rfl rfl <| N5 rfl rfl <| xN [1,2,6,7,8,41] [1,2,6] rfl ?_
   refine A9 rfl (fun hc => ?_) (fun hc => absurd hc (by decide))
   refine A0 <| A3 rfl rfl <| A8 rfl rfl (dT rfl) rfl rfl <| V6 rfl rfl rfl rfl rfl ⟨by decide, rfl, dT rfl, dT rfl, rfl⟩ (by exact C0 rfl) <| xN [1,2,6,7] [1,2,6] rfl <| A0 <| A3 rfl rfl <| H5 rfl rfl (F4 (by omega)) <| A5 rfl rfl rfl <| xN [1,2,6,7] [1,2,6] rfl <| G2 <| A4 <| A4 <| A0 <| A3 rfl rfl <| A8 rfl rfl (dT rfl) rfl rfl <| B8 rfl rfl rfl rfl rfl rfl <| E8 rfl rfl <| I0 rfl rfl <| xN [1,2,6,7,26] [1,2,6] rfl ?_
   refine A9 rfl (fun hc => absurd hc (by exact fun h => Bool.noConfusion (show false = true from h))) (fun hc => ?_)
   refine H1 <| A4 <| A4 <| A0 <| A5 rfl rfl rfl <| xN [1,6,10] [1,6] rfl <| C6 <| J6 (β := Nat) [(.t 1, _), (.t 6, _), (.h 1, _), (.h 6, _)] (fun (i : Nat) => [(.t 10, iV i)]) (fun (i : Nat) => i ≤ (shareP p ss).1.length ∧ ∀ j, j < i → (shareP p ss).1.getD j default ≠ (I8 (.un w p) ((shareP p ss).2 : Int) (-1))) (fun (i : Nat) => (shareP p ss).1.length - i) 0 ⟨rfl, rfl, rfl, rfl, rfl, trivial⟩ ⟨Nat.zero_le _, fun j h => by omega⟩ ?_
   intro i hb
   obtain ⟨hi1, hne⟩ := hb
   refine A4 <| A4 <| A0 <| A3 rfl rfl <| A3 rfl rfl <| I1 rfl rfl <| I0 rfl rfl <| xN [1,6,10,49] [1,6] rfl ?_
   refine A9 rfl ?_ ?_ <;> intro hc <;> try simp only [SL] at hc
   ·refine B5 <| A4 <| C6 <| A4 <| A0 <| A3 rfl rfl <| A3 rfl rfl <| E3 rfl rfl rfl rfl (by omega) (by (simp; done)) rfl <| A8 rfl rfl (dT rfl) rfl rfl <| J1 rfl rfl (by omega) (fun _ => rfl) rfl rfl <| A8 rfl rfl (dT rfl) rfl rfl <| B8 rfl rfl rfl rfl rfl rfl <| a1s rfl rfl <| A3 rfl rfl ?_
    refine C8 rfl rfl ?_ ?_ <;> intro hg0 <;> have hg := hg0 <;> try simp only [SG] at hg
    ·refine A3 rfl rfl <| gT rfl rfl <| A3 rfl rfl <| gT rfl rfl <| E3 rfl rfl rfl rfl (by omega) (by (simp; done)) rfl <| gT rfl rfl <| A8 rfl rfl (dT rfl) rfl rfl <| gT rfl rfl <| J1 rfl rfl (by omega) (fun _ => rfl) rfl rfl <| gT rfl rfl <| A8 rfl rfl (dT rfl) rfl rfl <| gT rfl rfl <| B8 rfl rfl rfl rfl rfl rfl <| gT rfl rfl <| N5 rfl rfl <| F0 rfl (by assumption) rfl rfl <| A3 rfl rfl ?_
     refine C8 rfl rfl ?_ ?_ <;> intro hg0 <;> have hg := hg0 <;> try simp only [SG] at hg
     ·refine A3 rfl rfl <| gT rfl rfl <| A3 rfl rfl <| gT rfl rfl <| E3 rfl rfl rfl rfl (by omega) (by (simp; done)) rfl <| gT rfl rfl <| A8 rfl rfl (dT rfl) rfl rfl <| gT rfl rfl <| J1 rfl rfl (by omega) (fun _ => rfl) rfl rfl <| gT rfl rfl <| A8 rfl rfl (dT rfl) rfl rfl <| gT rfl rfl <| B8 rfl rfl rfl rfl rfl rfl <| gT rfl rfl <| N5 rfl rfl <| F0 rfl (by assumption) rfl rfl <| A3 rfl rfl ?_
      refine C8 rfl rfl ?_ ?_ <;> intro hg0 <;> have hg := hg0 <;> try simp only [SG] at hg
      ·refine A3 rfl rfl <| gT rfl rfl <| A3 rfl rfl <| gT rfl rfl <| E3 rfl rfl rfl rfl (by omega) (by (simp; done)) rfl <| gT rfl rfl <| A8 rfl rfl (dT rfl) rfl rfl <| gT rfl rfl <| J1 rfl rfl (by omega) (fun _ => rfl) rfl rfl <| gT rfl rfl <| A8 rfl rfl (dT rfl) rfl rfl <| gT rfl rfl <| B8 rfl rfl rfl rfl rfl rfl <| gT rfl rfl ?_
       apply xC rfl
       ·apply B0
        ·exact B9 rfl
        apply B0
        ·exact a7m (dT rfl)
        exact C4
       ·exact a3f ((shareP p ss).1.getD i default).ns [] (by have hsg := (Q4 p _ hgd.2.2 hss.2) _ (L1 (xs := (shareP p ss).1) (i := i) (by omega)); have := S0 hsg.2; omega) (by decide)
       refine ⟨⟨rfl, rfl, rfl, dT rfl, rfl⟩, .inl rfl, B3, C3 rfl, fun _ => rfl, fun g88 => ?_⟩
       refine F0 rfl (by assumption) rfl rfl ?_
       refine G6 ⟨fun _ => ⟨by (simp only [O9, List.nil_append, List.append_nil, List.map_cons, List.map_nil, List.cons_append]; decide +kernel), by decide +kernel⟩, [(.t 1, _), (.t 6, _), (.t 10, _), (.t 89, _), (.h 1, _), (.h 6, _)], ⟨rfl, rfl, rfl, rfl, rfl, rfl, rfl, rfl, rfl, rfl, rfl, rfl, trivial⟩, ?_⟩
       refine A9 rfl ?_ ?_ <;> intro hc <;> try simp only [SL] at hc
       ·refine A4 <| A0 <| A3 rfl rfl <| A3 rfl rfl <| A5 rfl rfl rfl ?_
        (refine B2 rfl rfl (by (simp; done)) rfl (fun _ => (B1 (by exact A7 fun _ => rfl))) (fun _ => rfl) ?_; intro g5)
        refine xN [4,5] [5] rfl <| B6 <| D3 (D7 rfl rfl (F9 rfl rfl (by simp) (by exact A7 fun _ => rfl) (E7 C5))) ?_
        have hx : (shareP p ss).1.getD i default = (I8 (.un w p) ((shareP p ss).2 : Int) (-1)) := b1d (by assumption) (by assumption) (by assumption) (by assumption)
        obtain ⟨h1, h2⟩ := a2k (by omega) hx hne
        show _ = AV.tup [iV (stIx (I8 (.un w p) ((shareP p ss).2 : Int) (-1)) (shareP p ss).1 : Nat), .own 4 ((stAdd (I8 (.un w p) ((shareP p ss).2 : Int) (-1)) (shareP p ss).1).map stA)]
        rw [h1, h2]
        rfl
       refine B5 <| A0 <| A3 rfl rfl <| H5 rfl rfl (F4 (by omega)) <| A5 rfl rfl rfl <| xN [1,6,10] [1,6] rfl ?_
       refine ⟨i + 1, ⟨by omega, fun j hj => by rcases Nat.lt_succ_iff_lt_or_eq.1 hj with h | h; (· exact hne j h); (· subst h; exact b1r (by assumption))⟩, (by omega), ⟨rfl, rfl, rfl, rfl, rfl, trivial⟩⟩
      iterate 7 refine gF rfl rfl ?_
      refine D6 rfl (by assumption) rfl rfl ?_
      refine G6 ⟨fun _ => ⟨by decide +kernel, by decide +kernel⟩, [(.t 1, _), (.t 6, _), (.t 10, _), (.t 89, _), (.h 1, _), (.h 6, _)], ⟨rfl, rfl, rfl, rfl, rfl, rfl, rfl, rfl, rfl, rfl, rfl, rfl, trivial⟩, ?_⟩
      refine A9 rfl (fun hc => absurd hc (by decide)) (fun hc => ?_)
      refine B5 <| A0 <| A3 rfl rfl <| H5 rfl rfl (F4 (by omega)) <| A5 rfl rfl rfl <| xN [1,6,10] [1,6] rfl ?_
      refine ⟨i + 1, ⟨by omega, fun j hj => by rcases Nat.lt_succ_iff_lt_or_eq.1 hj with h | h; (· exact hne j h); (· subst h; exact b1o (by assumption))⟩, (by omega), ⟨rfl, rfl, rfl, rfl, rfl, trivial⟩⟩
     iterate 7 refine gF rfl rfl ?_
     refine D6 rfl (by assumption) rfl rfl <| A3 rfl rfl ?_
     iterate 8 refine G1 rfl rfl rfl ?_
     refine D6 rfl rfl rfl rfl ?_
     refine G6 ⟨fun _ => ⟨by decide +kernel, by decide +kernel⟩, [(.t 1, _), (.t 6, _), (.t 10, _), (.t 89, _), (.h 1, _), (.h 6, _)], ⟨rfl, rfl, rfl, rfl, rfl, rfl, rfl, rfl, rfl, rfl, rfl, rfl, trivial⟩, ?_⟩
     refine A9 rfl (fun hc => absurd hc (by decide)) (fun hc => ?_)
     refine B5 <| A0 <| A3 rfl rfl <| H5 rfl rfl (F4 (by omega)) <| A5 rfl rfl rfl <| xN [1,6,10] [1,6] rfl ?_
     refine ⟨i + 1, ⟨by omega, fun j hj => by rcases Nat.lt_succ_iff_lt_or_eq.1 hj with h | h; (· exact hne j h); (· subst h; exact b0z (by assumption))⟩, (by omega), ⟨rfl, rfl, rfl, rfl, rfl, trivial⟩⟩
    iterate 7 refine gF rfl rfl ?_
    refine D6 rfl (by assumption) rfl rfl <| A3 rfl rfl ?_
    iterate 8 refine G1 rfl rfl rfl ?_
    refine D6 rfl rfl rfl rfl <| A3 rfl rfl ?_
    iterate 8 refine G1 rfl rfl rfl ?_
    refine D6 rfl rfl rfl rfl ?_
    refine G6 ⟨fun _ => ⟨by decide +kernel, by decide +kernel⟩, [(.t 1, _), (.t 6, _), (.t 10, _), (.t 89, _), (.h 1, _), (.h 6, _)], ⟨rfl, rfl, rfl, rfl, rfl, rfl, rfl, rfl, rfl, rfl, rfl, rfl, trivial⟩, ?_⟩
    refine A9 rfl (fun hc => absurd hc (by decide)) (fun hc => ?_)
    refine B5 <| A0 <| A3 rfl rfl <| H5 rfl rfl (F4 (by omega)) <| A5 rfl rfl rfl <| xN [1,6,10] [1,6] rfl ?_
    refine ⟨i + 1, ⟨by omega, fun j hj => by rcases Nat.lt_succ_iff_lt_or_eq.1 hj with h | h; (· exact hne j h); (· subst h; exact b1q (by assumption))⟩, (by omega), ⟨rfl, rfl, rfl, rfl, rfl, trivial⟩⟩
   refine H1 <| A4 <| A0 <| A3 rfl rfl <| I1 rfl rfl <| E6 (es := List.map stA []) rfl rfl (dT rfl) rfl rfl (fun _ => B1 (A7 fun _ => rfl)) (fun _ => rfl) ?_
   intro g94
   refine A3 rfl rfl <| a0r rfl rfl rfl rfl (by decide) rfl (by (simp; done)) (by omega) rfl rfl rfl (dT rfl) (fun _ => ⟨rfl, rfl, rfl⟩) (by simp only [H7]; (simp only [List.length_nil, List.length_cons, List.length_append, Nat.zero_add, List.length_map]; omega)) (fun _ => rfl) ?_
   intro g96
   refine E5 rfl rfl rfl rfl rfl <| L7 (mk := 2) (fs := [_, _, _, _]) rfl rfl rfl (dT rfl) rfl rfl (a0i rfl (a0i rfl (a0i rfl (b6q K8)))) (fun _ _ => B4 (B1 rfl) (G7 rfl)) ?_
   intro z98 g98
   simp only [K5, List.cons_append, List.nil_append]
   rw [c1r]
   refine H0 rfl rfl rfl rfl (by (simp; done)) (by simp) (by decide) rfl rfl rfl rfl (dT rfl) (fun _ => ⟨rfl, rfl⟩) (by simp only [H7]; (simp; omega)) (fun _ => rfl) ?_
   intro g99
   refine A5 rfl rfl rfl ?_
   (refine B2 rfl rfl (by (simp; done)) rfl (fun _ => (B1 (by exact A7 fun _ => rfl))) (fun _ => rfl) ?_; intro g5)
   refine G6 ⟨fun _ => ⟨by (simp only [O9, List.nil_append, List.append_nil, List.map_cons, List.map_nil, List.cons_append]; decide +kernel), by decide +kernel⟩, [(.t 4, _), (.t 5, _), (.h 5, _)], ⟨rfl, rfl, rfl, rfl, rfl, rfl, trivial⟩, ?_⟩
   refine B6 <| D3 (D7 rfl rfl (F9 rfl rfl (by simp) (by exact A7 fun _ => rfl) (E7 C5))) ?_
   obtain ⟨h1, h2⟩ := a1h (l := (shareP p ss).1) (s := (I8 (.un w p) ((shareP p ss).2 : Int) (-1))) fun j hj => hne j (by omega)
   show _ = AV.tup [iV (stIx (I8 (.un w p) ((shareP p ss).2 : Int) (-1)) (shareP p ss).1 : Nat), .own 4 ((stAdd (I8 (.un w p) ((shareP p ss).2 : Int) (-1)) (shareP p ss).1).map stA)]
   rw [h1, h2]
   simp only [List.length_map, List.drop_zero, List.take_length]
   rfl
  rw [b6w]
  have hwl : w ≠ lW := hgd.1
  have hs1 := M1 p ss
  have hs2 := M1 q (shareP p ss).1
  have hsz1 : (Pl.bin w p q).sz = p.sz + q.sz + 1 := rfl
  refine a0e rfl rfl rfl (fun _ => C0 rfl) (fun _ => rfl) ?_
  intro g2
  refine A5 rfl rfl rfl ?_
  (refine C2 rfl rfl (fun _ => rfl) ?_; intro g5)
  refine xN [1,2] [1,2] rfl <| A4 <| A0 <| A8 rfl rfl (dT rfl) rfl rfl <| B8 rfl rfl rfl rfl rfl rfl <| I7 (fs := [_, iV (-1), iV (-1), .nil]) rfl rfl rfl rfl rfl <| G5 rfl (fun _ => C0 rfl) (fun _ => rfl) ?_
  intro g6
  refine C7 rfl rfl rfl rfl ⟨by decide, rfl, dT rfl, dT rfl, rfl⟩ rfl (by exact C0 rfl) <| xN [1,2,6] [1,2,6] rfl <| A4 <| A4 <| A0 <| A8 rfl rfl (dT rfl) rfl rfl <| B8 rfl rfl rfl rfl rfl rfl <| a1s rfl rfl <| xN [1,2,6,16] [1,2,6] rfl ?_
  refine A9 rfl (fun hc => absurd hc (by simp_all)) (fun hc => ?_)
  refine B5 <| A4 <| A4 <| A0 <| A5 rfl rfl rfl <| xN [1,2,6,7] [1,2,6] rfl <| C6 <| G2 <| A4 <| A4 <| A0 <| A3 rfl rfl <| A8 rfl rfl (dT rfl) rfl rfl <| B8 rfl rfl rfl rfl rfl rfl <| E8 rfl rfl <| I0 rfl rfl <| xN [1,2,6,7,26] [1,2,6] rfl ?_
  refine A9 rfl (fun hc => ?_) (fun hc => absurd hc (by exact fun h => Bool.noConfusion (show true = false from h)))
  refine B5 <| A4 <| C6 <| A4 <| A0 <| A8 rfl rfl (dT rfl) rfl rfl <| B8 rfl rfl rfl rfl rfl rfl <| A3 rfl rfl <| J3 rfl rfl rfl (fun _ => rfl) (by show (0 : Int) ≤ 0 ∧ (0 : Int) < ((2 : Nat) : Int); omega) <| F5 rfl rfl rfl <| A3 rfl rfl ?_
  apply xC rfl
  ·apply B0
   ·exact B9 rfl
   apply B0
   ·exact Z5 rfl rfl (by (simp; done)) (A7 fun _ => rfl)
   exact C4
  ·exact (by have hi := ih p ss ⟨by omega, hss.2⟩ hgd.2.2.1 (by omega); rw [← a4m] at hi; exact hi)
  refine ⟨⟨rfl, rfl, rfl, dT rfl, rfl⟩, .inl rfl, B3, H8 (I9 rfl (M3 fun _ => M0)), fun _ => B4 (by rfl) (B4 (B1 (A7 fun _ => rfl)) (by rfl)), fun g36 => ?_⟩
  simp only [List.length_map]
  refine A3 rfl rfl <| B7 rfl rfl rfl <| B7 rfl rfl rfl <| A5 rfl rfl rfl ?_
  (refine B2 rfl rfl (by (simp; done)) rfl (fun _ => (B1 (by exact A7 fun _ => rfl))) (fun _ => rfl) ?_; intro g9)
  refine xN [2,6,7,8,9] [2,6,9] rfl <| A4 <| A0 <| A3 rfl rfl ?_
  (refine B2 rfl rfl (by (simp; done)) rfl (fun _ => (B1 (by exact A7 fun _ => rfl))) (fun _ => rfl) ?_; intro g1)
  refine xN [1,2,6,7,8] [1,2,6] rfl <| A4 <| A0 <| A3 rfl rfl <| N5 rfl rfl <| xN [1,2,6,7,8,41] [1,2,6] rfl ?_
  refine A9 rfl (fun hc => ?_) (fun hc => absurd hc (by decide))
  refine A0 <| A3 rfl rfl <| A8 rfl rfl (dT rfl) rfl rfl <| V6 rfl rfl rfl rfl rfl ⟨by decide, rfl, dT rfl, dT rfl, rfl⟩ (by exact C0 rfl) <| xN [1,2,6,7] [1,2,6] rfl <| A0 <| A3 rfl rfl <| H5 rfl rfl (F4 (by omega)) <| A5 rfl rfl rfl <| xN [1,2,6,7] [1,2,6] rfl <| G2 <| A4 <| A4 <| A0 <| A3 rfl rfl <| A8 rfl rfl (dT rfl) rfl rfl <| B8 rfl rfl rfl rfl rfl rfl <| E8 rfl rfl <| I0 rfl rfl <| xN [1,2,6,7,26] [1,2,6] rfl ?_
  refine A9 rfl (fun hc => ?_) (fun hc => absurd hc (by exact fun h => Bool.noConfusion (show true = false from h)))
  refine B5 <| A4 <| C6 <| A4 <| A0 <| A8 rfl rfl (dT rfl) rfl rfl <| B8 rfl rfl rfl rfl rfl rfl <| A3 rfl rfl <| J3 rfl rfl rfl (fun _ => rfl) (by show (0 : Int) ≤ 1 ∧ (1 : Int) < ((2 : Nat) : Int); omega) <| F5 rfl rfl rfl <| A3 rfl rfl ?_
  apply xC rfl
  ·apply B0
   ·exact B9 rfl
   apply B0
   ·exact Z5 rfl rfl (by (simp; done)) (A7 fun _ => rfl)
   exact C4
  ·exact (by have hi := ih q (shareP p ss).1 ⟨by omega, (Q4 p _ hgd.2.2.1 hss.2)⟩ hgd.2.2.2 (by omega); rw [← a4m] at hi; exact hi)
  refine ⟨⟨rfl, rfl, rfl, dT rfl, rfl⟩, .inl rfl, B3, H8 (I9 rfl (M3 fun _ => M0)), fun _ => B4 (by rfl) (B4 (B1 (A7 fun _ => rfl)) (by rfl)), fun g36 => ?_⟩
  simp only [List.length_map]
  refine A3 rfl rfl <| B7 rfl rfl rfl <| B7 rfl rfl rfl <| A5 rfl rfl rfl ?_
  (refine B2 rfl rfl (by (simp; done)) rfl (fun _ => (B1 (by exact A7 fun _ => rfl))) (fun _ => rfl) ?_; intro g9)
  refine xN [2,6,7,8,9] [2,6,9] rfl <| A4 <| A0 <| A3 rfl rfl ?_
  (refine B2 rfl rfl (by (simp; done)) rfl (fun _ => (B1 (by exact A7 fun _ => rfl))) (fun _ => rfl) ?_; intro g1)
  refine xN [1,2,6,7,8] [1,2,6] rfl <| A4 <| A0 <| A3 rfl rfl <| N5 rfl rfl <| xN [1,2,6,7,8,41] [1,2,6] rfl ?_
  refine A9 rfl (fun hc => absurd hc (by decide)) (fun hc => ?_)
  refine A0 <| A3 rfl rfl <| A8 rfl rfl (dT rfl) rfl rfl <| V6 rfl rfl rfl rfl rfl ⟨by decide, rfl, dT rfl, dT rfl, rfl⟩ (by exact C0 rfl) <| xN [1,2,6,7] [1,2,6] rfl <| A0 <| A3 rfl rfl <| H5 rfl rfl (F4 (by omega)) <| A5 rfl rfl rfl <| xN [1,2,6,7] [1,2,6] rfl <| G2 <| A4 <| A4 <| A0 <| A3 rfl rfl <| A8 rfl rfl (dT rfl) rfl rfl <| B8 rfl rfl rfl rfl rfl rfl <| E8 rfl rfl <| I0 rfl rfl <| xN [1,2,6,7,26] [1,2,6] rfl ?_
  refine A9 rfl (fun hc => absurd hc (by exact fun h => Bool.noConfusion (show false = true from h))) (fun hc => ?_)
  refine H1 <| A4 <| A4 <| A0 <| A5 rfl rfl rfl <| xN [1,6,10] [1,6] rfl <| C6 <| J6 (β := Nat) [(.t 1, _), (.t 6, _), (.h 1, _), (.h 6, _)] (fun (i : Nat) => [(.t 10, iV i)]) (fun (i : Nat) => i ≤ (shareP q (shareP p ss).1).1.length ∧ ∀ j, j < i → (shareP q (shareP p ss).1).1.getD j default ≠ (I8 (.bin w p q) ((shareP p ss).2 : Int) ((shareP q (shareP p ss).1).2 : Int))) (fun (i : Nat) => (shareP q (shareP p ss).1).1.length - i) 0 ⟨rfl, rfl, rfl, rfl, rfl, trivial⟩ ⟨Nat.zero_le _, fun j h => by omega⟩ ?_
  intro i hb
  obtain ⟨hi1, hne⟩ := hb
  refine A4 <| A4 <| A0 <| A3 rfl rfl <| A3 rfl rfl <| I1 rfl rfl <| I0 rfl rfl <| xN [1,6,10,49] [1,6] rfl ?_
  refine A9 rfl ?_ ?_ <;> intro hc <;> try simp only [SL] at hc
  ·refine B5 <| A4 <| C6 <| A4 <| A0 <| A3 rfl rfl <| A3 rfl rfl <| E3 rfl rfl rfl rfl (by omega) (by (simp; done)) rfl <| A8 rfl rfl (dT rfl) rfl rfl <| J1 rfl rfl (by omega) (fun _ => rfl) rfl rfl <| A8 rfl rfl (dT rfl) rfl rfl <| B8 rfl rfl rfl rfl rfl rfl <| a1s rfl rfl <| A3 rfl rfl ?_
   refine C8 rfl rfl ?_ ?_ <;> intro hg0 <;> have hg := hg0 <;> try simp only [SG] at hg
   ·refine A3 rfl rfl <| gT rfl rfl <| A3 rfl rfl <| gT rfl rfl <| E3 rfl rfl rfl rfl (by omega) (by (simp; done)) rfl <| gT rfl rfl <| A8 rfl rfl (dT rfl) rfl rfl <| gT rfl rfl <| J1 rfl rfl (by omega) (fun _ => rfl) rfl rfl <| gT rfl rfl <| A8 rfl rfl (dT rfl) rfl rfl <| gT rfl rfl <| B8 rfl rfl rfl rfl rfl rfl <| gT rfl rfl <| N5 rfl rfl <| F0 rfl (by assumption) rfl rfl <| A3 rfl rfl ?_
    refine C8 rfl rfl ?_ ?_ <;> intro hg0 <;> have hg := hg0 <;> try simp only [SG] at hg
    ·refine A3 rfl rfl <| gT rfl rfl <| A3 rfl rfl <| gT rfl rfl <| E3 rfl rfl rfl rfl (by omega) (by (simp; done)) rfl <| gT rfl rfl <| A8 rfl rfl (dT rfl) rfl rfl <| gT rfl rfl <| J1 rfl rfl (by omega) (fun _ => rfl) rfl rfl <| gT rfl rfl <| A8 rfl rfl (dT rfl) rfl rfl <| gT rfl rfl <| B8 rfl rfl rfl rfl rfl rfl <| gT rfl rfl <| N5 rfl rfl <| F0 rfl (by assumption) rfl rfl <| A3 rfl rfl ?_
     refine C8 rfl rfl ?_ ?_ <;> intro hg0 <;> have hg := hg0 <;> try simp only [SG] at hg
     ·refine A3 rfl rfl <| gT rfl rfl <| A3 rfl rfl <| gT rfl rfl <| E3 rfl rfl rfl rfl (by omega) (by (simp; done)) rfl <| gT rfl rfl <| A8 rfl rfl (dT rfl) rfl rfl <| gT rfl rfl <| J1 rfl rfl (by omega) (fun _ => rfl) rfl rfl <| gT rfl rfl <| A8 rfl rfl (dT rfl) rfl rfl <| gT rfl rfl <| B8 rfl rfl rfl rfl rfl rfl <| gT rfl rfl ?_
      apply xC rfl
      ·apply B0
       ·exact B9 rfl
       apply B0
       ·exact a7m (dT rfl)
       exact C4
      ·exact a3f ((shareP q (shareP p ss).1).1.getD i default).ns [] (by have hsg := (Q4 q _ hgd.2.2.2 (Q4 p _ hgd.2.2.1 hss.2)) _ (L1 (xs := (shareP q (shareP p ss).1).1) (i := i) (by omega)); have := S0 hsg.2; omega) (by decide)
      refine ⟨⟨rfl, rfl, rfl, dT rfl, rfl⟩, .inl rfl, B3, C3 rfl, fun _ => rfl, fun g88 => ?_⟩
      refine F0 rfl (by assumption) rfl rfl ?_
      refine G6 ⟨fun _ => ⟨by (simp only [O9, List.nil_append, List.append_nil, List.map_cons, List.map_nil, List.cons_append]; decide +kernel), by decide +kernel⟩, [(.t 1, _), (.t 6, _), (.t 10, _), (.t 89, _), (.h 1, _), (.h 6, _)], ⟨rfl, rfl, rfl, rfl, rfl, rfl, rfl, rfl, rfl, rfl, rfl, rfl, trivial⟩, ?_⟩
      refine A9 rfl ?_ ?_ <;> intro hc <;> try simp only [SL] at hc
      ·refine A4 <| A0 <| A3 rfl rfl <| A3 rfl rfl <| A5 rfl rfl rfl ?_
       (refine B2 rfl rfl (by (simp; done)) rfl (fun _ => (B1 (by exact A7 fun _ => rfl))) (fun _ => rfl) ?_; intro g5)
       refine xN [4,5] [5] rfl <| B6 <| D3 (D7 rfl rfl (F9 rfl rfl (by simp) (by exact A7 fun _ => rfl) (E7 C5))) ?_
       have hx : (shareP q (shareP p ss).1).1.getD i default = (I8 (.bin w p q) ((shareP p ss).2 : Int) ((shareP q (shareP p ss).1).2 : Int)) := b1d (by assumption) (by assumption) (by assumption) (by assumption)
       obtain ⟨h1, h2⟩ := a2k (by omega) hx hne
       show _ = AV.tup [iV (stIx (I8 (.bin w p q) ((shareP p ss).2 : Int) ((shareP q (shareP p ss).1).2 : Int)) (shareP q (shareP p ss).1).1 : Nat), .own 4 ((stAdd (I8 (.bin w p q) ((shareP p ss).2 : Int) ((shareP q (shareP p ss).1).2 : Int)) (shareP q (shareP p ss).1).1).map stA)]
       rw [h1, h2]
       rfl
      refine B5 <| A0 <| A3 rfl rfl <| H5 rfl rfl (F4 (by omega)) <| A5 rfl rfl rfl <| xN [1,6,10] [1,6] rfl ?_
      refine ⟨i + 1, ⟨by omega, fun j hj => by rcases Nat.lt_succ_iff_lt_or_eq.1 hj with h | h; (· exact hne j h); (· subst h; exact b1r (by assumption))⟩, (by omega), ⟨rfl, rfl, rfl, rfl, rfl, trivial⟩⟩
     iterate 7 refine gF rfl rfl ?_
     refine D6 rfl (by assumption) rfl rfl ?_
     refine G6 ⟨fun _ => ⟨by decide +kernel, by decide +kernel⟩, [(.t 1, _), (.t 6, _), (.t 10, _), (.t 89, _), (.h 1, _), (.h 6, _)], ⟨rfl, rfl, rfl, rfl, rfl, rfl, rfl, rfl, rfl, rfl, rfl, rfl, trivial⟩, ?_⟩
     refine A9 rfl (fun hc => absurd hc (by decide)) (fun hc => ?_)
     refine B5 <| A0 <| A3 rfl rfl <| H5 rfl rfl (F4 (by omega)) <| A5 rfl rfl rfl <| xN [1,6,10] [1,6] rfl ?_
     refine ⟨i + 1, ⟨by omega, fun j hj => by rcases Nat.lt_succ_iff_lt_or_eq.1 hj with h | h; (· exact hne j h); (· subst h; exact b1o (by assumption))⟩, (by omega), ⟨rfl, rfl, rfl, rfl, rfl, trivial⟩⟩
    iterate 7 refine gF rfl rfl ?_
    refine D6 rfl (by assumption) rfl rfl <| A3 rfl rfl ?_
    iterate 8 refine G1 rfl rfl rfl ?_
    refine D6 rfl rfl rfl rfl ?_
    refine G6 ⟨fun _ => ⟨by decide +kernel, by decide +kernel⟩, [(.t 1, _), (.t 6, _), (.t 10, _), (.t 89, _), (.h 1, _), (.h 6, _)], ⟨rfl, rfl, rfl, rfl, rfl, rfl, rfl, rfl, rfl, rfl, rfl, rfl, trivial⟩, ?_⟩
    refine A9 rfl (fun hc => absurd hc (by decide)) (fun hc => ?_)
    refine B5 <| A0 <| A3 rfl rfl <| H5 rfl rfl (F4 (by omega)) <| A5 rfl rfl rfl <| xN [1,6,10] [1,6] rfl ?_
    refine ⟨i + 1, ⟨by omega, fun j hj => by rcases Nat.lt_succ_iff_lt_or_eq.1 hj with h | h; (· exact hne j h); (· subst h; exact b0z (by assumption))⟩, (by omega), ⟨rfl, rfl, rfl, rfl, rfl, trivial⟩⟩
   iterate 7 refine gF rfl rfl ?_
   refine D6 rfl (by assumption) rfl rfl <| A3 rfl rfl ?_
   iterate 8 refine G1 rfl rfl rfl ?_
   refine D6 rfl rfl rfl rfl <| A3 rfl rfl ?_
   iterate 8 refine G1 rfl rfl rfl ?_
   refine D6 rfl rfl rfl rfl ?_
   refine G6 ⟨fun _ => ⟨by decide +kernel, by decide +kernel⟩, [(.t 1, _), (.t 6, _), (.t 10, _), (.t 89, _), (.h 1, _), (.h 6, _)], ⟨rfl, rfl, rfl, rfl, rfl, rfl, rfl, rfl, rfl, rfl, rfl, rfl, trivial⟩, ?_⟩
   refine A9 rfl (fun hc => absurd hc (by decide)) (fun hc => ?_)
   refine B5 <| A0 <| A3 rfl rfl <| H5 rfl rfl (F4 (by omega)) <| A5 rfl rfl rfl <| xN [1,6,10] [1,6] rfl ?_
   refine ⟨i + 1, ⟨by omega, fun j hj => by rcases Nat.lt_succ_iff_lt_or_eq.1 hj with h | h; (· exact hne j h); (· subst h; exact b1q (by assumption))⟩, (by omega), ⟨rfl, rfl, rfl, rfl, rfl, trivial⟩⟩
  refine H1 <| A4 <| A0 <| A3 rfl rfl <| I1 rfl rfl <| E6 (es := List.map stA []) rfl rfl (dT rfl) rfl rfl (fun _ => B1 (A7 fun _ => rfl)) (fun _ => rfl) ?_
  intro g94
  refine A3 rfl rfl <| a0r rfl rfl rfl rfl (by decide) rfl (by (simp; done)) (by omega) rfl rfl rfl (dT rfl) (fun _ => ⟨rfl, rfl, rfl⟩) (by simp only [H7]; (simp only [List.length_nil, List.length_cons, List.length_append, Nat.zero_add, List.length_map]; omega)) (fun _ => rfl) ?_
  intro g96
  refine E5 rfl rfl rfl rfl rfl <| L7 (mk := 2) (fs := [_, _, _, _]) rfl rfl rfl (dT rfl) rfl rfl (a0i rfl (a0i rfl (a0i rfl (b6q K8)))) (fun _ _ => B4 (B1 rfl) (G7 rfl)) ?_
  intro z98 g98
  simp only [K5, List.cons_append, List.nil_append]
  rw [c1r]
  refine H0 rfl rfl rfl rfl (by (simp; done)) (by simp) (by decide) rfl rfl rfl rfl (dT rfl) (fun _ => ⟨rfl, rfl⟩) (by simp only [H7]; (simp; omega)) (fun _ => rfl) ?_
  intro g99
  refine A5 rfl rfl rfl ?_
  (refine B2 rfl rfl (by (simp; done)) rfl (fun _ => (B1 (by exact A7 fun _ => rfl))) (fun _ => rfl) ?_; intro g5)
  refine G6 ⟨fun _ => ⟨by (simp only [O9, List.nil_append, List.append_nil, List.map_cons, List.map_nil, List.cons_append]; decide +kernel), by decide +kernel⟩, [(.t 4, _), (.t 5, _), (.h 5, _)], ⟨rfl, rfl, rfl, rfl, rfl, rfl, trivial⟩, ?_⟩
  refine B6 <| D3 (D7 rfl rfl (F9 rfl rfl (by simp) (by exact A7 fun _ => rfl) (E7 C5))) ?_
  obtain ⟨h1, h2⟩ := a1h (l := (shareP q (shareP p ss).1).1) (s := (I8 (.bin w p q) ((shareP p ss).2 : Int) ((shareP q (shareP p ss).1).2 : Int))) fun j hj => hne j (by omega)
  show _ = AV.tup [iV (stIx (I8 (.bin w p q) ((shareP p ss).2 : Int) ((shareP q (shareP p ss).1).2 : Int)) (shareP q (shareP p ss).1).1 : Nat), .own 4 ((stAdd (I8 (.bin w p q) ((shareP p ss).2 : Int) ((shareP q (shareP p ss).1).2 : Int)) (shareP q (shareP p ss).1).1).map stA)]
  rw [h1, h2]
  simp only [List.length_map, List.drop_zero, List.take_length]
  rfl

theorem keep_s_SharePlanS : G8 Tryz.f23 = [0, 2, 4, 13, 3, 6, 9] := by kernel_rfl
set_option maxHeartbeats 20000000 in
theorem a7x (s : List UInt8) (hs : s.length ≤ 1048576) : CW (cxT oG) 23 [tV s] = some (.own 4 ((sharesT s).map stA), []) := by
 refine G9 rfl Tryz.func23 rfl ⟨by kernel_rfl, rfl, dT rfl, dT rfl, by decide⟩ keep_s_SharePlanS <| A4 <| A0 ?_
 (refine C2 rfl rfl (fun _ => rfl) ?_; intro g2)
 refine xN [0] [] rfl <| A4 <| A0 <| A3 rfl rfl ?_
 apply xC rfl
 ·apply B0
  ·exact B9 rfl
  exact C4
 ·exact c3n s hs
 refine ⟨⟨rfl, rfl, rfl, dT rfl, rfl⟩, .inl rfl, B3, N1 rfl, fun _ => rfl, fun g9 => ?_⟩
 refine A3 rfl rfl <| B7 rfl rfl rfl <| B7 rfl rfl rfl <| G5 rfl (fun _ => C0 rfl) (fun _ => rfl) ?_
 intro g3
 refine C7 rfl rfl rfl rfl ⟨by decide, rfl, dT rfl, dT rfl, rfl⟩ rfl (by exact C0 rfl) <| A5 rfl rfl rfl <| xN [3,4] [3] rfl <| A4 <| A4 <| A0 <| A3 rfl rfl <| P6 rfl <| xN [3,13] [3] rfl ?_
 refine A9 rfl ?_ ?_ <;> intro hc <;> try simp only [SL] at hc
 ·refine A4 <| A0 ?_
  (refine C2 rfl rfl (fun _ => rfl) ?_; intro g2)
  refine xN [2] [2] rfl <| B6 <| V0 rfl rfl (by simp) (by rfl) trivial ?_
  rw [a7u hc]
  rfl
 refine B5 <| A4 <| A0 <| E5 rfl rfl rfl rfl rfl <| E6 (es := List.map stA []) rfl rfl (dT rfl) rfl rfl (fun _ => B1 (A7 fun _ => rfl)) (fun _ => rfl) ?_
 intro g16
 obtain ⟨t, ht1, ht2, ht3⟩ := b3o hc
 obtain ⟨hst, hwf, hgd, hsl, hsz⟩ := a3x ht1
 have hsl2 := M1 t []
 rw [ht2, a4m]
 apply xC rfl
 ·apply B0
  ·exact B9 rfl
  apply B0
  ·exact Z5 rfl rfl (by (simp; done)) (A7 fun _ => rfl)
  exact C4
 ·exact c7p t [] ⟨by simp only [List.length_nil]; omega, fun _ h => by cases h⟩ hgd
 refine ⟨⟨rfl, rfl, rfl, dT rfl, rfl⟩, .inl rfl, B3, H8 (I9 rfl (M3 fun _ => M0)), fun _ => B4 (by rfl) (B4 (B1 (A7 fun _ => rfl)) (by rfl)), fun g17 => ?_⟩
 simp only [List.length_map]
 refine A3 rfl rfl <| B7 rfl rfl rfl <| B7 rfl rfl rfl <| A5 rfl rfl rfl ?_
 (refine B2 rfl rfl (by (simp; done)) rfl (fun _ => (B1 (by exact A7 fun _ => rfl))) (fun _ => rfl) ?_; intro g6)
 refine xN [6] [6] rfl <| A4 <| A0 <| A3 rfl rfl ?_
 (refine B2 rfl rfl (by (simp; done)) rfl (fun _ => (B1 (by exact A7 fun _ => rfl))) (fun _ => rfl) ?_; intro g2)
 refine xN [2] [2] rfl <| B6 <| V0 rfl rfl (by simp) (by exact A7 fun _ => rfl) trivial ?_
 rw [a7z ht1]

theorem keep_s_ClipI : G8 Tryz.f112 = [0, 2] := by kernel_rfl
set_option maxHeartbeats 20000000 in
theorem d0l (xs : List Int) (hx : xs.length ≤ H7) : CW (cxT oG) 112 [.own 1 (xs.map iV)] = some (.own 1 (xs.map iV), []) := by
 refine G9 rfl Tryz.func112 rfl ⟨by kernel_rfl, rfl, dT rfl, dT rfl, by decide⟩ keep_s_ClipI <| A4 <| A0 ?_
 (refine C2 rfl rfl (fun _ => rfl) ?_; intro g2)
 refine xN [0] [0] rfl <| A4 <| A0 <| A3 rfl rfl <| A3 rfl rfl <| I1 rfl rfl <| A3 rfl rfl <| I1 rfl rfl ?_
 refine c9l rfl rfl rfl rfl rfl rfl (fun hz => ?_) (fun hz => ?_)
 ·skip
  (refine C2 rfl rfl (fun _ => rfl) ?_; intro g2)
  refine xN [2] [0,2] rfl <| B6 <| V0 rfl rfl (by (simp; done)) (by rfl) trivial ?_
  (have h0 : xs = [] := (by simpa using hz); subst h0; rfl)
 skip
 (refine B2 rfl rfl (by (simp; done)) rfl (fun _ => (B1 (by exact A7 fun _ => rfl))) (fun _ => rfl) ?_; intro g2)
 refine xN [2] [0,2] rfl <| B6 <| V0 rfl rfl (by (simp; done)) (by exact A7 fun _ => rfl) trivial ?_
 rfl

theorem keep_s_clone : G8 Tryz.f105 = [0, 2] := by kernel_rfl
set_option maxHeartbeats 20000000 in
theorem a1r (x : List Int) (hl : x.length ≤ 1048576) : CW (cxT oG) 105 [L x] = some (.own 1 (x.map iV), []) := by
 refine G9 rfl Tryz.func105 rfl ⟨by kernel_rfl, rfl, dT rfl, dT rfl, by decide⟩ keep_s_clone <| A4 <| A0 ?_
 (refine C2 rfl rfl (fun _ => rfl) ?_; intro g2)
 refine xN [0] [] rfl <| A4 <| A0 <| A3 rfl rfl ?_
 apply xC rfl
 ·apply B0
  ·exact B9 rfl
  exact C4
 ·exact d1m x (by simp only [H7]; omega)
 refine ⟨⟨rfl, rfl, rfl, dT rfl, rfl⟩, .inl rfl, B3, L8, fun _ => rfl, fun g4 => ?_⟩
 simp only [List.length_map]
 apply xC rfl
 ·apply B0
  ·exact Z5 rfl rfl (by (simp; done)) (A7 fun _ => rfl)
  exact C4
 ·exact d0l x (by simp only [H7]; omega)
 refine ⟨⟨rfl, rfl, rfl, dT rfl, rfl⟩, .inl rfl, B3, L8, fun _ => rfl, fun g5 => ?_⟩
 simp only [List.length_map]
 (refine B2 rfl rfl (by (simp; done)) rfl (fun _ => (B1 (by exact A7 fun _ => rfl))) (fun _ => rfl) ?_; intro g2)
 refine xN [2] [2] rfl <| B6 <| V0 rfl rfl (by simp) (by exact A7 fun _ => rfl) trivial ?_
 rfl

theorem keep_s_EqualI : G8 Tryz.f117 = [0, 1, 4, 10, 13, 12, 14, 5, 24] := by kernel_rfl
set_option maxHeartbeats 20000000 in
theorem c7e (a b : List Int) (ha : a.length ≤ 1048576) (hlb : b.length ≤ 1048576) : CW (cxT oG) 117 [L a, L b] = some (bV (decide (a = b)), []) := by
 refine G9 rfl Tryz.func117 rfl ⟨by kernel_rfl, rfl, dT rfl, dT rfl, by decide⟩ keep_s_EqualI <| A4 <| A0 <| A5 rfl rfl rfl <| xN [0,1] [] rfl <| A4 <| A4 <| A0 <| A3 rfl rfl <| E8 rfl rfl <| A3 rfl rfl <| E8 rfl rfl <| a5i rfl rfl <| xN [0,1,10] [] rfl ?_
 refine A9 rfl ?_ ?_ <;> intro hc <;> try simp only [SL] at hc
 ·refine A4 <| A0 <| A5 rfl rfl rfl <| xN [4] [] rfl <| B6 <| C9 rfl rfl trivial ?_
  rw [a0h (by omega)]
  rfl
 refine B5 <| A4 <| A4 <| A0 <| A3 rfl rfl <| E8 rfl rfl <| A3 rfl rfl <| xN [0,1,12,13] [] rfl <| C6 <| J6 (β := Nat) [(.t 0, _), (.t 1, _), (.t 12, _)] (fun (i : Nat) => [(.t 13, iV i)]) (fun (i : Nat) => i ≤ a.length ∧ ∀ j, j < i → a.getD j default = b.getD j default) (fun (i : Nat) => a.length - i) 0 ⟨rfl, rfl, rfl, rfl, trivial⟩ ⟨Nat.zero_le _, fun j h => by omega⟩ ?_
 intro i hb
 obtain ⟨hi1, hi2⟩ := hb
 refine A4 <| A0 <| I0 rfl rfl <| xN [0,1,12,13,14] [] rfl <| A4 ?_
 refine A9 rfl ?_ ?_ <;> intro hc <;> try simp only [SL] at hc
 ·refine B5 <| A4 <| C6 <| A4 <| A0 <| A3 rfl rfl <| A5 rfl rfl rfl <| xN [0,1,5,12,13] [] rfl <| A4 <| A0 <| A3 rfl rfl <| A3 rfl rfl <| F8 rfl rfl rfl (fun _ => rfl) (by omega) <| F5 rfl rfl rfl <| A3 rfl rfl <| A3 rfl rfl <| F8 rfl rfl rfl (fun _ => rfl) (by omega) <| F5 rfl rfl rfl <| a5i rfl rfl ?_
  refine G6 ⟨fun _ => ⟨by decide +kernel, by decide +kernel⟩, [(.t 0, _), (.t 1, _), (.t 12, _), (.t 13, _), (.t 24, _)], ⟨rfl, rfl, rfl, rfl, rfl, rfl, rfl, rfl, rfl, rfl, trivial⟩, ?_⟩
  refine A9 rfl ?_ ?_ <;> intro hc <;> try simp only [SL] at hc
  ·refine A4 <| A0 <| A5 rfl rfl rfl <| xN [4] [] rfl <| B6 <| C9 rfl rfl trivial ?_
   rw [a1m (i := i) (by omega) (by assumption)]
   rfl
  refine B5 <| A0 <| H5 rfl rfl (F4 (by omega)) <| A3 rfl rfl <| xN [0,1,12,13] [] rfl ?_
  refine ⟨i + 1, ⟨by omega, fun j hj => by rcases Nat.lt_succ_iff_lt_or_eq.1 hj with h | h; (· exact hi2 j h); (· subst h; assumption)⟩, (by omega), ⟨rfl, rfl, rfl, rfl, trivial⟩⟩
 refine H1 <| A4 <| A0 <| A5 rfl rfl rfl <| xN [4] [] rfl <| B6 <| C9 rfl rfl trivial ?_
 rw [a1n (by omega) fun j hj => hi2 j (by omega)]
 rfl

theorem keep_s_share1 : G8 Tryz.f116 = [0, 1, 3, 2] := by kernel_rfl
set_option maxHeartbeats 20000000 in
theorem c9g (x y : Stp) (hx : x.ns.length ≤ 1048576) (hy : y.ns.length ≤ 1048576) : CW (cxT oG) 116 [stA x, .ipt (stA y) 0] = some (bV (decide (x = y)), []) := by
 have hd := d1p x y
 refine G9 rfl Tryz.func116 rfl ⟨by kernel_rfl, rfl, dT rfl, dT rfl, by decide⟩ keep_s_share1 <| A4 <| A0 <| a0e rfl rfl rfl (fun _ => C0 rfl) (fun _ => rfl) ?_
 intro g2
 refine A5 rfl rfl rfl <| xN [1,2] [2] rfl <| A4 <| A0 <| A8 rfl rfl (dT rfl) rfl rfl <| B8 rfl rfl rfl rfl rfl rfl <| A8 rfl rfl (dT rfl) rfl rfl <| M4 rfl rfl rfl <| a1s rfl rfl <| A3 rfl rfl ?_
 refine C8 rfl rfl ?_ ?_ <;> intro hg0 <;> have hg := hg0 <;> try simp only [SG] at hg
 ·refine A8 rfl rfl (dT rfl) rfl rfl <| gT rfl rfl <| B8 rfl rfl rfl rfl rfl rfl <| gT rfl rfl <| A8 rfl rfl (dT rfl) rfl rfl <| gT rfl rfl <| M4 rfl rfl rfl <| gT rfl rfl <| N5 rfl rfl <| F0 rfl (by assumption) rfl rfl <| A3 rfl rfl ?_
  refine C8 rfl rfl ?_ ?_ <;> intro hg0 <;> have hg := hg0 <;> try simp only [SG] at hg
  ·refine A8 rfl rfl (dT rfl) rfl rfl <| gT rfl rfl <| B8 rfl rfl rfl rfl rfl rfl <| gT rfl rfl <| A8 rfl rfl (dT rfl) rfl rfl <| gT rfl rfl <| M4 rfl rfl rfl <| gT rfl rfl <| N5 rfl rfl <| F0 rfl (by assumption) rfl rfl <| A3 rfl rfl ?_
   refine C8 rfl rfl ?_ ?_ <;> intro hg0 <;> have hg := hg0 <;> try simp only [SG] at hg
   ·refine A8 rfl rfl (dT rfl) rfl rfl <| gT rfl rfl <| B8 rfl rfl rfl rfl rfl rfl <| gT rfl rfl <| A8 rfl rfl (dT rfl) rfl rfl <| gT rfl rfl <| M4 rfl rfl rfl <| gT rfl rfl ?_
    apply xC rfl
    ·apply B0
     ·exact B9 rfl
     apply B0
     ·exact B9 rfl
     exact C4
    ·exact c7e x.ns y.ns hx hy
    refine ⟨⟨rfl, rfl, rfl, dT rfl, rfl⟩, .inl rfl, B3, C3 rfl, fun _ => rfl, fun g28 => ?_⟩
    refine F0 rfl (by assumption) rfl rfl <| A5 rfl rfl rfl <| xN [3] [] rfl <| B6 <| C9 rfl rfl trivial ?_
    rw [hd]
    simp_all
    try rfl
   iterate 4 refine gF rfl rfl ?_
   refine D6 rfl (by assumption) rfl rfl <| A5 rfl rfl rfl <| xN [3] [] rfl <| B6 <| C9 rfl rfl trivial ?_
   rw [hd]
   simp_all
   try rfl
  iterate 4 refine gF rfl rfl ?_
  refine D6 rfl (by assumption) rfl rfl <| A3 rfl rfl ?_
  iterate 5 refine G1 rfl rfl rfl ?_
  refine D6 rfl rfl rfl rfl <| A5 rfl rfl rfl <| xN [3] [] rfl <| B6 <| C9 rfl rfl trivial ?_
  rw [hd]
  simp_all
  try rfl
 iterate 4 refine gF rfl rfl ?_
 refine D6 rfl (by assumption) rfl rfl <| A3 rfl rfl ?_
 iterate 5 refine G1 rfl rfl rfl ?_
 refine D6 rfl rfl rfl rfl <| A3 rfl rfl ?_
 iterate 5 refine G1 rfl rfl rfl ?_
 refine D6 rfl rfl rfl rfl <| A5 rfl rfl rfl <| xN [3] [] rfl <| B6 <| C9 rfl rfl trivial ?_
 rw [hd]
 simp_all
 try rfl
end Go.Proofs.YtcpmbhfnapijaaaGreatDoor
