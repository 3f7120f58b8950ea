/- What each function of the program gives on the abstract machine, part 1 of 2. Conditions: those in front of each theorem. -/
import Derived.Test.YtpjgdgnaeohmeaaMd
import Derived.Test.YtpjgdgnaeohmeaaChecked
import Derived.KernelRfl

set_option linter.unusedVariables false
set_option linter.unusedSimpArgs false
namespace Go.Proofs.Ytpjgdgnaeohmeaa
open Go Go.Mv Go.Proofs
set_option maxRecDepth 100000

theorem SD : (∀ {p : Prop} [Decidable p], (decide p = true) = p) ∧ (∀ {p : Prop} {_ : Decidable p}, decide p = false ↔ ¬p) ∧ (∀ (b : Bool), ((!b) = true) = (b = false)) ∧ (∀ (b : Bool), ((!b) = false) = (b = true)) ∧ (∀ {α : Type} [BEq α] [LawfulBEq α] {a b : α}, (a != b) = true ↔ a ≠ b) ∧
    (∀ {α : Type} [BEq α] [LawfulBEq α] {a b : α}, (a == b) = true ↔ a = b) ∧ (∀ {α : Type} (a b : α), (a ≠ b) = ¬a = b) ∧ (!true) = false ∧ (!false) = true ∧ (∀ {α : Type} [BEq α] [LawfulBEq α] {a b : α}, (a == b) = false ↔ a ≠ b) ∧ (∀ {α : Type} [BEq α] [LawfulBEq α] {a b : α}, (a != b) = false ↔ a = b) ∧
    (∀ {p : Prop} [Decidable p], ¬¬p ↔ p) ∧ (∀ {a b : Int}, ¬a < b ↔ b ≤ a) ∧ (∀ {a b : Int}, ¬a ≤ b ↔ b < a) :=
  ⟨@decide_eq_true_eq, @decide_eq_false_iff_not, @Bool.not_eq_true', @Bool.not_eq_false', @bne_iff_ne, @beq_iff_eq, @ne_eq, @Bool.not_true, @Bool.not_false, @beq_eq_false_iff_ne, @bne_eq_false_iff_eq, @Decidable.not_not, @Int.not_lt, @Int.not_le⟩
theorem SG : ((∀ {p : Prop} [Decidable p], (decide p = true) = p) ∧ (∀ {p : Prop} {_ : Decidable p}, decide p = false ↔ ¬p) ∧ (∀ (b : Bool), ((!b) = true) = (b = false)) ∧ (∀ (b : Bool), ((!b) = false) = (b = true)) ∧ (∀ {α : Type} [BEq α] [LawfulBEq α] {a b : α}, (a != b) = true ↔ a ≠ b) ∧
    (∀ {α : Type} [BEq α] [LawfulBEq α] {a b : α}, (a == b) = true ↔ a = b) ∧ (∀ {α : Type} (a b : α), (a ≠ b) = ¬a = b) ∧ (!true) = false ∧ (!false) = true ∧ (∀ {α : Type} [BEq α] [LawfulBEq α] {a b : α}, (a == b) = false ↔ a ≠ b) ∧ (∀ {α : Type} [BEq α] [LawfulBEq α] {a b : α}, (a != b) = false ↔ a = b) ∧
    (∀ {p : Prop} [Decidable p], ¬¬p ↔ p) ∧ (∀ {a b : Int}, ¬a < b ↔ b ≤ a) ∧ (∀ {a b : Int}, ¬a ≤ b ↔ b < a)) ∧
    (∀ (a b : Bool), ((a && b) = true) = (a = true ∧ b = true)) ∧ (∀ {x y : Bool}, (x && y) = false ↔ x = false ∨ y = false) ∧ (∀ (a b : Bool), ((a || b) = true) = (a = true ∨ b = true)) ∧ (∀ {x y : Bool}, (x || y) = false ↔ x = false ∧ y = false) :=
  ⟨SD, @Bool.and_eq_true, @Bool.and_eq_false_iff, @Bool.or_eq_true, @Bool.or_eq_false_iff⟩
def c5x (keep : List Nat) (A : Asr) : List Mv.Loc → Asr → Option Asr
  | l :: ls, B => match keepLoc keep l, Mv.look A l with
    | true, some a => c5x keep A ls ((l, a) :: B)
    | _, _ => none
  | [], B => some B
theorem c3w {keep : List Nat} {A : Asr} : ∀ (ls : List Mv.Loc) {B C : Asr}, KeepL keep A B → c5x keep A ls B = some C → KeepL keep A C
  | [], B, C, h, e => by simp only [c5x, Option.some.injEq] at e; rw [← e]; exact h
  | l :: ls, B, C, h, e => by
    simp only [c5x] at e
    split at e
    · exact c3w ls (show KeepL keep A ((l, _) :: B) from ⟨by assumption, by assumption, h⟩) e
    · cases e
theorem kS (ts hs : List Nat) {keep : List Nat} {A B : Asr} (h : c5x keep A (ts.map .t ++ hs.map .h) [] = some B) : KeepL keep A B := c3w _ (show KeepL keep A [] from trivial) h
section
variable {cx : Cx} {keep : List Nat} {ops0 : Array Oper} {r : List Oper} {A : Asr} {Q : Asr → List Log → Prop}
variable {d ty : Nat} {pos : String} {aft : Array Edge}
theorem gT {op : Op} {dst : Option Nat} {g dg : Nat} {want b : Bool} (hd : (ops0[g]?).bind (·.dst) = some dg) (hb : Mv.look A (.t dg) = some (.val (.bool b)))
    (h : XR cx keep ops0 (⟨dst, op, ty, pos, aft, none⟩ :: r) A fun A' lg => Q A' (c3j (.t dg) lg)) (hw : b = want := by assumption) : XR cx keep ops0 (⟨dst, op, ty, pos, aft, some (g, want)⟩ :: r) A Q := C0 hd hb hw h
theorem gF {op : Op} {g dg : Nat} {want b : Bool} (hd : (ops0[g]?).bind (·.dst) = some dg) (hb : Mv.look A (.t dg) = some (.val (.bool b)))
    (h : XR cx keep ops0 r ((.t d, .val (.tuple #[])) :: A) fun A' lg => Q A' (([.t dg], [.t d]) :: lg)) (hw : b = !want := by assumption) : XR cx keep ops0 (⟨some d, op, ty, pos, aft, some (g, want)⟩ :: r) A Q := C3 hd hb hw h
theorem xN {B : Asr} {p : Asr → List Log → Prop} {R : Asr → Prop} (ts hs : List Nat) (h : c5x keep A (ts.map .t ++ hs.map .h) [] = some B) (q : R B) :
    XR cx keep ops0 [] A (fun A' lg => (false = true → p A' lg) ∧ ∃ B, KeepL keep A' B ∧ R B) := I7 ⟨nofun, B, kS ts hs h, q⟩
theorem xC {G : Type} {k : Nat} {args : Array Operand} {Ts : Array Nat} {vs av : List AV} {ids : List (Nat × Bool)} {wp wb : Ws} {lp lb li : List Mv.Loc} {res : AV} {outs : List (List AV)} {v : G → AV} {wi : G → Ws}
    (hv : opds A args.toList = some vs) (hp : a6c (CW cx) A (cx.md k) 0 vs av ids wp lp) (hC : CW cx k av = some (res, outs))
    (hr : (apartIds ids = true ∧ S0 ((a1m (cx.md k) 0 vs).map (·.1)) = true ∧ S0 ((cidAll (cx.md k) 0 av).map (·.1)) = true ∧ av.length ≤ 1000 ∧ a4y av = true) ∧
      (ids.all (fun x => x.2) = true ∨ (hasList res = false ∧ outs.any H1 = false)) ∧
      c2v (CW cx) (puts A wp) (a1m (cx.md k) 0 vs) outs wb lb ∧ a4e (CW cx) (puts (puts A wp) wb) d res v wi li ∧
      (∀ g, tRefsOk keep (keptWs keep (wp ++ (wb ++ (wi g ++ [(.t d, v g)])))) = true) ∧
      ∀ g, XR cx keep ops0 r (Y0 A (wp ++ (wb ++ (wi g ++ [(.t d, v g)])))) fun A' lg => Q A' ((a2i args.toList ++ (lp ++ (lb ++ li)), Z7 (wp ++ (wb ++ (wi g ++ [(.t d, v g)])))) :: lg)) :
    XR cx keep ops0 (⟨some d, .call ⟨.value (.func k), args, Ts⟩, ty, pos, aft, none⟩ :: r) A Q :=
  c1g hv hp hC hr.1 hr.2.1 hr.2.2.1 hr.2.2.2.1 hr.2.2.2.2.1 hr.2.2.2.2.2
end
theorem SL : (∀ {α β : Type} {av : List α} (f : α → β), (av.map f).length = av.length) ∧ (((∀ {p : Prop} [Decidable p], (decide p = true) = p) ∧ (∀ {p : Prop} {_ : Decidable p}, decide p = false ↔ ¬p) ∧ (∀ (b : Bool), ((!b) = true) = (b = false)) ∧ (∀ (b : Bool), ((!b) = false) = (b = true)) ∧ (∀ {α : Type} [BEq α] [LawfulBEq α] {a b : α}, (a != b) = true ↔ a ≠ b) ∧
    (∀ {α : Type} [BEq α] [LawfulBEq α] {a b : α}, (a == b) = true ↔ a = b) ∧ (∀ {α : Type} (a b : α), (a ≠ b) = ¬a = b) ∧ (!true) = false ∧ (!false) = true ∧ (∀ {α : Type} [BEq α] [LawfulBEq α] {a b : α}, (a == b) = false ↔ a ≠ b) ∧ (∀ {α : Type} [BEq α] [LawfulBEq α] {a b : α}, (a != b) = false ↔ a = b) ∧
    (∀ {p : Prop} [Decidable p], ¬¬p ↔ p) ∧ (∀ {a b : Int}, ¬a < b ↔ b ≤ a) ∧ (∀ {a b : Int}, ¬a ≤ b ↔ b < a)) ∧
    (∀ (a b : Bool), ((a && b) = true) = (a = true ∧ b = true)) ∧ (∀ {x y : Bool}, (x && y) = false ↔ x = false ∨ y = false) ∧ (∀ (a b : Bool), ((a || b) = true) = (a = true ∨ b = true)) ∧ (∀ {x y : Bool}, (x || y) = false ↔ x = false ∧ y = false)) := ⟨@List.length_map.{0, 0}, SG⟩
theorem dT {p : Prop} [Decidable p] (h : decide p = true) : p := of_decide_eq_true h

def mdT : List (Nat × List Nat) := [(14, [2]), (15, [2]), (16, [1]), (36, [3, 3, 3, 3]), (37, [3, 3, 3, 3]), (38, [3, 3, 3, 3]), (39, [3, 3, 3, 3]), (40, [3, 3, 3, 3]), (41, [3, 3, 3, 3]), (42, [3, 3, 3, 3]), (56, [1]), (57, [1]), (61, [2]), (62, [3, 3, 3, 3]), (63, [0, 2]), (64, [3, 3, 3, 3]), (65, [3, 3, 3, 3]), (66, [3, 3, 3, 3]), (73, [3, 3, 3, 3])]
noncomputable def d2c : List (Nat × (List AV → Option (AV × List (List AV)))) := [(55, a7h), (56, b1d)]
noncomputable def cxT : Cx := { P := Try.prog, md := d2u mdT, ext := c3o d2c, it := fun _ => none, fz := fun k => [62, 73].contains k, fzB := fun T d => [(73, 58), (29, 98), (23, 57), (23, 26)].contains (T, d) }
noncomputable def cxE : Cx := { P := Try.prog, md := d2u mdT, ext := fun _ => none, fz := fun k => [62, 73].contains k }
theorem c4h (xs : List Int) (hl : xs.length ≤ H6) : CW cxT 55 [.list (xs.map iV)] = some (.own 1 (xs.map iV), []) := c7u cxT rfl (by simp [a7h, c3a, hl])
theorem d1w (xs : List Int) (hl : xs.length ≤ H6) : CW cxT 56 [.own 1 (xs.map iV)] = some (.tup [], [(U7 xs).map iV]) := c7u cxT rfl (by simp [b1d, c3a, hl])

theorem keep_s_inRange : G8 Try.f44 = [0, 1, 2, 6] := by kernel_rfl
set_option maxHeartbeats 20000000 in
theorem G0 (n lo hi : Int) : CW cxT 44 [iV n, iV lo, iV hi] = some (bV (decide (lo ≤ n) && decide (n ≤ hi)), []) := by
 refine H0 rfl Try.func44 rfl ⟨by kernel_rfl, rfl, dT rfl, dT rfl, by decide⟩ keep_s_inRange <| A4 <| A0 <| A5 rfl rfl rfl <| xN [0,1,2] [] rfl <| A4 <| A0 <| A3 rfl rfl <| A3 rfl rfl <| a6k rfl rfl <| A3 rfl rfl ?_
 refine B1 rfl rfl ?_ ?_ <;> intro hg0 <;> have hg := hg0 <;> try simp only [SG] at hg
 ·refine A3 rfl rfl <| gT rfl rfl <| A3 rfl rfl <| gT rfl rfl <| a6k rfl rfl <| B8 rfl (by assumption) rfl rfl <| A5 rfl rfl rfl <| xN [6] [] rfl <| C2 <| C4 rfl rfl trivial ?_
  simp_all [ofConst]; try omega
 refine gF rfl rfl <| gF rfl rfl <| B5 rfl (by assumption) rfl rfl <| A5 rfl rfl rfl <| xN [6] [] rfl <| C2 <| C4 rfl rfl trivial ?_
 simp_all [ofConst]; try omega

theorem keep_s_in : G8 Try.f51 = [0, 1, 2, 6] := by kernel_rfl
set_option maxHeartbeats 20000000 in
theorem c9v (n lo hi : Int) : CW cxT 51 [iV n, iV lo, iV hi] = some (bV (decide (lo ≤ n) && decide (n ≤ hi)), []) := by
 refine H0 rfl Try.func51 rfl ⟨by kernel_rfl, rfl, dT rfl, dT rfl, by decide⟩ keep_s_in <| A4 <| A0 <| A5 rfl rfl rfl <| xN [0,1,2] [] rfl <| A4 <| A0 <| A3 rfl rfl <| A3 rfl rfl <| a5i rfl rfl <| A3 rfl rfl ?_
 refine B1 rfl rfl ?_ ?_ <;> intro hg0 <;> have hg := hg0 <;> try simp only [SG] at hg
 ·refine A3 rfl rfl <| gT rfl rfl <| A3 rfl rfl <| gT rfl rfl <| a6k rfl rfl <| B8 rfl (by assumption) rfl rfl <| A5 rfl rfl rfl <| xN [6] [] rfl <| C2 <| C4 rfl rfl trivial ?_
  simp_all [ofConst]; try omega
 refine gF rfl rfl <| gF rfl rfl <| B5 rfl (by assumption) rfl rfl <| A5 rfl rfl rfl <| xN [6] [] rfl <| C2 <| C4 rfl rfl trivial ?_
 simp_all [ofConst]; try omega

theorem keep_s_IndexFunc2 : G8 Try.f87 = [0, 1, 4, 8, 7, 9, 5, 16] := by kernel_rfl
set_option maxHeartbeats 20000000 in
theorem b7c (xs : List Int) (hl : xs.length ≤ 1000) (k : Nat) (a b : AV) (q : Int → Bool) (hq : ∀ x, CW cxT k [iV x, .ipt a 0, .ipt b 0] = some (bV (q x), [])) : ∃ res outs, (fun res outs => ∃ r : Int, res = iV r ∧ outs = [] ∧ decide (0 ≤ r) = xs.any q) res outs ∧ CW cxT 87 [L xs, .clo k [.ipt a 0, .ipt b 0]] = some (res, outs) := by
 refine N7 rfl Try.func87 rfl ⟨by kernel_rfl, rfl, dT rfl, dT rfl, by decide⟩ keep_s_IndexFunc2 <| A4 <| A0 <| A5 rfl rfl rfl <| xN [0,1] [] rfl <| A4 <| A4 <| A0 <| A3 rfl rfl <| D9 rfl rfl <| A3 rfl rfl <| xN [0,1,7,8] [] rfl <| C9 <| G3 (β := Nat) [(.t 0, _), (.t 1, _), (.t 7, _)] (fun (i : Nat) => [(.t 8, iV i)]) (fun (i : Nat) => i ≤ xs.length ∧ ∀ j, j < i → q (xs.getD j default) = false) (fun (i : Nat) => xs.length - i) 0 ⟨rfl, rfl, rfl, rfl, trivial⟩ ⟨Nat.zero_le _, fun j h => by omega⟩ ?_
 intro i hb
 obtain ⟨hi1, hi2⟩ := hb
 refine A4 <| A0 <| G7 rfl rfl <| xN [0,1,7,8,9] [] rfl <| A4 ?_
 refine A7 rfl ?_ ?_ <;> intro hc <;> try simp only [SL] at hc
 ·refine B7 <| A4 <| C9 <| A4 <| A0 <| A3 rfl rfl <| A5 rfl rfl rfl <| xN [0,1,5,7,8] [] rfl <| A4 <| A0 <| A3 rfl rfl <| A3 rfl rfl <| A3 rfl rfl <| D5 rfl rfl rfl (fun _ => rfl) (by omega) <| D6 rfl rfl rfl ?_
  apply c3p rfl rfl
  ·apply A9
   ·exact B2 rfl
   apply A9
   ·exact B2 rfl
   apply A9
   ·exact B2 rfl
   exact C6
  ·exact hq (xs.getD i default)
  ·exact ⟨rfl, rfl, rfl, dT rfl, rfl⟩
  ·exact .inl rfl
  ·exact B9
  ·exact C1 rfl
  ·exact fun _ => rfl
  intro g16
  refine xN [0,1,5,7,8,16] [] rfl ?_
  refine A7 rfl ?_ ?_ <;> intro hc <;> try simp only [SL] at hc
  ·refine A4 <| A0 <| A3 rfl rfl <| A5 rfl rfl rfl <| xN [4] [] rfl <| C2 ?_
   refine ⟨_, _, ?_, K5 rfl rfl E5⟩
   exact ⟨_, rfl, rfl, d0i (by omega) hc⟩
  refine B7 <| A0 <| D7 rfl rfl (C5 (by omega)) <| A3 rfl rfl <| xN [0,1,7,8] [] rfl ?_
  refine ⟨i + 1, ⟨by omega, fun a ha => by rcases Nat.lt_succ_iff_lt_or_eq.1 ha with h | h; exact hi2 a h; subst h; exact hc⟩, (by omega), ⟨rfl, rfl, rfl, rfl, trivial⟩⟩
 refine G4 <| A4 <| A0 <| A5 rfl rfl rfl <| xN [4] [] rfl <| C2 ?_
 refine ⟨_, _, ?_, K5 rfl rfl E5⟩
 exact ⟨-1, rfl, rfl, c6y fun j hj => hi2 j (by omega)⟩

theorem keep_s_ContainsFunc2 : G8 Try.f70 = [0, 1, 4] := by kernel_rfl
set_option maxHeartbeats 20000000 in
theorem b0s (xs : List Int) (hl : xs.length ≤ 1000) (k : Nat) (a b : AV) (q : Int → Bool) (hq : ∀ x, CW cxT k [iV x, .ipt a 0, .ipt b 0] = some (bV (q x), [])) : CW cxT 70 [L xs, .clo k [.ipt a 0, .ipt b 0]] = some (bV (xs.any q), []) := by
 obtain ⟨_, _, ⟨r, rfl, rfl, hr⟩, hC⟩ := b7c xs hl k a b q hq
 refine H0 rfl Try.func70 rfl ⟨by kernel_rfl, rfl, dT rfl, dT rfl, by decide⟩ keep_s_ContainsFunc2 <| A4 <| A0 <| A5 rfl rfl rfl <| xN [0,1] [] rfl <| A4 <| A0 <| A3 rfl rfl <| A3 rfl rfl ?_
 apply xC rfl
 ·apply A9
  ·exact B2 rfl
  apply A9
  ·exact c8y rfl (c8i (c8i c7h))
  exact C6
 ·exact hC
 refine ⟨⟨rfl, rfl, rfl, dT rfl, rfl⟩, .inl rfl, B9, C1 rfl, fun _ => rfl, fun g7 => ?_⟩
 refine a5i rfl rfl <| A5 rfl rfl rfl <| xN [4] [] rfl <| C2 <| C4 rfl rfl trivial ?_
 rw [← hr]

theorem keep_s_allIn1 : G8 Try.f71 = [0, 1, 2, 4] := by kernel_rfl
set_option maxHeartbeats 20000000 in
theorem c6m (x lo hi : Int) : CW cxT 71 [iV x, .ipt (iV lo) 0, .ipt (iV hi) 0] = some (bV (!(decide (lo ≤ x) && decide (x ≤ hi))), []) := by
 refine H0 rfl Try.func71 rfl ⟨by kernel_rfl, rfl, dT rfl, dT rfl, by decide⟩ keep_s_allIn1 <| A4 <| A0 <| A5 rfl rfl rfl <| xN [0,1,2] [] rfl <| A4 <| A0 <| A3 rfl rfl <| D6 rfl rfl rfl <| D6 rfl rfl rfl ?_
 apply xC rfl
 ·apply A9
  ·exact B2 rfl
  apply A9
  ·exact B2 rfl
  apply A9
  ·exact B2 rfl
  exact C6
 ·exact c9v _ _ _
 refine ⟨⟨rfl, rfl, rfl, dT rfl, rfl⟩, .inl rfl, B9, C1 rfl, fun _ => rfl, fun g8 => ?_⟩
 refine H7 rfl <| A5 rfl rfl rfl <| xN [4] [] rfl <| C2 <| C4 rfl rfl trivial ?_
 rfl

theorem keep_s_allIn : G8 Try.f60 = [0, 1, 2, 6, 4, 5] := by kernel_rfl
set_option maxHeartbeats 20000000 in
theorem c4b (xs : List Int) (hl : xs.length ≤ 1000) (lo hi : Int) : CW cxT 60 [L xs, iV lo, iV hi] = some (bV (a8k lo hi xs), []) := by
 refine H0 rfl Try.func60 rfl ⟨by kernel_rfl, rfl, dT rfl, dT rfl, by decide⟩ keep_s_allIn <| A4 <| A0 <| a9p rfl rfl rfl (fun _ => F4 rfl) (fun _ => rfl) ?_
 intro g4
 refine a9p rfl rfl rfl (fun _ => F4 rfl) (fun _ => rfl) ?_
 intro g5
 refine A5 rfl rfl rfl <| xN [0,4,5] [4,5] rfl <| A4 <| A0 <| A3 rfl rfl <| c0w rfl rfl ?_
 apply xC rfl
 ·apply A9
  ·exact B2 rfl
  apply A9
  ·exact c8y rfl (c8q rfl rfl (c8q rfl rfl c7h))
  exact C6
 ·exact b0s xs hl 71 (iV lo) (iV hi) _ (fun x => c6m x lo hi)
 refine ⟨⟨rfl, rfl, rfl, dT rfl, rfl⟩, .inr ⟨rfl, rfl⟩, B9, C1 rfl, fun _ => rfl, fun g9 => ?_⟩
 refine H7 rfl <| A5 rfl rfl rfl <| xN [6] [] rfl <| C2 <| C4 rfl rfl trivial ?_
 exact congrArg bV (c8f lo hi xs)

theorem keep_s_validData : G8 Try.f43 = [0, 2, 3, 7, 15] := by kernel_rfl
set_option maxHeartbeats 20000000 in
theorem a1g (xs : List Int) (hl : xs.length ≤ 1048576) : CW cxT 43 [L xs] = some (bV (vd xs), []) := by
 refine H0 rfl Try.func43 rfl ⟨by kernel_rfl, rfl, dT rfl, dT rfl, by decide⟩ keep_s_validData <| A4 <| A0 <| A5 rfl rfl rfl <| xN [0] [] rfl <| A4 <| A4 <| A0 <| A5 rfl rfl rfl <| xN [0,3] [] rfl <| C9 <| G3 (β := Nat) [(.t 0, _)] (fun (i : Nat) => [(.t 3, iV i)]) (fun (i : Nat) => i ≤ xs.length ∧ ∀ j, j < i → -200 ≤ xs.getD j default ∧ xs.getD j default ≤ 200) (fun (i : Nat) => xs.length - i) 0 ⟨rfl, rfl, trivial⟩ ⟨Nat.zero_le _, fun j h => by omega⟩ ?_
 intro i hb
 obtain ⟨hi1, hi2⟩ := hb
 refine A4 <| A4 <| A0 <| A3 rfl rfl <| A3 rfl rfl <| D9 rfl rfl <| G7 rfl rfl <| xN [0,3,7] [] rfl ?_
 refine A7 rfl ?_ ?_ <;> intro hc <;> try simp only [SL] at hc
 ·refine B7 <| A4 <| C9 <| A4 <| A0 <| A3 rfl rfl <| A3 rfl rfl <| D5 rfl rfl rfl (fun _ => rfl) (by omega) <| D6 rfl rfl rfl ?_
  apply xC rfl
  ·apply A9
   ·exact B2 rfl
   apply A9
   ·exact B2 rfl
   apply A9
   ·exact B2 rfl
   exact C6
  ·exact G0 _ _ _
  refine ⟨⟨rfl, rfl, rfl, dT rfl, rfl⟩, .inl rfl, B9, C1 rfl, fun _ => rfl, fun g14 => ?_⟩
  refine H7 rfl <| xN [0,3,15] [] rfl ?_
  refine A7 rfl ?_ ?_ <;> intro hc <;> try simp only [SL] at hc
  ·refine A4 <| A0 <| A5 rfl rfl rfl <| xN [2] [] rfl <| C2 <| C4 rfl rfl trivial ?_
   rw [vd, b9m (show i < xs.length by omega) (by (simp_all; omega)), Bool.and_false]
   rfl
  refine B7 <| A0 <| A3 rfl rfl <| D7 rfl rfl (C5 (by omega)) <| A5 rfl rfl rfl <| xN [0,3] [] rfl ?_
  refine ⟨i + 1, ⟨by omega, fun j hj => by rcases Nat.lt_succ_iff_lt_or_eq.1 hj with h | h; (· exact hi2 j h); (· subst h; assumption)⟩, (by omega), ⟨rfl, rfl, trivial⟩⟩
 refine G4 <| A4 <| A0 <| A3 rfl rfl <| D9 rfl rfl <| a6k rfl rfl <| A5 rfl rfl rfl <| xN [2] [] rfl <| C2 <| C4 rfl rfl trivial ?_
 rw [vd, c3q fun j hj => hi2 j (by omega), Bool.and_true]
 exact congrArg bV (decide_eq_decide.2 (by omega))

theorem keep_s_validDataI : G8 Try.f50 = [0, 2] := by kernel_rfl
set_option maxHeartbeats 20000000 in
theorem a3o (xs : List Int) (hl : xs.length ≤ 1048576) : CW cxT 50 [L xs] = some (bV (vd xs), []) := by
 refine H0 rfl Try.func50 rfl ⟨by kernel_rfl, rfl, dT rfl, dT rfl, by decide⟩ keep_s_validDataI <| A4 <| A0 <| A5 rfl rfl rfl <| xN [0] [] rfl <| A4 <| A0 <| A3 rfl rfl <| D9 rfl rfl <| a6k rfl rfl <| A3 rfl rfl ?_
 refine B1 rfl rfl ?_ ?_ <;> intro hg0 <;> have hg := hg0 <;> try simp only [SG] at hg
 ·refine A3 rfl rfl <| gT rfl rfl ?_
  apply xC rfl
  ·apply A9
   ·exact B2 rfl
   apply A9
   ·exact B2 rfl
   apply A9
   ·exact B2 rfl
   exact C6
  ·exact c4b xs (by omega) (-200) 200
  refine ⟨⟨rfl, rfl, rfl, dT rfl, rfl⟩, .inl rfl, B9, C1 rfl, fun _ => rfl, fun g8 => ?_⟩
  refine B8 rfl (by assumption) rfl rfl <| A5 rfl rfl rfl <| xN [2] [] rfl <| C2 <| C4 rfl rfl trivial ?_
  cases hb : a8k (-200) 200 xs <;> simp_all [vd, ofConst] <;> omega
 refine gF rfl rfl <| B5 rfl (by assumption) rfl rfl <| A5 rfl rfl rfl <| xN [2] [] rfl <| C2 <| C4 rfl rfl trivial ?_
 cases hb : a8k (-200) 200 xs <;> simp_all [vd, ofConst] <;> omega

theorem keep_s_sortedS : G8 Try.f45 = [0, 2, 4, 10, 5, 3, 27] := by kernel_rfl
set_option maxHeartbeats 20000000 in
theorem c5b (xs : List Int) (hl : xs.length ≤ 1000) : CW cxT 45 [L xs] = some (.own 1 ((U7 xs).map iV), []) := by
 refine H0 rfl Try.func45 rfl ⟨by kernel_rfl, rfl, dT rfl, dT rfl, by decide⟩ keep_s_sortedS <| A4 <| A0 ?_
 (refine D3 rfl rfl (fun _ => rfl) ?_; intro g2)
 refine xN [0] [] rfl <| A4 <| A0 <| C8 (es := List.map iV []) rfl rfl (dT rfl) rfl rfl (fun _ => B3 (A6 fun _ => rfl)) (fun _ => rfl) ?_
 intro g6
 (refine B6 rfl rfl (by (simp; done)) rfl (fun _ => (B3 (by exact A6 fun _ => rfl))) (fun _ => rfl) ?_; intro g3)
 refine xN [0,3] [3] rfl <| A4 <| A4 <| A0 <| A5 rfl rfl rfl <| xN [0,3,4] [3] rfl <| C9 <| G3 (β := Nat × List Int × Nat) [(.t 0, _)] (fun (z : Nat × List Int × Nat) => match z with | (i, out, g) => [(.t 4, iV i), (.t 3, .sl 3 g none 0 out.length), (.h 3, .obj g 0 1 (out.map iV))]) (fun (z : Nat × List Int × Nat) => match z with | (i, out, g) => i ≤ xs.length ∧ out = U7 (xs.take i)) (fun (z : Nat × List Int × Nat) => match z with | (i, out, g) => xs.length - i) (0, [], _) ⟨rfl, rfl, rfl, rfl, trivial⟩ ⟨Nat.zero_le _, rfl⟩ ?_
 intro z hb
 obtain ⟨i, out, g⟩ := z
 try dsimp only at hb
 obtain ⟨hi1, hi2⟩ := hb
 have hol : out.length = i := by rw [hi2, a3i, List.length_take]; omega
 refine A4 <| A4 <| A0 <| A3 rfl rfl <| A3 rfl rfl <| D9 rfl rfl <| G7 rfl rfl <| xN [0,3,4,10] [3] rfl ?_
 refine A7 rfl ?_ ?_ <;> intro hc <;> try simp only [SL] at hc
 ·refine B7 <| A4 <| C9 <| A4 <| A0 <| A5 rfl rfl rfl <| xN [0,3,4,5] [3] rfl <| A4 <| C9 <| G3 (β := Nat) [(.t 0, _), (.t 3, _), (.t 4, _), (.h 3, _)] (fun (k : Nat) => [(.t 5, iV k)]) (fun (k : Nat) => k ≤ out.length ∧ ∀ j, j < k → out.getD j default ≤ xs.getD i default) (fun (k : Nat) => out.length - k) 0 ⟨rfl, rfl, rfl, rfl, rfl, trivial⟩ ⟨Nat.zero_le _, fun j h => by omega⟩ ?_
  intro k hb
  obtain ⟨hk1, hk2⟩ := hb
  refine A4 <| A4 <| A0 <| A3 rfl rfl <| A3 rfl rfl <| I4 rfl rfl <| G7 rfl rfl <| A3 rfl rfl ?_
  refine B1 rfl rfl ?_ ?_ <;> intro hg0 <;> have hg := hg0 <;> try simp only [SG] at hg
  ·refine A3 rfl rfl <| gT rfl rfl <| A3 rfl rfl <| gT rfl rfl <| D8 rfl rfl rfl rfl (by omega) (by (simp; done)) rfl <| gT rfl rfl <| J0 rfl rfl (by omega) (fun _ => rfl) (fun _ => rfl) rfl <| gT rfl rfl <| A3 rfl rfl <| gT rfl rfl <| A3 rfl rfl <| gT rfl rfl <| D5 rfl rfl rfl (fun _ => rfl) (by omega) <| gT rfl rfl <| D6 rfl rfl rfl <| gT rfl rfl <| a6k rfl rfl <| B8 rfl (by assumption) rfl rfl ?_
   refine I7 ⟨fun _ => ⟨by decide +kernel, by decide +kernel⟩, [(.t 0, _), (.t 3, _), (.t 4, _), (.t 5, _), (.t 27, _), (.h 3, _)], ⟨rfl, rfl, rfl, rfl, rfl, rfl, rfl, rfl, rfl, rfl, rfl, rfl, trivial⟩, ?_⟩
   refine A7 rfl ?_ ?_ <;> intro hc <;> try simp only [SL] at hc
   ·refine B7 <| C9 <| A0 <| A3 rfl rfl <| D7 rfl rfl (C5 (by omega)) <| A5 rfl rfl rfl <| xN [0,3,4,5] [3] rfl ?_
    refine ⟨k + 1, ⟨by omega, fun a ha => by rcases Nat.lt_succ_iff_lt_or_eq.1 ha with h | h; exact hk2 a h; subst h; exact hc⟩, (by omega), ⟨rfl, rfl, rfl, rfl, rfl, trivial⟩⟩
   refine G4 <| A0 <| C8 (es := List.map iV []) rfl rfl (dT rfl) rfl rfl (fun _ => B3 (A6 fun _ => rfl)) (fun _ => rfl) ?_
   intro g30
   refine A3 rfl rfl <| A3 rfl rfl <| a6x rfl rfl rfl (J4 rfl) (by omega) rfl <| N4 rfl rfl rfl rfl (by decide) rfl (by (simp; done)) (by omega) rfl rfl rfl (dT rfl) (fun _ => ⟨rfl, rfl, rfl⟩) (by simp only [H6]; (simp only [List.length_nil, List.length_cons, List.length_append, Nat.zero_add, List.length_map]; omega)) (fun _ => rfl) ?_
   intro g34
   refine A3 rfl rfl <| A3 rfl rfl <| D5 rfl rfl rfl (fun _ => rfl) (by omega) <| D6 rfl rfl rfl <| C8 (es := List.map iV [_]) rfl rfl (dT rfl) rfl rfl (fun _ => B3 (A6 fun _ => rfl)) (fun _ => rfl) ?_
   intro g39
   refine E4 rfl rfl rfl rfl (by (simp; done)) (by simp) (by decide) rfl rfl rfl rfl (dT rfl) (fun _ => ⟨rfl, rfl⟩) (by simp only [H6]; (simp; omega)) (fun _ => rfl) ?_
   intro g40
   refine A3 rfl rfl <| A3 rfl rfl <| a9x rfl rfl rfl K8 (J4 rfl) (by omega) rfl <| N4 rfl rfl rfl rfl (by decide) rfl (by (simp; done)) (by omega) rfl rfl rfl (dT rfl) (fun _ => ⟨rfl, rfl, rfl⟩) (by simp only [H6]; (simp; omega)) (fun _ => rfl) ?_
   intro g44
   (refine B6 rfl rfl (by (simp; done)) rfl (fun _ => (B3 (by exact A6 fun _ => rfl))) (fun _ => rfl) ?_; intro g3)
   refine I7 ⟨fun _ => ⟨by decide +kernel, by decide +kernel⟩, [(.t 0, _), (.t 3, _), (.t 4, _), (.h 3, _)], ⟨rfl, rfl, rfl, rfl, rfl, rfl, rfl, rfl, trivial⟩, ?_⟩
   refine A0 <| A3 rfl rfl <| D7 rfl rfl (C5 (by omega)) <| A5 rfl rfl rfl <| xN [0,3,4] [3] rfl ?_
   refine ⟨(i + 1, _, _), ?_, (by simp only; omega), ⟨rfl, rfl, rfl, rfl, trivial⟩⟩
   exact ⟨by omega, by rw [b1o (by omega), ← hi2]; exact a9q (hi2 ▸ X7 _) hk1 hk2 fun h => by omega⟩
  iterate 8 refine gF rfl rfl ?_
  refine B5 rfl (by assumption) rfl rfl ?_
  refine I7 ⟨fun _ => ⟨by decide +kernel, by decide +kernel⟩, [(.t 0, _), (.t 3, _), (.t 4, _), (.t 5, _), (.t 27, _), (.h 3, _)], ⟨rfl, rfl, rfl, rfl, rfl, rfl, rfl, rfl, rfl, rfl, rfl, rfl, trivial⟩, ?_⟩
  refine A7 rfl (fun hc => absurd hc (by decide)) (fun hc => ?_)
  refine G4 <| A0 <| C8 (es := List.map iV []) rfl rfl (dT rfl) rfl rfl (fun _ => B3 (A6 fun _ => rfl)) (fun _ => rfl) ?_
  intro g30
  refine A3 rfl rfl <| A3 rfl rfl <| a6x rfl rfl rfl (J4 rfl) (by omega) rfl <| N4 rfl rfl rfl rfl (by decide) rfl (by (simp; done)) (by omega) rfl rfl rfl (dT rfl) (fun _ => ⟨rfl, rfl, rfl⟩) (by simp only [H6]; (simp only [List.length_nil, List.length_cons, List.length_append, Nat.zero_add, List.length_map]; omega)) (fun _ => rfl) ?_
  intro g34
  refine A3 rfl rfl <| A3 rfl rfl <| D5 rfl rfl rfl (fun _ => rfl) (by omega) <| D6 rfl rfl rfl <| C8 (es := List.map iV [_]) rfl rfl (dT rfl) rfl rfl (fun _ => B3 (A6 fun _ => rfl)) (fun _ => rfl) ?_
  intro g39
  refine E4 rfl rfl rfl rfl (by (simp; done)) (by simp) (by decide) rfl rfl rfl rfl (dT rfl) (fun _ => ⟨rfl, rfl⟩) (by simp only [H6]; (simp; omega)) (fun _ => rfl) ?_
  intro g40
  refine A3 rfl rfl <| A3 rfl rfl <| a9x rfl rfl rfl K8 (J4 rfl) (by omega) rfl <| N4 rfl rfl rfl rfl (by decide) rfl (by (simp; done)) (by omega) rfl rfl rfl (dT rfl) (fun _ => ⟨rfl, rfl, rfl⟩) (by simp only [H6]; (simp; omega)) (fun _ => rfl) ?_
  intro g44
  (refine B6 rfl rfl (by (simp; done)) rfl (fun _ => (B3 (by exact A6 fun _ => rfl))) (fun _ => rfl) ?_; intro g3)
  refine I7 ⟨fun _ => ⟨by decide +kernel, by decide +kernel⟩, [(.t 0, _), (.t 3, _), (.t 4, _), (.h 3, _)], ⟨rfl, rfl, rfl, rfl, rfl, rfl, rfl, rfl, trivial⟩, ?_⟩
  refine A0 <| A3 rfl rfl <| D7 rfl rfl (C5 (by omega)) <| A5 rfl rfl rfl <| xN [0,3,4] [3] rfl ?_
  refine ⟨(i + 1, _, _), ?_, (by simp only; omega), ⟨rfl, rfl, rfl, rfl, trivial⟩⟩
  exact ⟨by omega, by rw [b1o (by omega), ← hi2]; exact a9q (hi2 ▸ X7 _) hk1 hk2 fun h => by omega⟩
 refine G4 <| A4 <| A0 <| A3 rfl rfl ?_
 (refine B6 rfl rfl (by (simp; done)) rfl (fun _ => (B3 (by exact A6 fun _ => rfl))) (fun _ => rfl) ?_; intro g2)
 refine xN [2] [2] rfl <| C2 <| O2 rfl rfl (by simp) (by exact A6 fun _ => rfl) trivial ?_
 rw [hi2, List.take_of_length_le (by omega)]

theorem keep_s_ClipI : G8 Try.f61 = [0, 2] := by kernel_rfl
set_option maxHeartbeats 20000000 in
theorem c4c (xs : List Int) (hx : xs.length ≤ H6) : CW cxT 61 [.own 1 (xs.map iV)] = some (.own 1 (xs.map iV), []) := by
 refine H0 rfl Try.func61 rfl ⟨by kernel_rfl, rfl, dT rfl, dT rfl, by decide⟩ keep_s_ClipI <| A4 <| A0 ?_
 (refine D3 rfl rfl (fun _ => rfl) ?_; intro g2)
 refine xN [0] [0] rfl <| A4 <| A0 <| A3 rfl rfl <| A3 rfl rfl <| I4 rfl rfl <| A3 rfl rfl <| I4 rfl rfl ?_
 refine d1z rfl rfl rfl rfl rfl rfl (fun hz => ?_) (fun hz => ?_)
 ·skip
  (refine D3 rfl rfl (fun _ => rfl) ?_; intro g2)
  refine xN [2] [0,2] rfl <| C2 <| O2 rfl rfl (by (simp; done)) (by rfl) trivial ?_
  (have h0 : xs = [] := (by simpa using hz); subst h0; rfl)
 skip
 (refine B6 rfl rfl (by (simp; done)) rfl (fun _ => (B3 (by exact A6 fun _ => rfl))) (fun _ => rfl) ?_; intro g2)
 refine xN [2] [0,2] rfl <| C2 <| O2 rfl rfl (by (simp; done)) (by exact A6 fun _ => rfl) trivial ?_
 rfl

theorem keep_s_sumI : G8 Try.f59 = [0, 2, 8, 7, 9, 6, 5, 3] := by kernel_rfl
set_option maxHeartbeats 20000000 in
theorem d1v (x : List Int) (hv : vl x = true) : CW cxT 59 [L x] = some (iV x.sum, []) := by
 have hx40 := (X2.1 hv).1
 have hgb := a0l hv
 refine H0 rfl Try.func59 rfl ⟨by kernel_rfl, rfl, dT rfl, dT rfl, by decide⟩ keep_s_sumI <| A4 <| A0 <| A5 rfl rfl rfl <| xN [0] [] rfl <| A4 <| A0 <| A5 rfl rfl rfl <| xN [0,3] [] rfl <| A4 <| A4 <| A0 <| A3 rfl rfl <| D9 rfl rfl <| A3 rfl rfl <| xN [3,6,7,8] [] rfl <| C9 <| G3 (β := Nat × Int) [(.t 6, _), (.t 7, _)] (fun (z : Nat × Int) => match z with | (i, a) => [(.t 8, iV i), (.t 3, iV a)]) (fun (z : Nat × Int) => match z with | (i, a) => i ≤ x.length ∧ a = prS (J3 x) i) (fun (z : Nat × Int) => match z with | (i, a) => x.length - i) (0, 0) ⟨rfl, rfl, rfl, rfl, trivial⟩ ⟨Nat.zero_le _, rfl⟩ ?_
 intro z hb
 obtain ⟨i, a⟩ := z
 try dsimp only at hb
 obtain ⟨hi1, ha⟩ := hb
 have hsb := b8r hv i
 have hgi : -100000 ≤ x.getD i default ∧ x.getD i default ≤ 100000 := hgb i
 rw [← ha] at hsb
 refine A4 <| A0 <| G7 rfl rfl <| xN [3,6,7,8,9] [] rfl <| A4 ?_
 refine A7 rfl ?_ ?_ <;> intro hc <;> try simp only [SL] at hc
 ·refine B7 <| A4 <| C9 <| A4 <| A0 <| D5 rfl rfl rfl (fun _ => rfl) (by omega) <| D6 rfl rfl rfl <| A5 rfl rfl rfl <| xN [3,5,6,7,8] [] rfl <| A0 <| A3 rfl rfl <| A3 rfl rfl <| D7 rfl rfl (C5 (by omega)) <| A5 rfl rfl rfl <| xN [3,6,7,8] [] rfl <| A0 <| D7 rfl rfl (C5 (by omega)) <| A3 rfl rfl <| xN [3,6,7,8] [] rfl ?_
  refine ⟨(i + 1, a + x.getD i default), ⟨by omega, by rw [prS, ha]; rfl⟩, (by simp only; omega), ⟨rfl, rfl, rfl, rfl, trivial⟩⟩
 refine G4 <| A4 <| A0 <| A3 rfl rfl <| A5 rfl rfl rfl <| xN [2] [] rfl <| C2 <| C4 rfl rfl trivial ?_
 rw [ha, show i = x.length by omega, b5g]

theorem keep_s_sumS : G8 Try.f48 = [0, 2, 4, 8, 3] := by kernel_rfl
set_option maxHeartbeats 20000000 in
theorem d2f (x : List Int) (hv : vl x = true) : CW cxT 48 [L x] = some (iV x.sum, []) := by
 have hx40 := (X2.1 hv).1
 have hgb := a0l hv
 refine H0 rfl Try.func48 rfl ⟨by kernel_rfl, rfl, dT rfl, dT rfl, by decide⟩ keep_s_sumS <| A4 <| A0 <| A5 rfl rfl rfl <| xN [0] [] rfl <| A4 <| A0 <| A5 rfl rfl rfl <| xN [0,3] [] rfl <| A4 <| A4 <| A0 <| A5 rfl rfl rfl <| xN [0,3,4] [] rfl <| C9 <| G3 (β := Nat × Int) [(.t 0, _)] (fun (z : Nat × Int) => match z with | (i, a) => [(.t 4, iV i), (.t 3, iV a)]) (fun (z : Nat × Int) => match z with | (i, a) => i ≤ x.length ∧ a = prS (J3 x) i) (fun (z : Nat × Int) => match z with | (i, a) => x.length - i) (0, 0) ⟨rfl, rfl, rfl, trivial⟩ ⟨Nat.zero_le _, rfl⟩ ?_
 intro z hb
 obtain ⟨i, a⟩ := z
 try dsimp only at hb
 obtain ⟨hi1, ha⟩ := hb
 have hsb := b8r hv i
 have hgi : -100000 ≤ x.getD i default ∧ x.getD i default ≤ 100000 := hgb i
 rw [← ha] at hsb
 refine A4 <| A4 <| A0 <| A3 rfl rfl <| A3 rfl rfl <| D9 rfl rfl <| G7 rfl rfl <| xN [0,3,4,8] [] rfl ?_
 refine A7 rfl ?_ ?_ <;> intro hc <;> try simp only [SL] at hc
 ·refine B7 <| A4 <| C9 <| A0 <| A3 rfl rfl <| A3 rfl rfl <| A3 rfl rfl <| D5 rfl rfl rfl (fun _ => rfl) (by omega) <| D6 rfl rfl rfl <| D7 rfl rfl (C5 (by omega)) <| A5 rfl rfl rfl <| xN [0,3,4] [] rfl <| A0 <| A3 rfl rfl <| D7 rfl rfl (C5 (by omega)) <| A5 rfl rfl rfl <| xN [0,3,4] [] rfl ?_
  refine ⟨(i + 1, a + x.getD i default), ⟨by omega, by rw [prS, ha]; rfl⟩, (by simp only; omega), ⟨rfl, rfl, rfl, trivial⟩⟩
 refine G4 <| A4 <| A0 <| A3 rfl rfl <| A5 rfl rfl rfl <| xN [2] [] rfl <| C2 <| C4 rfl rfl trivial ?_
 rw [ha, show i = x.length by omega, b5g]

theorem keep_s_ranksI : G8 Try.f58 = [0, 2, 13, 12, 14, 11, 4, 3, 23, 22, 24, 21, 5, 7, 27, 37] := by kernel_rfl
set_option maxHeartbeats 20000000 in
theorem c8a (x : List Int) (hv : vl x = true) : CW cxT 58 [L x] = some (.own 1 ((rkI x).map iV), []) := by
 have hx40 := (X2.1 hv).1
 have hgb := a0l hv
 refine H0 rfl Try.func58 rfl ⟨by kernel_rfl, rfl, dT rfl, dT rfl, by decide⟩ keep_s_ranksI <| A4 <| A0 ?_
 (refine D3 rfl rfl (fun _ => rfl) ?_; intro g2)
 refine xN [0] [] rfl <| A4 <| A0 <| A3 rfl rfl <| D9 rfl rfl <| c0i (f := iV) (x0 := 0) rfl rfl rfl rfl rfl (by simp only [H6]; omega) (dT rfl) (fun _ => B3 (by exact A6 fun _ => rfl)) (fun _ => rfl) ?_
 intro g10
 (refine B6 rfl rfl (by (simp; done)) rfl (fun _ => (B3 (by exact A6 fun _ => rfl))) (fun _ => rfl) ?_; intro g3)
 refine xN [0,3] [3] rfl <| A4 <| A4 <| A0 <| A3 rfl rfl <| D9 rfl rfl <| A3 rfl rfl <| xN [0,3,11,12,13] [3] rfl <| C9 ?_
 refine G3 (β := Nat × List Int) [(.t 0, _), (.t 3, _), (.t 11, _), (.t 12, _)] (fun (z : Nat × List Int) => match z with | (i, l) => [(.t 13, iV i), (.h 3, .obj g3 0 1 (l.map iV))]) (fun (z : Nat × List Int) => match z with | (i, l) => i ≤ x.length ∧ T9 x.length (fun i => 1 + prS (rkT x (J3 x i)) x.length) (fun _ => 0) i l) (fun (z : Nat × List Int) => match z with | (i, l) => x.length - i) (0, List.replicate x.length 0) ⟨rfl, rfl, rfl, rfl, rfl, rfl, trivial⟩ ⟨Nat.zero_le _, by simp, fun j hj => by rw [if_neg (by omega)]; simp [List.getD_eq_getElem?_getD, hj]⟩ ?_
 intro z hb
 obtain ⟨i, l⟩ := z
 try dsimp only at hb
 obtain ⟨hi1, hf⟩ := hb
 have hfl := hf.1
 refine A4 <| A0 <| G7 rfl rfl <| xN [0,3,11,12,13,14] [3] rfl <| A4 ?_
 refine A7 rfl ?_ ?_ <;> intro hc <;> try simp only [SL] at hc
 ·refine B7 <| A4 <| C9 <| A4 <| A0 <| A3 rfl rfl <| D5 rfl rfl rfl (fun _ => rfl) (by omega) <| D6 rfl rfl rfl <| A5 rfl rfl rfl <| A5 rfl rfl rfl <| xN [0,3,4,5,11,12,13] [3] rfl <| A4 <| A0 <| A3 rfl rfl <| A3 rfl rfl <| D8 rfl rfl rfl rfl (by omega) (by (simp; omega)) rfl <| M5 rfl rfl rfl (by omega) (fun _ _ => ⟨rfl, rfl, dT rfl, dT rfl, rfl, rfl⟩) (by decide) (by exact B3 (A6 fun _ => rfl)) <| xN [0,3,4,5,11,12,13] [3] rfl <| A4 <| A0 <| A3 rfl rfl <| D9 rfl rfl <| A3 rfl rfl <| xN [0,3,4,5,11,12,13,21,22,23] [3] rfl <| C9 <| G3 (β := Nat × List Int) [(.t 0, _), (.t 3, _), (.t 4, _), (.t 5, _), (.t 11, _), (.t 12, _), (.t 13, _), (.t 21, _), (.t 22, _)] (fun (z : Nat × List Int) => match z with | (k, l2) => [(.t 23, iV k), (.h 3, .obj g3 0 1 (l2.map iV))]) (fun (z : Nat × List Int) => match z with | (k, l2) => k ≤ x.length ∧ l2 = l.set i (1 + prS (rkT x (J3 x i)) k)) (fun (z : Nat × List Int) => match z with | (k, l2) => x.length - k) (0, l.set i 1) ⟨rfl, rfl, rfl, rfl, rfl, rfl, rfl, rfl, rfl, rfl, rfl, trivial⟩ ⟨Nat.zero_le _, rfl⟩ ?_
  intro z hb
  obtain ⟨k, l2⟩ := z
  try dsimp only at hb
  obtain ⟨hk1, hl2⟩ := hb
  have hl2l : l2.length = x.length := by rw [hl2]; simp [hfl]
  have hl2i : l2.getD i default = 1 + prS (rkT x (J3 x i)) k := by rw [hl2, a4l _ _ _ _ (by omega), if_pos rfl]
  have hrb := d2y x (J3 x i) k
  refine A4 <| A0 <| G7 rfl rfl <| xN [0,3,4,5,11,12,13,21,22,23,24] [3] rfl <| A4 ?_
  refine A7 rfl ?_ ?_ <;> intro hc <;> try simp only [SL] at hc
  ·refine B7 <| A4 <| C9 <| A4 <| A0 <| D5 rfl rfl rfl (fun _ => rfl) (by omega) <| D6 rfl rfl rfl <| A5 rfl rfl rfl <| xN [0,3,4,5,7,11,12,13,21,22,23] [3] rfl <| C9 <| A4 <| A0 <| A3 rfl rfl <| A3 rfl rfl <| G7 rfl rfl <| A5 rfl rfl rfl <| xN [0,3,4,5,7,11,12,13,21,22,23,27] [3] rfl ?_
   refine A7 rfl ?_ ?_ <;> intro hc <;> try simp only [SL] at hc
   ·refine A0 <| A3 rfl rfl <| A3 rfl rfl <| D8 rfl rfl rfl rfl (by omega) (by (simp; omega)) rfl <| J0 rfl rfl (by omega) (fun _ => rfl) (fun _ => rfl) rfl <| D7 rfl rfl (C5 (by omega)) <| D8 rfl rfl rfl rfl (by omega) (by (simp; omega)) rfl <| M5 rfl rfl rfl (by omega) (fun _ _ => ⟨rfl, rfl, dT rfl, dT rfl, rfl, rfl⟩) (by decide) (by exact B3 (A6 fun _ => rfl)) <| xN [0,3,4,5,11,12,13,21,22,23] [3] rfl <| A0 <| D7 rfl rfl (C5 (by omega)) <| A3 rfl rfl <| xN [0,3,4,5,11,12,13,21,22,23] [3] rfl ?_
    refine ⟨(k + 1, l2.set i (l2.getD i default + 2)), ?_, (by simp only; omega), ⟨rfl, rfl, rfl, rfl, rfl, rfl, rfl, rfl, rfl, rfl, rfl, trivial⟩⟩
    have hrs : prS (rkT x (J3 x i)) (k + 1) = prS (rkT x (J3 x i)) k + rkT x (J3 x i) k := rfl
    exact ⟨by omega, by rw [hl2i, hl2, List.set_set, hrs, rkT, if_pos (by assumption), Int.add_assoc]⟩
   refine A4 <| A0 <| A3 rfl rfl <| A3 rfl rfl <| H8 rfl rfl <| A5 rfl rfl rfl <| xN [0,3,4,5,11,12,13,21,22,23,37] [3] rfl ?_
   refine A7 rfl ?_ ?_ <;> intro hc <;> try simp only [SL] at hc
   ·refine A0 <| A3 rfl rfl <| A3 rfl rfl <| D8 rfl rfl rfl rfl (by omega) (by (simp; omega)) rfl <| J0 rfl rfl (by omega) (fun _ => rfl) (fun _ => rfl) rfl <| D7 rfl rfl (C5 (by omega)) <| D8 rfl rfl rfl rfl (by omega) (by (simp; omega)) rfl <| M5 rfl rfl rfl (by omega) (fun _ _ => ⟨rfl, rfl, dT rfl, dT rfl, rfl, rfl⟩) (by decide) (by exact B3 (A6 fun _ => rfl)) <| xN [0,3,4,5,11,12,13,21,22,23] [3] rfl <| A0 <| D7 rfl rfl (C5 (by omega)) <| A3 rfl rfl <| xN [0,3,4,5,11,12,13,21,22,23] [3] rfl ?_
    refine ⟨(k + 1, l2.set i (l2.getD i default + 1)), ?_, (by simp only; omega), ⟨rfl, rfl, rfl, rfl, rfl, rfl, rfl, rfl, rfl, rfl, rfl, trivial⟩⟩
    have hrs : prS (rkT x (J3 x i)) (k + 1) = prS (rkT x (J3 x i)) k + rkT x (J3 x i) k := rfl
    exact ⟨by omega, by rw [hl2i, hl2, List.set_set, hrs, rkT, if_neg (by unfold J3; omega), if_pos (by assumption), Int.add_assoc]⟩
   refine B7 <| A0 <| D7 rfl rfl (C5 (by omega)) <| A3 rfl rfl <| xN [0,3,4,5,11,12,13,21,22,23] [3] rfl ?_
   refine ⟨(k + 1, l2), ?_, (by simp only; omega), ⟨rfl, rfl, rfl, rfl, rfl, rfl, rfl, rfl, rfl, rfl, rfl, trivial⟩⟩
   have hrs : prS (rkT x (J3 x i)) (k + 1) = prS (rkT x (J3 x i)) k + rkT x (J3 x i) k := rfl
   exact ⟨by omega, by rw [hl2, hrs, rkT, if_neg (by unfold J3; omega), if_neg (by unfold J3; omega), Int.add_zero]⟩
  refine G4 <| A0 <| D7 rfl rfl (C5 (by omega)) <| A3 rfl rfl <| xN [0,3,11,12,13] [3] rfl ?_
  refine ⟨(i + 1, l2), ?_, (by simp only; omega), ⟨rfl, rfl, rfl, rfl, rfl, rfl, trivial⟩⟩
  exact ⟨by omega, by rw [hl2]; exact hf.step (by omega) (by rw [show k = x.length by omega])⟩
 refine G4 <| A4 <| A0 <| A3 rfl rfl ?_
 (refine B6 rfl rfl (by (simp; omega)) rfl (fun _ => (B3 (by exact A6 fun _ => rfl))) (fun _ => rfl) ?_; intro g2)
 refine xN [2] [2] rfl <| C2 <| O2 rfl rfl (by (simp [hfl]; done)) (by exact A6 fun _ => rfl) trivial ?_
 rw [hf.fin (by omega)]
 rfl

theorem keep_s_ranksS : G8 Try.f47 = [0, 2, 4, 12, 7, 18, 29, 5, 40, 6, 3] := by kernel_rfl
set_option maxHeartbeats 20000000 in
theorem c9a (x : List Int) (hv : vl x = true) : CW cxT 47 [L x] = some (.own 1 ((rkI x).map iV), []) := by
 have hx40 := (X2.1 hv).1
 have hgb := a0l hv
 refine H0 rfl Try.func47 rfl ⟨by kernel_rfl, rfl, dT rfl, dT rfl, by decide⟩ keep_s_ranksS <| A4 <| A0 ?_
 (refine D3 rfl rfl (fun _ => rfl) ?_; intro g2)
 refine xN [0] [] rfl <| A4 <| A0 <| C8 (es := List.map iV []) rfl rfl (dT rfl) rfl rfl (fun _ => B3 (A6 fun _ => rfl)) (fun _ => rfl) ?_
 intro g8
 (refine B6 rfl rfl (by (simp; done)) rfl (fun _ => (B3 (by exact A6 fun _ => rfl))) (fun _ => rfl) ?_; intro g3)
 refine xN [0,3] [3] rfl <| A4 <| A4 <| A0 <| A5 rfl rfl rfl <| xN [0,3,4] [3] rfl <| C9 <| G3 (β := Nat × List Int × Nat) [(.t 0, _)] (fun (z : Nat × List Int × Nat) => match z with | (i, l, g) => [(.t 4, iV i), (.h 3, .obj g 0 1 (l.map iV)), (.t 3, .sl 3 g none 0 l.length)]) (fun (z : Nat × List Int × Nat) => match z with | (i, l, g) => i ≤ x.length ∧ l = (List.range i).map fun i => 1 + prS (rkT x (J3 x i)) x.length) (fun (z : Nat × List Int × Nat) => match z with | (i, l, g) => x.length - i) (0, [], _) ⟨rfl, rfl, rfl, rfl, trivial⟩ ⟨Nat.zero_le _, rfl⟩ ?_
 intro z hb
 obtain ⟨i, l, g⟩ := z
 try dsimp only at hb
 obtain ⟨hi1, hl⟩ := hb
 have hll : l.length = i := by rw [hl]; simp
 refine A4 <| A4 <| A0 <| A3 rfl rfl <| A3 rfl rfl <| D9 rfl rfl <| G7 rfl rfl <| xN [0,3,4,12] [3] rfl ?_
 refine A7 rfl ?_ ?_ <;> intro hc <;> try simp only [SL] at hc
 ·refine B7 <| A4 <| C9 <| A4 <| A0 <| A5 rfl rfl rfl <| xN [0,3,4,5] [3] rfl <| A4 <| A0 <| A5 rfl rfl rfl <| xN [0,3,4,5,6] [3] rfl <| A4 <| A4 <| A0 <| A5 rfl rfl rfl <| xN [0,3,4,5,6,7] [3] rfl <| C9 <| G3 (β := Nat × Int × Int) [(.t 0, _), (.t 3, _), (.t 4, _), (.h 3, _)] (fun (z : Nat × Int × Int) => match z with | (k, a, b) => [(.t 7, iV k), (.t 5, iV a), (.t 6, iV b)]) (fun (z : Nat × Int × Int) => match z with | (k, a, b) => k ≤ x.length ∧ 2 * a + b = prS (rkT x (J3 x i)) k ∧ 0 ≤ a ∧ a ≤ k ∧ 0 ≤ b ∧ b ≤ k) (fun (z : Nat × Int × Int) => match z with | (k, a, b) => x.length - k) (0, 0, 0) ⟨rfl, rfl, rfl, rfl, rfl, rfl, rfl, trivial⟩ ⟨Nat.zero_le _, rfl, by decide, by decide, by decide, by decide⟩ ?_
  intro z hb
  obtain ⟨k, a, b⟩ := z
  try dsimp only at hb
  obtain ⟨hk1, hab, ha0, ha1, hb0, hb1⟩ := hb
  refine A4 <| A4 <| A0 <| A3 rfl rfl <| A3 rfl rfl <| D9 rfl rfl <| G7 rfl rfl <| xN [0,3,4,5,6,7,18] [3] rfl ?_
  refine A7 rfl ?_ ?_ <;> intro hc <;> try simp only [SL] at hc
  ·refine B7 <| A4 <| C9 <| A4 <| A4 <| A0 <| A3 rfl rfl <| A3 rfl rfl <| D5 rfl rfl rfl (fun _ => rfl) (by omega) <| D6 rfl rfl rfl <| A3 rfl rfl <| A3 rfl rfl <| D5 rfl rfl rfl (fun _ => rfl) (by omega) <| D6 rfl rfl rfl <| G7 rfl rfl ?_
   refine I7 ⟨fun _ => ⟨by decide +kernel, by decide +kernel⟩, [(.t 0, _), (.t 3, _), (.t 4, _), (.t 5, _), (.t 6, _), (.t 7, _), (.t 29, _), (.h 3, _)], ⟨rfl, rfl, rfl, rfl, rfl, rfl, rfl, rfl, rfl, rfl, rfl, rfl, rfl, rfl, rfl, rfl, trivial⟩, ?_⟩
   refine A7 rfl ?_ ?_ <;> intro hc <;> try simp only [SL] at hc
   ·refine A0 <| A3 rfl rfl <| D7 rfl rfl (C5 (by omega)) <| A5 rfl rfl rfl <| xN [0,3,4,5,6,7] [3] rfl <| A4 <| A0 <| A3 rfl rfl <| A3 rfl rfl <| D5 rfl rfl rfl (fun _ => rfl) (by omega) <| D6 rfl rfl rfl <| A3 rfl rfl <| A3 rfl rfl <| D5 rfl rfl rfl (fun _ => rfl) (by omega) <| D6 rfl rfl rfl <| H8 rfl rfl ?_
    refine I7 ⟨fun _ => ⟨by decide +kernel, by decide +kernel⟩, [(.t 0, _), (.t 3, _), (.t 4, _), (.t 5, _), (.t 6, _), (.t 7, _), (.t 40, _), (.h 3, _)], ⟨rfl, rfl, rfl, rfl, rfl, rfl, rfl, rfl, rfl, rfl, rfl, rfl, rfl, rfl, rfl, rfl, trivial⟩, ?_⟩
    refine A7 rfl ?_ ?_ <;> intro hc <;> try simp only [SL] at hc
    ·refine A0 <| A3 rfl rfl <| D7 rfl rfl (C5 (by omega)) <| A5 rfl rfl rfl <| xN [0,3,4,5,6,7] [3] rfl <| A0 <| A3 rfl rfl <| D7 rfl rfl (C5 (by omega)) <| A5 rfl rfl rfl <| xN [0,3,4,5,6,7] [3] rfl ?_
     refine ⟨(k + 1, a + 1, b + 1), ?_, (by simp only; omega), ⟨rfl, rfl, rfl, rfl, rfl, rfl, rfl, trivial⟩⟩
     have hrs : prS (rkT x (J3 x i)) (k + 1) = prS (rkT x (J3 x i)) k + rkT x (J3 x i) k := rfl
     exact ⟨by omega, by rw [hrs, ← hab, rkT, if_pos (by assumption)]; omega, by omega, by omega, by omega, by omega⟩
    refine B7 <| A0 <| A3 rfl rfl <| D7 rfl rfl (C5 (by omega)) <| A5 rfl rfl rfl <| xN [0,3,4,5,6,7] [3] rfl ?_
    refine ⟨(k + 1, a + 1, b), ?_, (by simp only; omega), ⟨rfl, rfl, rfl, rfl, rfl, rfl, rfl, trivial⟩⟩
    have hrs : prS (rkT x (J3 x i)) (k + 1) = prS (rkT x (J3 x i)) k + rkT x (J3 x i) k := rfl
    exact ⟨by omega, by rw [hrs, ← hab, rkT, if_pos (by assumption)]; omega, by omega, by omega, by omega, by omega⟩
   refine B7 <| A4 <| A0 <| A3 rfl rfl <| A3 rfl rfl <| D5 rfl rfl rfl (fun _ => rfl) (by omega) <| D6 rfl rfl rfl <| A3 rfl rfl <| A3 rfl rfl <| D5 rfl rfl rfl (fun _ => rfl) (by omega) <| D6 rfl rfl rfl <| H8 rfl rfl ?_
   refine I7 ⟨fun _ => ⟨by decide +kernel, by decide +kernel⟩, [(.t 0, _), (.t 3, _), (.t 4, _), (.t 5, _), (.t 6, _), (.t 7, _), (.t 40, _), (.h 3, _)], ⟨rfl, rfl, rfl, rfl, rfl, rfl, rfl, rfl, rfl, rfl, rfl, rfl, rfl, rfl, rfl, rfl, trivial⟩, ?_⟩
   refine A7 rfl ?_ ?_ <;> intro hc <;> try simp only [SL] at hc
   ·refine A0 <| A3 rfl rfl <| D7 rfl rfl (C5 (by omega)) <| A5 rfl rfl rfl <| xN [0,3,4,5,6,7] [3] rfl <| A0 <| A3 rfl rfl <| D7 rfl rfl (C5 (by omega)) <| A5 rfl rfl rfl <| xN [0,3,4,5,6,7] [3] rfl ?_
    refine ⟨(k + 1, a, b + 1), ?_, (by simp only; omega), ⟨rfl, rfl, rfl, rfl, rfl, rfl, rfl, trivial⟩⟩
    have hrs : prS (rkT x (J3 x i)) (k + 1) = prS (rkT x (J3 x i)) k + rkT x (J3 x i) k := rfl
    exact ⟨by omega, by rw [hrs, ← hab, rkT, if_neg (by unfold J3; omega), if_pos (by assumption)]; omega, by omega, by omega, by omega, by omega⟩
   refine B7 <| A0 <| A3 rfl rfl <| D7 rfl rfl (C5 (by omega)) <| A5 rfl rfl rfl <| xN [0,3,4,5,6,7] [3] rfl ?_
   refine ⟨(k + 1, a, b), ?_, (by simp only; omega), ⟨rfl, rfl, rfl, rfl, rfl, rfl, rfl, trivial⟩⟩
   have hrs : prS (rkT x (J3 x i)) (k + 1) = prS (rkT x (J3 x i)) k + rkT x (J3 x i) k := rfl
   exact ⟨by omega, by rw [hrs, ← hab, rkT, if_neg (by unfold J3; omega), if_neg (by unfold J3; omega)]; omega, by omega, by omega, by omega, by omega⟩
  refine G4 <| A0 <| A3 rfl rfl <| A3 rfl rfl <| a6i rfl rfl (C5 (by omega)) <| A3 rfl rfl <| D7 rfl rfl (C5 (by omega)) <| D7 rfl rfl (C5 (by omega)) <| C8 (es := List.map iV [_]) rfl rfl (dT rfl) rfl rfl (fun _ => B3 (A6 fun _ => rfl)) (fun _ => rfl) ?_
  intro g49
  refine E4 rfl rfl rfl rfl (by (simp; done)) (by simp) (by decide) rfl rfl rfl rfl (dT rfl) (fun _ => ⟨rfl, rfl⟩) (by simp only [H6]; (simp only [List.length_nil, List.length_cons, List.length_append, Nat.zero_add, List.length_map]; omega)) (fun _ => rfl) ?_
  intro g50
  (refine B6 rfl rfl (by (simp; done)) rfl (fun _ => (B3 (by exact A6 fun _ => rfl))) (fun _ => rfl) ?_; intro g3)
  refine xN [0,3,4] [3] rfl <| A0 <| A3 rfl rfl <| D7 rfl rfl (C5 (by omega)) <| A5 rfl rfl rfl <| xN [0,3,4] [3] rfl ?_
  refine ⟨(i + 1, l ++ [2 * a + b + 1], _), ?_, (by simp only; omega), ⟨rfl, rfl, rfl, rfl, trivial⟩⟩
  exact ⟨by omega, by rw [hl, V4, hab, show k = x.length by omega, Int.add_comm]⟩
 refine G4 <| A4 <| A0 <| A3 rfl rfl ?_
 (refine B6 rfl rfl (by (simp; done)) rfl (fun _ => (B3 (by exact A6 fun _ => rfl))) (fun _ => rfl) ?_; intro g2)
 refine xN [2] [2] rfl <| C2 <| O2 rfl rfl (by simp) (by exact A6 fun _ => rfl) trivial ?_
 rw [hl, show i = x.length by omega]
 rfl

theorem keep_s_turnedS : G8 Try.f46 = [0, 2, 4, 10, 3] := by kernel_rfl
set_option maxHeartbeats 20000000 in
theorem c5y (x : List Int) (hl : x.length ≤ 1000) : CW cxT 46 [L x] = some (.own 1 (x.reverse.map iV), []) := by
 refine H0 rfl Try.func46 rfl ⟨by kernel_rfl, rfl, dT rfl, dT rfl, by decide⟩ keep_s_turnedS <| A4 <| A0 ?_
 (refine D3 rfl rfl (fun _ => rfl) ?_; intro g2)
 refine xN [0] [] rfl <| A4 <| A0 <| C8 (es := List.map iV []) rfl rfl (dT rfl) rfl rfl (fun _ => B3 (A6 fun _ => rfl)) (fun _ => rfl) ?_
 intro g5
 (refine B6 rfl rfl (by (simp; done)) rfl (fun _ => (B3 (by exact A6 fun _ => rfl))) (fun _ => rfl) ?_; intro g3)
 refine xN [0,3] [3] rfl <| A4 <| A4 <| A0 <| A3 rfl rfl <| D9 rfl rfl <| I1 rfl rfl (C5 (by omega)) <| A5 rfl rfl rfl <| xN [0,3,4] [3] rfl <| C9 <| G3 (β := Nat × List Int × Nat) [(.t 0, _)] (fun (z : Nat × List Int × Nat) => match z with | (k, l, g) => [(.t 4, iV ((k : Int) - 1)), (.h 3, .obj g 0 1 (l.map iV)), (.t 3, .sl 3 g none 0 l.length)]) (fun (z : Nat × List Int × Nat) => match z with | (k, l, g) => k ≤ x.length ∧ l = (x.drop k).reverse) (fun (z : Nat × List Int × Nat) => match z with | (k, l, g) => k) (x.length, [], _) ⟨rfl, rfl, rfl, rfl, trivial⟩ ⟨Nat.le_refl _, by simp⟩ ?_
 intro z hb
 obtain ⟨k, l, g⟩ := z
 try dsimp only at hb
 obtain ⟨hk1, hl2⟩ := hb
 have hll : l.length = x.length - k := by rw [hl2]; simp
 refine A4 <| A4 <| A0 <| A3 rfl rfl <| a5i rfl rfl <| xN [0,3,4,10] [3] rfl ?_
 refine A7 rfl ?_ ?_ <;> intro hc <;> try simp only [SL] at hc
 ·obtain ⟨k', rfl⟩ : ∃ k', k = k' + 1 := ⟨k - 1, by omega⟩
  rw [show (((k' + 1 : Nat) : Int) - 1) = (k' : Int) by omega]
  refine B7 <| A4 <| C9 <| A0 <| A3 rfl rfl <| A3 rfl rfl <| A3 rfl rfl <| D5 rfl rfl rfl (fun _ => rfl) (by omega) <| D6 rfl rfl rfl <| C8 (es := List.map iV [_]) rfl rfl (dT rfl) rfl rfl (fun _ => B3 (A6 fun _ => rfl)) (fun _ => rfl) ?_
  intro g18
  refine E4 rfl rfl rfl rfl (by (simp; done)) (by simp) (by decide) rfl rfl rfl rfl (dT rfl) (fun _ => ⟨rfl, rfl⟩) (by simp only [H6]; (simp only [List.length_nil, List.length_cons, List.length_append, Nat.zero_add, List.length_map]; omega)) (fun _ => rfl) ?_
  intro g19
  (refine B6 rfl rfl (by (simp; done)) rfl (fun _ => (B3 (by exact A6 fun _ => rfl))) (fun _ => rfl) ?_; intro g3)
  refine xN [0,3,4] [3] rfl <| A0 <| A3 rfl rfl <| I1 rfl rfl (C5 (by omega)) <| A5 rfl rfl rfl <| xN [0,3,4] [3] rfl ?_
  refine ⟨(k', l ++ [x.getD k' default], _), ?_, (by simp only; omega), ⟨rfl, rfl, rfl, rfl, trivial⟩⟩
  exact ⟨by omega, by rw [hl2, c4x (show k' < x.length by omega), List.reverse_cons]⟩
 refine G4 <| A4 <| A0 <| A3 rfl rfl ?_
 (refine B6 rfl rfl (by (simp; done)) rfl (fun _ => (B3 (by exact A6 fun _ => rfl))) (fun _ => rfl) ?_; intro g2)
 refine xN [2] [2] rfl <| C2 <| O2 rfl rfl (by simp) (by exact A6 fun _ => rfl) trivial ?_
 rw [hl2, show k = 0 by omega]
 rfl

theorem keep_s_validLong : G8 Try.f49 = [0, 2, 3, 7, 15] := by kernel_rfl
set_option maxHeartbeats 20000000 in
theorem b9b (x : List Int) (hl : x.length ≤ 1048576) : CW cxT 49 [L x] = some (bV (vl x), []) := by
 refine H0 rfl Try.func49 rfl ⟨by kernel_rfl, rfl, dT rfl, dT rfl, by decide⟩ keep_s_validLong <| A4 <| A0 <| A5 rfl rfl rfl <| xN [0] [] rfl <| A4 <| A4 <| A0 <| A5 rfl rfl rfl <| xN [0,3] [] rfl <| C9 <| G3 (β := Nat) [(.t 0, _)] (fun (i : Nat) => [(.t 3, iV i)]) (fun (i : Nat) => i ≤ x.length ∧ ∀ j, j < i → -100000 ≤ x.getD j default ∧ x.getD j default ≤ 100000) (fun (i : Nat) => x.length - i) 0 ⟨rfl, rfl, trivial⟩ ⟨Nat.zero_le _, fun j h => by omega⟩ ?_
 intro i hb
 obtain ⟨hi1, hi2⟩ := hb
 refine A4 <| A4 <| A0 <| A3 rfl rfl <| A3 rfl rfl <| D9 rfl rfl <| G7 rfl rfl <| xN [0,3,7] [] rfl ?_
 refine A7 rfl ?_ ?_ <;> intro hc <;> try simp only [SL] at hc
 ·refine B7 <| A4 <| C9 <| A4 <| A0 <| A3 rfl rfl <| A3 rfl rfl <| D5 rfl rfl rfl (fun _ => rfl) (by omega) <| D6 rfl rfl rfl ?_
  apply xC rfl
  ·apply A9
   ·exact B2 rfl
   apply A9
   ·exact B2 rfl
   apply A9
   ·exact B2 rfl
   exact C6
  ·exact G0 _ _ _
  refine ⟨⟨rfl, rfl, rfl, dT rfl, rfl⟩, .inl rfl, B9, C1 rfl, fun _ => rfl, fun g14 => ?_⟩
  refine H7 rfl <| xN [0,3,15] [] rfl ?_
  refine A7 rfl ?_ ?_ <;> intro hc <;> try simp only [SL] at hc
  ·refine A4 <| A0 <| A5 rfl rfl rfl <| xN [2] [] rfl <| C2 <| C4 rfl rfl trivial ?_
   rw [vl, b9m (show i < x.length by omega) (by (simp_all; omega)), Bool.and_false]
   rfl
  refine B7 <| A0 <| A3 rfl rfl <| D7 rfl rfl (C5 (by omega)) <| A5 rfl rfl rfl <| xN [0,3] [] rfl ?_
  refine ⟨i + 1, ⟨by omega, fun j hj => by rcases Nat.lt_succ_iff_lt_or_eq.1 hj with h | h; (· exact hi2 j h); (· subst h; assumption)⟩, (by omega), ⟨rfl, rfl, trivial⟩⟩
 refine G4 <| A4 <| A0 <| A3 rfl rfl <| D9 rfl rfl <| a6k rfl rfl <| A5 rfl rfl rfl <| xN [2] [] rfl <| C2 <| C4 rfl rfl trivial ?_
 rw [vl, c3q fun j hj => hi2 j (by omega), Bool.and_true]
 exact congrArg bV (decide_eq_decide.2 (by omega))

theorem keep_s_needs : G8 Try.f31 = [0, 2, 3, 4, 10, 19] := by kernel_rfl
set_option maxHeartbeats 20000000 in
theorem c3v (w : ByteArray) : CW cxT 31 [sV w] = some (iV (nd w), []) := by
 refine H0 rfl Try.func31 rfl ⟨by kernel_rfl, rfl, dT rfl, dT rfl, by decide⟩ keep_s_needs <| A4 <| A0 <| A5 rfl rfl rfl <| xN [0] [] rfl <| A4 <| A4 <| A0 <| A3 rfl rfl <| xN [3] [] rfl <| C9 <| A4 <| A4 <| A0 <| K0 rfl rfl <| A5 rfl rfl rfl <| xN [3,4] [] rfl ?_
 refine A7 rfl ?_ ?_ <;> intro hc <;> try simp only [SL] at hc
 ·refine B7 ?_
  refine A7 rfl (fun hc => ?_) (fun hc => absurd hc (by simp_all))
  refine A4 <| A0 <| A5 rfl rfl rfl <| xN [2] [] rfl <| C2 <| C4 rfl rfl trivial <| congrArg iV ?_
  simp_all [nd]
 refine A4 <| A0 <| K0 rfl rfl <| A5 rfl rfl rfl <| xN [3,4] [] rfl ?_
 refine A7 rfl ?_ ?_ <;> intro hc <;> try simp only [SL] at hc
 ·refine B7 ?_
  refine A7 rfl (fun hc => ?_) (fun hc => absurd hc (by simp_all))
  refine A4 <| A0 <| A5 rfl rfl rfl <| xN [2] [] rfl <| C2 <| C4 rfl rfl trivial <| congrArg iV ?_
  simp_all [nd]
 refine A4 <| A0 <| K0 rfl rfl <| A5 rfl rfl rfl <| xN [3,4] [] rfl ?_
 refine A7 rfl ?_ ?_ <;> intro hc <;> try simp only [SL] at hc
 ·refine B7 ?_
  refine A7 rfl (fun hc => ?_) (fun hc => absurd hc (by simp_all))
  refine A4 <| A0 <| A5 rfl rfl rfl <| xN [2] [] rfl <| C2 <| C4 rfl rfl trivial <| congrArg iV ?_
  simp_all [nd]
 refine A4 <| A0 <| K0 rfl rfl <| A5 rfl rfl rfl <| xN [3,4] [] rfl ?_
 refine A7 rfl ?_ ?_ <;> intro hc <;> try simp only [SL] at hc
 ·refine B7 ?_
  refine A7 rfl (fun hc => ?_) (fun hc => absurd hc (by simp_all))
  refine A4 <| A0 <| A5 rfl rfl rfl <| xN [2] [] rfl <| C2 <| C4 rfl rfl trivial <| congrArg iV ?_
  simp_all [nd]
 refine A0 <| K0 rfl rfl <| A5 rfl rfl rfl <| xN [3,4] [] rfl ?_
 refine A7 rfl ?_ ?_ <;> intro hc <;> try simp only [SL] at hc
 ·refine A4 <| A0 <| A5 rfl rfl rfl <| xN [2] [] rfl <| C2 <| C4 rfl rfl trivial <| congrArg iV ?_
  simp_all [nd]
 refine A4 <| A4 <| A0 <| K0 rfl rfl <| A5 rfl rfl rfl <| xN [3,10] [] rfl ?_
 refine A7 rfl ?_ ?_ <;> intro hc <;> try simp only [SL] at hc
 ·refine B7 ?_
  refine A7 rfl (fun hc => ?_) (fun hc => absurd hc (by simp_all))
  refine A4 <| A0 <| A5 rfl rfl rfl <| xN [2] [] rfl <| C2 <| C4 rfl rfl trivial <| congrArg iV ?_
  simp_all [nd]
 refine A4 <| A0 <| K0 rfl rfl <| A5 rfl rfl rfl <| xN [3,10] [] rfl ?_
 refine A7 rfl ?_ ?_ <;> intro hc <;> try simp only [SL] at hc
 ·refine B7 ?_
  refine A7 rfl (fun hc => ?_) (fun hc => absurd hc (by simp_all))
  refine A4 <| A0 <| A5 rfl rfl rfl <| xN [2] [] rfl <| C2 <| C4 rfl rfl trivial <| congrArg iV ?_
  simp_all [nd]
 refine A4 <| A0 <| K0 rfl rfl <| A5 rfl rfl rfl <| xN [3,10] [] rfl ?_
 refine A7 rfl ?_ ?_ <;> intro hc <;> try simp only [SL] at hc
 ·refine B7 ?_
  refine A7 rfl (fun hc => ?_) (fun hc => absurd hc (by simp_all))
  refine A4 <| A0 <| A5 rfl rfl rfl <| xN [2] [] rfl <| C2 <| C4 rfl rfl trivial <| congrArg iV ?_
  simp_all [nd]
 refine A4 <| A0 <| K0 rfl rfl <| A5 rfl rfl rfl <| xN [3,10] [] rfl ?_
 refine A7 rfl ?_ ?_ <;> intro hc <;> try simp only [SL] at hc
 ·refine B7 ?_
  refine A7 rfl (fun hc => ?_) (fun hc => absurd hc (by simp_all))
  refine A4 <| A0 <| A5 rfl rfl rfl <| xN [2] [] rfl <| C2 <| C4 rfl rfl trivial <| congrArg iV ?_
  simp_all [nd]
 refine A4 <| A0 <| K0 rfl rfl <| A5 rfl rfl rfl <| xN [3,10] [] rfl ?_
 refine A7 rfl ?_ ?_ <;> intro hc <;> try simp only [SL] at hc
 ·refine B7 ?_
  refine A7 rfl (fun hc => ?_) (fun hc => absurd hc (by simp_all))
  refine A4 <| A0 <| A5 rfl rfl rfl <| xN [2] [] rfl <| C2 <| C4 rfl rfl trivial <| congrArg iV ?_
  simp_all [nd]
 refine A4 <| A0 <| K0 rfl rfl <| A5 rfl rfl rfl <| xN [3,10] [] rfl ?_
 refine A7 rfl ?_ ?_ <;> intro hc <;> try simp only [SL] at hc
 ·refine B7 ?_
  refine A7 rfl (fun hc => ?_) (fun hc => absurd hc (by simp_all))
  refine A4 <| A0 <| A5 rfl rfl rfl <| xN [2] [] rfl <| C2 <| C4 rfl rfl trivial <| congrArg iV ?_
  simp_all [nd]
 refine A4 <| A0 <| K0 rfl rfl <| A5 rfl rfl rfl <| xN [3,10] [] rfl ?_
 refine A7 rfl ?_ ?_ <;> intro hc <;> try simp only [SL] at hc
 ·refine B7 ?_
  refine A7 rfl (fun hc => ?_) (fun hc => absurd hc (by simp_all))
  refine A4 <| A0 <| A5 rfl rfl rfl <| xN [2] [] rfl <| C2 <| C4 rfl rfl trivial <| congrArg iV ?_
  simp_all [nd]
 refine A0 <| K0 rfl rfl <| A5 rfl rfl rfl <| xN [3,10] [] rfl ?_
 refine A7 rfl ?_ ?_ <;> intro hc <;> try simp only [SL] at hc
 ·refine A4 <| A0 <| A5 rfl rfl rfl <| xN [2] [] rfl <| C2 <| C4 rfl rfl trivial <| congrArg iV ?_
  simp_all [nd]
 refine A4 <| A4 <| A0 <| K0 rfl rfl <| A5 rfl rfl rfl <| xN [3,19] [] rfl ?_
 refine A7 rfl ?_ ?_ <;> intro hc <;> try simp only [SL] at hc
 ·refine B7 ?_
  refine A7 rfl (fun hc => ?_) (fun hc => absurd hc (by simp_all))
  refine A4 <| A0 <| A5 rfl rfl rfl <| xN [2] [] rfl <| C2 <| C4 rfl rfl trivial <| congrArg iV ?_
  simp_all [nd]
 refine A0 <| K0 rfl rfl <| A5 rfl rfl rfl <| xN [19] [] rfl ?_
 refine A7 rfl ?_ ?_ <;> intro hc <;> try simp only [SL] at hc
 ·refine A4 <| A0 <| A5 rfl rfl rfl <| xN [2] [] rfl <| C2 <| C4 rfl rfl trivial <| congrArg iV ?_
  simp_all [nd]
 refine B7 <| A4 <| A0 <| A5 rfl rfl rfl <| xN [2] [] rfl <| C2 <| C4 rfl rfl trivial <| congrArg iV ?_
 simp_all [nd]

theorem keep_s_reachOf : G8 Try.f24 = [0, 2, 3, 4, 13, 16] := by kernel_rfl
set_option maxHeartbeats 20000000 in
theorem a0u (w : ByteArray) : CW cxT 24 [sV w] = some (iV (rch w), []) := by
 refine H0 rfl Try.func24 rfl ⟨by kernel_rfl, rfl, dT rfl, dT rfl, by decide⟩ keep_s_reachOf <| A4 <| A0 <| A5 rfl rfl rfl <| xN [0] [] rfl <| A4 <| A4 <| A0 <| A3 rfl rfl <| xN [3] [] rfl <| C9 <| A4 <| A4 <| A0 <| K0 rfl rfl <| A5 rfl rfl rfl <| xN [3,4] [] rfl ?_
 refine A7 rfl ?_ ?_ <;> intro hc <;> try simp only [SL] at hc
 ·refine B7 ?_
  refine A7 rfl (fun hc => ?_) (fun hc => absurd hc (by simp_all))
  refine A4 <| A0 <| A5 rfl rfl rfl <| xN [2] [] rfl <| C2 <| C4 rfl rfl trivial <| congrArg iV ?_
  simp_all [rch]
 refine A4 <| A0 <| K0 rfl rfl <| A5 rfl rfl rfl <| xN [3,4] [] rfl ?_
 refine A7 rfl ?_ ?_ <;> intro hc <;> try simp only [SL] at hc
 ·refine B7 ?_
  refine A7 rfl (fun hc => ?_) (fun hc => absurd hc (by simp_all))
  refine A4 <| A0 <| A5 rfl rfl rfl <| xN [2] [] rfl <| C2 <| C4 rfl rfl trivial <| congrArg iV ?_
  simp_all [rch]
 refine A4 <| A0 <| K0 rfl rfl <| A5 rfl rfl rfl <| xN [3,4] [] rfl ?_
 refine A7 rfl ?_ ?_ <;> intro hc <;> try simp only [SL] at hc
 ·refine B7 ?_
  refine A7 rfl (fun hc => ?_) (fun hc => absurd hc (by simp_all))
  refine A4 <| A0 <| A5 rfl rfl rfl <| xN [2] [] rfl <| C2 <| C4 rfl rfl trivial <| congrArg iV ?_
  simp_all [rch]
 refine A4 <| A0 <| K0 rfl rfl <| A5 rfl rfl rfl <| xN [3,4] [] rfl ?_
 refine A7 rfl ?_ ?_ <;> intro hc <;> try simp only [SL] at hc
 ·refine B7 ?_
  refine A7 rfl (fun hc => ?_) (fun hc => absurd hc (by simp_all))
  refine A4 <| A0 <| A5 rfl rfl rfl <| xN [2] [] rfl <| C2 <| C4 rfl rfl trivial <| congrArg iV ?_
  simp_all [rch]
 refine A4 <| A0 <| K0 rfl rfl <| A5 rfl rfl rfl <| xN [3,4] [] rfl ?_
 refine A7 rfl ?_ ?_ <;> intro hc <;> try simp only [SL] at hc
 ·refine B7 ?_
  refine A7 rfl (fun hc => ?_) (fun hc => absurd hc (by simp_all))
  refine A4 <| A0 <| A5 rfl rfl rfl <| xN [2] [] rfl <| C2 <| C4 rfl rfl trivial <| congrArg iV ?_
  simp_all [rch]
 refine A4 <| A0 <| K0 rfl rfl <| A5 rfl rfl rfl <| xN [3,4] [] rfl ?_
 refine A7 rfl ?_ ?_ <;> intro hc <;> try simp only [SL] at hc
 ·refine B7 ?_
  refine A7 rfl (fun hc => ?_) (fun hc => absurd hc (by simp_all))
  refine A4 <| A0 <| A5 rfl rfl rfl <| xN [2] [] rfl <| C2 <| C4 rfl rfl trivial <| congrArg iV ?_
  simp_all [rch]
 refine A4 <| A0 <| K0 rfl rfl <| A5 rfl rfl rfl <| xN [3,4] [] rfl ?_
 refine A7 rfl ?_ ?_ <;> intro hc <;> try simp only [SL] at hc
 ·refine B7 ?_
  refine A7 rfl (fun hc => ?_) (fun hc => absurd hc (by simp_all))
  refine A4 <| A0 <| A5 rfl rfl rfl <| xN [2] [] rfl <| C2 <| C4 rfl rfl trivial <| congrArg iV ?_
  simp_all [rch]
 refine A0 <| K0 rfl rfl <| A5 rfl rfl rfl <| xN [3,4] [] rfl ?_
 refine A7 rfl ?_ ?_ <;> intro hc <;> try simp only [SL] at hc
 ·refine A4 <| A0 <| A5 rfl rfl rfl <| xN [2] [] rfl <| C2 <| C4 rfl rfl trivial <| congrArg iV ?_
  simp_all [rch]
 refine A4 <| A4 <| A0 <| K0 rfl rfl <| A5 rfl rfl rfl <| xN [3,13] [] rfl ?_
 refine A7 rfl ?_ ?_ <;> intro hc <;> try simp only [SL] at hc
 ·refine B7 ?_
  refine A7 rfl (fun hc => ?_) (fun hc => absurd hc (by simp_all))
  refine A4 <| A0 <| A5 rfl rfl rfl <| xN [2] [] rfl <| C2 <| C4 rfl rfl trivial <| congrArg iV ?_
  simp_all [rch]
 refine A0 <| K0 rfl rfl <| A5 rfl rfl rfl <| xN [3,13] [] rfl ?_
 refine A7 rfl ?_ ?_ <;> intro hc <;> try simp only [SL] at hc
 ·refine A4 <| A0 <| A5 rfl rfl rfl <| xN [2] [] rfl <| C2 <| C4 rfl rfl trivial <| congrArg iV ?_
  simp_all [rch]
 refine A4 <| A4 <| A0 <| K0 rfl rfl <| A5 rfl rfl rfl <| xN [3,16] [] rfl ?_
 refine A7 rfl ?_ ?_ <;> intro hc <;> try simp only [SL] at hc
 ·refine B7 ?_
  refine A7 rfl (fun hc => ?_) (fun hc => absurd hc (by simp_all))
  refine A4 <| A0 <| A5 rfl rfl rfl <| xN [2] [] rfl <| C2 <| C4 rfl rfl trivial <| congrArg iV ?_
  simp_all [rch]
 refine A4 <| A0 <| K0 rfl rfl <| A5 rfl rfl rfl <| xN [3,16] [] rfl ?_
 refine A7 rfl ?_ ?_ <;> intro hc <;> try simp only [SL] at hc
 ·refine B7 ?_
  refine A7 rfl (fun hc => ?_) (fun hc => absurd hc (by simp_all))
  refine A4 <| A0 <| A5 rfl rfl rfl <| xN [2] [] rfl <| C2 <| C4 rfl rfl trivial <| congrArg iV ?_
  simp_all [rch]
 refine A4 <| A0 <| K0 rfl rfl <| A5 rfl rfl rfl <| xN [3,16] [] rfl ?_
 refine A7 rfl ?_ ?_ <;> intro hc <;> try simp only [SL] at hc
 ·refine B7 ?_
  refine A7 rfl (fun hc => ?_) (fun hc => absurd hc (by simp_all))
  refine A4 <| A0 <| A5 rfl rfl rfl <| xN [2] [] rfl <| C2 <| C4 rfl rfl trivial <| congrArg iV ?_
  simp_all [rch]
 refine A0 <| K0 rfl rfl <| A5 rfl rfl rfl <| xN [16] [] rfl ?_
 refine A7 rfl ?_ ?_ <;> intro hc <;> try simp only [SL] at hc
 ·refine A4 <| A0 <| A5 rfl rfl rfl <| xN [2] [] rfl <| C2 <| C4 rfl rfl trivial <| congrArg iV ?_
  simp_all [rch]
 refine B7 <| A4 <| A0 <| A5 rfl rfl rfl <| xN [2] [] rfl <| C2 <| C4 rfl rfl trivial <| congrArg iV ?_
 simp_all [rch]

theorem keep_s_validColumnsS : G8 Try.f23 = [0, 2, 3, 7, 15] := by kernel_rfl
set_option maxHeartbeats 20000000 in
theorem b0r (cols : List (List Int)) (hc4 : cols.length ≤ 1048576) (hcb : ∀ c ∈ cols, c.length ≤ 1048576) : CW cxT 23 [M cols] = some (bV (vcs cols), []) := by
 refine H0 rfl Try.func23 rfl ⟨by kernel_rfl, rfl, dT rfl, dT rfl, by decide⟩ keep_s_validColumnsS <| A4 <| A0 <| A5 rfl rfl rfl <| xN [0] [] rfl <| A4 <| A4 <| A0 <| A5 rfl rfl rfl <| xN [0,3] [] rfl <| C9 <| G3 (β := Nat) [(.t 0, _)] (fun (i : Nat) => [(.t 3, iV i)]) (fun (i : Nat) => i ≤ cols.length ∧ ∀ j, j < i → vd (cols.getD j default) = true) (fun (i : Nat) => cols.length - i) 0 ⟨rfl, rfl, trivial⟩ ⟨Nat.zero_le _, fun j h => by omega⟩ ?_
 intro i hb
 obtain ⟨hi1, hi2⟩ := hb
 have hci := fun h : i < cols.length => hcb _ (L8 h)
 refine A4 <| A4 <| A0 <| A3 rfl rfl <| A3 rfl rfl <| D9 rfl rfl <| G7 rfl rfl <| xN [0,3,7] [] rfl ?_
 refine A7 rfl ?_ ?_ <;> intro hc <;> try simp only [SL] at hc
 ·refine B7 <| A4 <| C9 <| A4 <| A0 <| A3 rfl rfl <| A3 rfl rfl <| D5 rfl rfl rfl (fun _ => rfl) (by omega) <| D6 rfl rfl rfl ?_
  apply xC rfl
  ·apply A9
   ·exact B2 rfl
   exact C6
  ·exact a1g (cols.getD i default) (hci (by omega))
  refine ⟨⟨rfl, rfl, rfl, dT rfl, rfl⟩, .inl rfl, B9, C1 rfl, fun _ => rfl, fun g14 => ?_⟩
  refine H7 rfl <| xN [0,3,15] [] rfl ?_
  refine A7 rfl ?_ ?_ <;> intro hc <;> try simp only [SL] at hc
  ·refine A4 <| A0 <| A5 rfl rfl rfl <| xN [2] [] rfl <| C2 <| C4 rfl rfl trivial ?_
   rw [d0f (show i < cols.length by omega) (by simpa using hc)]
   rfl
  refine B7 <| A0 <| A3 rfl rfl <| D7 rfl rfl (C5 (by omega)) <| A5 rfl rfl rfl <| xN [0,3] [] rfl ?_
  refine ⟨i + 1, ⟨by omega, fun j hj => by rcases Nat.lt_succ_iff_lt_or_eq.1 hj with h | h; (· exact hi2 j h); (· subst h; simpa using hc)⟩, (by omega), ⟨rfl, rfl, trivial⟩⟩
 refine G4 <| A4 <| A0 <| A3 rfl rfl <| D9 rfl rfl <| a6k rfl rfl <| A5 rfl rfl rfl <| xN [2] [] rfl <| C2 <| C4 rfl rfl trivial ?_
 rw [c8l fun j hj => hi2 j (by omega)]

theorem keep_s_colValid1 : G8 Try.f53 = [0, 2] := by kernel_rfl
set_option maxHeartbeats 20000000 in
theorem c0l (c : List Int) (hc : c.length ≤ 1048576) : CW cxT 53 [L c] = some (bV (!vd c), []) := by
 refine H0 rfl Try.func53 rfl ⟨by kernel_rfl, rfl, dT rfl, dT rfl, by decide⟩ keep_s_colValid1 <| A4 <| A0 <| A5 rfl rfl rfl <| xN [0] [] rfl <| A4 <| A0 <| A3 rfl rfl ?_
 apply xC rfl
 ·apply A9
  ·exact B2 rfl
  exact C6
 ·exact a3o c hc
 refine ⟨⟨rfl, rfl, rfl, dT rfl, rfl⟩, .inl rfl, B9, C1 rfl, fun _ => rfl, fun g4 => ?_⟩
 refine H7 rfl <| A5 rfl rfl rfl <| xN [2] [] rfl <| C2 <| C4 rfl rfl trivial ?_
 rfl

theorem keep_s_IndexFuncC : G8 Try.f67 = [0, 1, 4, 8, 7, 9, 5, 16] := by kernel_rfl
set_option maxHeartbeats 20000000 in
theorem b7k (cols : List (List Int)) (hc4 : cols.length ≤ 1048576) (hcb : ∀ c ∈ cols, c.length ≤ 1048576) : ∃ res outs, (fun res outs => ∃ r : Int, res = iV r ∧ outs = [] ∧ decide (0 ≤ r) = cols.any fun c => !vd c) res outs ∧ CW cxT 67 [M cols, .clo 53 []] = some (res, outs) := by
 refine N7 rfl Try.func67 rfl ⟨by kernel_rfl, rfl, dT rfl, dT rfl, by decide⟩ keep_s_IndexFuncC <| A4 <| A0 <| A5 rfl rfl rfl <| xN [0,1] [] rfl <| A4 <| A4 <| A0 <| A3 rfl rfl <| D9 rfl rfl <| A3 rfl rfl <| xN [0,1,7,8] [] rfl <| C9 <| G3 (β := Nat) [(.t 0, _), (.t 1, _), (.t 7, _)] (fun (i : Nat) => [(.t 8, iV i)]) (fun (i : Nat) => i ≤ cols.length ∧ ∀ j, j < i → (!vd (cols.getD j default)) = false) (fun (i : Nat) => cols.length - i) 0 ⟨rfl, rfl, rfl, rfl, trivial⟩ ⟨Nat.zero_le _, fun j h => by omega⟩ ?_
 intro i hb
 obtain ⟨hi1, hi2⟩ := hb
 have hci := fun h : i < cols.length => hcb _ (L8 h)
 refine A4 <| A0 <| G7 rfl rfl <| xN [0,1,7,8,9] [] rfl <| A4 ?_
 refine A7 rfl ?_ ?_ <;> intro hc <;> try simp only [SL] at hc
 ·refine B7 <| A4 <| C9 <| A4 <| A0 <| A3 rfl rfl <| A5 rfl rfl rfl <| xN [0,1,5,7,8] [] rfl <| A4 <| A0 <| A3 rfl rfl <| A3 rfl rfl <| A3 rfl rfl <| D5 rfl rfl rfl (fun _ => rfl) (by omega) <| D6 rfl rfl rfl ?_
  apply c3p rfl rfl
  ·apply A9
   ·exact B2 rfl
   exact C6
  ·exact c0l (cols.getD i default) (hci (by omega))
  ·exact ⟨rfl, rfl, rfl, dT rfl, rfl⟩
  ·exact .inl rfl
  ·exact B9
  ·exact C1 rfl
  ·exact fun _ => rfl
  intro g16
  refine xN [0,1,5,7,8,16] [] rfl ?_
  refine A7 rfl ?_ ?_ <;> intro hc <;> try simp only [SL] at hc
  ·refine A4 <| A0 <| A3 rfl rfl <| A5 rfl rfl rfl <| xN [4] [] rfl <| C2 ?_
   refine ⟨_, _, ?_, K5 rfl rfl E5⟩
   exact ⟨_, rfl, rfl, c8n (q := fun c => !vd c) (by omega) (by simpa using hc)⟩
  refine B7 <| A0 <| D7 rfl rfl (C5 (by omega)) <| A3 rfl rfl <| xN [0,1,7,8] [] rfl ?_
  refine ⟨i + 1, ⟨by omega, fun j hj => by rcases Nat.lt_succ_iff_lt_or_eq.1 hj with h | h; (· exact hi2 j h); (· subst h; simpa using hc)⟩, (by omega), ⟨rfl, rfl, rfl, rfl, trivial⟩⟩
 refine G4 <| A4 <| A0 <| A5 rfl rfl rfl <| xN [4] [] rfl <| C2 ?_
 refine ⟨_, _, ?_, K5 rfl rfl E5⟩
 exact ⟨-1, rfl, rfl, c4z fun j hj => hi2 j (by omega)⟩

theorem keep_s_ContainsFuncC : G8 Try.f52 = [0, 1, 4] := by kernel_rfl
set_option maxHeartbeats 20000000 in
theorem b0v (cols : List (List Int)) (hc4 : cols.length ≤ 1048576) (hcb : ∀ c ∈ cols, c.length ≤ 1048576) : CW cxT 52 [M cols, .clo 53 []] = some (bV (cols.any fun c => !vd c), []) := by
 obtain ⟨_, _, ⟨r, rfl, rfl, hr⟩, hC⟩ := b7k cols hc4 hcb
 refine H0 rfl Try.func52 rfl ⟨by kernel_rfl, rfl, dT rfl, dT rfl, by decide⟩ keep_s_ContainsFuncC <| A4 <| A0 <| A5 rfl rfl rfl <| xN [0,1] [] rfl <| A4 <| A0 <| A3 rfl rfl <| A3 rfl rfl ?_
 apply xC rfl
 ·apply A9
  ·exact B2 rfl
  apply A9
  ·exact B2 rfl
  exact C6
 ·exact hC
 refine ⟨⟨rfl, rfl, rfl, dT rfl, rfl⟩, .inl rfl, B9, C1 rfl, fun _ => rfl, fun g7 => ?_⟩
 refine a5i rfl rfl <| A5 rfl rfl rfl <| xN [4] [] rfl <| C2 <| C4 rfl rfl trivial ?_
 rw [← hr]

theorem keep_s_columnsValid : G8 Try.f30 = [0, 2] := by kernel_rfl
set_option maxHeartbeats 20000000 in
theorem b1z (cols : List (List Int)) (hc4 : cols.length ≤ 1048576) (hcb : ∀ c ∈ cols, c.length ≤ 1048576) : CW cxT 30 [M cols] = some (bV (vcs cols), []) := by
 refine H0 rfl Try.func30 rfl ⟨by kernel_rfl, rfl, dT rfl, dT rfl, by decide⟩ keep_s_columnsValid <| A4 <| A0 <| A5 rfl rfl rfl <| xN [0] [] rfl <| A4 <| A0 <| A3 rfl rfl <| D9 rfl rfl <| a6k rfl rfl <| A3 rfl rfl ?_
 refine B1 rfl rfl ?_ ?_ <;> intro hg0 <;> have hg := hg0 <;> try simp only [SG] at hg
 ·refine A3 rfl rfl <| gT rfl rfl ?_
  apply xC rfl
  ·apply A9
   ·exact B2 rfl
   apply A9
   ·exact B2 rfl
   exact C6
  ·exact b0v cols hc4 hcb
  refine ⟨⟨rfl, rfl, rfl, dT rfl, rfl⟩, .inl rfl, B9, C1 rfl, fun _ => rfl, fun g8 => ?_⟩
  refine gT rfl rfl <| H7 rfl <| B8 rfl (by assumption) rfl rfl <| A5 rfl rfl rfl <| xN [2] [] rfl <| C2 <| C4 rfl rfl trivial ?_
  rw [c3y]
  (simp_all; done)
 refine gF rfl rfl <| gF rfl rfl <| B5 rfl (by assumption) rfl rfl <| A5 rfl rfl rfl <| xN [2] [] rfl <| C2 <| C4 rfl rfl trivial ?_
 rw [c3y]
 (simp_all [ofConst]; intros; omega)

theorem keep_s_Reverse : G8 Try.f57 = [0, 3, 2, 9] := by kernel_rfl
set_option maxHeartbeats 20000000 in
theorem c5l (x : List Int) (hl : x.length ≤ 1000) : ∃ res outs, (fun res outs => res = .tup [] ∧ outs = [x.reverse.map iV]) res outs ∧ CW cxT 57 [.own 1 (x.map iV)] = some (res, outs) := by
 refine N7 rfl Try.func57 rfl ⟨by kernel_rfl, rfl, dT rfl, dT rfl, by decide⟩ keep_s_Reverse <| A4 <| A0 <| A3 rfl rfl <| I4 rfl rfl ?_
 simp only [List.length_map]
 refine I1 rfl rfl (C5 (by omega)) <| A5 rfl rfl rfl <| A5 rfl rfl rfl <| xN [0,2,3] [0] rfl <| C9 ?_
 rw [show ((x.length : Int) - 1) = (x.length : Int) - 1 - ((0 : Nat) : Int) by simp]
 refine G3 (β := Nat × List Int) [(.t 0, _)] (fun (z : Nat × List Int) => match z with | (i, l) => [(.t 2, iV i), (.t 3, iV ((x.length : Int) - 1 - (i : Int))), (.h 0, .obj 1 1 1 (l.map iV))]) (fun (z : Nat × List Int) => match z with | (i, l) => i ≤ x.length ∧ b7r x i l) (fun (z : Nat × List Int) => match z with | (i, l) => x.length - i) (0, x) ⟨rfl, rfl, rfl, rfl, trivial⟩ ⟨Nat.zero_le _, b7r.start x⟩ ?_
 intro z hb
 obtain ⟨i, l⟩ := z
 try dsimp only at hb
 obtain ⟨hi1, hr⟩ := hb
 have hrl := hr.1
 refine A4 <| A4 <| A0 <| A3 rfl rfl <| A3 rfl rfl <| G7 rfl rfl <| xN [0,2,3,9] [0] rfl ?_
 refine A7 rfl ?_ ?_ <;> intro hc <;> try simp only [SL] at hc
 ·refine B7 <| A4 <| C9 <| A0 ?_
  iterate 6 refine A3 rfl rfl ?_
  rw [show ((x.length : Int) - 1 - (i : Int)) = ((x.length - 1 - i : Nat) : Int) by omega]
  refine D8 rfl rfl rfl rfl (by (simp; omega)) (by (simp; omega)) rfl <| J0 rfl rfl (by omega) (fun _ => rfl) (fun _ => rfl) rfl <| A3 rfl rfl <| A3 rfl rfl <| D8 rfl rfl rfl rfl (by (simp; omega)) (by (simp; omega)) rfl <| J0 rfl rfl (by omega) (fun _ => rfl) (fun _ => rfl) rfl <| D8 rfl rfl rfl rfl (by (simp; omega)) (by (simp; omega)) rfl <| M5 rfl rfl rfl (by omega) (fun _ _ => ⟨rfl, rfl, dT rfl, dT rfl, rfl, rfl⟩) (by decide) (by exact b6a (A6 fun _ => rfl)) <| D8 rfl rfl rfl rfl (by (simp; omega)) (by (simp; omega)) rfl <| M5 rfl rfl rfl (by (simp; omega)) (fun _ _ => ⟨rfl, rfl, dT rfl, dT rfl, rfl, rfl⟩) (by decide) (by exact b6a (A6 fun _ => rfl)) ?_
  refine I7 ⟨fun _ => ⟨by decide +kernel, by decide +kernel⟩, [(.t 0, _), (.t 2, _), (.t 3, _), (.h 0, _)], ⟨rfl, rfl, rfl, rfl, rfl, rfl, rfl, rfl, trivial⟩, ?_⟩
  refine A0 <| A3 rfl rfl <| D7 rfl rfl (C5 (by omega)) ?_
  rw [show ((x.length - 1 - i : Nat) : Int) = (x.length : Int) - 1 - (i : Int) by omega]
  refine A3 rfl rfl <| I1 rfl rfl (C5 (by omega)) <| A5 rfl rfl rfl <| A5 rfl rfl rfl <| xN [0,2,3] [0] rfl ?_
  rw [show ((x.length : Int) - 1 - (i : Int) - 1) = (x.length : Int) - 1 - ((i + 1 : Nat) : Int) by omega]
  refine ⟨(i + 1, _), ?_, (by simp only; omega), ⟨rfl, rfl, rfl, rfl, trivial⟩⟩
  exact ⟨by omega, hr.step (by omega)⟩
 refine G4 ?_
 refine ⟨_, _, ?_, c7k (J5 rfl (a2v fun _ => rfl))⟩
 exact ⟨rfl, by rw [hr.fin (by omega)]⟩

theorem keep_s_clone : G8 Try.f54 = [0, 2] := by kernel_rfl
set_option maxHeartbeats 20000000 in
theorem c3n (x : List Int) (hl : x.length ≤ 1048576) : CW cxT 54 [L x] = some (.own 1 (x.map iV), []) := by
 refine H0 rfl Try.func54 rfl ⟨by kernel_rfl, rfl, dT rfl, dT rfl, by decide⟩ keep_s_clone <| A4 <| A0 ?_
 (refine D3 rfl rfl (fun _ => rfl) ?_; intro g2)
 refine xN [0] [] rfl <| A4 <| A0 <| A3 rfl rfl ?_
 apply xC rfl
 ·apply A9
  ·exact B2 rfl
  exact C6
 ·exact c4h x (by simp only [H6]; omega)
 refine ⟨⟨rfl, rfl, rfl, dT rfl, rfl⟩, .inl rfl, B9, J7, fun _ => rfl, fun g4 => ?_⟩
 simp only [List.length_map]
 apply xC rfl
 ·apply A9
  ·exact a5z rfl rfl (by (simp; done)) (A6 fun _ => rfl)
  exact C6
 ·exact c4c x (by simp only [H6]; omega)
 refine ⟨⟨rfl, rfl, rfl, dT rfl, rfl⟩, .inl rfl, B9, J7, fun _ => rfl, fun g5 => ?_⟩
 simp only [List.length_map]
 (refine B6 rfl rfl (by (simp; done)) rfl (fun _ => (B3 (by exact A6 fun _ => rfl))) (fun _ => rfl) ?_; intro g2)
 refine xN [2] [2] rfl <| C2 <| O2 rfl rfl (by simp) (by exact A6 fun _ => rfl) trivial ?_
 rfl

theorem keep_s_column : G8 Try.f32 = [0, 1, 2, 6, 9, 7, 19] := by kernel_rfl
set_option maxHeartbeats 20000000 in
theorem c6q (k : Nat) (hk : k < 4) (nums : List Int) (cols : List (List Int)) (hc4 : cols.length ≤ 1048576) (hcb : ∀ c ∈ cols, c.length ≤ 1048576) : CW cxT 32 [sV (c2s k), L nums, M cols] = some (.own 1 ((cols.getD k default).map iV), []) := by
 have hgl : (cols.getD k default).length ≤ 1048576 := by rcases Nat.lt_or_ge k cols.length with c | c; (· exact hcb _ (L8 c)); (· rw [List.getD_eq_getElem?_getD, List.getElem?_eq_none c]; exact Nat.zero_le _)
 refine H0 rfl Try.func32 rfl ⟨by kernel_rfl, rfl, dT rfl, dT rfl, by decide⟩ keep_s_column <| A4 <| A0 ?_
 (refine D3 rfl rfl (fun _ => rfl) ?_; intro g6)
 refine xN [0,1,2] [] rfl <| A4 <| A4 <| A0 <| A3 rfl rfl <| c8r (t := false) rfl rfl (by match k, hk with | 0, _ => decide +kernel | 1, _ => decide +kernel | 2, _ => decide +kernel | 3, _ => decide +kernel) <| xN [0,1,2,9] [] rfl ?_
 refine A7 rfl (fun hc => ?_) (fun hc => ?_)
 ·try simp only [SD] at hc
  exact absurd hc (by decide)
 try simp only [SL] at hc
 refine B7 <| A4 <| A4 <| A0 <| A3 rfl rfl <| a4q (b := UInt8.ofNat (97 + k)) rfl rfl rfl (by decide) rfl ?_
 rw [show (UInt8.ofNat (97 + k)).toNat = 97 + k from by match k, hk with | 0, _ => rfl | 1, _ => rfl | 2, _ => rfl | 3, _ => rfl]
 refine I1 rfl rfl (by constructor <;> simp [IntKind.min, IntKind.max, IntKind.signed, IntKind.bits] <;> omega) ?_
 rw [show ((97 + k : Nat) : Int) - 97 = (k : Int) by omega]
 refine a5f rfl rfl rfl (C5 (by omega)) <| A5 rfl rfl rfl <| xN [2,7] [] rfl <| A4 <| A0 <| A3 rfl rfl <| A3 rfl rfl <| D9 rfl rfl <| G7 rfl rfl <| xN [2,7,19] [] rfl ?_
 refine A7 rfl ?_ ?_ <;> intro hc <;> try simp only [SL] at hc
 ·refine A4 <| A0 <| A3 rfl rfl <| A3 rfl rfl <| D5 rfl rfl rfl (fun _ => rfl) (by omega) <| D6 rfl rfl rfl ?_
  apply xC rfl
  ·apply A9
   ·exact B2 rfl
   exact C6
  ·exact c3n (cols.getD k default) hgl
  refine ⟨⟨rfl, rfl, rfl, dT rfl, rfl⟩, .inl rfl, B9, J7, fun _ => rfl, fun g24 => ?_⟩
  simp only [List.length_map]
  (refine B6 rfl rfl (by (simp; done)) rfl (fun _ => (B3 (by exact A6 fun _ => rfl))) (fun _ => rfl) ?_; intro g6)
  refine xN [6] [6] rfl <| C2 <| O2 rfl rfl (by simp) (by exact A6 fun _ => rfl) trivial ?_
  rfl
 refine B7 <| A4 <| A0 ?_
 (refine D3 rfl rfl (fun _ => rfl) ?_; intro g6)
 refine xN [6] [6] rfl <| C2 <| O2 rfl rfl (by simp) (by rfl) trivial ?_
 rw [List.getD_eq_getElem?_getD, List.getElem?_eq_none (by omega)]
 rfl

theorem keep_s_columnL : G8 Try.f32 = [0, 1, 2, 6, 9, 7, 19] := by kernel_rfl
set_option maxHeartbeats 20000000 in
theorem c5s (nums : List Int) (hn : nums.length ≤ 1048576) (cols : List (List Int)) : CW cxT 32 [sV wList, L nums, M cols] = some (.own 1 (nums.map iV), []) := by
 refine H0 rfl Try.func32 rfl ⟨by kernel_rfl, rfl, dT rfl, dT rfl, by decide⟩ keep_s_columnL <| A4 <| A0 ?_
 (refine D3 rfl rfl (fun _ => rfl) ?_; intro g6)
 refine xN [0,1,2] [] rfl <| A4 <| A4 <| A0 <| A3 rfl rfl <| c8r (t := true) rfl rfl (by decide +kernel) <| xN [0,1,2,9] [] rfl ?_
 refine A7 rfl (fun hc => ?_) (fun hc => ?_)
 ·try simp only [SL] at hc
  refine A4 <| A0 <| A3 rfl rfl ?_
  apply xC rfl
  ·apply A9
   ·exact B2 rfl
   exact C6
  ·exact c3n nums hn
  refine ⟨⟨rfl, rfl, rfl, dT rfl, rfl⟩, .inl rfl, B9, J7, fun _ => rfl, fun g11 => ?_⟩
  simp only [List.length_map]
  (refine B6 rfl rfl (by (simp; done)) rfl (fun _ => (B3 (by exact A6 fun _ => rfl))) (fun _ => rfl) ?_; intro g6)
  refine xN [6] [6] rfl <| C2 <| O2 rfl rfl (by simp) (by exact A6 fun _ => rfl) trivial ?_
  rfl
 try simp only [SD] at hc
 exact absurd hc (by decide)

theorem keep_s_columnOf : G8 Try.f25 = [0, 1, 4, 5, 13] := by kernel_rfl
set_option maxHeartbeats 20000000 in
theorem a3s (k : Nat) (hk : k < 4) (cols : List (List Int)) (hc4 : cols.length ≤ 1048576) (hcb : ∀ c ∈ cols, c.length ≤ 1048576) : CW cxT 25 [sV (c2s k), M cols] = some (.own 1 ((cols.getD k default).map iV), []) := by
 have hgl : (cols.getD k default).length ≤ 1048576 := by rcases Nat.lt_or_ge k cols.length with c | c; (· exact hcb _ (L8 c)); (· rw [List.getD_eq_getElem?_getD, List.getElem?_eq_none c]; exact Nat.zero_le _)
 refine H0 rfl Try.func25 rfl ⟨by kernel_rfl, rfl, dT rfl, dT rfl, by decide⟩ keep_s_columnOf <| A4 <| A0 ?_
 (refine D3 rfl rfl (fun _ => rfl) ?_; intro g4)
 refine xN [0,1] [] rfl <| A4 <| A0 <| A3 rfl rfl <| a4q (b := UInt8.ofNat (97 + k)) rfl rfl rfl (by decide) rfl ?_
 rw [show (UInt8.ofNat (97 + k)).toNat = 97 + k from by match k, hk with | 0, _ => rfl | 1, _ => rfl | 2, _ => rfl | 3, _ => rfl]
 refine I1 rfl rfl (by constructor <;> simp [IntKind.min, IntKind.max, IntKind.signed, IntKind.bits] <;> omega) ?_
 rw [show ((97 + k : Nat) : Int) - 97 = (k : Int) by omega]
 refine a5f rfl rfl rfl (C5 (by omega)) <| A5 rfl rfl rfl <| xN [1,5] [] rfl <| A4 <| A4 <| A0 <| A3 rfl rfl <| A3 rfl rfl <| D9 rfl rfl <| G7 rfl rfl <| xN [1,5,13] [] rfl ?_
 refine A7 rfl ?_ ?_ <;> intro hc <;> try simp only [SL] at hc
 ·refine A4 <| A0 <| C8 (es := List.map iV []) rfl rfl (dT rfl) rfl rfl (fun _ => B3 (A6 fun _ => rfl)) (fun _ => rfl) ?_
  intro g14
  refine A3 rfl rfl <| A3 rfl rfl <| D5 rfl rfl rfl (fun _ => rfl) (by omega) <| D6 rfl rfl rfl <| L7 rfl rfl rfl (by (simp; done)) rfl rfl rfl (dT rfl) (fun _ => ⟨rfl, rfl, rfl⟩) (by simp only [H6]; (simp only [List.length_nil, List.length_cons, List.length_append, Nat.zero_add, List.length_map]; omega)) (fun _ => rfl) ?_
  intro g19
  (refine B6 rfl rfl (by (simp; done)) rfl (fun _ => (B3 (by exact A6 fun _ => rfl))) (fun _ => rfl) ?_; intro g4)
  refine xN [4] [4] rfl <| C2 <| O2 rfl rfl (by simp) (by exact A6 fun _ => rfl) trivial ?_
  rfl
 refine B7 <| A4 <| A0 <| C8 (es := List.map iV []) rfl rfl (dT rfl) rfl rfl (fun _ => B3 (A6 fun _ => rfl)) (fun _ => rfl) ?_
 intro g20
 (refine B6 rfl rfl (by (simp; done)) rfl (fun _ => (B3 (by exact A6 fun _ => rfl))) (fun _ => rfl) ?_; intro g4)
 refine xN [4] [4] rfl <| C2 <| O2 rfl rfl (by simp) (by rfl) trivial ?_
 rw [List.getD_eq_getElem?_getD, List.getElem?_eq_none (by omega)]
 rfl

theorem keep_s_makeBy : G8 Try.f33 = [0, 1, 4, 5, 15, 20, 21, 6, 25, 29, 33, 32, 34, 7, 45, 49, 48, 50, 8, 66, 9, 72, 86, 10, 91, 105, 109, 114, 124, 129, 128, 130, 127, 12, 11, 142, 156, 63] := by kernel_rfl
set_option maxHeartbeats 20000000 in
theorem c9f (op : ByteArray) (h1 : 1 ≤ nd op) (x y : List Int) (hx : vl x = true) (hy : vl y = true) (ls : List (List Int)) (hl1 : 1 ≤ ls.length) (hl2 : nd op = 2 → 2 ≤ ls.length) (hlx : ls.getD 0 default = x) (hly : 2 ≤ ls.length → ls.getD 1 default = y) : CW cxT 33 [sV op, M ls] = some (.tup [.own 1 (((mkR op x y).getD []).map iV), bV (mkR op x y).isSome], []) := by
 have hx40 := (X2.1 hx).1
 have hy40 := (X2.1 hy).1
 have hgx := a0l hx
 have hgy := a0l hy
 have hsx := a3i x
 refine H0 rfl Try.func33 rfl ⟨by kernel_rfl, rfl, dT rfl, dT rfl, by decide⟩ keep_s_makeBy <| A4 <| A0 ?_
 (refine D3 rfl rfl (fun _ => rfl) ?_; intro g4)
 refine A5 rfl rfl rfl <| xN [0,1] [] rfl <| A4 <| A0 ?_
 (refine D3 rfl rfl (fun _ => rfl) ?_; intro g6)
 refine xN [0,1,6] [6] rfl <| A4 <| A4 <| A0 <| A3 rfl rfl <| D9 rfl rfl <| N0 rfl rfl <| xN [0,1,6,15] [6] rfl ?_
 refine A7 rfl (fun hc => ?_) (fun hc => ?_)
 ·try simp only [SL] at hc
  refine A0 <| A3 rfl rfl <| D5 rfl rfl rfl (fun _ => rfl) (by (change 0 < _; omega)) <| D6 rfl rfl rfl ?_
  rw [hlx]
  apply xC rfl
  ·apply A9
   ·exact B2 rfl
   exact C6
  ·exact c4h x (by simp only [H6]; omega)
  refine ⟨⟨rfl, rfl, rfl, dT rfl, rfl⟩, .inl rfl, B9, J7, fun _ => rfl, fun g19 => ?_⟩
  simp only [List.length_map]
  (refine B6 rfl rfl (by (simp; done)) rfl (fun _ => (B3 (by exact A6 fun _ => rfl))) (fun _ => rfl) ?_; intro g6)
  refine xN [0,1,6] [6] rfl <| b9y <| A4 <| A0 <| A3 rfl rfl <| xN [1,6,20] [6] rfl ?_
  refine c8u (β := List Int × Nat × Nat) [] trivial (fun (z : List Int × Nat × Nat) => match z with | (r, n, g) => [(.h 6, .obj g 0 1 (r.map iV)), (.t 6, .sl 6 g none 0 n)]) (fun (z : List Int × Nat × Nat) => match z with | (r, n, g) => U9 op x y = some r ∧ n = r.length ∧ r.length ≤ 80) ?_ ?_
  ·skip
   refine C9 <| A4 <| A0 <| K0 rfl rfl <| A5 rfl rfl rfl <| xN [1,6,20,21] [6] rfl ?_
   refine A7 rfl ?_ ?_ <;> intro hc <;> try simp only [SL] at hc
   ·try simp at hc
    refine A0 <| A3 rfl rfl ?_
    apply c1g rfl
    ·apply A9
     ·exact b9a rfl rfl (by decide) (by (simp; done)) (a2v fun _ => rfl)
     exact C6
    ·exact d1w x (by simp only [H6]; omega)
    ·exact ⟨rfl, rfl, rfl, dT rfl, rfl⟩
    ·exact .inl rfl
    ·exact F3 rfl (by simp) (b2o _ _) B9
    ·exact a0v rfl
    ·(intro _; exact E7 (B3 (A6 fun _ => rfl)) rfl)
    intro g24
    refine xN [6] [6] rfl ?_
    refine ⟨(_, _, _), ?_, ⟨rfl, rfl, trivial⟩⟩
    exact ⟨(by (simp [U9, *]; done)), (by (simp; done)), (by omega)⟩
   try simp at hc
   refine A4 <| A0 <| K0 rfl rfl <| A5 rfl rfl rfl <| xN [1,6,20,25] [6] rfl ?_
   refine A7 rfl ?_ ?_ <;> intro hc <;> try simp only [SL] at hc
   ·try simp at hc
    refine A0 <| A3 rfl rfl ?_
    obtain ⟨_, _, ⟨rfl, rfl⟩, hRv⟩ := c5l x (by omega)
    apply c1g rfl
    ·apply A9
     ·exact b9a rfl rfl (by decide) (by (simp; done)) (a2v fun _ => rfl)
     exact C6
    ·exact hRv
    ·exact ⟨rfl, rfl, rfl, dT rfl, rfl⟩
    ·exact .inl rfl
    ·exact F3 rfl (by simp) (b2o _ _) B9
    ·exact a0v rfl
    ·(intro _; exact E7 (B3 (A6 fun _ => rfl)) rfl)
    intro g28
    refine xN [6] [6] rfl ?_
    refine ⟨(_, _, _), ?_, ⟨rfl, rfl, trivial⟩⟩
    exact ⟨(by (simp [U9, *]; done)), (by (simp; done)), (by (simp; omega))⟩
   try simp at hc
   refine A4 <| A0 <| K0 rfl rfl <| A5 rfl rfl rfl <| xN [1,6,20,29] [6] rfl ?_
   refine A7 rfl ?_ ?_ <;> intro hc <;> try simp only [SL] at hc
   ·try simp at hc
    refine A4 <| A0 <| A3 rfl rfl <| I4 rfl rfl <| A3 rfl rfl <| xN [6,32,33] [6] rfl <| C9 <| G3 (β := Nat × List Int) [(.t 6, _), (.t 32, _)] (fun (z : Nat × List Int) => match z with | (i, l) => [(.t 33, iV i), (.h 6, .obj g6 0 1 (l.map iV))]) (fun (z : Nat × List Int) => match z with | (i, l) => i ≤ x.length ∧ T9 x.length (fun i => -(J3 x i)) (J3 x) i l) (fun (z : Nat × List Int) => match z with | (i, l) => x.length - i) (0, x) ⟨rfl, rfl, rfl, rfl, trivial⟩ ⟨Nat.zero_le _, T9.start x _⟩ ?_
    intro z hb
    obtain ⟨i, l⟩ := z
    try dsimp only at hb
    obtain ⟨hi1, hf⟩ := hb
    have hfl := hf.1
    have hfa := fun h : i < x.length => hf.at h
    have hgi := hgx i
    have hgyi : -100000 ≤ y.getD i default ∧ y.getD i default ≤ 100000 := hgy i
    refine A4 <| A0 <| G7 rfl rfl <| xN [6,32,33,34] [6] rfl <| A4 ?_
    refine A7 rfl ?_ ?_ <;> intro hc <;> try simp only [SL] at hc
    ·refine B7 <| A4 <| C9 <| A4 <| A0 <| A3 rfl rfl <| A5 rfl rfl rfl <| xN [6,7,32,33] [6] rfl <| A0 <| A3 rfl rfl <| A3 rfl rfl <| A3 rfl rfl <| A3 rfl rfl <| D8 rfl rfl rfl rfl (by omega) (by (simp; omega)) rfl <| J0 rfl rfl (by omega) (fun _ => rfl) (fun _ => rfl) rfl <| b5p rfl (C5 (by omega)) <| D8 rfl rfl rfl rfl (by omega) (by (simp; omega)) rfl <| M5 rfl rfl rfl (by omega) (fun _ _ => ⟨rfl, rfl, dT rfl, dT rfl, rfl, rfl⟩) (by decide) (by exact B3 (A6 fun _ => rfl)) <| xN [6,32,33] [6] rfl <| A0 <| D7 rfl rfl (C5 (by omega)) <| A3 rfl rfl <| xN [6,32,33] [6] rfl ?_
     refine ⟨(i + 1, l.set i (-(l.getD i default))), ?_, (by simp only; omega), ⟨rfl, rfl, rfl, rfl, trivial⟩⟩
     exact ⟨by omega, hf.step (by omega) (by rw [hfa (by omega)]; done)⟩
    refine G4 ?_
    refine ⟨(_, _, _), ?_, ⟨rfl, rfl, trivial⟩⟩
    exact ⟨by rw [(hf.fin (by omega)).trans (a8d x fun v => -v)]; simp [U9, *], by omega, by omega⟩
   try simp at hc
   refine A4 <| A0 <| K0 rfl rfl <| A5 rfl rfl rfl <| xN [1,6,20,45] [6] rfl ?_
   refine A7 rfl ?_ ?_ <;> intro hc <;> try simp only [SL] at hc
   ·try simp at hc
    refine A4 <| A0 <| A3 rfl rfl <| I4 rfl rfl <| A3 rfl rfl <| xN [6,48,49] [6] rfl <| C9 <| G3 (β := Nat × List Int) [(.t 6, _), (.t 48, _)] (fun (z : Nat × List Int) => match z with | (i, l) => [(.t 49, iV i), (.h 6, .obj g6 0 1 (l.map iV))]) (fun (z : Nat × List Int) => match z with | (i, l) => i ≤ x.length ∧ T9 x.length (fun i => max (J3 x i) (-(J3 x i))) (J3 x) i l) (fun (z : Nat × List Int) => match z with | (i, l) => x.length - i) (0, x) ⟨rfl, rfl, rfl, rfl, trivial⟩ ⟨Nat.zero_le _, T9.start x _⟩ ?_
    intro z hb
    obtain ⟨i, l⟩ := z
    try dsimp only at hb
    obtain ⟨hi1, hf⟩ := hb
    have hfl := hf.1
    have hfa := fun h : i < x.length => hf.at h
    have hgi := hgx i
    have hgyi : -100000 ≤ y.getD i default ∧ y.getD i default ≤ 100000 := hgy i
    refine A4 <| A0 <| G7 rfl rfl <| xN [6,48,49,50] [6] rfl <| A4 ?_
    refine A7 rfl ?_ ?_ <;> intro hc <;> try simp only [SL] at hc
    ·refine B7 <| A4 <| C9 <| A4 <| A0 <| A3 rfl rfl <| A5 rfl rfl rfl <| xN [6,8,48,49] [6] rfl <| A0 <| A3 rfl rfl <| A3 rfl rfl <| A3 rfl rfl <| A3 rfl rfl <| D8 rfl rfl rfl rfl (by omega) (by (simp; omega)) rfl <| J0 rfl rfl (by omega) (fun _ => rfl) (fun _ => rfl) rfl <| A3 rfl rfl <| A3 rfl rfl <| D8 rfl rfl rfl rfl (by omega) (by (simp; omega)) rfl <| J0 rfl rfl (by omega) (fun _ => rfl) (fun _ => rfl) rfl <| b5p rfl (C5 (by omega)) <| d1e rfl rfl <| D8 rfl rfl rfl rfl (by omega) (by (simp; omega)) rfl <| M5 rfl rfl rfl (by omega) (fun _ _ => ⟨rfl, rfl, dT rfl, dT rfl, rfl, rfl⟩) (by decide) (by exact B3 (A6 fun _ => rfl)) ?_
     refine I7 ⟨fun _ => ⟨by decide +kernel, by decide +kernel⟩, [(.t 6, _), (.t 48, _), (.t 49, _), (.h 6, _)], ⟨rfl, rfl, rfl, rfl, rfl, rfl, rfl, rfl, trivial⟩, ?_⟩
     refine A0 <| D7 rfl rfl (C5 (by omega)) <| A3 rfl rfl <| xN [6,48,49] [6] rfl ?_
     refine ⟨(i + 1, l.set i (max (l.getD i default) (-(l.getD i default)))), ?_, (by simp only; omega), ⟨rfl, rfl, rfl, rfl, trivial⟩⟩
     exact ⟨by omega, hf.step (by omega) (by rw [hfa (by omega)]; done)⟩
    refine G4 ?_
    refine ⟨(_, _, _), ?_, ⟨rfl, rfl, trivial⟩⟩
    exact ⟨by rw [(hf.fin (by omega)).trans (a8d x fun v => max v (-v))]; simp [U9, *], by omega, by omega⟩
   try simp at hc
   refine A4 <| A0 <| K0 rfl rfl <| A5 rfl rfl rfl <| xN [1,6,20,66] [6] rfl ?_
   refine A7 rfl ?_ ?_ <;> intro hc <;> try simp only [SL] at hc
   ·try simp at hc
    refine A4 <| A0 <| A3 rfl rfl <| I4 rfl rfl <| I1 rfl rfl (C5 (by omega)) <| A5 rfl rfl rfl <| xN [6,9] [6] rfl <| C9 <| G3 (β := Nat × List Int) [(.t 6, _)] (fun (z : Nat × List Int) => match z with | (k, l) => [(.t 9, iV ((k : Int) - 1)), (.h 6, .obj g6 0 1 (l.map iV))]) (fun (z : Nat × List Int) => match z with | (k, l) => k ≤ x.length ∧ a3y x (k - 1) l) (fun (z : Nat × List Int) => match z with | (k, l) => k) (x.length, x) ⟨rfl, rfl, rfl, trivial⟩ ⟨Nat.le_refl _, a3y.start x⟩ ?_
    intro z hb
    obtain ⟨k, l⟩ := z
    try dsimp only at hb
    obtain ⟨hk1, hd⟩ := hb
    have hdl := hd.1
    refine A4 <| A4 <| A0 <| A3 rfl rfl <| N0 rfl rfl <| xN [6,9,72] [6] rfl ?_
    refine A7 rfl ?_ ?_ <;> intro hc <;> try simp only [SL] at hc
    ·refine B7 <| A4 <| C9 <| A0 <| A3 rfl rfl <| A3 rfl rfl ?_
     rw [show ((k : Int) - 1) = ((k - 1 : Nat) : Int) by omega]
     refine D8 rfl rfl rfl rfl (by omega) (by (simp; omega)) rfl <| J0 rfl rfl (by omega) (fun _ => rfl) (fun _ => rfl) rfl <| A3 rfl rfl <| A3 rfl rfl <| I1 rfl rfl (C5 (by omega)) ?_
     rw [show ((k - 1 : Nat) : Int) - 1 = ((k - 1 - 1 : Nat) : Int) by omega]
     refine D8 rfl rfl rfl rfl (by omega) (by (simp; omega)) rfl <| J0 rfl rfl (by omega) (fun _ => rfl) (fun _ => rfl) rfl ?_
     have hd1 := hd.val (k - 1)
     have hd2 := hd.val (k - 1 - 1)
     have hg1 := hgx (k - 1)
     have hg2 := hgx (k - 1 - 1)
     have hg3 := hgx (k - 1 - 1 - 1)
     refine I1 rfl rfl (C5 (by omega)) <| D8 rfl rfl rfl rfl (by omega) (by (simp; omega)) rfl <| M5 rfl rfl rfl (by omega) (fun _ _ => ⟨rfl, rfl, dT rfl, dT rfl, rfl, rfl⟩) (by decide) (by exact B3 (A6 fun _ => rfl)) ?_
     refine I7 ⟨fun _ => ⟨by decide +kernel, by decide +kernel⟩, [(.t 6, _), (.t 9, _), (.h 6, _)], ⟨rfl, rfl, rfl, rfl, rfl, rfl, trivial⟩, ?_⟩
     refine A0 <| A3 rfl rfl <| I1 rfl rfl (C5 (by omega)) <| A5 rfl rfl rfl <| xN [6,9] [6] rfl ?_
     refine ⟨(k - 1, _), ?_, (by simp only; omega), ⟨rfl, rfl, rfl, trivial⟩⟩
     exact ⟨by omega, hd.step (by omega) (by omega)⟩
    refine G4 ?_
    refine ⟨(_, _, _), ?_, ⟨rfl, rfl, trivial⟩⟩
    exact ⟨by rw [show l = dfI x from a3y.fin ((show k - 1 = 0 by omega) ▸ hd)]; simp [U9, *], by omega, by omega⟩
   try simp at hc
   refine A4 <| A0 <| K0 rfl rfl <| A5 rfl rfl rfl <| xN [1,6,20,86] [6] rfl ?_
   refine A7 rfl ?_ ?_ <;> intro hc <;> try simp only [SL] at hc
   ·try simp at hc
    refine A4 <| A0 <| A5 rfl rfl rfl <| xN [6,10] [6] rfl <| C9 <| G3 (β := Nat × List Int) [(.t 6, _)] (fun (z : Nat × List Int) => match z with | (i, l) => [(.t 10, iV i), (.h 6, .obj g6 0 1 (l.map iV))]) (fun (z : Nat × List Int) => match z with | (i, l) => 1 ≤ i ∧ T9 x.length (fun i => prS (J3 x) (i + 1)) (J3 x) i l) (fun (z : Nat × List Int) => match z with | (i, l) => x.length - i) (1, x) ⟨rfl, rfl, rfl, trivial⟩ ⟨Nat.le_refl _, T9.start1 x⟩ ?_
    intro z hb
    obtain ⟨i, l⟩ := z
    try dsimp only at hb
    obtain ⟨hi1, hf⟩ := hb
    have hfl := hf.1
    have hfa := fun h : i < x.length => hf.at h
    have hgi := hgx i
    refine A4 <| A4 <| A0 <| A3 rfl rfl <| A3 rfl rfl <| I4 rfl rfl <| G7 rfl rfl <| xN [6,10,91] [6] rfl ?_
    refine A7 rfl ?_ ?_ <;> intro hc <;> try simp only [SL] at hc
    ·refine B7 <| A4 <| C9 <| A0 <| A3 rfl rfl <| A3 rfl rfl <| D8 rfl rfl rfl rfl (by omega) (by (simp; omega)) rfl <| J0 rfl rfl (by omega) (fun _ => rfl) (fun _ => rfl) rfl <| A3 rfl rfl <| A3 rfl rfl <| I1 rfl rfl (C5 (by omega)) ?_
     rw [show ((i : Int) - 1) = ((i - 1 : Nat) : Int) by omega]
     refine D8 rfl rfl rfl rfl (by omega) (by (simp; omega)) rfl <| J0 rfl rfl (by omega) (fun _ => rfl) (fun _ => rfl) rfl ?_
     have hfb := hf.before (j := i - 1) (by omega) (by omega)
     have hsb := b8r hx (i - 1 + 1)
     refine D7 rfl rfl (C5 (by omega)) <| D8 rfl rfl rfl rfl (by omega) (by (simp; omega)) rfl <| M5 rfl rfl rfl (by omega) (fun _ _ => ⟨rfl, rfl, dT rfl, dT rfl, rfl, rfl⟩) (by decide) (by exact B3 (A6 fun _ => rfl)) ?_
     refine I7 ⟨fun _ => ⟨by decide +kernel, by decide +kernel⟩, [(.t 6, _), (.t 10, _), (.h 6, _)], ⟨rfl, rfl, rfl, rfl, rfl, rfl, trivial⟩, ?_⟩
     refine A0 <| A3 rfl rfl <| D7 rfl rfl (C5 (by omega)) <| A5 rfl rfl rfl <| xN [6,10] [6] rfl ?_
     refine ⟨(i + 1, l.set i (l.getD i default + l.getD (i - 1) default)), ?_, (by simp only; omega), ⟨rfl, rfl, rfl, trivial⟩⟩
     have hfb2 := hf.before (j := i - 1) (by omega) (by omega)
     rw [show i - 1 + 1 = i by omega] at hfb2
     exact ⟨by omega, hf.step (by omega) (by rw [hfa (by omega), hfb2, Int.add_comm]; rfl)⟩
    refine G4 ?_
    refine ⟨(_, _, _), ?_, ⟨rfl, rfl, trivial⟩⟩
    exact ⟨by rw [show l = smI x from hf.fin (by omega)]; simp [U9, *], by omega, by omega⟩
   try simp at hc
   refine A4 <| A0 <| K0 rfl rfl <| A5 rfl rfl rfl <| xN [1,6,20,105] [6] rfl ?_
   refine A7 rfl ?_ ?_ <;> intro hc <;> try simp only [SL] at hc
   ·try simp at hc
    refine A0 <| A3 rfl rfl ?_
    apply xC rfl
    ·apply A9
     ·exact H3 rfl rfl rfl (by (simp; done)) (fun _ => rfl)
     exact C6
    ·exact c8a x hx
    refine ⟨⟨rfl, rfl, rfl, dT rfl, rfl⟩, .inr ⟨b4v fun _ => rfl, rfl⟩, B9, J7, fun _ => rfl, fun g108 => ?_⟩
    simp only [List.length_map]
    (refine B6 rfl rfl (by (simp; done)) rfl (fun _ => (B3 (by exact A6 fun _ => rfl))) (fun _ => rfl) ?_; intro g6)
    refine xN [6] [6] rfl ?_
    refine ⟨(_, _, _), ?_, ⟨rfl, rfl, trivial⟩⟩
    exact ⟨(by (simp [U9, rkI, *]; done)), (by (simp [dfI, smI, rkI, adI]; done)), (by (simp; omega))⟩
   try simp at hc
   refine A4 <| A0 <| K0 rfl rfl <| A5 rfl rfl rfl <| xN [1,6,20,109] [6] rfl ?_
   refine A7 rfl ?_ ?_ <;> intro hc <;> try simp only [SL] at hc
   ·try simp at hc
    refine A0 <| A3 rfl rfl ?_
    apply xC rfl
    ·apply A9
     ·exact H3 rfl rfl rfl (by (simp; done)) (fun _ => rfl)
     exact C6
    ·exact d1v x hx
    refine ⟨⟨rfl, rfl, rfl, dT rfl, rfl⟩, .inr ⟨rfl, rfl⟩, B9, C1 rfl, fun _ => rfl, fun g112 => ?_⟩
    refine C8 (es := List.map iV [_]) rfl rfl (dT rfl) rfl rfl (fun _ => B3 (A6 fun _ => rfl)) (fun _ => rfl) ?_
    intro g113
    (refine B6 rfl rfl (by (simp; done)) rfl (fun _ => (B3 (by exact A6 fun _ => rfl))) (fun _ => rfl) ?_; intro g6)
    refine xN [6] [6] rfl ?_
    refine ⟨(_, _, _), ?_, ⟨rfl, rfl, trivial⟩⟩
    exact ⟨(by (simp [U9, *]; done)), (by (simp; done)), (by (simp; done))⟩
   try simp at hc
   refine A4 <| A0 <| K0 rfl rfl <| A5 rfl rfl rfl <| xN [1,6,20,114] [6] rfl ?_
   refine A7 rfl ?_ ?_ <;> intro hc <;> try simp only [SL] at hc
   ·try simp at hc
    have h2l := hl2 (c9b (.inl hc))
    refine A4 <| A4 <| A0 <| A3 rfl rfl <| D5 rfl rfl rfl (fun _ => rfl) (by (change 0 < _; omega)) <| D6 rfl rfl rfl ?_
    rw [hlx]
    refine D9 rfl rfl <| A3 rfl rfl <| D5 rfl rfl rfl (fun _ => rfl) (by (simp; omega)) <| D6 rfl rfl rfl ?_
    rw [hly h2l]
    refine D9 rfl rfl <| N5 rfl rfl ?_
    refine I7 ⟨fun _ => ⟨by decide +kernel, by decide +kernel⟩, [(.t 1, _), (.t 6, _), (.t 124, _), (.h 6, _)], ⟨rfl, rfl, rfl, rfl, rfl, rfl, rfl, rfl, trivial⟩, ?_⟩
    refine A7 rfl ?_ ?_ <;> intro hc <;> try simp only [SL] at hc
    ·refine A4 <| A0 ?_
     (refine D3 rfl rfl (fun _ => rfl) ?_; intro g4)
     refine A5 rfl rfl rfl <| xN [4,5] [4] rfl <| C2 <| F7 (H4 rfl rfl (by simp) (by rfl) (H2 rfl rfl (G9 E5))) ?_
     have hne : ¬ x.length = y.length := by omega
     rw [show mkR op x y = none from by simp [mkR, U9, *]]
     rfl
    refine B7 <| A4 <| A0 <| A3 rfl rfl <| D5 rfl rfl rfl (fun _ => rfl) (by (simp; omega)) <| D6 rfl rfl rfl ?_
    rw [hly h2l]
    refine D9 rfl rfl <| A3 rfl rfl <| xN [6,127,128,129] [6] rfl <| C9 <| G3 (β := Nat × List Int) [(.t 6, _), (.t 127, _), (.t 128, _)] (fun (z : Nat × List Int) => match z with | (i, l) => [(.t 129, iV i), (.h 6, .obj g6 0 1 (l.map iV))]) (fun (z : Nat × List Int) => match z with | (i, l) => i ≤ x.length ∧ T9 x.length (fun i => J3 x i + J3 y i) (J3 x) i l) (fun (z : Nat × List Int) => match z with | (i, l) => x.length - i) (0, x) ⟨rfl, rfl, rfl, rfl, rfl, trivial⟩ ⟨Nat.zero_le _, T9.start x _⟩ ?_
    intro z hb
    obtain ⟨i, l⟩ := z
    try dsimp only at hb
    obtain ⟨hi1, hf⟩ := hb
    have hfl := hf.1
    have hfa := fun h : i < x.length => hf.at h
    have hgi := hgx i
    have hgyi : -100000 ≤ y.getD i default ∧ y.getD i default ≤ 100000 := hgy i
    refine A4 <| A0 <| G7 rfl rfl <| xN [6,127,128,129,130] [6] rfl <| A4 ?_
    refine A7 rfl ?_ ?_ <;> intro hc <;> try simp only [SL] at hc
    ·refine B7 <| A4 <| C9 <| A4 <| A0 <| A3 rfl rfl <| D5 rfl rfl rfl (fun _ => rfl) (by omega) <| D6 rfl rfl rfl <| A5 rfl rfl rfl <| A5 rfl rfl rfl <| xN [6,11,12,127,128,129] [6] rfl <| A0 <| A3 rfl rfl <| A3 rfl rfl <| D8 rfl rfl rfl rfl (by omega) (by (simp; omega)) rfl <| J0 rfl rfl (by omega) (fun _ => rfl) (fun _ => rfl) rfl <| A3 rfl rfl <| D7 rfl rfl (C5 (by omega)) <| D8 rfl rfl rfl rfl (by omega) (by (simp; omega)) rfl <| M5 rfl rfl rfl (by omega) (fun _ _ => ⟨rfl, rfl, dT rfl, dT rfl, rfl, rfl⟩) (by decide) (by exact B3 (A6 fun _ => rfl)) <| xN [6,127,128,129] [6] rfl <| A0 <| D7 rfl rfl (C5 (by omega)) <| A3 rfl rfl <| xN [6,127,128,129] [6] rfl ?_
     refine ⟨(i + 1, l.set i (l.getD i default + y.getD i default)), ?_, (by simp only; omega), ⟨rfl, rfl, rfl, rfl, rfl, trivial⟩⟩
     exact ⟨by omega, hf.step (by omega) (by rw [hfa (by omega)]; rfl)⟩
    refine G4 ?_
    refine ⟨(_, _, _), ?_, ⟨rfl, rfl, trivial⟩⟩
    exact ⟨adF (by assumption) (by omega) (hf.fin (by omega)) rfl, by omega, by omega⟩
   try simp at hc
   refine A4 <| A0 <| K0 rfl rfl <| A5 rfl rfl rfl <| xN [1,6,142] [6] rfl ?_
   refine A7 rfl ?_ ?_ <;> intro hc <;> try simp only [SL] at hc
   ·try simp at hc
    have h2l := hl2 (c9b (.inr hc))
    refine A0 <| A3 rfl rfl <| A3 rfl rfl <| D5 rfl rfl rfl (fun _ => rfl) (by (simp; omega)) <| D6 rfl rfl rfl ?_
    rw [hly h2l]
    refine L7 rfl rfl rfl (by (simp; done)) rfl rfl rfl (dT rfl) (fun _ => ⟨rfl, rfl, rfl⟩) (by simp only [H6]; omega) (fun _ => rfl) ?_
    intro g148
    (refine B6 rfl rfl (by (simp; done)) rfl (fun _ => (B3 (by exact A6 fun _ => rfl))) (fun _ => rfl) ?_; intro g6)
    refine xN [6] [6] rfl ?_
    refine ⟨(_, _, _), ?_, ⟨rfl, rfl, trivial⟩⟩
    exact ⟨(by (simp [U9, *]; done)), (by (simp; done)), (by (simp; omega))⟩
   try simp at hc
   refine B7 ?_
   refine ⟨(_, _, _), ?_, ⟨rfl, rfl, trivial⟩⟩
   exact ⟨(by (simp [U9, *]; done)), (by (simp; done)), (by omega)⟩
  intro z hb
  obtain ⟨r, n, g⟩ := z
  try dsimp only at hb
  obtain ⟨hraw, hn, hr80⟩ := hb
  subst hn
  refine A4 <| A4 <| A0 <| A3 rfl rfl <| I4 rfl rfl <| N0 rfl rfl <| A3 rfl rfl ?_
  refine B1 rfl rfl ?_ ?_ <;> intro hg0 <;> have hg := hg0 <;> try simp only [SG] at hg
  ·refine A3 rfl rfl <| gT rfl rfl ?_
   apply xC rfl
   ·apply A9
    ·exact H3 rfl rfl rfl (by (simp; done)) (fun _ => rfl)
    apply A9
    ·exact B2 rfl
    apply A9
    ·exact B2 rfl
    exact C6
   ·exact c4b r (by omega) (-100000) 100000
   refine ⟨⟨rfl, rfl, rfl, dT rfl, rfl⟩, .inr ⟨rfl, rfl⟩, B9, C1 rfl, fun _ => rfl, fun g154 => ?_⟩
   refine gT rfl rfl <| H7 rfl <| B5 rfl (by assumption) rfl rfl <| xN [6,156] [6] rfl ?_
   refine A7 rfl ?_ ?_ <;> intro hc <;> try simp only [SL] at hc
   ·refine A4 <| A0 ?_
    (refine D3 rfl rfl (fun _ => rfl) ?_; intro g4)
    refine A5 rfl rfl rfl <| xN [4,5] [4] rfl <| C2 <| F7 (H4 rfl rfl (by simp) (by rfl) (H2 rfl rfl (G9 E5))) ?_
    rw [mkR, hraw, Option.bind_some, if_neg (by rw [X2]; simp_all; try omega)]
    rfl
   refine B7 <| A4 <| A0 <| A3 rfl rfl ?_
   apply xC rfl
   ·apply A9
    ·exact a5z rfl rfl (by (simp; done)) (A6 fun _ => rfl)
    exact C6
   ·exact c4c r (by simp only [H6]; omega)
   refine ⟨⟨rfl, rfl, rfl, dT rfl, rfl⟩, .inl rfl, B9, J7, fun _ => rfl, fun g158 => ?_⟩
   simp only [List.length_map]
   (refine B6 rfl rfl (by (simp; done)) rfl (fun _ => (B3 (by exact A6 fun _ => rfl))) (fun _ => rfl) ?_; intro g4)
   refine A5 rfl rfl rfl <| xN [4,5] [4] rfl <| C2 <| F7 (H4 rfl rfl (by simp) (by exact A6 fun _ => rfl) (H2 rfl rfl (G9 E5))) ?_
   rw [mkR, hraw, Option.bind_some, if_pos (X2.2 ⟨by omega, by simp_all⟩)]
   rfl
  refine gF rfl rfl <| gF rfl rfl <| B8 rfl (by assumption) rfl rfl <| xN [6,156] [6] rfl ?_
  refine A7 rfl (fun hc => ?_) (fun hc => absurd hc (by decide))
  refine A4 <| A0 ?_
  (refine D3 rfl rfl (fun _ => rfl) ?_; intro g4)
  refine A5 rfl rfl rfl <| xN [4,5] [4] rfl <| C2 <| F7 (H4 rfl rfl (by simp) (by rfl) (H2 rfl rfl (G9 E5))) ?_
  rw [mkR, hraw, Option.bind_some, if_neg (by rw [X2]; simp_all; try omega)]
  rfl
 try simp only [SD] at hc
 omega

theorem keep_s_apply : G8 Try.f26 = [0, 1, 2, 6, 7, 16, 17, 21, 25, 9, 30, 8, 41, 10, 46, 62, 11, 67, 71, 91, 13, 96, 12, 109, 113, 120, 126, 14, 130, 145] := by kernel_rfl
set_option maxHeartbeats 20000000 in
theorem b1k (op : ByteArray) (h1 : 1 ≤ nd op) (x y : List Int) (hx : vl x = true) (hy : vl y = true) : CW cxT 26 [sV op, L x, L y] = some (.tup [.own 1 ((raR op x y).map iV), bV (mkR op x y).isSome], []) := by
 have hx40 := (X2.1 hx).1
 have hy40 := (X2.1 hy).1
 have hgx := a0l hx
 have hgy := a0l hy
 have hsx := a3i x
 refine H0 rfl Try.func26 rfl ⟨by kernel_rfl, rfl, dT rfl, dT rfl, by decide⟩ keep_s_apply <| A4 <| A0 ?_
 (refine D3 rfl rfl (fun _ => rfl) ?_; intro g6)
 refine A5 rfl rfl rfl <| xN [0,1,2] [] rfl <| A4 <| A0 <| C8 (es := List.map iV []) rfl rfl (dT rfl) rfl rfl (fun _ => B3 (A6 fun _ => rfl)) (fun _ => rfl) ?_
 intro g15
 (refine B6 rfl rfl (by (simp; done)) rfl (fun _ => (B3 (by exact A6 fun _ => rfl))) (fun _ => rfl) ?_; intro g8)
 refine xN [0,1,2,8] [8] rfl <| b9y <| A4 <| A0 <| A3 rfl rfl <| xN [1,2,8,16] [8] rfl ?_
 refine c8u (β := List Int × Nat × Nat) [] trivial (fun (z : List Int × Nat × Nat) => match z with | (r, n, g) => [(.h 8, .obj g 0 1 (r.map iV)), (.t 8, .sl 8 g none 0 n)]) (fun (z : List Int × Nat × Nat) => match z with | (r, n, g) => U9 op x y = some r ∧ n = r.length ∧ r.length ≤ 80) ?_ ?_
 ·skip
  refine C9 <| A4 <| A0 <| K0 rfl rfl <| A5 rfl rfl rfl <| xN [1,2,8,16,17] [8] rfl ?_
  refine A7 rfl ?_ ?_ <;> intro hc <;> try simp only [SL] at hc
  ·try simp at hc
   refine A0 <| A3 rfl rfl ?_
   apply xC rfl
   ·apply A9
    ·exact B2 rfl
    exact C6
   ·exact c5b x (by omega)
   refine ⟨⟨rfl, rfl, rfl, dT rfl, rfl⟩, .inl rfl, B9, J7, fun _ => rfl, fun g20 => ?_⟩
   simp only [List.length_map]
   (refine B6 rfl rfl (by (simp; done)) rfl (fun _ => (B3 (by exact A6 fun _ => rfl))) (fun _ => rfl) ?_; intro g8)
   refine xN [8] [8] rfl ?_
   refine ⟨(_, _, _), ?_, ⟨rfl, rfl, trivial⟩⟩
   exact ⟨(by (simp [U9, *]; done)), (by (simp; done)), (by (simp; omega))⟩
  try simp at hc
  refine A4 <| A0 <| K0 rfl rfl <| A5 rfl rfl rfl <| xN [1,2,8,16,21] [8] rfl ?_
  refine A7 rfl ?_ ?_ <;> intro hc <;> try simp only [SL] at hc
  ·try simp at hc
   refine A0 <| A3 rfl rfl ?_
   apply xC rfl
   ·apply A9
    ·exact B2 rfl
    exact C6
   ·exact c5y x (by omega)
   refine ⟨⟨rfl, rfl, rfl, dT rfl, rfl⟩, .inl rfl, B9, J7, fun _ => rfl, fun g24 => ?_⟩
   simp only [List.length_map]
   (refine B6 rfl rfl (by (simp; done)) rfl (fun _ => (B3 (by exact A6 fun _ => rfl))) (fun _ => rfl) ?_; intro g8)
   refine xN [8] [8] rfl ?_
   refine ⟨(_, _, _), ?_, ⟨rfl, rfl, trivial⟩⟩
   exact ⟨(by (simp [U9, *]; done)), (by (simp; done)), (by (simp; omega))⟩
  try simp at hc
  refine A4 <| A0 <| K0 rfl rfl <| A5 rfl rfl rfl <| xN [1,2,8,16,25] [8] rfl ?_
  refine A7 rfl ?_ ?_ <;> intro hc <;> try simp only [SL] at hc
  ·try simp at hc
   refine A4 <| A0 <| A5 rfl rfl rfl <| xN [1,8,9] [8] rfl <| C9 <| G3 (β := Nat × List Int × Nat) [(.t 1, _)] (fun (z : Nat × List Int × Nat) => match z with | (i, l, g) => [(.t 9, iV i), (.h 8, .obj g 0 1 (l.map iV)), (.t 8, .sl 8 g none 0 l.length)]) (fun (z : Nat × List Int × Nat) => match z with | (i, l, g) => i ≤ x.length ∧ l = (List.range i).map (fun i => -(J3 x i))) (fun (z : Nat × List Int × Nat) => match z with | (i, l, g) => x.length - i) (0, [], _) ⟨rfl, rfl, rfl, rfl, trivial⟩ ⟨Nat.zero_le _, rfl⟩ ?_
   intro z hb
   obtain ⟨i, l, g⟩ := z
   try dsimp only at hb
   obtain ⟨hi1, hl⟩ := hb
   have hll : l.length = i := by rw [hl]; simp
   have hgi : -100000 ≤ x.getD i default ∧ x.getD i default ≤ 100000 := hgx i
   have hgyi : -100000 ≤ y.getD i default ∧ y.getD i default ≤ 100000 := hgy i
   refine A4 <| A4 <| A0 <| A3 rfl rfl <| A3 rfl rfl <| D9 rfl rfl <| G7 rfl rfl <| xN [1,8,9,30] [8] rfl ?_
   refine A7 rfl ?_ ?_ <;> intro hc <;> try simp only [SL] at hc
   ·refine B7 <| A4 <| C9 <| A0 <| A3 rfl rfl <| A3 rfl rfl <| A3 rfl rfl <| D5 rfl rfl rfl (fun _ => rfl) (by omega) <| D6 rfl rfl rfl <| b5p rfl (C5 (by omega)) <| C8 (es := List.map iV [_]) rfl rfl (dT rfl) rfl rfl (fun _ => B3 (A6 fun _ => rfl)) (fun _ => rfl) ?_
    intro g39
    refine E4 rfl rfl rfl rfl (by (simp; done)) (by simp) (by decide) rfl rfl rfl rfl (dT rfl) (fun _ => ⟨rfl, rfl⟩) (by simp only [H6]; (simp only [List.length_nil, List.length_cons, List.length_append, Nat.zero_add, List.length_map]; omega)) (fun _ => rfl) ?_
    intro g40
    (refine B6 rfl rfl (by (simp; done)) rfl (fun _ => (B3 (by exact A6 fun _ => rfl))) (fun _ => rfl) ?_; intro g8)
    refine xN [1,8,9] [8] rfl <| A0 <| A3 rfl rfl <| D7 rfl rfl (C5 (by omega)) <| A5 rfl rfl rfl <| xN [1,8,9] [8] rfl ?_
    refine ⟨(i + 1, l ++ [-(x.getD i default)], _), ?_, (by simp only; omega), ⟨rfl, rfl, rfl, rfl, trivial⟩⟩
    exact ⟨by omega, by rw [hl, V4]; rfl⟩
   refine G4 ?_
   refine ⟨(_, _, _), ?_, ⟨rfl, rfl, trivial⟩⟩
   exact ⟨apF (show l = x.map (fun v => -v) by rw [hl, show i = x.length by omega]; exact a8d x fun v => -v) (by simp [U9, *]), by omega, by omega⟩
  try simp at hc
  refine A4 <| A0 <| K0 rfl rfl <| A5 rfl rfl rfl <| xN [1,2,8,16,41] [8] rfl ?_
  refine A7 rfl ?_ ?_ <;> intro hc <;> try simp only [SL] at hc
  ·try simp at hc
   refine A4 <| A0 <| A5 rfl rfl rfl <| xN [1,8,10] [8] rfl <| C9 <| G3 (β := Nat × List Int × Nat) [(.t 1, _)] (fun (z : Nat × List Int × Nat) => match z with | (i, l, g) => [(.t 10, iV i), (.h 8, .obj g 0 1 (l.map iV)), (.t 8, .sl 8 g none 0 l.length)]) (fun (z : Nat × List Int × Nat) => match z with | (i, l, g) => i ≤ x.length ∧ l = (List.range i).map (fun i => max (J3 x i) (-(J3 x i)))) (fun (z : Nat × List Int × Nat) => match z with | (i, l, g) => x.length - i) (0, [], _) ⟨rfl, rfl, rfl, rfl, trivial⟩ ⟨Nat.zero_le _, rfl⟩ ?_
   intro z hb
   obtain ⟨i, l, g⟩ := z
   try dsimp only at hb
   obtain ⟨hi1, hl⟩ := hb
   have hll : l.length = i := by rw [hl]; simp
   have hgi : -100000 ≤ x.getD i default ∧ x.getD i default ≤ 100000 := hgx i
   have hgyi : -100000 ≤ y.getD i default ∧ y.getD i default ≤ 100000 := hgy i
   refine A4 <| A4 <| A0 <| A3 rfl rfl <| A3 rfl rfl <| D9 rfl rfl <| G7 rfl rfl <| xN [1,8,10,46] [8] rfl ?_
   refine A7 rfl ?_ ?_ <;> intro hc <;> try simp only [SL] at hc
   ·refine B7 <| A4 <| C9 <| A0 <| A3 rfl rfl <| A3 rfl rfl <| A3 rfl rfl <| D5 rfl rfl rfl (fun _ => rfl) (by omega) <| D6 rfl rfl rfl <| A3 rfl rfl <| A3 rfl rfl <| D5 rfl rfl rfl (fun _ => rfl) (by omega) <| D6 rfl rfl rfl <| b5p rfl (C5 (by omega)) <| d1e rfl rfl <| C8 (es := List.map iV [_]) rfl rfl (dT rfl) rfl rfl (fun _ => B3 (A6 fun _ => rfl)) (fun _ => rfl) ?_
    intro g60
    refine E4 rfl rfl rfl rfl (by (simp; done)) (by simp) (by decide) rfl rfl rfl rfl (dT rfl) (fun _ => ⟨rfl, rfl⟩) (by simp only [H6]; (simp only [List.length_nil, List.length_cons, List.length_append, Nat.zero_add, List.length_map]; omega)) (fun _ => rfl) ?_
    intro g61
    (refine B6 rfl rfl (by (simp; done)) rfl (fun _ => (B3 (by exact A6 fun _ => rfl))) (fun _ => rfl) ?_; intro g8)
    refine I7 ⟨fun _ => ⟨by decide +kernel, by decide +kernel⟩, [(.t 1, _), (.t 8, _), (.t 10, _), (.h 8, _)], ⟨rfl, rfl, rfl, rfl, rfl, rfl, rfl, rfl, trivial⟩, ?_⟩
    refine A0 <| A3 rfl rfl <| D7 rfl rfl (C5 (by omega)) <| A5 rfl rfl rfl <| xN [1,8,10] [8] rfl ?_
    refine ⟨(i + 1, l ++ [max (x.getD i default) (-(x.getD i default))], _), ?_, (by simp only; omega), ⟨rfl, rfl, rfl, rfl, trivial⟩⟩
    exact ⟨by omega, by rw [hl, V4]; rfl⟩
   refine G4 ?_
   refine ⟨(_, _, _), ?_, ⟨rfl, rfl, trivial⟩⟩
   exact ⟨apF (show l = x.map (fun v => max v (-v)) by rw [hl, show i = x.length by omega]; exact a8d x fun v => max v (-v)) (by simp [U9, *]), by omega, by omega⟩
  try simp at hc
  refine A4 <| A0 <| K0 rfl rfl <| A5 rfl rfl rfl <| xN [1,2,8,16,62] [8] rfl ?_
  refine A7 rfl ?_ ?_ <;> intro hc <;> try simp only [SL] at hc
  ·try simp at hc
   refine A4 <| A0 <| A5 rfl rfl rfl <| xN [1,8,11] [8] rfl <| C9 <| G3 (β := Nat × List Int × Nat) [(.t 1, _)] (fun (z : Nat × List Int × Nat) => match z with | (i, l, g) => [(.t 11, iV i), (.h 8, .obj g 0 1 (l.map iV)), (.t 8, .sl 8 g none 0 l.length)]) (fun (z : Nat × List Int × Nat) => match z with | (i, l, g) => i ≤ x.length ∧ l = (List.range i).map (fun i => if i = 0 then J3 x 0 else J3 x i - J3 x (i - 1))) (fun (z : Nat × List Int × Nat) => match z with | (i, l, g) => x.length - i) (0, [], _) ⟨rfl, rfl, rfl, rfl, trivial⟩ ⟨Nat.zero_le _, rfl⟩ ?_
   intro z hb
   obtain ⟨i, l, g⟩ := z
   try dsimp only at hb
   obtain ⟨hi1, hl⟩ := hb
   have hll : l.length = i := by rw [hl]; simp
   have hgi : -100000 ≤ x.getD i default ∧ x.getD i default ≤ 100000 := hgx i
   have hgyi : -100000 ≤ y.getD i default ∧ y.getD i default ≤ 100000 := hgy i
   refine A4 <| A4 <| A0 <| A3 rfl rfl <| A3 rfl rfl <| D9 rfl rfl <| G7 rfl rfl <| xN [1,8,11,67] [8] rfl ?_
   refine A7 rfl ?_ ?_ <;> intro hc <;> try simp only [SL] at hc
   ·refine B7 <| A4 <| C9 <| A4 <| A0 <| A3 rfl rfl <| H8 rfl rfl <| xN [1,8,11,71] [8] rfl ?_
    refine A7 rfl ?_ ?_ <;> intro hc <;> try simp only [SL] at hc
    ·refine A0 <| A3 rfl rfl <| A3 rfl rfl <| D5 rfl rfl rfl (fun _ => rfl) (by (change 0 < _; omega)) <| D6 rfl rfl rfl <| C8 (es := List.map iV [_]) rfl rfl (dT rfl) rfl rfl (fun _ => B3 (A6 fun _ => rfl)) (fun _ => rfl) ?_
     intro g76
     refine E4 rfl rfl rfl rfl (by (simp; done)) (by simp) (by decide) rfl rfl rfl rfl (dT rfl) (fun _ => ⟨rfl, rfl⟩) (by simp only [H6]; (simp only [List.length_nil, List.length_cons, List.length_append, Nat.zero_add, List.length_map]; omega)) (fun _ => rfl) ?_
     intro g77
     (refine B6 rfl rfl (by (simp; done)) rfl (fun _ => (B3 (by exact A6 fun _ => rfl))) (fun _ => rfl) ?_; intro g8)
     refine xN [1,8,11] [8] rfl <| A0 <| A3 rfl rfl <| D7 rfl rfl (C5 (by omega)) <| A5 rfl rfl rfl <| xN [1,8,11] [8] rfl ?_
     refine ⟨(i + 1, l ++ [x.getD 0 default], _), ?_, (by simp only; omega), ⟨rfl, rfl, rfl, rfl, trivial⟩⟩
     exact ⟨by omega, by rw [hl, V4, if_pos (by omega)]; rfl⟩
    refine A0 <| A3 rfl rfl <| A3 rfl rfl <| A3 rfl rfl <| D5 rfl rfl rfl (fun _ => rfl) (by omega) <| D6 rfl rfl rfl <| A3 rfl rfl <| A3 rfl rfl <| I1 rfl rfl (C5 (by omega)) ?_
    rw [show ((i : Int) - 1) = ((i - 1 : Nat) : Int) by omega]
    have hgi2 : -100000 ≤ x.getD (i - 1) default ∧ x.getD (i - 1) default ≤ 100000 := hgx (i - 1)
    refine D5 rfl rfl rfl (fun _ => rfl) (by omega) <| D6 rfl rfl rfl <| I1 rfl rfl (C5 (by omega)) <| C8 (es := List.map iV [_]) rfl rfl (dT rfl) rfl rfl (fun _ => B3 (A6 fun _ => rfl)) (fun _ => rfl) ?_
    intro g89
    refine E4 rfl rfl rfl rfl (by (simp; done)) (by simp) (by decide) rfl rfl rfl rfl (dT rfl) (fun _ => ⟨rfl, rfl⟩) (by simp only [H6]; (simp only [List.length_nil, List.length_cons, List.length_append, Nat.zero_add, List.length_map]; omega)) (fun _ => rfl) ?_
    intro g90
    (refine B6 rfl rfl (by (simp; done)) rfl (fun _ => (B3 (by exact A6 fun _ => rfl))) (fun _ => rfl) ?_; intro g8)
    refine I7 ⟨fun _ => ⟨by decide +kernel, by decide +kernel⟩, [(.t 1, _), (.t 8, _), (.t 11, _), (.h 8, _)], ⟨rfl, rfl, rfl, rfl, rfl, rfl, rfl, rfl, trivial⟩, ?_⟩
    refine A0 <| A3 rfl rfl <| D7 rfl rfl (C5 (by omega)) <| A5 rfl rfl rfl <| xN [1,8,11] [8] rfl ?_
    refine ⟨(i + 1, l ++ [x.getD i default - x.getD (i - 1) default], _), ?_, (by simp only; omega), ⟨rfl, rfl, rfl, rfl, trivial⟩⟩
    exact ⟨by omega, by rw [hl, V4, if_neg (by omega)]; rfl⟩
   refine G4 ?_
   refine ⟨(_, _, _), ?_, ⟨rfl, rfl, trivial⟩⟩
   exact ⟨apF (show l = dfI x by rw [hl, show i = x.length by omega]; rfl) (by simp [U9, *]), by omega, by omega⟩
  try simp at hc
  refine A4 <| A0 <| K0 rfl rfl <| A5 rfl rfl rfl <| xN [1,2,8,16,91] [8] rfl ?_
  refine A7 rfl ?_ ?_ <;> intro hc <;> try simp only [SL] at hc
  ·try simp at hc
   refine A4 <| A0 <| A5 rfl rfl rfl <| xN [1,8,12] [8] rfl <| A4 <| A0 <| A5 rfl rfl rfl <| xN [1,8,12,13] [8] rfl <| C9 <| G3 (β := Nat × Int × List Int × Nat) [(.t 1, _)] (fun (z : Nat × Int × List Int × Nat) => match z with | (i, s, l, g) => [(.t 13, iV i), (.t 12, iV s), (.h 8, .obj g 0 1 (l.map iV)), (.t 8, .sl 8 g none 0 l.length)]) (fun (z : Nat × Int × List Int × Nat) => match z with | (i, s, l, g) => i ≤ x.length ∧ s = prS (J3 x) i ∧ l = (List.range i).map fun i => prS (J3 x) (i + 1)) (fun (z : Nat × Int × List Int × Nat) => match z with | (i, s, l, g) => x.length - i) (0, 0, [], _) ⟨rfl, rfl, rfl, rfl, rfl, trivial⟩ ⟨Nat.zero_le _, rfl, rfl⟩ ?_
   intro z hb
   obtain ⟨i, s, l, g⟩ := z
   try dsimp only at hb
   obtain ⟨hi1, hs, hl⟩ := hb
   have hll : l.length = i := by rw [hl]; simp
   have hgi : -100000 ≤ x.getD i default ∧ x.getD i default ≤ 100000 := hgx i
   have hsb := b8r hx i
   rw [← hs] at hsb
   refine A4 <| A4 <| A0 <| A3 rfl rfl <| A3 rfl rfl <| D9 rfl rfl <| G7 rfl rfl <| xN [1,8,12,13,96] [8] rfl ?_
   refine A7 rfl ?_ ?_ <;> intro hc <;> try simp only [SL] at hc
   ·refine B7 <| A4 <| C9 <| A4 <| A0 <| A3 rfl rfl <| A3 rfl rfl <| A3 rfl rfl <| D5 rfl rfl rfl (fun _ => rfl) (by omega) <| D6 rfl rfl rfl <| D7 rfl rfl (C5 (by omega)) <| A5 rfl rfl rfl <| xN [1,8,12,13] [8] rfl <| A0 <| A3 rfl rfl <| A3 rfl rfl <| C8 (es := List.map iV [_]) rfl rfl (dT rfl) rfl rfl (fun _ => B3 (A6 fun _ => rfl)) (fun _ => rfl) ?_
    intro g107
    refine E4 rfl rfl rfl rfl (by (simp; done)) (by simp) (by decide) rfl rfl rfl rfl (dT rfl) (fun _ => ⟨rfl, rfl⟩) (by simp only [H6]; (simp only [List.length_nil, List.length_cons, List.length_append, Nat.zero_add, List.length_map]; omega)) (fun _ => rfl) ?_
    intro g108
    (refine B6 rfl rfl (by (simp; done)) rfl (fun _ => (B3 (by exact A6 fun _ => rfl))) (fun _ => rfl) ?_; intro g8)
    refine xN [1,8,12,13] [8] rfl <| A0 <| A3 rfl rfl <| D7 rfl rfl (C5 (by omega)) <| A5 rfl rfl rfl <| xN [1,8,12,13] [8] rfl ?_
    refine ⟨(i + 1, s + x.getD i default, l ++ [s + x.getD i default], _), ?_, (by simp only; omega), ⟨rfl, rfl, rfl, rfl, rfl, trivial⟩⟩
    exact ⟨by omega, by rw [prS, hs]; rfl, by rw [hl, V4, prS, hs]; rfl⟩
   refine G4 ?_
   refine ⟨(_, _, _), ?_, ⟨rfl, rfl, trivial⟩⟩
   exact ⟨apF (show l = smI x by rw [hl, show i = x.length by omega]; rfl) (by simp [U9, *]), by omega, by omega⟩
  try simp at hc
  refine A4 <| A0 <| K0 rfl rfl <| A5 rfl rfl rfl <| xN [1,2,8,16,109] [8] rfl ?_
  refine A7 rfl ?_ ?_ <;> intro hc <;> try simp only [SL] at hc
  ·try simp at hc
   refine A0 <| A3 rfl rfl ?_
   apply xC rfl
   ·apply A9
    ·exact B2 rfl
    exact C6
   ·exact c9a x hx
   refine ⟨⟨rfl, rfl, rfl, dT rfl, rfl⟩, .inl rfl, B9, J7, fun _ => rfl, fun g112 => ?_⟩
   simp only [List.length_map]
   (refine B6 rfl rfl (by (simp; done)) rfl (fun _ => (B3 (by exact A6 fun _ => rfl))) (fun _ => rfl) ?_; intro g8)
   refine xN [8] [8] rfl ?_
   refine ⟨(_, _, _), ?_, ⟨rfl, rfl, trivial⟩⟩
   exact ⟨(by (simp [U9, rkI, *]; done)), (by (simp [dfI, smI, rkI, adI]; done)), (by (simp; omega))⟩
  try simp at hc
  refine A4 <| A0 <| K0 rfl rfl <| A5 rfl rfl rfl <| xN [1,2,8,16,113] [8] rfl ?_
  refine A7 rfl ?_ ?_ <;> intro hc <;> try simp only [SL] at hc
  ·try simp at hc
   refine A0 <| A3 rfl rfl <| A3 rfl rfl ?_
   apply xC rfl
   ·apply A9
    ·exact B2 rfl
    exact C6
   ·exact d2f x hx
   refine ⟨⟨rfl, rfl, rfl, dT rfl, rfl⟩, .inl rfl, B9, C1 rfl, fun _ => rfl, fun g117 => ?_⟩
   refine C8 (es := List.map iV [_]) rfl rfl (dT rfl) rfl rfl (fun _ => B3 (A6 fun _ => rfl)) (fun _ => rfl) ?_
   intro g118
   refine E4 rfl rfl rfl rfl (by (simp; done)) (by simp) (by decide) rfl rfl rfl rfl (dT rfl) (fun _ => ⟨rfl, rfl⟩) (by simp only [H6]; (simp only [List.length_nil, List.length_cons, List.length_append, Nat.zero_add, List.length_map]; omega)) (fun _ => rfl) ?_
   intro g119
   (refine B6 rfl rfl (by (simp; done)) rfl (fun _ => (B3 (by exact A6 fun _ => rfl))) (fun _ => rfl) ?_; intro g8)
   refine xN [8] [8] rfl ?_
   refine ⟨(_, _, _), ?_, ⟨rfl, rfl, trivial⟩⟩
   exact ⟨(by (simp [U9, *]; done)), (by (simp; done)), (by (simp; done))⟩
  try simp at hc
  refine A4 <| A0 <| K0 rfl rfl <| A5 rfl rfl rfl <| xN [1,2,8,16,120] [8] rfl ?_
  refine A7 rfl ?_ ?_ <;> intro hc <;> try simp only [SL] at hc
  ·try simp at hc
   refine A4 <| A4 <| A0 <| A3 rfl rfl <| D9 rfl rfl <| A3 rfl rfl <| D9 rfl rfl <| N5 rfl rfl <| xN [1,2,8,126] [8] rfl ?_
   refine A7 rfl ?_ ?_ <;> intro hc <;> try simp only [SL] at hc
   ·refine A4 <| A0 ?_
    (refine D3 rfl rfl (fun _ => rfl) ?_; intro g6)
    refine A5 rfl rfl rfl <| xN [6,7] [6] rfl <| C2 <| F7 (H4 rfl rfl (by simp) (by rfl) (H2 rfl rfl (G9 E5))) ?_
    have hne : ¬ x.length = y.length := by omega
    rw [show mkR op x y = none from by simp [mkR, U9, *], show raR op x y = [] from by simp [raR, U9, *]]
    rfl
   refine B7 <| A4 <| A0 <| A5 rfl rfl rfl <| xN [1,2,8,14] [8] rfl <| C9 <| G3 (β := Nat × List Int × Nat) [(.t 1, _), (.t 2, _)] (fun (z : Nat × List Int × Nat) => match z with | (i, l, g) => [(.t 14, iV i), (.h 8, .obj g 0 1 (l.map iV)), (.t 8, .sl 8 g none 0 l.length)]) (fun (z : Nat × List Int × Nat) => match z with | (i, l, g) => i ≤ x.length ∧ l = (List.range i).map (fun i => J3 x i + J3 y i)) (fun (z : Nat × List Int × Nat) => match z with | (i, l, g) => x.length - i) (0, [], _) ⟨rfl, rfl, rfl, rfl, rfl, trivial⟩ ⟨Nat.zero_le _, rfl⟩ ?_
   intro z hb
   obtain ⟨i, l, g⟩ := z
   try dsimp only at hb
   obtain ⟨hi1, hl⟩ := hb
   have hll : l.length = i := by rw [hl]; simp
   have hgi : -100000 ≤ x.getD i default ∧ x.getD i default ≤ 100000 := hgx i
   have hgyi : -100000 ≤ y.getD i default ∧ y.getD i default ≤ 100000 := hgy i
   refine A4 <| A4 <| A0 <| A3 rfl rfl <| A3 rfl rfl <| D9 rfl rfl <| G7 rfl rfl <| xN [1,2,8,14,130] [8] rfl ?_
   refine A7 rfl ?_ ?_ <;> intro hc <;> try simp only [SL] at hc
   ·refine B7 <| A4 <| C9 <| A0 <| A3 rfl rfl <| A3 rfl rfl <| A3 rfl rfl <| D5 rfl rfl rfl (fun _ => rfl) (by omega) <| D6 rfl rfl rfl <| A3 rfl rfl <| A3 rfl rfl <| D5 rfl rfl rfl (fun _ => rfl) (by omega) <| D6 rfl rfl rfl <| D7 rfl rfl (C5 (by omega)) <| C8 (es := List.map iV [_]) rfl rfl (dT rfl) rfl rfl (fun _ => B3 (A6 fun _ => rfl)) (fun _ => rfl) ?_
    intro g143
    refine E4 rfl rfl rfl rfl (by (simp; done)) (by simp) (by decide) rfl rfl rfl rfl (dT rfl) (fun _ => ⟨rfl, rfl⟩) (by simp only [H6]; (simp only [List.length_nil, List.length_cons, List.length_append, Nat.zero_add, List.length_map]; omega)) (fun _ => rfl) ?_
    intro g144
    (refine B6 rfl rfl (by (simp; done)) rfl (fun _ => (B3 (by exact A6 fun _ => rfl))) (fun _ => rfl) ?_; intro g8)
    refine I7 ⟨fun _ => ⟨by decide +kernel, by decide +kernel⟩, [(.t 1, _), (.t 2, _), (.t 8, _), (.t 14, _), (.h 8, _)], ⟨rfl, rfl, rfl, rfl, rfl, rfl, rfl, rfl, rfl, rfl, trivial⟩, ?_⟩
    refine A0 <| A3 rfl rfl <| D7 rfl rfl (C5 (by omega)) <| A5 rfl rfl rfl <| xN [1,2,8,14] [8] rfl ?_
    refine ⟨(i + 1, l ++ [x.getD i default + y.getD i default], _), ?_, (by simp only; omega), ⟨rfl, rfl, rfl, rfl, rfl, trivial⟩⟩
    exact ⟨by omega, by rw [hl, V4]; rfl⟩
   refine G4 ?_
   refine ⟨(_, _, _), ?_, ⟨rfl, rfl, trivial⟩⟩
   exact ⟨adF (by assumption) (by omega) (by rw [hl, show i = x.length by omega]; rfl) rfl, by omega, by omega⟩
  try simp at hc
  refine A4 <| A0 <| K0 rfl rfl <| A5 rfl rfl rfl <| xN [1,2,8,145] [8] rfl ?_
  refine A7 rfl ?_ ?_ <;> intro hc <;> try simp only [SL] at hc
  ·try simp at hc
   refine A0 <| A3 rfl rfl <| A3 rfl rfl <| L7 rfl rfl rfl (by (simp; done)) rfl rfl rfl (dT rfl) (fun _ => ⟨rfl, rfl, rfl⟩) (by simp only [H6]; (simp only [List.length_nil, List.length_cons, List.length_append, Nat.zero_add, List.length_map]; omega)) (fun _ => rfl) ?_
   intro g149
   refine A3 rfl rfl <| L7 rfl rfl rfl (by (simp; done)) rfl rfl rfl (dT rfl) (fun _ => ⟨rfl, rfl, rfl⟩) (by simp only [H6]; (simp only [List.length_nil, List.length_cons, List.length_append, Nat.zero_add, List.length_map]; omega)) (fun _ => rfl) ?_
   intro g151
   (refine B6 rfl rfl (by (simp; done)) rfl (fun _ => (B3 (by exact A6 fun _ => rfl))) (fun _ => rfl) ?_; intro g8)
   refine xN [8] [8] rfl ?_
   refine ⟨(_, _, _), ?_, ⟨rfl, rfl, trivial⟩⟩
   exact ⟨(by (simp [U9, *]; done)), (by (simp; done)), (by (simp; omega))⟩
  try simp at hc
  refine B7 ?_
  refine ⟨(_, _, _), ?_, ⟨rfl, rfl, trivial⟩⟩
  exact absurd (c7t h1) (by simp [*])
 intro z hb
 obtain ⟨r, n, g⟩ := z
 try dsimp only at hb
 obtain ⟨hraw, hn, hr80⟩ := hb
 subst hn
 refine A4 <| A0 <| A3 rfl rfl <| A3 rfl rfl ?_
 apply xC rfl
 ·apply A9
  ·exact H3 rfl rfl rfl (by (simp; done)) (fun _ => rfl)
  exact C6
 ·exact b9b r (by omega)
 refine ⟨⟨rfl, rfl, rfl, dT rfl, rfl⟩, .inr ⟨rfl, rfl⟩, B9, C1 rfl, fun _ => rfl, fun g154 => ?_⟩
 (refine B6 rfl rfl (by (simp; done)) rfl (fun _ => (B3 (by exact A6 fun _ => rfl))) (fun _ => rfl) ?_; intro g6)
 refine A5 rfl rfl rfl <| xN [6,7] [6] rfl <| C2 <| F7 (H4 rfl rfl (by simp) (by exact A6 fun _ => rfl) (H2 rfl rfl (G9 E5))) ?_
 rw [raR, mkR, hraw, Option.bind_some, Option.getD_some]
 cases hvr : vl r <;> rfl

theorem keep_s_stepsValid : G8 Try.f29 = [0, 2, 10, 9, 11, 8, 4, 5, 36, 43, 42, 44, 41, 7, 6, 3, 66] := by kernel_rfl
set_option maxHeartbeats 20000000 in
theorem b6o (ss : List Stp) (hz : ss.length ≤ 1048576 ∧ szT ss ≤ 1048576) : CW cxT 29 [.list (ss.map stA)] = some (bV (a4c ss), []) := by
 refine H0 rfl Try.func29 rfl ⟨by kernel_rfl, rfl, dT rfl, dT rfl, by decide⟩ keep_s_stepsValid <| A4 <| A0 <| A5 rfl rfl rfl <| xN [0] [] rfl <| A4 <| A4 <| A0 <| A3 rfl rfl <| D9 rfl rfl <| A3 rfl rfl <| xN [0,8,9,10] [] rfl <| C9 <| G3 (β := Nat) [(.t 0, _), (.t 8, _), (.t 9, _)] (fun (i : Nat) => [(.t 10, iV i)]) (fun (i : Nat) => i ≤ ss.length ∧ ∀ j, j < i → sok j (ss.getD j default) = true) (fun (i : Nat) => ss.length - i) 0 ⟨rfl, rfl, rfl, rfl, trivial⟩ ⟨Nat.zero_le _, fun j h => by omega⟩ ?_
 intro i hb
 obtain ⟨hi1, hi2⟩ := hb
 have hnb := b5y (ss.getD i default).op
 have hsz := fun h : i < ss.length => c7o ss h
 unfold szP at hsz
 refine A4 <| A0 <| G7 rfl rfl <| xN [0,8,9,10,11] [] rfl <| A4 ?_
 refine A7 rfl ?_ ?_ <;> intro hc <;> try simp only [SL] at hc
 ·refine B7 <| A4 <| C9 <| A4 <| A0 <| A3 rfl rfl <| D5 rfl rfl rfl (fun _ => rfl) (by omega) <| D6 rfl rfl rfl <| M8 rfl (fun _ => F4 rfl) (fun _ => rfl) ?_
  intro g4
  refine A5 rfl rfl rfl <| G5 rfl rfl rfl rfl ⟨by decide, rfl, dT rfl, dT rfl, rfl⟩ rfl (by exact F4 rfl) <| xN [0,3,4,8,9,10] [4] rfl <| A4 <| A0 <| B0 rfl rfl (dT rfl) rfl rfl <| B4 rfl rfl rfl rfl rfl rfl ?_
  apply xC rfl
  ·apply A9
   ·exact B2 rfl
   exact C6
  ·exact c3v (ss.getD i default).op
  refine ⟨⟨rfl, rfl, rfl, dT rfl, rfl⟩, .inl rfl, B9, C1 rfl, fun _ => rfl, fun g17 => ?_⟩
  refine A5 rfl rfl rfl <| xN [0,3,4,5,8,9,10] [4] rfl <| A4 <| A4 <| A0 <| A3 rfl rfl <| G7 rfl rfl <| A3 rfl rfl ?_
  refine B1 rfl rfl ?_ ?_ <;> intro hg0 <;> have hg := hg0 <;> try simp only [SG] at hg
  ·refine B0 rfl rfl (dT rfl) rfl rfl <| gT rfl rfl <| B4 rfl rfl rfl rfl rfl rfl <| gT rfl rfl <| b0e rfl rfl <| gT rfl rfl <| A3 rfl rfl ?_
   refine B1 rfl rfl ?_ ?_ <;> intro hg0 <;> have hg := hg0 <;> try simp only [SG] at hg
   ·refine B0 rfl rfl (dT rfl) rfl rfl <| gT rfl rfl <| B4 rfl rfl rfl rfl rfl rfl <| gT rfl rfl <| D9 rfl rfl <| gT rfl rfl <| N0 rfl rfl <| gT rfl rfl <| B8 rfl (by assumption) rfl rfl <| B5 rfl (by assumption) rfl rfl <| A3 rfl rfl ?_
    refine B1 rfl rfl ?_ ?_ <;> intro hg0 <;> have hg := hg0 <;> try simp only [SG] at hg
    ·refine B0 rfl rfl (dT rfl) rfl rfl <| gT rfl rfl <| B4 rfl rfl rfl rfl rfl rfl <| gT rfl rfl ?_
     apply xC rfl
     ·apply A9
      ·exact B2 rfl
      exact C6
     ·exact a3o (ss.getD i default).ns (by have := hsz (by omega); omega)
     refine ⟨⟨rfl, rfl, rfl, dT rfl, rfl⟩, .inl rfl, B9, C1 rfl, fun _ => rfl, fun g34 => ?_⟩
     refine gT rfl rfl <| H7 rfl <| B5 rfl (by assumption) rfl rfl <| xN [0,3,4,5,8,9,10,36] [4] rfl ?_
     refine A7 rfl ?_ ?_ <;> intro hc <;> try simp only [SL] at hc
     ·refine A4 <| A0 <| A5 rfl rfl rfl <| xN [2] [] rfl <| C2 <| C4 rfl rfl trivial ?_
      exact congrArg bV (E3 (i := i) (by omega) (a1w (by exact .inr (.inr (by assumption))))).symm
     refine B7 <| A4 <| A0 <| B0 rfl rfl (dT rfl) rfl rfl <| B4 rfl rfl rfl rfl rfl rfl <| B0 rfl rfl (dT rfl) rfl rfl <| B4 rfl rfl rfl rfl rfl rfl <| C8 (es := List.map iV [(ss.getD i default).a, (ss.getD i default).b]) rfl rfl (dT rfl) rfl rfl (fun _ => B3 (A6 fun _ => rfl)) (fun _ => rfl) ?_
     intro g41
     refine I4 rfl rfl <| A3 rfl rfl <| xN [0,3,5,8,9,10,41,42,43] [1000041] rfl <| C9 <| G3 (β := Nat) [(.t 0, _), (.t 3, _), (.t 5, _), (.t 8, _), (.t 9, _), (.t 10, _), (.t 41, _), (.t 42, _), (.h 1000041, _)] (fun (k : Nat) => [(.t 43, iV k)]) (fun (k : Nat) => k ≤ 2 ∧ ∀ j : Nat, j < k → S2 (nd (ss.getD i default).op) j i ([(ss.getD i default).a, (ss.getD i default).b].getD j default) = true) (fun (k : Nat) => 2 - k) 0 ⟨rfl, rfl, rfl, rfl, rfl, rfl, rfl, rfl, rfl, rfl, trivial⟩ ⟨Nat.zero_le _, fun j h => by omega⟩ ?_
     intro k hb
     obtain ⟨hk1, hk2⟩ := hb
     refine A4 <| A0 <| G7 rfl rfl <| xN [0,3,5,8,9,10,41,42,43,44] [1000041] rfl <| A4 ?_
     refine A7 rfl ?_ ?_ <;> intro hc <;> try simp only [SL] at hc
     ·refine B7 <| A4 <| C9 <| A4 <| A0 <| A3 rfl rfl <| D8 rfl rfl rfl rfl (by omega) (by (simp; done)) rfl <| J0 (f := iV) (xs := [(ss.getD i default).a, (ss.getD i default).b]) rfl rfl (by (simp; omega)) (fun _ => rfl) (fun _ => rfl) rfl <| A5 rfl rfl rfl <| A5 rfl rfl rfl <| xN [0,3,5,6,7,8,9,10,41,42,43] [1000041] rfl <| A4 <| A0 <| A3 rfl rfl <| A3 rfl rfl <| G7 rfl rfl <| A3 rfl rfl ?_
      refine B1 rfl rfl ?_ ?_ <;> intro hg0 <;> have hg := hg0 <;> try simp only [SG] at hg
      ·refine A3 rfl rfl <| gT rfl rfl <| A3 rfl rfl <| gT rfl rfl <| I1 rfl rfl (C5 (by omega)) <| gT rfl rfl ?_
       apply xC rfl
       ·apply A9
        ·exact B2 rfl
        apply A9
        ·exact B2 rfl
        apply A9
        ·exact B2 rfl
        exact C6
       ·exact c9v _ _ _
       refine ⟨⟨rfl, rfl, rfl, dT rfl, rfl⟩, .inl rfl, B9, C1 rfl, fun _ => rfl, fun g55 => ?_⟩
       refine gT rfl rfl <| H7 rfl <| B8 rfl (by assumption) rfl rfl <| A3 rfl rfl ?_
       refine B1 rfl rfl ?_ ?_ <;> intro hg0 <;> have hg := hg0 <;> try simp only [SG] at hg
       ·refine A3 rfl rfl <| gT rfl rfl <| A3 rfl rfl <| gT rfl rfl <| a5i rfl rfl <| gT rfl rfl <| A3 rfl rfl ?_
        refine B1 rfl rfl ?_ ?_ <;> intro hg0 <;> have hg := hg0 <;> try simp only [SG] at hg
        ·refine A3 rfl rfl <| gT rfl rfl <| N5 rfl rfl <| gT rfl rfl <| B8 rfl (by assumption) rfl rfl <| B5 rfl (by assumption) rfl rfl <| xN [0,3,5,8,9,10,41,42,43,66] [1000041] rfl ?_
         refine A7 rfl ?_ ?_ <;> intro hc <;> try simp only [SL] at hc
         ·refine A4 <| A0 <| A5 rfl rfl rfl <| xN [2] [] rfl <| C2 <| C4 rfl rfl trivial ?_
          exact congrArg bV (E3 (i := i) (by omega) (Z5 (k := k) (by omega) (by exact a2k (by assumption) (by assumption)))).symm
         refine B7 <| A0 <| D7 rfl rfl (C5 (by omega)) <| A3 rfl rfl <| xN [0,3,5,8,9,10,41,42,43] [1000041] rfl ?_
         refine ⟨k + 1, ⟨by omega, fun j hj => by rcases Nat.lt_succ_iff_lt_or_eq.1 hj with h | h; (· exact hk2 j h); (· subst h; exact a2l (by assumption) (by assumption))⟩, (by omega), ⟨rfl, rfl, rfl, rfl, rfl, rfl, rfl, rfl, rfl, rfl, trivial⟩⟩
        refine gF rfl rfl <| gT rfl rfl <| B5 rfl (by assumption) rfl rfl <| B5 rfl (by assumption) rfl rfl <| xN [0,3,5,8,9,10,41,42,43,66] [1000041] rfl ?_
        refine A7 rfl (fun hc => absurd hc (by decide)) (fun hc => ?_)
        refine B7 <| A0 <| D7 rfl rfl (C5 (by omega)) <| A3 rfl rfl <| xN [0,3,5,8,9,10,41,42,43] [1000041] rfl ?_
        refine ⟨k + 1, ⟨by omega, fun j hj => by rcases Nat.lt_succ_iff_lt_or_eq.1 hj with h | h; (· exact hk2 j h); (· subst h; exact a2a (by omega) (by omega))⟩, (by omega), ⟨rfl, rfl, rfl, rfl, rfl, rfl, rfl, rfl, rfl, rfl, trivial⟩⟩
       refine gF rfl rfl <| gF rfl rfl <| gF rfl rfl <| D4 rfl rfl <| D4 rfl rfl <| gF rfl rfl <| B8 rfl (by assumption) rfl rfl <| xN [0,3,5,8,9,10,41,42,43,66] [1000041] rfl ?_
       refine A7 rfl (fun hc => ?_) (fun hc => absurd hc (by decide))
       refine A4 <| A0 <| A5 rfl rfl rfl <| xN [2] [] rfl <| C2 <| C4 rfl rfl trivial ?_
       exact congrArg bV (E3 (i := i) (by omega) (Z5 (k := k) (by omega) (by exact a5p (by omega) (by omega)))).symm
      refine gF rfl rfl <| gF rfl rfl <| gF rfl rfl <| gF rfl rfl <| B5 rfl (by assumption) rfl rfl <| A3 rfl rfl <| C0 rfl rfl rfl <| A3 rfl rfl <| C0 rfl rfl rfl <| A3 rfl rfl <| C0 rfl rfl rfl <| a5i rfl rfl <| C0 rfl rfl rfl <| A3 rfl rfl ?_
      refine B1 rfl rfl ?_ ?_ <;> intro hg0 <;> have hg := hg0 <;> try simp only [SG] at hg
      ·refine A3 rfl rfl <| gT rfl rfl <| N5 rfl rfl <| C0 rfl rfl rfl <| B8 rfl (by assumption) rfl rfl <| B5 rfl rfl rfl rfl <| xN [0,3,5,8,9,10,41,42,43,66] [1000041] rfl ?_
       refine A7 rfl ?_ ?_ <;> intro hc <;> try simp only [SL] at hc
       ·refine A4 <| A0 <| A5 rfl rfl rfl <| xN [2] [] rfl <| C2 <| C4 rfl rfl trivial ?_
        exact congrArg bV (E3 (i := i) (by omega) (Z5 (k := k) (by omega) (by exact a2k (by assumption) (by assumption)))).symm
       refine B7 <| A0 <| D7 rfl rfl (C5 (by omega)) <| A3 rfl rfl <| xN [0,3,5,8,9,10,41,42,43] [1000041] rfl ?_
       refine ⟨k + 1, ⟨by omega, fun j hj => by rcases Nat.lt_succ_iff_lt_or_eq.1 hj with h | h; (· exact hk2 j h); (· subst h; exact a2l (by assumption) (by assumption))⟩, (by omega), ⟨rfl, rfl, rfl, rfl, rfl, rfl, rfl, rfl, rfl, rfl, trivial⟩⟩
      refine gF rfl rfl <| C0 rfl rfl rfl <| B5 rfl (by assumption) rfl rfl <| B5 rfl rfl rfl rfl <| xN [0,3,5,8,9,10,41,42,43,66] [1000041] rfl ?_
      refine A7 rfl (fun hc => absurd hc (by decide)) (fun hc => ?_)
      refine B7 <| A0 <| D7 rfl rfl (C5 (by omega)) <| A3 rfl rfl <| xN [0,3,5,8,9,10,41,42,43] [1000041] rfl ?_
      refine ⟨k + 1, ⟨by omega, fun j hj => by rcases Nat.lt_succ_iff_lt_or_eq.1 hj with h | h; (· exact hk2 j h); (· subst h; exact a2a (by omega) (by omega))⟩, (by omega), ⟨rfl, rfl, rfl, rfl, rfl, rfl, rfl, rfl, rfl, rfl, trivial⟩⟩
     refine G4 <| A0 <| D7 rfl rfl (C5 (by omega)) <| A3 rfl rfl <| xN [0,8,9,10] [] rfl ?_
     refine ⟨i + 1, ⟨by omega, fun j hj => by rcases Nat.lt_succ_iff_lt_or_eq.1 hj with h | h; (· exact hi2 j h); (· subst h; exact c1q (by assumption) (by assumption) (by exact .inr (by omega)) (fun j hj => hk2 j (by omega)))⟩, (by omega), ⟨rfl, rfl, rfl, rfl, trivial⟩⟩
    refine gF rfl rfl <| gF rfl rfl <| gF rfl rfl <| B8 rfl (by assumption) rfl rfl <| xN [0,3,4,5,8,9,10,36] [4] rfl ?_
    refine A7 rfl (fun hc => ?_) (fun hc => absurd hc (by decide))
    refine A4 <| A0 <| A5 rfl rfl rfl <| xN [2] [] rfl <| C2 <| C4 rfl rfl trivial ?_
    exact congrArg bV (E3 (i := i) (by omega) (a1w (by exact .inr (.inl ⟨by assumption, by omega⟩)))).symm
   refine gF rfl rfl <| gF rfl rfl <| gF rfl rfl <| gT rfl rfl <| B5 rfl (by assumption) rfl rfl <| B5 rfl (by assumption) rfl rfl <| A3 rfl rfl <| C0 rfl rfl rfl <| B0 rfl rfl (dT rfl) rfl rfl <| C0 rfl rfl rfl <| B4 rfl rfl rfl rfl rfl rfl <| C0 rfl rfl rfl ?_
   apply xC rfl
   ·apply A9
    ·exact B2 rfl
    exact C6
   ·exact a3o (ss.getD i default).ns (by have := hsz (by omega); omega)
   refine ⟨⟨rfl, rfl, rfl, dT rfl, rfl⟩, .inl rfl, B9, C1 rfl, fun _ => rfl, fun g34 => ?_⟩
   refine C0 rfl rfl rfl <| H7 rfl <| B5 rfl rfl rfl rfl <| xN [0,3,4,5,8,9,10,36] [4] rfl ?_
   refine A7 rfl ?_ ?_ <;> intro hc <;> try simp only [SL] at hc
   ·refine A4 <| A0 <| A5 rfl rfl rfl <| xN [2] [] rfl <| C2 <| C4 rfl rfl trivial ?_
    exact congrArg bV (E3 (i := i) (by omega) (a1w (by exact .inr (.inr (by assumption))))).symm
   refine B7 <| A4 <| A0 <| B0 rfl rfl (dT rfl) rfl rfl <| B4 rfl rfl rfl rfl rfl rfl <| B0 rfl rfl (dT rfl) rfl rfl <| B4 rfl rfl rfl rfl rfl rfl <| C8 (es := List.map iV [(ss.getD i default).a, (ss.getD i default).b]) rfl rfl (dT rfl) rfl rfl (fun _ => B3 (A6 fun _ => rfl)) (fun _ => rfl) ?_
   intro g41
   refine I4 rfl rfl <| A3 rfl rfl <| xN [0,3,5,8,9,10,41,42,43] [1000041] rfl <| C9 <| G3 (β := Nat) [(.t 0, _), (.t 3, _), (.t 5, _), (.t 8, _), (.t 9, _), (.t 10, _), (.t 41, _), (.t 42, _), (.h 1000041, _)] (fun (k : Nat) => [(.t 43, iV k)]) (fun (k : Nat) => k ≤ 2 ∧ ∀ j : Nat, j < k → S2 (nd (ss.getD i default).op) j i ([(ss.getD i default).a, (ss.getD i default).b].getD j default) = true) (fun (k : Nat) => 2 - k) 0 ⟨rfl, rfl, rfl, rfl, rfl, rfl, rfl, rfl, rfl, rfl, trivial⟩ ⟨Nat.zero_le _, fun j h => by omega⟩ ?_
   intro k hb
   obtain ⟨hk1, hk2⟩ := hb
   refine A4 <| A0 <| G7 rfl rfl <| xN [0,3,5,8,9,10,41,42,43,44] [1000041] rfl <| A4 ?_
   refine A7 rfl ?_ ?_ <;> intro hc <;> try simp only [SL] at hc
   ·refine B7 <| A4 <| C9 <| A4 <| A0 <| A3 rfl rfl <| D8 rfl rfl rfl rfl (by omega) (by (simp; done)) rfl <| J0 (f := iV) (xs := [(ss.getD i default).a, (ss.getD i default).b]) rfl rfl (by (simp; omega)) (fun _ => rfl) (fun _ => rfl) rfl <| A5 rfl rfl rfl <| A5 rfl rfl rfl <| xN [0,3,5,6,7,8,9,10,41,42,43] [1000041] rfl <| A4 <| A0 <| A3 rfl rfl <| A3 rfl rfl <| G7 rfl rfl <| A3 rfl rfl ?_
    refine B1 rfl rfl ?_ ?_ <;> intro hg0 <;> have hg := hg0 <;> try simp only [SG] at hg
    ·refine A3 rfl rfl <| gT rfl rfl <| A3 rfl rfl <| gT rfl rfl <| I1 rfl rfl (C5 (by omega)) <| gT rfl rfl ?_
     apply xC rfl
     ·apply A9
      ·exact B2 rfl
      apply A9
      ·exact B2 rfl
      apply A9
      ·exact B2 rfl
      exact C6
     ·exact c9v _ _ _
     refine ⟨⟨rfl, rfl, rfl, dT rfl, rfl⟩, .inl rfl, B9, C1 rfl, fun _ => rfl, fun g55 => ?_⟩
     refine gT rfl rfl <| H7 rfl <| B8 rfl (by assumption) rfl rfl <| A3 rfl rfl ?_
     refine B1 rfl rfl ?_ ?_ <;> intro hg0 <;> have hg := hg0 <;> try simp only [SG] at hg
     ·refine A3 rfl rfl <| gT rfl rfl <| A3 rfl rfl <| gT rfl rfl <| a5i rfl rfl <| gT rfl rfl <| A3 rfl rfl ?_
      refine B1 rfl rfl ?_ ?_ <;> intro hg0 <;> have hg := hg0 <;> try simp only [SG] at hg
      ·refine A3 rfl rfl <| gT rfl rfl <| N5 rfl rfl <| gT rfl rfl <| B8 rfl (by assumption) rfl rfl <| B5 rfl (by assumption) rfl rfl <| xN [0,3,5,8,9,10,41,42,43,66] [1000041] rfl ?_
       refine A7 rfl ?_ ?_ <;> intro hc <;> try simp only [SL] at hc
       ·refine A4 <| A0 <| A5 rfl rfl rfl <| xN [2] [] rfl <| C2 <| C4 rfl rfl trivial ?_
        exact congrArg bV (E3 (i := i) (by omega) (Z5 (k := k) (by omega) (by exact a2k (by assumption) (by assumption)))).symm
       refine B7 <| A0 <| D7 rfl rfl (C5 (by omega)) <| A3 rfl rfl <| xN [0,3,5,8,9,10,41,42,43] [1000041] rfl ?_
       refine ⟨k + 1, ⟨by omega, fun j hj => by rcases Nat.lt_succ_iff_lt_or_eq.1 hj with h | h; (· exact hk2 j h); (· subst h; exact a2l (by assumption) (by assumption))⟩, (by omega), ⟨rfl, rfl, rfl, rfl, rfl, rfl, rfl, rfl, rfl, rfl, trivial⟩⟩
      refine gF rfl rfl <| gT rfl rfl <| B5 rfl (by assumption) rfl rfl <| B5 rfl (by assumption) rfl rfl <| xN [0,3,5,8,9,10,41,42,43,66] [1000041] rfl ?_
      refine A7 rfl (fun hc => absurd hc (by decide)) (fun hc => ?_)
      refine B7 <| A0 <| D7 rfl rfl (C5 (by omega)) <| A3 rfl rfl <| xN [0,3,5,8,9,10,41,42,43] [1000041] rfl ?_
      refine ⟨k + 1, ⟨by omega, fun j hj => by rcases Nat.lt_succ_iff_lt_or_eq.1 hj with h | h; (· exact hk2 j h); (· subst h; exact a2a (by omega) (by omega))⟩, (by omega), ⟨rfl, rfl, rfl, rfl, rfl, rfl, rfl, rfl, rfl, rfl, trivial⟩⟩
     refine gF rfl rfl <| gF rfl rfl <| gF rfl rfl <| D4 rfl rfl <| D4 rfl rfl <| gF rfl rfl <| B8 rfl (by assumption) rfl rfl <| xN [0,3,5,8,9,10,41,42,43,66] [1000041] rfl ?_
     refine A7 rfl (fun hc => ?_) (fun hc => absurd hc (by decide))
     refine A4 <| A0 <| A5 rfl rfl rfl <| xN [2] [] rfl <| C2 <| C4 rfl rfl trivial ?_
     exact congrArg bV (E3 (i := i) (by omega) (Z5 (k := k) (by omega) (by exact a5p (by omega) (by omega)))).symm
    iterate 4 refine gF rfl rfl ?_
    refine B5 rfl (by assumption) rfl rfl <| A3 rfl rfl <| C0 rfl rfl rfl <| A3 rfl rfl <| C0 rfl rfl rfl <| A3 rfl rfl <| C0 rfl rfl rfl <| a5i rfl rfl <| C0 rfl rfl rfl <| A3 rfl rfl ?_
    refine B1 rfl rfl ?_ ?_ <;> intro hg0 <;> have hg := hg0 <;> try simp only [SG] at hg
    ·refine A3 rfl rfl <| gT rfl rfl <| N5 rfl rfl <| C0 rfl rfl rfl <| B8 rfl (by assumption) rfl rfl <| B5 rfl rfl rfl rfl <| xN [0,3,5,8,9,10,41,42,43,66] [1000041] rfl ?_
     refine A7 rfl ?_ ?_ <;> intro hc <;> try simp only [SL] at hc
     ·refine A4 <| A0 <| A5 rfl rfl rfl <| xN [2] [] rfl <| C2 <| C4 rfl rfl trivial ?_
      exact congrArg bV (E3 (i := i) (by omega) (Z5 (k := k) (by omega) (by exact a2k (by assumption) (by assumption)))).symm
     refine B7 <| A0 <| D7 rfl rfl (C5 (by omega)) <| A3 rfl rfl <| xN [0,3,5,8,9,10,41,42,43] [1000041] rfl ?_
     refine ⟨k + 1, ⟨by omega, fun j hj => by rcases Nat.lt_succ_iff_lt_or_eq.1 hj with h | h; (· exact hk2 j h); (· subst h; exact a2l (by assumption) (by assumption))⟩, (by omega), ⟨rfl, rfl, rfl, rfl, rfl, rfl, rfl, rfl, rfl, rfl, trivial⟩⟩
    refine gF rfl rfl <| C0 rfl rfl rfl <| B5 rfl (by assumption) rfl rfl <| B5 rfl rfl rfl rfl <| xN [0,3,5,8,9,10,41,42,43,66] [1000041] rfl ?_
    refine A7 rfl (fun hc => absurd hc (by decide)) (fun hc => ?_)
    refine B7 <| A0 <| D7 rfl rfl (C5 (by omega)) <| A3 rfl rfl <| xN [0,3,5,8,9,10,41,42,43] [1000041] rfl ?_
    refine ⟨k + 1, ⟨by omega, fun j hj => by rcases Nat.lt_succ_iff_lt_or_eq.1 hj with h | h; (· exact hk2 j h); (· subst h; exact a2a (by omega) (by omega))⟩, (by omega), ⟨rfl, rfl, rfl, rfl, rfl, rfl, rfl, rfl, rfl, rfl, trivial⟩⟩
   refine G4 <| A0 <| D7 rfl rfl (C5 (by omega)) <| A3 rfl rfl <| xN [0,8,9,10] [] rfl ?_
   refine ⟨i + 1, ⟨by omega, fun j hj => by rcases Nat.lt_succ_iff_lt_or_eq.1 hj with h | h; (· exact hi2 j h); (· subst h; exact c1q (by assumption) (by assumption) (by exact .inl (by assumption)) (fun j hj => hk2 j (by omega)))⟩, (by omega), ⟨rfl, rfl, rfl, rfl, trivial⟩⟩
  refine gF rfl rfl <| gF rfl rfl <| gF rfl rfl ?_
  iterate 4 refine D4 rfl rfl ?_
  refine gF rfl rfl <| B8 rfl (by assumption) rfl rfl <| A3 rfl rfl ?_
  iterate 4 refine C3 rfl rfl rfl ?_
  refine B8 rfl rfl rfl rfl <| xN [0,3,4,5,8,9,10,36] [4] rfl ?_
  refine A7 rfl (fun hc => ?_) (fun hc => absurd hc (by decide))
  refine A4 <| A0 <| A5 rfl rfl rfl <| xN [2] [] rfl <| C2 <| C4 rfl rfl trivial ?_
  exact congrArg bV (E3 (i := i) (by omega) (a1w (by exact .inl (by omega)))).symm
 refine G4 <| A4 <| A0 <| A3 rfl rfl <| D9 rfl rfl ?_
 apply xC rfl
 ·apply A9
  ·exact B2 rfl
  apply A9
  ·exact B2 rfl
  apply A9
  ·exact B2 rfl
  exact C6
 ·exact c9v _ _ _
 refine ⟨⟨rfl, rfl, rfl, dT rfl, rfl⟩, .inl rfl, B9, C1 rfl, fun _ => rfl, fun g71 => ?_⟩
 refine A5 rfl rfl rfl <| xN [2] [] rfl <| C2 <| C4 rfl rfl trivial ?_
 rw [b5b fun j hj => hi2 j (by omega)]
 exact congrArg bV (by (simp [Bool.decide_and]; done))

theorem keep_s_validShare : G8 Try.f22 = [0, 2, 3, 9, 4, 21, 5, 40, 80] := by kernel_rfl
set_option maxHeartbeats 20000000 in
theorem b6h (ss : List Stp) (hz : ss.length ≤ 1048576 ∧ szT ss ≤ 1048576) : CW cxT 22 [.list (ss.map stA)] = some (bV (a4c ss), []) := by
 refine H0 rfl Try.func22 rfl ⟨by kernel_rfl, rfl, dT rfl, dT rfl, by decide⟩ keep_s_validShare <| A4 <| A0 <| A5 rfl rfl rfl <| xN [0] [] rfl <| A4 <| A4 <| A0 <| A5 rfl rfl rfl <| xN [0,3] [] rfl <| C9 <| G3 (β := Nat) [(.t 0, _)] (fun (i : Nat) => [(.t 3, iV i)]) (fun (i : Nat) => i ≤ ss.length ∧ ∀ j, j < i → sok j (ss.getD j default) = true) (fun (i : Nat) => ss.length - i) 0 ⟨rfl, rfl, trivial⟩ ⟨Nat.zero_le _, fun j h => by omega⟩ ?_
 intro i hb
 obtain ⟨hi1, hi2⟩ := hb
 have hnb := b5y (ss.getD i default).op
 have hsz := fun h : i < ss.length => c7o ss h
 unfold szP at hsz
 have hrb := c9e (ss.getD i default).op
 refine A4 <| A4 <| A0 <| A3 rfl rfl <| A3 rfl rfl <| D9 rfl rfl <| G7 rfl rfl <| xN [0,3,9] [] rfl ?_
 refine A7 rfl ?_ ?_ <;> intro hc <;> try simp only [SL] at hc
 ·refine B7 <| A4 <| C9 <| A4 <| A0 <| A3 rfl rfl <| A3 rfl rfl <| D5 rfl rfl rfl (fun _ => rfl) (by omega) <| D6 rfl rfl rfl <| M8 rfl (fun _ => F4 rfl) (fun _ => rfl) ?_
  intro g4
  refine G5 rfl rfl rfl rfl ⟨by decide, rfl, dT rfl, dT rfl, rfl⟩ rfl (by exact F4 rfl) <| xN [0,3,4] [4] rfl <| A4 <| A0 <| B0 rfl rfl (dT rfl) rfl rfl <| B4 rfl rfl rfl rfl rfl rfl ?_
  apply xC rfl
  ·apply A9
   ·exact B2 rfl
   exact C6
  ·exact a0u (ss.getD i default).op
  refine ⟨⟨rfl, rfl, rfl, dT rfl, rfl⟩, .inl rfl, B9, C1 rfl, fun _ => rfl, fun g18 => ?_⟩
  refine A5 rfl rfl rfl <| xN [0,3,4,5] [4] rfl <| A4 <| A4 <| A0 <| B0 rfl rfl (dT rfl) rfl rfl <| B4 rfl rfl rfl rfl rfl rfl <| K0 rfl rfl <| xN [0,3,4,5,21] [4] rfl ?_
  refine A7 rfl ?_ ?_ <;> intro hc <;> try simp only [SL] at hc
  ·have hnd : nd (ss.getD i default).op = 0 := c4d hc
   refine A0 <| A5 rfl rfl rfl <| xN [0,3,4,5] [4] rfl <| A4 <| A4 <| A0 <| A3 rfl rfl <| G7 rfl rfl <| A3 rfl rfl ?_
   refine B1 rfl rfl ?_ ?_ <;> intro hg0 <;> have hg := hg0 <;> try simp only [SG] at hg
   ·refine B0 rfl rfl (dT rfl) rfl rfl <| gT rfl rfl <| B4 rfl rfl rfl rfl rfl rfl <| gT rfl rfl ?_
    apply xC rfl
    ·apply A9
     ·exact B2 rfl
     exact C6
    ·exact a1g (ss.getD i default).ns (by have := hsz (by omega); omega)
    refine ⟨⟨rfl, rfl, rfl, dT rfl, rfl⟩, .inl rfl, B9, C1 rfl, fun _ => rfl, fun g27 => ?_⟩
    refine gT rfl rfl <| H7 rfl <| B5 rfl rfl rfl rfl <| A3 rfl rfl ?_
    refine B1 rfl rfl ?_ ?_ <;> intro hg0 <;> have hg := hg0 <;> try simp only [SG] at hg
    ·refine B0 rfl rfl (dT rfl) rfl rfl <| gT rfl rfl <| B4 rfl rfl rfl rfl rfl rfl <| gT rfl rfl <| b0e rfl rfl <| gT rfl rfl <| A3 rfl rfl ?_
     refine B1 rfl rfl ?_ ?_ <;> intro hg0 <;> have hg := hg0 <;> try simp only [SG] at hg
     ·refine B0 rfl rfl (dT rfl) rfl rfl <| gT rfl rfl <| B4 rfl rfl rfl rfl rfl rfl <| gT rfl rfl <| D9 rfl rfl <| gT rfl rfl <| N0 rfl rfl <| gT rfl rfl <| B8 rfl (by assumption) rfl rfl <| B5 rfl (by assumption) rfl rfl <| xN [0,3,4,5,40] [4] rfl ?_
      refine A7 rfl ?_ ?_ <;> intro hc <;> try simp only [SL] at hc
      ·refine A4 <| A0 <| A5 rfl rfl rfl <| xN [2] [] rfl <| C2 <| C4 rfl rfl trivial ?_
       exact congrArg bV (E3 (i := i) (by omega) (a1w (by exact .inr (.inl ⟨by assumption, by omega⟩)))).symm
      refine B7 <| A4 <| A0 <| A3 rfl rfl <| H8 rfl rfl <| A3 rfl rfl ?_
      refine B1 rfl rfl ?_ ?_ <;> intro hg0 <;> have hg := hg0 <;> try simp only [SG] at hg
      ·refine B0 rfl rfl (dT rfl) rfl rfl <| gT rfl rfl <| B4 rfl rfl rfl rfl rfl rfl <| gT rfl rfl <| N5 rfl rfl <| B8 rfl rfl rfl rfl <| A3 rfl rfl ?_
       refine B1 rfl rfl ?_ ?_ <;> intro hg0 <;> have hg := hg0 <;> try simp only [SG] at hg
       ·refine A3 rfl rfl <| gT rfl rfl <| N0 rfl rfl <| gT rfl rfl <| A3 rfl rfl ?_
        refine B1 rfl rfl ?_ ?_ <;> intro hg0 <;> have hg := hg0 <;> try simp only [SG] at hg
        ·refine B0 rfl rfl (dT rfl) rfl rfl <| gT rfl rfl <| B4 rfl rfl rfl rfl rfl rfl <| gT rfl rfl <| A3 rfl rfl <| gT rfl rfl <| I1 rfl rfl (C5 (by omega)) <| gT rfl rfl ?_
         apply xC rfl
         ·apply A9
          ·exact B2 rfl
          apply A9
          ·exact B2 rfl
          apply A9
          ·exact B2 rfl
          exact C6
         ·exact G0 _ _ _
         refine ⟨⟨rfl, rfl, rfl, dT rfl, rfl⟩, .inl rfl, B9, C1 rfl, fun _ => rfl, fun g56 => ?_⟩
         refine gT rfl rfl <| H7 rfl <| gT rfl rfl <| B8 rfl (by assumption) rfl rfl <| B5 rfl (by assumption) rfl rfl <| A3 rfl rfl ?_
         refine B1 rfl rfl ?_ ?_ <;> intro hg0 <;> have hg := hg0 <;> try simp only [SG] at hg
         ·refine A3 rfl rfl <| gT rfl rfl <| G7 rfl rfl <| gT rfl rfl <| A3 rfl rfl ?_
          refine B1 rfl rfl ?_ ?_ <;> intro hg0 <;> have hg := hg0 <;> try simp only [SG] at hg
          ·refine B0 rfl rfl (dT rfl) rfl rfl <| gT rfl rfl <| B4 rfl rfl rfl rfl rfl rfl <| gT rfl rfl <| N5 rfl rfl <| gT rfl rfl <| B8 rfl rfl rfl rfl <| B5 rfl (by assumption) rfl rfl <| A3 rfl rfl ?_
           refine B1 rfl rfl ?_ ?_ <;> intro hg0 <;> have hg := hg0 <;> try simp only [SG] at hg
           ·refine A3 rfl rfl <| gT rfl rfl <| H8 rfl rfl <| gT rfl rfl <| A3 rfl rfl ?_
            refine B1 rfl rfl ?_ ?_ <;> intro hg0 <;> have hg := hg0 <;> try simp only [SG] at hg
            ·refine B0 rfl rfl (dT rfl) rfl rfl <| gT rfl rfl <| B4 rfl rfl rfl rfl rfl rfl <| gT rfl rfl <| A3 rfl rfl <| gT rfl rfl <| I1 rfl rfl (C5 (by omega)) <| gT rfl rfl ?_
             apply xC rfl
             ·apply A9
              ·exact B2 rfl
              apply A9
              ·exact B2 rfl
              apply A9
              ·exact B2 rfl
              exact C6
             ·exact G0 _ _ _
             refine ⟨⟨rfl, rfl, rfl, dT rfl, rfl⟩, .inl rfl, B9, C1 rfl, fun _ => rfl, fun g77 => ?_⟩
             refine gT rfl rfl <| H7 rfl <| gT rfl rfl <| B8 rfl (by assumption) rfl rfl <| B5 rfl (by assumption) rfl rfl <| xN [0,3,80] [] rfl ?_
             refine A7 rfl ?_ ?_ <;> intro hc <;> try simp only [SL] at hc
             ·refine A4 <| A0 <| A5 rfl rfl rfl <| xN [2] [] rfl <| C2 <| C4 rfl rfl trivial ?_
              exact congrArg bV (E3 (i := i) (by omega) (G2 hnd (by omega) (by omega))).symm
             refine B7 <| A0 <| A3 rfl rfl <| D7 rfl rfl (C5 (by omega)) <| A5 rfl rfl rfl <| xN [0,3] [] rfl ?_
             refine ⟨i + 1, ⟨by omega, fun j hj => by rcases Nat.lt_succ_iff_lt_or_eq.1 hj with h | h; (· exact hi2 j h); (· subst h; exact F9 hnd (by omega) (by assumption) (by exact .inl (by assumption)) (by omega) (by omega))⟩, (by omega), ⟨rfl, rfl, trivial⟩⟩
            iterate 5 refine C3 rfl rfl rfl ?_
            refine gT rfl rfl <| B5 rfl rfl rfl rfl <| B5 rfl (by assumption) rfl rfl <| xN [0,3,80] [] rfl ?_
            refine A7 rfl (fun hc => absurd hc (by decide)) (fun hc => ?_)
            refine B7 <| A0 <| A3 rfl rfl <| D7 rfl rfl (C5 (by omega)) <| A5 rfl rfl rfl <| xN [0,3] [] rfl ?_
            refine ⟨i + 1, ⟨by omega, fun j hj => by rcases Nat.lt_succ_iff_lt_or_eq.1 hj with h | h; (· exact hi2 j h); (· subst h; exact F9 hnd (by omega) (by assumption) (by exact .inl (by assumption)) (by omega) (by omega))⟩, (by omega), ⟨rfl, rfl, trivial⟩⟩
           refine gF rfl rfl <| gF rfl rfl ?_
           iterate 6 refine D4 rfl rfl ?_
           refine gF rfl rfl <| B8 rfl (by assumption) rfl rfl <| xN [0,3,80] [] rfl ?_
           refine A7 rfl (fun hc => ?_) (fun hc => absurd hc (by decide))
           refine A4 <| A0 <| A5 rfl rfl rfl <| xN [2] [] rfl <| C2 <| C4 rfl rfl trivial ?_
           exact congrArg bV (E3 (i := i) (by omega) (G2 hnd (by omega) (by omega))).symm
          refine gF rfl rfl <| gF rfl rfl <| gT rfl rfl <| B5 rfl (by assumption) rfl rfl <| B5 rfl (by assumption) rfl rfl <| A3 rfl rfl <| C0 rfl rfl rfl <| A3 rfl rfl <| C0 rfl rfl rfl <| H8 rfl rfl <| C0 rfl rfl rfl <| A3 rfl rfl ?_
          refine B1 rfl rfl ?_ ?_ <;> intro hg0 <;> have hg := hg0 <;> try simp only [SG] at hg
          ·refine B0 rfl rfl (dT rfl) rfl rfl <| gT rfl rfl <| B4 rfl rfl rfl rfl rfl rfl <| gT rfl rfl <| A3 rfl rfl <| gT rfl rfl <| I1 rfl rfl (C5 (by omega)) <| gT rfl rfl ?_
           apply xC rfl
           ·apply A9
            ·exact B2 rfl
            apply A9
            ·exact B2 rfl
            apply A9
            ·exact B2 rfl
            exact C6
           ·exact G0 _ _ _
           refine ⟨⟨rfl, rfl, rfl, dT rfl, rfl⟩, .inl rfl, B9, C1 rfl, fun _ => rfl, fun g77 => ?_⟩
           refine gT rfl rfl <| H7 rfl <| C0 rfl rfl rfl <| B8 rfl (by assumption) rfl rfl <| B8 rfl (by assumption) rfl rfl <| xN [0,3,80] [] rfl ?_
           refine A7 rfl ?_ ?_ <;> intro hc <;> try simp only [SL] at hc
           ·refine A4 <| A0 <| A5 rfl rfl rfl <| xN [2] [] rfl <| C2 <| C4 rfl rfl trivial ?_
            exact congrArg bV (E3 (i := i) (by omega) (G2 hnd (by omega) (by omega))).symm
           refine B7 <| A0 <| A3 rfl rfl <| D7 rfl rfl (C5 (by omega)) <| A5 rfl rfl rfl <| xN [0,3] [] rfl ?_
           refine ⟨i + 1, ⟨by omega, fun j hj => by rcases Nat.lt_succ_iff_lt_or_eq.1 hj with h | h; (· exact hi2 j h); (· subst h; exact F9 hnd (by omega) (by assumption) (by exact .inl (by assumption)) (by omega) (by omega))⟩, (by omega), ⟨rfl, rfl, trivial⟩⟩
          iterate 5 refine C3 rfl rfl rfl ?_
          refine C0 rfl rfl rfl <| B5 rfl rfl rfl rfl <| B8 rfl (by assumption) rfl rfl <| xN [0,3,80] [] rfl ?_
          refine A7 rfl (fun hc => absurd hc (by simp_all)) (fun hc => ?_)
          refine B7 <| A0 <| A3 rfl rfl <| D7 rfl rfl (C5 (by omega)) <| A5 rfl rfl rfl <| xN [0,3] [] rfl ?_
          refine ⟨i + 1, ⟨by omega, fun j hj => by rcases Nat.lt_succ_iff_lt_or_eq.1 hj with h | h; (· exact hi2 j h); (· subst h; exact F9 hnd (by omega) (by assumption) (by exact .inl (by assumption)) (by omega) (by omega))⟩, (by omega), ⟨rfl, rfl, trivial⟩⟩
         refine gF rfl rfl <| gF rfl rfl <| D4 rfl rfl <| D4 rfl rfl <| D4 rfl rfl <| gF rfl rfl <| B8 rfl (by assumption) rfl rfl <| A3 rfl rfl <| C3 rfl rfl rfl <| C3 rfl rfl rfl <| C3 rfl rfl rfl ?_
         iterate 6 refine D4 rfl rfl ?_
         refine C3 rfl rfl rfl <| B8 rfl rfl rfl rfl <| xN [0,3,80] [] rfl ?_
         refine A7 rfl (fun hc => ?_) (fun hc => absurd hc (by decide))
         refine A4 <| A0 <| A5 rfl rfl rfl <| xN [2] [] rfl <| C2 <| C4 rfl rfl trivial ?_
         exact congrArg bV (E3 (i := i) (by omega) (G2 hnd (by omega) (by omega))).symm
        iterate 5 refine C3 rfl rfl rfl ?_
        refine gT rfl rfl <| B5 rfl rfl rfl rfl <| B5 rfl (by assumption) rfl rfl <| A3 rfl rfl <| C0 rfl rfl rfl <| A3 rfl rfl <| C0 rfl rfl rfl <| G7 rfl rfl <| C0 rfl rfl rfl <| A3 rfl rfl ?_
        refine B1 rfl rfl ?_ ?_ <;> intro hg0 <;> have hg := hg0 <;> try simp only [SG] at hg
        ·refine B0 rfl rfl (dT rfl) rfl rfl <| gT rfl rfl <| B4 rfl rfl rfl rfl rfl rfl <| gT rfl rfl <| N5 rfl rfl <| C0 rfl rfl rfl <| B8 rfl rfl rfl rfl <| B5 rfl rfl rfl rfl <| A3 rfl rfl ?_
         refine B1 rfl rfl ?_ ?_ <;> intro hg0 <;> have hg := hg0 <;> try simp only [SG] at hg
         ·refine A3 rfl rfl <| gT rfl rfl <| H8 rfl rfl <| gT rfl rfl <| A3 rfl rfl ?_
          refine B1 rfl rfl ?_ ?_ <;> intro hg0 <;> have hg := hg0 <;> try simp only [SG] at hg
          ·refine B0 rfl rfl (dT rfl) rfl rfl <| gT rfl rfl <| B4 rfl rfl rfl rfl rfl rfl <| gT rfl rfl <| A3 rfl rfl <| gT rfl rfl <| I1 rfl rfl (C5 (by omega)) <| gT rfl rfl ?_
           apply xC rfl
           ·apply A9
            ·exact B2 rfl
            apply A9
            ·exact B2 rfl
            apply A9
            ·exact B2 rfl
            exact C6
           ·exact G0 _ _ _
           refine ⟨⟨rfl, rfl, rfl, dT rfl, rfl⟩, .inl rfl, B9, C1 rfl, fun _ => rfl, fun g77 => ?_⟩
           refine gT rfl rfl <| H7 rfl <| gT rfl rfl <| B8 rfl (by assumption) rfl rfl <| B5 rfl (by assumption) rfl rfl <| xN [0,3,80] [] rfl ?_
           refine A7 rfl ?_ ?_ <;> intro hc <;> try simp only [SL] at hc
           ·refine A4 <| A0 <| A5 rfl rfl rfl <| xN [2] [] rfl <| C2 <| C4 rfl rfl trivial ?_
            exact congrArg bV (E3 (i := i) (by omega) (G2 hnd (by omega) (by omega))).symm
           refine B7 <| A0 <| A3 rfl rfl <| D7 rfl rfl (C5 (by omega)) <| A5 rfl rfl rfl <| xN [0,3] [] rfl ?_
           refine ⟨i + 1, ⟨by omega, fun j hj => by rcases Nat.lt_succ_iff_lt_or_eq.1 hj with h | h; (· exact hi2 j h); (· subst h; exact F9 hnd (by omega) (by assumption) (by exact .inl (by assumption)) (by omega) (by omega))⟩, (by omega), ⟨rfl, rfl, trivial⟩⟩
          iterate 5 refine C3 rfl rfl rfl ?_
          refine gT rfl rfl <| B5 rfl rfl rfl rfl <| B5 rfl (by assumption) rfl rfl <| xN [0,3,80] [] rfl ?_
          refine A7 rfl (fun hc => absurd hc (by decide)) (fun hc => ?_)
          refine B7 <| A0 <| A3 rfl rfl <| D7 rfl rfl (C5 (by omega)) <| A5 rfl rfl rfl <| xN [0,3] [] rfl ?_
          refine ⟨i + 1, ⟨by omega, fun j hj => by rcases Nat.lt_succ_iff_lt_or_eq.1 hj with h | h; (· exact hi2 j h); (· subst h; exact F9 hnd (by omega) (by assumption) (by exact .inl (by assumption)) (by omega) (by omega))⟩, (by omega), ⟨rfl, rfl, trivial⟩⟩
         refine gF rfl rfl <| gF rfl rfl ?_
         iterate 6 refine D4 rfl rfl ?_
         refine gF rfl rfl <| B8 rfl (by assumption) rfl rfl <| xN [0,3,80] [] rfl ?_
         refine A7 rfl (fun hc => ?_) (fun hc => absurd hc (by decide))
         refine A4 <| A0 <| A5 rfl rfl rfl <| xN [2] [] rfl <| C2 <| C4 rfl rfl trivial ?_
         exact congrArg bV (E3 (i := i) (by omega) (G2 hnd (by omega) (by omega))).symm
        refine gF rfl rfl <| gF rfl rfl <| C0 rfl rfl rfl <| B5 rfl (by assumption) rfl rfl <| B5 rfl rfl rfl rfl <| A3 rfl rfl <| C0 rfl rfl rfl <| A3 rfl rfl <| C0 rfl rfl rfl <| H8 rfl rfl <| C0 rfl rfl rfl <| A3 rfl rfl ?_
        refine B1 rfl rfl ?_ ?_ <;> intro hg0 <;> have hg := hg0 <;> try simp only [SG] at hg
        ·refine B0 rfl rfl (dT rfl) rfl rfl <| gT rfl rfl <| B4 rfl rfl rfl rfl rfl rfl <| gT rfl rfl <| A3 rfl rfl <| gT rfl rfl <| I1 rfl rfl (C5 (by omega)) <| gT rfl rfl ?_
         apply xC rfl
         ·apply A9
          ·exact B2 rfl
          apply A9
          ·exact B2 rfl
          apply A9
          ·exact B2 rfl
          exact C6
         ·exact G0 _ _ _
         refine ⟨⟨rfl, rfl, rfl, dT rfl, rfl⟩, .inl rfl, B9, C1 rfl, fun _ => rfl, fun g77 => ?_⟩
         refine gT rfl rfl <| H7 rfl <| C0 rfl rfl rfl <| B8 rfl (by assumption) rfl rfl <| B8 rfl (by assumption) rfl rfl <| xN [0,3,80] [] rfl ?_
         refine A7 rfl ?_ ?_ <;> intro hc <;> try simp only [SL] at hc
         ·refine A4 <| A0 <| A5 rfl rfl rfl <| xN [2] [] rfl <| C2 <| C4 rfl rfl trivial ?_
          exact congrArg bV (E3 (i := i) (by omega) (G2 hnd (by omega) (by omega))).symm
         refine B7 <| A0 <| A3 rfl rfl <| D7 rfl rfl (C5 (by omega)) <| A5 rfl rfl rfl <| xN [0,3] [] rfl ?_
         refine ⟨i + 1, ⟨by omega, fun j hj => by rcases Nat.lt_succ_iff_lt_or_eq.1 hj with h | h; (· exact hi2 j h); (· subst h; exact F9 hnd (by omega) (by assumption) (by exact .inl (by assumption)) (by omega) (by omega))⟩, (by omega), ⟨rfl, rfl, trivial⟩⟩
        iterate 5 refine C3 rfl rfl rfl ?_
        refine C0 rfl rfl rfl <| B5 rfl rfl rfl rfl <| B5 rfl rfl rfl rfl <| xN [0,3,80] [] rfl ?_
        refine A7 rfl (fun hc => absurd hc (by decide)) (fun hc => ?_)
        refine B7 <| A0 <| A3 rfl rfl <| D7 rfl rfl (C5 (by omega)) <| A5 rfl rfl rfl <| xN [0,3] [] rfl ?_
        refine ⟨i + 1, ⟨by omega, fun j hj => by rcases Nat.lt_succ_iff_lt_or_eq.1 hj with h | h; (· exact hi2 j h); (· subst h; exact F9 hnd (by omega) (by assumption) (by exact .inl (by assumption)) (by omega) (by omega))⟩, (by omega), ⟨rfl, rfl, trivial⟩⟩
       refine gF rfl rfl <| gF rfl rfl ?_
       iterate 6 refine D4 rfl rfl ?_
       refine gF rfl rfl <| B8 rfl (by assumption) rfl rfl <| A3 rfl rfl <| C3 rfl rfl rfl <| C3 rfl rfl rfl <| C3 rfl rfl rfl <| D4 rfl rfl <| D4 rfl rfl <| D4 rfl rfl <| C3 rfl rfl rfl <| B8 rfl rfl rfl rfl <| A3 rfl rfl <| C3 rfl rfl rfl <| C3 rfl rfl rfl <| C3 rfl rfl rfl ?_
       iterate 6 refine D4 rfl rfl ?_
       refine C3 rfl rfl rfl <| B8 rfl rfl rfl rfl <| xN [0,3,80] [] rfl ?_
       refine A7 rfl (fun hc => ?_) (fun hc => absurd hc (by decide))
       refine A4 <| A0 <| A5 rfl rfl rfl <| xN [2] [] rfl <| C2 <| C4 rfl rfl trivial ?_
       exact congrArg bV (E3 (i := i) (by omega) (G2 hnd (by omega) (by omega))).symm
      refine gF rfl rfl <| gF rfl rfl <| B5 rfl (by assumption) rfl rfl <| A3 rfl rfl <| C0 rfl rfl rfl <| A3 rfl rfl <| C0 rfl rfl rfl <| N0 rfl rfl <| C0 rfl rfl rfl <| A3 rfl rfl ?_
      refine B1 rfl rfl ?_ ?_ <;> intro hg0 <;> have hg := hg0 <;> try simp only [SG] at hg
      ·refine B0 rfl rfl (dT rfl) rfl rfl <| gT rfl rfl <| B4 rfl rfl rfl rfl rfl rfl <| gT rfl rfl <| A3 rfl rfl <| gT rfl rfl <| I1 rfl rfl (C5 (by omega)) <| gT rfl rfl ?_
       apply xC rfl
       ·apply A9
        ·exact B2 rfl
        apply A9
        ·exact B2 rfl
        apply A9
        ·exact B2 rfl
        exact C6
       ·exact G0 _ _ _
       refine ⟨⟨rfl, rfl, rfl, dT rfl, rfl⟩, .inl rfl, B9, C1 rfl, fun _ => rfl, fun g56 => ?_⟩
       refine gT rfl rfl <| H7 rfl <| C0 rfl rfl rfl <| B8 rfl (by assumption) rfl rfl <| B8 rfl (by assumption) rfl rfl <| A3 rfl rfl ?_
       refine B1 rfl rfl ?_ ?_ <;> intro hg0 <;> have hg := hg0 <;> try simp only [SG] at hg
       ·refine A3 rfl rfl <| gT rfl rfl <| G7 rfl rfl <| gT rfl rfl <| A3 rfl rfl ?_
        refine B1 rfl rfl ?_ ?_ <;> intro hg0 <;> have hg := hg0 <;> try simp only [SG] at hg
        ·refine B0 rfl rfl (dT rfl) rfl rfl <| gT rfl rfl <| B4 rfl rfl rfl rfl rfl rfl <| gT rfl rfl <| N5 rfl rfl <| gT rfl rfl <| B8 rfl rfl rfl rfl <| B8 rfl rfl rfl rfl <| A3 rfl rfl ?_
         refine B1 rfl rfl ?_ ?_ <;> intro hg0 <;> have hg := hg0 <;> try simp only [SG] at hg
         ·refine A3 rfl rfl <| gT rfl rfl <| H8 rfl rfl <| gT rfl rfl <| A3 rfl rfl ?_
          refine B1 rfl rfl ?_ ?_ <;> intro hg0 <;> have hg := hg0 <;> try simp only [SG] at hg
          ·refine B0 rfl rfl (dT rfl) rfl rfl <| gT rfl rfl <| B4 rfl rfl rfl rfl rfl rfl <| gT rfl rfl <| A3 rfl rfl <| gT rfl rfl <| I1 rfl rfl (C5 (by omega)) <| gT rfl rfl ?_
           apply xC rfl
           ·apply A9
            ·exact B2 rfl
            apply A9
            ·exact B2 rfl
            apply A9
            ·exact B2 rfl
            exact C6
           ·exact G0 _ _ _
           refine ⟨⟨rfl, rfl, rfl, dT rfl, rfl⟩, .inl rfl, B9, C1 rfl, fun _ => rfl, fun g77 => ?_⟩
           refine gT rfl rfl <| H7 rfl <| gT rfl rfl <| B8 rfl (by assumption) rfl rfl <| B8 rfl rfl rfl rfl <| xN [0,3,80] [] rfl ?_
           refine A7 rfl ?_ ?_ <;> intro hc <;> try simp only [SL] at hc
           ·refine A4 <| A0 <| A5 rfl rfl rfl <| xN [2] [] rfl <| C2 <| C4 rfl rfl trivial ?_
            exact congrArg bV (E3 (i := i) (by omega) (G2 hnd (by omega) (by omega))).symm
           refine B7 <| A0 <| A3 rfl rfl <| D7 rfl rfl (C5 (by omega)) <| A5 rfl rfl rfl <| xN [0,3] [] rfl ?_
           refine ⟨i + 1, ⟨by omega, fun j hj => by rcases Nat.lt_succ_iff_lt_or_eq.1 hj with h | h; (· exact hi2 j h); (· subst h; exact F9 hnd (by omega) (by assumption) (by exact .inl (by assumption)) (by omega) (by omega))⟩, (by omega), ⟨rfl, rfl, trivial⟩⟩
          iterate 5 refine C3 rfl rfl rfl ?_
          refine gT rfl rfl <| B5 rfl rfl rfl rfl <| B8 rfl rfl rfl rfl <| xN [0,3,80] [] rfl ?_
          refine A7 rfl (fun hc => absurd hc (by simp_all)) (fun hc => ?_)
          refine B7 <| A0 <| A3 rfl rfl <| D7 rfl rfl (C5 (by omega)) <| A5 rfl rfl rfl <| xN [0,3] [] rfl ?_
          refine ⟨i + 1, ⟨by omega, fun j hj => by rcases Nat.lt_succ_iff_lt_or_eq.1 hj with h | h; (· exact hi2 j h); (· subst h; exact F9 hnd (by omega) (by assumption) (by exact .inl (by assumption)) (by omega) (by omega))⟩, (by omega), ⟨rfl, rfl, trivial⟩⟩
         refine C3 rfl rfl rfl <| C3 rfl rfl rfl ?_
         iterate 6 refine D4 rfl rfl ?_
         refine C3 rfl rfl rfl <| B8 rfl rfl rfl rfl <| xN [0,3,80] [] rfl ?_
         refine A7 rfl (fun hc => ?_) (fun hc => absurd hc (by decide))
         refine A4 <| A0 <| A5 rfl rfl rfl <| xN [2] [] rfl <| C2 <| C4 rfl rfl trivial ?_
         exact congrArg bV (E3 (i := i) (by omega) (G2 hnd (by omega) (by omega))).symm
        refine gF rfl rfl <| gF rfl rfl <| gT rfl rfl <| B5 rfl (by assumption) rfl rfl <| B8 rfl rfl rfl rfl <| A3 rfl rfl <| gT rfl rfl <| A3 rfl rfl <| gT rfl rfl <| H8 rfl rfl <| gT rfl rfl <| A3 rfl rfl ?_
        refine B1 rfl rfl ?_ ?_ <;> intro hg0 <;> have hg := hg0 <;> try simp only [SG] at hg
        ·refine B0 rfl rfl (dT rfl) rfl rfl <| gT rfl rfl <| B4 rfl rfl rfl rfl rfl rfl <| gT rfl rfl <| A3 rfl rfl <| gT rfl rfl <| I1 rfl rfl (C5 (by omega)) <| gT rfl rfl ?_
         apply xC rfl
         ·apply A9
          ·exact B2 rfl
          apply A9
          ·exact B2 rfl
          apply A9
          ·exact B2 rfl
          exact C6
         ·exact G0 _ _ _
         refine ⟨⟨rfl, rfl, rfl, dT rfl, rfl⟩, .inl rfl, B9, C1 rfl, fun _ => rfl, fun g77 => ?_⟩
         refine gT rfl rfl <| H7 rfl <| gT rfl rfl <| B8 rfl (by assumption) rfl rfl <| B8 rfl rfl rfl rfl <| xN [0,3,80] [] rfl ?_
         refine A7 rfl ?_ ?_ <;> intro hc <;> try simp only [SL] at hc
         ·refine A4 <| A0 <| A5 rfl rfl rfl <| xN [2] [] rfl <| C2 <| C4 rfl rfl trivial ?_
          exact congrArg bV (E3 (i := i) (by omega) (G2 hnd (by omega) (by omega))).symm
         refine B7 <| A0 <| A3 rfl rfl <| D7 rfl rfl (C5 (by omega)) <| A5 rfl rfl rfl <| xN [0,3] [] rfl ?_
         refine ⟨i + 1, ⟨by omega, fun j hj => by rcases Nat.lt_succ_iff_lt_or_eq.1 hj with h | h; (· exact hi2 j h); (· subst h; exact F9 hnd (by omega) (by assumption) (by exact .inl (by assumption)) (by omega) (by omega))⟩, (by omega), ⟨rfl, rfl, trivial⟩⟩
        iterate 5 refine C3 rfl rfl rfl ?_
        refine gT rfl rfl <| B5 rfl rfl rfl rfl <| B8 rfl rfl rfl rfl <| xN [0,3,80] [] rfl ?_
        refine A7 rfl (fun hc => absurd hc (by simp_all)) (fun hc => ?_)
        refine B7 <| A0 <| A3 rfl rfl <| D7 rfl rfl (C5 (by omega)) <| A5 rfl rfl rfl <| xN [0,3] [] rfl ?_
        refine ⟨i + 1, ⟨by omega, fun j hj => by rcases Nat.lt_succ_iff_lt_or_eq.1 hj with h | h; (· exact hi2 j h); (· subst h; exact F9 hnd (by omega) (by assumption) (by exact .inl (by assumption)) (by omega) (by omega))⟩, (by omega), ⟨rfl, rfl, trivial⟩⟩
       refine C3 rfl rfl rfl <| C3 rfl rfl rfl <| D4 rfl rfl <| D4 rfl rfl <| D4 rfl rfl <| C3 rfl rfl rfl <| B8 rfl rfl rfl rfl <| A3 rfl rfl <| C3 rfl rfl rfl <| C3 rfl rfl rfl <| C3 rfl rfl rfl ?_
       iterate 6 refine D4 rfl rfl ?_
       refine C3 rfl rfl rfl <| B8 rfl rfl rfl rfl <| xN [0,3,80] [] rfl ?_
       refine A7 rfl (fun hc => ?_) (fun hc => absurd hc (by decide))
       refine A4 <| A0 <| A5 rfl rfl rfl <| xN [2] [] rfl <| C2 <| C4 rfl rfl trivial ?_
       exact congrArg bV (E3 (i := i) (by omega) (G2 hnd (by omega) (by omega))).symm
      iterate 5 refine C3 rfl rfl rfl ?_
      refine C0 rfl rfl rfl <| B5 rfl rfl rfl rfl <| B5 rfl rfl rfl rfl <| A3 rfl rfl <| C0 rfl rfl rfl <| A3 rfl rfl <| C0 rfl rfl rfl <| G7 rfl rfl <| C0 rfl rfl rfl <| A3 rfl rfl ?_
      refine B1 rfl rfl ?_ ?_ <;> intro hg0 <;> have hg := hg0 <;> try simp only [SG] at hg
      ·refine B0 rfl rfl (dT rfl) rfl rfl <| gT rfl rfl <| B4 rfl rfl rfl rfl rfl rfl <| gT rfl rfl <| N5 rfl rfl <| C0 rfl rfl rfl <| B8 rfl rfl rfl rfl <| B5 rfl rfl rfl rfl <| A3 rfl rfl ?_
       refine B1 rfl rfl ?_ ?_ <;> intro hg0 <;> have hg := hg0 <;> try simp only [SG] at hg
       ·refine A3 rfl rfl <| gT rfl rfl <| H8 rfl rfl <| gT rfl rfl <| A3 rfl rfl ?_
        refine B1 rfl rfl ?_ ?_ <;> intro hg0 <;> have hg := hg0 <;> try simp only [SG] at hg
        ·refine B0 rfl rfl (dT rfl) rfl rfl <| gT rfl rfl <| B4 rfl rfl rfl rfl rfl rfl <| gT rfl rfl <| A3 rfl rfl <| gT rfl rfl <| I1 rfl rfl (C5 (by omega)) <| gT rfl rfl ?_
         apply xC rfl
         ·apply A9
          ·exact B2 rfl
          apply A9
          ·exact B2 rfl
          apply A9
          ·exact B2 rfl
          exact C6
         ·exact G0 _ _ _
         refine ⟨⟨rfl, rfl, rfl, dT rfl, rfl⟩, .inl rfl, B9, C1 rfl, fun _ => rfl, fun g77 => ?_⟩
         refine gT rfl rfl <| H7 rfl <| gT rfl rfl <| B8 rfl (by assumption) rfl rfl <| B5 rfl (by assumption) rfl rfl <| xN [0,3,80] [] rfl ?_
         refine A7 rfl ?_ ?_ <;> intro hc <;> try simp only [SL] at hc
         ·refine A4 <| A0 <| A5 rfl rfl rfl <| xN [2] [] rfl <| C2 <| C4 rfl rfl trivial ?_
          exact congrArg bV (E3 (i := i) (by omega) (G2 hnd (by omega) (by omega))).symm
         refine B7 <| A0 <| A3 rfl rfl <| D7 rfl rfl (C5 (by omega)) <| A5 rfl rfl rfl <| xN [0,3] [] rfl ?_
         refine ⟨i + 1, ⟨by omega, fun j hj => by rcases Nat.lt_succ_iff_lt_or_eq.1 hj with h | h; (· exact hi2 j h); (· subst h; exact F9 hnd (by omega) (by assumption) (by exact .inl (by assumption)) (by omega) (by omega))⟩, (by omega), ⟨rfl, rfl, trivial⟩⟩
        iterate 5 refine C3 rfl rfl rfl ?_
        refine gT rfl rfl <| B5 rfl rfl rfl rfl <| B5 rfl (by assumption) rfl rfl <| xN [0,3,80] [] rfl ?_
        refine A7 rfl (fun hc => absurd hc (by decide)) (fun hc => ?_)
        refine B7 <| A0 <| A3 rfl rfl <| D7 rfl rfl (C5 (by omega)) <| A5 rfl rfl rfl <| xN [0,3] [] rfl ?_
        refine ⟨i + 1, ⟨by omega, fun j hj => by rcases Nat.lt_succ_iff_lt_or_eq.1 hj with h | h; (· exact hi2 j h); (· subst h; exact absurd trivial (by assumption))⟩, (by omega), ⟨rfl, rfl, trivial⟩⟩
       refine gF rfl rfl <| gF rfl rfl ?_
       iterate 6 refine D4 rfl rfl ?_
       refine gF rfl rfl <| B8 rfl (by assumption) rfl rfl <| xN [0,3,80] [] rfl ?_
       refine A7 rfl (fun hc => ?_) (fun hc => absurd hc (by decide))
       refine A4 <| A0 <| A5 rfl rfl rfl <| xN [2] [] rfl <| C2 <| C4 rfl rfl trivial ?_
       exact congrArg bV (E3 (i := i) (by omega) (G2 hnd (by omega) (by omega))).symm
      refine gF rfl rfl <| gF rfl rfl <| C0 rfl rfl rfl <| B5 rfl (by assumption) rfl rfl <| B5 rfl rfl rfl rfl <| A3 rfl rfl <| C0 rfl rfl rfl <| A3 rfl rfl <| C0 rfl rfl rfl <| H8 rfl rfl <| C0 rfl rfl rfl <| A3 rfl rfl ?_
      refine B1 rfl rfl ?_ ?_ <;> intro hg0 <;> have hg := hg0 <;> try simp only [SG] at hg
      ·refine B0 rfl rfl (dT rfl) rfl rfl <| gT rfl rfl <| B4 rfl rfl rfl rfl rfl rfl <| gT rfl rfl <| A3 rfl rfl <| gT rfl rfl <| I1 rfl rfl (C5 (by omega)) <| gT rfl rfl ?_
       apply xC rfl
       ·apply A9
        ·exact B2 rfl
        apply A9
        ·exact B2 rfl
        apply A9
        ·exact B2 rfl
        exact C6
       ·exact G0 _ _ _
       refine ⟨⟨rfl, rfl, rfl, dT rfl, rfl⟩, .inl rfl, B9, C1 rfl, fun _ => rfl, fun g77 => ?_⟩
       refine gT rfl rfl <| H7 rfl <| C0 rfl rfl rfl <| B8 rfl (by assumption) rfl rfl <| B8 rfl (by assumption) rfl rfl <| xN [0,3,80] [] rfl ?_
       refine A7 rfl ?_ ?_ <;> intro hc <;> try simp only [SL] at hc
       ·refine A4 <| A0 <| A5 rfl rfl rfl <| xN [2] [] rfl <| C2 <| C4 rfl rfl trivial ?_
        exact congrArg bV (E3 (i := i) (by omega) (G2 hnd (by omega) (by omega))).symm
       refine B7 <| A0 <| A3 rfl rfl <| D7 rfl rfl (C5 (by omega)) <| A5 rfl rfl rfl <| xN [0,3] [] rfl ?_
       refine ⟨i + 1, ⟨by omega, fun j hj => by rcases Nat.lt_succ_iff_lt_or_eq.1 hj with h | h; (· exact hi2 j h); (· subst h; exact F9 hnd (by omega) (by assumption) (by exact .inl (by assumption)) (by omega) (by omega))⟩, (by omega), ⟨rfl, rfl, trivial⟩⟩
      iterate 5 refine C3 rfl rfl rfl ?_
      refine C0 rfl rfl rfl <| B5 rfl rfl rfl rfl <| B5 rfl rfl rfl rfl <| xN [0,3,80] [] rfl ?_
      refine A7 rfl (fun hc => absurd hc (by decide)) (fun hc => ?_)
      refine B7 <| A0 <| A3 rfl rfl <| D7 rfl rfl (C5 (by omega)) <| A5 rfl rfl rfl <| xN [0,3] [] rfl ?_
      refine ⟨i + 1, ⟨by omega, fun j hj => by rcases Nat.lt_succ_iff_lt_or_eq.1 hj with h | h; (· exact hi2 j h); (· subst h; exact F9 hnd (by omega) (by assumption) (by exact .inl (by assumption)) (by omega) (by omega))⟩, (by omega), ⟨rfl, rfl, trivial⟩⟩
     refine gF rfl rfl <| gF rfl rfl <| gF rfl rfl <| gT rfl rfl <| B5 rfl (by assumption) rfl rfl <| B5 rfl (by assumption) rfl rfl <| xN [0,3,4,5,40] [4] rfl ?_
     refine A7 rfl (fun hc => absurd hc (by decide)) (fun hc => ?_)
     refine B7 <| A4 <| A0 <| A3 rfl rfl <| H8 rfl rfl <| A3 rfl rfl ?_
     refine B1 rfl rfl ?_ ?_ <;> intro hg0 <;> have hg := hg0 <;> try simp only [SG] at hg
     ·refine B0 rfl rfl (dT rfl) rfl rfl <| gT rfl rfl <| B4 rfl rfl rfl rfl rfl rfl <| gT rfl rfl <| N5 rfl rfl <| B8 rfl rfl rfl rfl <| A3 rfl rfl ?_
      refine B1 rfl rfl ?_ ?_ <;> intro hg0 <;> have hg := hg0 <;> try simp only [SG] at hg
      ·refine A3 rfl rfl <| gT rfl rfl <| N0 rfl rfl <| gT rfl rfl <| A3 rfl rfl ?_
       refine B1 rfl rfl ?_ ?_ <;> intro hg0 <;> have hg := hg0 <;> try simp only [SG] at hg
       ·refine B0 rfl rfl (dT rfl) rfl rfl <| gT rfl rfl <| B4 rfl rfl rfl rfl rfl rfl <| gT rfl rfl <| A3 rfl rfl <| gT rfl rfl <| I1 rfl rfl (C5 (by omega)) <| gT rfl rfl ?_
        apply xC rfl
        ·apply A9
         ·exact B2 rfl
         apply A9
         ·exact B2 rfl
         apply A9
         ·exact B2 rfl
         exact C6
        ·exact G0 _ _ _
        refine ⟨⟨rfl, rfl, rfl, dT rfl, rfl⟩, .inl rfl, B9, C1 rfl, fun _ => rfl, fun g56 => ?_⟩
        refine gT rfl rfl <| H7 rfl <| gT rfl rfl <| B8 rfl (by assumption) rfl rfl <| B5 rfl (by assumption) rfl rfl <| A3 rfl rfl ?_
        refine B1 rfl rfl ?_ ?_ <;> intro hg0 <;> have hg := hg0 <;> try simp only [SG] at hg
        ·refine A3 rfl rfl <| gT rfl rfl <| G7 rfl rfl <| gT rfl rfl <| A3 rfl rfl ?_
         refine B1 rfl rfl ?_ ?_ <;> intro hg0 <;> have hg := hg0 <;> try simp only [SG] at hg
         ·refine B0 rfl rfl (dT rfl) rfl rfl <| gT rfl rfl <| B4 rfl rfl rfl rfl rfl rfl <| gT rfl rfl <| N5 rfl rfl <| gT rfl rfl <| B8 rfl rfl rfl rfl <| B5 rfl (by assumption) rfl rfl <| A3 rfl rfl ?_
          refine B1 rfl rfl ?_ ?_ <;> intro hg0 <;> have hg := hg0 <;> try simp only [SG] at hg
          ·refine A3 rfl rfl <| gT rfl rfl <| H8 rfl rfl <| gT rfl rfl <| A3 rfl rfl ?_
           refine B1 rfl rfl ?_ ?_ <;> intro hg0 <;> have hg := hg0 <;> try simp only [SG] at hg
           ·refine B0 rfl rfl (dT rfl) rfl rfl <| gT rfl rfl <| B4 rfl rfl rfl rfl rfl rfl <| gT rfl rfl <| A3 rfl rfl <| gT rfl rfl <| I1 rfl rfl (C5 (by omega)) <| gT rfl rfl ?_
            apply xC rfl
            ·apply A9
             ·exact B2 rfl
             apply A9
             ·exact B2 rfl
             apply A9
             ·exact B2 rfl
             exact C6
            ·exact G0 _ _ _
            refine ⟨⟨rfl, rfl, rfl, dT rfl, rfl⟩, .inl rfl, B9, C1 rfl, fun _ => rfl, fun g77 => ?_⟩
            refine gT rfl rfl <| H7 rfl <| gT rfl rfl <| B8 rfl (by assumption) rfl rfl <| B5 rfl (by assumption) rfl rfl <| xN [0,3,80] [] rfl ?_
            refine A7 rfl ?_ ?_ <;> intro hc <;> try simp only [SL] at hc
            ·refine A4 <| A0 <| A5 rfl rfl rfl <| xN [2] [] rfl <| C2 <| C4 rfl rfl trivial ?_
             exact congrArg bV (E3 (i := i) (by omega) (G2 hnd (by omega) (by omega))).symm
            refine B7 <| A0 <| A3 rfl rfl <| D7 rfl rfl (C5 (by omega)) <| A5 rfl rfl rfl <| xN [0,3] [] rfl ?_
            refine ⟨i + 1, ⟨by omega, fun j hj => by rcases Nat.lt_succ_iff_lt_or_eq.1 hj with h | h; (· exact hi2 j h); (· subst h; exact F9 hnd (by omega) (by assumption) (by exact .inl (by assumption)) (by omega) (by omega))⟩, (by omega), ⟨rfl, rfl, trivial⟩⟩
           iterate 5 refine C3 rfl rfl rfl ?_
           refine gT rfl rfl <| B5 rfl rfl rfl rfl <| B5 rfl (by assumption) rfl rfl <| xN [0,3,80] [] rfl ?_
           refine A7 rfl (fun hc => absurd hc (by decide)) (fun hc => ?_)
           refine B7 <| A0 <| A3 rfl rfl <| D7 rfl rfl (C5 (by omega)) <| A5 rfl rfl rfl <| xN [0,3] [] rfl ?_
           refine ⟨i + 1, ⟨by omega, fun j hj => by rcases Nat.lt_succ_iff_lt_or_eq.1 hj with h | h; (· exact hi2 j h); (· subst h; exact F9 hnd (by omega) (by assumption) (by exact .inl (by assumption)) (by omega) (by omega))⟩, (by omega), ⟨rfl, rfl, trivial⟩⟩
          refine gF rfl rfl <| gF rfl rfl ?_
          iterate 6 refine D4 rfl rfl ?_
          refine gF rfl rfl <| B8 rfl (by assumption) rfl rfl <| xN [0,3,80] [] rfl ?_
          refine A7 rfl (fun hc => ?_) (fun hc => absurd hc (by decide))
          refine A4 <| A0 <| A5 rfl rfl rfl <| xN [2] [] rfl <| C2 <| C4 rfl rfl trivial ?_
          exact congrArg bV (E3 (i := i) (by omega) (G2 hnd (by omega) (by omega))).symm
         refine gF rfl rfl <| gF rfl rfl <| gT rfl rfl <| B5 rfl (by assumption) rfl rfl <| B5 rfl (by assumption) rfl rfl <| A3 rfl rfl <| C0 rfl rfl rfl <| A3 rfl rfl <| C0 rfl rfl rfl <| H8 rfl rfl <| C0 rfl rfl rfl <| A3 rfl rfl ?_
         refine B1 rfl rfl ?_ ?_ <;> intro hg0 <;> have hg := hg0 <;> try simp only [SG] at hg
         ·refine B0 rfl rfl (dT rfl) rfl rfl <| gT rfl rfl <| B4 rfl rfl rfl rfl rfl rfl <| gT rfl rfl <| A3 rfl rfl <| gT rfl rfl <| I1 rfl rfl (C5 (by omega)) <| gT rfl rfl ?_
          apply xC rfl
          ·apply A9
           ·exact B2 rfl
           apply A9
           ·exact B2 rfl
           apply A9
           ·exact B2 rfl
           exact C6
          ·exact G0 _ _ _
          refine ⟨⟨rfl, rfl, rfl, dT rfl, rfl⟩, .inl rfl, B9, C1 rfl, fun _ => rfl, fun g77 => ?_⟩
          refine gT rfl rfl <| H7 rfl <| C0 rfl rfl rfl <| B8 rfl (by assumption) rfl rfl <| B8 rfl (by assumption) rfl rfl <| xN [0,3,80] [] rfl ?_
          refine A7 rfl ?_ ?_ <;> intro hc <;> try simp only [SL] at hc
          ·refine A4 <| A0 <| A5 rfl rfl rfl <| xN [2] [] rfl <| C2 <| C4 rfl rfl trivial ?_
           exact congrArg bV (E3 (i := i) (by omega) (G2 hnd (by omega) (by omega))).symm
          refine B7 <| A0 <| A3 rfl rfl <| D7 rfl rfl (C5 (by omega)) <| A5 rfl rfl rfl <| xN [0,3] [] rfl ?_
          refine ⟨i + 1, ⟨by omega, fun j hj => by rcases Nat.lt_succ_iff_lt_or_eq.1 hj with h | h; (· exact hi2 j h); (· subst h; exact F9 hnd (by omega) (by assumption) (by exact .inl (by assumption)) (by omega) (by omega))⟩, (by omega), ⟨rfl, rfl, trivial⟩⟩
         iterate 5 refine C3 rfl rfl rfl ?_
         refine C0 rfl rfl rfl <| B5 rfl rfl rfl rfl <| B8 rfl (by assumption) rfl rfl <| xN [0,3,80] [] rfl ?_
         refine A7 rfl (fun hc => absurd hc (by simp_all)) (fun hc => ?_)
         refine B7 <| A0 <| A3 rfl rfl <| D7 rfl rfl (C5 (by omega)) <| A5 rfl rfl rfl <| xN [0,3] [] rfl ?_
         refine ⟨i + 1, ⟨by omega, fun j hj => by rcases Nat.lt_succ_iff_lt_or_eq.1 hj with h | h; (· exact hi2 j h); (· subst h; exact F9 hnd (by omega) (by assumption) (by exact .inl (by assumption)) (by omega) (by omega))⟩, (by omega), ⟨rfl, rfl, trivial⟩⟩
        refine gF rfl rfl <| gF rfl rfl <| D4 rfl rfl <| D4 rfl rfl <| D4 rfl rfl <| gF rfl rfl <| B8 rfl (by assumption) rfl rfl <| A3 rfl rfl <| C3 rfl rfl rfl <| C3 rfl rfl rfl <| C3 rfl rfl rfl ?_
        iterate 6 refine D4 rfl rfl ?_
        refine C3 rfl rfl rfl <| B8 rfl rfl rfl rfl <| xN [0,3,80] [] rfl ?_
        refine A7 rfl (fun hc => ?_) (fun hc => absurd hc (by decide))
        refine A4 <| A0 <| A5 rfl rfl rfl <| xN [2] [] rfl <| C2 <| C4 rfl rfl trivial ?_
        exact congrArg bV (E3 (i := i) (by omega) (G2 hnd (by omega) (by omega))).symm
       iterate 5 refine C3 rfl rfl rfl ?_
       refine gT rfl rfl <| B5 rfl rfl rfl rfl <| B5 rfl (by assumption) rfl rfl <| A3 rfl rfl <| C0 rfl rfl rfl <| A3 rfl rfl <| C0 rfl rfl rfl <| G7 rfl rfl <| C0 rfl rfl rfl <| A3 rfl rfl ?_
       refine B1 rfl rfl ?_ ?_ <;> intro hg0 <;> have hg := hg0 <;> try simp only [SG] at hg
       ·refine B0 rfl rfl (dT rfl) rfl rfl <| gT rfl rfl <| B4 rfl rfl rfl rfl rfl rfl <| gT rfl rfl <| N5 rfl rfl <| C0 rfl rfl rfl <| B8 rfl rfl rfl rfl <| B5 rfl rfl rfl rfl <| A3 rfl rfl ?_
        refine B1 rfl rfl ?_ ?_ <;> intro hg0 <;> have hg := hg0 <;> try simp only [SG] at hg
        ·refine A3 rfl rfl <| gT rfl rfl <| H8 rfl rfl <| gT rfl rfl <| A3 rfl rfl ?_
         refine B1 rfl rfl ?_ ?_ <;> intro hg0 <;> have hg := hg0 <;> try simp only [SG] at hg
         ·refine B0 rfl rfl (dT rfl) rfl rfl <| gT rfl rfl <| B4 rfl rfl rfl rfl rfl rfl <| gT rfl rfl <| A3 rfl rfl <| gT rfl rfl <| I1 rfl rfl (C5 (by omega)) <| gT rfl rfl ?_
          apply xC rfl
          ·apply A9
           ·exact B2 rfl
           apply A9
           ·exact B2 rfl
           apply A9
           ·exact B2 rfl
           exact C6
          ·exact G0 _ _ _
          refine ⟨⟨rfl, rfl, rfl, dT rfl, rfl⟩, .inl rfl, B9, C1 rfl, fun _ => rfl, fun g77 => ?_⟩
          refine gT rfl rfl <| H7 rfl <| gT rfl rfl <| B8 rfl (by assumption) rfl rfl <| B5 rfl (by assumption) rfl rfl <| xN [0,3,80] [] rfl ?_
          refine A7 rfl ?_ ?_ <;> intro hc <;> try simp only [SL] at hc
          ·refine A4 <| A0 <| A5 rfl rfl rfl <| xN [2] [] rfl <| C2 <| C4 rfl rfl trivial ?_
           exact congrArg bV (E3 (i := i) (by omega) (G2 hnd (by omega) (by omega))).symm
          refine B7 <| A0 <| A3 rfl rfl <| D7 rfl rfl (C5 (by omega)) <| A5 rfl rfl rfl <| xN [0,3] [] rfl ?_
          refine ⟨i + 1, ⟨by omega, fun j hj => by rcases Nat.lt_succ_iff_lt_or_eq.1 hj with h | h; (· exact hi2 j h); (· subst h; exact F9 hnd (by omega) (by assumption) (by exact .inl (by assumption)) (by omega) (by omega))⟩, (by omega), ⟨rfl, rfl, trivial⟩⟩
         iterate 5 refine C3 rfl rfl rfl ?_
         refine gT rfl rfl <| B5 rfl rfl rfl rfl <| B5 rfl (by assumption) rfl rfl <| xN [0,3,80] [] rfl ?_
         refine A7 rfl (fun hc => absurd hc (by decide)) (fun hc => ?_)
         refine B7 <| A0 <| A3 rfl rfl <| D7 rfl rfl (C5 (by omega)) <| A5 rfl rfl rfl <| xN [0,3] [] rfl ?_
         refine ⟨i + 1, ⟨by omega, fun j hj => by rcases Nat.lt_succ_iff_lt_or_eq.1 hj with h | h; (· exact hi2 j h); (· subst h; exact F9 hnd (by omega) (by assumption) (by exact .inl (by assumption)) (by omega) (by omega))⟩, (by omega), ⟨rfl, rfl, trivial⟩⟩
        refine gF rfl rfl <| gF rfl rfl ?_
        iterate 6 refine D4 rfl rfl ?_
        refine gF rfl rfl <| B8 rfl (by assumption) rfl rfl <| xN [0,3,80] [] rfl ?_
        refine A7 rfl (fun hc => ?_) (fun hc => absurd hc (by decide))
        refine A4 <| A0 <| A5 rfl rfl rfl <| xN [2] [] rfl <| C2 <| C4 rfl rfl trivial ?_
        exact congrArg bV (E3 (i := i) (by omega) (G2 hnd (by omega) (by omega))).symm
       refine gF rfl rfl <| gF rfl rfl <| C0 rfl rfl rfl <| B5 rfl (by assumption) rfl rfl <| B5 rfl rfl rfl rfl <| A3 rfl rfl <| C0 rfl rfl rfl <| A3 rfl rfl <| C0 rfl rfl rfl <| H8 rfl rfl <| C0 rfl rfl rfl <| A3 rfl rfl ?_
       refine B1 rfl rfl ?_ ?_ <;> intro hg0 <;> have hg := hg0 <;> try simp only [SG] at hg
       ·refine B0 rfl rfl (dT rfl) rfl rfl <| gT rfl rfl <| B4 rfl rfl rfl rfl rfl rfl <| gT rfl rfl <| A3 rfl rfl <| gT rfl rfl <| I1 rfl rfl (C5 (by omega)) <| gT rfl rfl ?_
        apply xC rfl
        ·apply A9
         ·exact B2 rfl
         apply A9
         ·exact B2 rfl
         apply A9
         ·exact B2 rfl
         exact C6
        ·exact G0 _ _ _
        refine ⟨⟨rfl, rfl, rfl, dT rfl, rfl⟩, .inl rfl, B9, C1 rfl, fun _ => rfl, fun g77 => ?_⟩
        refine gT rfl rfl <| H7 rfl <| C0 rfl rfl rfl <| B8 rfl (by assumption) rfl rfl <| B8 rfl (by assumption) rfl rfl <| xN [0,3,80] [] rfl ?_
        refine A7 rfl ?_ ?_ <;> intro hc <;> try simp only [SL] at hc
        ·refine A4 <| A0 <| A5 rfl rfl rfl <| xN [2] [] rfl <| C2 <| C4 rfl rfl trivial ?_
         exact congrArg bV (E3 (i := i) (by omega) (G2 hnd (by omega) (by omega))).symm
        refine B7 <| A0 <| A3 rfl rfl <| D7 rfl rfl (C5 (by omega)) <| A5 rfl rfl rfl <| xN [0,3] [] rfl ?_
        refine ⟨i + 1, ⟨by omega, fun j hj => by rcases Nat.lt_succ_iff_lt_or_eq.1 hj with h | h; (· exact hi2 j h); (· subst h; exact F9 hnd (by omega) (by assumption) (by exact .inl (by assumption)) (by omega) (by omega))⟩, (by omega), ⟨rfl, rfl, trivial⟩⟩
       iterate 5 refine C3 rfl rfl rfl ?_
       refine C0 rfl rfl rfl <| B5 rfl rfl rfl rfl <| B5 rfl rfl rfl rfl <| xN [0,3,80] [] rfl ?_
       refine A7 rfl (fun hc => absurd hc (by decide)) (fun hc => ?_)
       refine B7 <| A0 <| A3 rfl rfl <| D7 rfl rfl (C5 (by omega)) <| A5 rfl rfl rfl <| xN [0,3] [] rfl ?_
       refine ⟨i + 1, ⟨by omega, fun j hj => by rcases Nat.lt_succ_iff_lt_or_eq.1 hj with h | h; (· exact hi2 j h); (· subst h; exact F9 hnd (by omega) (by assumption) (by exact .inl (by assumption)) (by omega) (by omega))⟩, (by omega), ⟨rfl, rfl, trivial⟩⟩
      refine gF rfl rfl <| gF rfl rfl ?_
      iterate 6 refine D4 rfl rfl ?_
      refine gF rfl rfl <| B8 rfl (by assumption) rfl rfl <| A3 rfl rfl <| C3 rfl rfl rfl <| C3 rfl rfl rfl <| C3 rfl rfl rfl <| D4 rfl rfl <| D4 rfl rfl <| D4 rfl rfl <| C3 rfl rfl rfl <| B8 rfl rfl rfl rfl <| A3 rfl rfl <| C3 rfl rfl rfl <| C3 rfl rfl rfl <| C3 rfl rfl rfl ?_
      iterate 6 refine D4 rfl rfl ?_
      refine C3 rfl rfl rfl <| B8 rfl rfl rfl rfl <| xN [0,3,80] [] rfl ?_
      refine A7 rfl (fun hc => ?_) (fun hc => absurd hc (by decide))
      refine A4 <| A0 <| A5 rfl rfl rfl <| xN [2] [] rfl <| C2 <| C4 rfl rfl trivial ?_
      exact congrArg bV (E3 (i := i) (by omega) (G2 hnd (by omega) (by omega))).symm
     refine gF rfl rfl <| gF rfl rfl <| B5 rfl (by assumption) rfl rfl <| A3 rfl rfl <| C0 rfl rfl rfl <| A3 rfl rfl <| C0 rfl rfl rfl <| N0 rfl rfl <| C0 rfl rfl rfl <| A3 rfl rfl ?_
     refine B1 rfl rfl ?_ ?_ <;> intro hg0 <;> have hg := hg0 <;> try simp only [SG] at hg
     ·refine B0 rfl rfl (dT rfl) rfl rfl <| gT rfl rfl <| B4 rfl rfl rfl rfl rfl rfl <| gT rfl rfl <| A3 rfl rfl <| gT rfl rfl <| I1 rfl rfl (C5 (by omega)) <| gT rfl rfl ?_
      apply xC rfl
      ·apply A9
       ·exact B2 rfl
       apply A9
       ·exact B2 rfl
       apply A9
       ·exact B2 rfl
       exact C6
      ·exact G0 _ _ _
      refine ⟨⟨rfl, rfl, rfl, dT rfl, rfl⟩, .inl rfl, B9, C1 rfl, fun _ => rfl, fun g56 => ?_⟩
      refine gT rfl rfl <| H7 rfl <| C0 rfl rfl rfl <| B8 rfl (by assumption) rfl rfl <| B8 rfl (by assumption) rfl rfl <| A3 rfl rfl ?_
      refine B1 rfl rfl ?_ ?_ <;> intro hg0 <;> have hg := hg0 <;> try simp only [SG] at hg
      ·refine A3 rfl rfl <| gT rfl rfl <| G7 rfl rfl <| gT rfl rfl <| A3 rfl rfl ?_
       refine B1 rfl rfl ?_ ?_ <;> intro hg0 <;> have hg := hg0 <;> try simp only [SG] at hg
       ·refine B0 rfl rfl (dT rfl) rfl rfl <| gT rfl rfl <| B4 rfl rfl rfl rfl rfl rfl <| gT rfl rfl <| N5 rfl rfl <| gT rfl rfl <| B8 rfl rfl rfl rfl <| B8 rfl rfl rfl rfl <| A3 rfl rfl ?_
        refine B1 rfl rfl ?_ ?_ <;> intro hg0 <;> have hg := hg0 <;> try simp only [SG] at hg
        ·refine A3 rfl rfl <| gT rfl rfl <| H8 rfl rfl <| gT rfl rfl <| A3 rfl rfl ?_
         refine B1 rfl rfl ?_ ?_ <;> intro hg0 <;> have hg := hg0 <;> try simp only [SG] at hg
         ·refine B0 rfl rfl (dT rfl) rfl rfl <| gT rfl rfl <| B4 rfl rfl rfl rfl rfl rfl <| gT rfl rfl <| A3 rfl rfl <| gT rfl rfl <| I1 rfl rfl (C5 (by omega)) <| gT rfl rfl ?_
          apply xC rfl
          ·apply A9
           ·exact B2 rfl
           apply A9
           ·exact B2 rfl
           apply A9
           ·exact B2 rfl
           exact C6
          ·exact G0 _ _ _
          refine ⟨⟨rfl, rfl, rfl, dT rfl, rfl⟩, .inl rfl, B9, C1 rfl, fun _ => rfl, fun g77 => ?_⟩
          refine gT rfl rfl <| H7 rfl <| gT rfl rfl <| B8 rfl (by assumption) rfl rfl <| B8 rfl rfl rfl rfl <| xN [0,3,80] [] rfl ?_
          refine A7 rfl ?_ ?_ <;> intro hc <;> try simp only [SL] at hc
          ·refine A4 <| A0 <| A5 rfl rfl rfl <| xN [2] [] rfl <| C2 <| C4 rfl rfl trivial ?_
           exact congrArg bV (E3 (i := i) (by omega) (G2 hnd (by omega) (by omega))).symm
          refine B7 <| A0 <| A3 rfl rfl <| D7 rfl rfl (C5 (by omega)) <| A5 rfl rfl rfl <| xN [0,3] [] rfl ?_
          refine ⟨i + 1, ⟨by omega, fun j hj => by rcases Nat.lt_succ_iff_lt_or_eq.1 hj with h | h; (· exact hi2 j h); (· subst h; exact F9 hnd (by omega) (by assumption) (by exact .inl (by assumption)) (by omega) (by omega))⟩, (by omega), ⟨rfl, rfl, trivial⟩⟩
         iterate 5 refine C3 rfl rfl rfl ?_
         refine gT rfl rfl <| B5 rfl rfl rfl rfl <| B8 rfl rfl rfl rfl <| xN [0,3,80] [] rfl ?_
         refine A7 rfl (fun hc => absurd hc (by simp_all)) (fun hc => ?_)
         refine B7 <| A0 <| A3 rfl rfl <| D7 rfl rfl (C5 (by omega)) <| A5 rfl rfl rfl <| xN [0,3] [] rfl ?_
         refine ⟨i + 1, ⟨by omega, fun j hj => by rcases Nat.lt_succ_iff_lt_or_eq.1 hj with h | h; (· exact hi2 j h); (· subst h; exact F9 hnd (by omega) (by assumption) (by exact .inl (by assumption)) (by omega) (by omega))⟩, (by omega), ⟨rfl, rfl, trivial⟩⟩
        refine C3 rfl rfl rfl <| C3 rfl rfl rfl ?_
        iterate 6 refine D4 rfl rfl ?_
        refine C3 rfl rfl rfl <| B8 rfl rfl rfl rfl <| xN [0,3,80] [] rfl ?_
        refine A7 rfl (fun hc => ?_) (fun hc => absurd hc (by decide))
        refine A4 <| A0 <| A5 rfl rfl rfl <| xN [2] [] rfl <| C2 <| C4 rfl rfl trivial ?_
        exact congrArg bV (E3 (i := i) (by omega) (G2 hnd (by omega) (by omega))).symm
       refine gF rfl rfl <| gF rfl rfl <| gT rfl rfl <| B5 rfl (by assumption) rfl rfl <| B8 rfl rfl rfl rfl <| A3 rfl rfl <| gT rfl rfl <| A3 rfl rfl <| gT rfl rfl <| H8 rfl rfl <| gT rfl rfl <| A3 rfl rfl ?_
       refine B1 rfl rfl ?_ ?_ <;> intro hg0 <;> have hg := hg0 <;> try simp only [SG] at hg
       ·refine B0 rfl rfl (dT rfl) rfl rfl <| gT rfl rfl <| B4 rfl rfl rfl rfl rfl rfl <| gT rfl rfl <| A3 rfl rfl <| gT rfl rfl <| I1 rfl rfl (C5 (by omega)) <| gT rfl rfl ?_
        apply xC rfl
        ·apply A9
         ·exact B2 rfl
         apply A9
         ·exact B2 rfl
         apply A9
         ·exact B2 rfl
         exact C6
        ·exact G0 _ _ _
        refine ⟨⟨rfl, rfl, rfl, dT rfl, rfl⟩, .inl rfl, B9, C1 rfl, fun _ => rfl, fun g77 => ?_⟩
        refine gT rfl rfl <| H7 rfl <| gT rfl rfl <| B8 rfl (by assumption) rfl rfl <| B8 rfl rfl rfl rfl <| xN [0,3,80] [] rfl ?_
        refine A7 rfl ?_ ?_ <;> intro hc <;> try simp only [SL] at hc
        ·refine A4 <| A0 <| A5 rfl rfl rfl <| xN [2] [] rfl <| C2 <| C4 rfl rfl trivial ?_
         exact congrArg bV (E3 (i := i) (by omega) (G2 hnd (by omega) (by omega))).symm
        refine B7 <| A0 <| A3 rfl rfl <| D7 rfl rfl (C5 (by omega)) <| A5 rfl rfl rfl <| xN [0,3] [] rfl ?_
        refine ⟨i + 1, ⟨by omega, fun j hj => by rcases Nat.lt_succ_iff_lt_or_eq.1 hj with h | h; (· exact hi2 j h); (· subst h; exact F9 hnd (by omega) (by assumption) (by exact .inl (by assumption)) (by omega) (by omega))⟩, (by omega), ⟨rfl, rfl, trivial⟩⟩
       iterate 5 refine C3 rfl rfl rfl ?_
       refine gT rfl rfl <| B5 rfl rfl rfl rfl <| B8 rfl rfl rfl rfl <| xN [0,3,80] [] rfl ?_
       refine A7 rfl (fun hc => absurd hc (by simp_all)) (fun hc => ?_)
       refine B7 <| A0 <| A3 rfl rfl <| D7 rfl rfl (C5 (by omega)) <| A5 rfl rfl rfl <| xN [0,3] [] rfl ?_
       refine ⟨i + 1, ⟨by omega, fun j hj => by rcases Nat.lt_succ_iff_lt_or_eq.1 hj with h | h; (· exact hi2 j h); (· subst h; exact F9 hnd (by omega) (by assumption) (by exact .inl (by assumption)) (by omega) (by omega))⟩, (by omega), ⟨rfl, rfl, trivial⟩⟩
      refine C3 rfl rfl rfl <| C3 rfl rfl rfl <| D4 rfl rfl <| D4 rfl rfl <| D4 rfl rfl <| C3 rfl rfl rfl <| B8 rfl rfl rfl rfl <| A3 rfl rfl <| C3 rfl rfl rfl <| C3 rfl rfl rfl <| C3 rfl rfl rfl ?_
      iterate 6 refine D4 rfl rfl ?_
      refine C3 rfl rfl rfl <| B8 rfl rfl rfl rfl <| xN [0,3,80] [] rfl ?_
      refine A7 rfl (fun hc => ?_) (fun hc => absurd hc (by decide))
      refine A4 <| A0 <| A5 rfl rfl rfl <| xN [2] [] rfl <| C2 <| C4 rfl rfl trivial ?_
      exact congrArg bV (E3 (i := i) (by omega) (G2 hnd (by omega) (by omega))).symm
     iterate 5 refine C3 rfl rfl rfl ?_
     refine C0 rfl rfl rfl <| B5 rfl rfl rfl rfl <| B5 rfl rfl rfl rfl <| A3 rfl rfl <| C0 rfl rfl rfl <| A3 rfl rfl <| C0 rfl rfl rfl <| G7 rfl rfl <| C0 rfl rfl rfl <| A3 rfl rfl ?_
     refine B1 rfl rfl ?_ ?_ <;> intro hg0 <;> have hg := hg0 <;> try simp only [SG] at hg
     ·refine B0 rfl rfl (dT rfl) rfl rfl <| gT rfl rfl <| B4 rfl rfl rfl rfl rfl rfl <| gT rfl rfl <| N5 rfl rfl <| C0 rfl rfl rfl <| B8 rfl rfl rfl rfl <| B5 rfl rfl rfl rfl <| A3 rfl rfl ?_
      refine B1 rfl rfl ?_ ?_ <;> intro hg0 <;> have hg := hg0 <;> try simp only [SG] at hg
      ·refine A3 rfl rfl <| gT rfl rfl <| H8 rfl rfl <| gT rfl rfl <| A3 rfl rfl ?_
       refine B1 rfl rfl ?_ ?_ <;> intro hg0 <;> have hg := hg0 <;> try simp only [SG] at hg
       ·refine B0 rfl rfl (dT rfl) rfl rfl <| gT rfl rfl <| B4 rfl rfl rfl rfl rfl rfl <| gT rfl rfl <| A3 rfl rfl <| gT rfl rfl <| I1 rfl rfl (C5 (by omega)) <| gT rfl rfl ?_
        apply xC rfl
        ·apply A9
         ·exact B2 rfl
         apply A9
         ·exact B2 rfl
         apply A9
         ·exact B2 rfl
         exact C6
        ·exact G0 _ _ _
        refine ⟨⟨rfl, rfl, rfl, dT rfl, rfl⟩, .inl rfl, B9, C1 rfl, fun _ => rfl, fun g77 => ?_⟩
        refine gT rfl rfl <| H7 rfl <| gT rfl rfl <| B8 rfl (by assumption) rfl rfl <| B5 rfl (by assumption) rfl rfl <| xN [0,3,80] [] rfl ?_
        refine A7 rfl ?_ ?_ <;> intro hc <;> try simp only [SL] at hc
        ·refine A4 <| A0 <| A5 rfl rfl rfl <| xN [2] [] rfl <| C2 <| C4 rfl rfl trivial ?_
         exact congrArg bV (E3 (i := i) (by omega) (G2 hnd (by omega) (by omega))).symm
        refine B7 <| A0 <| A3 rfl rfl <| D7 rfl rfl (C5 (by omega)) <| A5 rfl rfl rfl <| xN [0,3] [] rfl ?_
        refine ⟨i + 1, ⟨by omega, fun j hj => by rcases Nat.lt_succ_iff_lt_or_eq.1 hj with h | h; (· exact hi2 j h); (· subst h; exact F9 hnd (by omega) (by assumption) (by exact .inl (by assumption)) (by omega) (by omega))⟩, (by omega), ⟨rfl, rfl, trivial⟩⟩
       iterate 5 refine C3 rfl rfl rfl ?_
       refine gT rfl rfl <| B5 rfl rfl rfl rfl <| B5 rfl (by assumption) rfl rfl <| xN [0,3,80] [] rfl ?_
       refine A7 rfl (fun hc => absurd hc (by decide)) (fun hc => ?_)
       refine B7 <| A0 <| A3 rfl rfl <| D7 rfl rfl (C5 (by omega)) <| A5 rfl rfl rfl <| xN [0,3] [] rfl ?_
       refine ⟨i + 1, ⟨by omega, fun j hj => by rcases Nat.lt_succ_iff_lt_or_eq.1 hj with h | h; (· exact hi2 j h); (· subst h; exact absurd trivial (by assumption))⟩, (by omega), ⟨rfl, rfl, trivial⟩⟩
      refine gF rfl rfl <| gF rfl rfl ?_
      iterate 6 refine D4 rfl rfl ?_
      refine gF rfl rfl <| B8 rfl (by assumption) rfl rfl <| xN [0,3,80] [] rfl ?_
      refine A7 rfl (fun hc => ?_) (fun hc => absurd hc (by decide))
      refine A4 <| A0 <| A5 rfl rfl rfl <| xN [2] [] rfl <| C2 <| C4 rfl rfl trivial ?_
      exact congrArg bV (E3 (i := i) (by omega) (G2 hnd (by omega) (by omega))).symm
     refine gF rfl rfl <| gF rfl rfl <| C0 rfl rfl rfl <| B5 rfl (by assumption) rfl rfl <| B5 rfl rfl rfl rfl <| A3 rfl rfl <| C0 rfl rfl rfl <| A3 rfl rfl <| C0 rfl rfl rfl <| H8 rfl rfl <| C0 rfl rfl rfl <| A3 rfl rfl ?_
     refine B1 rfl rfl ?_ ?_ <;> intro hg0 <;> have hg := hg0 <;> try simp only [SG] at hg
     ·refine B0 rfl rfl (dT rfl) rfl rfl <| gT rfl rfl <| B4 rfl rfl rfl rfl rfl rfl <| gT rfl rfl <| A3 rfl rfl <| gT rfl rfl <| I1 rfl rfl (C5 (by omega)) <| gT rfl rfl ?_
      apply xC rfl
      ·apply A9
       ·exact B2 rfl
       apply A9
       ·exact B2 rfl
       apply A9
       ·exact B2 rfl
       exact C6
      ·exact G0 _ _ _
      refine ⟨⟨rfl, rfl, rfl, dT rfl, rfl⟩, .inl rfl, B9, C1 rfl, fun _ => rfl, fun g77 => ?_⟩
      refine gT rfl rfl <| H7 rfl <| C0 rfl rfl rfl <| B8 rfl (by assumption) rfl rfl <| B8 rfl (by assumption) rfl rfl <| xN [0,3,80] [] rfl ?_
      refine A7 rfl ?_ ?_ <;> intro hc <;> try simp only [SL] at hc
      ·refine A4 <| A0 <| A5 rfl rfl rfl <| xN [2] [] rfl <| C2 <| C4 rfl rfl trivial ?_
       exact congrArg bV (E3 (i := i) (by omega) (G2 hnd (by omega) (by omega))).symm
      refine B7 <| A0 <| A3 rfl rfl <| D7 rfl rfl (C5 (by omega)) <| A5 rfl rfl rfl <| xN [0,3] [] rfl ?_
      refine ⟨i + 1, ⟨by omega, fun j hj => by rcases Nat.lt_succ_iff_lt_or_eq.1 hj with h | h; (· exact hi2 j h); (· subst h; exact F9 hnd (by omega) (by assumption) (by exact .inl (by assumption)) (by omega) (by omega))⟩, (by omega), ⟨rfl, rfl, trivial⟩⟩
     iterate 5 refine C3 rfl rfl rfl ?_
     refine C0 rfl rfl rfl <| B5 rfl rfl rfl rfl <| B5 rfl rfl rfl rfl <| xN [0,3,80] [] rfl ?_
     refine A7 rfl (fun hc => absurd hc (by decide)) (fun hc => ?_)
     refine B7 <| A0 <| A3 rfl rfl <| D7 rfl rfl (C5 (by omega)) <| A5 rfl rfl rfl <| xN [0,3] [] rfl ?_
     refine ⟨i + 1, ⟨by omega, fun j hj => by rcases Nat.lt_succ_iff_lt_or_eq.1 hj with h | h; (· exact hi2 j h); (· subst h; exact F9 hnd (by omega) (by assumption) (by exact .inl (by assumption)) (by omega) (by omega))⟩, (by omega), ⟨rfl, rfl, trivial⟩⟩
    refine gF rfl rfl <| gF rfl rfl <| gF rfl rfl <| D4 rfl rfl <| D4 rfl rfl <| D4 rfl rfl <| D4 rfl rfl <| gF rfl rfl <| B8 rfl (by assumption) rfl rfl <| xN [0,3,4,5,40] [4] rfl ?_
    refine A7 rfl (fun hc => ?_) (fun hc => absurd hc (by decide))
    refine A4 <| A0 <| A5 rfl rfl rfl <| xN [2] [] rfl <| C2 <| C4 rfl rfl trivial ?_
    exact congrArg bV (E3 (i := i) (by omega) (a1w (by exact .inr (.inr (by assumption))))).symm
   refine gF rfl rfl <| gF rfl rfl <| gF rfl rfl <| B8 rfl (by assumption) rfl rfl <| A3 rfl rfl ?_
   iterate 4 refine C3 rfl rfl rfl ?_
   refine D4 rfl rfl <| D4 rfl rfl <| D4 rfl rfl <| D4 rfl rfl <| C3 rfl rfl rfl <| B8 rfl rfl rfl rfl <| xN [0,3,4,5,40] [4] rfl ?_
   refine A7 rfl (fun hc => ?_) (fun hc => absurd hc (by decide))
   refine A4 <| A0 <| A5 rfl rfl rfl <| xN [2] [] rfl <| C2 <| C4 rfl rfl trivial ?_
   exact congrArg bV (E3 (i := i) (by omega) (a1w (by exact .inl (by omega)))).symm
  have hnd : nd (ss.getD i default).op = rch (ss.getD i default).op := a8u _ hc
  refine B7 <| A4 <| A4 <| A0 <| A3 rfl rfl <| G7 rfl rfl <| A3 rfl rfl ?_
  refine B1 rfl rfl ?_ ?_ <;> intro hg0 <;> have hg := hg0 <;> try simp only [SG] at hg
  ·refine B0 rfl rfl (dT rfl) rfl rfl <| gT rfl rfl <| B4 rfl rfl rfl rfl rfl rfl <| gT rfl rfl ?_
   apply xC rfl
   ·apply A9
    ·exact B2 rfl
    exact C6
   ·exact a1g (ss.getD i default).ns (by have := hsz (by omega); omega)
   refine ⟨⟨rfl, rfl, rfl, dT rfl, rfl⟩, .inl rfl, B9, C1 rfl, fun _ => rfl, fun g27 => ?_⟩
   refine gT rfl rfl <| H7 rfl <| B5 rfl (by assumption) rfl rfl <| A3 rfl rfl ?_
   refine B1 rfl rfl ?_ ?_ <;> intro hg0 <;> have hg := hg0 <;> try simp only [SG] at hg
   ·refine B0 rfl rfl (dT rfl) rfl rfl <| gT rfl rfl <| B4 rfl rfl rfl rfl rfl rfl <| gT rfl rfl <| b0e rfl rfl <| gT rfl rfl <| A3 rfl rfl ?_
    refine B1 rfl rfl ?_ ?_ <;> intro hg0 <;> have hg := hg0 <;> try simp only [SG] at hg
    ·refine B0 rfl rfl (dT rfl) rfl rfl <| gT rfl rfl <| B4 rfl rfl rfl rfl rfl rfl <| gT rfl rfl <| D9 rfl rfl <| gT rfl rfl <| N0 rfl rfl <| gT rfl rfl <| B8 rfl (by assumption) rfl rfl <| B5 rfl (by assumption) rfl rfl <| xN [0,3,4,5,40] [4] rfl ?_
     refine A7 rfl ?_ ?_ <;> intro hc <;> try simp only [SL] at hc
     ·refine A4 <| A0 <| A5 rfl rfl rfl <| xN [2] [] rfl <| C2 <| C4 rfl rfl trivial ?_
      exact congrArg bV (E3 (i := i) (by omega) (a1w (by exact .inr (.inl ⟨by assumption, by omega⟩)))).symm
     refine B7 <| A4 <| A0 <| A3 rfl rfl <| H8 rfl rfl <| A3 rfl rfl ?_
     refine B1 rfl rfl ?_ ?_ <;> intro hg0 <;> have hg := hg0 <;> try simp only [SG] at hg
     ·refine B0 rfl rfl (dT rfl) rfl rfl <| gT rfl rfl <| B4 rfl rfl rfl rfl rfl rfl <| gT rfl rfl <| N5 rfl rfl <| B8 rfl (by assumption) rfl rfl <| A3 rfl rfl ?_
      refine B1 rfl rfl ?_ ?_ <;> intro hg0 <;> have hg := hg0 <;> try simp only [SG] at hg
      ·refine A3 rfl rfl <| gT rfl rfl <| N0 rfl rfl <| gT rfl rfl <| A3 rfl rfl ?_
       refine B1 rfl rfl ?_ ?_ <;> intro hg0 <;> have hg := hg0 <;> try simp only [SG] at hg
       ·refine B0 rfl rfl (dT rfl) rfl rfl <| gT rfl rfl <| B4 rfl rfl rfl rfl rfl rfl <| gT rfl rfl <| A3 rfl rfl <| gT rfl rfl <| I1 rfl rfl (C5 (by omega)) <| gT rfl rfl ?_
        apply xC rfl
        ·apply A9
         ·exact B2 rfl
         apply A9
         ·exact B2 rfl
         apply A9
         ·exact B2 rfl
         exact C6
        ·exact G0 _ _ _
        refine ⟨⟨rfl, rfl, rfl, dT rfl, rfl⟩, .inl rfl, B9, C1 rfl, fun _ => rfl, fun g56 => ?_⟩
        refine gT rfl rfl <| H7 rfl <| gT rfl rfl <| B8 rfl (by assumption) rfl rfl <| B5 rfl (by assumption) rfl rfl <| A3 rfl rfl ?_
        refine B1 rfl rfl ?_ ?_ <;> intro hg0 <;> have hg := hg0 <;> try simp only [SG] at hg
        ·refine A3 rfl rfl <| gT rfl rfl <| G7 rfl rfl <| gT rfl rfl <| A3 rfl rfl ?_
         refine B1 rfl rfl ?_ ?_ <;> intro hg0 <;> have hg := hg0 <;> try simp only [SG] at hg
         ·refine B0 rfl rfl (dT rfl) rfl rfl <| gT rfl rfl <| B4 rfl rfl rfl rfl rfl rfl <| gT rfl rfl <| N5 rfl rfl <| gT rfl rfl <| B8 rfl (by assumption) rfl rfl <| B5 rfl (by assumption) rfl rfl <| A3 rfl rfl ?_
          refine B1 rfl rfl ?_ ?_ <;> intro hg0 <;> have hg := hg0 <;> try simp only [SG] at hg
          ·refine A3 rfl rfl <| gT rfl rfl <| H8 rfl rfl <| gT rfl rfl <| A3 rfl rfl ?_
           refine B1 rfl rfl ?_ ?_ <;> intro hg0 <;> have hg := hg0 <;> try simp only [SG] at hg
           ·refine B0 rfl rfl (dT rfl) rfl rfl <| gT rfl rfl <| B4 rfl rfl rfl rfl rfl rfl <| gT rfl rfl <| A3 rfl rfl <| gT rfl rfl <| I1 rfl rfl (C5 (by omega)) <| gT rfl rfl ?_
            apply xC rfl
            ·apply A9
             ·exact B2 rfl
             apply A9
             ·exact B2 rfl
             apply A9
             ·exact B2 rfl
             exact C6
            ·exact G0 _ _ _
            refine ⟨⟨rfl, rfl, rfl, dT rfl, rfl⟩, .inl rfl, B9, C1 rfl, fun _ => rfl, fun g77 => ?_⟩
            refine gT rfl rfl <| H7 rfl <| gT rfl rfl <| B8 rfl (by assumption) rfl rfl <| B5 rfl (by assumption) rfl rfl <| xN [0,3,80] [] rfl ?_
            refine A7 rfl ?_ ?_ <;> intro hc <;> try simp only [SL] at hc
            ·refine A4 <| A0 <| A5 rfl rfl rfl <| xN [2] [] rfl <| C2 <| C4 rfl rfl trivial ?_
             exact congrArg bV (E3 (i := i) (by omega) (G2 hnd (by omega) (by omega))).symm
            refine B7 <| A0 <| A3 rfl rfl <| D7 rfl rfl (C5 (by omega)) <| A5 rfl rfl rfl <| xN [0,3] [] rfl ?_
            refine ⟨i + 1, ⟨by omega, fun j hj => by rcases Nat.lt_succ_iff_lt_or_eq.1 hj with h | h; (· exact hi2 j h); (· subst h; exact F9 hnd (by omega) (by assumption) (by exact .inr (by omega)) (by omega) (by omega))⟩, (by omega), ⟨rfl, rfl, trivial⟩⟩
           iterate 5 refine gF rfl rfl ?_
           refine gT rfl rfl <| B5 rfl (by assumption) rfl rfl <| B5 rfl (by assumption) rfl rfl <| xN [0,3,80] [] rfl ?_
           refine A7 rfl (fun hc => absurd hc (by decide)) (fun hc => ?_)
           refine B7 <| A0 <| A3 rfl rfl <| D7 rfl rfl (C5 (by omega)) <| A5 rfl rfl rfl <| xN [0,3] [] rfl ?_
           refine ⟨i + 1, ⟨by omega, fun j hj => by rcases Nat.lt_succ_iff_lt_or_eq.1 hj with h | h; (· exact hi2 j h); (· subst h; exact F9 hnd (by omega) (by assumption) (by exact .inr (by omega)) (by omega) (by omega))⟩, (by omega), ⟨rfl, rfl, trivial⟩⟩
          refine gF rfl rfl <| gF rfl rfl ?_
          iterate 6 refine D4 rfl rfl ?_
          refine gF rfl rfl <| B8 rfl (by assumption) rfl rfl <| xN [0,3,80] [] rfl ?_
          refine A7 rfl (fun hc => ?_) (fun hc => absurd hc (by decide))
          refine A4 <| A0 <| A5 rfl rfl rfl <| xN [2] [] rfl <| C2 <| C4 rfl rfl trivial ?_
          exact congrArg bV (E3 (i := i) (by omega) (G2 hnd (by omega) (by omega))).symm
         refine gF rfl rfl <| gF rfl rfl <| gT rfl rfl <| B5 rfl (by assumption) rfl rfl <| B5 rfl (by assumption) rfl rfl <| A3 rfl rfl <| C0 rfl rfl rfl <| A3 rfl rfl <| C0 rfl rfl rfl <| H8 rfl rfl <| C0 rfl rfl rfl <| A3 rfl rfl ?_
         refine B1 rfl rfl ?_ ?_ <;> intro hg0 <;> have hg := hg0 <;> try simp only [SG] at hg
         ·refine B0 rfl rfl (dT rfl) rfl rfl <| gT rfl rfl <| B4 rfl rfl rfl rfl rfl rfl <| gT rfl rfl <| A3 rfl rfl <| gT rfl rfl <| I1 rfl rfl (C5 (by omega)) <| gT rfl rfl ?_
          apply xC rfl
          ·apply A9
           ·exact B2 rfl
           apply A9
           ·exact B2 rfl
           apply A9
           ·exact B2 rfl
           exact C6
          ·exact G0 _ _ _
          refine ⟨⟨rfl, rfl, rfl, dT rfl, rfl⟩, .inl rfl, B9, C1 rfl, fun _ => rfl, fun g77 => ?_⟩
          refine gT rfl rfl <| H7 rfl <| C0 rfl rfl rfl <| B8 rfl (by assumption) rfl rfl <| B5 rfl rfl rfl rfl <| xN [0,3,80] [] rfl ?_
          refine A7 rfl ?_ ?_ <;> intro hc <;> try simp only [SL] at hc
          ·refine A4 <| A0 <| A5 rfl rfl rfl <| xN [2] [] rfl <| C2 <| C4 rfl rfl trivial ?_
           exact congrArg bV (E3 (i := i) (by omega) (G2 hnd (by omega) (by omega))).symm
          refine B7 <| A0 <| A3 rfl rfl <| D7 rfl rfl (C5 (by omega)) <| A5 rfl rfl rfl <| xN [0,3] [] rfl ?_
          refine ⟨i + 1, ⟨by omega, fun j hj => by rcases Nat.lt_succ_iff_lt_or_eq.1 hj with h | h; (· exact hi2 j h); (· subst h; exact F9 hnd (by omega) (by assumption) (by exact .inr (by omega)) (by omega) (by omega))⟩, (by omega), ⟨rfl, rfl, trivial⟩⟩
         iterate 5 refine gF rfl rfl ?_
         refine C0 rfl rfl rfl <| B5 rfl (by assumption) rfl rfl <| B5 rfl rfl rfl rfl <| xN [0,3,80] [] rfl ?_
         refine A7 rfl (fun hc => absurd hc (by decide)) (fun hc => ?_)
         refine B7 <| A0 <| A3 rfl rfl <| D7 rfl rfl (C5 (by omega)) <| A5 rfl rfl rfl <| xN [0,3] [] rfl ?_
         refine ⟨i + 1, ⟨by omega, fun j hj => by rcases Nat.lt_succ_iff_lt_or_eq.1 hj with h | h; (· exact hi2 j h); (· subst h; exact F9 hnd (by omega) (by assumption) (by exact .inr (by omega)) (by omega) (by omega))⟩, (by omega), ⟨rfl, rfl, trivial⟩⟩
        refine gF rfl rfl <| gF rfl rfl <| D4 rfl rfl <| D4 rfl rfl <| D4 rfl rfl <| gF rfl rfl <| B8 rfl (by assumption) rfl rfl <| A3 rfl rfl <| C3 rfl rfl rfl <| C3 rfl rfl rfl <| C3 rfl rfl rfl ?_
        iterate 6 refine D4 rfl rfl ?_
        refine C3 rfl rfl rfl <| B8 rfl rfl rfl rfl <| xN [0,3,80] [] rfl ?_
        refine A7 rfl (fun hc => ?_) (fun hc => absurd hc (by decide))
        refine A4 <| A0 <| A5 rfl rfl rfl <| xN [2] [] rfl <| C2 <| C4 rfl rfl trivial ?_
        exact congrArg bV (E3 (i := i) (by omega) (G2 hnd (by omega) (by omega))).symm
       iterate 5 refine gF rfl rfl ?_
       refine gT rfl rfl <| B5 rfl (by assumption) rfl rfl <| B5 rfl (by assumption) rfl rfl <| A3 rfl rfl <| C0 rfl rfl rfl <| A3 rfl rfl <| C0 rfl rfl rfl <| G7 rfl rfl <| C0 rfl rfl rfl <| A3 rfl rfl ?_
       refine B1 rfl rfl ?_ ?_ <;> intro hg0 <;> have hg := hg0 <;> try simp only [SG] at hg
       ·refine B0 rfl rfl (dT rfl) rfl rfl <| gT rfl rfl <| B4 rfl rfl rfl rfl rfl rfl <| gT rfl rfl <| N5 rfl rfl <| C0 rfl rfl rfl <| B8 rfl (by assumption) rfl rfl <| B5 rfl rfl rfl rfl <| A3 rfl rfl ?_
        refine B1 rfl rfl ?_ ?_ <;> intro hg0 <;> have hg := hg0 <;> try simp only [SG] at hg
        ·refine A3 rfl rfl <| gT rfl rfl <| H8 rfl rfl <| gT rfl rfl <| A3 rfl rfl ?_
         refine B1 rfl rfl ?_ ?_ <;> intro hg0 <;> have hg := hg0 <;> try simp only [SG] at hg
         ·refine B0 rfl rfl (dT rfl) rfl rfl <| gT rfl rfl <| B4 rfl rfl rfl rfl rfl rfl <| gT rfl rfl <| A3 rfl rfl <| gT rfl rfl <| I1 rfl rfl (C5 (by omega)) <| gT rfl rfl ?_
          apply xC rfl
          ·apply A9
           ·exact B2 rfl
           apply A9
           ·exact B2 rfl
           apply A9
           ·exact B2 rfl
           exact C6
          ·exact G0 _ _ _
          refine ⟨⟨rfl, rfl, rfl, dT rfl, rfl⟩, .inl rfl, B9, C1 rfl, fun _ => rfl, fun g77 => ?_⟩
          refine gT rfl rfl <| H7 rfl <| gT rfl rfl <| B8 rfl (by assumption) rfl rfl <| B5 rfl (by assumption) rfl rfl <| xN [0,3,80] [] rfl ?_
          refine A7 rfl ?_ ?_ <;> intro hc <;> try simp only [SL] at hc
          ·refine A4 <| A0 <| A5 rfl rfl rfl <| xN [2] [] rfl <| C2 <| C4 rfl rfl trivial ?_
           exact congrArg bV (E3 (i := i) (by omega) (G2 hnd (by omega) (by omega))).symm
          refine B7 <| A0 <| A3 rfl rfl <| D7 rfl rfl (C5 (by omega)) <| A5 rfl rfl rfl <| xN [0,3] [] rfl ?_
          refine ⟨i + 1, ⟨by omega, fun j hj => by rcases Nat.lt_succ_iff_lt_or_eq.1 hj with h | h; (· exact hi2 j h); (· subst h; exact F9 hnd (by omega) (by assumption) (by exact .inr (by omega)) (by omega) (by omega))⟩, (by omega), ⟨rfl, rfl, trivial⟩⟩
         iterate 5 refine gF rfl rfl ?_
         refine gT rfl rfl <| B5 rfl (by assumption) rfl rfl <| B5 rfl (by assumption) rfl rfl <| xN [0,3,80] [] rfl ?_
         refine A7 rfl (fun hc => absurd hc (by decide)) (fun hc => ?_)
         refine B7 <| A0 <| A3 rfl rfl <| D7 rfl rfl (C5 (by omega)) <| A5 rfl rfl rfl <| xN [0,3] [] rfl ?_
         refine ⟨i + 1, ⟨by omega, fun j hj => by rcases Nat.lt_succ_iff_lt_or_eq.1 hj with h | h; (· exact hi2 j h); (· subst h; exact F9 hnd (by omega) (by assumption) (by exact .inr (by omega)) (by omega) (by omega))⟩, (by omega), ⟨rfl, rfl, trivial⟩⟩
        refine gF rfl rfl <| gF rfl rfl ?_
        iterate 6 refine D4 rfl rfl ?_
        refine gF rfl rfl <| B8 rfl (by assumption) rfl rfl <| xN [0,3,80] [] rfl ?_
        refine A7 rfl (fun hc => ?_) (fun hc => absurd hc (by decide))
        refine A4 <| A0 <| A5 rfl rfl rfl <| xN [2] [] rfl <| C2 <| C4 rfl rfl trivial ?_
        exact congrArg bV (E3 (i := i) (by omega) (G2 hnd (by omega) (by omega))).symm
       refine gF rfl rfl <| gF rfl rfl <| C0 rfl rfl rfl <| B5 rfl (by assumption) rfl rfl <| B5 rfl rfl rfl rfl <| A3 rfl rfl <| C0 rfl rfl rfl <| A3 rfl rfl <| C0 rfl rfl rfl <| H8 rfl rfl <| C0 rfl rfl rfl <| A3 rfl rfl ?_
       refine B1 rfl rfl ?_ ?_ <;> intro hg0 <;> have hg := hg0 <;> try simp only [SG] at hg
       ·refine B0 rfl rfl (dT rfl) rfl rfl <| gT rfl rfl <| B4 rfl rfl rfl rfl rfl rfl <| gT rfl rfl <| A3 rfl rfl <| gT rfl rfl <| I1 rfl rfl (C5 (by omega)) <| gT rfl rfl ?_
        apply xC rfl
        ·apply A9
         ·exact B2 rfl
         apply A9
         ·exact B2 rfl
         apply A9
         ·exact B2 rfl
         exact C6
        ·exact G0 _ _ _
        refine ⟨⟨rfl, rfl, rfl, dT rfl, rfl⟩, .inl rfl, B9, C1 rfl, fun _ => rfl, fun g77 => ?_⟩
        refine gT rfl rfl <| H7 rfl <| C0 rfl rfl rfl <| B8 rfl (by assumption) rfl rfl <| B5 rfl rfl rfl rfl <| xN [0,3,80] [] rfl ?_
        refine A7 rfl ?_ ?_ <;> intro hc <;> try simp only [SL] at hc
        ·refine A4 <| A0 <| A5 rfl rfl rfl <| xN [2] [] rfl <| C2 <| C4 rfl rfl trivial ?_
         exact congrArg bV (E3 (i := i) (by omega) (G2 hnd (by omega) (by omega))).symm
        refine B7 <| A0 <| A3 rfl rfl <| D7 rfl rfl (C5 (by omega)) <| A5 rfl rfl rfl <| xN [0,3] [] rfl ?_
        refine ⟨i + 1, ⟨by omega, fun j hj => by rcases Nat.lt_succ_iff_lt_or_eq.1 hj with h | h; (· exact hi2 j h); (· subst h; exact F9 hnd (by omega) (by assumption) (by exact .inr (by omega)) (by omega) (by omega))⟩, (by omega), ⟨rfl, rfl, trivial⟩⟩
       iterate 5 refine gF rfl rfl ?_
       refine C0 rfl rfl rfl <| B5 rfl (by assumption) rfl rfl <| B5 rfl rfl rfl rfl <| xN [0,3,80] [] rfl ?_
       refine A7 rfl (fun hc => absurd hc (by decide)) (fun hc => ?_)
       refine B7 <| A0 <| A3 rfl rfl <| D7 rfl rfl (C5 (by omega)) <| A5 rfl rfl rfl <| xN [0,3] [] rfl ?_
       refine ⟨i + 1, ⟨by omega, fun j hj => by rcases Nat.lt_succ_iff_lt_or_eq.1 hj with h | h; (· exact hi2 j h); (· subst h; exact F9 hnd (by omega) (by assumption) (by exact .inr (by omega)) (by omega) (by omega))⟩, (by omega), ⟨rfl, rfl, trivial⟩⟩
      refine gF rfl rfl <| gF rfl rfl ?_
      iterate 6 refine D4 rfl rfl ?_
      refine gF rfl rfl <| B8 rfl (by assumption) rfl rfl <| A3 rfl rfl <| C3 rfl rfl rfl <| C3 rfl rfl rfl <| C3 rfl rfl rfl <| D4 rfl rfl <| D4 rfl rfl <| D4 rfl rfl <| C3 rfl rfl rfl <| B8 rfl rfl rfl rfl <| A3 rfl rfl <| C3 rfl rfl rfl <| C3 rfl rfl rfl <| C3 rfl rfl rfl ?_
      iterate 6 refine D4 rfl rfl ?_
      refine C3 rfl rfl rfl <| B8 rfl rfl rfl rfl <| xN [0,3,80] [] rfl ?_
      refine A7 rfl (fun hc => ?_) (fun hc => absurd hc (by decide))
      refine A4 <| A0 <| A5 rfl rfl rfl <| xN [2] [] rfl <| C2 <| C4 rfl rfl trivial ?_
      exact congrArg bV (E3 (i := i) (by omega) (G2 hnd (by omega) (by omega))).symm
     refine gF rfl rfl <| gF rfl rfl <| B5 rfl (by assumption) rfl rfl <| A3 rfl rfl <| C0 rfl rfl rfl <| A3 rfl rfl <| C0 rfl rfl rfl <| N0 rfl rfl <| C0 rfl rfl rfl <| A3 rfl rfl ?_
     refine B1 rfl rfl ?_ ?_ <;> intro hg0 <;> have hg := hg0 <;> try simp only [SG] at hg
     ·refine B0 rfl rfl (dT rfl) rfl rfl <| gT rfl rfl <| B4 rfl rfl rfl rfl rfl rfl <| gT rfl rfl <| A3 rfl rfl <| gT rfl rfl <| I1 rfl rfl (C5 (by omega)) <| gT rfl rfl ?_
      apply xC rfl
      ·apply A9
       ·exact B2 rfl
       apply A9
       ·exact B2 rfl
       apply A9
       ·exact B2 rfl
       exact C6
      ·exact G0 _ _ _
      refine ⟨⟨rfl, rfl, rfl, dT rfl, rfl⟩, .inl rfl, B9, C1 rfl, fun _ => rfl, fun g56 => ?_⟩
      refine gT rfl rfl <| H7 rfl <| C0 rfl rfl rfl <| B8 rfl (by assumption) rfl rfl <| B5 rfl rfl rfl rfl <| A3 rfl rfl ?_
      refine B1 rfl rfl ?_ ?_ <;> intro hg0 <;> have hg := hg0 <;> try simp only [SG] at hg
      ·refine A3 rfl rfl <| gT rfl rfl <| G7 rfl rfl <| gT rfl rfl <| A3 rfl rfl ?_
       refine B1 rfl rfl ?_ ?_ <;> intro hg0 <;> have hg := hg0 <;> try simp only [SG] at hg
       ·refine B0 rfl rfl (dT rfl) rfl rfl <| gT rfl rfl <| B4 rfl rfl rfl rfl rfl rfl <| gT rfl rfl <| N5 rfl rfl <| gT rfl rfl <| B8 rfl (by assumption) rfl rfl <| B5 rfl (by assumption) rfl rfl <| A3 rfl rfl ?_
        refine B1 rfl rfl ?_ ?_ <;> intro hg0 <;> have hg := hg0 <;> try simp only [SG] at hg
        ·refine A3 rfl rfl <| gT rfl rfl <| H8 rfl rfl <| gT rfl rfl <| A3 rfl rfl ?_
         refine B1 rfl rfl ?_ ?_ <;> intro hg0 <;> have hg := hg0 <;> try simp only [SG] at hg
         ·refine B0 rfl rfl (dT rfl) rfl rfl <| gT rfl rfl <| B4 rfl rfl rfl rfl rfl rfl <| gT rfl rfl <| A3 rfl rfl <| gT rfl rfl <| I1 rfl rfl (C5 (by omega)) <| gT rfl rfl ?_
          apply xC rfl
          ·apply A9
           ·exact B2 rfl
           apply A9
           ·exact B2 rfl
           apply A9
           ·exact B2 rfl
           exact C6
          ·exact G0 _ _ _
          refine ⟨⟨rfl, rfl, rfl, dT rfl, rfl⟩, .inl rfl, B9, C1 rfl, fun _ => rfl, fun g77 => ?_⟩
          refine gT rfl rfl <| H7 rfl <| gT rfl rfl <| B8 rfl (by assumption) rfl rfl <| B5 rfl (by assumption) rfl rfl <| xN [0,3,80] [] rfl ?_
          refine A7 rfl ?_ ?_ <;> intro hc <;> try simp only [SL] at hc
          ·refine A4 <| A0 <| A5 rfl rfl rfl <| xN [2] [] rfl <| C2 <| C4 rfl rfl trivial ?_
           exact congrArg bV (E3 (i := i) (by omega) (G2 hnd (by omega) (by omega))).symm
          refine B7 <| A0 <| A3 rfl rfl <| D7 rfl rfl (C5 (by omega)) <| A5 rfl rfl rfl <| xN [0,3] [] rfl ?_
          refine ⟨i + 1, ⟨by omega, fun j hj => by rcases Nat.lt_succ_iff_lt_or_eq.1 hj with h | h; (· exact hi2 j h); (· subst h; exact F9 hnd (by omega) (by assumption) (by exact .inr (by omega)) (by omega) (by omega))⟩, (by omega), ⟨rfl, rfl, trivial⟩⟩
         iterate 5 refine gF rfl rfl ?_
         refine gT rfl rfl <| B5 rfl (by assumption) rfl rfl <| B5 rfl (by assumption) rfl rfl <| xN [0,3,80] [] rfl ?_
         refine A7 rfl (fun hc => absurd hc (by decide)) (fun hc => ?_)
         refine B7 <| A0 <| A3 rfl rfl <| D7 rfl rfl (C5 (by omega)) <| A5 rfl rfl rfl <| xN [0,3] [] rfl ?_
         refine ⟨i + 1, ⟨by omega, fun j hj => by rcases Nat.lt_succ_iff_lt_or_eq.1 hj with h | h; (· exact hi2 j h); (· subst h; exact F9 hnd (by omega) (by assumption) (by exact .inr (by omega)) (by omega) (by omega))⟩, (by omega), ⟨rfl, rfl, trivial⟩⟩
        refine gF rfl rfl <| gF rfl rfl ?_
        iterate 6 refine D4 rfl rfl ?_
        refine gF rfl rfl <| B8 rfl (by assumption) rfl rfl <| xN [0,3,80] [] rfl ?_
        refine A7 rfl (fun hc => ?_) (fun hc => absurd hc (by decide))
        refine A4 <| A0 <| A5 rfl rfl rfl <| xN [2] [] rfl <| C2 <| C4 rfl rfl trivial ?_
        exact congrArg bV (E3 (i := i) (by omega) (G2 hnd (by omega) (by omega))).symm
       refine gF rfl rfl <| gF rfl rfl <| gT rfl rfl <| B5 rfl (by assumption) rfl rfl <| B5 rfl (by assumption) rfl rfl <| A3 rfl rfl <| C0 rfl rfl rfl <| A3 rfl rfl <| C0 rfl rfl rfl <| H8 rfl rfl <| C0 rfl rfl rfl <| A3 rfl rfl ?_
       refine B1 rfl rfl ?_ ?_ <;> intro hg0 <;> have hg := hg0 <;> try simp only [SG] at hg
       ·refine B0 rfl rfl (dT rfl) rfl rfl <| gT rfl rfl <| B4 rfl rfl rfl rfl rfl rfl <| gT rfl rfl <| A3 rfl rfl <| gT rfl rfl <| I1 rfl rfl (C5 (by omega)) <| gT rfl rfl ?_
        apply xC rfl
        ·apply A9
         ·exact B2 rfl
         apply A9
         ·exact B2 rfl
         apply A9
         ·exact B2 rfl
         exact C6
        ·exact G0 _ _ _
        refine ⟨⟨rfl, rfl, rfl, dT rfl, rfl⟩, .inl rfl, B9, C1 rfl, fun _ => rfl, fun g77 => ?_⟩
        refine gT rfl rfl <| H7 rfl <| C0 rfl rfl rfl <| B8 rfl (by assumption) rfl rfl <| B5 rfl rfl rfl rfl <| xN [0,3,80] [] rfl ?_
        refine A7 rfl ?_ ?_ <;> intro hc <;> try simp only [SL] at hc
        ·refine A4 <| A0 <| A5 rfl rfl rfl <| xN [2] [] rfl <| C2 <| C4 rfl rfl trivial ?_
         exact congrArg bV (E3 (i := i) (by omega) (G2 hnd (by omega) (by omega))).symm
        refine B7 <| A0 <| A3 rfl rfl <| D7 rfl rfl (C5 (by omega)) <| A5 rfl rfl rfl <| xN [0,3] [] rfl ?_
        refine ⟨i + 1, ⟨by omega, fun j hj => by rcases Nat.lt_succ_iff_lt_or_eq.1 hj with h | h; (· exact hi2 j h); (· subst h; exact F9 hnd (by omega) (by assumption) (by exact .inr (by omega)) (by omega) (by omega))⟩, (by omega), ⟨rfl, rfl, trivial⟩⟩
       iterate 5 refine gF rfl rfl ?_
       refine C0 rfl rfl rfl <| B5 rfl (by assumption) rfl rfl <| B5 rfl rfl rfl rfl <| xN [0,3,80] [] rfl ?_
       refine A7 rfl (fun hc => absurd hc (by decide)) (fun hc => ?_)
       refine B7 <| A0 <| A3 rfl rfl <| D7 rfl rfl (C5 (by omega)) <| A5 rfl rfl rfl <| xN [0,3] [] rfl ?_
       refine ⟨i + 1, ⟨by omega, fun j hj => by rcases Nat.lt_succ_iff_lt_or_eq.1 hj with h | h; (· exact hi2 j h); (· subst h; exact F9 hnd (by omega) (by assumption) (by exact .inr (by omega)) (by omega) (by omega))⟩, (by omega), ⟨rfl, rfl, trivial⟩⟩
      refine gF rfl rfl <| gF rfl rfl <| D4 rfl rfl <| D4 rfl rfl <| D4 rfl rfl <| gF rfl rfl <| B8 rfl (by assumption) rfl rfl <| A3 rfl rfl <| C3 rfl rfl rfl <| C3 rfl rfl rfl <| C3 rfl rfl rfl ?_
      iterate 6 refine D4 rfl rfl ?_
      refine C3 rfl rfl rfl <| B8 rfl rfl rfl rfl <| xN [0,3,80] [] rfl ?_
      refine A7 rfl (fun hc => ?_) (fun hc => absurd hc (by decide))
      refine A4 <| A0 <| A5 rfl rfl rfl <| xN [2] [] rfl <| C2 <| C4 rfl rfl trivial ?_
      exact congrArg bV (E3 (i := i) (by omega) (G2 hnd (by omega) (by omega))).symm
     iterate 5 refine gF rfl rfl ?_
     refine C0 rfl rfl rfl <| B5 rfl (by assumption) rfl rfl <| B5 rfl rfl rfl rfl <| A3 rfl rfl <| C0 rfl rfl rfl <| A3 rfl rfl <| C0 rfl rfl rfl <| G7 rfl rfl <| C0 rfl rfl rfl <| A3 rfl rfl ?_
     refine B1 rfl rfl ?_ ?_ <;> intro hg0 <;> have hg := hg0 <;> try simp only [SG] at hg
     ·refine B0 rfl rfl (dT rfl) rfl rfl <| gT rfl rfl <| B4 rfl rfl rfl rfl rfl rfl <| gT rfl rfl <| N5 rfl rfl <| C0 rfl rfl rfl <| B8 rfl (by assumption) rfl rfl <| B5 rfl rfl rfl rfl <| A3 rfl rfl ?_
      refine B1 rfl rfl ?_ ?_ <;> intro hg0 <;> have hg := hg0 <;> try simp only [SG] at hg
      ·refine A3 rfl rfl <| gT rfl rfl <| H8 rfl rfl <| gT rfl rfl <| A3 rfl rfl ?_
       refine B1 rfl rfl ?_ ?_ <;> intro hg0 <;> have hg := hg0 <;> try simp only [SG] at hg
       ·refine B0 rfl rfl (dT rfl) rfl rfl <| gT rfl rfl <| B4 rfl rfl rfl rfl rfl rfl <| gT rfl rfl <| A3 rfl rfl <| gT rfl rfl <| I1 rfl rfl (C5 (by omega)) <| gT rfl rfl ?_
        apply xC rfl
        ·apply A9
         ·exact B2 rfl
         apply A9
         ·exact B2 rfl
         apply A9
         ·exact B2 rfl
         exact C6
        ·exact G0 _ _ _
        refine ⟨⟨rfl, rfl, rfl, dT rfl, rfl⟩, .inl rfl, B9, C1 rfl, fun _ => rfl, fun g77 => ?_⟩
        refine gT rfl rfl <| H7 rfl <| gT rfl rfl <| B8 rfl (by assumption) rfl rfl <| B5 rfl (by assumption) rfl rfl <| xN [0,3,80] [] rfl ?_
        refine A7 rfl ?_ ?_ <;> intro hc <;> try simp only [SL] at hc
        ·refine A4 <| A0 <| A5 rfl rfl rfl <| xN [2] [] rfl <| C2 <| C4 rfl rfl trivial ?_
         exact congrArg bV (E3 (i := i) (by omega) (G2 hnd (by omega) (by omega))).symm
        refine B7 <| A0 <| A3 rfl rfl <| D7 rfl rfl (C5 (by omega)) <| A5 rfl rfl rfl <| xN [0,3] [] rfl ?_
        refine ⟨i + 1, ⟨by omega, fun j hj => by rcases Nat.lt_succ_iff_lt_or_eq.1 hj with h | h; (· exact hi2 j h); (· subst h; exact F9 hnd (by omega) (by assumption) (by exact .inr (by omega)) (by omega) (by omega))⟩, (by omega), ⟨rfl, rfl, trivial⟩⟩
       iterate 5 refine gF rfl rfl ?_
       refine gT rfl rfl <| B5 rfl (by assumption) rfl rfl <| B5 rfl (by assumption) rfl rfl <| xN [0,3,80] [] rfl ?_
       refine A7 rfl (fun hc => absurd hc (by decide)) (fun hc => ?_)
       refine B7 <| A0 <| A3 rfl rfl <| D7 rfl rfl (C5 (by omega)) <| A5 rfl rfl rfl <| xN [0,3] [] rfl ?_
       refine ⟨i + 1, ⟨by omega, fun j hj => by rcases Nat.lt_succ_iff_lt_or_eq.1 hj with h | h; (· exact hi2 j h); (· subst h; exact F9 hnd (by omega) (by assumption) (by exact .inr (by omega)) (by omega) (by omega))⟩, (by omega), ⟨rfl, rfl, trivial⟩⟩
      refine gF rfl rfl <| gF rfl rfl ?_
      iterate 6 refine D4 rfl rfl ?_
      refine gF rfl rfl <| B8 rfl (by assumption) rfl rfl <| xN [0,3,80] [] rfl ?_
      refine A7 rfl (fun hc => ?_) (fun hc => absurd hc (by decide))
      refine A4 <| A0 <| A5 rfl rfl rfl <| xN [2] [] rfl <| C2 <| C4 rfl rfl trivial ?_
      exact congrArg bV (E3 (i := i) (by omega) (G2 hnd (by omega) (by omega))).symm
     refine gF rfl rfl <| gF rfl rfl <| C0 rfl rfl rfl <| B5 rfl (by assumption) rfl rfl <| B5 rfl rfl rfl rfl <| A3 rfl rfl <| C0 rfl rfl rfl <| A3 rfl rfl <| C0 rfl rfl rfl <| H8 rfl rfl <| C0 rfl rfl rfl <| A3 rfl rfl ?_
     refine B1 rfl rfl ?_ ?_ <;> intro hg0 <;> have hg := hg0 <;> try simp only [SG] at hg
     ·refine B0 rfl rfl (dT rfl) rfl rfl <| gT rfl rfl <| B4 rfl rfl rfl rfl rfl rfl <| gT rfl rfl <| A3 rfl rfl <| gT rfl rfl <| I1 rfl rfl (C5 (by omega)) <| gT rfl rfl ?_
      apply xC rfl
      ·apply A9
       ·exact B2 rfl
       apply A9
       ·exact B2 rfl
       apply A9
       ·exact B2 rfl
       exact C6
      ·exact G0 _ _ _
      refine ⟨⟨rfl, rfl, rfl, dT rfl, rfl⟩, .inl rfl, B9, C1 rfl, fun _ => rfl, fun g77 => ?_⟩
      refine gT rfl rfl <| H7 rfl <| C0 rfl rfl rfl <| B8 rfl (by assumption) rfl rfl <| B5 rfl rfl rfl rfl <| xN [0,3,80] [] rfl ?_
      refine A7 rfl ?_ ?_ <;> intro hc <;> try simp only [SL] at hc
      ·refine A4 <| A0 <| A5 rfl rfl rfl <| xN [2] [] rfl <| C2 <| C4 rfl rfl trivial ?_
       exact congrArg bV (E3 (i := i) (by omega) (G2 hnd (by omega) (by omega))).symm
      refine B7 <| A0 <| A3 rfl rfl <| D7 rfl rfl (C5 (by omega)) <| A5 rfl rfl rfl <| xN [0,3] [] rfl ?_
      refine ⟨i + 1, ⟨by omega, fun j hj => by rcases Nat.lt_succ_iff_lt_or_eq.1 hj with h | h; (· exact hi2 j h); (· subst h; exact F9 hnd (by omega) (by assumption) (by exact .inr (by omega)) (by omega) (by omega))⟩, (by omega), ⟨rfl, rfl, trivial⟩⟩
     iterate 5 refine gF rfl rfl ?_
     refine C0 rfl rfl rfl <| B5 rfl (by assumption) rfl rfl <| B5 rfl rfl rfl rfl <| xN [0,3,80] [] rfl ?_
     refine A7 rfl (fun hc => absurd hc (by decide)) (fun hc => ?_)
     refine B7 <| A0 <| A3 rfl rfl <| D7 rfl rfl (C5 (by omega)) <| A5 rfl rfl rfl <| xN [0,3] [] rfl ?_
     refine ⟨i + 1, ⟨by omega, fun j hj => by rcases Nat.lt_succ_iff_lt_or_eq.1 hj with h | h; (· exact hi2 j h); (· subst h; exact F9 hnd (by omega) (by assumption) (by exact .inr (by omega)) (by omega) (by omega))⟩, (by omega), ⟨rfl, rfl, trivial⟩⟩
    refine gF rfl rfl <| gF rfl rfl <| gF rfl rfl <| gT rfl rfl <| B5 rfl (by assumption) rfl rfl <| B5 rfl (by assumption) rfl rfl <| xN [0,3,4,5,40] [4] rfl ?_
    refine A7 rfl (fun hc => absurd hc (by decide)) (fun hc => ?_)
    refine B7 <| A4 <| A0 <| A3 rfl rfl <| H8 rfl rfl <| A3 rfl rfl ?_
    refine B1 rfl rfl ?_ ?_ <;> intro hg0 <;> have hg := hg0 <;> try simp only [SG] at hg
    ·refine B0 rfl rfl (dT rfl) rfl rfl <| gT rfl rfl <| B4 rfl rfl rfl rfl rfl rfl <| gT rfl rfl <| N5 rfl rfl <| B8 rfl (by assumption) rfl rfl <| A3 rfl rfl ?_
     refine B1 rfl rfl ?_ ?_ <;> intro hg0 <;> have hg := hg0 <;> try simp only [SG] at hg
     ·refine A3 rfl rfl <| gT rfl rfl <| N0 rfl rfl <| gT rfl rfl <| A3 rfl rfl ?_
      refine B1 rfl rfl ?_ ?_ <;> intro hg0 <;> have hg := hg0 <;> try simp only [SG] at hg
      ·refine B0 rfl rfl (dT rfl) rfl rfl <| gT rfl rfl <| B4 rfl rfl rfl rfl rfl rfl <| gT rfl rfl <| A3 rfl rfl <| gT rfl rfl <| I1 rfl rfl (C5 (by omega)) <| gT rfl rfl ?_
       apply xC rfl
       ·apply A9
        ·exact B2 rfl
        apply A9
        ·exact B2 rfl
        apply A9
        ·exact B2 rfl
        exact C6
       ·exact G0 _ _ _
       refine ⟨⟨rfl, rfl, rfl, dT rfl, rfl⟩, .inl rfl, B9, C1 rfl, fun _ => rfl, fun g56 => ?_⟩
       refine gT rfl rfl <| H7 rfl <| gT rfl rfl <| B8 rfl (by assumption) rfl rfl <| B5 rfl (by assumption) rfl rfl <| A3 rfl rfl ?_
       refine B1 rfl rfl ?_ ?_ <;> intro hg0 <;> have hg := hg0 <;> try simp only [SG] at hg
       ·refine A3 rfl rfl <| gT rfl rfl <| G7 rfl rfl <| gT rfl rfl <| A3 rfl rfl ?_
        refine B1 rfl rfl ?_ ?_ <;> intro hg0 <;> have hg := hg0 <;> try simp only [SG] at hg
        ·refine B0 rfl rfl (dT rfl) rfl rfl <| gT rfl rfl <| B4 rfl rfl rfl rfl rfl rfl <| gT rfl rfl <| N5 rfl rfl <| gT rfl rfl <| B8 rfl (by assumption) rfl rfl <| B5 rfl (by assumption) rfl rfl <| A3 rfl rfl ?_
         refine B1 rfl rfl ?_ ?_ <;> intro hg0 <;> have hg := hg0 <;> try simp only [SG] at hg
         ·refine A3 rfl rfl <| gT rfl rfl <| H8 rfl rfl <| gT rfl rfl <| A3 rfl rfl ?_
          refine B1 rfl rfl ?_ ?_ <;> intro hg0 <;> have hg := hg0 <;> try simp only [SG] at hg
          ·refine B0 rfl rfl (dT rfl) rfl rfl <| gT rfl rfl <| B4 rfl rfl rfl rfl rfl rfl <| gT rfl rfl <| A3 rfl rfl <| gT rfl rfl <| I1 rfl rfl (C5 (by omega)) <| gT rfl rfl ?_
           apply xC rfl
           ·apply A9
            ·exact B2 rfl
            apply A9
            ·exact B2 rfl
            apply A9
            ·exact B2 rfl
            exact C6
           ·exact G0 _ _ _
           refine ⟨⟨rfl, rfl, rfl, dT rfl, rfl⟩, .inl rfl, B9, C1 rfl, fun _ => rfl, fun g77 => ?_⟩
           refine gT rfl rfl <| H7 rfl <| gT rfl rfl <| B8 rfl (by assumption) rfl rfl <| B5 rfl (by assumption) rfl rfl <| xN [0,3,80] [] rfl ?_
           refine A7 rfl ?_ ?_ <;> intro hc <;> try simp only [SL] at hc
           ·refine A4 <| A0 <| A5 rfl rfl rfl <| xN [2] [] rfl <| C2 <| C4 rfl rfl trivial ?_
            exact congrArg bV (E3 (i := i) (by omega) (G2 hnd (by omega) (by omega))).symm
           refine B7 <| A0 <| A3 rfl rfl <| D7 rfl rfl (C5 (by omega)) <| A5 rfl rfl rfl <| xN [0,3] [] rfl ?_
           refine ⟨i + 1, ⟨by omega, fun j hj => by rcases Nat.lt_succ_iff_lt_or_eq.1 hj with h | h; (· exact hi2 j h); (· subst h; exact F9 hnd (by omega) (by assumption) (by exact .inl (by assumption)) (by omega) (by omega))⟩, (by omega), ⟨rfl, rfl, trivial⟩⟩
          iterate 5 refine gF rfl rfl ?_
          refine gT rfl rfl <| B5 rfl (by assumption) rfl rfl <| B5 rfl (by assumption) rfl rfl <| xN [0,3,80] [] rfl ?_
          refine A7 rfl (fun hc => absurd hc (by decide)) (fun hc => ?_)
          refine B7 <| A0 <| A3 rfl rfl <| D7 rfl rfl (C5 (by omega)) <| A5 rfl rfl rfl <| xN [0,3] [] rfl ?_
          refine ⟨i + 1, ⟨by omega, fun j hj => by rcases Nat.lt_succ_iff_lt_or_eq.1 hj with h | h; (· exact hi2 j h); (· subst h; exact F9 hnd (by omega) (by assumption) (by exact .inl (by assumption)) (by omega) (by omega))⟩, (by omega), ⟨rfl, rfl, trivial⟩⟩
         refine gF rfl rfl <| gF rfl rfl ?_
         iterate 6 refine D4 rfl rfl ?_
         refine gF rfl rfl <| B8 rfl (by assumption) rfl rfl <| xN [0,3,80] [] rfl ?_
         refine A7 rfl (fun hc => ?_) (fun hc => absurd hc (by decide))
         refine A4 <| A0 <| A5 rfl rfl rfl <| xN [2] [] rfl <| C2 <| C4 rfl rfl trivial ?_
         exact congrArg bV (E3 (i := i) (by omega) (G2 hnd (by omega) (by omega))).symm
        refine gF rfl rfl <| gF rfl rfl <| gT rfl rfl <| B5 rfl (by assumption) rfl rfl <| B5 rfl (by assumption) rfl rfl <| A3 rfl rfl <| C0 rfl rfl rfl <| A3 rfl rfl <| C0 rfl rfl rfl <| H8 rfl rfl <| C0 rfl rfl rfl <| A3 rfl rfl ?_
        refine B1 rfl rfl ?_ ?_ <;> intro hg0 <;> have hg := hg0 <;> try simp only [SG] at hg
        ·refine B0 rfl rfl (dT rfl) rfl rfl <| gT rfl rfl <| B4 rfl rfl rfl rfl rfl rfl <| gT rfl rfl <| A3 rfl rfl <| gT rfl rfl <| I1 rfl rfl (C5 (by omega)) <| gT rfl rfl ?_
         apply xC rfl
         ·apply A9
          ·exact B2 rfl
          apply A9
          ·exact B2 rfl
          apply A9
          ·exact B2 rfl
          exact C6
         ·exact G0 _ _ _
         refine ⟨⟨rfl, rfl, rfl, dT rfl, rfl⟩, .inl rfl, B9, C1 rfl, fun _ => rfl, fun g77 => ?_⟩
         refine gT rfl rfl <| H7 rfl <| C0 rfl rfl rfl <| B8 rfl (by assumption) rfl rfl <| B5 rfl rfl rfl rfl <| xN [0,3,80] [] rfl ?_
         refine A7 rfl ?_ ?_ <;> intro hc <;> try simp only [SL] at hc
         ·refine A4 <| A0 <| A5 rfl rfl rfl <| xN [2] [] rfl <| C2 <| C4 rfl rfl trivial ?_
          exact congrArg bV (E3 (i := i) (by omega) (G2 hnd (by omega) (by omega))).symm
         refine B7 <| A0 <| A3 rfl rfl <| D7 rfl rfl (C5 (by omega)) <| A5 rfl rfl rfl <| xN [0,3] [] rfl ?_
         refine ⟨i + 1, ⟨by omega, fun j hj => by rcases Nat.lt_succ_iff_lt_or_eq.1 hj with h | h; (· exact hi2 j h); (· subst h; exact F9 hnd (by omega) (by assumption) (by exact .inl (by assumption)) (by omega) (by omega))⟩, (by omega), ⟨rfl, rfl, trivial⟩⟩
        iterate 5 refine gF rfl rfl ?_
        refine C0 rfl rfl rfl <| B5 rfl (by assumption) rfl rfl <| B5 rfl rfl rfl rfl <| xN [0,3,80] [] rfl ?_
        refine A7 rfl (fun hc => absurd hc (by decide)) (fun hc => ?_)
        refine B7 <| A0 <| A3 rfl rfl <| D7 rfl rfl (C5 (by omega)) <| A5 rfl rfl rfl <| xN [0,3] [] rfl ?_
        refine ⟨i + 1, ⟨by omega, fun j hj => by rcases Nat.lt_succ_iff_lt_or_eq.1 hj with h | h; (· exact hi2 j h); (· subst h; exact F9 hnd (by omega) (by assumption) (by exact .inl (by assumption)) (by omega) (by omega))⟩, (by omega), ⟨rfl, rfl, trivial⟩⟩
       refine gF rfl rfl <| gF rfl rfl <| D4 rfl rfl <| D4 rfl rfl <| D4 rfl rfl <| gF rfl rfl <| B8 rfl (by assumption) rfl rfl <| A3 rfl rfl <| C3 rfl rfl rfl <| C3 rfl rfl rfl <| C3 rfl rfl rfl ?_
       iterate 6 refine D4 rfl rfl ?_
       refine C3 rfl rfl rfl <| B8 rfl rfl rfl rfl <| xN [0,3,80] [] rfl ?_
       refine A7 rfl (fun hc => ?_) (fun hc => absurd hc (by decide))
       refine A4 <| A0 <| A5 rfl rfl rfl <| xN [2] [] rfl <| C2 <| C4 rfl rfl trivial ?_
       exact congrArg bV (E3 (i := i) (by omega) (G2 hnd (by omega) (by omega))).symm
      iterate 5 refine gF rfl rfl ?_
      refine gT rfl rfl <| B5 rfl (by assumption) rfl rfl <| B5 rfl (by assumption) rfl rfl <| A3 rfl rfl <| C0 rfl rfl rfl <| A3 rfl rfl <| C0 rfl rfl rfl <| G7 rfl rfl <| C0 rfl rfl rfl <| A3 rfl rfl ?_
      refine B1 rfl rfl ?_ ?_ <;> intro hg0 <;> have hg := hg0 <;> try simp only [SG] at hg
      ·refine B0 rfl rfl (dT rfl) rfl rfl <| gT rfl rfl <| B4 rfl rfl rfl rfl rfl rfl <| gT rfl rfl <| N5 rfl rfl <| C0 rfl rfl rfl <| B8 rfl (by assumption) rfl rfl <| B5 rfl rfl rfl rfl <| A3 rfl rfl ?_
       refine B1 rfl rfl ?_ ?_ <;> intro hg0 <;> have hg := hg0 <;> try simp only [SG] at hg
       ·refine A3 rfl rfl <| gT rfl rfl <| H8 rfl rfl <| gT rfl rfl <| A3 rfl rfl ?_
        refine B1 rfl rfl ?_ ?_ <;> intro hg0 <;> have hg := hg0 <;> try simp only [SG] at hg
        ·refine B0 rfl rfl (dT rfl) rfl rfl <| gT rfl rfl <| B4 rfl rfl rfl rfl rfl rfl <| gT rfl rfl <| A3 rfl rfl <| gT rfl rfl <| I1 rfl rfl (C5 (by omega)) <| gT rfl rfl ?_
         apply xC rfl
         ·apply A9
          ·exact B2 rfl
          apply A9
          ·exact B2 rfl
          apply A9
          ·exact B2 rfl
          exact C6
         ·exact G0 _ _ _
         refine ⟨⟨rfl, rfl, rfl, dT rfl, rfl⟩, .inl rfl, B9, C1 rfl, fun _ => rfl, fun g77 => ?_⟩
         refine gT rfl rfl <| H7 rfl <| gT rfl rfl <| B8 rfl (by assumption) rfl rfl <| B5 rfl (by assumption) rfl rfl <| xN [0,3,80] [] rfl ?_
         refine A7 rfl ?_ ?_ <;> intro hc <;> try simp only [SL] at hc
         ·refine A4 <| A0 <| A5 rfl rfl rfl <| xN [2] [] rfl <| C2 <| C4 rfl rfl trivial ?_
          exact congrArg bV (E3 (i := i) (by omega) (G2 hnd (by omega) (by omega))).symm
         refine B7 <| A0 <| A3 rfl rfl <| D7 rfl rfl (C5 (by omega)) <| A5 rfl rfl rfl <| xN [0,3] [] rfl ?_
         refine ⟨i + 1, ⟨by omega, fun j hj => by rcases Nat.lt_succ_iff_lt_or_eq.1 hj with h | h; (· exact hi2 j h); (· subst h; exact F9 hnd (by omega) (by assumption) (by exact .inl (by assumption)) (by omega) (by omega))⟩, (by omega), ⟨rfl, rfl, trivial⟩⟩
        iterate 5 refine gF rfl rfl ?_
        refine gT rfl rfl <| B5 rfl (by assumption) rfl rfl <| B5 rfl (by assumption) rfl rfl <| xN [0,3,80] [] rfl ?_
        refine A7 rfl (fun hc => absurd hc (by decide)) (fun hc => ?_)
        refine B7 <| A0 <| A3 rfl rfl <| D7 rfl rfl (C5 (by omega)) <| A5 rfl rfl rfl <| xN [0,3] [] rfl ?_
        refine ⟨i + 1, ⟨by omega, fun j hj => by rcases Nat.lt_succ_iff_lt_or_eq.1 hj with h | h; (· exact hi2 j h); (· subst h; exact F9 hnd (by omega) (by assumption) (by exact .inl (by assumption)) (by omega) (by omega))⟩, (by omega), ⟨rfl, rfl, trivial⟩⟩
       refine gF rfl rfl <| gF rfl rfl ?_
       iterate 6 refine D4 rfl rfl ?_
       refine gF rfl rfl <| B8 rfl (by assumption) rfl rfl <| xN [0,3,80] [] rfl ?_
       refine A7 rfl (fun hc => ?_) (fun hc => absurd hc (by decide))
       refine A4 <| A0 <| A5 rfl rfl rfl <| xN [2] [] rfl <| C2 <| C4 rfl rfl trivial ?_
       exact congrArg bV (E3 (i := i) (by omega) (G2 hnd (by omega) (by omega))).symm
      refine gF rfl rfl <| gF rfl rfl <| C0 rfl rfl rfl <| B5 rfl (by assumption) rfl rfl <| B5 rfl rfl rfl rfl <| A3 rfl rfl <| C0 rfl rfl rfl <| A3 rfl rfl <| C0 rfl rfl rfl <| H8 rfl rfl <| C0 rfl rfl rfl <| A3 rfl rfl ?_
      refine B1 rfl rfl ?_ ?_ <;> intro hg0 <;> have hg := hg0 <;> try simp only [SG] at hg
      ·refine B0 rfl rfl (dT rfl) rfl rfl <| gT rfl rfl <| B4 rfl rfl rfl rfl rfl rfl <| gT rfl rfl <| A3 rfl rfl <| gT rfl rfl <| I1 rfl rfl (C5 (by omega)) <| gT rfl rfl ?_
       apply xC rfl
       ·apply A9
        ·exact B2 rfl
        apply A9
        ·exact B2 rfl
        apply A9
        ·exact B2 rfl
        exact C6
       ·exact G0 _ _ _
       refine ⟨⟨rfl, rfl, rfl, dT rfl, rfl⟩, .inl rfl, B9, C1 rfl, fun _ => rfl, fun g77 => ?_⟩
       refine gT rfl rfl <| H7 rfl <| C0 rfl rfl rfl <| B8 rfl (by assumption) rfl rfl <| B5 rfl rfl rfl rfl <| xN [0,3,80] [] rfl ?_
       refine A7 rfl ?_ ?_ <;> intro hc <;> try simp only [SL] at hc
       ·refine A4 <| A0 <| A5 rfl rfl rfl <| xN [2] [] rfl <| C2 <| C4 rfl rfl trivial ?_
        exact congrArg bV (E3 (i := i) (by omega) (G2 hnd (by omega) (by omega))).symm
       refine B7 <| A0 <| A3 rfl rfl <| D7 rfl rfl (C5 (by omega)) <| A5 rfl rfl rfl <| xN [0,3] [] rfl ?_
       refine ⟨i + 1, ⟨by omega, fun j hj => by rcases Nat.lt_succ_iff_lt_or_eq.1 hj with h | h; (· exact hi2 j h); (· subst h; exact F9 hnd (by omega) (by assumption) (by exact .inl (by assumption)) (by omega) (by omega))⟩, (by omega), ⟨rfl, rfl, trivial⟩⟩
      iterate 5 refine gF rfl rfl ?_
      refine C0 rfl rfl rfl <| B5 rfl (by assumption) rfl rfl <| B5 rfl rfl rfl rfl <| xN [0,3,80] [] rfl ?_
      refine A7 rfl (fun hc => absurd hc (by decide)) (fun hc => ?_)
      refine B7 <| A0 <| A3 rfl rfl <| D7 rfl rfl (C5 (by omega)) <| A5 rfl rfl rfl <| xN [0,3] [] rfl ?_
      refine ⟨i + 1, ⟨by omega, fun j hj => by rcases Nat.lt_succ_iff_lt_or_eq.1 hj with h | h; (· exact hi2 j h); (· subst h; exact F9 hnd (by omega) (by assumption) (by exact .inl (by assumption)) (by omega) (by omega))⟩, (by omega), ⟨rfl, rfl, trivial⟩⟩
     refine gF rfl rfl <| gF rfl rfl ?_
     iterate 6 refine D4 rfl rfl ?_
     refine gF rfl rfl <| B8 rfl (by assumption) rfl rfl <| A3 rfl rfl <| C3 rfl rfl rfl <| C3 rfl rfl rfl <| C3 rfl rfl rfl <| D4 rfl rfl <| D4 rfl rfl <| D4 rfl rfl <| C3 rfl rfl rfl <| B8 rfl rfl rfl rfl <| A3 rfl rfl <| C3 rfl rfl rfl <| C3 rfl rfl rfl <| C3 rfl rfl rfl ?_
     iterate 6 refine D4 rfl rfl ?_
     refine C3 rfl rfl rfl <| B8 rfl rfl rfl rfl <| xN [0,3,80] [] rfl ?_
     refine A7 rfl (fun hc => ?_) (fun hc => absurd hc (by decide))
     refine A4 <| A0 <| A5 rfl rfl rfl <| xN [2] [] rfl <| C2 <| C4 rfl rfl trivial ?_
     exact congrArg bV (E3 (i := i) (by omega) (G2 hnd (by omega) (by omega))).symm
    refine gF rfl rfl <| gF rfl rfl <| B5 rfl (by assumption) rfl rfl <| A3 rfl rfl <| C0 rfl rfl rfl <| A3 rfl rfl <| C0 rfl rfl rfl <| N0 rfl rfl <| C0 rfl rfl rfl <| A3 rfl rfl ?_
    refine B1 rfl rfl ?_ ?_ <;> intro hg0 <;> have hg := hg0 <;> try simp only [SG] at hg
    ·refine B0 rfl rfl (dT rfl) rfl rfl <| gT rfl rfl <| B4 rfl rfl rfl rfl rfl rfl <| gT rfl rfl <| A3 rfl rfl <| gT rfl rfl <| I1 rfl rfl (C5 (by omega)) <| gT rfl rfl ?_
     apply xC rfl
     ·apply A9
      ·exact B2 rfl
      apply A9
      ·exact B2 rfl
      apply A9
      ·exact B2 rfl
      exact C6
     ·exact G0 _ _ _
     refine ⟨⟨rfl, rfl, rfl, dT rfl, rfl⟩, .inl rfl, B9, C1 rfl, fun _ => rfl, fun g56 => ?_⟩
     refine gT rfl rfl <| H7 rfl <| C0 rfl rfl rfl <| B8 rfl (by assumption) rfl rfl <| B5 rfl rfl rfl rfl <| A3 rfl rfl ?_
     refine B1 rfl rfl ?_ ?_ <;> intro hg0 <;> have hg := hg0 <;> try simp only [SG] at hg
     ·refine A3 rfl rfl <| gT rfl rfl <| G7 rfl rfl <| gT rfl rfl <| A3 rfl rfl ?_
      refine B1 rfl rfl ?_ ?_ <;> intro hg0 <;> have hg := hg0 <;> try simp only [SG] at hg
      ·refine B0 rfl rfl (dT rfl) rfl rfl <| gT rfl rfl <| B4 rfl rfl rfl rfl rfl rfl <| gT rfl rfl <| N5 rfl rfl <| gT rfl rfl <| B8 rfl (by assumption) rfl rfl <| B5 rfl (by assumption) rfl rfl <| A3 rfl rfl ?_
       refine B1 rfl rfl ?_ ?_ <;> intro hg0 <;> have hg := hg0 <;> try simp only [SG] at hg
       ·refine A3 rfl rfl <| gT rfl rfl <| H8 rfl rfl <| gT rfl rfl <| A3 rfl rfl ?_
        refine B1 rfl rfl ?_ ?_ <;> intro hg0 <;> have hg := hg0 <;> try simp only [SG] at hg
        ·refine B0 rfl rfl (dT rfl) rfl rfl <| gT rfl rfl <| B4 rfl rfl rfl rfl rfl rfl <| gT rfl rfl <| A3 rfl rfl <| gT rfl rfl <| I1 rfl rfl (C5 (by omega)) <| gT rfl rfl ?_
         apply xC rfl
         ·apply A9
          ·exact B2 rfl
          apply A9
          ·exact B2 rfl
          apply A9
          ·exact B2 rfl
          exact C6
         ·exact G0 _ _ _
         refine ⟨⟨rfl, rfl, rfl, dT rfl, rfl⟩, .inl rfl, B9, C1 rfl, fun _ => rfl, fun g77 => ?_⟩
         refine gT rfl rfl <| H7 rfl <| gT rfl rfl <| B8 rfl (by assumption) rfl rfl <| B5 rfl (by assumption) rfl rfl <| xN [0,3,80] [] rfl ?_
         refine A7 rfl ?_ ?_ <;> intro hc <;> try simp only [SL] at hc
         ·refine A4 <| A0 <| A5 rfl rfl rfl <| xN [2] [] rfl <| C2 <| C4 rfl rfl trivial ?_
          exact congrArg bV (E3 (i := i) (by omega) (G2 hnd (by omega) (by omega))).symm
         refine B7 <| A0 <| A3 rfl rfl <| D7 rfl rfl (C5 (by omega)) <| A5 rfl rfl rfl <| xN [0,3] [] rfl ?_
         refine ⟨i + 1, ⟨by omega, fun j hj => by rcases Nat.lt_succ_iff_lt_or_eq.1 hj with h | h; (· exact hi2 j h); (· subst h; exact F9 hnd (by omega) (by assumption) (by exact .inl (by assumption)) (by omega) (by omega))⟩, (by omega), ⟨rfl, rfl, trivial⟩⟩
        iterate 5 refine gF rfl rfl ?_
        refine gT rfl rfl <| B5 rfl (by assumption) rfl rfl <| B5 rfl (by assumption) rfl rfl <| xN [0,3,80] [] rfl ?_
        refine A7 rfl (fun hc => absurd hc (by decide)) (fun hc => ?_)
        refine B7 <| A0 <| A3 rfl rfl <| D7 rfl rfl (C5 (by omega)) <| A5 rfl rfl rfl <| xN [0,3] [] rfl ?_
        refine ⟨i + 1, ⟨by omega, fun j hj => by rcases Nat.lt_succ_iff_lt_or_eq.1 hj with h | h; (· exact hi2 j h); (· subst h; exact F9 hnd (by omega) (by assumption) (by exact .inl (by assumption)) (by omega) (by omega))⟩, (by omega), ⟨rfl, rfl, trivial⟩⟩
       refine gF rfl rfl <| gF rfl rfl ?_
       iterate 6 refine D4 rfl rfl ?_
       refine gF rfl rfl <| B8 rfl (by assumption) rfl rfl <| xN [0,3,80] [] rfl ?_
       refine A7 rfl (fun hc => ?_) (fun hc => absurd hc (by decide))
       refine A4 <| A0 <| A5 rfl rfl rfl <| xN [2] [] rfl <| C2 <| C4 rfl rfl trivial ?_
       exact congrArg bV (E3 (i := i) (by omega) (G2 hnd (by omega) (by omega))).symm
      refine gF rfl rfl <| gF rfl rfl <| gT rfl rfl <| B5 rfl (by assumption) rfl rfl <| B5 rfl (by assumption) rfl rfl <| A3 rfl rfl <| C0 rfl rfl rfl <| A3 rfl rfl <| C0 rfl rfl rfl <| H8 rfl rfl <| C0 rfl rfl rfl <| A3 rfl rfl ?_
      refine B1 rfl rfl ?_ ?_ <;> intro hg0 <;> have hg := hg0 <;> try simp only [SG] at hg
      ·refine B0 rfl rfl (dT rfl) rfl rfl <| gT rfl rfl <| B4 rfl rfl rfl rfl rfl rfl <| gT rfl rfl <| A3 rfl rfl <| gT rfl rfl <| I1 rfl rfl (C5 (by omega)) <| gT rfl rfl ?_
       apply xC rfl
       ·apply A9
        ·exact B2 rfl
        apply A9
        ·exact B2 rfl
        apply A9
        ·exact B2 rfl
        exact C6
       ·exact G0 _ _ _
       refine ⟨⟨rfl, rfl, rfl, dT rfl, rfl⟩, .inl rfl, B9, C1 rfl, fun _ => rfl, fun g77 => ?_⟩
       refine gT rfl rfl <| H7 rfl <| C0 rfl rfl rfl <| B8 rfl (by assumption) rfl rfl <| B5 rfl rfl rfl rfl <| xN [0,3,80] [] rfl ?_
       refine A7 rfl ?_ ?_ <;> intro hc <;> try simp only [SL] at hc
       ·refine A4 <| A0 <| A5 rfl rfl rfl <| xN [2] [] rfl <| C2 <| C4 rfl rfl trivial ?_
        exact congrArg bV (E3 (i := i) (by omega) (G2 hnd (by omega) (by omega))).symm
       refine B7 <| A0 <| A3 rfl rfl <| D7 rfl rfl (C5 (by omega)) <| A5 rfl rfl rfl <| xN [0,3] [] rfl ?_
       refine ⟨i + 1, ⟨by omega, fun j hj => by rcases Nat.lt_succ_iff_lt_or_eq.1 hj with h | h; (· exact hi2 j h); (· subst h; exact F9 hnd (by omega) (by assumption) (by exact .inl (by assumption)) (by omega) (by omega))⟩, (by omega), ⟨rfl, rfl, trivial⟩⟩
      iterate 5 refine gF rfl rfl ?_
      refine C0 rfl rfl rfl <| B5 rfl (by assumption) rfl rfl <| B5 rfl rfl rfl rfl <| xN [0,3,80] [] rfl ?_
      refine A7 rfl (fun hc => absurd hc (by decide)) (fun hc => ?_)
      refine B7 <| A0 <| A3 rfl rfl <| D7 rfl rfl (C5 (by omega)) <| A5 rfl rfl rfl <| xN [0,3] [] rfl ?_
      refine ⟨i + 1, ⟨by omega, fun j hj => by rcases Nat.lt_succ_iff_lt_or_eq.1 hj with h | h; (· exact hi2 j h); (· subst h; exact F9 hnd (by omega) (by assumption) (by exact .inl (by assumption)) (by omega) (by omega))⟩, (by omega), ⟨rfl, rfl, trivial⟩⟩
     refine gF rfl rfl <| gF rfl rfl <| D4 rfl rfl <| D4 rfl rfl <| D4 rfl rfl <| gF rfl rfl <| B8 rfl (by assumption) rfl rfl <| A3 rfl rfl <| C3 rfl rfl rfl <| C3 rfl rfl rfl <| C3 rfl rfl rfl ?_
     iterate 6 refine D4 rfl rfl ?_
     refine C3 rfl rfl rfl <| B8 rfl rfl rfl rfl <| xN [0,3,80] [] rfl ?_
     refine A7 rfl (fun hc => ?_) (fun hc => absurd hc (by decide))
     refine A4 <| A0 <| A5 rfl rfl rfl <| xN [2] [] rfl <| C2 <| C4 rfl rfl trivial ?_
     exact congrArg bV (E3 (i := i) (by omega) (G2 hnd (by omega) (by omega))).symm
    iterate 5 refine gF rfl rfl ?_
    refine C0 rfl rfl rfl <| B5 rfl (by assumption) rfl rfl <| B5 rfl rfl rfl rfl <| A3 rfl rfl <| C0 rfl rfl rfl <| A3 rfl rfl <| C0 rfl rfl rfl <| G7 rfl rfl <| C0 rfl rfl rfl <| A3 rfl rfl ?_
    refine B1 rfl rfl ?_ ?_ <;> intro hg0 <;> have hg := hg0 <;> try simp only [SG] at hg
    ·refine B0 rfl rfl (dT rfl) rfl rfl <| gT rfl rfl <| B4 rfl rfl rfl rfl rfl rfl <| gT rfl rfl <| N5 rfl rfl <| C0 rfl rfl rfl <| B8 rfl (by assumption) rfl rfl <| B5 rfl rfl rfl rfl <| A3 rfl rfl ?_
     refine B1 rfl rfl ?_ ?_ <;> intro hg0 <;> have hg := hg0 <;> try simp only [SG] at hg
     ·refine A3 rfl rfl <| gT rfl rfl <| H8 rfl rfl <| gT rfl rfl <| A3 rfl rfl ?_
      refine B1 rfl rfl ?_ ?_ <;> intro hg0 <;> have hg := hg0 <;> try simp only [SG] at hg
      ·refine B0 rfl rfl (dT rfl) rfl rfl <| gT rfl rfl <| B4 rfl rfl rfl rfl rfl rfl <| gT rfl rfl <| A3 rfl rfl <| gT rfl rfl <| I1 rfl rfl (C5 (by omega)) <| gT rfl rfl ?_
       apply xC rfl
       ·apply A9
        ·exact B2 rfl
        apply A9
        ·exact B2 rfl
        apply A9
        ·exact B2 rfl
        exact C6
       ·exact G0 _ _ _
       refine ⟨⟨rfl, rfl, rfl, dT rfl, rfl⟩, .inl rfl, B9, C1 rfl, fun _ => rfl, fun g77 => ?_⟩
       refine gT rfl rfl <| H7 rfl <| gT rfl rfl <| B8 rfl (by assumption) rfl rfl <| B5 rfl (by assumption) rfl rfl <| xN [0,3,80] [] rfl ?_
       refine A7 rfl ?_ ?_ <;> intro hc <;> try simp only [SL] at hc
       ·refine A4 <| A0 <| A5 rfl rfl rfl <| xN [2] [] rfl <| C2 <| C4 rfl rfl trivial ?_
        exact congrArg bV (E3 (i := i) (by omega) (G2 hnd (by omega) (by omega))).symm
       refine B7 <| A0 <| A3 rfl rfl <| D7 rfl rfl (C5 (by omega)) <| A5 rfl rfl rfl <| xN [0,3] [] rfl ?_
       refine ⟨i + 1, ⟨by omega, fun j hj => by rcases Nat.lt_succ_iff_lt_or_eq.1 hj with h | h; (· exact hi2 j h); (· subst h; exact F9 hnd (by omega) (by assumption) (by exact .inl (by assumption)) (by omega) (by omega))⟩, (by omega), ⟨rfl, rfl, trivial⟩⟩
      iterate 5 refine gF rfl rfl ?_
      refine gT rfl rfl <| B5 rfl (by assumption) rfl rfl <| B5 rfl (by assumption) rfl rfl <| xN [0,3,80] [] rfl ?_
      refine A7 rfl (fun hc => absurd hc (by decide)) (fun hc => ?_)
      refine B7 <| A0 <| A3 rfl rfl <| D7 rfl rfl (C5 (by omega)) <| A5 rfl rfl rfl <| xN [0,3] [] rfl ?_
      refine ⟨i + 1, ⟨by omega, fun j hj => by rcases Nat.lt_succ_iff_lt_or_eq.1 hj with h | h; (· exact hi2 j h); (· subst h; exact F9 hnd (by omega) (by assumption) (by exact .inl (by assumption)) (by omega) (by omega))⟩, (by omega), ⟨rfl, rfl, trivial⟩⟩
     refine gF rfl rfl <| gF rfl rfl ?_
     iterate 6 refine D4 rfl rfl ?_
     refine gF rfl rfl <| B8 rfl (by assumption) rfl rfl <| xN [0,3,80] [] rfl ?_
     refine A7 rfl (fun hc => ?_) (fun hc => absurd hc (by decide))
     refine A4 <| A0 <| A5 rfl rfl rfl <| xN [2] [] rfl <| C2 <| C4 rfl rfl trivial ?_
     exact congrArg bV (E3 (i := i) (by omega) (G2 hnd (by omega) (by omega))).symm
    refine gF rfl rfl <| gF rfl rfl <| C0 rfl rfl rfl <| B5 rfl (by assumption) rfl rfl <| B5 rfl rfl rfl rfl <| A3 rfl rfl <| C0 rfl rfl rfl <| A3 rfl rfl <| C0 rfl rfl rfl <| H8 rfl rfl <| C0 rfl rfl rfl <| A3 rfl rfl ?_
    refine B1 rfl rfl ?_ ?_ <;> intro hg0 <;> have hg := hg0 <;> try simp only [SG] at hg
    ·refine B0 rfl rfl (dT rfl) rfl rfl <| gT rfl rfl <| B4 rfl rfl rfl rfl rfl rfl <| gT rfl rfl <| A3 rfl rfl <| gT rfl rfl <| I1 rfl rfl (C5 (by omega)) <| gT rfl rfl ?_
     apply xC rfl
     ·apply A9
      ·exact B2 rfl
      apply A9
      ·exact B2 rfl
      apply A9
      ·exact B2 rfl
      exact C6
     ·exact G0 _ _ _
     refine ⟨⟨rfl, rfl, rfl, dT rfl, rfl⟩, .inl rfl, B9, C1 rfl, fun _ => rfl, fun g77 => ?_⟩
     refine gT rfl rfl <| H7 rfl <| C0 rfl rfl rfl <| B8 rfl (by assumption) rfl rfl <| B5 rfl rfl rfl rfl <| xN [0,3,80] [] rfl ?_
     refine A7 rfl ?_ ?_ <;> intro hc <;> try simp only [SL] at hc
     ·refine A4 <| A0 <| A5 rfl rfl rfl <| xN [2] [] rfl <| C2 <| C4 rfl rfl trivial ?_
      exact congrArg bV (E3 (i := i) (by omega) (G2 hnd (by omega) (by omega))).symm
     refine B7 <| A0 <| A3 rfl rfl <| D7 rfl rfl (C5 (by omega)) <| A5 rfl rfl rfl <| xN [0,3] [] rfl ?_
     refine ⟨i + 1, ⟨by omega, fun j hj => by rcases Nat.lt_succ_iff_lt_or_eq.1 hj with h | h; (· exact hi2 j h); (· subst h; exact F9 hnd (by omega) (by assumption) (by exact .inl (by assumption)) (by omega) (by omega))⟩, (by omega), ⟨rfl, rfl, trivial⟩⟩
    iterate 5 refine gF rfl rfl ?_
    refine C0 rfl rfl rfl <| B5 rfl (by assumption) rfl rfl <| B5 rfl rfl rfl rfl <| xN [0,3,80] [] rfl ?_
    refine A7 rfl (fun hc => absurd hc (by decide)) (fun hc => ?_)
    refine B7 <| A0 <| A3 rfl rfl <| D7 rfl rfl (C5 (by omega)) <| A5 rfl rfl rfl <| xN [0,3] [] rfl ?_
    refine ⟨i + 1, ⟨by omega, fun j hj => by rcases Nat.lt_succ_iff_lt_or_eq.1 hj with h | h; (· exact hi2 j h); (· subst h; exact F9 hnd (by omega) (by assumption) (by exact .inl (by assumption)) (by omega) (by omega))⟩, (by omega), ⟨rfl, rfl, trivial⟩⟩
   refine gF rfl rfl <| gF rfl rfl <| gF rfl rfl <| D4 rfl rfl <| D4 rfl rfl <| D4 rfl rfl <| D4 rfl rfl <| gF rfl rfl <| B8 rfl (by assumption) rfl rfl <| xN [0,3,4,5,40] [4] rfl ?_
   refine A7 rfl (fun hc => ?_) (fun hc => absurd hc (by decide))
   refine A4 <| A0 <| A5 rfl rfl rfl <| xN [2] [] rfl <| C2 <| C4 rfl rfl trivial ?_
   exact congrArg bV (E3 (i := i) (by omega) (a1w (by exact .inr (.inr (by assumption))))).symm
  refine gF rfl rfl <| gF rfl rfl <| gF rfl rfl <| B8 rfl (by assumption) rfl rfl <| A3 rfl rfl ?_
  iterate 4 refine C3 rfl rfl rfl ?_
  iterate 4 refine D4 rfl rfl ?_
  refine C3 rfl rfl rfl <| B8 rfl rfl rfl rfl <| xN [0,3,4,5,40] [4] rfl ?_
  refine A7 rfl (fun hc => ?_) (fun hc => absurd hc (by decide))
  refine A4 <| A0 <| A5 rfl rfl rfl <| xN [2] [] rfl <| C2 <| C4 rfl rfl trivial ?_
  exact congrArg bV (E3 (i := i) (by omega) (a1w (by exact .inl (by omega)))).symm
 refine G4 <| A4 <| A0 <| A3 rfl rfl <| D9 rfl rfl ?_
 apply xC rfl
 ·apply A9
  ·exact B2 rfl
  apply A9
  ·exact B2 rfl
  apply A9
  ·exact B2 rfl
  exact C6
 ·exact G0 _ _ _
 refine ⟨⟨rfl, rfl, rfl, dT rfl, rfl⟩, .inl rfl, B9, C1 rfl, fun _ => rfl, fun g83 => ?_⟩
 refine A5 rfl rfl rfl <| xN [2] [] rfl <| C2 <| C4 rfl rfl trivial ?_
 rw [b5b fun j hj => hi2 j (by omega)]
 exact congrArg bV (by (simp [Bool.decide_and]; done))
end Go.Proofs.Ytpjgdgnaeohmeaa
