/- What each function of the program gives on the abstract machine, part 1 of 2. Conditions: those in front of each theorem. -/
import Derived.Test.YtcpmbhfnapijaaaGreatDoorMd
import Derived.Test.YtcpmbhfnapijaaaGreatDoorChecked
import Derived.KernelRfl

set_option linter.unusedVariables false
set_option linter.unusedSimpArgs false
namespace Go.Proofs.YtcpmbhfnapijaaaGreatDoor
open Go Go.Mv Go.Proofs
set_option maxRecDepth 100000
set_option maxHeartbeats 20000000

theorem SD : (∀ {p : Prop} [Decidable p], (decide p = true) = p) ∧ (∀ {p : Prop} {_ : Decidable p}, decide p = false ↔ ¬p) ∧ (∀ (b : Bool), ((!b) = true) = (b = false)) ∧ (∀ (b : Bool), ((!b) = false) = (b = true)) ∧ (∀ {α : Type} [BEq α] [LawfulBEq α] {a b : α}, (a != b) = true ↔ a ≠ b) ∧
    (∀ {α : Type} [BEq α] [LawfulBEq α] {a b : α}, (a == b) = true ↔ a = b) ∧ (∀ {α : Type} (a b : α), (a ≠ b) = ¬a = b) ∧ (!true) = false ∧ (!false) = true ∧ (∀ {α : Type} [BEq α] [LawfulBEq α] {a b : α}, (a == b) = false ↔ a ≠ b) ∧ (∀ {α : Type} [BEq α] [LawfulBEq α] {a b : α}, (a != b) = false ↔ a = b) ∧
    (∀ {p : Prop} [Decidable p], ¬¬p ↔ p) ∧ (∀ {a b : Int}, ¬a < b ↔ b ≤ a) ∧ (∀ {a b : Int}, ¬a ≤ b ↔ b < a) :=
  ⟨@decide_eq_true_eq, @decide_eq_false_iff_not, @Bool.not_eq_true', @Bool.not_eq_false', @bne_iff_ne, @beq_iff_eq, @ne_eq, @Bool.not_true, @Bool.not_false, @beq_eq_false_iff_ne, @bne_eq_false_iff_eq, @Decidable.not_not, @Int.not_lt, @Int.not_le⟩
theorem SG : ((∀ {p : Prop} [Decidable p], (decide p = true) = p) ∧ (∀ {p : Prop} {_ : Decidable p}, decide p = false ↔ ¬p) ∧ (∀ (b : Bool), ((!b) = true) = (b = false)) ∧ (∀ (b : Bool), ((!b) = false) = (b = true)) ∧ (∀ {α : Type} [BEq α] [LawfulBEq α] {a b : α}, (a != b) = true ↔ a ≠ b) ∧
    (∀ {α : Type} [BEq α] [LawfulBEq α] {a b : α}, (a == b) = true ↔ a = b) ∧ (∀ {α : Type} (a b : α), (a ≠ b) = ¬a = b) ∧ (!true) = false ∧ (!false) = true ∧ (∀ {α : Type} [BEq α] [LawfulBEq α] {a b : α}, (a == b) = false ↔ a ≠ b) ∧ (∀ {α : Type} [BEq α] [LawfulBEq α] {a b : α}, (a != b) = false ↔ a = b) ∧
    (∀ {p : Prop} [Decidable p], ¬¬p ↔ p) ∧ (∀ {a b : Int}, ¬a < b ↔ b ≤ a) ∧ (∀ {a b : Int}, ¬a ≤ b ↔ b < a)) ∧
    (∀ (a b : Bool), ((a && b) = true) = (a = true ∧ b = true)) ∧ (∀ {x y : Bool}, (x && y) = false ↔ x = false ∨ y = false) ∧ (∀ (a b : Bool), ((a || b) = true) = (a = true ∨ b = true)) ∧ (∀ {x y : Bool}, (x || y) = false ↔ x = false ∧ y = false) :=
  ⟨SD, @Bool.and_eq_true, @Bool.and_eq_false_iff, @Bool.or_eq_true, @Bool.or_eq_false_iff⟩
def c9w (keep : List Nat) (A : Asr) : List Mv.Loc → Asr → Option Asr
  | l :: ls, B => match keepLoc keep l, Mv.look A l with
    | true, some a => c9w keep A ls ((l, a) :: B)
    | _, _ => none
  | [], B => some B
theorem c8i {keep : List Nat} {A : Asr} : ∀ (ls : List Mv.Loc) {B C : Asr}, KeepL keep A B → c9w keep A ls B = some C → KeepL keep A C
  | [], B, C, h, e => by simp only [c9w, Option.some.injEq] at e; rw [← e]; exact h
  | l :: ls, B, C, h, e => by
    simp only [c9w] at e
    split at e
    · exact c8i ls (show KeepL keep A ((l, _) :: B) from ⟨by assumption, by assumption, h⟩) e
    · cases e
theorem kS (ts hs : List Nat) {keep : List Nat} {A B : Asr} (h : c9w keep A (ts.map .t ++ hs.map .h) [] = some B) : KeepL keep A B := c8i _ (show KeepL keep A [] from trivial) h
section
variable {cx : Cx} {keep : List Nat} {ops0 : Array Oper} {r : List Oper} {A : Asr} {Q : Asr → List Log → Prop}
variable {d ty : Nat} {pos : String} {aft : Array Edge}
theorem gT {op : Op} {dst : Option Nat} {g dg : Nat} {want b : Bool} (hd : (ops0[g]?).bind (·.dst) = some dg) (hb : Mv.look A (.t dg) = some (.val (.bool b)))
    (h : XR cx keep ops0 (⟨dst, op, ty, pos, aft, none⟩ :: r) A fun A' lg => Q A' (c7t (.t dg) lg)) (hw : b = want := by assumption) : XR cx keep ops0 (⟨dst, op, ty, pos, aft, some (g, want)⟩ :: r) A Q := I9 hd hb hw h
theorem gF {op : Op} {g dg : Nat} {want b : Bool} (hd : (ops0[g]?).bind (·.dst) = some dg) (hb : Mv.look A (.t dg) = some (.val (.bool b)))
    (h : XR cx keep ops0 r ((.t d, .val (.tuple #[])) :: A) fun A' lg => Q A' (([.t dg], [.t d]) :: lg)) (hw : b = !want := by assumption) : XR cx keep ops0 (⟨some d, op, ty, pos, aft, some (g, want)⟩ :: r) A Q := H0 hd hb hw h
theorem xN {B : Asr} {p : Asr → List Log → Prop} {R : Asr → Prop} (ts hs : List Nat) (h : c9w keep A (ts.map .t ++ hs.map .h) [] = some B) (q : R B) :
    XR cx keep ops0 [] A (fun A' lg => (false = true → p A' lg) ∧ ∃ B, KeepL keep A' B ∧ R B) := J7 ⟨nofun, B, kS ts hs h, q⟩
theorem xC {G : Type} {k : Nat} {args : Array Operand} {Ts : Array Nat} {vs av : List AV} {ids : List (Nat × Bool)} {wp wb : Ws} {lp lb li : List Mv.Loc} {res : AV} {outs : List (List AV)} {v : G → AV} {wi : G → Ws}
    (hv : opds A args.toList = some vs) (hp : a5s (CW cx) A (cx.md k) 0 vs av ids wp lp) (hC : CW cx k av = some (res, outs))
    (hr : (apartIds ids = true ∧ O7 ((a0d (cx.md k) 0 vs).map (·.1)) = true ∧ O7 ((cidAll (cx.md k) 0 av).map (·.1)) = true ∧ av.length ≤ 1000 ∧ a1e av = true) ∧
      (ids.all (fun x => x.2) = true ∨ (hasList res = false ∧ outs.any F6 = false)) ∧
      c4g (CW cx) (puts A wp) (a0d (cx.md k) 0 vs) outs wb lb ∧ a4i (CW cx) (puts (puts A wp) wb) d res v wi li ∧
      (∀ g, tRefsOk keep (keptWs keep (wp ++ (wb ++ (wi g ++ [(.t d, v g)])))) = true) ∧
      ∀ g, XR cx keep ops0 r (I6 A (wp ++ (wb ++ (wi g ++ [(.t d, v g)])))) fun A' lg => Q A' ((a1j args.toList ++ (lp ++ (lb ++ li)), a0h (wp ++ (wb ++ (wi g ++ [(.t d, v g)])))) :: lg)) :
    XR cx keep ops0 (⟨some d, .call ⟨.value (.func k), args, Ts⟩, ty, pos, aft, none⟩ :: r) A Q :=
  a6s hv hp hC hr.1 hr.2.1 hr.2.2.1 hr.2.2.2.1 hr.2.2.2.2.1 hr.2.2.2.2.2
theorem xC1 {k : Nat} {Ts : Array Nat} {x1 : Operand} {v1 res : AV} (hx : opds A [x1] = some [v1]) (p1 : U7 v1 = true) (hC : CW cx k [v1] = some (res, []))
    (hb : a0d (cx.md k) 0 [v1] = [] ∧ O7 ((cidAll (cx.md k) 0 [v1]).map (·.1)) = true ∧ a1e [v1] = true) (hi : K4 res = true) (hk : tRefsOk keep (keptWs keep [(.t d, res)]) = true)
    (h : ∀ _ : Unit, XR cx keep ops0 r (I6 A [(.t d, res)]) fun A' lg => Q A' ((a1j [x1], [.t d]) :: lg)) : XR cx keep ops0 (⟨some d, .call ⟨.value (.func k), #[x1], Ts⟩, ty, pos, aft, none⟩ :: r) A Q :=
  a6s hx (A8 (B7 p1) C3) hC ⟨rfl, by rw [hb.1]; rfl, hb.2.1, by simp, hb.2.2⟩ (.inl rfl) (by rw [hb.1]; exact B3) (C6 hi) (fun _ => hk) (fun g => by have := h g; simpa [a0h] using this)
theorem xC2 {k : Nat} {Ts : Array Nat} {x1 x2 : Operand} {v1 v2 res : AV} (hx : opds A [x1, x2] = some [v1, v2]) (p1 : U7 v1 = true) (p2 : U7 v2 = true) (hC : CW cx k [v1, v2] = some (res, []))
    (hb : a0d (cx.md k) 0 [v1, v2] = [] ∧ O7 ((cidAll (cx.md k) 0 [v1, v2]).map (·.1)) = true ∧ a1e [v1, v2] = true) (hi : K4 res = true) (hk : tRefsOk keep (keptWs keep [(.t d, res)]) = true)
    (h : ∀ _ : Unit, XR cx keep ops0 r (I6 A [(.t d, res)]) fun A' lg => Q A' ((a1j [x1, x2], [.t d]) :: lg)) : XR cx keep ops0 (⟨some d, .call ⟨.value (.func k), #[x1, x2], Ts⟩, ty, pos, aft, none⟩ :: r) A Q :=
  a6s hx (A8 (B7 p1) (A8 (B7 p2) C3)) hC ⟨rfl, by rw [hb.1]; rfl, hb.2.1, by simp, hb.2.2⟩ (.inl rfl) (by rw [hb.1]; exact B3) (C6 hi) (fun _ => hk) (fun g => by have := h g; simpa [a0h] using this)
theorem xC3 {k : Nat} {Ts : Array Nat} {x1 x2 x3 : Operand} {v1 v2 v3 res : AV} (hx : opds A [x1, x2, x3] = some [v1, v2, v3]) (p1 : U7 v1 = true) (p2 : U7 v2 = true) (p3 : U7 v3 = true) (hC : CW cx k [v1, v2, v3] = some (res, []))
    (hb : a0d (cx.md k) 0 [v1, v2, v3] = [] ∧ O7 ((cidAll (cx.md k) 0 [v1, v2, v3]).map (·.1)) = true ∧ a1e [v1, v2, v3] = true) (hi : K4 res = true) (hk : tRefsOk keep (keptWs keep [(.t d, res)]) = true)
    (h : ∀ _ : Unit, XR cx keep ops0 r (I6 A [(.t d, res)]) fun A' lg => Q A' ((a1j [x1, x2, x3], [.t d]) :: lg)) : XR cx keep ops0 (⟨some d, .call ⟨.value (.func k), #[x1, x2, x3], Ts⟩, ty, pos, aft, none⟩ :: r) A Q :=
  a6s hx (A8 (B7 p1) (A8 (B7 p2) (A8 (B7 p3) C3))) hC ⟨rfl, by rw [hb.1]; rfl, hb.2.1, by simp, hb.2.2⟩ (.inl rfl) (by rw [hb.1]; exact B3) (C6 hi) (fun _ => hk) (fun g => by have := h g; simpa [a0h] using this)
theorem xO {α : Type} {f : α → AV} {xs : List α} {x : Operand} {id g s n : Nat} (hx : opd A x = some (.sl id g none 0 n)) (ho : Mv.look A (.h id) = some (.obj g 0 s (xs.map f))) (hn : n = (xs.map f).length) (hne : Loc.beq (.h d) (.h id) = false) (hf : ∀ a, L2 (f a) = true)
    (hk : ∀ g, slotOk keep (.t d) (.sl d g none 0 n) = true) (h : ∀ g', XR cx keep ops0 r ((.t d, .sl d g' none 0 n) :: (.h d, .obj g' 0 s (xs.map f)) :: (.h id, .dead g) :: A) fun A' lg => Q A' ((rds x ++ [.h id, .h d], [.h id, .h d, .t d]) :: lg)) :
    XR cx keep ops0 (⟨some d, .assign x, ty, pos, aft, none⟩ :: r) A Q := H9 hx ho hn hne (fun _ => B2 (A7 hf)) hk h
theorem xB {T id g m s : Nat} {a x : Operand} {e v : AV} (ha : opd A a = some (.ptr id g none 0 0)) (hx : opd A x = some v) (ho : Mv.look A (.h id) = some (.obj g m s [e])) (hl : b4b (leaves e) v = true)
    (hc : decide (m ≠ 2 ∧ (leaves v).length = (tyS cx.P T).size ∧ 0 < (leaves v).length ∧ (leaves v).length ≤ (leaves e).length) = true) (hw : X7 (leaves v) (leaves e) = true) (hp : putAt e 0 v = v) (hm : decide (m = 3) = true) (hi : N0 [v] = true)
    (h : XR cx keep ops0 r ((.h id, .obj g m s [v]) :: A) fun A' lg => Q A' ((rds a ++ (rds x ++ [.h id, .h id, .h id]), [.h id]) :: lg)) : XR cx keep ops0 (⟨none, .store T a x, ty, pos, aft, none⟩ :: r) A Q := by
  obtain ⟨h1, h2, h3, h4⟩ := of_decide_eq_true hc
  exact b8p ha hx ho hl ⟨h1, h2, h3, h4, hw⟩ hp (by rw [of_decide_eq_true hm]; exact M2 hi) h
theorem xA {α : Type} {f : α → AV} {xs ys : List α} {T T' E s id g n id2 g2 n2 : Nat} {x y : Operand} {z : AV} (hx : opd A x = some (.sl id g none 0 n)) (hy : opd A y = some (.sl id2 g2 none 0 n2)) (ho : Mv.look A (.h id) = some (.obj g 0 s (xs.map f))) (ho2 : Mv.look A (.h id2) = some (.obj g2 0 s (ys.map f)))
    (hn : n = (xs.map f).length) (hn2 : n2 = (ys.map f).length) (hd : (decide (1000000 ≤ id2) && !Loc.beq (.h id) (.h id2)) = true) (hT : P4 cx.P T = some (E, s)) (hT' : M8 (tyS cx.P T').k = true) (hz : Z7 cx.P E = some (z, s)) (hb : decide ((tyS cx.P E).bytes ≤ 4096) = true) (hf : ∀ a, ((leaves (f a)).all cellLeaf && L2 (f a)) = true)
    (hle : xs.length + ys.length ≤ 4294967296) (hk : ∀ g, slotOk keep (.t d) (.sl (tid d 0) g none 0 (xs ++ ys).length) = true)
    (h : ∀ g', XR cx keep ops0 r ((.t d, .sl (tid d 0) g' none 0 (xs ++ ys).length) :: (.h (tid d 0), .obj g' 0 s ((xs ++ ys).map f)) :: (.h id, .dead g) :: (.h id2, .dead g2) :: A) fun A' lg => Q A' ((rds x ++ (rds y ++ [.h id2, .h id, .h (tid d 0)]), [.h id2, .h id, .h (tid d 0), .t d]) :: lg)) :
    XR cx keep ops0 (⟨some d, .call ⟨.builtin .append, #[x, y], #[T, T']⟩, ty, pos, aft, none⟩ :: r) A Q := by
  simp only [Bool.and_eq_true, decide_eq_true_eq, Bool.not_eq_true'] at hd hf
  exact S9 hx hy ho ho2 hn hn2 hd.1 hd.2 hT hT' hz (of_decide_eq_true hb) hf (Nat.le_trans hle (by decide)) hk h
theorem y_M {x : Operand} {v : AV} (e : (opd A x, slotOk keep (.t d) v) = (some v, true)) (h : XR cx keep ops0 r ((.t d, v) :: A) fun A' lg => Q A' ((rds x, [.t d]) :: lg)) : XR cx keep ops0 (⟨some d, .move x, ty, pos, aft, none⟩ :: r) A Q := by
  simp only [Prod.mk.injEq] at e
  exact d6c e.1 e.2 h
theorem y_S {x : Operand} {v : AV} (e : (opd A x, a2j v, slotOk keep (.t d) v) = (some v, true, true)) (h : XR cx keep ops0 r ((.t d, v) :: A) fun A' lg => Q A' ((rds x, [.t d]) :: lg)) : XR cx keep ops0 (⟨some d, .assign x, ty, pos, aft, none⟩ :: r) A Q := by
  simp only [Prod.mk.injEq] at e
  exact d2h e.1 e.2.1 e.2.2 h
theorem y_F {x : Operand} {S f o ft : Nat} {v v' : AV} (e : (opd A x, (match (tyS cx.P S).k with | .struct fs => fs[f]? | _ => none), decide ((tyS cx.P ft).size ≠ 0), (match v with | .ptr id g p i j => some (AV.ptr id g p i (j + o)) | .ipt e j => some (.ipt e (j + o)) | _ => none), slotOk keep (.t d) v') = (some v, some (o, ft), true, some v', true)) (h : XR cx keep ops0 r ((.t d, v') :: A) fun A' lg => Q A' ((rds x, [.t d]) :: lg)) : XR cx keep ops0 (⟨some d, .fieldAddr S x f, ty, pos, aft, none⟩ :: r) A Q := by
  simp only [Prod.mk.injEq] at e
  refine c2t e.1 e.2.1 (of_decide_eq_true e.2.2.1) ?_ e.2.2.2.2 h
  have e4 := e.2.2.2.1
  cases v <;> exact e4
theorem y_L {a : Operand} {T id g m s i j : Nat} {es : List AV} {e0 v : AV} (e : (opd A a, Mv.look A (.h id), es[i]?, ((leaves e0).all fun l => !isOwn l), partF cx.P T ((leaves e0).drop j), slotOk keep (.t d) v) = (some (.ptr id g none i j), some (.obj g m s es), some e0, true, some v, true)) (h : XR cx keep ops0 r ((.t d, v) :: A) fun A' lg => Q A' ((rds a ++ [.h id], [.t d]) :: lg)) : XR cx keep ops0 (⟨some d, .load T a, ty, pos, aft, none⟩ :: r) A Q := by
  simp only [Prod.mk.injEq] at e
  exact a4r e.1 e.2.1 e.2.2.1 e.2.2.2.1 e.2.2.2.2.1 e.2.2.2.2.2 h
theorem y_E {x : Operand} {i : Nat} {vs : List AV} {v : AV} (e : (opd A x, vs[i]?, slotOk keep (.t d) v) = (some (.tup vs), some v, true)) (h : XR cx keep ops0 r ((.t d, v) :: A) fun A' lg => Q A' ((rds x, [.t d]) :: lg)) : XR cx keep ops0 (⟨some d, .extract x i, ty, pos, aft, none⟩ :: r) A Q := by
  simp only [Prod.mk.injEq] at e
  exact c8r e.1 e.2.1 e.2.2 h
theorem y_B {a : Operand} {T id g m s : Nat} {v : AV} (e : (opd A a, Mv.look A (.h id), ((leaves v).all fun l => !isOwn l), partF cx.P T (leaves v), slotOk keep (.t d) v) = (some (.ptr id g none 0 0), some (.obj g m s [v]), true, some v, true)) (h : XR cx keep ops0 r ((.t d, v) :: A) fun A' lg => Q A' ((rds a ++ [.h id], [.t d]) :: lg)) : XR cx keep ops0 (⟨some d, .load T a, ty, pos, aft, none⟩ :: r) A Q := by
  simp only [Prod.mk.injEq] at e
  exact c3u e.1 e.2.1 e.2.2.1 e.2.2.2.1 e.2.2.2.2 h
theorem y_I {a : Operand} {T : Nat} {v : AV} (e : (opd A a, partF cx.P T (leaves v), slotOk keep (.t d) v) = (some (.ipt v 0), some v, true)) (h : XR cx keep ops0 r ((.t d, v) :: A) fun A' lg => Q A' ((rds a, [.t d]) :: lg)) : XR cx keep ops0 (⟨some d, .load T a, ty, pos, aft, none⟩ :: r) A Q := by
  simp only [Prod.mk.injEq] at e
  exact c1h e.1 e.2.1 e.2.2 h
theorem y_A {T s : Nat} {z : AV} (e : (Z7 cx.P T, N0 [z], slotOk keep (.t d) (.ptr d 0 none 0 0)) = (some (z, s), true, true)) (hk : ∀ g, slotOk keep (.t d) (.ptr d g none 0 0) = true)
    (h : ∀ g, XR cx keep ops0 r ((.t d, .ptr d g none 0 0) :: (.h d, .obj g 3 s [z]) :: A) fun A' lg => Q A' (([.h d], [.h d, .t d]) :: lg)) : XR cx keep ops0 (⟨some d, .alloc T, ty, pos, aft, none⟩ :: r) A Q := by
  simp only [Prod.mk.injEq] at e
  exact d4p e.1 (fun _ => M2 e.2.1) hk h
end
theorem SL : (∀ {α β : Type} {av : List α} (f : α → β), (av.map f).length = av.length) ∧ (((∀ {p : Prop} [Decidable p], (decide p = true) = p) ∧ (∀ {p : Prop} {_ : Decidable p}, decide p = false ↔ ¬p) ∧ (∀ (b : Bool), ((!b) = true) = (b = false)) ∧ (∀ (b : Bool), ((!b) = false) = (b = true)) ∧ (∀ {α : Type} [BEq α] [LawfulBEq α] {a b : α}, (a != b) = true ↔ a ≠ b) ∧
    (∀ {α : Type} [BEq α] [LawfulBEq α] {a b : α}, (a == b) = true ↔ a = b) ∧ (∀ {α : Type} (a b : α), (a ≠ b) = ¬a = b) ∧ (!true) = false ∧ (!false) = true ∧ (∀ {α : Type} [BEq α] [LawfulBEq α] {a b : α}, (a == b) = false ↔ a ≠ b) ∧ (∀ {α : Type} [BEq α] [LawfulBEq α] {a b : α}, (a != b) = false ↔ a = b) ∧
    (∀ {p : Prop} [Decidable p], ¬¬p ↔ p) ∧ (∀ {a b : Int}, ¬a < b ↔ b ≤ a) ∧ (∀ {a b : Int}, ¬a ≤ b ↔ b < a)) ∧
    (∀ (a b : Bool), ((a && b) = true) = (a = true ∧ b = true)) ∧ (∀ {x y : Bool}, (x && y) = false ↔ x = false ∨ y = false) ∧ (∀ (a b : Bool), ((a || b) = true) = (a = true ∨ b = true)) ∧ (∀ {x y : Bool}, (x || y) = false ↔ x = false ∧ y = false)) := ⟨@List.length_map.{0, 0}, SG⟩
theorem LN : (∀ {α : Type}, ([] : List α).length = 0) ∧ (∀ {α : Type} {a : α} {l : List α}, (a :: l).length = l.length + 1) ∧ (∀ {α : Type} {a b : List α}, (a ++ b).length = a.length + b.length) ∧ (∀ n : Nat, 0 + n = n) ∧ (∀ {α β : Type} {l : List α} (f : α → β), (l.map f).length = l.length) := ⟨rfl, rfl, List.length_append, Nat.zero_add, List.length_map.{0, 0}⟩
theorem dT {p : Prop} [Decidable p] (h : decide p = true) : p := of_decide_eq_true h

def mdT : List (Nat × List Nat) := [(23, [3, 3, 3, 3]), (25, [2]), (41, [2]), (42, [1]), (48, [1]), (54, [3, 3, 3, 3]), (55, [3, 3, 3, 3]), (56, [3, 3, 3, 3]), (57, [3, 3, 3, 3]), (60, [3, 3, 3, 3]), (67, [2]), (70, [0, 2]), (71, [2]), (75, [0, 2]), (79, [3, 3, 3, 3]), (82, [3, 3, 3, 3]), (89, [3, 3, 3, 3]), (91, [3, 3, 3, 3]), (92, [3, 3, 3, 3]), (93, [3, 3, 3, 3]), (94, [3, 3, 3, 3]), (95, [3, 3, 3, 3]), (96, [3, 3, 3, 3]), (97, [3, 3, 3, 3]), (102, [3, 3, 3, 3]), (107, [1]), (108, [1]), (112, [2]), (118, [3, 3, 3, 3]), (123, [3, 3, 3, 3]), (131, [3, 3, 3, 3]), (133, [3, 3, 3, 3])]
noncomputable def d7d : List (Nat × (List AV → Option (AV × List (List AV)))) := [(106, a7j), (107, b2d), (121, b3p), (122, b9z), (136, b9s), (137, b9f), (138, b8r), (165, b2k)]
variable {oG : Option Nat} {rG : Nat}
noncomputable def cxT (oG : Option Nat) : Cx := { P := Tryz.prog, md := d7u mdT, ext := c7l d7d, it := fun _ => none, fz := fun k => [57, 60, 82, 89, 97, 102, 118, 123, 131, 133].contains k, fzB := fun T d => [(69, 58), (34, 98), (23, 57), (23, 26), (23, 47), (23, 67), (23, 103)].contains (T, d), gl := fun g => match oG with | some r => if g = 0 then some (.val (.map (some r))) else none | none => none, mp := fun k => match oG with | some r => if k = r then some d7a else none | none => none }
noncomputable def cxE : Cx := { P := Tryz.prog, md := d7u mdT, ext := fun _ => none, fz := fun k => [57, 60, 82, 89, 97, 102, 118, 123, 131, 133].contains k }
theorem c6y (xs : List Int) (hl : xs.length ≤ H2) : CW (cxT oG) 106 [.list (xs.map iV)] = some (.own 1 (xs.map iV), []) := a4o (cxT oG) rfl (by simp [a7j, c7v, hl])
theorem d7b (xs : List Int) (hl : xs.length ≤ H2) : CW (cxT oG) 107 [.own 1 (xs.map iV)] = some (.tup [], [(U6 xs).map iV]) := a4o (cxT oG) rfl (by simp [b2d, c7v, hl])
theorem c7g (l : List UInt8) (b : UInt8) (hl : l.length < 4294967281) : CW (cxT oG) 121 [tV l, tV [b]] = some (.own 1 ((splitB b l).map tV), []) := a4o (cxT oG) rfl (by show (if l.length < 4294967281 then some ((AV.own 1 ((splitB b l).map tV), []) : AV × List (List AV)) else none) = _; rw [if_pos hl])
theorem d6f (ps : List (List UInt8)) (b : UInt8) (h1 : ps.length ≤ H2) (h2 : (joinB b ps).length ≤ H2) : CW (cxT oG) 122 [.list (ps.map tV), tV [b]] = some (tV (joinB b ps), []) := a4o (cxT oG) rfl (by show ((unT (ps.map tV)).bind fun ps => if ps.length ≤ H2 ∧ (joinB b ps).length ≤ H2 then some ((tV (joinB b ps), []) : AV × List (List AV)) else none) = _; rw [d5s, Option.bind_some, if_pos ⟨h1, h2⟩])
theorem d6i (l : List UInt8) (b : UInt8) : CW (cxT oG) 136 [tV l, tV [b]] = some (.tup [tV (a3u b l), bV (decide (l.head? = some b))], []) := a4o (cxT oG) rfl rfl
theorem d6u (l : List UInt8) (b : UInt8) (hl : l.length < 4294967281) : CW (cxT oG) 137 [tV l, tV [b]] = some (.tup [tV (b5s b l), bV (decide (l.getLast? = some b))], []) := a4o (cxT oG) rfl (by show (if l.length < 4294967281 then some ((AV.tup [tV (b5s b l), bV (decide (l.getLast? = some b))], []) : AV × List (List AV)) else none) = _; rw [if_pos hl])
theorem c5k (l : List UInt8) (hl : l.length < 4294967281) : CW (cxT oG) 138 [tV l] = some (atR l, []) := a4o (cxT oG) rfl (by show (if l.length < 4294967281 then some ((atR l, []) : AV × List (List AV)) else none) = _; rw [if_pos hl])
theorem d6s (n : Int) (h : -9223372036854775808 ≤ n ∧ n ≤ 9223372036854775807) : CW (cxT oG) 165 [iV n] = some (tV (dec n), []) := a4o (cxT oG) rfl (by simp [b2k, h])

theorem b2o : E7 Tryz.f135 = [0, 1, 2, 6] := by kernel_rfl
theorem b7g (n lo hi : Int) : CW (cxT oG) 135 [iV n, iV lo, iV hi] = some (bV (decide (lo ≤ n) && decide (n ≤ hi)), []) := by
 refine E4 rfl Tryz.func135 rfl ⟨by kernel_rfl, rfl, dT rfl, dT rfl, by decide⟩ b2o <| A3 <| A0 <| y_S rfl <| xN [0,1,2] [] rfl <| A3 <| A0 <| y_M rfl <| y_M rfl <| a5h rfl rfl <| y_M rfl ?_
 refine C5 rfl rfl ?_ ?_ <;> intro hg0 <;> have hg := hg0 <;> try simp only [SG] at hg
 ·refine y_M rfl <| gT rfl rfl <| y_M rfl <| gT rfl rfl <| a5h rfl rfl <| E8 rfl (by assumption) rfl rfl <| y_S rfl <| xN [6] [] rfl <| A9 <| C0 rfl rfl trivial ?_
  simp_all [ofConst]; try omega
 refine gF rfl rfl <| gF rfl rfl <| F7 rfl (by assumption) rfl rfl <| y_S rfl <| xN [6] [] rfl <| A9 <| C0 rfl rfl trivial ?_
 simp_all [ofConst]; try omega

theorem d0d : E7 Tryz.f114 = [0, 1, 2, 6] := by kernel_rfl
theorem d8d (n lo hi : Int) : CW (cxT oG) 114 [iV n, iV lo, iV hi] = some (bV (decide (lo ≤ n) && decide (n ≤ hi)), []) := by
 refine E4 rfl Tryz.func114 rfl ⟨by kernel_rfl, rfl, dT rfl, dT rfl, by decide⟩ d0d <| A3 <| A0 <| y_S rfl <| xN [0,1,2] [] rfl <| A3 <| A0 <| y_M rfl <| y_M rfl <| c0m rfl rfl <| y_M rfl ?_
 refine C5 rfl rfl ?_ ?_ <;> intro hg0 <;> have hg := hg0 <;> try simp only [SG] at hg
 ·refine y_M rfl <| gT rfl rfl <| y_M rfl <| gT rfl rfl <| a5h rfl rfl <| E8 rfl (by assumption) rfl rfl <| y_S rfl <| xN [6] [] rfl <| A9 <| C0 rfl rfl trivial ?_
  simp_all [ofConst]; try omega
 refine gF rfl rfl <| gF rfl rfl <| F7 rfl (by assumption) rfl rfl <| y_S rfl <| xN [6] [] rfl <| A9 <| C0 rfl rfl trivial ?_
 simp_all [ofConst]; try omega

theorem a8f : E7 Tryz.f164 = [0, 1, 4, 8, 7, 9, 5, 16] := by kernel_rfl
theorem b9g (xs : List Int) (hl : xs.length ≤ 1000) (k : Nat) (a b : AV) (q : Int → Bool) (hq : ∀ x, CW (cxT oG) k [iV x, .ipt a 0, .ipt b 0] = some (bV (q x), [])) : ∃ res outs, (fun res outs => ∃ r : Int, res = iV r ∧ outs = [] ∧ decide (0 ≤ r) = xs.any q) res outs ∧ CW (cxT oG) 164 [L xs, .clo k [.ipt a 0, .ipt b 0]] = some (res, outs) := by
 refine P3 rfl Tryz.func164 rfl ⟨by kernel_rfl, rfl, dT rfl, dT rfl, by decide⟩ a8f <| A3 <| A0 <| y_S rfl <| xN [0,1] [] rfl <| A3 <| A3 <| A0 <| y_M rfl <| B9 rfl rfl <| y_M rfl <| xN [0,1,7,8] [] rfl <| B0 <| F5 (β := Nat) [(.t 0, _), (.t 1, _), (.t 7, _)] (fun (i : Nat) => [(.t 8, iV i)]) (fun (i : Nat) => i ≤ xs.length ∧ ∀ j, j < i → q (xs.getD j default) = false) (fun (i : Nat) => xs.length - i) 0 ⟨rfl, rfl, rfl, rfl, trivial⟩ ⟨Nat.zero_le _, fun j h => by omega⟩ ?_
 intro i hb
 obtain ⟨hi1, hi2⟩ := hb
 refine A3 <| A0 <| F8 rfl rfl <| xN [0,1,7,8,9] [] rfl <| A3 ?_
 refine A5 rfl ?_ ?_ <;> intro hc <;> try simp only [SL] at hc
 ·refine A6 <| A3 <| B0 <| A3 <| A0 <| y_M rfl <| y_S rfl <| xN [0,1,5,7,8] [] rfl <| A3 <| A0 <| y_M rfl <| y_M rfl <| y_M rfl <| B8 rfl rfl rfl (fun _ => rfl) (by omega) <| y_I rfl ?_
  apply c7z rfl rfl
  ·apply A8
   ·exact B7 rfl
   apply A8
   ·exact B7 rfl
   apply A8
   ·exact B7 rfl
   exact C3
  ·exact hq (xs.getD i default)
  ·exact ⟨rfl, rfl, rfl, dT rfl, rfl⟩
  ·exact .inl rfl
  ·exact B3
  ·exact C6 rfl
  ·exact fun _ => rfl
  intro g16
  refine xN [0,1,5,7,8,16] [] rfl ?_
  refine A5 rfl ?_ ?_ <;> intro hc <;> try simp only [SL] at hc
  ·refine A3 <| A0 <| y_M rfl <| y_S rfl <| xN [4] [] rfl <| A9 ?_
   refine ⟨_, _, ?_, J0 rfl rfl B5⟩
   exact ⟨_, rfl, rfl, d4a (by omega) hc⟩
  refine A6 <| A0 <| E6 rfl rfl (C4 (by omega)) <| y_M rfl <| xN [0,1,7,8] [] rfl ?_
  refine ⟨i + 1, ⟨by omega, fun a ha => by rcases Nat.lt_succ_iff_lt_or_eq.1 ha with h | h; exact hi2 a h; subst h; exact hc⟩, (by omega), ⟨rfl, rfl, rfl, rfl, trivial⟩⟩
 refine D8 <| A3 <| A0 <| y_S rfl <| xN [4] [] rfl <| A9 ?_
 refine ⟨_, _, ?_, J0 rfl rfl B5⟩
 exact ⟨-1, rfl, rfl, d1z fun j hj => hi2 j (by omega)⟩

theorem a5j : E7 Tryz.f141 = [0, 1, 4] := by kernel_rfl
theorem b1q (xs : List Int) (hl : xs.length ≤ 1000) (k : Nat) (a b : AV) (q : Int → Bool) (hq : ∀ x, CW (cxT oG) k [iV x, .ipt a 0, .ipt b 0] = some (bV (q x), [])) : CW (cxT oG) 141 [L xs, .clo k [.ipt a 0, .ipt b 0]] = some (bV (xs.any q), []) := by
 obtain ⟨_, _, ⟨r, rfl, rfl, hr⟩, hC⟩ := b9g (oG := oG) xs hl k a b q hq
 refine E4 rfl Tryz.func141 rfl ⟨by kernel_rfl, rfl, dT rfl, dT rfl, by decide⟩ a5j <| A3 <| A0 <| y_S rfl <| xN [0,1] [] rfl <| A3 <| A0 <| y_M rfl <| y_M rfl ?_
 apply xC rfl
 ·apply A8
  ·exact B7 rfl
  apply A8
  ·exact d3m rfl (d3e (d3e d1e))
  exact C3
 ·exact hC
 refine ⟨⟨rfl, rfl, rfl, dT rfl, rfl⟩, .inl rfl, B3, C6 rfl, fun _ => rfl, fun g7 => ?_⟩
 refine c0m rfl rfl <| y_S rfl <| xN [4] [] rfl <| A9 <| C0 rfl rfl trivial ?_
 rw [← hr]

theorem b6t : E7 Tryz.f142 = [0, 1, 2, 4] := by kernel_rfl
theorem d2k (x lo hi : Int) : CW (cxT oG) 142 [iV x, .ipt (iV lo) 0, .ipt (iV hi) 0] = some (bV (!(decide (lo ≤ x) && decide (x ≤ hi))), []) := by
 refine E4 rfl Tryz.func142 rfl ⟨by kernel_rfl, rfl, dT rfl, dT rfl, by decide⟩ b6t <| A3 <| A0 <| y_S rfl <| xN [0,1,2] [] rfl <| A3 <| A0 <| y_M rfl <| y_I rfl <| y_I rfl ?_
 refine xC3 rfl rfl rfl rfl (d8d _ _ _) ⟨rfl, rfl, rfl⟩ rfl rfl fun g8 => ?_
 refine J9 rfl <| y_S rfl <| xN [4] [] rfl <| A9 <| C0 rfl rfl trivial ?_
 rfl

theorem b8t : E7 Tryz.f111 = [0, 1, 2, 6, 4, 5] := by kernel_rfl
theorem c7f (xs : List Int) (hl : xs.length ≤ 1000) (lo hi : Int) : CW (cxT oG) 111 [L xs, iV lo, iV hi] = some (bV (a9v lo hi xs), []) := by
 refine E4 rfl Tryz.func111 rfl ⟨by kernel_rfl, rfl, dT rfl, dT rfl, by decide⟩ b8t <| A3 <| A0 <| a2g rfl rfl rfl (fun _ => M2 rfl) (fun _ => rfl) ?_
 intro g4
 refine a2g rfl rfl rfl (fun _ => M2 rfl) (fun _ => rfl) ?_
 intro g5
 refine y_S rfl <| xN [0,4,5] [4,5] rfl <| A3 <| A0 <| y_M rfl <| c5c rfl rfl ?_
 apply xC rfl
 ·apply A8
  ·exact B7 rfl
  apply A8
  ·exact d3m rfl (d3d rfl rfl (d3d rfl rfl d1e))
  exact C3
 ·exact b1q xs hl 142 (iV lo) (iV hi) _ (fun x => d2k x lo hi)
 refine ⟨⟨rfl, rfl, rfl, dT rfl, rfl⟩, .inr ⟨rfl, rfl⟩, B3, C6 rfl, fun _ => rfl, fun g9 => ?_⟩
 refine J9 rfl <| y_S rfl <| xN [6] [] rfl <| A9 <| C0 rfl rfl trivial ?_
 exact congrArg bV (d2s lo hi xs)

theorem a8u : E7 Tryz.f103 = [0, 2, 3, 7, 15] := by kernel_rfl
theorem a3w (xs : List Int) (hl : xs.length ≤ 1048576) : CW (cxT oG) 103 [L xs] = some (bV (vd xs), []) := by
 refine E4 rfl Tryz.func103 rfl ⟨by kernel_rfl, rfl, dT rfl, dT rfl, by decide⟩ a8u <| A3 <| A0 <| y_S rfl <| xN [0] [] rfl <| A3 <| A3 <| A0 <| y_S rfl <| xN [0,3] [] rfl <| B0 <| F5 (β := Nat) [(.t 0, _)] (fun (i : Nat) => [(.t 3, iV i)]) (fun (i : Nat) => i ≤ xs.length ∧ ∀ j, j < i → -200 ≤ xs.getD j default ∧ xs.getD j default ≤ 200) (fun (i : Nat) => xs.length - i) 0 ⟨rfl, rfl, trivial⟩ ⟨Nat.zero_le _, fun j h => by omega⟩ ?_
 intro i hb
 obtain ⟨hi1, hi2⟩ := hb
 refine A3 <| A3 <| A0 <| y_M rfl <| y_M rfl <| B9 rfl rfl <| F8 rfl rfl <| xN [0,3,7] [] rfl ?_
 refine A5 rfl ?_ ?_ <;> intro hc <;> try simp only [SL] at hc
 ·refine A6 <| A3 <| B0 <| A3 <| A0 <| y_M rfl <| y_M rfl <| B8 rfl rfl rfl (fun _ => rfl) (by omega) <| y_I rfl ?_
  refine xC3 rfl rfl rfl rfl (b7g _ _ _) ⟨rfl, rfl, rfl⟩ rfl rfl fun g14 => ?_
  refine J9 rfl <| xN [0,3,15] [] rfl ?_
  refine A5 rfl ?_ ?_ <;> intro hc <;> try simp only [SL] at hc
  ·refine A3 <| A0 <| y_S rfl <| xN [2] [] rfl <| A9 <| C0 rfl rfl trivial ?_
   rw [vd, c2y (show i < xs.length by omega) (by (simp_all; omega)), Bool.and_false]
   rfl
  refine A6 <| A0 <| y_M rfl <| E6 rfl rfl (C4 (by omega)) <| y_S rfl <| xN [0,3] [] rfl ?_
  refine ⟨i + 1, ⟨by omega, fun j hj => by rcases Nat.lt_succ_iff_lt_or_eq.1 hj with h | h; (· exact hi2 j h); (· subst h; assumption)⟩, (by omega), ⟨rfl, rfl, trivial⟩⟩
 refine D8 <| A3 <| A0 <| y_M rfl <| B9 rfl rfl <| a5h rfl rfl <| y_S rfl <| xN [2] [] rfl <| A9 <| C0 rfl rfl trivial ?_
 rw [vd, c7q fun j hj => hi2 j (by omega), Bool.and_true]
 exact congrArg bV (decide_eq_decide.2 (by omega))

theorem a7w : E7 Tryz.f100 = [0, 2] := by kernel_rfl
theorem W9 (xs : List Int) (hl : xs.length ≤ 1048576) : CW (cxT oG) 100 [L xs] = some (bV (vd xs), []) := by
 refine E4 rfl Tryz.func100 rfl ⟨by kernel_rfl, rfl, dT rfl, dT rfl, by decide⟩ a7w <| A3 <| A0 <| y_S rfl <| xN [0] [] rfl <| A3 <| A0 <| y_M rfl <| B9 rfl rfl <| a5h rfl rfl <| y_M rfl ?_
 refine C5 rfl rfl ?_ ?_ <;> intro hg0 <;> have hg := hg0 <;> try simp only [SG] at hg
 ·refine y_M rfl <| gT rfl rfl ?_
  refine xC3 rfl rfl rfl rfl (c7f xs (by omega) (-200) 200) ⟨rfl, rfl, rfl⟩ rfl rfl fun g8 => ?_
  refine E8 rfl (by assumption) rfl rfl <| y_S rfl <| xN [2] [] rfl <| A9 <| C0 rfl rfl trivial ?_
  cases hb : a9v (-200) 200 xs <;> simp_all [vd, ofConst] <;> omega
 refine gF rfl rfl <| F7 rfl (by assumption) rfl rfl <| y_S rfl <| xN [2] [] rfl <| A9 <| C0 rfl rfl trivial ?_
 cases hb : a9v (-200) 200 xs <;> simp_all [vd, ofConst] <;> omega

theorem c0k : E7 Tryz.f64 = [0, 2, 3, 4, 10, 19] := by kernel_rfl
theorem a7x (w : ByteArray) : CW (cxT oG) 64 [sV w] = some (iV (nd w), []) := by
 refine E4 rfl Tryz.func64 rfl ⟨by kernel_rfl, rfl, dT rfl, dT rfl, by decide⟩ c0k <| A3 <| A0 <| y_S rfl <| xN [0] [] rfl <| A3 <| A3 <| A0 <| y_M rfl <| xN [3] [] rfl <| B0 <| A3 <| A3 <| A0 <| I4 rfl rfl <| y_S rfl <| xN [3,4] [] rfl ?_
 refine A5 rfl ?_ ?_ <;> intro hc <;> try simp only [SL] at hc
 ·refine A6 ?_
  refine A5 rfl (fun hc => ?_) (fun hc => absurd hc (by simp_all))
  refine A3 <| A0 <| y_S rfl <| xN [2] [] rfl <| A9 <| C0 rfl rfl trivial <| congrArg iV ?_
  simp_all [nd]
 refine A3 <| A0 <| I4 rfl rfl <| y_S rfl <| xN [3,4] [] rfl ?_
 refine A5 rfl ?_ ?_ <;> intro hc <;> try simp only [SL] at hc
 ·refine A6 ?_
  refine A5 rfl (fun hc => ?_) (fun hc => absurd hc (by simp_all))
  refine A3 <| A0 <| y_S rfl <| xN [2] [] rfl <| A9 <| C0 rfl rfl trivial <| congrArg iV ?_
  simp_all [nd]
 refine A3 <| A0 <| I4 rfl rfl <| y_S rfl <| xN [3,4] [] rfl ?_
 refine A5 rfl ?_ ?_ <;> intro hc <;> try simp only [SL] at hc
 ·refine A6 ?_
  refine A5 rfl (fun hc => ?_) (fun hc => absurd hc (by simp_all))
  refine A3 <| A0 <| y_S rfl <| xN [2] [] rfl <| A9 <| C0 rfl rfl trivial <| congrArg iV ?_
  simp_all [nd]
 refine A3 <| A0 <| I4 rfl rfl <| y_S rfl <| xN [3,4] [] rfl ?_
 refine A5 rfl ?_ ?_ <;> intro hc <;> try simp only [SL] at hc
 ·refine A6 ?_
  refine A5 rfl (fun hc => ?_) (fun hc => absurd hc (by simp_all))
  refine A3 <| A0 <| y_S rfl <| xN [2] [] rfl <| A9 <| C0 rfl rfl trivial <| congrArg iV ?_
  simp_all [nd]
 refine A0 <| I4 rfl rfl <| y_S rfl <| xN [3,4] [] rfl ?_
 refine A5 rfl ?_ ?_ <;> intro hc <;> try simp only [SL] at hc
 ·refine A3 <| A0 <| y_S rfl <| xN [2] [] rfl <| A9 <| C0 rfl rfl trivial <| congrArg iV ?_
  simp_all [nd]
 refine A3 <| A3 <| A0 <| I4 rfl rfl <| y_S rfl <| xN [3,10] [] rfl ?_
 refine A5 rfl ?_ ?_ <;> intro hc <;> try simp only [SL] at hc
 ·refine A6 ?_
  refine A5 rfl (fun hc => ?_) (fun hc => absurd hc (by simp_all))
  refine A3 <| A0 <| y_S rfl <| xN [2] [] rfl <| A9 <| C0 rfl rfl trivial <| congrArg iV ?_
  simp_all [nd]
 refine A3 <| A0 <| I4 rfl rfl <| y_S rfl <| xN [3,10] [] rfl ?_
 refine A5 rfl ?_ ?_ <;> intro hc <;> try simp only [SL] at hc
 ·refine A6 ?_
  refine A5 rfl (fun hc => ?_) (fun hc => absurd hc (by simp_all))
  refine A3 <| A0 <| y_S rfl <| xN [2] [] rfl <| A9 <| C0 rfl rfl trivial <| congrArg iV ?_
  simp_all [nd]
 refine A3 <| A0 <| I4 rfl rfl <| y_S rfl <| xN [3,10] [] rfl ?_
 refine A5 rfl ?_ ?_ <;> intro hc <;> try simp only [SL] at hc
 ·refine A6 ?_
  refine A5 rfl (fun hc => ?_) (fun hc => absurd hc (by simp_all))
  refine A3 <| A0 <| y_S rfl <| xN [2] [] rfl <| A9 <| C0 rfl rfl trivial <| congrArg iV ?_
  simp_all [nd]
 refine A3 <| A0 <| I4 rfl rfl <| y_S rfl <| xN [3,10] [] rfl ?_
 refine A5 rfl ?_ ?_ <;> intro hc <;> try simp only [SL] at hc
 ·refine A6 ?_
  refine A5 rfl (fun hc => ?_) (fun hc => absurd hc (by simp_all))
  refine A3 <| A0 <| y_S rfl <| xN [2] [] rfl <| A9 <| C0 rfl rfl trivial <| congrArg iV ?_
  simp_all [nd]
 refine A3 <| A0 <| I4 rfl rfl <| y_S rfl <| xN [3,10] [] rfl ?_
 refine A5 rfl ?_ ?_ <;> intro hc <;> try simp only [SL] at hc
 ·refine A6 ?_
  refine A5 rfl (fun hc => ?_) (fun hc => absurd hc (by simp_all))
  refine A3 <| A0 <| y_S rfl <| xN [2] [] rfl <| A9 <| C0 rfl rfl trivial <| congrArg iV ?_
  simp_all [nd]
 refine A3 <| A0 <| I4 rfl rfl <| y_S rfl <| xN [3,10] [] rfl ?_
 refine A5 rfl ?_ ?_ <;> intro hc <;> try simp only [SL] at hc
 ·refine A6 ?_
  refine A5 rfl (fun hc => ?_) (fun hc => absurd hc (by simp_all))
  refine A3 <| A0 <| y_S rfl <| xN [2] [] rfl <| A9 <| C0 rfl rfl trivial <| congrArg iV ?_
  simp_all [nd]
 refine A3 <| A0 <| I4 rfl rfl <| y_S rfl <| xN [3,10] [] rfl ?_
 refine A5 rfl ?_ ?_ <;> intro hc <;> try simp only [SL] at hc
 ·refine A6 ?_
  refine A5 rfl (fun hc => ?_) (fun hc => absurd hc (by simp_all))
  refine A3 <| A0 <| y_S rfl <| xN [2] [] rfl <| A9 <| C0 rfl rfl trivial <| congrArg iV ?_
  simp_all [nd]
 refine A0 <| I4 rfl rfl <| y_S rfl <| xN [3,10] [] rfl ?_
 refine A5 rfl ?_ ?_ <;> intro hc <;> try simp only [SL] at hc
 ·refine A3 <| A0 <| y_S rfl <| xN [2] [] rfl <| A9 <| C0 rfl rfl trivial <| congrArg iV ?_
  simp_all [nd]
 refine A3 <| A3 <| A0 <| I4 rfl rfl <| y_S rfl <| xN [3,19] [] rfl ?_
 refine A5 rfl ?_ ?_ <;> intro hc <;> try simp only [SL] at hc
 ·refine A6 ?_
  refine A5 rfl (fun hc => ?_) (fun hc => absurd hc (by simp_all))
  refine A3 <| A0 <| y_S rfl <| xN [2] [] rfl <| A9 <| C0 rfl rfl trivial <| congrArg iV ?_
  simp_all [nd]
 refine A0 <| I4 rfl rfl <| y_S rfl <| xN [19] [] rfl ?_
 refine A5 rfl ?_ ?_ <;> intro hc <;> try simp only [SL] at hc
 ·refine A3 <| A0 <| y_S rfl <| xN [2] [] rfl <| A9 <| C0 rfl rfl trivial <| congrArg iV ?_
  simp_all [nd]
 refine A6 <| A3 <| A0 <| y_S rfl <| xN [2] [] rfl <| A9 <| C0 rfl rfl trivial <| congrArg iV ?_
 simp_all [nd]

theorem b4t : E7 Tryz.f86 = [0, 2, 3, 4, 13, 16] := by kernel_rfl
theorem c9e (w : ByteArray) : CW (cxT oG) 86 [sV w] = some (iV (rch w), []) := by
 refine E4 rfl Tryz.func86 rfl ⟨by kernel_rfl, rfl, dT rfl, dT rfl, by decide⟩ b4t <| A3 <| A0 <| y_S rfl <| xN [0] [] rfl <| A3 <| A3 <| A0 <| y_M rfl <| xN [3] [] rfl <| B0 <| A3 <| A3 <| A0 <| I4 rfl rfl <| y_S rfl <| xN [3,4] [] rfl ?_
 refine A5 rfl ?_ ?_ <;> intro hc <;> try simp only [SL] at hc
 ·refine A6 ?_
  refine A5 rfl (fun hc => ?_) (fun hc => absurd hc (by simp_all))
  refine A3 <| A0 <| y_S rfl <| xN [2] [] rfl <| A9 <| C0 rfl rfl trivial <| congrArg iV ?_
  simp_all [rch]
 refine A3 <| A0 <| I4 rfl rfl <| y_S rfl <| xN [3,4] [] rfl ?_
 refine A5 rfl ?_ ?_ <;> intro hc <;> try simp only [SL] at hc
 ·refine A6 ?_
  refine A5 rfl (fun hc => ?_) (fun hc => absurd hc (by simp_all))
  refine A3 <| A0 <| y_S rfl <| xN [2] [] rfl <| A9 <| C0 rfl rfl trivial <| congrArg iV ?_
  simp_all [rch]
 refine A3 <| A0 <| I4 rfl rfl <| y_S rfl <| xN [3,4] [] rfl ?_
 refine A5 rfl ?_ ?_ <;> intro hc <;> try simp only [SL] at hc
 ·refine A6 ?_
  refine A5 rfl (fun hc => ?_) (fun hc => absurd hc (by simp_all))
  refine A3 <| A0 <| y_S rfl <| xN [2] [] rfl <| A9 <| C0 rfl rfl trivial <| congrArg iV ?_
  simp_all [rch]
 refine A3 <| A0 <| I4 rfl rfl <| y_S rfl <| xN [3,4] [] rfl ?_
 refine A5 rfl ?_ ?_ <;> intro hc <;> try simp only [SL] at hc
 ·refine A6 ?_
  refine A5 rfl (fun hc => ?_) (fun hc => absurd hc (by simp_all))
  refine A3 <| A0 <| y_S rfl <| xN [2] [] rfl <| A9 <| C0 rfl rfl trivial <| congrArg iV ?_
  simp_all [rch]
 refine A3 <| A0 <| I4 rfl rfl <| y_S rfl <| xN [3,4] [] rfl ?_
 refine A5 rfl ?_ ?_ <;> intro hc <;> try simp only [SL] at hc
 ·refine A6 ?_
  refine A5 rfl (fun hc => ?_) (fun hc => absurd hc (by simp_all))
  refine A3 <| A0 <| y_S rfl <| xN [2] [] rfl <| A9 <| C0 rfl rfl trivial <| congrArg iV ?_
  simp_all [rch]
 refine A3 <| A0 <| I4 rfl rfl <| y_S rfl <| xN [3,4] [] rfl ?_
 refine A5 rfl ?_ ?_ <;> intro hc <;> try simp only [SL] at hc
 ·refine A6 ?_
  refine A5 rfl (fun hc => ?_) (fun hc => absurd hc (by simp_all))
  refine A3 <| A0 <| y_S rfl <| xN [2] [] rfl <| A9 <| C0 rfl rfl trivial <| congrArg iV ?_
  simp_all [rch]
 refine A3 <| A0 <| I4 rfl rfl <| y_S rfl <| xN [3,4] [] rfl ?_
 refine A5 rfl ?_ ?_ <;> intro hc <;> try simp only [SL] at hc
 ·refine A6 ?_
  refine A5 rfl (fun hc => ?_) (fun hc => absurd hc (by simp_all))
  refine A3 <| A0 <| y_S rfl <| xN [2] [] rfl <| A9 <| C0 rfl rfl trivial <| congrArg iV ?_
  simp_all [rch]
 refine A0 <| I4 rfl rfl <| y_S rfl <| xN [3,4] [] rfl ?_
 refine A5 rfl ?_ ?_ <;> intro hc <;> try simp only [SL] at hc
 ·refine A3 <| A0 <| y_S rfl <| xN [2] [] rfl <| A9 <| C0 rfl rfl trivial <| congrArg iV ?_
  simp_all [rch]
 refine A3 <| A3 <| A0 <| I4 rfl rfl <| y_S rfl <| xN [3,13] [] rfl ?_
 refine A5 rfl ?_ ?_ <;> intro hc <;> try simp only [SL] at hc
 ·refine A6 ?_
  refine A5 rfl (fun hc => ?_) (fun hc => absurd hc (by simp_all))
  refine A3 <| A0 <| y_S rfl <| xN [2] [] rfl <| A9 <| C0 rfl rfl trivial <| congrArg iV ?_
  simp_all [rch]
 refine A0 <| I4 rfl rfl <| y_S rfl <| xN [3,13] [] rfl ?_
 refine A5 rfl ?_ ?_ <;> intro hc <;> try simp only [SL] at hc
 ·refine A3 <| A0 <| y_S rfl <| xN [2] [] rfl <| A9 <| C0 rfl rfl trivial <| congrArg iV ?_
  simp_all [rch]
 refine A3 <| A3 <| A0 <| I4 rfl rfl <| y_S rfl <| xN [3,16] [] rfl ?_
 refine A5 rfl ?_ ?_ <;> intro hc <;> try simp only [SL] at hc
 ·refine A6 ?_
  refine A5 rfl (fun hc => ?_) (fun hc => absurd hc (by simp_all))
  refine A3 <| A0 <| y_S rfl <| xN [2] [] rfl <| A9 <| C0 rfl rfl trivial <| congrArg iV ?_
  simp_all [rch]
 refine A3 <| A0 <| I4 rfl rfl <| y_S rfl <| xN [3,16] [] rfl ?_
 refine A5 rfl ?_ ?_ <;> intro hc <;> try simp only [SL] at hc
 ·refine A6 ?_
  refine A5 rfl (fun hc => ?_) (fun hc => absurd hc (by simp_all))
  refine A3 <| A0 <| y_S rfl <| xN [2] [] rfl <| A9 <| C0 rfl rfl trivial <| congrArg iV ?_
  simp_all [rch]
 refine A3 <| A0 <| I4 rfl rfl <| y_S rfl <| xN [3,16] [] rfl ?_
 refine A5 rfl ?_ ?_ <;> intro hc <;> try simp only [SL] at hc
 ·refine A6 ?_
  refine A5 rfl (fun hc => ?_) (fun hc => absurd hc (by simp_all))
  refine A3 <| A0 <| y_S rfl <| xN [2] [] rfl <| A9 <| C0 rfl rfl trivial <| congrArg iV ?_
  simp_all [rch]
 refine A0 <| I4 rfl rfl <| y_S rfl <| xN [16] [] rfl ?_
 refine A5 rfl ?_ ?_ <;> intro hc <;> try simp only [SL] at hc
 ·refine A3 <| A0 <| y_S rfl <| xN [2] [] rfl <| A9 <| C0 rfl rfl trivial <| congrArg iV ?_
  simp_all [rch]
 refine A6 <| A3 <| A0 <| y_S rfl <| xN [2] [] rfl <| A9 <| C0 rfl rfl trivial <| congrArg iV ?_
 simp_all [rch]

theorem b6d : E7 Tryz.f148 = [0, 2, 4, 10] := by kernel_rfl
theorem a4c (n : Int) (hn : -1000000 ≤ n ∧ n ≤ 1000000) : CW (cxT oG) 148 [iV n] = some (tV (dec n), []) := by
 obtain ⟨kk, hkk⟩ : ∃ kk : Nat, 2 * n.natAbs + (if n < 0 then 1 else 0) < kk := ⟨_, Nat.lt_succ_self _⟩
 revert n
 induction kk with
 | zero => intro n hn hkk; exact absurd hkk (Nat.not_lt_zero _)
 | succ kk ih =>
  intro n hn hkk
  refine E4 rfl Tryz.func148 rfl ⟨by kernel_rfl, rfl, dT rfl, dT rfl, by decide⟩ b6d <| A3 <| A0 <| y_S rfl <| xN [0] [] rfl <| A3 <| A3 <| A0 <| y_M rfl <| F8 rfl rfl <| xN [0,4] [] rfl ?_
  refine A5 rfl ?_ ?_ <;> intro hc <;> try simp only [SL] at hc
  ·refine A3 <| A0 <| y_M rfl <| b7o rfl (C4 (by omega)) ?_
   have hdl := U9 (m := -n) (by omega)
   refine xC1 rfl rfl (ih (-n) (by omega) (by split at hkk <;> split <;> omega)) ⟨rfl, rfl, rfl⟩ rfl rfl fun g7 => ?_
   refine M4 rfl rfl (by simp only [H2, List.length_append, List.length_cons, List.length_nil]; omega) <| y_S rfl <| xN [2] [] rfl <| A9 <| C0 rfl rfl trivial ?_
   exact congrArg tV (d5j (by assumption)).symm
  refine A6 <| A3 <| A3 <| A0 <| y_M rfl <| F8 rfl rfl <| xN [0,10] [] rfl ?_
  refine A5 rfl ?_ ?_ <;> intro hc <;> try simp only [SL] at hc
  ·refine A3 <| A0 <| y_M rfl <| y_M rfl <| E6 rfl rfl (C4 (by omega)) <| U2 rfl rfl (P6 rfl (by omega)) (P6 rfl (by omega)) (by (simp; omega)) <| y_S rfl <| xN [2] [] rfl <| A9 <| C0 rfl rfl trivial ?_
   rw [d5r (by omega)]
  refine A6 <| A3 <| A0 <| y_M rfl ?_
  have hd10 : n.tdiv 10 = n / 10 := Int.tdiv_eq_ediv_of_nonneg (by omega)
  refine d0w rfl rfl ⟨by omega, C4 (by omega)⟩ ?_
  have hd10 : n.tdiv 10 = n / 10 := Int.tdiv_eq_ediv_of_nonneg (by omega)
  have hdl0 := U9 (m := n.tdiv 10) (by omega)
  refine xC1 rfl rfl (ih (n.tdiv 10) (by omega) (by split at hkk <;> split <;> omega)) ⟨rfl, rfl, rfl⟩ rfl rfl fun g17 => ?_
  refine y_M rfl <| c1b rfl rfl (by omega) ?_
  have hm10 : n.tmod 10 = n % 10 := Int.tmod_eq_emod_of_nonneg (by omega)
  have hdl1 := U9 (m := n.tmod 10) (by omega)
  refine xC1 rfl rfl (ih (n.tmod 10) (by omega) (by split at hkk <;> split <;> omega)) ⟨rfl, rfl, rfl⟩ rfl rfl fun g20 => ?_
  refine M4 rfl rfl (by simp only [H2, List.length_append, List.length_cons, List.length_nil]; omega) <| y_S rfl <| xN [2] [] rfl <| A9 <| C0 rfl rfl trivial ?_
  rw [← d6b (by omega)]

theorem b1r : E7 Tryz.f124 = [0, 2, 4, 8, 12, 3] := by kernel_rfl
theorem a7d (ns : List Int) (hl : ns.length ≤ 1000000) (hnb : ∀ n ∈ ns, -1000000 ≤ n ∧ n ≤ 1000000) : CW (cxT oG) 124 [L ns] = some (tV (P1 ns), []) := by
 have hg := fun (i : Nat) (h : i < ns.length) => hnb _ (a4a h)
 refine E4 rfl Tryz.func124 rfl ⟨by kernel_rfl, rfl, dT rfl, dT rfl, by decide⟩ b1r <| A3 <| A0 <| y_S rfl <| xN [0] [] rfl <| A3 <| A0 <| y_S rfl <| xN [0,3] [] rfl <| A3 <| A3 <| A0 <| y_S rfl <| xN [0,3,4] [] rfl <| B0 <| F5 (β := Nat) [(.t 0, _)] (fun (i : Nat) => [(.t 4, iV i), (.t 3, tV (P1 (ns.take i)))]) (fun (i : Nat) => i ≤ ns.length) (fun (i : Nat) => ns.length - i) 0 ⟨rfl, rfl, rfl, trivial⟩ (Nat.zero_le _) ?_
 intro i hb
 have hi1 := hb
 have hll := V5 (ns := ns.take i) (fun n hn => hnb n (List.mem_of_mem_take hn))
 rw [List.length_take] at hll
 refine A3 <| A3 <| A0 <| y_M rfl <| y_M rfl <| B9 rfl rfl <| F8 rfl rfl <| xN [0,3,4,8] [] rfl ?_
 refine A5 rfl ?_ ?_ <;> intro hc <;> try simp only [SL] at hc
 ·refine A6 <| A3 <| B0 <| A3 <| A3 <| A0 <| y_M rfl <| N9 rfl rfl <| xN [0,3,4,12] [] rfl ?_
  refine A5 rfl ?_ ?_ <;> intro hc <;> try simp only [SL] at hc
  ·have hi0 : 0 < i := by omega
   refine A0 <| y_M rfl <| M4 rfl rfl (by simp only [H2, List.length_append, List.length_cons, List.length_nil]; omega) <| y_S rfl <| xN [0,3,4] [] rfl <| A0 <| y_M rfl <| y_M rfl <| y_M rfl <| B8 rfl rfl rfl (fun _ => rfl) (by omega) <| y_I rfl ?_
   have hgi := hg i (by omega)
   have hdl := U9 hgi
   refine xC1 rfl rfl (a4c (ns.getD i default) hgi) ⟨rfl, rfl, rfl⟩ rfl rfl fun g20 => ?_
   refine M4 rfl rfl (by simp only [H2, List.length_append, List.length_cons, List.length_nil]; omega) <| y_S rfl <| xN [0,3,4] [] rfl <| A0 <| y_M rfl <| E6 rfl rfl (C4 (by omega)) <| y_S rfl <| xN [0,3,4] [] rfl ?_
   rw [← c1q (by omega) hi0]
   refine ⟨i + 1, ?_, (by omega), ⟨rfl, rfl, rfl, trivial⟩⟩
   omega
  have hi0 : i = 0 := by omega
  refine A6 <| A0 <| y_M rfl <| y_M rfl <| y_M rfl <| B8 rfl rfl rfl (fun _ => rfl) (by omega) <| y_I rfl ?_
  have hgi := hg i (by omega)
  have hdl := U9 hgi
  refine xC1 rfl rfl (a4c (ns.getD i default) hgi) ⟨rfl, rfl, rfl⟩ rfl rfl fun g20 => ?_
  refine M4 rfl rfl (by simp only [H2, List.length_append, List.length_cons, List.length_nil]; omega) <| y_S rfl <| xN [0,3,4] [] rfl <| A0 <| y_M rfl <| E6 rfl rfl (C4 (by omega)) <| y_S rfl <| xN [0,3,4] [] rfl ?_
  rw [← c2w (by omega) hi0]
  refine ⟨i + 1, ?_, (by omega), ⟨rfl, rfl, rfl, trivial⟩⟩
  omega
 refine D8 <| A3 <| A0 <| y_M rfl <| y_S rfl <| xN [2] [] rfl <| A9 <| C0 rfl rfl trivial ?_
 rw [List.take_of_length_le (by omega)]

theorem b5j : E7 Tryz.f101 = [0, 1, 4, 7, 12, 19, 6, 5] := by kernel_rfl
theorem b7h (s : List UInt8) (hs : s.length ≤ 1048576) (c : UInt8) : CW (cxT oG) 101 [tV s, uV c.toNat] = some (.own 1 ((splitB c s).map tV), []) := by
 refine E4 rfl Tryz.func101 rfl ⟨by kernel_rfl, rfl, dT rfl, dT rfl, by decide⟩ b5j <| A3 <| A0 ?_
 (refine B1 rfl rfl (fun _ => rfl) ?_; intro g4)
 refine xN [0,1] [] rfl <| A3 <| A0 <| B6 (es := List.map tV []) rfl rfl (dT rfl) rfl rfl (fun _ => B2 (A7 fun _ => rfl)) (fun _ => rfl) ?_
 intro g8
 (refine xO rfl rfl (by simp) rfl (fun _ => rfl) (fun _ => rfl) ?_; intro g5)
 refine xN [0,1,5] [5] rfl <| A3 <| A0 <| y_S rfl <| xN [0,1,5,6] [5] rfl <| A3 <| A3 <| A0 <| y_S rfl <| xN [0,1,5,6,7] [5] rfl <| B0 <| F5 (β := Nat × Nat × List (List UInt8) × Nat) [(.t 0, _), (.t 1, _)] (fun (z : Nat × Nat × List (List UInt8) × Nat) => match z with | (i, fr, out, g) => [(.t 7, iV i), (.t 6, iV fr), (.t 5, .sl 5 g none 0 out.length), (.h 5, .obj g 0 1 (out.map tV))]) (fun (z : Nat × Nat × List (List UInt8) × Nat) => match z with | (i, fr, out, g) => i ≤ s.length ∧ fr ≤ i ∧ out.length ≤ i ∧ splitB c s = out ++ V4 ((s.drop fr).take (i - fr)) (splitB c (s.drop i))) (fun (z : Nat × Nat × List (List UInt8) × Nat) => match z with | (i, fr, out, g) => s.length - i) (0, 0, [], _) ⟨rfl, rfl, rfl, rfl, rfl, rfl, trivial⟩ ⟨Nat.zero_le _, Nat.le_refl _, Nat.le_refl _, by simp [b7r]⟩ ?_
 intro z hb
 obtain ⟨i, fr, out, g⟩ := z
 try dsimp only at hb
 obtain ⟨hi1, hfr, hol, hsp⟩ := hb
 refine A3 <| A3 <| A0 <| y_M rfl <| y_M rfl <| a1n rfl rfl <| F8 rfl rfl <| xN [0,1,5,6,7,12] [5] rfl ?_
 refine A5 rfl ?_ ?_ <;> intro hc <;> try simp only [SL] at hc
 ·refine A6 <| A3 <| B0 <| A3 <| A0 <| y_M rfl <| y_M rfl <| P2 rfl rfl rfl (by omega) <| y_M rfl <| O2 rfl rfl <| xN [0,1,5,6,7,19] [5] rfl ?_
  refine A5 rfl ?_ ?_ <;> intro hc <;> try simp only [SL] at hc
  ·have hcb : s.getD i 0 = c := UInt8.toNat_inj.1 (by omega)
   refine A3 <| A0 <| y_M rfl <| y_M rfl <| y_M rfl <| y_M rfl <| U2 rfl rfl (G7 rfl) (G7 rfl) (by omega) <| B6 (es := List.map tV [_]) rfl rfl (dT rfl) rfl rfl (fun _ => B2 (A7 fun _ => rfl)) (fun _ => rfl) ?_
   intro g25
   refine xA rfl rfl rfl rfl (by simp) (by simp) rfl rfl rfl rfl rfl (fun _ => rfl) (by simp only [LN]; omega) (fun _ => rfl) ?_
   intro g26
   (refine xO rfl rfl (by simp) rfl (fun _ => rfl) (fun _ => rfl) ?_; intro g5)
   refine xN [0,1,5,7] [5] rfl <| A0 <| y_M rfl <| E6 rfl rfl (C4 (by omega)) <| y_S rfl <| xN [0,1,5,6,7] [5] rfl <| A0 <| y_M rfl <| E6 rfl rfl (C4 (by omega)) <| y_S rfl <| xN [0,1,5,6,7] [5] rfl ?_
   refine ⟨(i + 1, i + 1, out ++ [(s.drop fr).take (i - fr)], _), ?_, (by simp only; omega), ⟨rfl, rfl, rfl, rfl, rfl, rfl, trivial⟩⟩
   have hst := b3t (by omega) hfr hsp
   exact ⟨by omega, by omega, by simp; omega, hst.1 hcb⟩
  have hcb : s.getD i 0 ≠ c := fun e => hc (by rw [e])
  refine A6 <| A0 <| y_M rfl <| E6 rfl rfl (C4 (by omega)) <| y_S rfl <| xN [0,1,5,6,7] [5] rfl ?_
  refine ⟨(i + 1, fr, out, _), ?_, (by simp only; omega), ⟨rfl, rfl, rfl, rfl, rfl, rfl, trivial⟩⟩
  have hst := b3t (by omega) hfr hsp
  exact ⟨by omega, by omega, by omega, hst.2 hcb⟩
 refine D8 <| A3 <| A0 <| y_M rfl <| y_M rfl <| y_M rfl <| U2 rfl rfl H6 (G7 rfl) (by omega) <| B6 (es := List.map tV [_]) rfl rfl (dT rfl) rfl rfl (fun _ => B2 (A7 fun _ => rfl)) (fun _ => rfl) ?_
 intro g33
 refine xA rfl rfl rfl rfl (by simp) (by simp) rfl rfl rfl rfl rfl (fun _ => rfl) (by simp only [LN]; omega) (fun _ => rfl) ?_
 intro g34
 (refine xO rfl rfl (by simp) rfl (fun _ => rfl) (fun _ => rfl) ?_; intro g4)
 refine xN [4] [4] rfl <| A9 <| R8 rfl rfl (by simp) (by exact A7 fun _ => rfl) trivial ?_
 have hil : i = s.length := by omega
 rw [hsp, hil, List.drop_length, splitB, V4, List.append_nil]

theorem b1i : E7 Tryz.f125 = [0, 2, 3, 5, 6, 17, 7, 8, 31, 10, 37, 9, 53, 62, 75, 4] := by kernel_rfl
theorem c4i (s : List UInt8) (hs : s.length ≤ 1048576) : CW (cxT oG) 125 [tV s] = some (.tup [.own 1 (((rdL s).getD []).map iV), bV (rdL s).isSome], []) := by
 obtain ⟨ps, hps⟩ : ∃ ps, ps = splitB 44 s := ⟨_, rfl⟩
 have hpl := U0 44 s
 rw [← hps] at hpl
 have hpp := a0g 44 s
 rw [← hps] at hpp
 refine E4 rfl Tryz.func125 rfl ⟨by kernel_rfl, rfl, dT rfl, dT rfl, by decide⟩ b1i <| A3 <| A0 ?_
 (refine B1 rfl rfl (fun _ => rfl) ?_; intro g2)
 refine y_S rfl <| xN [0] [] rfl <| A3 <| A0 <| B6 (es := List.map iV []) rfl rfl (dT rfl) rfl rfl (fun _ => B2 (A7 fun _ => rfl)) (fun _ => rfl) ?_
 intro g11
 (refine xO rfl rfl (by simp) rfl (fun _ => rfl) (fun _ => rfl) ?_; intro g4)
 refine xN [0,4] [4] rfl <| A3 <| A0 <| y_M rfl ?_
 apply xC rfl
 ·apply A8
  ·exact B7 rfl
  apply A8
  ·exact B7 rfl
  exact C3
 ·exact b7h s hs 44
 refine ⟨⟨rfl, rfl, rfl, dT rfl, rfl⟩, .inl rfl, B3, M9, fun _ => rfl, fun g13 => ?_⟩
 rw [← hps]
 try simp only [List.length_map]
 (refine xO rfl rfl (by simp) rfl (fun _ => rfl) (fun _ => rfl) ?_; intro g5)
 refine xN [4,5] [4,5] rfl <| A3 <| A3 <| A0 <| y_S rfl <| xN [4,5,6] [4,5] rfl <| B0 <| F5 (β := Nat × List Int × Nat) [(.t 5, _), (.h 5, _)] (fun (z : Nat × List Int × Nat) => match z with | (i, ns, g) => [(.t 6, iV i), (.t 4, .sl 4 g none 0 ns.length), (.h 4, .obj g 0 1 (ns.map iV))]) (fun (z : Nat × List Int × Nat) => match z with | (i, ns, g) => i ≤ ps.length ∧ a1h (ps.take i) = some ns) (fun (z : Nat × List Int × Nat) => match z with | (i, ns, g) => ps.length - i) (0, [], _) ⟨rfl, rfl, rfl, rfl, rfl, trivial⟩ ⟨Nat.zero_le _, rfl⟩ ?_
 intro z hb
 obtain ⟨i, ns, g⟩ := z
 try dsimp only at hb
 obtain ⟨hi1, hrd⟩ := hb
 have hnl := b1c hrd
 rw [List.length_take] at hnl
 have hpi := fun h : i < ps.length => hpp _ (V3 h)
 refine A3 <| A3 <| A0 <| y_M rfl <| y_M rfl <| M3 rfl rfl <| F8 rfl rfl <| xN [4,5,6,17] [4,5] rfl ?_
 refine A5 rfl ?_ ?_ <;> intro hc <;> try simp only [SL] at hc
 ·refine A6 <| A3 <| B0 <| A3 <| A0 <| y_M rfl <| y_M rfl <| F0 rfl rfl rfl rfl (by omega) (by (simp; done)) rfl <| H7 rfl rfl (by omega) (fun _ => rfl) (fun _ => rfl) rfl <| y_S rfl <| xN [4,5,6,7] [4,5] rfl <| A3 <| A0 <| y_M rfl <| b4a rfl rfl <| y_M rfl ?_
  refine C5 rfl rfl ?_ ?_ <;> intro hg0 <;> have hg := hg0 <;> try simp only [SG] at hg
  ·refine y_M rfl <| gT rfl rfl ?_
   have hp0 : 0 < (ps.getD i default).length := List.length_pos_iff.2 (by assumption)
   refine P2 (n := 0) rfl rfl rfl hp0 <| gT rfl rfl <| O2 rfl rfl <| E8 rfl (by assumption) rfl rfl <| y_S rfl <| xN [4,5,6,7,8] [4,5] rfl <| A3 <| A3 <| A0 <| y_M rfl <| xN [4,5,6,7,8,31] [4,5] rfl ?_
   refine A5 rfl ?_ ?_ <;> intro hc <;> try simp only [SL] at hc
   ·obtain ⟨hng, hup⟩ := d7q (p := (ps.getD i default)) (by assumption) (by omega)
    have hul := b9r (ps.getD i default)
    rw [hup] at hul
    refine A0 <| y_M rfl <| U2 rfl rfl H6 (G7 (n := 1) rfl) (by omega) <| y_S rfl <| xN [4,5,6,7,8] [4,5] rfl <| A3 <| A0 <| y_S rfl <| xN [4,5,6,7,8,9] [4,5] rfl <| A3 <| A3 <| A0 <| y_S rfl <| xN [4,5,6,7,8,9,10] [4,5] rfl <| B0 ?_
    have hup0 := hup
    refine F5 (β := Nat × Int) [(.t 4, _), (.t 5, _), (.t 6, _), (.t 7, _), (.t 8, _), (.h 4, _), (.h 5, _)] (fun (z : Nat × Int) => match z with | (k, a) => [(.t 10, iV k), (.t 9, iV a)]) (fun (z : Nat × Int) => match z with | (k, a) => k ≤ (unS (ps.getD i default)).length ∧ 0 ≤ a ∧ W3 0 ((unS (ps.getD i default)).take k) = some a.toNat) (fun (z : Nat × Int) => match z with | (k, a) => (unS (ps.getD i default)).length - k) (0, 0) ⟨rfl, rfl, rfl, rfl, rfl, rfl, rfl, rfl, rfl, trivial⟩ ⟨Nat.zero_le _, by decide, rfl⟩ ?_
    intro z hb
    obtain ⟨k, a⟩ := z
    try dsimp only at hb
    obtain ⟨hk1, ha0, hdg⟩ := hb
    have hab := b2b (by decide) hdg
    rw [hup] at hk1 hdg
    refine A3 <| A3 <| A0 <| y_M rfl <| y_M rfl <| a1n rfl rfl <| F8 rfl rfl <| xN [4,5,6,7,8,9,10,37] [4,5] rfl ?_
    refine A5 rfl ?_ ?_ <;> intro hc <;> try simp only [SL] at hc
    ·refine A6 <| A3 <| B0 <| A3 <| A3 <| A0 <| y_M rfl <| y_M rfl <| P2 rfl rfl rfl (by omega) <| F8 rfl rfl <| y_M rfl ?_
     refine C5 rfl rfl ?_ ?_ <;> intro hg0 <;> have hg := hg0 <;> try simp only [SG] at hg
     ·refine y_M rfl <| gT rfl rfl <| y_M rfl <| gT rfl rfl <| P2 rfl rfl rfl (by omega) <| gT rfl rfl <| N9 rfl rfl <| F7 rfl (by assumption) rfl rfl <| y_M rfl ?_
      refine C5 rfl rfl ?_ ?_ <;> intro hg0 <;> have hg := hg0 <;> try simp only [SG] at hg
      ·refine y_M rfl <| gT rfl rfl <| N9 rfl rfl <| F7 rfl (by assumption) rfl rfl <| xN [4,5,6,7,8,9,10,53] [4,5] rfl ?_
       refine A5 rfl ?_ ?_ <;> intro hc <;> try simp only [SL] at hc
       ·refine A3 <| A0 ?_
        (refine B1 rfl rfl (fun _ => rfl) ?_; intro g2)
        refine y_S rfl <| xN [2,3] [2] rfl <| A9 <| C2 (G0 rfl rfl (by simp) (by rfl) (D5 rfl rfl (C7 B5))) ?_
        rw [rdL, ← hps, L6 (show i < ps.length by omega) (X6 (by rw [hup]; exact T1 (by omega) hdg (by omega)))]
        rfl
       refine A6 <| A0 <| y_M rfl <| a7t rfl rfl (C4 (by omega)) <| y_M rfl <| y_M rfl <| P2 rfl rfl rfl (by omega) <| P5 rfl rfl (d7g (by omega)) <| a6r rfl rfl rfl (C4 (by omega)) <| E6 rfl rfl (C4 (by omega)) <| y_S rfl <| xN [4,5,6,7,8,9,10] [4,5] rfl <| A0 <| y_M rfl <| E6 rfl rfl (C4 (by omega)) <| y_S rfl <| xN [4,5,6,7,8,9,10] [4,5] rfl ?_
       refine ⟨(k + 1, _), ?_, (by simp only [hup]; omega), ⟨rfl, rfl, rfl, rfl, rfl, rfl, rfl, rfl, rfl, trivial⟩⟩
       rw [hup]
       have hds := a9z (by omega) hdg (by omega)
       exact ⟨by omega, by omega, hds.trans (congrArg some (by omega))⟩
      refine gF rfl rfl <| E8 rfl (by assumption) rfl rfl <| xN [4,5,6,7,8,9,10,53] [4,5] rfl ?_
      refine A5 rfl (fun hc => ?_) (fun hc => absurd hc (by decide))
      refine A3 <| A0 ?_
      (refine B1 rfl rfl (fun _ => rfl) ?_; intro g2)
      refine y_S rfl <| xN [2,3] [2] rfl <| A9 <| C2 (G0 rfl rfl (by simp) (by rfl) (D5 rfl rfl (C7 B5))) ?_
      rw [rdL, ← hps, L6 (show i < ps.length by omega) (X6 (by rw [hup]; exact T1 (by omega) hdg (by omega)))]
      rfl
     refine gF rfl rfl <| gF rfl rfl <| gF rfl rfl <| E8 rfl (by assumption) rfl rfl <| y_M rfl <| H0 rfl rfl rfl <| H0 rfl rfl rfl <| E8 rfl rfl rfl rfl <| xN [4,5,6,7,8,9,10,53] [4,5] rfl ?_
     refine A5 rfl (fun hc => ?_) (fun hc => absurd hc (by decide))
     refine A3 <| A0 ?_
     (refine B1 rfl rfl (fun _ => rfl) ?_; intro g2)
     refine y_S rfl <| xN [2,3] [2] rfl <| A9 <| C2 (G0 rfl rfl (by simp) (by rfl) (D5 rfl rfl (C7 B5))) ?_
     rw [rdL, ← hps, L6 (show i < ps.length by omega) (X6 (by rw [hup]; exact T1 (by omega) hdg (by omega)))]
     rfl
    have hdU : W3 0 (unS (ps.getD i default)) = some a.toNat := by rw [hup]; rw [List.take_of_length_le (by omega)] at hdg; exact hdg
    refine D8 <| A3 <| A3 <| A0 <| y_M rfl <| xN [4,5,6,7,9,62] [4,5] rfl ?_
    refine A5 rfl (fun hc => ?_) (fun hc => absurd hc (by simp_all))
    refine A0 <| y_M rfl <| b7o rfl (C4 (by omega)) <| y_S rfl <| xN [4,5,6,7,9] [4,5] rfl <| A3 <| A3 <| A0 <| y_M rfl <| Q7 rfl rfl <| y_M rfl ?_
    refine C5 rfl rfl ?_ ?_ <;> intro hg0 <;> have hg := hg0 <;> try simp only [SG] at hg
    ·refine y_M rfl <| gT rfl rfl ?_
     have hdl1 := U9 (m := -a) (by omega)
     have hdl2 := U9 (m := a) (by omega)
     refine xC1 rfl rfl (a4c (-a) (by omega)) ⟨rfl, rfl, rfl⟩ rfl rfl fun g69 => ?_
     refine gT rfl rfl <| y_M rfl <| gT rfl rfl <| y_M rfl <| gT rfl rfl <| F0 rfl rfl rfl rfl (by omega) (by (simp; done)) rfl <| gT rfl rfl <| H7 rfl rfl (by omega) (fun _ => rfl) (fun _ => rfl) rfl <| gT rfl rfl <| b4a rfl rfl <| F7 rfl (by assumption) rfl rfl ?_
     refine J7 ⟨fun _ => ⟨by (simp only [a0h, List.nil_append, List.append_nil, List.map_cons, List.map_nil, List.cons_append]; decide +kernel), by decide +kernel⟩, [(.t 4, _), (.t 5, _), (.t 6, _), (.t 9, _), (.t 75, _), (.h 4, _), (.h 5, _)], ⟨rfl, rfl, rfl, rfl, rfl, rfl, rfl, rfl, rfl, rfl, rfl, rfl, rfl, rfl, trivial⟩, ?_⟩
     refine A5 rfl ?_ ?_ <;> intro hc <;> try simp only [SL] at hc
     ·refine A3 <| A0 ?_
      (refine B1 rfl rfl (fun _ => rfl) ?_; intro g2)
      refine y_S rfl <| xN [2,3] [2] rfl <| A9 <| C2 (G0 rfl rfl (by simp) (by rfl) (D5 rfl rfl (C7 B5))) ?_
      have hno : rdI (ps.getD i default) = none := by exact a9i (m := -a) hdU (by (rw [hng, if_pos rfl]; omega)) (by exact .inr (by assumption))
      rw [rdL, ← hps, L6 (show i < ps.length by omega) hno]
      rfl
     have hri := c5x (m := -a) hdU (by (rw [hng, if_pos rfl]; omega)) (by rw [hup]; assumption) (by assumption)
     refine A6 <| A0 <| y_M rfl <| y_M rfl <| B6 (es := List.map iV [_]) rfl rfl (dT rfl) rfl rfl (fun _ => B2 (A7 fun _ => rfl)) (fun _ => rfl) ?_
     intro g78
     refine xA rfl rfl rfl rfl (by simp) (by simp) rfl rfl rfl rfl rfl (fun _ => rfl) (by simp only [LN]; omega) (fun _ => rfl) ?_
     intro g79
     (refine xO rfl rfl (by simp) rfl (fun _ => rfl) (fun _ => rfl) ?_; intro g4)
     refine xN [4,5,6] [4,5] rfl <| A0 <| y_M rfl <| E6 rfl rfl (C4 (by omega)) <| y_S rfl <| xN [4,5,6] [4,5] rfl ?_
     refine ⟨(i + 1, ns ++ [-a], _), ?_, (by simp only; omega), ⟨rfl, rfl, rfl, rfl, rfl, trivial⟩⟩
     exact ⟨by omega, a9l (by omega) hrd hri⟩
    iterate 6 refine gF rfl rfl ?_
    refine E8 rfl (by assumption) rfl rfl ?_
    refine J7 ⟨fun _ => ⟨by decide +kernel, by decide +kernel⟩, [(.t 4, _), (.t 5, _), (.t 6, _), (.t 9, _), (.t 75, _), (.h 4, _), (.h 5, _)], ⟨rfl, rfl, rfl, rfl, rfl, rfl, rfl, rfl, rfl, rfl, rfl, rfl, rfl, rfl, trivial⟩, ?_⟩
    refine A5 rfl (fun hc => ?_) (fun hc => absurd hc (by decide))
    refine A3 <| A0 ?_
    (refine B1 rfl rfl (fun _ => rfl) ?_; intro g2)
    refine y_S rfl <| xN [2,3] [2] rfl <| A9 <| C2 (G0 rfl rfl (by simp) (by rfl) (D5 rfl rfl (C7 B5))) ?_
    have hno : rdI (ps.getD i default) = none := by exact a9i (m := -a) hdU (by (rw [hng, if_pos rfl]; omega)) (by exact .inl (by rw [hup]; assumption))
    rw [rdL, ← hps, L6 (show i < ps.length by omega) hno]
    rfl
   obtain ⟨hng, hup⟩ := d6a (p := (ps.getD i default)) (by exact .inr (by omega))
   have hul := b9r (ps.getD i default)
   rw [hup] at hul
   refine A6 <| A3 <| A0 <| y_S rfl <| xN [4,5,6,7,8,9] [4,5] rfl <| A3 <| A3 <| A0 <| y_S rfl <| xN [4,5,6,7,8,9,10] [4,5] rfl <| B0 ?_
   have hup0 := hup
   refine F5 (β := Nat × Int) [(.t 4, _), (.t 5, _), (.t 6, _), (.t 7, _), (.t 8, _), (.h 4, _), (.h 5, _)] (fun (z : Nat × Int) => match z with | (k, a) => [(.t 10, iV k), (.t 9, iV a)]) (fun (z : Nat × Int) => match z with | (k, a) => k ≤ (unS (ps.getD i default)).length ∧ 0 ≤ a ∧ W3 0 ((unS (ps.getD i default)).take k) = some a.toNat) (fun (z : Nat × Int) => match z with | (k, a) => (unS (ps.getD i default)).length - k) (0, 0) ⟨rfl, rfl, rfl, rfl, rfl, rfl, rfl, rfl, rfl, trivial⟩ ⟨Nat.zero_le _, by decide, rfl⟩ ?_
   intro z hb
   obtain ⟨k, a⟩ := z
   try dsimp only at hb
   obtain ⟨hk1, ha0, hdg⟩ := hb
   have hab := b2b (by decide) hdg
   rw [hup] at hk1 hdg
   refine A3 <| A3 <| A0 <| y_M rfl <| y_M rfl <| a1n rfl rfl <| F8 rfl rfl <| xN [4,5,6,7,8,9,10,37] [4,5] rfl ?_
   refine A5 rfl ?_ ?_ <;> intro hc <;> try simp only [SL] at hc
   ·refine A6 <| A3 <| B0 <| A3 <| A3 <| A0 <| y_M rfl <| y_M rfl <| P2 rfl rfl rfl (by omega) <| F8 rfl rfl <| y_M rfl ?_
    refine C5 rfl rfl ?_ ?_ <;> intro hg0 <;> have hg := hg0 <;> try simp only [SG] at hg
    ·refine y_M rfl <| gT rfl rfl <| y_M rfl <| gT rfl rfl <| P2 rfl rfl rfl (by omega) <| gT rfl rfl <| N9 rfl rfl <| F7 rfl (by assumption) rfl rfl <| y_M rfl ?_
     refine C5 rfl rfl ?_ ?_ <;> intro hg0 <;> have hg := hg0 <;> try simp only [SG] at hg
     ·refine y_M rfl <| gT rfl rfl <| N9 rfl rfl <| F7 rfl (by assumption) rfl rfl <| xN [4,5,6,7,8,9,10,53] [4,5] rfl ?_
      refine A5 rfl ?_ ?_ <;> intro hc <;> try simp only [SL] at hc
      ·refine A3 <| A0 ?_
       (refine B1 rfl rfl (fun _ => rfl) ?_; intro g2)
       refine y_S rfl <| xN [2,3] [2] rfl <| A9 <| C2 (G0 rfl rfl (by simp) (by rfl) (D5 rfl rfl (C7 B5))) ?_
       rw [rdL, ← hps, L6 (show i < ps.length by omega) (X6 (by rw [hup]; exact T1 (by omega) hdg (by omega)))]
       rfl
      refine A6 <| A0 <| y_M rfl <| a7t rfl rfl (C4 (by omega)) <| y_M rfl <| y_M rfl <| P2 rfl rfl rfl (by omega) <| P5 rfl rfl (d7g (by omega)) <| a6r rfl rfl rfl (C4 (by omega)) <| E6 rfl rfl (C4 (by omega)) <| y_S rfl <| xN [4,5,6,7,8,9,10] [4,5] rfl <| A0 <| y_M rfl <| E6 rfl rfl (C4 (by omega)) <| y_S rfl <| xN [4,5,6,7,8,9,10] [4,5] rfl ?_
      refine ⟨(k + 1, _), ?_, (by simp only [hup]; omega), ⟨rfl, rfl, rfl, rfl, rfl, rfl, rfl, rfl, rfl, trivial⟩⟩
      rw [hup]
      have hds := a9z (by omega) hdg (by omega)
      exact ⟨by omega, by omega, hds.trans (congrArg some (by omega))⟩
     refine gF rfl rfl <| E8 rfl (by assumption) rfl rfl <| xN [4,5,6,7,8,9,10,53] [4,5] rfl ?_
     refine A5 rfl (fun hc => ?_) (fun hc => absurd hc (by decide))
     refine A3 <| A0 ?_
     (refine B1 rfl rfl (fun _ => rfl) ?_; intro g2)
     refine y_S rfl <| xN [2,3] [2] rfl <| A9 <| C2 (G0 rfl rfl (by simp) (by rfl) (D5 rfl rfl (C7 B5))) ?_
     rw [rdL, ← hps, L6 (show i < ps.length by omega) (X6 (by rw [hup]; exact T1 (by omega) hdg (by omega)))]
     rfl
    refine gF rfl rfl <| gF rfl rfl <| gF rfl rfl <| E8 rfl (by assumption) rfl rfl <| y_M rfl <| H0 rfl rfl rfl <| H0 rfl rfl rfl <| E8 rfl rfl rfl rfl <| xN [4,5,6,7,8,9,10,53] [4,5] rfl ?_
    refine A5 rfl (fun hc => ?_) (fun hc => absurd hc (by decide))
    refine A3 <| A0 ?_
    (refine B1 rfl rfl (fun _ => rfl) ?_; intro g2)
    refine y_S rfl <| xN [2,3] [2] rfl <| A9 <| C2 (G0 rfl rfl (by simp) (by rfl) (D5 rfl rfl (C7 B5))) ?_
    rw [rdL, ← hps, L6 (show i < ps.length by omega) (X6 (by rw [hup]; exact T1 (by omega) hdg (by omega)))]
    rfl
   have hdU : W3 0 (unS (ps.getD i default)) = some a.toNat := by rw [hup]; rw [List.take_of_length_le (by omega)] at hdg; exact hdg
   refine D8 <| A3 <| A3 <| A0 <| y_M rfl <| xN [4,5,6,7,9,62] [4,5] rfl ?_
   refine A5 rfl (fun hc => absurd hc (by simp_all)) (fun hc => ?_)
   refine A6 <| A3 <| A3 <| A0 <| y_M rfl <| Q7 rfl rfl <| y_M rfl ?_
   refine C5 rfl rfl ?_ ?_ <;> intro hg0 <;> have hg := hg0 <;> try simp only [SG] at hg
   ·refine y_M rfl <| gT rfl rfl ?_
    have hdl1 := U9 (m := -a) (by omega)
    have hdl2 := U9 (m := a) (by omega)
    refine xC1 rfl rfl (a4c a (by omega)) ⟨rfl, rfl, rfl⟩ rfl rfl fun g69 => ?_
    refine gT rfl rfl <| y_M rfl <| gT rfl rfl <| y_M rfl <| gT rfl rfl <| F0 rfl rfl rfl rfl (by omega) (by (simp; done)) rfl <| gT rfl rfl <| H7 rfl rfl (by omega) (fun _ => rfl) (fun _ => rfl) rfl <| gT rfl rfl <| b4a rfl rfl <| F7 rfl (by assumption) rfl rfl ?_
    refine J7 ⟨fun _ => ⟨by (simp only [a0h, List.nil_append, List.append_nil, List.map_cons, List.map_nil, List.cons_append]; decide +kernel), by decide +kernel⟩, [(.t 4, _), (.t 5, _), (.t 6, _), (.t 9, _), (.t 75, _), (.h 4, _), (.h 5, _)], ⟨rfl, rfl, rfl, rfl, rfl, rfl, rfl, rfl, rfl, rfl, rfl, rfl, rfl, rfl, trivial⟩, ?_⟩
    refine A5 rfl ?_ ?_ <;> intro hc <;> try simp only [SL] at hc
    ·refine A3 <| A0 ?_
     (refine B1 rfl rfl (fun _ => rfl) ?_; intro g2)
     refine y_S rfl <| xN [2,3] [2] rfl <| A9 <| C2 (G0 rfl rfl (by simp) (by rfl) (D5 rfl rfl (C7 B5))) ?_
     have hno : rdI (ps.getD i default) = none := by exact a9i (m := a) hdU (by (rw [hng, if_neg (by decide)]; omega)) (by exact .inr (by assumption))
     rw [rdL, ← hps, L6 (show i < ps.length by omega) hno]
     rfl
    have hri := c5x (m := a) hdU (by (rw [hng, if_neg (by decide)]; omega)) (by rw [hup]; assumption) (by assumption)
    refine A6 <| A0 <| y_M rfl <| y_M rfl <| B6 (es := List.map iV [_]) rfl rfl (dT rfl) rfl rfl (fun _ => B2 (A7 fun _ => rfl)) (fun _ => rfl) ?_
    intro g78
    refine xA rfl rfl rfl rfl (by simp) (by simp) rfl rfl rfl rfl rfl (fun _ => rfl) (by simp only [LN]; omega) (fun _ => rfl) ?_
    intro g79
    (refine xO rfl rfl (by simp) rfl (fun _ => rfl) (fun _ => rfl) ?_; intro g4)
    refine xN [4,5,6] [4,5] rfl <| A0 <| y_M rfl <| E6 rfl rfl (C4 (by omega)) <| y_S rfl <| xN [4,5,6] [4,5] rfl ?_
    refine ⟨(i + 1, ns ++ [a], _), ?_, (by simp only; omega), ⟨rfl, rfl, rfl, rfl, rfl, trivial⟩⟩
    exact ⟨by omega, a9l (by omega) hrd hri⟩
   iterate 6 refine gF rfl rfl ?_
   refine E8 rfl (by assumption) rfl rfl ?_
   refine J7 ⟨fun _ => ⟨by decide +kernel, by decide +kernel⟩, [(.t 4, _), (.t 5, _), (.t 6, _), (.t 9, _), (.t 75, _), (.h 4, _), (.h 5, _)], ⟨rfl, rfl, rfl, rfl, rfl, rfl, rfl, rfl, rfl, rfl, rfl, rfl, rfl, rfl, trivial⟩, ?_⟩
   refine A5 rfl (fun hc => ?_) (fun hc => absurd hc (by decide))
   refine A3 <| A0 ?_
   (refine B1 rfl rfl (fun _ => rfl) ?_; intro g2)
   refine y_S rfl <| xN [2,3] [2] rfl <| A9 <| C2 (G0 rfl rfl (by simp) (by rfl) (D5 rfl rfl (C7 B5))) ?_
   have hno : rdI (ps.getD i default) = none := by exact a9i (m := a) hdU (by (rw [hng, if_neg (by decide)]; omega)) (by exact .inl (by rw [hup]; assumption))
   rw [rdL, ← hps, L6 (show i < ps.length by omega) hno]
   rfl
  refine gF rfl rfl <| gF rfl rfl <| F7 rfl (by assumption) rfl rfl <| y_S rfl <| xN [4,5,6,7,8] [4,5] rfl <| A3 <| A3 <| A0 <| y_M rfl <| xN [4,5,6,7,8,31] [4,5] rfl ?_
  refine A5 rfl (fun hc => absurd hc (by decide)) (fun hc => ?_)
  refine A6 <| A3 <| A0 <| y_S rfl <| xN [4,5,6,7,8,9] [4,5] rfl <| A3 <| A3 <| A0 <| y_S rfl <| xN [4,5,6,7,8,9,10] [4,5] rfl <| B0 ?_
  (obtain ⟨hng, hup⟩ := d6a (p := (ps.getD i default)) (.inl (by assumption)); have hul := b9r (ps.getD i default); rw [hup] at hul)
  refine F5 (β := Nat × Int) [(.t 4, _), (.t 5, _), (.t 6, _), (.t 7, _), (.t 8, _), (.h 4, _), (.h 5, _)] (fun (z : Nat × Int) => match z with | (k, a) => [(.t 10, iV k), (.t 9, iV a)]) (fun (z : Nat × Int) => match z with | (k, a) => k ≤ (unS (ps.getD i default)).length ∧ 0 ≤ a ∧ W3 0 ((unS (ps.getD i default)).take k) = some a.toNat) (fun (z : Nat × Int) => match z with | (k, a) => (unS (ps.getD i default)).length - k) (0, 0) ⟨rfl, rfl, rfl, rfl, rfl, rfl, rfl, rfl, rfl, trivial⟩ ⟨Nat.zero_le _, by decide, rfl⟩ ?_
  intro z hb
  obtain ⟨k, a⟩ := z
  try dsimp only at hb
  obtain ⟨hk1, ha0, hdg⟩ := hb
  have hab := b2b (by decide) hdg
  rw [hup] at hk1 hdg
  refine A3 <| A3 <| A0 <| y_M rfl <| y_M rfl <| a1n rfl rfl <| F8 rfl rfl <| xN [4,5,6,7,8,9,10,37] [4,5] rfl ?_
  refine A5 rfl ?_ ?_ <;> intro hc <;> try simp only [SL] at hc
  ·refine A6 <| A3 <| B0 <| A3 <| A3 <| A0 <| y_M rfl <| y_M rfl <| P2 rfl rfl rfl (by omega) <| F8 rfl rfl <| y_M rfl ?_
   refine C5 rfl rfl ?_ ?_ <;> intro hg0 <;> have hg := hg0 <;> try simp only [SG] at hg
   ·refine y_M rfl <| gT rfl rfl <| y_M rfl <| gT rfl rfl <| P2 rfl rfl rfl (by omega) <| gT rfl rfl <| N9 rfl rfl <| F7 rfl (by assumption) rfl rfl <| y_M rfl ?_
    refine C5 rfl rfl ?_ ?_ <;> intro hg0 <;> have hg := hg0 <;> try simp only [SG] at hg
    ·refine y_M rfl <| gT rfl rfl <| N9 rfl rfl <| F7 rfl (by assumption) rfl rfl <| xN [4,5,6,7,8,9,10,53] [4,5] rfl ?_
     refine A5 rfl ?_ ?_ <;> intro hc <;> try simp only [SL] at hc
     ·refine A3 <| A0 ?_
      (refine B1 rfl rfl (fun _ => rfl) ?_; intro g2)
      refine y_S rfl <| xN [2,3] [2] rfl <| A9 <| C2 (G0 rfl rfl (by simp) (by rfl) (D5 rfl rfl (C7 B5))) ?_
      rw [rdL, ← hps, L6 (show i < ps.length by omega) (X6 (by rw [hup]; exact T1 (by omega) hdg (by omega)))]
      rfl
     refine A6 <| A0 <| y_M rfl <| a7t rfl rfl (C4 (by omega)) <| y_M rfl <| y_M rfl <| P2 rfl rfl rfl (by omega) <| P5 rfl rfl (d7g (by omega)) <| a6r rfl rfl rfl (C4 (by omega)) <| E6 rfl rfl (C4 (by omega)) <| y_S rfl <| xN [4,5,6,7,8,9,10] [4,5] rfl <| A0 <| y_M rfl <| E6 rfl rfl (C4 (by omega)) <| y_S rfl <| xN [4,5,6,7,8,9,10] [4,5] rfl ?_
     refine ⟨(k + 1, _), ?_, (by simp only [hup]; omega), ⟨rfl, rfl, rfl, rfl, rfl, rfl, rfl, rfl, rfl, trivial⟩⟩
     rw [hup]
     have hds := a9z (by omega) hdg (by omega)
     exact ⟨by omega, by omega, hds.trans (congrArg some (by omega))⟩
    refine gF rfl rfl <| E8 rfl (by assumption) rfl rfl <| xN [4,5,6,7,8,9,10,53] [4,5] rfl ?_
    refine A5 rfl (fun hc => ?_) (fun hc => absurd hc (by decide))
    refine A3 <| A0 ?_
    (refine B1 rfl rfl (fun _ => rfl) ?_; intro g2)
    refine y_S rfl <| xN [2,3] [2] rfl <| A9 <| C2 (G0 rfl rfl (by simp) (by rfl) (D5 rfl rfl (C7 B5))) ?_
    rw [rdL, ← hps, L6 (show i < ps.length by omega) (X6 (by rw [hup]; exact T1 (by omega) hdg (by omega)))]
    rfl
   refine gF rfl rfl <| gF rfl rfl <| gF rfl rfl <| E8 rfl (by assumption) rfl rfl <| y_M rfl <| H0 rfl rfl rfl <| H0 rfl rfl rfl <| E8 rfl rfl rfl rfl <| xN [4,5,6,7,8,9,10,53] [4,5] rfl ?_
   refine A5 rfl (fun hc => ?_) (fun hc => absurd hc (by decide))
   refine A3 <| A0 ?_
   (refine B1 rfl rfl (fun _ => rfl) ?_; intro g2)
   refine y_S rfl <| xN [2,3] [2] rfl <| A9 <| C2 (G0 rfl rfl (by simp) (by rfl) (D5 rfl rfl (C7 B5))) ?_
   rw [rdL, ← hps, L6 (show i < ps.length by omega) (X6 (by rw [hup]; exact T1 (by omega) hdg (by omega)))]
   rfl
  have hdU : W3 0 (unS (ps.getD i default)) = some a.toNat := by rw [hup]; rw [List.take_of_length_le (by omega)] at hdg; exact hdg
  refine D8 <| A3 <| A3 <| A0 <| y_M rfl <| xN [4,5,6,7,9,62] [4,5] rfl ?_
  refine A5 rfl (fun hc => absurd hc (by decide)) (fun hc => ?_)
  refine A6 <| A3 <| A3 <| A0 <| y_M rfl <| Q7 rfl rfl <| y_M rfl ?_
  refine C5 rfl rfl ?_ ?_ <;> intro hg0 <;> have hg := hg0 <;> try simp only [SG] at hg
  ·refine y_M rfl <| gT rfl rfl ?_
   have hdl1 := U9 (m := -a) (by omega)
   have hdl2 := U9 (m := a) (by omega)
   refine xC1 rfl rfl (a4c a (by omega)) ⟨rfl, rfl, rfl⟩ rfl rfl fun g69 => ?_
   refine gT rfl rfl <| y_M rfl <| gT rfl rfl <| y_M rfl <| gT rfl rfl <| F0 rfl rfl rfl rfl (by omega) (by (simp; done)) rfl <| gT rfl rfl <| H7 rfl rfl (by omega) (fun _ => rfl) (fun _ => rfl) rfl <| gT rfl rfl <| b4a rfl rfl <| F7 rfl (by assumption) rfl rfl ?_
   refine J7 ⟨fun _ => ⟨by (simp only [a0h, List.nil_append, List.append_nil, List.map_cons, List.map_nil, List.cons_append]; decide +kernel), by decide +kernel⟩, [(.t 4, _), (.t 5, _), (.t 6, _), (.t 9, _), (.t 75, _), (.h 4, _), (.h 5, _)], ⟨rfl, rfl, rfl, rfl, rfl, rfl, rfl, rfl, rfl, rfl, rfl, rfl, rfl, rfl, trivial⟩, ?_⟩
   refine A5 rfl ?_ ?_ <;> intro hc <;> try simp only [SL] at hc
   ·refine A3 <| A0 ?_
    (refine B1 rfl rfl (fun _ => rfl) ?_; intro g2)
    refine y_S rfl <| xN [2,3] [2] rfl <| A9 <| C2 (G0 rfl rfl (by simp) (by rfl) (D5 rfl rfl (C7 B5))) ?_
    have hno : rdI (ps.getD i default) = none := by exact a9i (m := a) hdU (by (rw [hng, if_neg (by decide)]; omega)) (by exact .inl (by rw [hup]; assumption))
    rw [rdL, ← hps, L6 (show i < ps.length by omega) hno]
    rfl
   have hri := c5x (m := a) hdU (by (rw [hng, if_neg (by decide)]; omega)) (by rw [hup]; assumption) (by assumption)
   refine A6 <| A0 <| y_M rfl <| y_M rfl <| B6 (es := List.map iV [_]) rfl rfl (dT rfl) rfl rfl (fun _ => B2 (A7 fun _ => rfl)) (fun _ => rfl) ?_
   intro g78
   refine xA rfl rfl rfl rfl (by simp) (by simp) rfl rfl rfl rfl rfl (fun _ => rfl) (by simp only [LN]; omega) (fun _ => rfl) ?_
   intro g79
   (refine xO rfl rfl (by simp) rfl (fun _ => rfl) (fun _ => rfl) ?_; intro g4)
   refine xN [4,5,6] [4,5] rfl <| A0 <| y_M rfl <| E6 rfl rfl (C4 (by omega)) <| y_S rfl <| xN [4,5,6] [4,5] rfl ?_
   refine ⟨(i + 1, ns ++ [a], _), ?_, (by simp only; omega), ⟨rfl, rfl, rfl, rfl, rfl, trivial⟩⟩
   exact ⟨by omega, a9l (by omega) hrd hri⟩
  iterate 6 refine gF rfl rfl ?_
  refine E8 rfl (by assumption) rfl rfl ?_
  refine J7 ⟨fun _ => ⟨by decide +kernel, by decide +kernel⟩, [(.t 4, _), (.t 5, _), (.t 6, _), (.t 9, _), (.t 75, _), (.h 4, _), (.h 5, _)], ⟨rfl, rfl, rfl, rfl, rfl, rfl, rfl, rfl, rfl, rfl, rfl, rfl, rfl, rfl, trivial⟩, ?_⟩
  refine A5 rfl (fun hc => ?_) (fun hc => absurd hc (by decide))
  refine A3 <| A0 ?_
  (refine B1 rfl rfl (fun _ => rfl) ?_; intro g2)
  refine y_S rfl <| xN [2,3] [2] rfl <| A9 <| C2 (G0 rfl rfl (by simp) (by rfl) (D5 rfl rfl (C7 B5))) ?_
  have hno : rdI (ps.getD i default) = none := by exact a9i (m := a) hdU (by (rw [hng, if_neg (by decide)]; omega)) (by exact .inl (by rw [hup]; assumption))
  rw [rdL, ← hps, L6 (show i < ps.length by omega) hno]
  rfl
 refine D8 <| A3 <| A0 <| y_M rfl ?_
 (refine xO rfl rfl (by simp) rfl (fun _ => rfl) (fun _ => rfl) ?_; intro g2)
 refine y_S rfl <| xN [2,3] [2] rfl <| A9 <| C2 (G0 rfl rfl (by simp) (by exact A7 fun _ => rfl) (D5 rfl rfl (C7 B5))) ?_
 have hil : i = ps.length := by omega
 rw [hil, List.take_length] at hrd
 rw [rdL, ← hps, hrd]
 rfl

theorem b1x : E7 Tryz.f85 = [0, 2, 3, 4, 22, 24, 5, 6] := by kernel_rfl
theorem c6d (s : List UInt8) (hs : s.length ≤ 1048576) : CW (cxT oG) 85 [tV s] = some (.tup [.own 1 ((c2q s).map iV), bV (numsOf s).isSome], []) := by
 refine E4 rfl Tryz.func85 rfl ⟨by kernel_rfl, rfl, dT rfl, dT rfl, by decide⟩ b1x <| A3 <| A0 ?_
 (refine B1 rfl rfl (fun _ => rfl) ?_; intro g2)
 refine y_S rfl <| xN [0] [] rfl <| A3 <| A0 <| y_M rfl <| a1n rfl rfl <| y_S rfl <| xN [0,4] [] rfl <| A3 <| A3 <| A0 <| y_M rfl <| F8 rfl rfl <| y_M rfl ?_
 refine C5 rfl rfl ?_ ?_ <;> intro hg0 <;> have hg := hg0 <;> try simp only [SG] at hg
 ·refine y_M rfl <| gT rfl rfl <| P2 (n := 0) rfl rfl rfl (by omega) <| gT rfl rfl <| b7n rfl rfl <| F7 rfl (by assumption) rfl rfl <| y_M rfl ?_
  refine C5 rfl rfl ?_ ?_ <;> intro hg0 <;> have hg := hg0 <;> try simp only [SG] at hg
  ·refine y_M rfl <| gT rfl rfl <| y_M rfl <| gT rfl rfl <| P5 rfl rfl (C4 (by omega)) <| gT rfl rfl ?_
   rw [show ((s.length : Int) - 1) = ((s.length - 1 : Nat) : Int) by omega]
   refine P2 rfl rfl rfl (by omega) <| gT rfl rfl <| b7n rfl rfl <| F7 rfl (by assumption) rfl rfl <| xN [0,4,22] [] rfl ?_
   refine A5 rfl ?_ ?_ <;> intro hc <;> try simp only [SL] at hc
   ·refine A3 <| A0 ?_
    (refine B1 rfl rfl (fun _ => rfl) ?_; intro g2)
    refine y_S rfl <| xN [2,3] [2] rfl <| A9 <| C2 (G0 rfl rfl (by simp) (by rfl) (D5 rfl rfl (C7 B5))) ?_
    obtain ⟨hn1, hn2⟩ := a6f (s := s) (by exact .inr (.inr (by omega)))
    rw [hn1, hn2]
    rfl
   have hin := d0m (s := s) (by omega) (by omega) (by omega)
   refine A6 <| A3 <| A3 <| A0 <| y_M rfl <| O2 rfl rfl <| xN [0,4,24] [] rfl ?_
   refine A5 rfl ?_ ?_ <;> intro hc <;> try simp only [SL] at hc
   ·refine A3 <| A0 <| B6 (es := List.map iV []) rfl rfl (dT rfl) rfl rfl (fun _ => B2 (A7 fun _ => rfl)) (fun _ => rfl) ?_
    intro g25
    (refine xO rfl rfl (by simp) rfl (fun _ => rfl) (fun _ => rfl) ?_; intro g2)
    refine y_S rfl <| xN [2,3] [2] rfl <| A9 <| C2 (G0 rfl rfl (by simp) (by rfl) (D5 rfl rfl (C7 B5))) ?_
    obtain ⟨hn1, hn2⟩ := hin.1 (by omega)
    rw [hn1, hn2]
    rfl
   refine A6 <| A3 <| A0 <| y_M rfl <| y_M rfl <| P5 rfl rfl (C4 (by omega)) ?_
   rw [show ((s.length : Int) - 1) = ((s.length - 1 : Nat) : Int) by omega]
   have hrl := d3z ((s.drop 1).take (s.length - 1 - 1))
   have hin2 : ((s.drop 1).take (s.length - 1 - 1)).length ≤ s.length - 2 := by simp only [List.length_take, List.length_drop]; omega
   refine U2 rfl rfl (G7 rfl) (G7 (n := 1) rfl) (by omega) ?_
   apply xC rfl
   ·apply A8
    ·exact B7 rfl
    exact C3
   ·exact c4i ((s.drop 1).take (s.length - 1 - 1)) (by omega)
   refine ⟨⟨rfl, rfl, rfl, dT rfl, rfl⟩, .inr ⟨I1 _ _, rfl⟩, B3, G5 (L1 fun _ => I0 rfl L0), fun _ => rfl, fun g31 => ?_⟩
   simp only [List.length_map]
   refine y_M rfl <| y_E rfl <| y_E rfl ?_
   (refine xO rfl rfl (by simp) rfl (fun _ => rfl) (fun _ => rfl) ?_; intro g5)
   refine y_S rfl <| xN [5,6] [5] rfl <| A3 <| A0 <| y_M rfl <| y_M rfl <| y_M rfl ?_
   refine C5 rfl rfl ?_ ?_ <;> intro hg0 <;> have hg := hg0 <;> try simp only [SG] at hg
   ·refine y_M rfl <| gT rfl rfl ?_
    apply xC rfl
    ·apply A8
     ·exact H3 rfl rfl rfl (by (simp; done)) (fun _ => rfl)
     exact C3
    ·exact a3w ((rdL ((s.drop 1).take (s.length - 1 - 1))).getD []) (by omega)
    refine ⟨⟨rfl, rfl, rfl, dT rfl, rfl⟩, .inr ⟨rfl, rfl⟩, B3, C6 rfl, fun _ => rfl, fun g38 => ?_⟩
    refine E8 rfl (by assumption) rfl rfl ?_
    (refine xO rfl rfl (by simp) rfl (fun _ => rfl) (fun _ => rfl) ?_; intro g2)
    refine y_S rfl <| xN [2,3] [2] rfl <| A9 <| C2 (G0 rfl rfl (by simp) (by exact A7 fun _ => rfl) (D5 rfl rfl (C7 B5))) ?_
    obtain ⟨hn1, hn2⟩ := hin.2 (by omega)
    rw [hn2, b2n hn1]
    simp_all
    try rfl
   refine gF rfl rfl <| F7 rfl (by assumption) rfl rfl ?_
   (refine xO rfl rfl (by simp) rfl (fun _ => rfl) (fun _ => rfl) ?_; intro g2)
   refine y_S rfl <| xN [2,3] [2] rfl <| A9 <| C2 (G0 rfl rfl (by simp) (by exact A7 fun _ => rfl) (D5 rfl rfl (C7 B5))) ?_
   obtain ⟨hn1, hn2⟩ := hin.2 (by omega)
   rw [hn2, b2n hn1]
   simp_all
   try rfl
  iterate 4 refine gF rfl rfl ?_
  refine E8 rfl (by assumption) rfl rfl <| xN [0,4,22] [] rfl ?_
  refine A5 rfl (fun hc => ?_) (fun hc => absurd hc (by decide))
  refine A3 <| A0 ?_
  (refine B1 rfl rfl (fun _ => rfl) ?_; intro g2)
  refine y_S rfl <| xN [2,3] [2] rfl <| A9 <| C2 (G0 rfl rfl (by simp) (by rfl) (D5 rfl rfl (C7 B5))) ?_
  obtain ⟨hn1, hn2⟩ := a6f (s := s) (by exact .inr (.inl (by omega)))
  rw [hn1, hn2]
  rfl
 refine gF rfl rfl <| gF rfl rfl <| E8 rfl (by assumption) rfl rfl <| y_M rfl ?_
 iterate 5 refine H0 rfl rfl rfl ?_
 refine E8 rfl rfl rfl rfl <| xN [0,4,22] [] rfl ?_
 refine A5 rfl (fun hc => ?_) (fun hc => absurd hc (by decide))
 refine A3 <| A0 ?_
 (refine B1 rfl rfl (fun _ => rfl) ?_; intro g2)
 refine y_S rfl <| xN [2,3] [2] rfl <| A9 <| C2 (G0 rfl rfl (by simp) (by rfl) (D5 rfl rfl (C7 B5))) ?_
 obtain ⟨hn1, hn2⟩ := a6f (s := s) (by exact .inl (by omega))
 rw [hn1, hn2]
 rfl

theorem b1k : E7 Tryz.f102 = [0, 2, 3, 4, 15, 6, 24, 5, 7, 34, 43, 9, 12, 53, 8, 10, 11, 48, 59] := by kernel_rfl
theorem b4z (ws : List W8) (hws : ws.length ≤ 1048600 ∧ ∀ w ∈ ws, w.length ≤ 1048576) : CW (cxT oG) 102 [.list (ws.map tV)] = some (rtR (rdT ws), []) := by
 obtain ⟨kk, hkk⟩ : ∃ kk : Nat, ws.length < kk := ⟨_, Nat.lt_succ_self _⟩
 revert ws
 induction kk with
 | zero => intro ws hws hkk; exact absurd hkk (Nat.not_lt_zero _)
 | succ kk ih =>
  intro ws hws hkk
  refine E4 rfl Tryz.func102 rfl ⟨by kernel_rfl, rfl, dT rfl, dT rfl, by decide⟩ b1k <| A3 <| A0 <| y_A rfl (fun _ => rfl) ?_
  intro g2
  (refine B1 rfl rfl (fun _ => rfl) ?_; intro g3)
  refine y_S rfl <| xN [0,2] [2] rfl <| A3 <| A3 <| A0 <| y_M rfl <| B9 rfl rfl <| O2 rfl rfl <| xN [0,2,15] [2] rfl ?_
  refine A5 rfl ?_ ?_ <;> intro hc <;> try simp only [SL] at hc
  ·have hw0 : ws = [] := List.length_eq_zero_iff.1 (by simpa using hc)
   subst hw0
   refine A3 <| A0 <| H8 (fs := [_, _, _]) rfl rfl rfl rfl rfl <| xB rfl rfl rfl rfl rfl rfl rfl rfl rfl ?_
   (refine B1 rfl rfl (fun _ => rfl) ?_; intro g3)
   refine y_S rfl <| xN [2,3,4] [2,3] rfl <| A9 <| C2 (E9 rfl rfl rfl rfl (E3 rfl (H1 rfl (H1 rfl G6))) (G0 rfl rfl (by simp) (by rfl) (D5 rfl rfl (C7 B5)))) ?_
   rfl
  obtain ⟨w, ws1, rfl⟩ : ∃ w ws1, ws = w :: ws1 := List.exists_cons_of_ne_nil (fun e => by subst e; simp at hc)
  have hw := hws.2 w (by simp)
  refine A6 <| A3 <| A0 <| y_M rfl <| B8 rfl rfl rfl (fun _ => rfl) (by (change 0 < _; omega)) <| y_I rfl ?_
  apply xC rfl
  ·apply A8
   ·exact B7 rfl
   exact C3
  ·exact c6d w (by omega)
  refine ⟨⟨rfl, rfl, rfl, dT rfl, rfl⟩, .inr ⟨I1 _ _, rfl⟩, B3, G5 (L1 fun _ => I0 rfl L0), fun _ => rfl, fun g21 => ?_⟩
  simp only [List.length_map]
  refine y_M rfl <| y_E rfl <| y_E rfl ?_
  (refine xO rfl rfl (by simp) rfl (fun _ => rfl) (fun _ => rfl) ?_; intro g5)
  refine y_S rfl <| xN [0,2,5,6] [2,5] rfl <| A3 <| A3 <| A0 <| y_M rfl <| xN [0,2,5,24] [2,5] rfl ?_
  refine A5 rfl ?_ ?_ <;> intro hc <;> try simp only [SL] at hc
  ·obtain ⟨ns, hns⟩ := Option.isSome_iff_exists.1 hc
   have hraw := d4x hns
   refine A3 <| A0 <| y_M rfl <| H8 (fs := [_, _, _]) rfl rfl rfl rfl rfl <| y_M rfl <| N2 rfl rfl rfl (Mv.sized_map fun _ => rfl) H6 (G7 (n := 1) rfl) (by simp) ?_
   rw [show ((List.map tV (w :: ws1)).drop 1).take ((List.map tV (w :: ws1)).length - 1) = ws1.map tV from by rw [List.map_cons, List.drop_succ_cons, List.drop_zero, List.take_of_length_le (by simp)]]
   refine D9 rfl rfl rfl rfl (F4 rfl (L8 (by decide) (F4 rfl I7))) (fun _ => rfl) ⟨by decide, rfl, dT rfl, Nat.le_refl _⟩ (fun _ => rfl) (fun _ => rfl) (fun _ => (by rfl)) ?_
   intro z
   simp only [I6, List.cons_append, List.nil_append]
   refine y_S rfl <| y_S rfl ?_
   refine J7 ⟨fun _ => ⟨by (simp only [a0h, List.nil_append, List.append_nil, List.map_cons, List.map_nil, List.cons_append]; decide +kernel), by decide +kernel⟩, [(.t 2, _), (.t 3, _), (.t 4, _), (.h 2, _), (.h 5, _)], ⟨rfl, rfl, rfl, rfl, rfl, rfl, rfl, rfl, rfl, rfl, trivial⟩, ?_⟩
   refine A9 <| C2 (E9 rfl rfl rfl rfl (E3 rfl (J5 rfl rfl (by simp) (fun _ => rfl) (H1 rfl G6))) (D5 rfl rfl (D5 rfl rfl (C7 B5)))) ?_
   rw [c0z hns, hraw]
   rfl
  have hnn : numsOf w = none := by simpa using hc
  refine A6 <| A3 <| A0 <| y_M rfl <| B8 rfl rfl rfl (fun _ => rfl) (by (change 0 < _; omega)) <| y_I rfl ?_
  refine xC1 rfl rfl (c9e (bA w)) ⟨rfl, rfl, rfl⟩ rfl rfl fun g32 => ?_
  refine y_S rfl <| xN [0,2,7] [2] rfl <| A3 <| A3 <| A0 <| y_M rfl <| F8 rfl rfl <| xN [0,2,7,34] [2] rfl ?_
  refine A5 rfl ?_ ?_ <;> intro hc <;> try simp only [SL] at hc
  ·refine A3 <| A0 <| H8 (fs := [_, _, _]) rfl rfl rfl rfl rfl <| xB rfl rfl rfl rfl rfl rfl rfl rfl rfl ?_
   (refine B1 rfl rfl (fun _ => rfl) ?_; intro g3)
   refine y_S rfl <| xN [2,3,4] [2,3] rfl <| A9 <| C2 (E9 rfl rfl rfl rfl (E3 rfl (H1 rfl (H1 rfl G6))) (G0 rfl rfl (by simp) (by rfl) (D5 rfl rfl (C7 B5)))) ?_
   rw [c8b hnn (by omega)]
   rfl
  refine A6 <| A3 <| A0 <| y_M rfl <| B8 rfl rfl rfl (fun _ => rfl) (by (change 0 < _; omega)) <| y_I rfl <| H8 (fs := [_, _, _]) rfl rfl rfl rfl rfl <| y_A rfl (fun _ => rfl) ?_
  intro g8
  refine xB rfl rfl rfl rfl rfl rfl rfl rfl rfl <| xN [0,2,7,8] [2,8] rfl <| A3 <| A0 ?_
  rcases b7e (w := bA w) (by omega) with hn | hn | hn
  ·rw [hn]
   refine y_M rfl <| N2 rfl rfl rfl (Mv.sized_map fun _ => rfl) H6 (G7 (n := 1) rfl) (by simp) ?_
   rw [show ((List.map tV (w :: ws1)).drop 1).take ((List.map tV (w :: ws1)).length - 1) = ws1.map tV from by rw [List.map_cons, List.drop_succ_cons, List.drop_zero, List.take_of_length_le (by simp)]]
   refine y_S rfl <| xN [2,7,8,9] [2,8] rfl <| A3 <| B0 <| F9 <| A3 <| A3 <| A0 <| y_M rfl <| N9 rfl rfl <| xN [2,7,8,9,43] [2,8] rfl ?_
   refine A5 rfl (fun hc => absurd hc (by decide)) (fun hc => ?_)
   refine D8 <| A3 <| A0 <| y_B rfl <| y_M rfl <| xB rfl rfl rfl rfl rfl rfl rfl rfl rfl <| y_S rfl <| y_S rfl <| xN [2,3,4] [2] rfl <| A9 <| C2 (E9 rfl rfl rfl rfl (E3 rfl (H1 rfl (H1 rfl G6))) (D5 rfl rfl (D5 rfl rfl (C7 B5)))) ?_
   rw [c8c hnn hn]
   rfl
  ·rw [hn]
   refine y_M rfl <| N2 rfl rfl rfl (Mv.sized_map fun _ => rfl) H6 (G7 (n := 1) rfl) (by simp) ?_
   rw [show ((List.map tV (w :: ws1)).drop 1).take ((List.map tV (w :: ws1)).length - 1) = ws1.map tV from by rw [List.map_cons, List.drop_succ_cons, List.drop_zero, List.take_of_length_le (by simp)]]
   refine y_S rfl <| xN [2,7,8,9] [2,8] rfl <| A3 <| B0 <| F9 <| A3 <| A3 <| A0 <| y_M rfl <| N9 rfl rfl <| xN [2,7,8,9,43] [2,8] rfl ?_
   refine A5 rfl (fun hc => ?_) (fun hc => absurd hc (by decide))
   refine A6 <| A3 <| B0 <| A3 <| A0 <| y_M rfl ?_
   rcases hr1 : rdT ws1 with _ | ⟨k1, r1⟩
   ·skip
    apply xC rfl
    ·apply A8
     ·exact B7 rfl
     exact C3
    ·exact (by have hi := ih ws1 ⟨by simp only [List.length_cons] at hws; omega, fun x hx => hws.2 x (List.mem_cons_of_mem _ hx)⟩ (by simp only [List.length_cons] at hkk; omega); rw [hr1] at hi; exact hi)
    refine ⟨⟨rfl, rfl, rfl, dT rfl, rfl⟩, .inl rfl, B3, G5 (I0 rfl (L1 fun _ => I0 rfl L0)), fun _ => C1 (B2 rfl) (by rfl), fun g48 => ?_⟩
    refine y_M rfl <| y_E rfl <| y_E rfl <| y_E rfl <| y_A rfl (fun _ => rfl) ?_
    intro g10
    refine xB rfl rfl rfl rfl rfl rfl rfl rfl rfl ?_
    (refine H9 rfl rfl (by (simp; done)) rfl (fun _ => (B2 (by rfl))) (fun _ => rfl) ?_; intro g11)
    refine y_S rfl <| xN [2,7,8,10,11,12] [2,8,10] rfl <| A3 <| A3 <| A0 <| y_M rfl <| J9 rfl <| xN [2,7,8,10,11,53] [2,8,10] rfl ?_
    refine A5 rfl (fun hc => ?_) (fun hc => absurd hc (by decide))
    refine A3 <| A0 <| H8 (fs := [_, _, _]) rfl rfl rfl rfl rfl <| xB rfl rfl rfl rfl rfl rfl rfl rfl rfl ?_
    (refine B1 rfl rfl (fun _ => rfl) ?_; intro g3)
    refine y_S rfl <| xN [2,3,4] [2,3] rfl <| A9 <| C2 (E9 rfl rfl rfl rfl (E3 rfl (H1 rfl (H1 rfl G6))) (G0 rfl rfl (by simp) (by rfl) (D5 rfl rfl (C7 B5)))) ?_
    rw [b8m hnn hn, hr1]
    rfl
   skip
   apply xC rfl
   ·apply A8
    ·exact B7 rfl
    exact C3
   ·exact (by have hi := ih ws1 ⟨by simp only [List.length_cons] at hws; omega, fun x hx => hws.2 x (List.mem_cons_of_mem _ hx)⟩ (by simp only [List.length_cons] at hkk; omega); rw [hr1] at hi; exact hi)
   refine ⟨⟨rfl, rfl, rfl, dT rfl, rfl⟩, .inl rfl, B3, K1 rfl, fun _ => rfl, fun g48 => ?_⟩
   refine y_M rfl <| y_E rfl <| y_E rfl <| y_E rfl <| y_A rfl (fun _ => rfl) ?_
   intro g10
   refine xB rfl rfl rfl rfl rfl rfl rfl rfl rfl <| y_S rfl <| y_S rfl <| xN [2,7,8,10,11,12] [2,8,10] rfl <| A3 <| A3 <| A0 <| y_M rfl <| J9 rfl <| xN [2,7,8,10,11,53] [2,8,10] rfl ?_
   refine A5 rfl (fun hc => absurd hc (by decide)) (fun hc => ?_)
   refine A6 <| A3 <| A0 <| y_F rfl <| y_L rfl <| y_B rfl <| a2d (es := List.map trV [_]) rfl rfl (dT rfl) rfl rfl (fun _ => B2 (A7 fun _ => rfl)) (fun _ => rfl) ?_
   intro g58
   refine Q4 rfl rfl rfl (by simp) (by decide) rfl rfl rfl (dT rfl) (fun _ => ⟨rfl, rfl⟩) (by simp only [H2]; (simp only [List.length_nil, List.length_cons, List.length_append, Nat.zero_add, List.length_map]; omega)) (fun _ => rfl) ?_
   intro g59
   refine y_F rfl <| L9 rfl rfl rfl rfl rfl (Nat.le_refl _) rfl <| xN [2,7,8,11] [2,8,1000059] rfl <| A0 <| y_M rfl <| y_S rfl <| xN [2,7,8,9] [2,8,1000059] rfl <| A0 <| y_M rfl <| P5 rfl rfl (C4 (by omega)) <| y_S rfl <| xN [2,7,8,9] [2,8,1000059] rfl <| F9 <| A3 <| A3 <| A0 <| y_M rfl <| N9 rfl rfl <| xN [2,7,8,9,43] [2,8,1000059] rfl ?_
   refine A5 rfl (fun hc => absurd hc (by decide)) (fun hc => ?_)
   refine D8 <| A3 <| A0 <| y_B rfl <| y_M rfl <| D9 rfl rfl rfl rfl (F4 rfl (F4 rfl (X1 (by decide) (by decide) rfl (by simp) fun _ => I7))) (fun _ => rfl) ⟨by decide, rfl, dT rfl, Nat.le_refl _⟩ (fun _ => rfl) (fun _ => rfl) (fun _ => C1 (by rfl) (C1 (B2 (A7 fun _ => rfl)) (by rfl))) ?_
   intro z
   simp only [I6, List.cons_append, List.nil_append]
   refine y_S rfl <| y_S rfl <| xN [2,3,4] [2,300002] rfl <| A9 <| C2 (E9 rfl rfl rfl rfl (E3 rfl (H1 rfl (J5 rfl rfl (by simp) (fun _ => rfl) G6))) (D5 rfl rfl (D5 rfl rfl (C7 B5)))) ?_
   rw [b8m hnn hn, hr1]
   rfl
  rw [hn]
  refine y_M rfl <| N2 rfl rfl rfl (Mv.sized_map fun _ => rfl) H6 (G7 (n := 1) rfl) (by simp) ?_
  rw [show ((List.map tV (w :: ws1)).drop 1).take ((List.map tV (w :: ws1)).length - 1) = ws1.map tV from by rw [List.map_cons, List.drop_succ_cons, List.drop_zero, List.take_of_length_le (by simp)]]
  refine y_S rfl <| xN [2,7,8,9] [2,8] rfl <| A3 <| B0 <| F9 <| A3 <| A3 <| A0 <| y_M rfl <| N9 rfl rfl <| xN [2,7,8,9,43] [2,8] rfl ?_
  refine A5 rfl (fun hc => ?_) (fun hc => absurd hc (by decide))
  refine A6 <| A3 <| B0 <| A3 <| A0 <| y_M rfl ?_
  rcases hr1 : rdT ws1 with _ | ⟨k1, r1⟩
  ·skip
   apply xC rfl
   ·apply A8
    ·exact B7 rfl
    exact C3
   ·exact (by have hi := ih ws1 ⟨by simp only [List.length_cons] at hws; omega, fun x hx => hws.2 x (List.mem_cons_of_mem _ hx)⟩ (by simp only [List.length_cons] at hkk; omega); rw [hr1] at hi; exact hi)
   refine ⟨⟨rfl, rfl, rfl, dT rfl, rfl⟩, .inl rfl, B3, G5 (I0 rfl (L1 fun _ => I0 rfl L0)), fun _ => C1 (B2 rfl) (by rfl), fun g48 => ?_⟩
   refine y_M rfl <| y_E rfl <| y_E rfl <| y_E rfl <| y_A rfl (fun _ => rfl) ?_
   intro g10
   refine xB rfl rfl rfl rfl rfl rfl rfl rfl rfl ?_
   (refine H9 rfl rfl (by (simp; done)) rfl (fun _ => (B2 (by rfl))) (fun _ => rfl) ?_; intro g11)
   refine y_S rfl <| xN [2,7,8,10,11,12] [2,8,10] rfl <| A3 <| A3 <| A0 <| y_M rfl <| J9 rfl <| xN [2,7,8,10,11,53] [2,8,10] rfl ?_
   refine A5 rfl (fun hc => ?_) (fun hc => absurd hc (by decide))
   refine A3 <| A0 <| H8 (fs := [_, _, _]) rfl rfl rfl rfl rfl <| xB rfl rfl rfl rfl rfl rfl rfl rfl rfl ?_
   (refine B1 rfl rfl (fun _ => rfl) ?_; intro g3)
   refine y_S rfl <| xN [2,3,4] [2,3] rfl <| A9 <| C2 (E9 rfl rfl rfl rfl (E3 rfl (H1 rfl (H1 rfl G6))) (G0 rfl rfl (by simp) (by rfl) (D5 rfl rfl (C7 B5)))) ?_
   rw [a5n hnn hn, hr1]
   rfl
  skip
  apply xC rfl
  ·apply A8
   ·exact B7 rfl
   exact C3
  ·exact (by have hi := ih ws1 ⟨by simp only [List.length_cons] at hws; omega, fun x hx => hws.2 x (List.mem_cons_of_mem _ hx)⟩ (by simp only [List.length_cons] at hkk; omega); rw [hr1] at hi; exact hi)
  refine ⟨⟨rfl, rfl, rfl, dT rfl, rfl⟩, .inl rfl, B3, K1 rfl, fun _ => rfl, fun g48 => ?_⟩
  refine y_M rfl <| y_E rfl <| y_E rfl <| y_E rfl <| y_A rfl (fun _ => rfl) ?_
  intro g10
  refine xB rfl rfl rfl rfl rfl rfl rfl rfl rfl <| y_S rfl <| y_S rfl <| xN [2,7,8,10,11,12] [2,8,10] rfl <| A3 <| A3 <| A0 <| y_M rfl <| J9 rfl <| xN [2,7,8,10,11,53] [2,8,10] rfl ?_
  refine A5 rfl (fun hc => absurd hc (by decide)) (fun hc => ?_)
  refine A6 <| A3 <| A0 <| y_F rfl <| y_L rfl <| y_B rfl <| a2d (es := List.map trV [_]) rfl rfl (dT rfl) rfl rfl (fun _ => B2 (A7 fun _ => rfl)) (fun _ => rfl) ?_
  intro g58
  refine Q4 rfl rfl rfl (by simp) (by decide) rfl rfl rfl (dT rfl) (fun _ => ⟨rfl, rfl⟩) (by simp only [H2]; (simp only [List.length_nil, List.length_cons, List.length_append, Nat.zero_add, List.length_map]; omega)) (fun _ => rfl) ?_
  intro g59
  refine y_F rfl <| L9 rfl rfl rfl rfl rfl (Nat.le_refl _) rfl <| xN [2,7,8,11] [2,8,1000059] rfl <| A0 <| y_M rfl <| y_S rfl <| xN [2,7,8,9] [2,8,1000059] rfl <| A0 <| y_M rfl <| P5 rfl rfl (C4 (by omega)) <| y_S rfl <| xN [2,7,8,9] [2,8,1000059] rfl <| F9 <| A3 <| A3 <| A0 <| y_M rfl <| N9 rfl rfl <| xN [2,7,8,9,43] [2,8,1000059] rfl ?_
  refine A5 rfl (fun hc => ?_) (fun hc => absurd hc (by decide))
  refine A6 <| A3 <| B0 <| A3 <| A0 <| y_M rfl ?_
  rcases hr2 : rdT r1 with _ | ⟨k2, r2⟩
  ·skip
   apply xC rfl
   ·apply A8
    ·exact B7 rfl
    exact C3
   ·exact (by have hi := ih r1 ⟨by have := a0e hr1; simp only [List.length_cons] at hws; omega, fun x hx => hws.2 x (List.mem_cons_of_mem _ (b2e hr1 x hx))⟩ (by have := a0e hr1; simp only [List.length_cons] at hkk; omega); rw [hr2] at hi; exact hi)
   refine ⟨⟨rfl, rfl, rfl, dT rfl, rfl⟩, .inl rfl, B3, G5 (I0 rfl (L1 fun _ => I0 rfl L0)), fun _ => C1 (B2 rfl) (by rfl), fun g48 => ?_⟩
   refine y_M rfl <| y_E rfl <| y_E rfl <| y_E rfl <| y_A rfl (fun _ => rfl) ?_
   intro g10
   refine xB rfl rfl rfl rfl rfl rfl rfl rfl rfl ?_
   (refine H9 rfl rfl (by (simp; done)) rfl (fun _ => (B2 (by rfl))) (fun _ => rfl) ?_; intro g11)
   refine y_S rfl <| xN [2,7,8,10,11,12] [2,8,1000059,10] rfl <| A3 <| A3 <| A0 <| y_M rfl <| J9 rfl <| xN [2,7,8,10,11,53] [2,8,1000059,10] rfl ?_
   refine A5 rfl (fun hc => ?_) (fun hc => absurd hc (by decide))
   refine A3 <| A0 <| H8 (fs := [_, _, _]) rfl rfl rfl rfl rfl <| xB rfl rfl rfl rfl rfl rfl rfl rfl rfl ?_
   (refine B1 rfl rfl (fun _ => rfl) ?_; intro g3)
   refine y_S rfl <| xN [2,3,4] [2,3] rfl <| A9 <| C2 (E9 rfl rfl rfl rfl (E3 rfl (H1 rfl (H1 rfl G6))) (G0 rfl rfl (by simp) (by rfl) (D5 rfl rfl (C7 B5)))) ?_
   rw [a5n hnn hn, hr1, Option.bind_some, hr2]
   rfl
  skip
  apply xC rfl
  ·apply A8
   ·exact B7 rfl
   exact C3
  ·exact (by have hi := ih r1 ⟨by have := a0e hr1; simp only [List.length_cons] at hws; omega, fun x hx => hws.2 x (List.mem_cons_of_mem _ (b2e hr1 x hx))⟩ (by have := a0e hr1; simp only [List.length_cons] at hkk; omega); rw [hr2] at hi; exact hi)
  refine ⟨⟨rfl, rfl, rfl, dT rfl, rfl⟩, .inl rfl, B3, K1 rfl, fun _ => rfl, fun g48 => ?_⟩
  refine y_M rfl <| y_E rfl <| y_E rfl <| y_E rfl <| y_A rfl (fun _ => rfl) ?_
  intro g10
  refine xB rfl rfl rfl rfl rfl rfl rfl rfl rfl <| y_S rfl <| y_S rfl <| xN [2,7,8,10,11,12] [2,8,1000059,10] rfl <| A3 <| A3 <| A0 <| y_M rfl <| J9 rfl <| xN [2,7,8,10,11,53] [2,8,1000059,10] rfl ?_
  refine A5 rfl (fun hc => absurd hc (by decide)) (fun hc => ?_)
  refine A6 <| A3 <| A0 <| y_F rfl <| y_L rfl <| y_B rfl <| a2d (es := List.map trV [_]) rfl rfl (dT rfl) rfl rfl (fun _ => B2 (A7 fun _ => rfl)) (fun _ => rfl) ?_
  intro g58
  refine xA rfl rfl rfl rfl (by simp) (by simp) rfl rfl rfl rfl rfl (fun _ => rfl) (by simp only [LN]; omega) (fun _ => rfl) ?_
  intro g59
  refine y_F rfl <| L9 rfl rfl rfl rfl rfl (Nat.le_refl _) rfl <| xN [2,7,8,11] [2,8,1000059] rfl <| A0 <| y_M rfl <| y_S rfl <| xN [2,7,8,9] [2,8,1000059] rfl <| A0 <| y_M rfl <| P5 rfl rfl (C4 (by omega)) <| y_S rfl <| xN [2,7,8,9] [2,8,1000059] rfl <| F9 <| A3 <| A3 <| A0 <| y_M rfl <| N9 rfl rfl <| xN [2,7,8,9,43] [2,8,1000059] rfl ?_
  refine A5 rfl (fun hc => absurd hc (by decide)) (fun hc => ?_)
  refine D8 <| A3 <| A0 <| y_B rfl <| y_M rfl <| D9 rfl rfl rfl rfl (F4 rfl (F4 rfl (X1 (by decide) (by decide) rfl (by simp) fun _ => I7))) (fun _ => rfl) ⟨by decide, rfl, dT rfl, Nat.le_refl _⟩ (fun _ => rfl) (fun _ => rfl) (fun _ => C1 (by rfl) (C1 (B2 (A7 fun _ => rfl)) (by rfl))) ?_
  intro z
  simp only [I6, List.cons_append, List.nil_append]
  refine y_S rfl <| y_S rfl <| xN [2,3,4] [2,300002] rfl <| A9 <| C2 (E9 rfl rfl rfl rfl (E3 rfl (H1 rfl (J5 rfl rfl (by simp) (fun _ => rfl) G6))) (D5 rfl rfl (D5 rfl rfl (C7 B5)))) ?_
  rw [a5n hnn hn, hr1, Option.bind_some, hr2]
  rfl

theorem b1e : E7 Tryz.f60 = [0, 2, 3, 4, 17, 6, 7, 5, 21] := by kernel_rfl
theorem c5i (s : List UInt8) (hs : s.length ≤ 1048576) : CW (cxT oG) 60 [tV s] = some (.tup [trV (rpT s), bV (rdPlan s).isSome], []) := by
 obtain ⟨ws, hws⟩ : ∃ ws, ws = splitB 32 s := ⟨_, rfl⟩
 have hwl := U0 32 s
 have hwp := a0g 32 s
 rw [← hws] at hwl hwp
 refine E4 rfl Tryz.func60 rfl ⟨by kernel_rfl, rfl, dT rfl, dT rfl, by decide⟩ b1e <| A3 <| A0 <| y_A rfl (fun _ => rfl) ?_
 intro g2
 refine y_S rfl <| xN [0,2] [2] rfl <| A3 <| A0 <| y_M rfl ?_
 apply xC rfl
 ·apply A8
  ·exact B7 rfl
  apply A8
  ·exact B7 rfl
  exact C3
 ·exact b7h s (by omega) 32
 refine ⟨⟨rfl, rfl, rfl, dT rfl, rfl⟩, .inl rfl, B3, M9, fun _ => rfl, fun g9 => ?_⟩
 rw [← hws]
 try simp only [List.length_map]
 (refine xO rfl rfl (by simp) rfl (fun _ => rfl) (fun _ => rfl) ?_; intro g4)
 refine xN [0,2,4] [2,4] rfl <| A3 <| A3 <| A0 <| y_M rfl <| a1n rfl rfl <| N9 rfl rfl <| y_M rfl ?_
 refine C5 rfl rfl ?_ ?_ <;> intro hg0 <;> have hg := hg0 <;> try simp only [SG] at hg
 ·refine y_M rfl <| gT rfl rfl <| M3 rfl rfl <| gT rfl rfl <| N9 rfl rfl <| F7 rfl (by assumption) rfl rfl <| xN [2,4,17] [2,4] rfl ?_
  refine A5 rfl ?_ ?_ <;> intro hc <;> try simp only [SL] at hc
  ·refine A3 <| A0 <| H8 (fs := [_, _, _]) rfl rfl rfl rfl rfl <| xB rfl rfl rfl rfl rfl rfl rfl rfl rfl <| y_S rfl <| xN [2,3] [2] rfl <| A9 <| C2 (E9 rfl rfl rfl rfl (E3 rfl (H1 rfl (H1 rfl G6))) (D5 rfl rfl (C7 B5))) ?_
   obtain ⟨h1, h2⟩ := b5m (s := s) (by rw [hws] at *; omega)
   rw [h1, h2]
   rfl
  have hin := c8l hws (by omega)
  refine A6 <| A3 <| A0 <| y_M rfl ?_
  rcases hr : rdT ws with _ | ⟨t, r⟩
  ·skip
   apply xC rfl
   ·apply A8
    ·exact J2 rfl rfl (by (simp; done)) (fun _ => rfl)
    exact C3
   ·exact (by have hi := b4z (oG := oG) ws ⟨by omega, fun w hw => by have := hwp w hw; omega⟩; rw [hr] at hi; exact hi)
   refine ⟨⟨rfl, rfl, rfl, dT rfl, rfl⟩, .inl rfl, B3, G5 (I0 rfl (L1 fun _ => I0 rfl L0)), fun _ => C1 (a5y (A7 fun _ => rfl) (by decide)) (by rfl), fun g21 => ?_⟩
   refine y_M rfl <| y_E rfl <| y_E rfl <| y_E rfl <| y_A rfl (fun _ => rfl) ?_
   intro g5
   refine xB rfl rfl rfl rfl rfl rfl rfl rfl rfl ?_
   (refine H9 rfl rfl (by (simp; done)) rfl (fun _ => (B2 (by rfl))) (fun _ => rfl) ?_; intro g6)
   refine y_S rfl <| xN [2,5,6,7] [2,5] rfl <| A3 <| A0 <| y_B rfl <| y_M rfl <| y_M rfl <| H0 rfl rfl rfl <| H0 rfl rfl rfl <| H0 rfl rfl rfl <| F7 rfl rfl rfl rfl <| xB rfl rfl rfl rfl rfl rfl rfl rfl rfl <| y_S rfl <| xN [2,3] [2] rfl <| A9 <| C2 (E9 rfl rfl rfl rfl (E3 rfl (E3 rfl (E3 rfl G6))) (D5 rfl rfl (C7 B5))) ?_
   obtain ⟨h1, h2⟩ := hin.1 hr
   rw [h1, h2]
   rfl
  skip
  apply xC rfl
  ·apply A8
   ·exact J2 rfl rfl (by (simp; done)) (fun _ => rfl)
   exact C3
  ·exact (by have hi := b4z (oG := oG) ws ⟨by omega, fun w hw => by have := hwp w hw; omega⟩; rw [hr] at hi; exact hi)
  refine ⟨⟨rfl, rfl, rfl, dT rfl, rfl⟩, .inl rfl, B3, K1 rfl, fun _ => C1 (a5y (A7 fun _ => rfl) (by decide)) (by rfl), fun g21 => ?_⟩
  refine y_M rfl <| y_E rfl <| y_E rfl <| y_E rfl <| y_A rfl (fun _ => rfl) ?_
  intro g5
  refine xB rfl rfl rfl rfl rfl rfl rfl rfl rfl <| y_S rfl <| y_S rfl <| xN [2,5,6,7] [2,5] rfl <| A3 <| A0 <| y_B rfl <| y_M rfl <| y_M rfl <| I9 rfl rfl rfl <| y_M rfl <| I9 rfl rfl rfl <| B9 rfl rfl <| I9 rfl rfl rfl <| O2 rfl rfl <| E8 rfl rfl rfl rfl <| xB rfl rfl rfl rfl rfl rfl rfl rfl rfl <| y_S rfl <| xN [2,3] [2] rfl <| A9 <| C2 (E9 rfl rfl rfl rfl (E3 rfl (E3 rfl (E3 rfl G6))) (D5 rfl rfl (C7 B5))) ?_
  obtain ⟨h1, h2⟩ := hin.2 t r hr
  rw [h1, h2]
  rfl
 refine gF rfl rfl <| gF rfl rfl <| E8 rfl (by assumption) rfl rfl <| xN [2,4,17] [2,4] rfl ?_
 refine A5 rfl (fun hc => ?_) (fun hc => absurd hc (by decide))
 refine A3 <| A0 <| H8 (fs := [_, _, _]) rfl rfl rfl rfl rfl <| xB rfl rfl rfl rfl rfl rfl rfl rfl rfl <| y_S rfl <| xN [2,3] [2] rfl <| A9 <| C2 (E9 rfl rfl rfl rfl (E3 rfl (H1 rfl (H1 rfl G6))) (D5 rfl rfl (C7 B5))) ?_
 obtain ⟨h1, h2⟩ := b5m (s := s) (by rw [hws] at *; omega)
 rw [h1, h2]
 rfl

theorem b4q : E7 Tryz.f143 = [0, 2, 8, 7, 9, 6, 5, 3] := by kernel_rfl
theorem c8z (ns : List Int) (hl : ns.length ≤ 1000000) (hnb : ∀ n ∈ ns, -1000000 ≤ n ∧ n ≤ 1000000) : CW (cxT oG) 143 [L ns] = some (tV (P1 ns), []) := by
 have hg := fun (i : Nat) (h : i < ns.length) => hnb _ (a4a h)
 have hll := V5 (ns := ns) hnb
 refine E4 rfl Tryz.func143 rfl ⟨by kernel_rfl, rfl, dT rfl, dT rfl, by decide⟩ b4q <| A3 <| A0 <| y_S rfl <| xN [0] [] rfl <| A3 <| A0 ?_
 (refine B1 rfl rfl (fun _ => rfl) ?_; intro g3)
 refine xN [0,3] [3] rfl <| A3 <| A3 <| A0 <| y_M rfl <| B9 rfl rfl <| y_M rfl <| xN [3,6,7,8] [3] rfl <| B0 <| F5 (β := Nat × List (List UInt8) × Nat) [(.t 6, _), (.t 7, _)] (fun (z : Nat × List (List UInt8) × Nat) => match z with | (i, ps, g) => [(.t 8, iV i), (.t 3, .sl 3 g none 0 ps.length), (.h 3, .obj g 0 1 (ps.map tV))]) (fun (z : Nat × List (List UInt8) × Nat) => match z with | (i, ps, g) => i ≤ ns.length ∧ ps = (ns.take i).map dec) (fun (z : Nat × List (List UInt8) × Nat) => match z with | (i, ps, g) => ns.length - i) (0, [], _) ⟨rfl, rfl, rfl, rfl, rfl, trivial⟩ ⟨Nat.zero_le _, rfl⟩ ?_
 intro z hb
 obtain ⟨i, ps, g⟩ := z
 try dsimp only at hb
 obtain ⟨hi1, hps⟩ := hb
 have hpl : ps.length = i := by rw [hps]; simp; omega
 refine A3 <| A0 <| F8 rfl rfl <| xN [3,6,7,8,9] [3] rfl <| A3 ?_
 refine A5 rfl ?_ ?_ <;> intro hc <;> try simp only [SL] at hc
 ·refine A6 <| A3 <| B0 <| A3 <| A0 <| B8 rfl rfl rfl (fun _ => rfl) (by omega) <| y_I rfl <| y_S rfl <| xN [3,5,6,7,8] [3] rfl <| A0 <| y_M rfl <| y_M rfl ?_
  have hgi := hg i (by omega)
  refine xC1 rfl rfl (d6s (ns.getD i default) (by omega)) ⟨rfl, rfl, rfl⟩ rfl rfl fun g14 => ?_
  refine B6 (es := List.map tV [_]) rfl rfl (dT rfl) rfl rfl (fun _ => B2 (A7 fun _ => rfl)) (fun _ => rfl) ?_
  intro g15
  refine xA rfl rfl rfl rfl (by simp) (by simp) rfl rfl rfl rfl rfl (fun _ => rfl) (by simp only [LN]; omega) (fun _ => rfl) ?_
  intro g16
  (refine xO rfl rfl (by simp) rfl (fun _ => rfl) (fun _ => rfl) ?_; intro g3)
  refine xN [3,6,7,8] [3] rfl <| A0 <| E6 rfl rfl (C4 (by omega)) <| y_M rfl <| xN [3,6,7,8] [3] rfl ?_
  refine ⟨(i + 1, ps ++ [dec (ns.getD i default)], _), ?_, (by simp only; omega), ⟨rfl, rfl, rfl, rfl, rfl, trivial⟩⟩
  exact ⟨by omega, by rw [hps, ← b6k (by omega)]⟩
 refine D8 <| A3 <| A0 <| y_M rfl ?_
 have hpe : ps = ns.map dec := by rw [hps, List.take_of_length_le (by omega)]
 have hje : joinB 44 ps = P1 ns := by rw [hpe]; rfl
 apply xC rfl
 ·apply A8
  ·exact H3 rfl rfl rfl (by (simp; done)) (fun _ => rfl)
  apply A8
  ·exact B7 rfl
  exact C3
 ·exact d6f ps 44 (by simp only [H2]; omega) (by rw [hje]; simp only [H2]; omega)
 refine ⟨⟨rfl, rfl, rfl, dT rfl, rfl⟩, .inr ⟨rfl, rfl⟩, B3, C6 rfl, fun _ => rfl, fun g19 => ?_⟩
 refine y_S rfl <| xN [2] [] rfl <| A9 <| C0 rfl rfl trivial ?_
 rw [hje]

theorem a9c : E7 Tryz.f113 = [0, 2] := by kernel_rfl
theorem a5k (ns : List Int) (hl : ns.length ≤ 1000000) (hnb : ∀ n ∈ ns, -1000000 ≤ n ∧ n ≤ 1000000) : CW (cxT oG) 113 [L ns] = some (tV (R5 ns), []) := by
 have hll := V5 (ns := ns) hnb
 refine E4 rfl Tryz.func113 rfl ⟨by kernel_rfl, rfl, dT rfl, dT rfl, by decide⟩ a9c <| A3 <| A0 <| y_S rfl <| xN [0] [] rfl <| A3 <| A0 <| y_M rfl ?_
 refine xC1 rfl rfl (c8z ns hl hnb) ⟨rfl, rfl, rfl⟩ rfl rfl fun g4 => ?_
 iterate 2 refine M4 rfl rfl (by simp only [H2, List.length_append, List.length_cons, List.length_nil]; omega) ?_
 refine y_S rfl <| xN [2] [] rfl <| A9 <| C0 rfl rfl trivial ?_
 rfl

theorem a9f : E7 Tryz.f104 = [0, 2, 3, 4, 6, 5, 27, 29, 33, 32, 34, 31, 9, 11, 43, 10, 7] := by kernel_rfl
theorem c3h (w : List UInt8) (hs : w.length ≤ 1048576) : CW (cxT oG) 104 [tV w] = some (.tup [.own 1 ((rlX w).map iV), bV (okI w)], []) := by
 have hc1 := d1u 91 w
 have hc2 := d3r 93 (a3u 91 w)
 refine E4 rfl Tryz.func104 rfl ⟨by kernel_rfl, rfl, dT rfl, dT rfl, by decide⟩ a9f <| A3 <| A0 ?_
 (refine B1 rfl rfl (fun _ => rfl) ?_; intro g2)
 refine y_S rfl <| xN [0] [] rfl <| A3 <| A0 <| y_M rfl ?_
 apply xC rfl
 ·apply A8
  ·exact B7 rfl
  apply A8
  ·exact B7 rfl
  exact C3
 ·exact d6i w 91
 refine ⟨⟨rfl, rfl, rfl, dT rfl, rfl⟩, .inl rfl, B3, K1 rfl, fun _ => rfl, fun g14 => ?_⟩
 refine y_M rfl <| y_E rfl <| y_E rfl <| y_S rfl <| y_S rfl <| xN [0,4,5] [] rfl <| A3 <| A0 <| y_M rfl ?_
 apply xC rfl
 ·apply A8
  ·exact B7 rfl
  apply A8
  ·exact B7 rfl
  exact C3
 ·exact d6u (a3u 91 w) 93 (by omega)
 refine ⟨⟨rfl, rfl, rfl, dT rfl, rfl⟩, .inl rfl, B3, K1 rfl, fun _ => rfl, fun g19 => ?_⟩
 refine y_M rfl <| y_E rfl <| y_E rfl <| y_S rfl <| y_S rfl <| xN [0,4,5,6] [] rfl <| A3 <| A3 <| A0 <| y_M rfl <| J9 rfl <| y_M rfl ?_
 refine C5 rfl rfl ?_ ?_ <;> intro hg0 <;> have hg := hg0 <;> try simp only [SG] at hg
 ·refine y_M rfl <| gT rfl rfl <| J9 rfl <| F7 rfl (by assumption) rfl rfl <| xN [0,4,27] [] rfl ?_
  refine A5 rfl ?_ ?_ <;> intro hc <;> try simp only [SL] at hc
  ·refine A3 <| A0 ?_
   (refine B1 rfl rfl (fun _ => rfl) ?_; intro g2)
   refine y_S rfl <| xN [2,3] [2] rfl <| A9 <| C2 (G0 rfl rfl (by simp) (by rfl) (D5 rfl rfl (C7 B5))) ?_
   obtain ⟨h1, h2⟩ := b7y (c1l (w := w) (by simp_all [okB]))
   rw [h1, h2]
   rfl
  have hok : okB w = true := by simp [okB]; constructor <;> assumption
  obtain ⟨ps, hps0⟩ : ∃ ps, ps = splitB 44 (a4d w) := ⟨_, rfl⟩
  have hpl := U0 44 (a4d w)
  have hpp := a0g 44 (a4d w)
  rw [← hps0] at hpl hpp
  have hil := d0o hok
  refine A6 <| A3 <| A0 ?_
  (refine B1 rfl rfl (fun _ => rfl) ?_; intro g7)
  refine xN [0,4,7] [7] rfl <| A3 <| A3 <| A0 <| y_M rfl <| b4a rfl rfl <| xN [0,4,7,29] [7] rfl ?_
  refine A5 rfl ?_ ?_ <;> intro hc <;> try simp only [SL] at hc
  ·have hin : a4d w ≠ [] := hc
   refine A3 <| A0 <| y_M rfl ?_
   have hps := hps0
   apply a6s rfl
   ·apply A8
    ·exact B7 rfl
    apply A8
    ·exact B7 rfl
    exact C3
   ·exact c7g (a4d w) 44 (by unfold a4d; omega)
   ·exact ⟨rfl, rfl, rfl, dT rfl, rfl⟩
   ·exact .inl rfl
   ·exact B3
   ·exact M9
   ·(intro _; exact C1 (B2 (A7 fun _ => rfl)) rfl)
   intro g31
   rw [← hps]
   try simp only [List.length_map]
   refine M3 rfl rfl <| y_M rfl <| xN [0,7,31,32,33] [7,1000031] rfl <| B0 <| F5 (β := Nat × List Int × Nat) [(.t 0, _), (.t 31, _), (.t 32, _), (.h 1000031, _)] (fun (z : Nat × List Int × Nat) => match z with | (i, ns, g) => [(.t 33, iV i), (.t 7, .sl 7 g none 0 ns.length), (.h 7, .obj g 0 1 (ns.map iV))]) (fun (z : Nat × List Int × Nat) => match z with | (i, ns, g) => i ≤ ps.length ∧ rdA (ps.take i) = some ns) (fun (z : Nat × List Int × Nat) => match z with | (i, ns, g) => ps.length - i) (0, [], _) ⟨rfl, rfl, rfl, rfl, rfl, rfl, rfl, trivial⟩ ⟨Nat.zero_le _, rfl⟩ ?_
   intro z hb
   obtain ⟨i, ns, g⟩ := z
   try dsimp only at hb
   obtain ⟨hi1, hrd⟩ := hb
   have hpi := fun h : i < ps.length => hpp _ (V3 h)
   have hnl := b3u hrd
   rw [List.length_take] at hnl
   refine A3 <| A0 <| F8 rfl rfl <| xN [0,7,31,32,33,34] [7,1000031] rfl <| A3 ?_
   refine A5 rfl ?_ ?_ <;> intro hc <;> try simp only [SL] at hc
   ·refine A6 <| A3 <| B0 <| A3 <| A0 <| F0 rfl rfl rfl rfl (by omega) (by (simp; done)) rfl <| H7 rfl rfl (by omega) (fun _ => rfl) (fun _ => rfl) rfl <| y_S rfl <| xN [0,7,9,31,32,33] [7,1000031] rfl <| A3 <| A0 <| y_M rfl ?_
    rcases hat : Lib.atoiAll (ps.getD i default) with v | _ | _
    ·skip
     apply xC rfl
     ·apply A8
      ·exact B7 rfl
      exact C3
     ·exact (by have hi := c5k (oG := oG) (ps.getD i default) (by omega); unfold atR at hi; rw [hat] at hi; exact hi)
     refine ⟨⟨rfl, rfl, rfl, dT rfl, rfl⟩, .inl rfl, B3, K1 rfl, fun _ => rfl, fun g39 => ?_⟩
     refine y_M rfl <| y_E rfl <| y_E rfl <| y_S rfl <| y_S rfl <| xN [0,7,10,11,31,32,33] [7,1000031] rfl <| A3 <| A3 <| A0 <| y_M rfl <| d3l rfl rfl rfl rfl <| xN [0,7,10,31,32,33,43] [7,1000031] rfl ?_
     refine A5 rfl (fun hc => absurd hc (by decide)) (fun hc => ?_)
     refine A6 <| A0 <| y_M rfl <| y_M rfl <| B6 (es := List.map iV [_]) rfl rfl (dT rfl) rfl rfl (fun _ => B2 (A7 fun _ => rfl)) (fun _ => rfl) ?_
     intro g46
     refine xA rfl rfl rfl rfl (by simp) (by simp) rfl rfl rfl rfl rfl (fun _ => rfl) (by simp only [LN]; omega) (fun _ => rfl) ?_
     intro g47
     (refine xO rfl rfl (by simp) rfl (fun _ => rfl) (fun _ => rfl) ?_; intro g7)
     refine xN [0,7,31,32,33] [7,1000031] rfl <| A0 <| E6 rfl rfl (C4 (by omega)) <| y_M rfl <| xN [0,7,31,32,33] [7,1000031] rfl ?_
     refine ⟨(i + 1, ns ++ [v], _), ?_, (by simp only; omega), ⟨rfl, rfl, rfl, rfl, rfl, rfl, rfl, trivial⟩⟩
     exact ⟨by omega, d2t (by omega) hrd hat⟩
    ·skip
     apply xC rfl
     ·apply A8
      ·exact B7 rfl
      exact C3
     ·exact (by have hi := c5k (oG := oG) (ps.getD i default) (by omega); unfold atR at hi; rw [hat] at hi; exact hi)
     refine ⟨⟨rfl, rfl, rfl, dT rfl, rfl⟩, .inl rfl, B3, K1 rfl, fun _ => rfl, fun g39 => ?_⟩
     refine y_M rfl <| y_E rfl <| y_E rfl <| y_S rfl <| y_S rfl <| xN [0,7,10,11,31,32,33] [7,1000031] rfl <| A3 <| A3 <| A0 <| y_M rfl <| c2z rfl rfl rfl <| xN [0,7,10,31,32,33,43] [7,1000031] rfl ?_
     refine A5 rfl (fun hc => ?_) (fun hc => absurd hc (by decide))
     refine A3 <| A0 ?_
     (refine B1 rfl rfl (fun _ => rfl) ?_; intro g2)
     refine y_S rfl <| xN [2,3] [2] rfl <| A9 <| C2 (G0 rfl rfl (by simp) (by rfl) (D5 rfl rfl (C7 B5))) ?_
     obtain ⟨h1, h2⟩ := b7y (w := w) (by rw [b2g hok hin, ← hps0]; exact c0o (i := i) (by omega) (by intro v hv; rw [hat] at hv; cases hv))
     rw [h1, h2]
     rfl
    skip
    apply xC rfl
    ·apply A8
     ·exact B7 rfl
     exact C3
    ·exact (by have hi := c5k (oG := oG) (ps.getD i default) (by omega); unfold atR at hi; rw [hat] at hi; exact hi)
    refine ⟨⟨rfl, rfl, rfl, dT rfl, rfl⟩, .inl rfl, B3, K1 rfl, fun _ => rfl, fun g39 => ?_⟩
    refine y_M rfl <| y_E rfl <| y_E rfl <| y_S rfl <| y_S rfl <| xN [0,7,10,11,31,32,33] [7,1000031] rfl <| A3 <| A3 <| A0 <| y_M rfl <| c2z rfl rfl rfl <| xN [0,7,10,31,32,33,43] [7,1000031] rfl ?_
    refine A5 rfl (fun hc => ?_) (fun hc => absurd hc (by decide))
    refine A3 <| A0 ?_
    (refine B1 rfl rfl (fun _ => rfl) ?_; intro g2)
    refine y_S rfl <| xN [2,3] [2] rfl <| A9 <| C2 (G0 rfl rfl (by simp) (by rfl) (D5 rfl rfl (C7 B5))) ?_
    obtain ⟨h1, h2⟩ := b7y (w := w) (by rw [b2g hok hin, ← hps0]; exact c0o (i := i) (by omega) (by intro v hv; rw [hat] at hv; cases hv))
    rw [h1, h2]
    rfl
   refine D8 <| A3 <| A0 <| y_M rfl <| y_M rfl ?_
   apply xC rfl
   ·apply A8
    ·exact H3 rfl rfl rfl (by (simp; done)) (fun _ => rfl)
    exact C3
   ·exact W9 ns (by omega)
   refine ⟨⟨rfl, rfl, rfl, dT rfl, rfl⟩, .inr ⟨rfl, rfl⟩, B3, C6 rfl, fun _ => rfl, fun g51 => ?_⟩
   refine y_M rfl ?_
   refine C5 rfl rfl ?_ ?_ <;> intro hg0 <;> have hg := hg0 <;> try simp only [SG] at hg
   ·refine y_M rfl <| gT rfl rfl ?_
    (have hnb := c7p (ns := ns) (by assumption); have hvl := a9p (show vd ns = true by assumption))
    apply xC rfl
    ·apply A8
     ·exact H3 rfl rfl rfl (by (simp; done)) (fun _ => rfl)
     exact C3
    ·exact a5k ns (by omega) hnb
    refine ⟨⟨rfl, rfl, rfl, dT rfl, rfl⟩, .inr ⟨rfl, rfl⟩, B3, C6 rfl, fun _ => rfl, fun g54 => ?_⟩
    refine gT rfl rfl <| y_M rfl <| gT rfl rfl <| Q7 rfl rfl <| E8 rfl (by assumption) rfl rfl ?_
    (refine xO rfl rfl (by simp) rfl (fun _ => rfl) (fun _ => rfl) ?_; intro g2)
    refine y_S rfl <| xN [2,3] [2] rfl <| A9 <| C2 (G0 rfl rfl (by simp) (by exact A7 fun _ => rfl) (D5 rfl rfl (C7 B5))) ?_
    (have hx := hin; obtain ⟨h1, h2⟩ := a8d (ns := ns) (w := w) (by rw [b2g hok hx, ← hps0]; rw [List.take_of_length_le (by omega)] at hrd; exact hrd))
    (rw [h1, h2, hg, Bool.true_and]; rfl)
   refine gF rfl rfl <| gF rfl rfl <| gF rfl rfl <| F7 rfl (by assumption) rfl rfl ?_
   (refine xO rfl rfl (by simp) rfl (fun _ => rfl) (fun _ => rfl) ?_; intro g2)
   refine y_S rfl <| xN [2,3] [2] rfl <| A9 <| C2 (G0 rfl rfl (by simp) (by exact A7 fun _ => rfl) (D5 rfl rfl (C7 B5))) ?_
   (have hx := hin; obtain ⟨h1, h2⟩ := a8d (ns := ns) (w := w) (by rw [b2g hok hx, ← hps0]; rw [List.take_of_length_le (by omega)] at hrd; exact hrd))
   (rw [h1, h2, hg, Bool.false_and]; rfl)
  have hie : a4d w = [] := hc
  refine A6 <| A3 <| A0 <| y_M rfl <| y_M rfl ?_
  apply xC rfl
  ·apply A8
   ·exact b2i rfl rfl rfl rfl rfl
   exact C3
  ·exact W9 [] (by decide)
  refine ⟨⟨rfl, rfl, rfl, dT rfl, rfl⟩, .inr ⟨rfl, rfl⟩, B3, C6 rfl, fun _ => rfl, fun g51 => ?_⟩
  refine y_M rfl ?_
  refine C5 rfl rfl ?_ ?_ <;> intro hg0 <;> have hg := hg0 <;> try simp only [SG] at hg
  ·refine y_M rfl <| gT rfl rfl ?_
   skip
   apply xC rfl
   ·apply A8
    ·exact b2i rfl rfl rfl rfl rfl
    exact C3
   ·exact a5k [] (by decide) (by simp)
   refine ⟨⟨rfl, rfl, rfl, dT rfl, rfl⟩, .inr ⟨rfl, rfl⟩, B3, C6 rfl, fun _ => rfl, fun g54 => ?_⟩
   refine gT rfl rfl <| y_M rfl <| gT rfl rfl <| Q7 rfl rfl <| E8 rfl rfl rfl rfl ?_
   (refine H9 rfl rfl (by (simp; done)) rfl (fun _ => (B2 (by rfl))) (fun _ => rfl) ?_; intro g2)
   refine y_S rfl <| xN [2,3] [2] rfl <| A9 <| C2 (G0 rfl rfl (by simp) (by rfl) (D5 rfl rfl (C7 B5))) ?_
   obtain ⟨h1, h2⟩ := a8d (ns := []) (w := w) (c6w hok hie)
   (rw [h1, h2, hg, Bool.true_and]; rfl)
  refine gF rfl rfl <| gF rfl rfl <| gF rfl rfl <| F7 rfl (by assumption) rfl rfl ?_
  (refine H9 rfl rfl (by (simp; done)) rfl (fun _ => (B2 (by rfl))) (fun _ => rfl) ?_; intro g2)
  refine y_S rfl <| xN [2,3] [2] rfl <| A9 <| C2 (G0 rfl rfl (by simp) (by rfl) (D5 rfl rfl (C7 B5))) ?_
  obtain ⟨h1, h2⟩ := a8d (ns := []) (w := w) (c6w hok hie)
  (rw [h1, h2, hg, Bool.false_and]; rfl)
 refine gF rfl rfl <| E8 rfl (by assumption) rfl rfl <| xN [0,4,27] [] rfl ?_
 refine A5 rfl (fun hc => ?_) (fun hc => absurd hc (by decide))
 refine A3 <| A0 ?_
 (refine B1 rfl rfl (fun _ => rfl) ?_; intro g2)
 refine y_S rfl <| xN [2,3] [2] rfl <| A9 <| C2 (G0 rfl rfl (by simp) (by rfl) (D5 rfl rfl (C7 B5))) ?_
 obtain ⟨h1, h2⟩ := b7y (c1l (w := w) (by simp_all [okB]))
 rw [h1, h2]
 rfl

theorem b1d : E7 Tryz.f63 = [0, 2, 3, 4, 6, 12, 5] := by kernel_rfl
theorem a1o (w : List UInt8) (hs : w.length ≤ 1048576) : CW (cxT oG) 63 [tV w] = some (.tup [tV (if (numsOf w).isSome = true then lW else w), .own 1 (((numsOf w).getD []).map iV), bV ((numsOf w).isSome || decide (0 ≤ rch (bA w)))], []) := by
 refine E4 rfl Tryz.func63 rfl ⟨by kernel_rfl, rfl, dT rfl, dT rfl, by decide⟩ b1d <| A3 <| A0 <| y_S rfl ?_
 (refine B1 rfl rfl (fun _ => rfl) ?_; intro g3)
 refine y_S rfl <| xN [0] [] rfl <| A3 <| A3 <| A0 <| y_M rfl ?_
 apply xC rfl
 ·apply A8
  ·exact B7 rfl
  exact C3
 ·exact (by have hi := c3h (oG := oG) w hs; rw [d6n] at hi; exact hi)
 refine ⟨⟨rfl, rfl, rfl, dT rfl, rfl⟩, .inr ⟨I1 _ _, rfl⟩, B3, G5 (L1 fun _ => I0 rfl L0), fun _ => rfl, fun g9 => ?_⟩
 simp only [List.length_map]
 refine y_M rfl <| y_E rfl <| y_E rfl ?_
 (refine xO rfl rfl (by simp) rfl (fun _ => rfl) (fun _ => rfl) ?_; intro g5)
 refine y_S rfl <| xN [0,5,6] [5] rfl <| A3 <| A0 <| y_M rfl <| xN [0,5,12] [5] rfl ?_
 refine A5 rfl ?_ ?_ <;> intro hc <;> try simp only [SL] at hc
 ·obtain ⟨ns, hns⟩ := Option.isSome_iff_exists.1 hc
  have hraw := d6q hns
  refine A3 <| A0 <| y_M rfl <| y_S rfl ?_
  (refine xO rfl rfl (by simp) rfl (fun _ => rfl) (fun _ => rfl) ?_; intro g3)
  refine y_S rfl <| xN [2,3,4] [3] rfl <| A9 <| C2 (D5 rfl rfl (G0 rfl rfl (by simp) (by exact A7 fun _ => rfl) (D5 rfl rfl (C7 B5)))) ?_
  rw [hns, hraw]
  rfl
 have hnn : numsOf w = none := by simpa using hc
 have hwo := d4r w
 refine A6 <| A3 <| A0 <| y_M rfl <| y_M rfl <| b4a rfl rfl <| y_M rfl ?_
 refine C5 rfl rfl ?_ ?_ <;> intro hg0 <;> have hg := hg0 <;> try simp only [SG] at hg
 ·refine y_M rfl <| gT rfl rfl ?_
  refine xC1 rfl rfl (a7x (bA w)) ⟨rfl, rfl, rfl⟩ rfl rfl fun g19 => ?_
  refine gT rfl rfl <| c0m rfl rfl <| E8 rfl (by assumption) rfl rfl <| y_S rfl ?_
  (refine B1 rfl rfl (fun _ => rfl) ?_; intro g3)
  refine y_S rfl <| xN [2,3,4] [3] rfl <| A9 <| C2 (D5 rfl rfl (G0 rfl rfl (by simp) (by rfl) (D5 rfl rfl (C7 B5)))) ?_
  rw [hnn, ← hwo]
  simp_all
  try rfl
 refine gF rfl rfl <| gF rfl rfl <| F7 rfl (by assumption) rfl rfl <| y_S rfl ?_
 (refine B1 rfl rfl (fun _ => rfl) ?_; intro g3)
 refine y_S rfl <| xN [2,3,4] [3] rfl <| A9 <| C2 (D5 rfl rfl (G0 rfl rfl (by simp) (by rfl) (D5 rfl rfl (C7 B5)))) ?_
 rw [hnn, ← hwo]
 simp_all
 try rfl

theorem a9m : E7 Tryz.f133 = [0, 2, 3, 4, 15, 7, 26, 6, 5, 35, 34, 36, 9, 12, 44, 8, 10, 11, 39, 50] := by kernel_rfl
theorem b0a (ws : List W8) (hws : ws.length ≤ 1048600 ∧ ∀ w ∈ ws, w.length ≤ 1048576) : CW (cxT oG) 133 [.list (ws.map tV)] = some (rtR (rdT ws), []) := by
 obtain ⟨kk, hkk⟩ : ∃ kk : Nat, ws.length < kk := ⟨_, Nat.lt_succ_self _⟩
 revert ws
 induction kk with
 | zero => intro ws hws hkk; exact absurd hkk (Nat.not_lt_zero _)
 | succ kk ih =>
  intro ws hws hkk
  refine E4 rfl Tryz.func133 rfl ⟨by kernel_rfl, rfl, dT rfl, dT rfl, by decide⟩ a9m <| A3 <| A0 <| y_A rfl (fun _ => rfl) ?_
  intro g2
  (refine B1 rfl rfl (fun _ => rfl) ?_; intro g3)
  refine y_S rfl <| xN [0,2] [2] rfl <| A3 <| A3 <| A0 <| y_M rfl <| B9 rfl rfl <| O2 rfl rfl <| xN [0,2,15] [2] rfl ?_
  refine A5 rfl ?_ ?_ <;> intro hc <;> try simp only [SL] at hc
  ·have hw0 : ws = [] := List.length_eq_zero_iff.1 (by simpa using hc)
   subst hw0
   refine A3 <| A0 <| H8 (fs := [_, _, _]) rfl rfl rfl rfl rfl <| xB rfl rfl rfl rfl rfl rfl rfl rfl rfl ?_
   (refine B1 rfl rfl (fun _ => rfl) ?_; intro g3)
   refine y_S rfl <| xN [2,3,4] [2,3] rfl <| A9 <| C2 (E9 rfl rfl rfl rfl (E3 rfl (H1 rfl (H1 rfl G6))) (G0 rfl rfl (by simp) (by rfl) (D5 rfl rfl (C7 B5)))) ?_
   rfl
  obtain ⟨w, ws1, rfl⟩ : ∃ w ws1, ws = w :: ws1 := List.exists_cons_of_ne_nil (fun e => by subst e; simp at hc)
  have hw := hws.2 w (by simp)
  refine A6 <| A3 <| A0 <| y_M rfl <| B8 rfl rfl rfl (fun _ => rfl) (by (change 0 < _; omega)) <| y_I rfl ?_
  rcases d1o w with ⟨ns, hns⟩ | ⟨hnn, hn⟩ | ⟨hnn, hn⟩ | ⟨hnn, hn⟩ | ⟨hnn, hn⟩
  ·skip
   apply xC rfl
   ·apply A8
    ·exact B7 rfl
    exact C3
   ·exact (show CW (cxT oG) 63 [tV w] = some (.tup [tV lW, .own 1 (ns.map iV), bV true], []) from by have hi := a1o (oG := oG) w (by omega); rw [hns] at hi; exact hi)
   refine ⟨⟨rfl, rfl, rfl, dT rfl, rfl⟩, .inr ⟨by simp [hasList, F6], rfl⟩, B3, G5 (I0 rfl (L1 fun _ => I0 rfl L0)), fun _ => C1 (B2 (A7 fun _ => rfl)) (by rfl), fun g21 => ?_⟩
   try simp only [List.length_map]
   refine y_M rfl <| y_E rfl <| y_E rfl <| y_E rfl <| y_S rfl ?_
   (refine xO rfl rfl (by simp) rfl (fun _ => rfl) (fun _ => rfl) ?_; intro g6)
   refine y_S rfl <| xN [0,2,5,6,7] [2,6] rfl <| A3 <| A3 <| A0 <| y_M rfl <| J9 rfl <| xN [0,2,5,6,26] [2,6] rfl ?_
   refine A5 rfl (fun hc => absurd hc (by decide)) (fun hc => ?_)
   refine A6 <| A3 <| A0 <| y_M rfl <| y_M rfl <| H8 (fs := [_, _, _]) rfl rfl rfl rfl rfl <| y_M rfl <| N2 rfl rfl rfl (Mv.sized_map fun _ => rfl) H6 (G7 (n := 1) rfl) (by simp) ?_
   rw [show ((List.map tV (w :: ws1)).drop 1).take ((List.map tV (w :: ws1)).length - 1) = ws1.map tV from by rw [List.map_cons, List.drop_succ_cons, List.drop_zero, List.take_of_length_le (by simp)]]
   refine y_A rfl (fun _ => rfl) ?_
   intro g8
   refine D9 rfl rfl rfl rfl (F4 rfl (L8 (by decide) (F4 rfl I7))) (fun _ => rfl) ⟨by decide, rfl, dT rfl, Nat.le_refl _⟩ (fun _ => rfl) (fun _ => rfl) (fun _ => (by rfl)) ?_
   intro z
   simp only [I6, List.cons_append, List.nil_append]
   refine y_S rfl ?_
   refine J7 ⟨fun _ => ⟨by (simp only [a0h, List.nil_append, List.append_nil, List.map_cons, List.map_nil, List.cons_append]; decide +kernel), by decide +kernel⟩, [(.t 2, _), (.t 5, _), (.t 8, _), (.t 9, _), (.h 2, _), (.h 8, _), (.h 6, _)], ⟨rfl, rfl, rfl, rfl, rfl, rfl, rfl, rfl, rfl, rfl, rfl, rfl, rfl, rfl, trivial⟩, ?_⟩
   refine A3 <| A3 <| A0 <| y_M rfl ?_
   refine xC1 rfl rfl (a7x (bA lW)) ⟨rfl, rfl, rfl⟩ rfl rfl fun g34 => ?_
   rw [show nd (bA lW) = 0 from d5l rfl]
   refine y_M rfl <| xN [2,8,9,34,35] [2,8,6] rfl <| B0 <| F9 <| A3 <| A0 <| F8 rfl rfl <| xN [2,8,9,34,35,36] [2,8,6] rfl <| A3 ?_
   refine A5 rfl (fun hc => absurd hc (by decide)) (fun hc => ?_)
   refine D8 <| A3 <| A0 <| y_B rfl <| y_M rfl <| D9 rfl rfl rfl rfl (F4 rfl (L8 (by decide) (F4 rfl I7))) (fun _ => rfl) ⟨by decide, rfl, dT rfl, Nat.le_refl _⟩ (fun _ => rfl) (fun _ => rfl) (fun _ => (by rfl)) ?_
   intro z
   simp only [I6, List.cons_append, List.nil_append]
   refine y_S rfl <| y_S rfl <| xN [2,3,4] [2,6] rfl <| A9 <| C2 (E9 rfl rfl rfl rfl (E3 rfl (J5 rfl rfl (by simp) (fun _ => rfl) (H1 rfl G6))) (D5 rfl rfl (D5 rfl rfl (C7 B5)))) ?_
   rw [c0z hns]
   rfl
  ·skip
   apply xC rfl
   ·apply A8
    ·exact B7 rfl
    exact C3
   ·exact (show CW (cxT oG) 63 [tV w] = some (.tup [tV w, .own 1 [], bV true], []) from by have hi := a1o (oG := oG) w (by omega); rw [hnn] at hi; rw [show decide (0 ≤ rch (bA w)) = true from decide_eq_true (by omega)] at hi; exact hi)
   refine ⟨⟨rfl, rfl, rfl, dT rfl, rfl⟩, .inr ⟨rfl, rfl⟩, B3, G5 (I0 rfl (L1 fun _ => I0 rfl L0)), fun _ => C1 (B2 rfl) (by rfl), fun g21 => ?_⟩
   try simp only [List.length_map]
   refine y_M rfl <| y_E rfl <| y_E rfl <| y_E rfl <| y_S rfl ?_
   (refine H9 rfl rfl (by (simp; done)) rfl (fun _ => (B2 (by rfl))) (fun _ => rfl) ?_; intro g6)
   refine y_S rfl <| xN [0,2,5,6,7] [2,6] rfl <| A3 <| A3 <| A0 <| y_M rfl <| J9 rfl <| xN [0,2,5,6,26] [2,6] rfl ?_
   refine A5 rfl (fun hc => absurd hc (by decide)) (fun hc => ?_)
   refine A6 <| A3 <| A0 <| y_M rfl <| y_M rfl <| H8 (fs := [_, _, _]) rfl rfl rfl rfl rfl <| y_M rfl <| N2 rfl rfl rfl (Mv.sized_map fun _ => rfl) H6 (G7 (n := 1) rfl) (by simp) ?_
   rw [show ((List.map tV (w :: ws1)).drop 1).take ((List.map tV (w :: ws1)).length - 1) = ws1.map tV from by rw [List.map_cons, List.drop_succ_cons, List.drop_zero, List.take_of_length_le (by simp)]]
   refine y_A rfl (fun _ => rfl) ?_
   intro g8
   refine D9 rfl rfl rfl rfl (F4 rfl (L8 (by decide) (F4 rfl I7))) (fun _ => rfl) ⟨by decide, rfl, dT rfl, Nat.le_refl _⟩ (fun _ => rfl) (fun _ => rfl) (fun _ => (by rfl)) ?_
   intro z
   simp only [I6, List.cons_append, List.nil_append]
   refine y_S rfl ?_
   refine J7 ⟨fun _ => ⟨by (simp only [a0h, List.nil_append, List.append_nil, List.map_cons, List.map_nil, List.cons_append]; decide +kernel), by decide +kernel⟩, [(.t 2, _), (.t 5, _), (.t 8, _), (.t 9, _), (.h 2, _), (.h 8, _), (.h 6, _)], ⟨rfl, rfl, rfl, rfl, rfl, rfl, rfl, rfl, rfl, rfl, rfl, rfl, rfl, rfl, trivial⟩, ?_⟩
   refine A3 <| A3 <| A0 <| y_M rfl ?_
   refine xC1 rfl rfl (a7x (bA w)) ⟨rfl, rfl, rfl⟩ rfl rfl fun g34 => ?_
   rw [show nd (bA w) = 0 from (T3 (by omega)).trans hn]
   refine y_M rfl <| xN [2,8,9,34,35] [2,8,6] rfl <| B0 <| F9 <| A3 <| A0 <| F8 rfl rfl <| xN [2,8,9,34,35,36] [2,8,6] rfl <| A3 ?_
   refine A5 rfl (fun hc => absurd hc (by decide)) (fun hc => ?_)
   refine D8 <| A3 <| A0 <| y_B rfl <| y_M rfl <| D9 rfl rfl rfl rfl (F4 rfl (L8 (by decide) (F4 rfl I7))) (fun _ => rfl) ⟨by decide, rfl, dT rfl, Nat.le_refl _⟩ (fun _ => rfl) (fun _ => rfl) (fun _ => (by rfl)) ?_
   intro z
   simp only [I6, List.cons_append, List.nil_append]
   refine y_S rfl <| y_S rfl <| xN [2,3,4] [2,6] rfl <| A9 <| C2 (E9 rfl rfl rfl rfl (E3 rfl (b8o rfl rfl rfl (H1 rfl G6))) (D5 rfl rfl (D5 rfl rfl (C7 B5)))) ?_
   rw [c8c hnn hn]
   rfl
  ·skip
   apply xC rfl
   ·apply A8
    ·exact B7 rfl
    exact C3
   ·exact (show CW (cxT oG) 63 [tV w] = some (.tup [tV w, .own 1 [], bV true], []) from by have hi := a1o (oG := oG) w (by omega); rw [hnn] at hi; rw [show decide (0 ≤ rch (bA w)) = true from decide_eq_true (by omega)] at hi; exact hi)
   refine ⟨⟨rfl, rfl, rfl, dT rfl, rfl⟩, .inr ⟨rfl, rfl⟩, B3, G5 (I0 rfl (L1 fun _ => I0 rfl L0)), fun _ => C1 (B2 rfl) (by rfl), fun g21 => ?_⟩
   try simp only [List.length_map]
   refine y_M rfl <| y_E rfl <| y_E rfl <| y_E rfl <| y_S rfl ?_
   (refine H9 rfl rfl (by (simp; done)) rfl (fun _ => (B2 (by rfl))) (fun _ => rfl) ?_; intro g6)
   refine y_S rfl <| xN [0,2,5,6,7] [2,6] rfl <| A3 <| A3 <| A0 <| y_M rfl <| J9 rfl <| xN [0,2,5,6,26] [2,6] rfl ?_
   refine A5 rfl (fun hc => absurd hc (by decide)) (fun hc => ?_)
   refine A6 <| A3 <| A0 <| y_M rfl <| y_M rfl <| H8 (fs := [_, _, _]) rfl rfl rfl rfl rfl <| y_M rfl <| N2 rfl rfl rfl (Mv.sized_map fun _ => rfl) H6 (G7 (n := 1) rfl) (by simp) ?_
   rw [show ((List.map tV (w :: ws1)).drop 1).take ((List.map tV (w :: ws1)).length - 1) = ws1.map tV from by rw [List.map_cons, List.drop_succ_cons, List.drop_zero, List.take_of_length_le (by simp)]]
   refine y_A rfl (fun _ => rfl) ?_
   intro g8
   refine D9 rfl rfl rfl rfl (F4 rfl (L8 (by decide) (F4 rfl I7))) (fun _ => rfl) ⟨by decide, rfl, dT rfl, Nat.le_refl _⟩ (fun _ => rfl) (fun _ => rfl) (fun _ => (by rfl)) ?_
   intro z
   simp only [I6, List.cons_append, List.nil_append]
   refine y_S rfl ?_
   refine J7 ⟨fun _ => ⟨by (simp only [a0h, List.nil_append, List.append_nil, List.map_cons, List.map_nil, List.cons_append]; decide +kernel), by decide +kernel⟩, [(.t 2, _), (.t 5, _), (.t 8, _), (.t 9, _), (.h 2, _), (.h 8, _), (.h 6, _)], ⟨rfl, rfl, rfl, rfl, rfl, rfl, rfl, rfl, rfl, rfl, rfl, rfl, rfl, rfl, trivial⟩, ?_⟩
   refine A3 <| A3 <| A0 <| y_M rfl ?_
   refine xC1 rfl rfl (a7x (bA w)) ⟨rfl, rfl, rfl⟩ rfl rfl fun g34 => ?_
   rw [show nd (bA w) = 1 from (T3 (by omega)).trans hn]
   refine y_M rfl <| xN [2,8,9,34,35] [2,8,6] rfl <| B0 <| F9 <| A3 <| A0 <| F8 rfl rfl <| xN [2,8,9,34,35,36] [2,8,6] rfl <| A3 ?_
   refine A5 rfl (fun hc => ?_) (fun hc => absurd hc (by decide))
   refine A6 <| A3 <| B0 <| A3 <| A0 <| y_M rfl ?_
   rcases hr1 : rdT ws1 with _ | ⟨k1, r1⟩
   ·skip
    apply xC rfl
    ·apply A8
     ·exact B7 rfl
     exact C3
    ·exact (by have hi := ih ws1 ⟨by simp only [List.length_cons] at hws; omega, fun x hx => hws.2 x (List.mem_cons_of_mem _ hx)⟩ (by simp only [List.length_cons] at hkk; omega); rw [hr1] at hi; exact hi)
    refine ⟨⟨rfl, rfl, rfl, dT rfl, rfl⟩, .inl rfl, B3, G5 (I0 rfl (L1 fun _ => I0 rfl L0)), fun _ => C1 (B2 rfl) (by rfl), fun g39 => ?_⟩
    refine y_M rfl <| y_E rfl <| y_E rfl <| y_E rfl <| y_A rfl (fun _ => rfl) ?_
    intro g10
    refine xB rfl rfl rfl rfl rfl rfl rfl rfl rfl ?_
    (refine H9 rfl rfl (by (simp; done)) rfl (fun _ => (B2 (by rfl))) (fun _ => rfl) ?_; intro g11)
    refine y_S rfl <| xN [2,8,10,11,12,34,35] [2,8,6,10] rfl <| A3 <| A3 <| A0 <| y_M rfl <| J9 rfl <| xN [2,8,10,11,34,35,44] [2,8,6,10] rfl ?_
    refine A5 rfl (fun hc => ?_) (fun hc => absurd hc (by decide))
    refine A3 <| A0 <| H8 (fs := [_, _, _]) rfl rfl rfl rfl rfl <| xB rfl rfl rfl rfl rfl rfl rfl rfl rfl ?_
    (refine B1 rfl rfl (fun _ => rfl) ?_; intro g3)
    refine y_S rfl <| xN [2,3,4] [2,3] rfl <| A9 <| C2 (E9 rfl rfl rfl rfl (E3 rfl (H1 rfl (H1 rfl G6))) (G0 rfl rfl (by simp) (by rfl) (D5 rfl rfl (C7 B5)))) ?_
    rw [b8m hnn hn, hr1]
    rfl
   skip
   apply xC rfl
   ·apply A8
    ·exact B7 rfl
    exact C3
   ·exact (by have hi := ih ws1 ⟨by simp only [List.length_cons] at hws; omega, fun x hx => hws.2 x (List.mem_cons_of_mem _ hx)⟩ (by simp only [List.length_cons] at hkk; omega); rw [hr1] at hi; exact hi)
   refine ⟨⟨rfl, rfl, rfl, dT rfl, rfl⟩, .inl rfl, B3, K1 rfl, fun _ => rfl, fun g39 => ?_⟩
   refine y_M rfl <| y_E rfl <| y_E rfl <| y_E rfl <| y_A rfl (fun _ => rfl) ?_
   intro g10
   refine xB rfl rfl rfl rfl rfl rfl rfl rfl rfl <| y_S rfl <| y_S rfl <| xN [2,8,10,11,12,34,35] [2,8,6,10] rfl <| A3 <| A3 <| A0 <| y_M rfl <| J9 rfl <| xN [2,8,10,11,34,35,44] [2,8,6,10] rfl ?_
   refine A5 rfl (fun hc => absurd hc (by decide)) (fun hc => ?_)
   refine A6 <| A3 <| A0 <| y_F rfl <| y_L rfl <| y_B rfl <| B6 (es := List.map trV [_]) rfl rfl (dT rfl) rfl rfl (fun _ => B2 (A7 fun _ => rfl)) (fun _ => rfl) ?_
   intro g49
   refine Q4 rfl rfl rfl (by simp) (by decide) rfl rfl rfl (dT rfl) (fun _ => ⟨rfl, rfl⟩) (by simp only [H2]; (simp only [List.length_nil, List.length_cons, List.length_append, Nat.zero_add, List.length_map]; omega)) (fun _ => rfl) ?_
   intro g50
   refine y_F rfl <| L9 rfl rfl rfl rfl rfl (Nat.le_refl _) rfl <| xN [2,8,11,34,35] [2,8,6,1000050] rfl <| A0 <| y_M rfl <| y_S rfl <| xN [2,8,9,34,35] [2,8,6,1000050] rfl <| A0 <| E6 rfl rfl (C4 (by omega)) <| y_M rfl <| xN [2,8,9,34,35] [2,8,6,1000050] rfl <| F9 <| A3 <| A0 <| F8 rfl rfl <| xN [2,8,9,34,35,36] [2,8,6,1000050] rfl <| A3 ?_
   refine A5 rfl (fun hc => absurd hc (by decide)) (fun hc => ?_)
   refine D8 <| A3 <| A0 <| y_B rfl <| y_M rfl <| D9 rfl rfl rfl rfl (F4 rfl (L8 (by decide) (X1 (by decide) (by decide) rfl (by simp) fun _ => I7))) (fun _ => rfl) ⟨by decide, rfl, dT rfl, Nat.le_refl _⟩ (fun _ => rfl) (fun _ => rfl) (fun _ => C1 (by rfl) (C1 (B2 (A7 fun _ => rfl)) (by rfl))) ?_
   intro z
   simp only [I6, List.cons_append, List.nil_append]
   refine y_S rfl <| y_S rfl <| xN [2,3,4] [2,6,300002] rfl <| A9 <| C2 (E9 rfl rfl rfl rfl (E3 rfl (b8o rfl rfl rfl (J5 rfl rfl (by simp) (fun _ => rfl) G6))) (D5 rfl rfl (D5 rfl rfl (C7 B5)))) ?_
   rw [b8m hnn hn, hr1]
   rfl
  ·skip
   apply xC rfl
   ·apply A8
    ·exact B7 rfl
    exact C3
   ·exact (show CW (cxT oG) 63 [tV w] = some (.tup [tV w, .own 1 [], bV true], []) from by have hi := a1o (oG := oG) w (by omega); rw [hnn] at hi; rw [show decide (0 ≤ rch (bA w)) = true from decide_eq_true (by omega)] at hi; exact hi)
   refine ⟨⟨rfl, rfl, rfl, dT rfl, rfl⟩, .inr ⟨rfl, rfl⟩, B3, G5 (I0 rfl (L1 fun _ => I0 rfl L0)), fun _ => C1 (B2 rfl) (by rfl), fun g21 => ?_⟩
   try simp only [List.length_map]
   refine y_M rfl <| y_E rfl <| y_E rfl <| y_E rfl <| y_S rfl ?_
   (refine H9 rfl rfl (by (simp; done)) rfl (fun _ => (B2 (by rfl))) (fun _ => rfl) ?_; intro g6)
   refine y_S rfl <| xN [0,2,5,6,7] [2,6] rfl <| A3 <| A3 <| A0 <| y_M rfl <| J9 rfl <| xN [0,2,5,6,26] [2,6] rfl ?_
   refine A5 rfl (fun hc => absurd hc (by decide)) (fun hc => ?_)
   refine A6 <| A3 <| A0 <| y_M rfl <| y_M rfl <| H8 (fs := [_, _, _]) rfl rfl rfl rfl rfl <| y_M rfl <| N2 rfl rfl rfl (Mv.sized_map fun _ => rfl) H6 (G7 (n := 1) rfl) (by simp) ?_
   rw [show ((List.map tV (w :: ws1)).drop 1).take ((List.map tV (w :: ws1)).length - 1) = ws1.map tV from by rw [List.map_cons, List.drop_succ_cons, List.drop_zero, List.take_of_length_le (by simp)]]
   refine y_A rfl (fun _ => rfl) ?_
   intro g8
   refine D9 rfl rfl rfl rfl (F4 rfl (L8 (by decide) (F4 rfl I7))) (fun _ => rfl) ⟨by decide, rfl, dT rfl, Nat.le_refl _⟩ (fun _ => rfl) (fun _ => rfl) (fun _ => (by rfl)) ?_
   intro z
   simp only [I6, List.cons_append, List.nil_append]
   refine y_S rfl ?_
   refine J7 ⟨fun _ => ⟨by (simp only [a0h, List.nil_append, List.append_nil, List.map_cons, List.map_nil, List.cons_append]; decide +kernel), by decide +kernel⟩, [(.t 2, _), (.t 5, _), (.t 8, _), (.t 9, _), (.h 2, _), (.h 8, _), (.h 6, _)], ⟨rfl, rfl, rfl, rfl, rfl, rfl, rfl, rfl, rfl, rfl, rfl, rfl, rfl, rfl, trivial⟩, ?_⟩
   refine A3 <| A3 <| A0 <| y_M rfl ?_
   refine xC1 rfl rfl (a7x (bA w)) ⟨rfl, rfl, rfl⟩ rfl rfl fun g34 => ?_
   rw [show nd (bA w) = 2 from (T3 (by omega)).trans hn]
   refine y_M rfl <| xN [2,8,9,34,35] [2,8,6] rfl <| B0 <| F9 <| A3 <| A0 <| F8 rfl rfl <| xN [2,8,9,34,35,36] [2,8,6] rfl <| A3 ?_
   refine A5 rfl (fun hc => ?_) (fun hc => absurd hc (by decide))
   refine A6 <| A3 <| B0 <| A3 <| A0 <| y_M rfl ?_
   rcases hr1 : rdT ws1 with _ | ⟨k1, r1⟩
   ·skip
    apply xC rfl
    ·apply A8
     ·exact B7 rfl
     exact C3
    ·exact (by have hi := ih ws1 ⟨by simp only [List.length_cons] at hws; omega, fun x hx => hws.2 x (List.mem_cons_of_mem _ hx)⟩ (by simp only [List.length_cons] at hkk; omega); rw [hr1] at hi; exact hi)
    refine ⟨⟨rfl, rfl, rfl, dT rfl, rfl⟩, .inl rfl, B3, G5 (I0 rfl (L1 fun _ => I0 rfl L0)), fun _ => C1 (B2 rfl) (by rfl), fun g39 => ?_⟩
    refine y_M rfl <| y_E rfl <| y_E rfl <| y_E rfl <| y_A rfl (fun _ => rfl) ?_
    intro g10
    refine xB rfl rfl rfl rfl rfl rfl rfl rfl rfl ?_
    (refine H9 rfl rfl (by (simp; done)) rfl (fun _ => (B2 (by rfl))) (fun _ => rfl) ?_; intro g11)
    refine y_S rfl <| xN [2,8,10,11,12,34,35] [2,8,6,10] rfl <| A3 <| A3 <| A0 <| y_M rfl <| J9 rfl <| xN [2,8,10,11,34,35,44] [2,8,6,10] rfl ?_
    refine A5 rfl (fun hc => ?_) (fun hc => absurd hc (by decide))
    refine A3 <| A0 <| H8 (fs := [_, _, _]) rfl rfl rfl rfl rfl <| xB rfl rfl rfl rfl rfl rfl rfl rfl rfl ?_
    (refine B1 rfl rfl (fun _ => rfl) ?_; intro g3)
    refine y_S rfl <| xN [2,3,4] [2,3] rfl <| A9 <| C2 (E9 rfl rfl rfl rfl (E3 rfl (H1 rfl (H1 rfl G6))) (G0 rfl rfl (by simp) (by rfl) (D5 rfl rfl (C7 B5)))) ?_
    rw [a5n hnn hn, hr1]
    rfl
   skip
   apply xC rfl
   ·apply A8
    ·exact B7 rfl
    exact C3
   ·exact (by have hi := ih ws1 ⟨by simp only [List.length_cons] at hws; omega, fun x hx => hws.2 x (List.mem_cons_of_mem _ hx)⟩ (by simp only [List.length_cons] at hkk; omega); rw [hr1] at hi; exact hi)
   refine ⟨⟨rfl, rfl, rfl, dT rfl, rfl⟩, .inl rfl, B3, K1 rfl, fun _ => rfl, fun g39 => ?_⟩
   refine y_M rfl <| y_E rfl <| y_E rfl <| y_E rfl <| y_A rfl (fun _ => rfl) ?_
   intro g10
   refine xB rfl rfl rfl rfl rfl rfl rfl rfl rfl <| y_S rfl <| y_S rfl <| xN [2,8,10,11,12,34,35] [2,8,6,10] rfl <| A3 <| A3 <| A0 <| y_M rfl <| J9 rfl <| xN [2,8,10,11,34,35,44] [2,8,6,10] rfl ?_
   refine A5 rfl (fun hc => absurd hc (by decide)) (fun hc => ?_)
   refine A6 <| A3 <| A0 <| y_F rfl <| y_L rfl <| y_B rfl <| B6 (es := List.map trV [_]) rfl rfl (dT rfl) rfl rfl (fun _ => B2 (A7 fun _ => rfl)) (fun _ => rfl) ?_
   intro g49
   refine Q4 rfl rfl rfl (by simp) (by decide) rfl rfl rfl (dT rfl) (fun _ => ⟨rfl, rfl⟩) (by simp only [H2]; (simp only [List.length_nil, List.length_cons, List.length_append, Nat.zero_add, List.length_map]; omega)) (fun _ => rfl) ?_
   intro g50
   refine y_F rfl <| L9 rfl rfl rfl rfl rfl (Nat.le_refl _) rfl <| xN [2,8,11,34,35] [2,8,6,1000050] rfl <| A0 <| y_M rfl <| y_S rfl <| xN [2,8,9,34,35] [2,8,6,1000050] rfl <| A0 <| E6 rfl rfl (C4 (by omega)) <| y_M rfl <| xN [2,8,9,34,35] [2,8,6,1000050] rfl <| F9 <| A3 <| A0 <| F8 rfl rfl <| xN [2,8,9,34,35,36] [2,8,6,1000050] rfl <| A3 ?_
   refine A5 rfl (fun hc => ?_) (fun hc => absurd hc (by decide))
   refine A6 <| A3 <| B0 <| A3 <| A0 <| y_M rfl ?_
   rcases hr2 : rdT r1 with _ | ⟨k2, r2⟩
   ·skip
    apply xC rfl
    ·apply A8
     ·exact B7 rfl
     exact C3
    ·exact (by have hi := ih r1 ⟨by have := a0e hr1; simp only [List.length_cons] at hws; omega, fun x hx => hws.2 x (List.mem_cons_of_mem _ (b2e hr1 x hx))⟩ (by have := a0e hr1; simp only [List.length_cons] at hkk; omega); rw [hr2] at hi; exact hi)
    refine ⟨⟨rfl, rfl, rfl, dT rfl, rfl⟩, .inl rfl, B3, G5 (I0 rfl (L1 fun _ => I0 rfl L0)), fun _ => C1 (B2 rfl) (by rfl), fun g39 => ?_⟩
    refine y_M rfl <| y_E rfl <| y_E rfl <| y_E rfl <| y_A rfl (fun _ => rfl) ?_
    intro g10
    refine xB rfl rfl rfl rfl rfl rfl rfl rfl rfl ?_
    (refine H9 rfl rfl (by (simp; done)) rfl (fun _ => (B2 (by rfl))) (fun _ => rfl) ?_; intro g11)
    refine y_S rfl <| xN [2,8,10,11,12,34,35] [2,8,6,1000050,10] rfl <| A3 <| A3 <| A0 <| y_M rfl <| J9 rfl <| xN [2,8,10,11,34,35,44] [2,8,6,1000050,10] rfl ?_
    refine A5 rfl (fun hc => ?_) (fun hc => absurd hc (by decide))
    refine A3 <| A0 <| H8 (fs := [_, _, _]) rfl rfl rfl rfl rfl <| xB rfl rfl rfl rfl rfl rfl rfl rfl rfl ?_
    (refine B1 rfl rfl (fun _ => rfl) ?_; intro g3)
    refine y_S rfl <| xN [2,3,4] [2,3] rfl <| A9 <| C2 (E9 rfl rfl rfl rfl (E3 rfl (H1 rfl (H1 rfl G6))) (G0 rfl rfl (by simp) (by rfl) (D5 rfl rfl (C7 B5)))) ?_
    rw [a5n hnn hn, hr1, Option.bind_some, hr2]
    rfl
   skip
   apply xC rfl
   ·apply A8
    ·exact B7 rfl
    exact C3
   ·exact (by have hi := ih r1 ⟨by have := a0e hr1; simp only [List.length_cons] at hws; omega, fun x hx => hws.2 x (List.mem_cons_of_mem _ (b2e hr1 x hx))⟩ (by have := a0e hr1; simp only [List.length_cons] at hkk; omega); rw [hr2] at hi; exact hi)
   refine ⟨⟨rfl, rfl, rfl, dT rfl, rfl⟩, .inl rfl, B3, K1 rfl, fun _ => rfl, fun g39 => ?_⟩
   refine y_M rfl <| y_E rfl <| y_E rfl <| y_E rfl <| y_A rfl (fun _ => rfl) ?_
   intro g10
   refine xB rfl rfl rfl rfl rfl rfl rfl rfl rfl <| y_S rfl <| y_S rfl <| xN [2,8,10,11,12,34,35] [2,8,6,1000050,10] rfl <| A3 <| A3 <| A0 <| y_M rfl <| J9 rfl <| xN [2,8,10,11,34,35,44] [2,8,6,1000050,10] rfl ?_
   refine A5 rfl (fun hc => absurd hc (by decide)) (fun hc => ?_)
   refine A6 <| A3 <| A0 <| y_F rfl <| y_L rfl <| y_B rfl <| B6 (es := List.map trV [_]) rfl rfl (dT rfl) rfl rfl (fun _ => B2 (A7 fun _ => rfl)) (fun _ => rfl) ?_
   intro g49
   refine xA rfl rfl rfl rfl (by simp) (by simp) rfl rfl rfl rfl rfl (fun _ => rfl) (by simp only [LN]; omega) (fun _ => rfl) ?_
   intro g50
   refine y_F rfl <| L9 rfl rfl rfl rfl rfl (Nat.le_refl _) rfl <| xN [2,8,11,34,35] [2,8,6,1000050] rfl <| A0 <| y_M rfl <| y_S rfl <| xN [2,8,9,34,35] [2,8,6,1000050] rfl <| A0 <| E6 rfl rfl (C4 (by omega)) <| y_M rfl <| xN [2,8,9,34,35] [2,8,6,1000050] rfl <| F9 <| A3 <| A0 <| F8 rfl rfl <| xN [2,8,9,34,35,36] [2,8,6,1000050] rfl <| A3 ?_
   refine A5 rfl (fun hc => absurd hc (by decide)) (fun hc => ?_)
   refine D8 <| A3 <| A0 <| y_B rfl <| y_M rfl <| D9 rfl rfl rfl rfl (F4 rfl (L8 (by decide) (X1 (by decide) (by decide) rfl (by simp) fun _ => I7))) (fun _ => rfl) ⟨by decide, rfl, dT rfl, Nat.le_refl _⟩ (fun _ => rfl) (fun _ => rfl) (fun _ => C1 (by rfl) (C1 (B2 (A7 fun _ => rfl)) (by rfl))) ?_
   intro z
   simp only [I6, List.cons_append, List.nil_append]
   refine y_S rfl <| y_S rfl <| xN [2,3,4] [2,6,300002] rfl <| A9 <| C2 (E9 rfl rfl rfl rfl (E3 rfl (b8o rfl rfl rfl (J5 rfl rfl (by simp) (fun _ => rfl) G6))) (D5 rfl rfl (D5 rfl rfl (C7 B5)))) ?_
   rw [a5n hnn hn, hr1, Option.bind_some, hr2]
   rfl
  skip
  apply xC rfl
  ·apply A8
   ·exact B7 rfl
   exact C3
  ·exact (show CW (cxT oG) 63 [tV w] = some (.tup [tV w, .own 1 [], bV false], []) from by have hi := a1o (oG := oG) w (by omega); rw [hnn] at hi; rw [show decide (0 ≤ rch (bA w)) = false from decide_eq_false (by omega)] at hi; exact hi)
  refine ⟨⟨rfl, rfl, rfl, dT rfl, rfl⟩, .inr ⟨rfl, rfl⟩, B3, G5 (I0 rfl (L1 fun _ => I0 rfl L0)), fun _ => C1 (B2 rfl) (by rfl), fun g21 => ?_⟩
  try simp only [List.length_map]
  refine y_M rfl <| y_E rfl <| y_E rfl <| y_E rfl <| y_S rfl ?_
  (refine H9 rfl rfl (by (simp; done)) rfl (fun _ => (B2 (by rfl))) (fun _ => rfl) ?_; intro g6)
  refine y_S rfl <| xN [0,2,5,6,7] [2,6] rfl <| A3 <| A3 <| A0 <| y_M rfl <| J9 rfl <| xN [0,2,5,6,26] [2,6] rfl ?_
  refine A5 rfl (fun hc => ?_) (fun hc => absurd hc (by decide))
  refine A3 <| A0 <| H8 (fs := [_, _, _]) rfl rfl rfl rfl rfl <| xB rfl rfl rfl rfl rfl rfl rfl rfl rfl ?_
  (refine B1 rfl rfl (fun _ => rfl) ?_; intro g3)
  refine y_S rfl <| xN [2,3,4] [2,3] rfl <| A9 <| C2 (E9 rfl rfl rfl rfl (E3 rfl (H1 rfl (H1 rfl G6))) (G0 rfl rfl (by simp) (by rfl) (D5 rfl rfl (C7 B5)))) ?_
  rw [c8b hnn hn]
  rfl

theorem a9n : E7 Tryz.f97 = [0, 2, 3, 4, 6, 7, 5, 12] := by kernel_rfl
theorem b0r (s : List UInt8) (hs : s.length ≤ 1048576) : CW (cxT oG) 97 [tV s] = some (.tup [trV (ipT s), bV (c2l s)], []) := by
 obtain ⟨ws, hws⟩ : ∃ ws, ws = splitB 32 s := ⟨_, rfl⟩
 have hwl := U0 32 s
 have hwp := a0g 32 s
 rw [← hws] at hwl hwp
 refine E4 rfl Tryz.func97 rfl ⟨by kernel_rfl, rfl, dT rfl, dT rfl, by decide⟩ a9n <| A3 <| A0 <| y_A rfl (fun _ => rfl) ?_
 intro g2
 refine y_S rfl <| xN [0,2] [2] rfl <| A3 <| A0 <| y_M rfl ?_
 apply xC rfl
 ·apply A8
  ·exact B7 rfl
  apply A8
  ·exact B7 rfl
  exact C3
 ·exact c7g s 32 (by omega)
 refine ⟨⟨rfl, rfl, rfl, dT rfl, rfl⟩, .inl rfl, B3, M9, fun _ => rfl, fun g9 => ?_⟩
 rw [← hws]
 try simp only [List.length_map]
 (refine xO rfl rfl (by simp) rfl (fun _ => rfl) (fun _ => rfl) ?_; intro g4)
 refine xN [2,4] [2,4] rfl <| A3 <| A0 <| y_M rfl ?_
 rcases hr : rdT ws with _ | ⟨t, r⟩
 ·skip
  apply xC rfl
  ·apply A8
   ·exact J2 rfl rfl (by (simp; done)) (fun _ => rfl)
   exact C3
  ·exact (by have hi := b0a (oG := oG) ws ⟨by omega, fun w hw => by have := hwp w hw; omega⟩; rw [hr] at hi; exact hi)
  refine ⟨⟨rfl, rfl, rfl, dT rfl, rfl⟩, .inl rfl, B3, G5 (I0 rfl (L1 fun _ => I0 rfl L0)), fun _ => C1 (a5y (A7 fun _ => rfl) (by decide)) (by rfl), fun g12 => ?_⟩
  refine y_M rfl <| y_E rfl <| y_E rfl <| y_E rfl <| y_A rfl (fun _ => rfl) ?_
  intro g5
  refine xB rfl rfl rfl rfl rfl rfl rfl rfl rfl ?_
  (refine H9 rfl rfl (by (simp; done)) rfl (fun _ => (B2 (by rfl))) (fun _ => rfl) ?_; intro g6)
  refine y_S rfl <| xN [2,4,5,6,7] [2,4,5] rfl <| A3 <| A0 <| y_B rfl <| y_M rfl <| y_M rfl <| H0 rfl rfl rfl <| H0 rfl rfl rfl <| H0 rfl rfl rfl <| F7 rfl rfl rfl rfl <| y_M rfl <| H0 rfl rfl rfl <| H0 rfl rfl rfl <| H0 rfl rfl rfl <| F7 rfl rfl rfl rfl <| xB rfl rfl rfl rfl rfl rfl rfl rfl rfl <| y_S rfl <| xN [2,3] [2] rfl <| A9 <| C2 (E9 rfl rfl rfl rfl (E3 rfl (E3 rfl (E3 rfl G6))) (D5 rfl rfl (C7 B5))) ?_
  obtain ⟨h1, h2⟩ := d5c hws hr
  rw [h1, h2]
  rfl
 skip
 apply xC rfl
 ·apply A8
  ·exact J2 rfl rfl (by (simp; done)) (fun _ => rfl)
  exact C3
 ·exact (by have hi := b0a (oG := oG) ws ⟨by omega, fun w hw => by have := hwp w hw; omega⟩; rw [hr] at hi; exact hi)
 refine ⟨⟨rfl, rfl, rfl, dT rfl, rfl⟩, .inl rfl, B3, K1 rfl, fun _ => C1 (a5y (A7 fun _ => rfl) (by decide)) (by rfl), fun g12 => ?_⟩
 refine y_M rfl <| y_E rfl <| y_E rfl <| y_E rfl <| y_A rfl (fun _ => rfl) ?_
 intro g5
 refine xB rfl rfl rfl rfl rfl rfl rfl rfl rfl <| y_S rfl <| y_S rfl <| xN [2,4,5,6,7] [2,4,5] rfl <| A3 <| A0 <| y_B rfl <| y_M rfl <| y_M rfl <| I9 rfl rfl rfl <| y_M rfl <| I9 rfl rfl rfl <| B9 rfl rfl <| I9 rfl rfl rfl <| O2 rfl rfl <| E8 rfl rfl rfl rfl <| y_M rfl ?_
 refine C5 rfl rfl ?_ ?_ <;> intro hg0 <;> have hg := hg0 <;> try simp only [SG] at hg
 ·refine y_M rfl <| gT rfl rfl <| M3 rfl rfl <| gT rfl rfl <| a5h rfl rfl <| E8 rfl (by assumption) rfl rfl <| xB rfl rfl rfl rfl rfl rfl rfl rfl rfl <| y_S rfl <| xN [2,3] [2] rfl <| A9 <| C2 (E9 rfl rfl rfl rfl (E3 rfl (E3 rfl (E3 rfl G6))) (D5 rfl rfl (C7 B5))) ?_
  obtain ⟨h1, h2⟩ := b9i hws hr
  rw [h1, h2]
  simp_all
  try rfl
 refine gF rfl rfl <| gF rfl rfl <| F7 rfl (by assumption) rfl rfl <| xB rfl rfl rfl rfl rfl rfl rfl rfl rfl <| y_S rfl <| xN [2,3] [2] rfl <| A9 <| C2 (E9 rfl rfl rfl rfl (E3 rfl (E3 rfl (E3 rfl G6))) (D5 rfl rfl (C7 B5))) ?_
 obtain ⟨h1, h2⟩ := b9i hws hr
 rw [h1, h2]
 simp_all
 try rfl

theorem a9r : E7 Tryz.f57 = [0, 2, 3, 5, 4, 8] := by kernel_rfl
theorem a4f (s : List UInt8) (hs : s.length ≤ 1048576) : CW (cxT oG) 57 [tV s] = some (.tup [trV (ipT s), bV (rdPlan s).isSome], []) := by
 have hip := d7o s
 refine E4 rfl Tryz.func57 rfl ⟨by kernel_rfl, rfl, dT rfl, dT rfl, by decide⟩ a9r <| A3 <| A0 <| y_A rfl (fun _ => rfl) ?_
 intro g2
 refine y_S rfl <| xN [0,2] [2] rfl <| A3 <| A0 <| y_M rfl ?_
 apply xC rfl
 ·apply A8
  ·exact B7 rfl
  exact C3
 ·exact b0r s hs
 refine ⟨⟨rfl, rfl, rfl, dT rfl, rfl⟩, .inl rfl, B3, K1 rfl, fun _ => rfl, fun g8 => ?_⟩
 refine y_M rfl <| y_E rfl <| y_E rfl <| y_A rfl (fun _ => rfl) ?_
 intro g4
 refine xB rfl rfl rfl rfl rfl rfl rfl rfl rfl <| y_S rfl <| xN [0,2,4,5] [2,4] rfl <| A3 <| A0 <| y_B rfl <| y_M rfl <| y_M rfl ?_
 refine C5 rfl rfl ?_ ?_ <;> intro hg0 <;> have hg := hg0 <;> try simp only [SG] at hg
 ·refine y_M rfl <| gT rfl rfl <| a1n rfl rfl <| gT rfl rfl <| a5h rfl rfl <| E8 rfl (by assumption) rfl rfl <| xB rfl rfl rfl rfl rfl rfl rfl rfl rfl <| y_S rfl <| xN [2,3] [2] rfl <| A9 <| C2 (E9 rfl rfl rfl rfl (E3 rfl (E3 rfl (E3 rfl G6))) (D5 rfl rfl (C7 B5))) ?_
  rw [← hip]
  simp_all
  try rfl
 refine gF rfl rfl <| gF rfl rfl <| F7 rfl (by assumption) rfl rfl <| xB rfl rfl rfl rfl rfl rfl rfl rfl rfl <| y_S rfl <| xN [2,3] [2] rfl <| A9 <| C2 (E9 rfl rfl rfl rfl (E3 rfl (E3 rfl (E3 rfl G6))) (D5 rfl rfl (C7 B5))) ?_
 rw [← hip]
 simp_all
 try rfl

theorem a7h : E7 Tryz.f72 = [0, 2, 4, 7] := by kernel_rfl
theorem c0d (s : List UInt8) (hs : s.length ≤ 1048576) : CW (cxT oG) 72 [tV s] = some (bV (rdPlan s).isSome, []) := by
 refine E4 rfl Tryz.func72 rfl ⟨by kernel_rfl, rfl, dT rfl, dT rfl, by decide⟩ a7h <| A3 <| A0 <| y_S rfl <| xN [0] [] rfl <| A3 <| A0 <| y_M rfl ?_
 apply xC rfl
 ·apply A8
  ·exact B7 rfl
  exact C3
 ·exact a4f s hs
 refine ⟨⟨rfl, rfl, rfl, dT rfl, rfl⟩, .inl rfl, B3, K1 rfl, fun _ => rfl, fun g7 => ?_⟩
 refine y_M rfl <| y_E rfl <| y_E rfl <| y_A rfl (fun _ => rfl) ?_
 intro g3
 refine xB rfl rfl rfl rfl rfl rfl rfl rfl rfl <| y_S rfl <| xN [4] [] rfl <| A3 <| A0 <| y_M rfl <| y_S rfl <| xN [2] [] rfl <| A9 <| C0 rfl rfl trivial ?_
 rfl

theorem b9q : E7 Tryz.f81 = [0, 2, 1, 7, 8, 11, 20, 19, 21, 18, 5, 3] := by kernel_rfl
theorem d5i (t : Pl) (ht : t.sz ≤ 1000) : CW (cxT oG) 81 [trK t] = some (iV (P0 t), []) := by
 obtain ⟨kk, hkk⟩ : ∃ kk : Nat, t.sz < kk := ⟨_, Nat.lt_succ_self _⟩
 revert t
 induction kk with
 | zero => intro t ht hkk; exact absurd hkk (Nat.not_lt_zero _)
 | succ kk ih =>
  intro t ht hkk
  have hkl := b2q t
  have hpb := S0 t
  have hprb := b1b (bA t.op)
  have hkb := fun i => S0 (t.kids.getD i default)
  have hkz := fun i => a1a (t := t) (i := i)
  refine E4 rfl Tryz.func81 rfl ⟨by kernel_rfl, rfl, dT rfl, dT rfl, by decide⟩ b9q <| A3 <| A0 <| a2g rfl rfl rfl (fun _ => M2 rfl) (fun _ => rfl) ?_
  intro g1
  refine y_S rfl <| xN [1] [1] rfl <| A3 <| A0 <| y_S rfl <| xN [1,3] [1] rfl <| A3 <| A3 <| A0 <| y_F rfl <| y_L rfl <| xN [1,3,7] [1] rfl <| B0 <| A3 <| A3 <| A0 <| Q7 rfl rfl <| y_S rfl <| xN [1,3,7,8] [1] rfl ?_
  refine A5 rfl ?_ ?_ <;> intro hc <;> try simp only [SL] at hc
  ·refine A6 ?_
   refine A5 rfl (fun hc => ?_) (fun hc => absurd hc (by simp_all))
   refine A0 <| y_S rfl <| xN [1,3] [1] rfl <| A3 <| A3 <| A0 <| y_F rfl <| y_L rfl <| B9 rfl rfl <| y_M rfl <| xN [3,18,19,20] [] rfl <| B0 <| F5 (β := Nat × Int) [(.t 18, _), (.t 19, _)] (fun (z : Nat × Int) => match z with | (i, a) => [(.t 20, iV i), (.t 3, iV a)]) (fun (z : Nat × Int) => match z with | (i, a) => i ≤ t.kids.length ∧ a = Q2 t i) (fun (z : Nat × Int) => match z with | (i, a) => t.kids.length - i) (0, _) ⟨rfl, rfl, rfl, rfl, trivial⟩ ⟨Nat.zero_le _, by show _ = pr (bA t.op); simp_all [pr]⟩ ?_
   intro z hb
   obtain ⟨i, a⟩ := z
   try dsimp only at hb
   obtain ⟨hi1, ha⟩ := hb
   have hnb := Z8 hi1
   rw [← ha] at hnb
   refine A3 <| A0 <| F8 rfl rfl <| xN [3,18,19,20,21] [] rfl <| A3 ?_
   refine A5 rfl ?_ ?_ <;> intro hc <;> try simp only [SL] at hc
   ·refine A6 <| A3 <| B0 <| A3 <| A0 <| B8 rfl rfl rfl (fun _ => rfl) (by omega) <| y_I rfl <| y_A rfl (fun _ => rfl) ?_
    intro g5
    refine xB rfl rfl rfl rfl rfl rfl rfl rfl rfl <| xN [3,5,18,19,20] [5] rfl <| A0 <| y_M rfl <| y_B rfl ?_
    have h1 := hkb i
    have h2 := hkz i (by omega)
    refine xC1 rfl rfl ((by have hk2 := a1a (t := t) (i := i) (by omega); have hi := ih (t.kids.getD i default) (by omega) (by omega); rw [← P8] at hi; exact hi)) ⟨rfl, rfl, rfl⟩ rfl rfl fun g26 => ?_
    refine E6 rfl rfl (C4 (by omega)) <| y_S rfl <| xN [3,18,19,20] [] rfl <| A0 <| E6 rfl rfl (C4 (by omega)) <| y_M rfl <| xN [3,18,19,20] [] rfl ?_
    refine ⟨(i + 1, _), ⟨by omega, by rw [Q2, ← ha]⟩, (by simp only; omega), ⟨rfl, rfl, rfl, rfl, trivial⟩⟩
   refine D8 <| A3 <| A0 <| y_M rfl <| y_S rfl <| xN [2] [] rfl <| A9 <| C0 rfl rfl trivial ?_
   rw [ha, show i = t.kids.length by omega, V7]
  refine A0 <| Q7 rfl rfl <| y_S rfl <| xN [1,3,7,8] [1] rfl ?_
  refine A5 rfl ?_ ?_ <;> intro hc <;> try simp only [SL] at hc
  ·refine A0 <| y_S rfl <| xN [1,3] [1] rfl <| A3 <| A3 <| A0 <| y_F rfl <| y_L rfl <| B9 rfl rfl <| y_M rfl <| xN [3,18,19,20] [] rfl <| B0 <| F5 (β := Nat × Int) [(.t 18, _), (.t 19, _)] (fun (z : Nat × Int) => match z with | (i, a) => [(.t 20, iV i), (.t 3, iV a)]) (fun (z : Nat × Int) => match z with | (i, a) => i ≤ t.kids.length ∧ a = Q2 t i) (fun (z : Nat × Int) => match z with | (i, a) => t.kids.length - i) (0, _) ⟨rfl, rfl, rfl, rfl, trivial⟩ ⟨Nat.zero_le _, by show _ = pr (bA t.op); simp_all [pr]⟩ ?_
   intro z hb
   obtain ⟨i, a⟩ := z
   try dsimp only at hb
   obtain ⟨hi1, ha⟩ := hb
   have hnb := Z8 hi1
   rw [← ha] at hnb
   refine A3 <| A0 <| F8 rfl rfl <| xN [3,18,19,20,21] [] rfl <| A3 ?_
   refine A5 rfl ?_ ?_ <;> intro hc <;> try simp only [SL] at hc
   ·refine A6 <| A3 <| B0 <| A3 <| A0 <| B8 rfl rfl rfl (fun _ => rfl) (by omega) <| y_I rfl <| y_A rfl (fun _ => rfl) ?_
    intro g5
    refine xB rfl rfl rfl rfl rfl rfl rfl rfl rfl <| xN [3,5,18,19,20] [5] rfl <| A0 <| y_M rfl <| y_B rfl ?_
    have h1 := hkb i
    have h2 := hkz i (by omega)
    refine xC1 rfl rfl ((by have hk2 := a1a (t := t) (i := i) (by omega); have hi := ih (t.kids.getD i default) (by omega) (by omega); rw [← P8] at hi; exact hi)) ⟨rfl, rfl, rfl⟩ rfl rfl fun g26 => ?_
    refine E6 rfl rfl (C4 (by omega)) <| y_S rfl <| xN [3,18,19,20] [] rfl <| A0 <| E6 rfl rfl (C4 (by omega)) <| y_M rfl <| xN [3,18,19,20] [] rfl ?_
    refine ⟨(i + 1, _), ⟨by omega, by rw [Q2, ← ha]⟩, (by simp only; omega), ⟨rfl, rfl, rfl, rfl, trivial⟩⟩
   refine D8 <| A3 <| A0 <| y_M rfl <| y_S rfl <| xN [2] [] rfl <| A9 <| C0 rfl rfl trivial ?_
   rw [ha, show i = t.kids.length by omega, V7]
  refine A3 <| A3 <| A0 <| Q7 rfl rfl <| y_S rfl <| xN [1,3,7,11] [1] rfl ?_
  refine A5 rfl ?_ ?_ <;> intro hc <;> try simp only [SL] at hc
  ·refine A6 ?_
   refine A5 rfl (fun hc => ?_) (fun hc => absurd hc (by simp_all))
   refine A0 <| y_S rfl <| xN [1,3] [1] rfl <| A3 <| A3 <| A0 <| y_F rfl <| y_L rfl <| B9 rfl rfl <| y_M rfl <| xN [3,18,19,20] [] rfl <| B0 <| F5 (β := Nat × Int) [(.t 18, _), (.t 19, _)] (fun (z : Nat × Int) => match z with | (i, a) => [(.t 20, iV i), (.t 3, iV a)]) (fun (z : Nat × Int) => match z with | (i, a) => i ≤ t.kids.length ∧ a = Q2 t i) (fun (z : Nat × Int) => match z with | (i, a) => t.kids.length - i) (0, _) ⟨rfl, rfl, rfl, rfl, trivial⟩ ⟨Nat.zero_le _, by show _ = pr (bA t.op); simp_all [pr]⟩ ?_
   intro z hb
   obtain ⟨i, a⟩ := z
   try dsimp only at hb
   obtain ⟨hi1, ha⟩ := hb
   have hnb := Z8 hi1
   rw [← ha] at hnb
   refine A3 <| A0 <| F8 rfl rfl <| xN [3,18,19,20,21] [] rfl <| A3 ?_
   refine A5 rfl ?_ ?_ <;> intro hc <;> try simp only [SL] at hc
   ·refine A6 <| A3 <| B0 <| A3 <| A0 <| B8 rfl rfl rfl (fun _ => rfl) (by omega) <| y_I rfl <| y_A rfl (fun _ => rfl) ?_
    intro g5
    refine xB rfl rfl rfl rfl rfl rfl rfl rfl rfl <| xN [3,5,18,19,20] [5] rfl <| A0 <| y_M rfl <| y_B rfl ?_
    have h1 := hkb i
    have h2 := hkz i (by omega)
    refine xC1 rfl rfl ((by have hk2 := a1a (t := t) (i := i) (by omega); have hi := ih (t.kids.getD i default) (by omega) (by omega); rw [← P8] at hi; exact hi)) ⟨rfl, rfl, rfl⟩ rfl rfl fun g26 => ?_
    refine E6 rfl rfl (C4 (by omega)) <| y_S rfl <| xN [3,18,19,20] [] rfl <| A0 <| E6 rfl rfl (C4 (by omega)) <| y_M rfl <| xN [3,18,19,20] [] rfl ?_
    refine ⟨(i + 1, _), ⟨by omega, by rw [Q2, ← ha]⟩, (by simp only; omega), ⟨rfl, rfl, rfl, rfl, trivial⟩⟩
   refine D8 <| A3 <| A0 <| y_M rfl <| y_S rfl <| xN [2] [] rfl <| A9 <| C0 rfl rfl trivial ?_
   rw [ha, show i = t.kids.length by omega, V7]
  refine A3 <| A0 <| Q7 rfl rfl <| y_S rfl <| xN [1,3,7,11] [1] rfl ?_
  refine A5 rfl ?_ ?_ <;> intro hc <;> try simp only [SL] at hc
  ·refine A6 ?_
   refine A5 rfl (fun hc => ?_) (fun hc => absurd hc (by simp_all))
   refine A0 <| y_S rfl <| xN [1,3] [1] rfl <| A3 <| A3 <| A0 <| y_F rfl <| y_L rfl <| B9 rfl rfl <| y_M rfl <| xN [3,18,19,20] [] rfl <| B0 <| F5 (β := Nat × Int) [(.t 18, _), (.t 19, _)] (fun (z : Nat × Int) => match z with | (i, a) => [(.t 20, iV i), (.t 3, iV a)]) (fun (z : Nat × Int) => match z with | (i, a) => i ≤ t.kids.length ∧ a = Q2 t i) (fun (z : Nat × Int) => match z with | (i, a) => t.kids.length - i) (0, _) ⟨rfl, rfl, rfl, rfl, trivial⟩ ⟨Nat.zero_le _, by show _ = pr (bA t.op); simp_all [pr]⟩ ?_
   intro z hb
   obtain ⟨i, a⟩ := z
   try dsimp only at hb
   obtain ⟨hi1, ha⟩ := hb
   have hnb := Z8 hi1
   rw [← ha] at hnb
   refine A3 <| A0 <| F8 rfl rfl <| xN [3,18,19,20,21] [] rfl <| A3 ?_
   refine A5 rfl ?_ ?_ <;> intro hc <;> try simp only [SL] at hc
   ·refine A6 <| A3 <| B0 <| A3 <| A0 <| B8 rfl rfl rfl (fun _ => rfl) (by omega) <| y_I rfl <| y_A rfl (fun _ => rfl) ?_
    intro g5
    refine xB rfl rfl rfl rfl rfl rfl rfl rfl rfl <| xN [3,5,18,19,20] [5] rfl <| A0 <| y_M rfl <| y_B rfl ?_
    have h1 := hkb i
    have h2 := hkz i (by omega)
    refine xC1 rfl rfl ((by have hk2 := a1a (t := t) (i := i) (by omega); have hi := ih (t.kids.getD i default) (by omega) (by omega); rw [← P8] at hi; exact hi)) ⟨rfl, rfl, rfl⟩ rfl rfl fun g26 => ?_
    refine E6 rfl rfl (C4 (by omega)) <| y_S rfl <| xN [3,18,19,20] [] rfl <| A0 <| E6 rfl rfl (C4 (by omega)) <| y_M rfl <| xN [3,18,19,20] [] rfl ?_
    refine ⟨(i + 1, _), ⟨by omega, by rw [Q2, ← ha]⟩, (by simp only; omega), ⟨rfl, rfl, rfl, rfl, trivial⟩⟩
   refine D8 <| A3 <| A0 <| y_M rfl <| y_S rfl <| xN [2] [] rfl <| A9 <| C0 rfl rfl trivial ?_
   rw [ha, show i = t.kids.length by omega, V7]
  refine A3 <| A0 <| Q7 rfl rfl <| y_S rfl <| xN [1,3,7,11] [1] rfl ?_
  refine A5 rfl ?_ ?_ <;> intro hc <;> try simp only [SL] at hc
  ·refine A6 ?_
   refine A5 rfl (fun hc => ?_) (fun hc => absurd hc (by simp_all))
   refine A0 <| y_S rfl <| xN [1,3] [1] rfl <| A3 <| A3 <| A0 <| y_F rfl <| y_L rfl <| B9 rfl rfl <| y_M rfl <| xN [3,18,19,20] [] rfl <| B0 <| F5 (β := Nat × Int) [(.t 18, _), (.t 19, _)] (fun (z : Nat × Int) => match z with | (i, a) => [(.t 20, iV i), (.t 3, iV a)]) (fun (z : Nat × Int) => match z with | (i, a) => i ≤ t.kids.length ∧ a = Q2 t i) (fun (z : Nat × Int) => match z with | (i, a) => t.kids.length - i) (0, _) ⟨rfl, rfl, rfl, rfl, trivial⟩ ⟨Nat.zero_le _, by show _ = pr (bA t.op); simp_all [pr]⟩ ?_
   intro z hb
   obtain ⟨i, a⟩ := z
   try dsimp only at hb
   obtain ⟨hi1, ha⟩ := hb
   have hnb := Z8 hi1
   rw [← ha] at hnb
   refine A3 <| A0 <| F8 rfl rfl <| xN [3,18,19,20,21] [] rfl <| A3 ?_
   refine A5 rfl ?_ ?_ <;> intro hc <;> try simp only [SL] at hc
   ·refine A6 <| A3 <| B0 <| A3 <| A0 <| B8 rfl rfl rfl (fun _ => rfl) (by omega) <| y_I rfl <| y_A rfl (fun _ => rfl) ?_
    intro g5
    refine xB rfl rfl rfl rfl rfl rfl rfl rfl rfl <| xN [3,5,18,19,20] [5] rfl <| A0 <| y_M rfl <| y_B rfl ?_
    have h1 := hkb i
    have h2 := hkz i (by omega)
    refine xC1 rfl rfl ((by have hk2 := a1a (t := t) (i := i) (by omega); have hi := ih (t.kids.getD i default) (by omega) (by omega); rw [← P8] at hi; exact hi)) ⟨rfl, rfl, rfl⟩ rfl rfl fun g26 => ?_
    refine E6 rfl rfl (C4 (by omega)) <| y_S rfl <| xN [3,18,19,20] [] rfl <| A0 <| E6 rfl rfl (C4 (by omega)) <| y_M rfl <| xN [3,18,19,20] [] rfl ?_
    refine ⟨(i + 1, _), ⟨by omega, by rw [Q2, ← ha]⟩, (by simp only; omega), ⟨rfl, rfl, rfl, rfl, trivial⟩⟩
   refine D8 <| A3 <| A0 <| y_M rfl <| y_S rfl <| xN [2] [] rfl <| A9 <| C0 rfl rfl trivial ?_
   rw [ha, show i = t.kids.length by omega, V7]
  refine A3 <| A0 <| Q7 rfl rfl <| y_S rfl <| xN [1,3,7,11] [1] rfl ?_
  refine A5 rfl ?_ ?_ <;> intro hc <;> try simp only [SL] at hc
  ·refine A6 ?_
   refine A5 rfl (fun hc => ?_) (fun hc => absurd hc (by simp_all))
   refine A0 <| y_S rfl <| xN [1,3] [1] rfl <| A3 <| A3 <| A0 <| y_F rfl <| y_L rfl <| B9 rfl rfl <| y_M rfl <| xN [3,18,19,20] [] rfl <| B0 <| F5 (β := Nat × Int) [(.t 18, _), (.t 19, _)] (fun (z : Nat × Int) => match z with | (i, a) => [(.t 20, iV i), (.t 3, iV a)]) (fun (z : Nat × Int) => match z with | (i, a) => i ≤ t.kids.length ∧ a = Q2 t i) (fun (z : Nat × Int) => match z with | (i, a) => t.kids.length - i) (0, _) ⟨rfl, rfl, rfl, rfl, trivial⟩ ⟨Nat.zero_le _, by show _ = pr (bA t.op); simp_all [pr]⟩ ?_
   intro z hb
   obtain ⟨i, a⟩ := z
   try dsimp only at hb
   obtain ⟨hi1, ha⟩ := hb
   have hnb := Z8 hi1
   rw [← ha] at hnb
   refine A3 <| A0 <| F8 rfl rfl <| xN [3,18,19,20,21] [] rfl <| A3 ?_
   refine A5 rfl ?_ ?_ <;> intro hc <;> try simp only [SL] at hc
   ·refine A6 <| A3 <| B0 <| A3 <| A0 <| B8 rfl rfl rfl (fun _ => rfl) (by omega) <| y_I rfl <| y_A rfl (fun _ => rfl) ?_
    intro g5
    refine xB rfl rfl rfl rfl rfl rfl rfl rfl rfl <| xN [3,5,18,19,20] [5] rfl <| A0 <| y_M rfl <| y_B rfl ?_
    have h1 := hkb i
    have h2 := hkz i (by omega)
    refine xC1 rfl rfl ((by have hk2 := a1a (t := t) (i := i) (by omega); have hi := ih (t.kids.getD i default) (by omega) (by omega); rw [← P8] at hi; exact hi)) ⟨rfl, rfl, rfl⟩ rfl rfl fun g26 => ?_
    refine E6 rfl rfl (C4 (by omega)) <| y_S rfl <| xN [3,18,19,20] [] rfl <| A0 <| E6 rfl rfl (C4 (by omega)) <| y_M rfl <| xN [3,18,19,20] [] rfl ?_
    refine ⟨(i + 1, _), ⟨by omega, by rw [Q2, ← ha]⟩, (by simp only; omega), ⟨rfl, rfl, rfl, rfl, trivial⟩⟩
   refine D8 <| A3 <| A0 <| y_M rfl <| y_S rfl <| xN [2] [] rfl <| A9 <| C0 rfl rfl trivial ?_
   rw [ha, show i = t.kids.length by omega, V7]
  refine A0 <| Q7 rfl rfl <| y_S rfl <| xN [1,3,11] [1] rfl ?_
  refine A5 rfl ?_ ?_ <;> intro hc <;> try simp only [SL] at hc
  ·refine A0 <| y_S rfl <| xN [1,3] [1] rfl <| A3 <| A3 <| A0 <| y_F rfl <| y_L rfl <| B9 rfl rfl <| y_M rfl <| xN [3,18,19,20] [] rfl <| B0 <| F5 (β := Nat × Int) [(.t 18, _), (.t 19, _)] (fun (z : Nat × Int) => match z with | (i, a) => [(.t 20, iV i), (.t 3, iV a)]) (fun (z : Nat × Int) => match z with | (i, a) => i ≤ t.kids.length ∧ a = Q2 t i) (fun (z : Nat × Int) => match z with | (i, a) => t.kids.length - i) (0, _) ⟨rfl, rfl, rfl, rfl, trivial⟩ ⟨Nat.zero_le _, by show _ = pr (bA t.op); simp_all [pr]⟩ ?_
   intro z hb
   obtain ⟨i, a⟩ := z
   try dsimp only at hb
   obtain ⟨hi1, ha⟩ := hb
   have hnb := Z8 hi1
   rw [← ha] at hnb
   refine A3 <| A0 <| F8 rfl rfl <| xN [3,18,19,20,21] [] rfl <| A3 ?_
   refine A5 rfl ?_ ?_ <;> intro hc <;> try simp only [SL] at hc
   ·refine A6 <| A3 <| B0 <| A3 <| A0 <| B8 rfl rfl rfl (fun _ => rfl) (by omega) <| y_I rfl <| y_A rfl (fun _ => rfl) ?_
    intro g5
    refine xB rfl rfl rfl rfl rfl rfl rfl rfl rfl <| xN [3,5,18,19,20] [5] rfl <| A0 <| y_M rfl <| y_B rfl ?_
    have h1 := hkb i
    have h2 := hkz i (by omega)
    refine xC1 rfl rfl ((by have hk2 := a1a (t := t) (i := i) (by omega); have hi := ih (t.kids.getD i default) (by omega) (by omega); rw [← P8] at hi; exact hi)) ⟨rfl, rfl, rfl⟩ rfl rfl fun g26 => ?_
    refine E6 rfl rfl (C4 (by omega)) <| y_S rfl <| xN [3,18,19,20] [] rfl <| A0 <| E6 rfl rfl (C4 (by omega)) <| y_M rfl <| xN [3,18,19,20] [] rfl ?_
    refine ⟨(i + 1, _), ⟨by omega, by rw [Q2, ← ha]⟩, (by simp only; omega), ⟨rfl, rfl, rfl, rfl, trivial⟩⟩
   refine D8 <| A3 <| A0 <| y_M rfl <| y_S rfl <| xN [2] [] rfl <| A9 <| C0 rfl rfl trivial ?_
   rw [ha, show i = t.kids.length by omega, V7]
  refine A6 <| A3 <| A3 <| A0 <| y_F rfl <| y_L rfl <| B9 rfl rfl <| y_M rfl <| xN [3,18,19,20] [] rfl <| B0 <| F5 (β := Nat × Int) [(.t 18, _), (.t 19, _)] (fun (z : Nat × Int) => match z with | (i, a) => [(.t 20, iV i), (.t 3, iV a)]) (fun (z : Nat × Int) => match z with | (i, a) => i ≤ t.kids.length ∧ a = Q2 t i) (fun (z : Nat × Int) => match z with | (i, a) => t.kids.length - i) (0, _) ⟨rfl, rfl, rfl, rfl, trivial⟩ ⟨Nat.zero_le _, by show _ = pr (bA t.op); simp_all [pr]⟩ ?_
  intro z hb
  obtain ⟨i, a⟩ := z
  try dsimp only at hb
  obtain ⟨hi1, ha⟩ := hb
  have hnb := Z8 hi1
  rw [← ha] at hnb
  refine A3 <| A0 <| F8 rfl rfl <| xN [3,18,19,20,21] [] rfl <| A3 ?_
  refine A5 rfl ?_ ?_ <;> intro hc <;> try simp only [SL] at hc
  ·refine A6 <| A3 <| B0 <| A3 <| A0 <| B8 rfl rfl rfl (fun _ => rfl) (by omega) <| y_I rfl <| y_A rfl (fun _ => rfl) ?_
   intro g5
   refine xB rfl rfl rfl rfl rfl rfl rfl rfl rfl <| xN [3,5,18,19,20] [5] rfl <| A0 <| y_M rfl <| y_B rfl ?_
   have h1 := hkb i
   have h2 := hkz i (by omega)
   refine xC1 rfl rfl ((by have hk2 := a1a (t := t) (i := i) (by omega); have hi := ih (t.kids.getD i default) (by omega) (by omega); rw [← P8] at hi; exact hi)) ⟨rfl, rfl, rfl⟩ rfl rfl fun g26 => ?_
   refine E6 rfl rfl (C4 (by omega)) <| y_S rfl <| xN [3,18,19,20] [] rfl <| A0 <| E6 rfl rfl (C4 (by omega)) <| y_M rfl <| xN [3,18,19,20] [] rfl ?_
   refine ⟨(i + 1, _), ⟨by omega, by rw [Q2, ← ha]⟩, (by simp only; omega), ⟨rfl, rfl, rfl, rfl, trivial⟩⟩
  refine D8 <| A3 <| A0 <| y_M rfl <| y_S rfl <| xN [2] [] rfl <| A9 <| C0 rfl rfl trivial ?_
  rw [ha, show i = t.kids.length by omega, V7]

theorem b4u : E7 Tryz.f34 = [0, 2, 4, 11, 3, 7] := by kernel_rfl
theorem b7j (s : List UInt8) (hs : s.length ≤ 1048576) : CW (cxT oG) 34 [tV s] = some (iV (b3h s), []) := by
 refine E4 rfl Tryz.func34 rfl ⟨by kernel_rfl, rfl, dT rfl, dT rfl, by decide⟩ b4u <| A3 <| A0 <| y_S rfl <| xN [0] [] rfl <| A3 <| A0 <| y_M rfl ?_
 apply xC rfl
 ·apply A8
  ·exact B7 rfl
  exact C3
 ·exact a4f s hs
 refine ⟨⟨rfl, rfl, rfl, dT rfl, rfl⟩, .inl rfl, B3, K1 rfl, fun _ => rfl, fun g7 => ?_⟩
 refine y_M rfl <| y_E rfl <| y_E rfl <| y_A rfl (fun _ => rfl) ?_
 intro g3
 refine xB rfl rfl rfl rfl rfl rfl rfl rfl rfl <| y_S rfl <| xN [3,4] [3] rfl <| A3 <| A3 <| A0 <| y_M rfl <| J9 rfl <| xN [3,11] [3] rfl ?_
 refine A5 rfl ?_ ?_ <;> intro hc <;> try simp only [SL] at hc
 ·refine A3 <| A0 <| y_S rfl <| xN [2] [] rfl <| A9 <| C0 rfl rfl trivial ?_
  rw [c6p hc]
  rfl
 refine A6 <| A3 <| A0 <| y_B rfl ?_
 obtain ⟨t, ht1, ht2, ht3⟩ := a3k hc
 rw [d2x ht1, P8]
 refine xC1 rfl rfl (d5i t (by omega)) ⟨rfl, rfl, rfl⟩ rfl rfl fun g13 => ?_
 refine y_S rfl <| xN [2] [] rfl <| A9 <| C0 rfl rfl trivial ?_
 rw [a6u ht1]

theorem b1u : E7 Tryz.f80 = [0, 2, 1, 7, 4, 19, 3] := by kernel_rfl
theorem c5w (t : Pl) (hln : (L5 t).length ≤ 1048576) (hgd : t.good) : CW (cxT oG) 80 [trK t] = some (tV (L5 t), []) := by
 obtain ⟨kk, hkk⟩ : ∃ kk : Nat, t.sz < kk := ⟨_, Nat.lt_succ_self _⟩
 revert t
 induction kk with
 | zero => intro t hln hgd hkk; exact absurd hkk (Nat.not_lt_zero _)
 | succ kk ih =>
  intro t hln hgd hkk
  have hkl := b2q t
  have hkz := fun i => a1a (t := t) (i := i)
  have hkg := fun i => c1o hgd (i := i)
  have hst := fun i h => b4i (t := t) h (i := i)
  have hall := fun h => a9k (t := t) h
  refine E4 rfl Tryz.func80 rfl ⟨by kernel_rfl, rfl, dT rfl, dT rfl, by decide⟩ b1u <| A3 <| A0 <| a2g rfl rfl rfl (fun _ => M2 rfl) (fun _ => rfl) ?_
  intro g1
  refine y_S rfl <| xN [1] [1] rfl <| A3 <| A3 <| A0 <| y_F rfl <| y_L rfl <| Q7 rfl rfl <| xN [1,7] [1] rfl ?_
  refine A5 rfl ?_ ?_ <;> intro hc <;> try simp only [SL] at hc
  ·obtain ⟨ns, rfl, hv⟩ := W0 hgd (by assumption)
   have hl := a9p hv
   have hnb := c7p hv
   have hll := V5 hnb
   refine A3 <| A0 <| y_F rfl <| y_L rfl ?_
   refine xC1 rfl rfl (a7d ns (by omega) hnb) ⟨rfl, rfl, rfl⟩ rfl rfl fun g10 => ?_
   iterate 2 refine M4 rfl rfl (by simp only [H2, List.length_append, List.length_cons, List.length_nil]; omega) ?_
   refine y_S rfl <| xN [2] [] rfl <| A9 <| C0 rfl rfl trivial ?_
   rfl
  have hop : t.op ≠ lW := by assumption
  refine A6 <| A3 <| A0 <| y_F rfl <| y_L rfl <| y_S rfl <| xN [1,3] [1] rfl <| A3 <| A3 <| A0 <| y_S rfl <| xN [1,3,4] [1] rfl <| B0 <| F5 (β := Nat × W8) [(.t 1, _), (.h 1, _)] (fun (z : Nat × W8) => match z with | (i, a) => [(.t 4, iV i), (.t 3, tV a)]) (fun (z : Nat × W8) => match z with | (i, a) => i ≤ t.kids.length ∧ a = a1v t i) (fun (z : Nat × W8) => match z with | (i, a) => t.kids.length - i) (0, _) ⟨rfl, rfl, rfl, rfl, trivial⟩ ⟨Nat.zero_le _, rfl⟩ ?_
  intro z hb
  obtain ⟨i, a⟩ := z
  try dsimp only at hb
  obtain ⟨hi1, ha⟩ := hb
  have hst1 := fun h => hst i hop h
  rw [← ha] at hst1
  refine A3 <| A3 <| A0 <| y_M rfl <| y_F rfl <| y_L rfl <| B9 rfl rfl <| F8 rfl rfl <| xN [1,3,4,19] [1] rfl ?_
  refine A5 rfl ?_ ?_ <;> intro hc <;> try simp only [SL] at hc
  ·refine A6 <| A3 <| B0 <| A0 <| y_M rfl <| M4 rfl rfl (by simp only [H2, List.length_append, List.length_cons, List.length_nil]; omega) <| y_F rfl <| y_L rfl <| y_M rfl <| B8 rfl rfl rfl (fun _ => rfl) (by omega) <| y_I rfl ?_
   have h1 := hst i hop (by omega)
   have h2 := hkz i (by omega)
   refine xC1 rfl rfl ((by have hi := ih (t.kids.getD i default) (by have := b9k (t := t) (i := i) (by omega); omega) (hkg i (by omega)) (by omega); rw [← P8] at hi; exact hi)) ⟨rfl, rfl, rfl⟩ rfl rfl fun g29 => ?_
   refine M4 rfl rfl (by simp only [H2, List.length_append, List.length_cons, List.length_nil]; omega) <| y_S rfl <| xN [1,3,4] [1] rfl <| A0 <| y_M rfl <| E6 rfl rfl (C4 (by omega)) <| y_S rfl <| xN [1,3,4] [1] rfl ?_
   refine ⟨(i + 1, _), ⟨by omega, by rw [a1v, ← ha]⟩, (by simp only; omega), ⟨rfl, rfl, rfl, rfl, trivial⟩⟩
  refine D8 <| A3 <| A0 <| y_M rfl <| y_S rfl <| xN [2] [] rfl <| A9 <| C0 rfl rfl trivial ?_
  rw [ha, show i = t.kids.length by omega, hall hop]

theorem c2k : E7 Tryz.f91 = [0, 1, 4, 24, 5, 36, 6] := by kernel_rfl
theorem a0m (bs : List Int) (p : Int) (hbs : a3r bs) (hl : bs.length ≤ 1048576) (hp : 0 ≤ p ∧ p ≤ 1000000000) (n : Int) (hn : n ≤ 1000000000) : ∃ res outs, (fun res outs => ∃ k, res = iV k ∧ outs = [[rdr bs (p + 1)]] ∧ (1 ≤ n → 0 ≤ k ∧ k < n) ∧ (n < 1 → k = 0)) res outs ∧ CW (cxT oG) 91 [.ownp [rdr bs p] 0 0, iV n] = some (res, outs) := by
 refine P3 rfl Tryz.func91 rfl ⟨by kernel_rfl, rfl, dT rfl, dT rfl, by decide⟩ c2k <| A3 <| A0 <| y_S rfl <| xN [0,1] [0] rfl <| A3 <| A0 <| y_M rfl <| y_M rfl <| N6 rfl rfl rfl <| y_F rfl <| y_L rfl <| E6 rfl rfl (C4 (by omega)) <| N6 rfl rfl rfl <| y_F rfl <| b9h rfl rfl rfl rfl rfl ⟨by decide, rfl, dT rfl, dT rfl, rfl⟩ (by exact d0k rfl) <| xN [0,1] [0] rfl <| A3 <| A3 <| A0 <| y_M rfl <| F8 rfl rfl <| y_M rfl ?_
 refine C5 rfl rfl ?_ ?_ <;> intro hg0 <;> have hg := hg0 <;> try simp only [SG] at hg
 ·refine y_M rfl <| gT rfl rfl <| N6 rfl rfl rfl <| gT rfl rfl <| y_F rfl <| gT rfl rfl <| y_L rfl <| gT rfl rfl <| B9 rfl rfl <| gT rfl rfl <| O2 rfl rfl <| F7 rfl (by assumption) rfl rfl <| xN [0,1,24] [0] rfl ?_
  refine A5 rfl ?_ ?_ <;> intro hc <;> try simp only [SL] at hc
  ·refine A3 <| A0 <| y_S rfl <| xN [4] [0] rfl <| A9 ?_
   refine ⟨_, _, ?_, J0 rfl rfl (J3 rfl rfl)⟩
   refine ⟨_, rfl, rfl, fun h => ?_, fun h => ?_⟩
   ·omega
   omega
  refine A6 <| A3 <| A0 <| y_M rfl <| N6 rfl rfl rfl <| y_F rfl <| y_L rfl <| P5 rfl rfl (C4 (by omega)) <| y_S rfl <| xN [0,1,5] [0] rfl <| A3 <| A3 <| A0 <| y_M rfl <| y_M rfl <| N6 rfl rfl rfl <| y_F rfl <| y_L rfl <| B9 rfl rfl <| F8 rfl rfl <| xN [0,1,5,36] [0] rfl ?_
  refine A5 rfl ?_ ?_ <;> intro hc <;> try simp only [SL] at hc
  ·refine A3 <| A0 <| y_M rfl <| N6 rfl rfl rfl <| y_F rfl <| y_L rfl <| y_M rfl <| I3 rfl rfl rfl (fun _ => rfl) (by omega) <| y_I rfl <| a6r rfl rfl rfl (C4 (by have := hbs.getD (p + 1 - 1).toNat; omega)) <| y_M rfl ?_
   have hk := hbs.getD (p + 1 - 1).toNat
   refine c1b rfl rfl (by omega) <| y_S rfl <| xN [4] [0] rfl <| A9 ?_
   refine ⟨_, _, ?_, J0 rfl rfl (J3 rfl rfl)⟩
   refine ⟨_, rfl, rfl, fun h => ?_, fun h => ?_⟩
   ·exact b2a (by omega) (by omega)
   omega
  refine A6 <| A3 <| A0 <| y_M rfl <| N6 rfl rfl rfl <| y_F rfl <| y_L rfl <| y_M rfl <| y_M rfl <| N6 rfl rfl rfl <| y_F rfl <| y_L rfl <| B9 rfl rfl ?_
  have hlen : 0 < (bs.length : Int) := by omega
  refine c1b rfl rfl (by omega) ?_
  have hm1 := b2a (a := p + 1 - 1) (by omega) hlen
  refine I3 rfl rfl rfl (fun _ => rfl) (by omega) <| y_I rfl <| a6r rfl rfl rfl (C4 (by have := hbs.getD ((p + 1 - 1).tmod bs.length).toNat; omega)) ?_
  have hk := hbs.getD ((p + 1 - 1).tmod bs.length).toNat
  refine a7t rfl rfl (C4 (by omega)) <| y_M rfl <| N6 rfl rfl rfl <| y_F rfl <| y_L rfl <| y_M rfl <| a7t rfl rfl (C4 (by omega)) <| E6 rfl rfl (C4 (by omega)) <| y_M rfl <| N6 rfl rfl rfl <| y_F rfl <| y_L rfl <| B9 rfl rfl <| c1b rfl rfl (by omega) ?_
  have hm2 := b2a (a := (p + 1 - 1) * 7 + 3) (by omega) hlen
  refine I3 rfl rfl rfl (fun _ => rfl) (by omega) <| y_I rfl <| a6r rfl rfl rfl (C4 (by have := hbs.getD (((p + 1 - 1) * 7 + 3).tmod bs.length).toNat; omega)) ?_
  have hk2 := hbs.getD (((p + 1 - 1) * 7 + 3).tmod bs.length).toNat
  refine a7t rfl rfl (C4 (by omega)) <| E6 rfl rfl (C4 (by omega)) <| y_M rfl <| a7t rfl rfl (C4 (by omega)) <| E6 rfl rfl (C4 (by omega)) <| y_M rfl <| y_M rfl <| N6 rfl rfl rfl <| y_F rfl <| y_L rfl <| B9 rfl rfl ?_
  have hd := c8h (a := p + 1 - 1) (b := bs.length) (by omega) (by omega)
  refine d0w rfl rfl ⟨by omega, C4 (by omega)⟩ <| a7t rfl rfl (C4 (by omega)) <| E6 rfl rfl (C4 (by omega)) <| y_S rfl ?_
  refine J7 ⟨fun _ => ⟨by decide +kernel, by decide +kernel⟩, [(.t 1, _), (.t 6, _), (.h 0, _)], ⟨rfl, rfl, rfl, rfl, rfl, rfl, trivial⟩, ?_⟩
  refine A3 <| A0 <| y_M rfl <| y_M rfl ?_
  have hd2 := c8h (a := (bs.getD ((p + 1 - 1).tmod bs.length).toNat default * 131 + bs.getD (((p + 1 - 1) * 7 + 3).tmod bs.length).toNat default * 1117 + (p + 1 - 1) * 29 + (p + 1 - 1).tdiv bs.length * 53)) (b := 64) (by omega) (by decide)
  refine d0w rfl rfl ⟨by omega, C4 (by omega)⟩ ?_
  have hx := d6t (x := (bs.getD ((p + 1 - 1).tmod bs.length).toNat default * 131 + bs.getD (((p + 1 - 1) * 7 + 3).tmod bs.length).toNat default * 1117 + (p + 1 - 1) * 29 + (p + 1 - 1).tdiv bs.length * 53)) (by omega) (y := (bs.getD ((p + 1 - 1).tmod bs.length).toNat default * 131 + bs.getD (((p + 1 - 1) * 7 + 3).tmod bs.length).toNat default * 1117 + (p + 1 - 1) * 29 + (p + 1 - 1).tdiv bs.length * 53).tdiv 64) (by omega)
  refine d7y rfl rfl <| y_S rfl <| xN [1,6] [0] rfl <| A3 <| A0 <| y_M rfl <| y_M rfl <| c1b rfl rfl (by omega) <| y_S rfl <| xN [4] [0] rfl <| A9 ?_
  refine ⟨_, _, ?_, J0 rfl rfl (J3 rfl rfl)⟩
  refine ⟨_, rfl, rfl, fun h => ?_, fun h => ?_⟩
  ·exact b2a (by omega) (by omega)
  omega
 iterate 5 refine gF rfl rfl ?_
 refine E8 rfl (by assumption) rfl rfl <| xN [0,1,24] [0] rfl ?_
 refine A5 rfl (fun hc => ?_) (fun hc => absurd hc (by decide))
 refine A3 <| A0 <| y_S rfl <| xN [4] [0] rfl <| A9 ?_
 refine ⟨_, _, ?_, J0 rfl rfl (J3 rfl rfl)⟩
 refine ⟨_, rfl, rfl, fun h => ?_, fun h => ?_⟩
 ·omega
 omega

theorem c4h : E7 Tryz.f94 = [0, 1, 4] := by kernel_rfl
theorem d0r (bs : List Int) (p : Int) (hbs : a3r bs) (hl : bs.length ≤ 1048576) (hp : 0 ≤ p ∧ p ≤ 1000000000) (xs : List Int) (hx : 1 ≤ xs.length ∧ xs.length ≤ 1000) : ∃ res outs, (fun res outs => ∃ k, res = iV k ∧ outs = [[rdr bs (p + 1)]] ∧ k ∈ xs) res outs ∧ CW (cxT oG) 94 [.ownp [rdr bs p] 0 0, L xs] = some (res, outs) := by
 refine P3 rfl Tryz.func94 rfl ⟨by kernel_rfl, rfl, dT rfl, dT rfl, by decide⟩ c4h <| A3 <| A0 <| y_S rfl <| xN [0,1] [0] rfl <| A3 <| A0 <| y_M rfl <| y_M rfl <| y_M rfl <| B9 rfl rfl ?_
 obtain ⟨_, _, ⟨k, rfl, rfl, hk1, hk2⟩, hC⟩ := a0m (oG := oG) bs p hbs hl hp xs.length (by omega)
 have hk1 := hk1 (by omega)
 apply xC rfl
 ·apply A8
  ·exact K7 rfl (by decide) rfl
  apply A8
  ·exact B7 rfl
  exact C3
 ·exact hC
 refine ⟨⟨rfl, rfl, rfl, dT rfl, rfl⟩, .inl rfl, G2 rfl rfl rfl B3, C6 rfl, fun _ => rfl, fun g9 => ?_⟩
 refine I3 rfl rfl rfl (fun _ => rfl) (by omega) <| y_I rfl <| y_S rfl <| xN [4] [0] rfl <| A9 ?_
 refine ⟨_, _, ?_, J0 rfl rfl (J3 rfl rfl)⟩
 refine ⟨_, rfl, rfl, a4a (by omega)⟩

theorem a8r : E7 Tryz.f54 = [0, 2, 5] := by kernel_rfl
theorem c1k (bs : List Int) (hl : bs.length ≤ 1048576) : ∃ res outs, (fun res outs => res = .ownp [rdr (bs.take 2000) 0] 0 0 ∧ outs = []) res outs ∧ CW (cxT oG) 54 [.list (bs.map uV)] = some (res, outs) := by
 refine P3 rfl Tryz.func54 rfl ⟨by kernel_rfl, rfl, dT rfl, dT rfl, by decide⟩ a8r <| A3 <| A0 <| y_S rfl <| xN [0] [] rfl <| A3 <| A3 <| A0 <| y_M rfl <| B9 rfl rfl <| N9 rfl rfl <| xN [0,5] [] rfl ?_
 refine A5 rfl ?_ ?_ <;> intro hc <;> try simp only [SL] at hc
 ·refine A0 <| y_M rfl <| N2 rfl rfl rfl (Mv.sized_map fun _ => rfl) (G7 rfl) H6 (by (simp; omega)) <| y_S rfl <| xN [0] [] rfl <| A3 <| A0 <| y_M rfl <| H8 (fs := [_, _]) rfl rfl rfl rfl rfl <| a2g rfl rfl rfl (fun _ => M2 rfl) (fun _ => rfl) ?_
  intro g10
  (refine a8l rfl rfl rfl rfl (fun _ => M2 rfl) (fun _ => rfl) ?_; intro g2)
  refine xN [2] [2] rfl <| A9 ?_
  refine ⟨_, _, ?_, c7s rfl rfl rfl B5⟩
  have e : rdr (bs.take 2000) 0 = .agg [.list ((bs.map uV).take 2000), iV 0] := by unfold rdr; rw [List.map_take]
  rw [e]
  exact ⟨rfl, rfl⟩
 refine A6 <| A3 <| A0 <| y_M rfl <| H8 (fs := [_, _]) rfl rfl rfl rfl rfl <| a2g rfl rfl rfl (fun _ => M2 rfl) (fun _ => rfl) ?_
 intro g10
 (refine a8l rfl rfl rfl rfl (fun _ => M2 rfl) (fun _ => rfl) ?_; intro g2)
 refine xN [2] [2] rfl <| A9 ?_
 refine ⟨_, _, ?_, c7s rfl rfl rfl B5⟩
 have e : bs.take 2000 = bs := List.take_of_length_le (by omega)
 rw [e]
 exact ⟨rfl, rfl⟩

theorem c6g : E7 Tryz.f92 = [0, 1, 4] := by kernel_rfl
theorem b0f (bs : List Int) (p : Int) (hbs : a3r bs) (hl : bs.length ≤ 1048576) (hp : 0 ≤ p ∧ p ≤ 1000000000) (ss : List W8) (hs : 1 ≤ ss.length ∧ ss.length ≤ 1000) : ∃ res outs, (fun res outs => ∃ k, res = tV k ∧ outs = [[rdr bs (p + 1)]] ∧ k ∈ ss) res outs ∧ CW (cxT oG) 92 [.ownp [rdr bs p] 0 0, .list (ss.map tV)] = some (res, outs) := by
 refine P3 rfl Tryz.func92 rfl ⟨by kernel_rfl, rfl, dT rfl, dT rfl, by decide⟩ c6g <| A3 <| A0 <| y_S rfl <| xN [0,1] [0] rfl <| A3 <| A0 <| y_M rfl <| y_M rfl <| y_M rfl <| B9 rfl rfl ?_
 obtain ⟨_, _, ⟨k, rfl, rfl, hk, -⟩, hC⟩ := a0m (oG := oG) bs (p) hbs hl (by omega) (ss.length) (by omega)
 have hk := hk (by omega)
 apply xC rfl
 ·apply A8
  ·exact K7 rfl (by decide) rfl
  apply A8
  ·exact B7 rfl
  exact C3
 ·exact hC
 refine ⟨⟨rfl, rfl, rfl, dT rfl, rfl⟩, .inl rfl, G2 rfl rfl rfl B3, C6 rfl, fun _ => rfl, fun g9 => ?_⟩
 refine I3 rfl rfl rfl (fun _ => rfl) (by omega) <| y_I rfl <| y_S rfl <| xN [4] [0] rfl <| A9 ?_
 refine ⟨_, _, ?_, J0 rfl rfl (J3 rfl rfl)⟩
 refine ⟨_, rfl, rfl, V3 (by omega)⟩

theorem b1p : E7 Tryz.f93 = [0, 1, 4, 15, 18, 6, 5, 29, 42, 7, 50, 8] := by kernel_rfl
theorem c6q (bs : List Int) (p : Int) (d : Nat) (hbs : a3r bs) (hl : bs.length ≤ 1048576) (hp : 0 ≤ p ∧ p + gN d ≤ 50000000)  (hd : d ≤ 5) : ∃ res outs, (fun res outs => ∃ (x : W8) (q : Int), res = tV x ∧ outs = [[rdr bs q]] ∧ p ≤ q ∧ q ≤ p + gN d ∧ x.length ≤ lN d) res outs ∧ CW (cxT oG) 93 [.ownp [rdr bs p] 0 0, iV d] = some (res, outs) := by
 obtain ⟨kk, hkk⟩ : ∃ kk : Nat, d < kk := ⟨_, Nat.lt_succ_self _⟩
 revert bs p d
 induction kk with
 | zero => intro bs p d hbs hl hp hd hkk; exact absurd hkk (Nat.not_lt_zero _)
 | succ kk ih =>
  intro bs p d hbs hl hp hd hkk
  have hgd := b9n d
  have hld := c5m d
  refine P3 rfl Tryz.func93 rfl ⟨by kernel_rfl, rfl, dT rfl, dT rfl, by decide⟩ b1p <| A3 <| A0 <| y_S rfl <| xN [0,1] [0] rfl <| A3 <| A3 <| A0 <| y_M rfl <| O2 rfl rfl <| y_M rfl ?_
  refine C5 rfl rfl ?_ ?_ <;> intro hg0 <;> have hg := hg0 <;> try simp only [SG] at hg
  ·refine y_M rfl <| gT rfl rfl ?_
   obtain ⟨_, _, ⟨k0, rfl, rfl, hk0, -⟩, hC0⟩ := a0m (oG := oG) bs (p) hbs hl (by omega) (5) (by omega)
   have hk0 := hk0 (by omega)
   apply xC rfl
   ·apply A8
    ·exact K7 rfl (by decide) rfl
    apply A8
    ·exact B7 rfl
    exact C3
   ·exact hC0
   refine ⟨⟨rfl, rfl, rfl, dT rfl, rfl⟩, .inl rfl, G2 rfl rfl rfl B3, C6 rfl, fun _ => rfl, fun g13 => ?_⟩
   refine gT rfl rfl <| O2 rfl rfl <| F7 rfl (by assumption) rfl rfl <| xN [0,1,15] [0] rfl ?_
   refine A5 rfl ?_ ?_ <;> intro hc <;> try simp only [SL] at hc
   ·refine A3 <| A3 <| A0 <| y_M rfl ?_
    obtain ⟨_, _, ⟨k1, rfl, rfl, hk1, -⟩, hC1⟩ := a0m (oG := oG) bs (p + 1) hbs hl (by omega) (2) (by omega)
    have hk1 := hk1 (by omega)
    apply xC rfl
    ·apply A8
     ·exact K7 rfl (by decide) rfl
     apply A8
     ·exact B7 rfl
     exact C3
    ·exact hC1
    refine ⟨⟨rfl, rfl, rfl, dT rfl, rfl⟩, .inl rfl, G2 rfl rfl rfl B3, C6 rfl, fun _ => rfl, fun g17 => ?_⟩
    refine O2 rfl rfl <| xN [0,18] [0] rfl ?_
    refine A5 rfl ?_ ?_ <;> intro hc <;> try simp only [SL] at hc
    ·refine A3 <| A0 <| y_M rfl <| B6 (es := List.map tV [[97], [98], [97], [99], [100]]) rfl rfl (dT rfl) rfl rfl (fun _ => B2 (A7 fun _ => rfl)) (fun _ => rfl) ?_
     intro g20
     obtain ⟨_, _, ⟨w1, rfl, rfl, hw1⟩, hC2⟩ := b0f (oG := oG) bs (p + 1 + 1) hbs hl (by omega) [[97], [98], [97], [99], [100]] (by decide)
     have hw1b : w1.length ≤ 1 := by have hall : ∀ x ∈ ([[97], [98], [97], [99], [100]] : List W8), x.length ≤ 1 := (by decide); exact hall _ hw1
     apply xC rfl
     ·apply A8
      ·exact K7 rfl (by decide) rfl
      apply A8
      ·exact J2 rfl rfl (by (simp; done)) (fun _ => rfl)
      exact C3
     ·exact hC2
     refine ⟨⟨rfl, rfl, rfl, dT rfl, rfl⟩, .inl rfl, G2 rfl rfl rfl B3, C6 rfl, fun _ => rfl, fun g21 => ?_⟩
     refine y_S rfl <| xN [4] [0] rfl <| A9 ?_
     refine ⟨_, _, ?_, J0 rfl rfl (J3 rfl rfl)⟩
     exact ⟨_, _, rfl, rfl, by omega, by omega, by omega⟩
    refine A6 <| A3 <| A0 <| B6 (es := List.map iV []) rfl rfl (dT rfl) rfl rfl (fun _ => B2 (A7 fun _ => rfl)) (fun _ => rfl) ?_
    intro g22
    (refine xO rfl rfl (by simp) rfl (fun _ => rfl) (fun _ => rfl) ?_; intro g5)
    refine xN [0,5] [0,5] rfl <| A3 <| A3 <| A0 <| y_M rfl <| B6 (es := List.map iV [2, 3, 1, 0, 4]) rfl rfl (dT rfl) rfl rfl (fun _ => B2 (A7 fun _ => rfl)) (fun _ => rfl) ?_
    intro g24
    obtain ⟨_, _, ⟨n1, rfl, rfl, hn1⟩, hC3⟩ := d0r (oG := oG) bs (p + 1 + 1) hbs hl (by omega) [2, 3, 1, 0, 4] (by decide)
    have hn1b : 0 ≤ n1 ∧ n1 ≤ 4 := by simp at hn1; omega
    apply xC rfl
    ·apply A8
     ·exact K7 rfl (by decide) rfl
     apply A8
     ·exact J2 rfl rfl (by (simp; done)) (fun _ => rfl)
     exact C3
    ·exact hC3
    refine ⟨⟨rfl, rfl, rfl, dT rfl, rfl⟩, .inl rfl, G2 rfl rfl rfl B3, C6 rfl, fun _ => rfl, fun g25 => ?_⟩
    refine y_S rfl <| xN [0,5,6] [0,5] rfl <| B0 <| F5 (β := List Int × Nat × Int) [(.t 0, _), (.t 6, _)] (fun (z : List Int × Nat × Int) => match z with | (xs, g, q) => [(.h 0, .obj 1 4 0 [rdr bs q]), (.t 5, .sl 5 g none 0 xs.length), (.h 5, .obj g 0 1 (xs.map iV))]) (fun (z : List Int × Nat × Int) => match z with | (xs, g, q) => (xs.length : Int) ≤ n1 ∧ p ≤ q ∧ q ≤ p + 4 + xs.length ∧ ∀ x ∈ xs, -20 ≤ x ∧ x ≤ 20) (fun (z : List Int × Nat × Int) => match z with | (xs, g, q) => 5 - xs.length) ([], _, _) ⟨rfl, rfl, rfl, rfl, rfl, trivial⟩ ⟨by simp; omega, by omega, by omega, by simp⟩ ?_
    intro z hb
    obtain ⟨xs, g, q⟩ := z
    try dsimp only at hb
    obtain ⟨hx1, hq1, hq2, hxb⟩ := hb
    refine A3 <| A3 <| A0 <| y_M rfl <| M3 rfl rfl <| y_M rfl <| F8 rfl rfl <| xN [0,5,6,29] [0,5] rfl ?_
    refine A5 rfl ?_ ?_ <;> intro hc <;> try simp only [SL] at hc
    ·refine A6 <| B0 <| A0 <| y_M rfl <| y_M rfl ?_
     obtain ⟨_, _, ⟨k2, rfl, rfl, hk2, -⟩, hC4⟩ := a0m (oG := oG) bs (q) hbs hl (by omega) (41) (by omega)
     have hk2 := hk2 (by omega)
     apply xC rfl
     ·apply A8
      ·exact K7 rfl (by decide) rfl
      apply A8
      ·exact B7 rfl
      exact C3
     ·exact hC4
     refine ⟨⟨rfl, rfl, rfl, dT rfl, rfl⟩, .inl rfl, G2 rfl rfl rfl B3, C6 rfl, fun _ => rfl, fun g32 => ?_⟩
     refine P5 rfl rfl (C4 (by omega)) <| B6 (es := List.map iV [k2 - 20]) rfl rfl (dT rfl) rfl rfl (fun _ => B2 (A7 fun _ => rfl)) (fun _ => rfl) ?_
     intro g34
     refine xA rfl rfl rfl rfl (by simp) (by simp) rfl rfl rfl rfl rfl (fun _ => rfl) (by simp only [LN]; omega) (fun _ => rfl) ?_
     intro g35
     (refine xO rfl rfl (by simp) rfl (fun _ => rfl) (fun _ => rfl) ?_; intro g5)
     refine xN [0,5,6] [0,5] rfl ?_
     refine ⟨(xs ++ [k2 - 20], _, q + 1), ?_, (by simp only [List.length_append, List.length_singleton]; omega), ⟨rfl, rfl, rfl, rfl, rfl, trivial⟩⟩
     refine ⟨?_, ?_, ?_, fun x hx => ?_⟩
     ·simp only [List.length_append, List.length_singleton]; omega
     ·omega
     ·simp only [List.length_append, List.length_singleton]; omega
     rcases List.mem_append.1 hx with hx | hx
     ·exact hxb x hx
     rw [List.mem_singleton.1 hx]; omega
    refine D8 <| A3 <| A0 <| y_M rfl ?_
    have hll := V5 (ns := xs) (fun n hn => by have := hxb n hn; omega)
    apply xC rfl
    ·apply A8
     ·exact H3 rfl rfl rfl (by (simp; done)) (fun _ => rfl)
     exact C3
    ·exact a7d xs (by omega) (fun n hn => by have := hxb n hn; omega)
    refine ⟨⟨rfl, rfl, rfl, dT rfl, rfl⟩, .inr ⟨rfl, rfl⟩, B3, C6 rfl, fun _ => rfl, fun g37 => ?_⟩
    iterate 2 refine M4 rfl rfl (by simp only [H2, List.length_append, List.length_cons, List.length_nil]; omega) ?_
    refine y_S rfl <| xN [4] [0] rfl <| A9 ?_
    refine ⟨_, _, ?_, J0 rfl rfl (J3 rfl rfl)⟩
    exact ⟨_, _, rfl, rfl, by omega, by omega, by (simp only [List.length_append, List.length_cons, List.length_nil]; omega)⟩
   obtain ⟨d1, rfl⟩ : ∃ d1, d = d1 + 1 := ⟨d - 1, by omega⟩
   have hge : gN (d1 + 1) = 2 * gN d1 + 20 := rfl
   have hle : lN (d1 + 1) = 2 * lN d1 + 60 := rfl
   have hgp := b9n d1
   have hlp := c5m d1
   have hlm := c7i (d := d1 + 1) hd
   refine A6 <| A3 <| A3 <| A0 <| y_M rfl ?_
   obtain ⟨_, _, ⟨k3, rfl, rfl, hk3, -⟩, hC5⟩ := a0m (oG := oG) bs (p + 1) hbs hl (by omega) (4) (by omega)
   have hk3 := hk3 (by omega)
   apply xC rfl
   ·apply A8
    ·exact K7 rfl (by decide) rfl
    apply A8
    ·exact B7 rfl
    exact C3
   ·exact hC5
   refine ⟨⟨rfl, rfl, rfl, dT rfl, rfl⟩, .inl rfl, G2 rfl rfl rfl B3, C6 rfl, fun _ => rfl, fun g41 => ?_⟩
   refine O2 rfl rfl <| xN [0,1,42] [0] rfl ?_
   refine A5 rfl ?_ ?_ <;> intro hc <;> try simp only [SL] at hc
   ·refine A3 <| A0 <| y_M rfl <| y_M rfl <| P5 rfl rfl (C4 (by omega)) ?_
    obtain ⟨_, _, ⟨x1, q1, rfl, rfl, hx11, hx12, hx13⟩, hC6⟩ := ih bs (p + 1 + 1) d1 hbs hl (by omega) (by omega) (by omega)
    rw [show ((d1 + 1 : Nat) : Int) - 1 = (d1 : Int) by omega]
    apply xC rfl
    ·apply A8
     ·exact K7 rfl (by decide) rfl
     apply A8
     ·exact B7 rfl
     exact C3
    ·exact hC6
    refine ⟨⟨rfl, rfl, rfl, dT rfl, rfl⟩, .inl rfl, G2 rfl rfl rfl B3, C6 rfl, fun _ => rfl, fun g46 => ?_⟩
    refine y_S rfl <| xN [0,1,7] [0] rfl <| A3 <| A0 <| y_M rfl <| y_S rfl <| xN [0,1,7,8] [0] rfl <| A3 <| A3 <| A0 <| y_M rfl ?_
    obtain ⟨_, _, ⟨k4, rfl, rfl, hk4, -⟩, hC7⟩ := a0m (oG := oG) bs (q1) hbs hl (by omega) (2) (by omega)
    have hk4 := hk4 (by omega)
    apply xC rfl
    ·apply A8
     ·exact K7 rfl (by decide) rfl
     apply A8
     ·exact B7 rfl
     exact C3
    ·exact hC7
    refine ⟨⟨rfl, rfl, rfl, dT rfl, rfl⟩, .inl rfl, G2 rfl rfl rfl B3, C6 rfl, fun _ => rfl, fun g49 => ?_⟩
    refine O2 rfl rfl <| xN [0,1,7,8,50] [0] rfl ?_
    refine A5 rfl ?_ ?_ <;> intro hc <;> try simp only [SL] at hc
    ·refine A0 <| y_M rfl <| y_M rfl <| P5 rfl rfl (C4 (by omega)) ?_
     obtain ⟨_, _, ⟨x2, q2, rfl, rfl, hx21, hx22, hx23⟩, hC8⟩ := ih bs (q1 + 1) d1 hbs hl (by omega) (by omega) (by omega)
     rw [show ((d1 + 1 : Nat) : Int) - 1 = (d1 : Int) by omega]
     apply xC rfl
     ·apply A8
      ·exact K7 rfl (by decide) rfl
      apply A8
      ·exact B7 rfl
      exact C3
     ·exact hC8
     refine ⟨⟨rfl, rfl, rfl, dT rfl, rfl⟩, .inl rfl, G2 rfl rfl rfl B3, C6 rfl, fun _ => rfl, fun g54 => ?_⟩
     refine y_S rfl <| xN [0,7,8] [0] rfl <| A3 <| A0 <| y_M rfl <| B6 (es := List.map tV [[97, 100, 100], [106, 111, 105, 110], [106, 111, 105, 110]]) rfl rfl (dT rfl) rfl rfl (fun _ => B2 (A7 fun _ => rfl)) (fun _ => rfl) ?_
     intro g56
     obtain ⟨_, _, ⟨w2, rfl, rfl, hw2⟩, hC9⟩ := b0f (oG := oG) bs (q2) hbs hl (by omega) [[97, 100, 100], [106, 111, 105, 110], [106, 111, 105, 110]] (by decide)
     have hw2b : w2.length ≤ 4 := by have hall : ∀ x ∈ ([[97, 100, 100], [106, 111, 105, 110], [106, 111, 105, 110]] : List W8), x.length ≤ 4 := (by decide); exact hall _ hw2
     apply xC rfl
     ·apply A8
      ·exact K7 rfl (by decide) rfl
      apply A8
      ·exact J2 rfl rfl (by (simp; done)) (fun _ => rfl)
      exact C3
     ·exact hC9
     refine ⟨⟨rfl, rfl, rfl, dT rfl, rfl⟩, .inl rfl, G2 rfl rfl rfl B3, C6 rfl, fun _ => rfl, fun g57 => ?_⟩
     refine M4 rfl rfl (by simp only [H2, List.length_append, List.length_cons, List.length_nil]; omega) <| y_M rfl ?_
     iterate 2 refine M4 rfl rfl (by simp only [H2, List.length_append, List.length_cons, List.length_nil]; omega) ?_
     refine y_M rfl <| M4 rfl rfl (by simp only [H2, List.length_append, List.length_cons, List.length_nil]; omega) <| y_S rfl <| xN [4] [0] rfl <| A9 ?_
     refine ⟨_, _, ?_, J0 rfl rfl (J3 rfl rfl)⟩
     exact ⟨_, _, rfl, rfl, by omega, by omega, by (simp only [List.length_append, List.length_cons, List.length_nil]; omega)⟩
    refine A6 <| A3 <| A0 <| y_M rfl <| B6 (es := List.map tV [[97, 100, 100], [106, 111, 105, 110], [106, 111, 105, 110]]) rfl rfl (dT rfl) rfl rfl (fun _ => B2 (A7 fun _ => rfl)) (fun _ => rfl) ?_
    intro g56
    obtain ⟨_, _, ⟨w2, rfl, rfl, hw2⟩, hC9⟩ := b0f (oG := oG) bs (q1 + 1) hbs hl (by omega) [[97, 100, 100], [106, 111, 105, 110], [106, 111, 105, 110]] (by decide)
    have hw2b : w2.length ≤ 4 := by have hall : ∀ x ∈ ([[97, 100, 100], [106, 111, 105, 110], [106, 111, 105, 110]] : List W8), x.length ≤ 4 := (by decide); exact hall _ hw2
    apply xC rfl
    ·apply A8
     ·exact K7 rfl (by decide) rfl
     apply A8
     ·exact J2 rfl rfl (by (simp; done)) (fun _ => rfl)
     exact C3
    ·exact hC9
    refine ⟨⟨rfl, rfl, rfl, dT rfl, rfl⟩, .inl rfl, G2 rfl rfl rfl B3, C6 rfl, fun _ => rfl, fun g57 => ?_⟩
    refine M4 rfl rfl (by simp only [H2, List.length_append, List.length_cons, List.length_nil]; omega) <| y_M rfl ?_
    iterate 2 refine M4 rfl rfl (by simp only [H2, List.length_append, List.length_cons, List.length_nil]; omega) ?_
    refine y_M rfl <| M4 rfl rfl (by simp only [H2, List.length_append, List.length_cons, List.length_nil]; omega) <| y_S rfl <| xN [4] [0] rfl <| A9 ?_
    refine ⟨_, _, ?_, J0 rfl rfl (J3 rfl rfl)⟩
    exact ⟨_, _, rfl, rfl, by omega, by omega, by (simp only [List.length_append, List.length_cons, List.length_nil]; omega)⟩
   refine A6 <| A3 <| A0 <| y_M rfl <| B6 (es := List.map tV [[115, 111, 114, 116], [114, 101, 118], [110, 101, 103], [97, 98, 115], [100, 105, 102, 102], [115, 117, 109, 115], [114, 97, 110, 107, 115], [116, 111, 116, 97, 108], [115, 111, 114, 116], [114, 101, 118], [110, 101, 103], [97, 98, 115]]) rfl rfl (dT rfl) rfl rfl (fun _ => B2 (A7 fun _ => rfl)) (fun _ => rfl) ?_
   intro g65
   obtain ⟨_, _, ⟨w3, rfl, rfl, hw3⟩, hC10⟩ := b0f (oG := oG) bs (p + 1 + 1) hbs hl (by omega) [[115, 111, 114, 116], [114, 101, 118], [110, 101, 103], [97, 98, 115], [100, 105, 102, 102], [115, 117, 109, 115], [114, 97, 110, 107, 115], [116, 111, 116, 97, 108], [115, 111, 114, 116], [114, 101, 118], [110, 101, 103], [97, 98, 115]] (by decide)
   have hw3b : w3.length ≤ 5 := by have hall : ∀ x ∈ ([[115, 111, 114, 116], [114, 101, 118], [110, 101, 103], [97, 98, 115], [100, 105, 102, 102], [115, 117, 109, 115], [114, 97, 110, 107, 115], [116, 111, 116, 97, 108], [115, 111, 114, 116], [114, 101, 118], [110, 101, 103], [97, 98, 115]] : List W8), x.length ≤ 5 := (by decide); exact hall _ hw3
   apply xC rfl
   ·apply A8
    ·exact K7 rfl (by decide) rfl
    apply A8
    ·exact J2 rfl rfl (by (simp; done)) (fun _ => rfl)
    exact C3
   ·exact hC10
   refine ⟨⟨rfl, rfl, rfl, dT rfl, rfl⟩, .inl rfl, G2 rfl rfl rfl B3, C6 rfl, fun _ => rfl, fun g66 => ?_⟩
   refine M4 rfl rfl (by simp only [H2, List.length_append, List.length_cons, List.length_nil]; omega) <| y_M rfl <| y_M rfl <| P5 rfl rfl (C4 (by omega)) ?_
   obtain ⟨_, _, ⟨x3, q3, rfl, rfl, hx31, hx32, hx33⟩, hC11⟩ := ih bs (p + 1 + 1 + 1) d1 hbs hl (by omega) (by omega) (by omega)
   rw [show ((d1 + 1 : Nat) : Int) - 1 = (d1 : Int) by omega]
   apply xC rfl
   ·apply A8
    ·exact K7 rfl (by decide) rfl
    apply A8
    ·exact B7 rfl
    exact C3
   ·exact hC11
   refine ⟨⟨rfl, rfl, rfl, dT rfl, rfl⟩, .inl rfl, G2 rfl rfl rfl B3, C6 rfl, fun _ => rfl, fun g71 => ?_⟩
   refine M4 rfl rfl (by simp only [H2, List.length_append, List.length_cons, List.length_nil]; omega) <| y_S rfl <| xN [4] [0] rfl <| A9 ?_
   refine ⟨_, _, ?_, J0 rfl rfl (J3 rfl rfl)⟩
   exact ⟨_, _, rfl, rfl, by omega, by omega, by (simp only [List.length_append, List.length_cons, List.length_nil]; omega)⟩
  refine gF rfl rfl <| gF rfl rfl <| E8 rfl (by assumption) rfl rfl <| xN [0,1,15] [0] rfl ?_
  refine A5 rfl (fun hc => ?_) (fun hc => absurd hc (by decide))
  refine A3 <| A3 <| A0 <| y_M rfl ?_
  obtain ⟨_, _, ⟨k1, rfl, rfl, hk1, -⟩, hC1⟩ := a0m (oG := oG) bs (p) hbs hl (by omega) (2) (by omega)
  have hk1 := hk1 (by omega)
  apply xC rfl
  ·apply A8
   ·exact K7 rfl (by decide) rfl
   apply A8
   ·exact B7 rfl
   exact C3
  ·exact hC1
  refine ⟨⟨rfl, rfl, rfl, dT rfl, rfl⟩, .inl rfl, G2 rfl rfl rfl B3, C6 rfl, fun _ => rfl, fun g17 => ?_⟩
  refine O2 rfl rfl <| xN [0,18] [0] rfl ?_
  refine A5 rfl ?_ ?_ <;> intro hc <;> try simp only [SL] at hc
  ·refine A3 <| A0 <| y_M rfl <| B6 (es := List.map tV [[97], [98], [97], [99], [100]]) rfl rfl (dT rfl) rfl rfl (fun _ => B2 (A7 fun _ => rfl)) (fun _ => rfl) ?_
   intro g20
   obtain ⟨_, _, ⟨w1, rfl, rfl, hw1⟩, hC2⟩ := b0f (oG := oG) bs (p + 1) hbs hl (by omega) [[97], [98], [97], [99], [100]] (by decide)
   have hw1b : w1.length ≤ 1 := by have hall : ∀ x ∈ ([[97], [98], [97], [99], [100]] : List W8), x.length ≤ 1 := (by decide); exact hall _ hw1
   apply xC rfl
   ·apply A8
    ·exact K7 rfl (by decide) rfl
    apply A8
    ·exact J2 rfl rfl (by (simp; done)) (fun _ => rfl)
    exact C3
   ·exact hC2
   refine ⟨⟨rfl, rfl, rfl, dT rfl, rfl⟩, .inl rfl, G2 rfl rfl rfl B3, C6 rfl, fun _ => rfl, fun g21 => ?_⟩
   refine y_S rfl <| xN [4] [0] rfl <| A9 ?_
   refine ⟨_, _, ?_, J0 rfl rfl (J3 rfl rfl)⟩
   exact ⟨_, _, rfl, rfl, by omega, by omega, by omega⟩
  refine A6 <| A3 <| A0 <| B6 (es := List.map iV []) rfl rfl (dT rfl) rfl rfl (fun _ => B2 (A7 fun _ => rfl)) (fun _ => rfl) ?_
  intro g22
  (refine xO rfl rfl (by simp) rfl (fun _ => rfl) (fun _ => rfl) ?_; intro g5)
  refine xN [0,5] [0,5] rfl <| A3 <| A3 <| A0 <| y_M rfl <| B6 (es := List.map iV [2, 3, 1, 0, 4]) rfl rfl (dT rfl) rfl rfl (fun _ => B2 (A7 fun _ => rfl)) (fun _ => rfl) ?_
  intro g24
  obtain ⟨_, _, ⟨n1, rfl, rfl, hn1⟩, hC3⟩ := d0r (oG := oG) bs (p + 1) hbs hl (by omega) [2, 3, 1, 0, 4] (by decide)
  have hn1b : 0 ≤ n1 ∧ n1 ≤ 4 := by simp at hn1; omega
  apply xC rfl
  ·apply A8
   ·exact K7 rfl (by decide) rfl
   apply A8
   ·exact J2 rfl rfl (by (simp; done)) (fun _ => rfl)
   exact C3
  ·exact hC3
  refine ⟨⟨rfl, rfl, rfl, dT rfl, rfl⟩, .inl rfl, G2 rfl rfl rfl B3, C6 rfl, fun _ => rfl, fun g25 => ?_⟩
  refine y_S rfl <| xN [0,5,6] [0,5] rfl <| B0 <| F5 (β := List Int × Nat × Int) [(.t 0, _), (.t 6, _)] (fun (z : List Int × Nat × Int) => match z with | (xs, g, q) => [(.h 0, .obj 1 4 0 [rdr bs q]), (.t 5, .sl 5 g none 0 xs.length), (.h 5, .obj g 0 1 (xs.map iV))]) (fun (z : List Int × Nat × Int) => match z with | (xs, g, q) => (xs.length : Int) ≤ n1 ∧ p ≤ q ∧ q ≤ p + 4 + xs.length ∧ ∀ x ∈ xs, -20 ≤ x ∧ x ≤ 20) (fun (z : List Int × Nat × Int) => match z with | (xs, g, q) => 5 - xs.length) ([], _, _) ⟨rfl, rfl, rfl, rfl, rfl, trivial⟩ ⟨by simp; omega, by omega, by omega, by simp⟩ ?_
  intro z hb
  obtain ⟨xs, g, q⟩ := z
  try dsimp only at hb
  obtain ⟨hx1, hq1, hq2, hxb⟩ := hb
  refine A3 <| A3 <| A0 <| y_M rfl <| M3 rfl rfl <| y_M rfl <| F8 rfl rfl <| xN [0,5,6,29] [0,5] rfl ?_
  refine A5 rfl ?_ ?_ <;> intro hc <;> try simp only [SL] at hc
  ·refine A6 <| B0 <| A0 <| y_M rfl <| y_M rfl ?_
   obtain ⟨_, _, ⟨k2, rfl, rfl, hk2, -⟩, hC4⟩ := a0m (oG := oG) bs (q) hbs hl (by omega) (41) (by omega)
   have hk2 := hk2 (by omega)
   apply xC rfl
   ·apply A8
    ·exact K7 rfl (by decide) rfl
    apply A8
    ·exact B7 rfl
    exact C3
   ·exact hC4
   refine ⟨⟨rfl, rfl, rfl, dT rfl, rfl⟩, .inl rfl, G2 rfl rfl rfl B3, C6 rfl, fun _ => rfl, fun g32 => ?_⟩
   refine P5 rfl rfl (C4 (by omega)) <| B6 (es := List.map iV [k2 - 20]) rfl rfl (dT rfl) rfl rfl (fun _ => B2 (A7 fun _ => rfl)) (fun _ => rfl) ?_
   intro g34
   refine xA rfl rfl rfl rfl (by simp) (by simp) rfl rfl rfl rfl rfl (fun _ => rfl) (by simp only [LN]; omega) (fun _ => rfl) ?_
   intro g35
   (refine xO rfl rfl (by simp) rfl (fun _ => rfl) (fun _ => rfl) ?_; intro g5)
   refine xN [0,5,6] [0,5] rfl ?_
   refine ⟨(xs ++ [k2 - 20], _, q + 1), ?_, (by simp only [List.length_append, List.length_singleton]; omega), ⟨rfl, rfl, rfl, rfl, rfl, trivial⟩⟩
   refine ⟨?_, ?_, ?_, fun x hx => ?_⟩
   ·simp only [List.length_append, List.length_singleton]; omega
   ·omega
   ·simp only [List.length_append, List.length_singleton]; omega
   rcases List.mem_append.1 hx with hx | hx
   ·exact hxb x hx
   rw [List.mem_singleton.1 hx]; omega
  refine D8 <| A3 <| A0 <| y_M rfl ?_
  have hll := V5 (ns := xs) (fun n hn => by have := hxb n hn; omega)
  apply xC rfl
  ·apply A8
   ·exact H3 rfl rfl rfl (by (simp; done)) (fun _ => rfl)
   exact C3
  ·exact a7d xs (by omega) (fun n hn => by have := hxb n hn; omega)
  refine ⟨⟨rfl, rfl, rfl, dT rfl, rfl⟩, .inr ⟨rfl, rfl⟩, B3, C6 rfl, fun _ => rfl, fun g37 => ?_⟩
  iterate 2 refine M4 rfl rfl (by simp only [H2, List.length_append, List.length_cons, List.length_nil]; omega) ?_
  refine y_S rfl <| xN [4] [0] rfl <| A9 ?_
  refine ⟨_, _, ?_, J0 rfl rfl (J3 rfl rfl)⟩
  exact ⟨_, _, rfl, rfl, by omega, by omega, by (simp only [List.length_append, List.length_cons, List.length_nil]; omega)⟩

theorem b6j : E7 Tryz.f95 = [0, 1, 4, 12, 13, 5, 19, 32, 37] := by kernel_rfl
theorem d3c (bs : List Int) (p : Int) (hbs : a3r bs) (hl : bs.length ≤ 1048576) (hp : 0 ≤ p ∧ p ≤ 100000000) (s : W8) (hs : s.length ≤ 100000) : ∃ res outs, (fun res outs => ∃ (x : W8) (q : Int), res = tV x ∧ outs = [[rdr bs q]] ∧ p ≤ q ∧ q ≤ p + 10 ∧ x.length ≤ s.length + 10) res outs ∧ CW (cxT oG) 95 [.ownp [rdr bs p] 0 0, tV s] = some (res, outs) := by
 refine P3 rfl Tryz.func95 rfl ⟨by kernel_rfl, rfl, dT rfl, dT rfl, by decide⟩ b6j <| A3 <| A0 <| y_S rfl <| xN [0,1] [0] rfl <| A3 <| A0 <| y_M rfl <| y_M rfl <| a1n rfl rfl <| E6 rfl rfl (C4 (by omega)) ?_
 obtain ⟨_, _, ⟨k0, rfl, rfl, hk0, -⟩, hC0⟩ := a0m (oG := oG) bs (p) hbs hl (by omega) (s.length + 1) (by omega)
 have hk0 := hk0 (by omega)
 apply xC rfl
 ·apply A8
  ·exact K7 rfl (by decide) rfl
  apply A8
  ·exact B7 rfl
  exact C3
 ·exact hC0
 refine ⟨⟨rfl, rfl, rfl, dT rfl, rfl⟩, .inl rfl, G2 rfl rfl rfl B3, C6 rfl, fun _ => rfl, fun g10 => ?_⟩
 refine y_S rfl <| xN [0,1,5] [0] rfl <| A3 <| A3 <| A0 <| y_M rfl ?_
 obtain ⟨_, _, ⟨k1, rfl, rfl, hk1, -⟩, hC1⟩ := a0m (oG := oG) bs (p + 1) hbs hl (by omega) (5) (by omega)
 have hk1 := hk1 (by omega)
 apply xC rfl
 ·apply A8
  ·exact K7 rfl (by decide) rfl
  apply A8
  ·exact B7 rfl
  exact C3
 ·exact hC1
 refine ⟨⟨rfl, rfl, rfl, dT rfl, rfl⟩, .inl rfl, G2 rfl rfl rfl B3, C6 rfl, fun _ => rfl, fun g12 => ?_⟩
 refine xN [0,1,5,12] [0] rfl <| B0 <| A3 <| A3 <| A0 <| O2 rfl rfl <| y_S rfl <| xN [0,1,5,12,13] [0] rfl ?_
 refine A5 rfl ?_ ?_ <;> intro hc <;> try simp only [SL] at hc
 ·refine A6 ?_
  refine A5 rfl (fun hc => ?_) (fun hc => absurd hc (by simp_all))
  refine A3 <| A0 <| y_M rfl <| y_M rfl <| a1n rfl rfl <| F8 rfl rfl <| xN [0,1,5,19] [0] rfl ?_
  refine A5 rfl ?_ ?_ <;> intro hc <;> try simp only [SL] at hc
  ·refine A3 <| A0 <| y_M rfl <| y_M rfl <| U2 rfl rfl (P6 rfl (by omega)) H6 (by omega) <| y_M rfl <| B6 (es := List.map tV [[48], [49], [97], [44], [45], [93], [32]]) rfl rfl (dT rfl) rfl rfl (fun _ => B2 (A7 fun _ => rfl)) (fun _ => rfl) ?_
   intro g24
   obtain ⟨_, _, ⟨w1, rfl, rfl, hw1⟩, hC2⟩ := b0f (oG := oG) bs (p + 1 + 1) hbs hl (by omega) [[48], [49], [97], [44], [45], [93], [32]] (by decide)
   have hw1b : w1.length ≤ 1 := by have hall : ∀ x ∈ ([[48], [49], [97], [44], [45], [93], [32]] : List W8), x.length ≤ 1 := (by decide); exact hall _ hw1
   apply xC rfl
   ·apply A8
    ·exact K7 rfl (by decide) rfl
    apply A8
    ·exact J2 rfl rfl (by (simp; done)) (fun _ => rfl)
    exact C3
   ·exact hC2
   refine ⟨⟨rfl, rfl, rfl, dT rfl, rfl⟩, .inl rfl, G2 rfl rfl rfl B3, C6 rfl, fun _ => rfl, fun g25 => ?_⟩
   refine M4 rfl rfl (by simp only [H2, List.length_append, List.length_take, List.length_drop]; omega) <| y_M rfl <| y_M rfl <| E6 rfl rfl (C4 (by omega)) <| U2 rfl rfl H6 (P6 rfl (by omega)) (by omega) <| M4 rfl rfl (by simp only [H2, List.length_append, List.length_take, List.length_drop]; omega) <| y_S rfl ?_
   refine J7 ⟨fun _ => ⟨by (simp only [a0h, List.nil_append, List.append_nil, List.map_cons, List.map_nil, List.cons_append]; decide +kernel), by decide +kernel⟩, [(.t 4, _), (.h 0, _)], ⟨rfl, rfl, rfl, rfl, trivial⟩, ?_⟩
   refine A9 ?_
   refine ⟨_, _, ?_, J0 rfl rfl (J3 rfl rfl)⟩
   exact ⟨_, _, rfl, rfl, by omega, by omega, by (simp only [List.length_append, List.length_cons, List.length_nil, List.length_take, List.length_drop]; omega)⟩
  refine A6 <| A3 <| A0 <| y_M rfl <| y_S rfl <| xN [4] [0] rfl <| A9 ?_
  refine ⟨_, _, ?_, J0 rfl rfl (J3 rfl rfl)⟩
  exact ⟨_, _, rfl, rfl, by omega, by omega, by omega⟩
 refine A0 <| O2 rfl rfl <| y_S rfl <| xN [0,1,5,12,13] [0] rfl ?_
 refine A5 rfl ?_ ?_ <;> intro hc <;> try simp only [SL] at hc
 ·refine A3 <| A0 <| y_M rfl <| y_M rfl <| a1n rfl rfl <| F8 rfl rfl <| xN [0,1,5,19] [0] rfl ?_
  refine A5 rfl ?_ ?_ <;> intro hc <;> try simp only [SL] at hc
  ·refine A3 <| A0 <| y_M rfl <| y_M rfl <| U2 rfl rfl (P6 rfl (by omega)) H6 (by omega) <| y_M rfl <| B6 (es := List.map tV [[48], [49], [97], [44], [45], [93], [32]]) rfl rfl (dT rfl) rfl rfl (fun _ => B2 (A7 fun _ => rfl)) (fun _ => rfl) ?_
   intro g24
   obtain ⟨_, _, ⟨w1, rfl, rfl, hw1⟩, hC2⟩ := b0f (oG := oG) bs (p + 1 + 1) hbs hl (by omega) [[48], [49], [97], [44], [45], [93], [32]] (by decide)
   have hw1b : w1.length ≤ 1 := by have hall : ∀ x ∈ ([[48], [49], [97], [44], [45], [93], [32]] : List W8), x.length ≤ 1 := (by decide); exact hall _ hw1
   apply xC rfl
   ·apply A8
    ·exact K7 rfl (by decide) rfl
    apply A8
    ·exact J2 rfl rfl (by (simp; done)) (fun _ => rfl)
    exact C3
   ·exact hC2
   refine ⟨⟨rfl, rfl, rfl, dT rfl, rfl⟩, .inl rfl, G2 rfl rfl rfl B3, C6 rfl, fun _ => rfl, fun g25 => ?_⟩
   refine M4 rfl rfl (by simp only [H2, List.length_append, List.length_take, List.length_drop]; omega) <| y_M rfl <| y_M rfl <| E6 rfl rfl (C4 (by omega)) <| U2 rfl rfl H6 (P6 rfl (by omega)) (by omega) <| M4 rfl rfl (by simp only [H2, List.length_append, List.length_take, List.length_drop]; omega) <| y_S rfl ?_
   refine J7 ⟨fun _ => ⟨by (simp only [a0h, List.nil_append, List.append_nil, List.map_cons, List.map_nil, List.cons_append]; decide +kernel), by decide +kernel⟩, [(.t 4, _), (.h 0, _)], ⟨rfl, rfl, rfl, rfl, trivial⟩, ?_⟩
   refine A9 ?_
   refine ⟨_, _, ?_, J0 rfl rfl (J3 rfl rfl)⟩
   exact ⟨_, _, rfl, rfl, by omega, by omega, by (simp only [List.length_append, List.length_cons, List.length_nil, List.length_take, List.length_drop]; omega)⟩
  refine A6 <| A3 <| A0 <| y_M rfl <| y_S rfl <| xN [4] [0] rfl <| A9 ?_
  refine ⟨_, _, ?_, J0 rfl rfl (J3 rfl rfl)⟩
  exact ⟨_, _, rfl, rfl, by omega, by omega, by omega⟩
 refine A3 <| A0 <| O2 rfl rfl <| y_S rfl <| xN [0,1,5,12,32] [0] rfl ?_
 refine A5 rfl ?_ ?_ <;> intro hc <;> try simp only [SL] at hc
 ·refine A3 <| A0 <| y_M rfl <| y_M rfl <| U2 rfl rfl (P6 rfl (by omega)) H6 (by omega) <| y_S rfl <| xN [4] [0] rfl <| A9 ?_
  refine ⟨_, _, ?_, J0 rfl rfl (J3 rfl rfl)⟩
  exact ⟨_, _, rfl, rfl, by omega, by omega, by (simp only [List.length_append, List.length_cons, List.length_nil, List.length_take, List.length_drop]; omega)⟩
 refine A3 <| A0 <| O2 rfl rfl <| y_S rfl <| xN [0,1,37] [0] rfl ?_
 refine A5 rfl ?_ ?_ <;> intro hc <;> try simp only [SL] at hc
 ·refine A3 <| A0 <| y_M rfl <| y_M rfl <| B6 (es := List.map tV [[48], [44], [32], [32, 97]]) rfl rfl (dT rfl) rfl rfl (fun _ => B2 (A7 fun _ => rfl)) (fun _ => rfl) ?_
  intro g41
  obtain ⟨_, _, ⟨w2, rfl, rfl, hw2⟩, hC3⟩ := b0f (oG := oG) bs (p + 1 + 1) hbs hl (by omega) [[48], [44], [32], [32, 97]] (by decide)
  have hw2b : w2.length ≤ 2 := by have hall : ∀ x ∈ ([[48], [44], [32], [32, 97]] : List W8), x.length ≤ 2 := (by decide); exact hall _ hw2
  apply xC rfl
  ·apply A8
   ·exact K7 rfl (by decide) rfl
   apply A8
   ·exact J2 rfl rfl (by (simp; done)) (fun _ => rfl)
   exact C3
  ·exact hC3
  refine ⟨⟨rfl, rfl, rfl, dT rfl, rfl⟩, .inl rfl, G2 rfl rfl rfl B3, C6 rfl, fun _ => rfl, fun g42 => ?_⟩
  refine M4 rfl rfl (by simp only [H2, List.length_append, List.length_cons, List.length_nil]; omega) <| y_S rfl <| xN [4] [0] rfl <| A9 ?_
  refine ⟨_, _, ?_, J0 rfl rfl (J3 rfl rfl)⟩
  exact ⟨_, _, rfl, rfl, by omega, by omega, by (simp only [List.length_append, List.length_cons, List.length_nil, List.length_take, List.length_drop]; omega)⟩
 refine A6 <| A3 <| A0 <| y_M rfl <| y_S rfl <| xN [4] [0] rfl <| A9 ?_
 refine ⟨_, _, ?_, J0 rfl rfl (J3 rfl rfl)⟩
 exact ⟨_, _, rfl, rfl, by omega, by omega, by omega⟩

theorem b1n : E7 Tryz.f55 = [0, 2, 11, 3] := by kernel_rfl
theorem c5d (bs : List Int) (p : Int) (hbs : a3r bs) (hl : bs.length ≤ 1048576) (hp : 0 ≤ p ∧ p ≤ 1000000) : ∃ res outs, (fun res outs => ∃ (x : W8) (q : Int), res = tV x ∧ outs = [[rdr bs q]] ∧ p ≤ q ∧ q ≤ p + 3000 ∧ x.length ≤ 5000) res outs ∧ CW (cxT oG) 55 [.ownp [rdr bs p] 0 0] = some (res, outs) := by
 refine P3 rfl Tryz.func55 rfl ⟨by kernel_rfl, rfl, dT rfl, dT rfl, by decide⟩ b1n <| A3 <| A0 <| y_S rfl <| xN [0] [0] rfl <| A3 <| A0 <| y_M rfl <| y_M rfl <| B6 (es := List.map iV [3, 4, 2, 5, 1, 0]) rfl rfl (dT rfl) rfl rfl (fun _ => B2 (A7 fun _ => rfl)) (fun _ => rfl) ?_
 intro g6
 obtain ⟨_, _, ⟨k0, rfl, rfl, hk0⟩, hC0⟩ := d0r (oG := oG) bs (p) hbs hl (by omega) [3, 4, 2, 5, 1, 0] (by decide)
 have hk0b : 0 ≤ k0 ∧ k0 ≤ 5 := by simp at hk0; omega
 obtain ⟨d, rfl⟩ : ∃ d : Nat, k0 = d := ⟨k0.toNat, by omega⟩
 have hgm := d4z (d := d) (by omega)
 have hlm := c7i (d := d) (by omega)
 have hgp := b9n d
 apply xC rfl
 ·apply A8
  ·exact K7 rfl (by decide) rfl
  apply A8
  ·exact J2 rfl rfl (by (simp; done)) (fun _ => rfl)
  exact C3
 ·exact hC0
 refine ⟨⟨rfl, rfl, rfl, dT rfl, rfl⟩, .inl rfl, G2 rfl rfl rfl B3, C6 rfl, fun _ => rfl, fun g7 => ?_⟩
 obtain ⟨_, _, ⟨x, q, rfl, rfl, hx1, hx2, hx3⟩, hC1⟩ := c6q (oG := oG) bs (p + 1) d hbs hl (by omega) (by omega)
 apply xC rfl
 ·apply A8
  ·exact K7 rfl (by decide) rfl
  apply A8
  ·exact B7 rfl
  exact C3
 ·exact hC1
 refine ⟨⟨rfl, rfl, rfl, dT rfl, rfl⟩, .inl rfl, G2 rfl rfl rfl B3, C6 rfl, fun _ => rfl, fun g8 => ?_⟩
 refine y_S rfl <| xN [0,3] [0] rfl <| A3 <| A3 <| A0 <| y_M rfl ?_
 obtain ⟨_, _, ⟨k1, rfl, rfl, hk1, -⟩, hC2⟩ := a0m (oG := oG) bs (q) hbs hl (by omega) (16) (by omega)
 have hk1 := hk1 (by omega)
 apply xC rfl
 ·apply A8
  ·exact K7 rfl (by decide) rfl
  apply A8
  ·exact B7 rfl
  exact C3
 ·exact hC2
 refine ⟨⟨rfl, rfl, rfl, dT rfl, rfl⟩, .inl rfl, G2 rfl rfl rfl B3, C6 rfl, fun _ => rfl, fun g10 => ?_⟩
 refine O2 rfl rfl <| xN [0,3,11] [0] rfl ?_
 refine A5 rfl ?_ ?_ <;> intro hc <;> try simp only [SL] at hc
 ·refine A0 <| y_M rfl <| y_M rfl ?_
  obtain ⟨_, _, ⟨y, q2, rfl, rfl, hy1, hy2, hy3⟩, hC3⟩ := d3c (oG := oG) bs (q + 1) hbs hl (by omega) x (by omega)
  apply xC rfl
  ·apply A8
   ·exact K7 rfl (by decide) rfl
   apply A8
   ·exact B7 rfl
   exact C3
  ·exact hC3
  refine ⟨⟨rfl, rfl, rfl, dT rfl, rfl⟩, .inl rfl, G2 rfl rfl rfl B3, C6 rfl, fun _ => rfl, fun g14 => ?_⟩
  refine y_S rfl <| xN [3] [0] rfl <| A3 <| A0 <| y_M rfl <| y_S rfl <| xN [2] [0] rfl <| A9 ?_
  refine ⟨_, _, ?_, J0 rfl rfl (J3 rfl rfl)⟩
  exact ⟨_, _, rfl, rfl, by omega, by omega, by omega⟩
 refine A6 <| A3 <| A0 <| y_M rfl <| y_S rfl <| xN [2] [0] rfl <| A9 ?_
 refine ⟨_, _, ?_, J0 rfl rfl (J3 rfl rfl)⟩
 exact ⟨_, _, rfl, rfl, by omega, by omega, by omega⟩

theorem a6i : E7 Tryz.f52 = [0, 2] := by kernel_rfl
theorem b3g (bs : List Int) (hbs : a3r bs) (hl : bs.length ≤ 1048576) : ∃ res outs, (fun res outs => ∃ x : W8, res = tV x ∧ outs = [] ∧ x.length ≤ 5000) res outs ∧ CW (cxT oG) 52 [.list (bs.map uV)] = some (res, outs) := by
 refine P3 rfl Tryz.func52 rfl ⟨by kernel_rfl, rfl, dT rfl, dT rfl, by decide⟩ a6i <| A3 <| A0 <| y_S rfl <| xN [0] [] rfl <| A3 <| A0 <| y_M rfl ?_
 obtain ⟨_, _, ⟨rfl, rfl⟩, hC0⟩ := c1k (oG := oG) bs hl
 have hbs2 : a3r (bs.take 2000) := fun b hb => hbs b (List.mem_of_mem_take hb)
 have hl2 : (bs.take 2000).length ≤ 1048576 := by simp; omega
 apply xC rfl
 ·apply A8
  ·exact B7 rfl
  exact C3
 ·exact hC0
 refine ⟨⟨rfl, rfl, rfl, dT rfl, rfl⟩, .inl rfl, B3, d3h, fun _ => rfl, fun g4 => ?_⟩
 obtain ⟨_, _, ⟨x, q, rfl, rfl, -, -, hx3⟩, hC1⟩ := c5d (oG := oG) (bs.take 2000) 0 hbs2 hl2 (by omega)
 apply xC rfl
 ·apply A8
  ·exact K7 rfl (by decide) rfl
  exact C3
 ·exact hC1
 refine ⟨⟨rfl, rfl, rfl, dT rfl, rfl⟩, .inl rfl, G2 rfl rfl rfl B3, C6 rfl, fun _ => rfl, fun g5 => ?_⟩
 refine y_S rfl <| xN [2] [] rfl <| A9 ?_
 refine ⟨_, _, ?_, J0 rfl rfl B5⟩
 exact ⟨x, rfl, rfl, hx3⟩

theorem b9x : E7 Tryz.f112 = [0, 2] := by kernel_rfl
theorem c7x (xs : List Int) (hx : xs.length ≤ H2) : CW (cxT oG) 112 [.own 1 (xs.map iV)] = some (.own 1 (xs.map iV), []) := by
 refine E4 rfl Tryz.func112 rfl ⟨by kernel_rfl, rfl, dT rfl, dT rfl, by decide⟩ b9x <| A3 <| A0 ?_
 (refine B1 rfl rfl (fun _ => rfl) ?_; intro g2)
 refine xN [0] [0] rfl <| A3 <| A0 <| y_M rfl <| y_M rfl <| M3 rfl rfl <| y_M rfl <| M3 rfl rfl ?_
 refine d6e rfl rfl rfl rfl rfl rfl (fun hz => ?_) (fun hz => ?_)
 ·skip
  (refine B1 rfl rfl (fun _ => rfl) ?_; intro g2)
  refine xN [2] [0,2] rfl <| A9 <| R8 rfl rfl (by (simp; done)) (by rfl) trivial ?_
  (have h0 : xs = [] := (by simpa using hz); subst h0; rfl)
 skip
 (refine xO rfl rfl (by simp) rfl (fun _ => rfl) (fun _ => rfl) ?_; intro g2)
 refine xN [2] [0,2] rfl <| A9 <| R8 rfl rfl (by (simp; done)) (by exact A7 fun _ => rfl) trivial ?_
 rfl

theorem c0j : E7 Tryz.f105 = [0, 2] := by kernel_rfl
theorem c7m (x : List Int) (hl : x.length ≤ 1048576) : CW (cxT oG) 105 [L x] = some (.own 1 (x.map iV), []) := by
 refine E4 rfl Tryz.func105 rfl ⟨by kernel_rfl, rfl, dT rfl, dT rfl, by decide⟩ c0j <| A3 <| A0 ?_
 (refine B1 rfl rfl (fun _ => rfl) ?_; intro g2)
 refine xN [0] [] rfl <| A3 <| A0 <| y_M rfl ?_
 apply xC rfl
 ·apply A8
  ·exact B7 rfl
  exact C3
 ·exact c6y x (by simp only [H2]; omega)
 refine ⟨⟨rfl, rfl, rfl, dT rfl, rfl⟩, .inl rfl, B3, M9, fun _ => rfl, fun g4 => ?_⟩
 simp only [List.length_map]
 apply xC rfl
 ·apply A8
  ·exact c7n rfl rfl (by (simp; done)) (A7 fun _ => rfl)
  exact C3
 ·exact c7x x (by simp only [H2]; omega)
 refine ⟨⟨rfl, rfl, rfl, dT rfl, rfl⟩, .inl rfl, B3, M9, fun _ => rfl, fun g5 => ?_⟩
 simp only [List.length_map]
 (refine xO rfl rfl (by simp) rfl (fun _ => rfl) (fun _ => rfl) ?_; intro g2)
 refine xN [2] [2] rfl <| A9 <| R8 rfl rfl (by simp) (by exact A7 fun _ => rfl) trivial ?_
 rfl

theorem a9y : E7 Tryz.f17 = [0, 1, 4, 10, 5, 14, 25] := by kernel_rfl
theorem c2e (a b : List Int) (ha : a.length ≤ 1048576) (hlb : b.length ≤ 1048576) : CW (cxT oG) 17 [L a, L b] = some (bV (decide (a = b)), []) := by
 refine E4 rfl Tryz.func17 rfl ⟨by kernel_rfl, rfl, dT rfl, dT rfl, by decide⟩ a9y <| A3 <| A0 <| y_S rfl <| xN [0,1] [] rfl <| A3 <| A3 <| A0 <| y_M rfl <| B9 rfl rfl <| y_M rfl <| B9 rfl rfl <| b7n rfl rfl <| xN [0,1,10] [] rfl ?_
 refine A5 rfl ?_ ?_ <;> intro hc <;> try simp only [SL] at hc
 ·refine A3 <| A0 <| y_S rfl <| xN [4] [] rfl <| A9 <| C0 rfl rfl trivial ?_
  rw [b1t (by omega)]
  rfl
 refine A6 <| A3 <| A3 <| A0 <| y_S rfl <| xN [0,1,5] [] rfl <| B0 <| F5 (β := Nat) [(.t 0, _), (.t 1, _)] (fun (i : Nat) => [(.t 5, iV i)]) (fun (i : Nat) => i ≤ a.length ∧ ∀ j, j < i → a.getD j default = b.getD j default) (fun (i : Nat) => a.length - i) 0 ⟨rfl, rfl, rfl, trivial⟩ ⟨Nat.zero_le _, fun j h => by omega⟩ ?_
 intro i hb
 obtain ⟨hi1, hi2⟩ := hb
 refine A3 <| A3 <| A0 <| y_M rfl <| y_M rfl <| B9 rfl rfl <| F8 rfl rfl <| xN [0,1,5,14] [] rfl ?_
 refine A5 rfl ?_ ?_ <;> intro hc <;> try simp only [SL] at hc
 ·refine A6 <| A3 <| B0 <| A3 <| A0 <| y_M rfl <| y_M rfl <| B8 rfl rfl rfl (fun _ => rfl) (by omega) <| y_I rfl <| y_M rfl <| y_M rfl <| B8 rfl rfl rfl (fun _ => rfl) (by omega) <| y_I rfl <| b7n rfl rfl ?_
  refine J7 ⟨fun _ => ⟨by decide +kernel, by decide +kernel⟩, [(.t 0, _), (.t 1, _), (.t 5, _), (.t 25, _)], ⟨rfl, rfl, rfl, rfl, rfl, rfl, rfl, rfl, trivial⟩, ?_⟩
  refine A5 rfl ?_ ?_ <;> intro hc <;> try simp only [SL] at hc
  ·refine A3 <| A0 <| y_S rfl <| xN [4] [] rfl <| A9 <| C0 rfl rfl trivial ?_
   rw [b4c (i := i) (by omega) (by assumption)]
   rfl
  refine A6 <| A0 <| y_M rfl <| E6 rfl rfl (C4 (by omega)) <| y_S rfl <| xN [0,1,5] [] rfl ?_
  refine ⟨i + 1, ⟨by omega, fun j hj => by rcases Nat.lt_succ_iff_lt_or_eq.1 hj with h | h; (· exact hi2 j h); (· subst h; assumption)⟩, (by omega), ⟨rfl, rfl, rfl, trivial⟩⟩
 refine D8 <| A3 <| A0 <| y_S rfl <| xN [4] [] rfl <| A9 <| C0 rfl rfl trivial ?_
 rw [b4o (by omega) fun j hj => hi2 j (by omega)]
 rfl

theorem c2f : E7 Tryz.f119 = [0, 2, 1, 10, 17, 16, 18, 15, 5, 3] := by kernel_rfl
theorem d7k (t : Pl) (hln : (L5 t).length ≤ 1048576) (hgd : t.good) : CW (cxT oG) 119 [trK t] = some (tV (L5 t), []) := by
 obtain ⟨kk, hkk⟩ : ∃ kk : Nat, t.sz < kk := ⟨_, Nat.lt_succ_self _⟩
 revert t
 induction kk with
 | zero => intro t hln hgd hkk; exact absurd hkk (Nat.not_lt_zero _)
 | succ kk ih =>
  intro t hln hgd hkk
  have hkl := b2q t
  have hkz := fun i => a1a (t := t) (i := i)
  have hkg := fun i => c1o hgd (i := i)
  have hst := fun i h => b4i (t := t) h (i := i)
  have hall := fun h => a9k (t := t) h
  have hnl : t.op = lW → t.kids.length = 0 ∧ R5 t.ns = L5 t := fun e => by obtain ⟨ns, rfl, _⟩ := W0 hgd e; exact ⟨rfl, rfl⟩
  have hvn := d4v hgd
  have hvl := a9p hvn
  have hnb := c7p hvn
  have hll := V5 hnb
  refine E4 rfl Tryz.func119 rfl ⟨by kernel_rfl, rfl, dT rfl, dT rfl, by decide⟩ c2f <| A3 <| A0 <| a2g rfl rfl rfl (fun _ => M2 rfl) (fun _ => rfl) ?_
  intro g1
  refine y_S rfl <| xN [1] [1] rfl <| A3 <| A0 <| y_F rfl <| y_L rfl <| y_S rfl <| xN [1,3] [1] rfl <| A3 <| A3 <| A0 <| y_F rfl <| y_L rfl <| Q7 rfl rfl <| xN [1,3,10] [1] rfl ?_
  refine A5 rfl ?_ ?_ <;> intro hc <;> try simp only [SL] at hc
  ·refine A0 <| y_F rfl <| y_L rfl ?_
   refine xC1 rfl rfl (a5k t.ns (by omega) hnb) ⟨rfl, rfl, rfl⟩ rfl rfl fun g13 => ?_
   refine y_S rfl <| xN [1,3] [1] rfl <| A3 <| A3 <| A0 <| y_F rfl <| y_L rfl <| B9 rfl rfl <| y_M rfl <| xN [3,15,16,17] [] rfl <| B0 <| F5 (β := Nat × W8) [(.t 15, _), (.t 16, _)] (fun (z : Nat × W8) => match z with | (i, a) => [(.t 17, iV i), (.t 3, tV a)]) (fun (z : Nat × W8) => match z with | (i, a) => i ≤ t.kids.length ∧ (t.op = lW → a = L5 t) ∧ (t.op ≠ lW → a = a1v t i)) (fun (z : Nat × W8) => match z with | (i, a) => t.kids.length - i) (0, _) ⟨rfl, rfl, rfl, rfl, trivial⟩ ⟨Nat.zero_le _, by exact fun e => (hnl e).2, by exact fun h => absurd (by assumption) h⟩ ?_
   intro z hb
   obtain ⟨i, a⟩ := z
   try dsimp only at hb
   obtain ⟨hi1, ha1, ha2⟩ := hb
   refine A3 <| A0 <| F8 rfl rfl <| xN [3,15,16,17,18] [] rfl <| A3 ?_
   refine A5 rfl ?_ ?_ <;> intro hc <;> try simp only [SL] at hc
   ·refine A6 <| A3 <| B0 <| A3 <| A0 <| B8 rfl rfl rfl (fun _ => rfl) (by omega) <| y_I rfl <| y_A rfl (fun _ => rfl) ?_
    intro g5
    refine xB rfl rfl rfl rfl rfl rfl rfl rfl rfl <| xN [3,5,15,16,17] [5] rfl <| A0 <| y_M rfl <| y_B rfl ?_
    have h1 := hst i (fun e => by have := (hnl e).1; omega) (by omega)
    have h2 := hkz i (by omega)
    rw [ha2 (fun e => by have := (hnl e).1; omega)]
    refine xC1 rfl rfl ((by have hi := ih (t.kids.getD i default) (by have := b9k (t := t) (i := i) (by omega); omega) (hkg i (by omega)) (by omega); rw [← P8] at hi; exact hi)) ⟨rfl, rfl, rfl⟩ rfl rfl fun g23 => ?_
    iterate 2 refine M4 rfl rfl (by simp only [H2, List.length_append, List.length_cons, List.length_nil]; omega) ?_
    refine y_S rfl <| xN [3,15,16,17] [] rfl <| A0 <| E6 rfl rfl (C4 (by omega)) <| y_M rfl <| xN [3,15,16,17] [] rfl ?_
    refine ⟨(i + 1, _), ⟨by omega, fun e => by have := (hnl e).1; omega, fun e => by rw [a1v]; simp⟩, (by simp only; omega), ⟨rfl, rfl, rfl, rfl, trivial⟩⟩
   refine D8 <| A3 <| A0 <| y_M rfl <| y_S rfl <| xN [2] [] rfl <| A9 <| C0 rfl rfl trivial ?_
   by_cases e : t.op = lW
   ·rw [ha1 e]
   rw [ha2 e, show i = t.kids.length by omega, hall e]
  refine A6 <| A3 <| A3 <| A0 <| y_F rfl <| y_L rfl <| B9 rfl rfl <| y_M rfl <| xN [3,15,16,17] [] rfl <| B0 <| F5 (β := Nat × W8) [(.t 15, _), (.t 16, _)] (fun (z : Nat × W8) => match z with | (i, a) => [(.t 17, iV i), (.t 3, tV a)]) (fun (z : Nat × W8) => match z with | (i, a) => i ≤ t.kids.length ∧ (t.op = lW → a = L5 t) ∧ (t.op ≠ lW → a = a1v t i)) (fun (z : Nat × W8) => match z with | (i, a) => t.kids.length - i) (0, _) ⟨rfl, rfl, rfl, rfl, trivial⟩ ⟨Nat.zero_le _, by exact fun e => absurd e (by assumption), by exact fun _ => rfl⟩ ?_
  intro z hb
  obtain ⟨i, a⟩ := z
  try dsimp only at hb
  obtain ⟨hi1, ha1, ha2⟩ := hb
  refine A3 <| A0 <| F8 rfl rfl <| xN [3,15,16,17,18] [] rfl <| A3 ?_
  refine A5 rfl ?_ ?_ <;> intro hc <;> try simp only [SL] at hc
  ·refine A6 <| A3 <| B0 <| A3 <| A0 <| B8 rfl rfl rfl (fun _ => rfl) (by omega) <| y_I rfl <| y_A rfl (fun _ => rfl) ?_
   intro g5
   refine xB rfl rfl rfl rfl rfl rfl rfl rfl rfl <| xN [3,5,15,16,17] [5] rfl <| A0 <| y_M rfl <| y_B rfl ?_
   have h1 := hst i (fun e => by have := (hnl e).1; omega) (by omega)
   have h2 := hkz i (by omega)
   rw [ha2 (fun e => by have := (hnl e).1; omega)]
   refine xC1 rfl rfl ((by have hi := ih (t.kids.getD i default) (by have := b9k (t := t) (i := i) (by omega); omega) (hkg i (by omega)) (by omega); rw [← P8] at hi; exact hi)) ⟨rfl, rfl, rfl⟩ rfl rfl fun g23 => ?_
   iterate 2 refine M4 rfl rfl (by simp only [H2, List.length_append, List.length_cons, List.length_nil]; omega) ?_
   refine y_S rfl <| xN [3,15,16,17] [] rfl <| A0 <| E6 rfl rfl (C4 (by omega)) <| y_M rfl <| xN [3,15,16,17] [] rfl ?_
   refine ⟨(i + 1, _), ⟨by omega, fun e => by have := (hnl e).1; omega, fun e => by rw [a1v]; simp⟩, (by simp only; omega), ⟨rfl, rfl, rfl, rfl, trivial⟩⟩
  refine D8 <| A3 <| A0 <| y_M rfl <| y_S rfl <| xN [2] [] rfl <| A9 <| C0 rfl rfl trivial ?_
  by_cases e : t.op = lW
  ·rw [ha1 e]
  rw [ha2 e, show i = t.kids.length by omega, hall e]

theorem b5b : E7 Tryz.f126 = [0, 2, 4, 10, 5, 3, 27] := by kernel_rfl
theorem d0j (xs : List Int) (hl : xs.length ≤ 1000) : CW (cxT oG) 126 [L xs] = some (.own 1 ((U6 xs).map iV), []) := by
 refine E4 rfl Tryz.func126 rfl ⟨by kernel_rfl, rfl, dT rfl, dT rfl, by decide⟩ b5b <| A3 <| A0 ?_
 (refine B1 rfl rfl (fun _ => rfl) ?_; intro g2)
 refine xN [0] [] rfl <| A3 <| A0 <| B6 (es := List.map iV []) rfl rfl (dT rfl) rfl rfl (fun _ => B2 (A7 fun _ => rfl)) (fun _ => rfl) ?_
 intro g6
 (refine xO rfl rfl (by simp) rfl (fun _ => rfl) (fun _ => rfl) ?_; intro g3)
 refine xN [0,3] [3] rfl <| A3 <| A3 <| A0 <| y_S rfl <| xN [0,3,4] [3] rfl <| B0 <| F5 (β := Nat × List Int × Nat) [(.t 0, _)] (fun (z : Nat × List Int × Nat) => match z with | (i, out, g) => [(.t 4, iV i), (.t 3, .sl 3 g none 0 out.length), (.h 3, .obj g 0 1 (out.map iV))]) (fun (z : Nat × List Int × Nat) => match z with | (i, out, g) => i ≤ xs.length ∧ out = U6 (xs.take i)) (fun (z : Nat × List Int × Nat) => match z with | (i, out, g) => xs.length - i) (0, [], _) ⟨rfl, rfl, rfl, rfl, trivial⟩ ⟨Nat.zero_le _, rfl⟩ ?_
 intro z hb
 obtain ⟨i, out, g⟩ := z
 try dsimp only at hb
 obtain ⟨hi1, hi2⟩ := hb
 have hol : out.length = i := by rw [hi2, a3c, List.length_take]; omega
 refine A3 <| A3 <| A0 <| y_M rfl <| y_M rfl <| B9 rfl rfl <| F8 rfl rfl <| xN [0,3,4,10] [3] rfl ?_
 refine A5 rfl ?_ ?_ <;> intro hc <;> try simp only [SL] at hc
 ·refine A6 <| A3 <| B0 <| A3 <| A0 <| y_S rfl <| xN [0,3,4,5] [3] rfl <| A3 <| B0 <| F5 (β := Nat) [(.t 0, _), (.t 3, _), (.t 4, _), (.h 3, _)] (fun (k : Nat) => [(.t 5, iV k)]) (fun (k : Nat) => k ≤ out.length ∧ ∀ j, j < k → out.getD j default ≤ xs.getD i default) (fun (k : Nat) => out.length - k) 0 ⟨rfl, rfl, rfl, rfl, rfl, trivial⟩ ⟨Nat.zero_le _, fun j h => by omega⟩ ?_
  intro k hb
  obtain ⟨hk1, hk2⟩ := hb
  refine A3 <| A3 <| A0 <| y_M rfl <| y_M rfl <| M3 rfl rfl <| F8 rfl rfl <| y_M rfl ?_
  refine C5 rfl rfl ?_ ?_ <;> intro hg0 <;> have hg := hg0 <;> try simp only [SG] at hg
  ·refine y_M rfl <| gT rfl rfl <| y_M rfl <| gT rfl rfl <| F0 rfl rfl rfl rfl (by omega) (by (simp; done)) rfl <| gT rfl rfl <| H7 rfl rfl (by omega) (fun _ => rfl) (fun _ => rfl) rfl <| gT rfl rfl <| y_M rfl <| gT rfl rfl <| y_M rfl <| gT rfl rfl <| B8 rfl rfl rfl (fun _ => rfl) (by omega) <| gT rfl rfl <| y_I rfl <| gT rfl rfl <| a5h rfl rfl <| E8 rfl (by assumption) rfl rfl ?_
   refine J7 ⟨fun _ => ⟨by decide +kernel, by decide +kernel⟩, [(.t 0, _), (.t 3, _), (.t 4, _), (.t 5, _), (.t 27, _), (.h 3, _)], ⟨rfl, rfl, rfl, rfl, rfl, rfl, rfl, rfl, rfl, rfl, rfl, rfl, trivial⟩, ?_⟩
   refine A5 rfl ?_ ?_ <;> intro hc <;> try simp only [SL] at hc
   ·refine A6 <| B0 <| A0 <| y_M rfl <| E6 rfl rfl (C4 (by omega)) <| y_S rfl <| xN [0,3,4,5] [3] rfl ?_
    refine ⟨k + 1, ⟨by omega, fun a ha => by rcases Nat.lt_succ_iff_lt_or_eq.1 ha with h | h; exact hk2 a h; subst h; exact hc⟩, (by omega), ⟨rfl, rfl, rfl, rfl, rfl, trivial⟩⟩
   refine D8 <| A0 <| B6 (es := List.map iV []) rfl rfl (dT rfl) rfl rfl (fun _ => B2 (A7 fun _ => rfl)) (fun _ => rfl) ?_
   intro g30
   refine y_M rfl <| y_M rfl <| b3i rfl rfl rfl (G7 rfl) (by omega) rfl <| a0u rfl rfl rfl rfl (by decide) rfl (by (simp; done)) (by omega) rfl rfl rfl (dT rfl) (fun _ => ⟨rfl, rfl, rfl⟩) (by simp only [H2]; (simp only [List.length_nil, List.length_cons, List.length_append, Nat.zero_add, List.length_map]; omega)) (fun _ => rfl) ?_
   intro g34
   refine y_M rfl <| y_M rfl <| B8 rfl rfl rfl (fun _ => rfl) (by omega) <| y_I rfl <| B6 (es := List.map iV [_]) rfl rfl (dT rfl) rfl rfl (fun _ => B2 (A7 fun _ => rfl)) (fun _ => rfl) ?_
   intro g39
   refine S9 rfl rfl rfl rfl (by (simp; done)) (by simp) (by decide) rfl rfl rfl rfl (dT rfl) (fun _ => ⟨rfl, rfl⟩) (by simp only [H2]; (simp; omega)) (fun _ => rfl) ?_
   intro g40
   refine y_M rfl <| y_M rfl <| b0y rfl rfl rfl H6 (G7 rfl) (by omega) rfl <| a0u rfl rfl rfl rfl (by decide) rfl (by (simp; done)) (by omega) rfl rfl rfl (dT rfl) (fun _ => ⟨rfl, rfl, rfl⟩) (by simp only [H2]; (simp; omega)) (fun _ => rfl) ?_
   intro g44
   (refine xO rfl rfl (by simp) rfl (fun _ => rfl) (fun _ => rfl) ?_; intro g3)
   refine J7 ⟨fun _ => ⟨by decide +kernel, by decide +kernel⟩, [(.t 0, _), (.t 3, _), (.t 4, _), (.h 3, _)], ⟨rfl, rfl, rfl, rfl, rfl, rfl, rfl, rfl, trivial⟩, ?_⟩
   refine A0 <| y_M rfl <| E6 rfl rfl (C4 (by omega)) <| y_S rfl <| xN [0,3,4] [3] rfl ?_
   refine ⟨(i + 1, _, _), ?_, (by simp only; omega), ⟨rfl, rfl, rfl, rfl, trivial⟩⟩
   exact ⟨by omega, by rw [b3e (by omega), ← hi2]; exact b0b (hi2 ▸ X4 _) hk1 hk2 fun h => by omega⟩
  iterate 8 refine gF rfl rfl ?_
  refine F7 rfl (by assumption) rfl rfl ?_
  refine J7 ⟨fun _ => ⟨by decide +kernel, by decide +kernel⟩, [(.t 0, _), (.t 3, _), (.t 4, _), (.t 5, _), (.t 27, _), (.h 3, _)], ⟨rfl, rfl, rfl, rfl, rfl, rfl, rfl, rfl, rfl, rfl, rfl, rfl, trivial⟩, ?_⟩
  refine A5 rfl (fun hc => absurd hc (by decide)) (fun hc => ?_)
  refine D8 <| A0 <| B6 (es := List.map iV []) rfl rfl (dT rfl) rfl rfl (fun _ => B2 (A7 fun _ => rfl)) (fun _ => rfl) ?_
  intro g30
  refine y_M rfl <| y_M rfl <| b3i rfl rfl rfl (G7 rfl) (by omega) rfl <| a0u rfl rfl rfl rfl (by decide) rfl (by (simp; done)) (by omega) rfl rfl rfl (dT rfl) (fun _ => ⟨rfl, rfl, rfl⟩) (by simp only [H2]; (simp only [List.length_nil, List.length_cons, List.length_append, Nat.zero_add, List.length_map]; omega)) (fun _ => rfl) ?_
  intro g34
  refine y_M rfl <| y_M rfl <| B8 rfl rfl rfl (fun _ => rfl) (by omega) <| y_I rfl <| B6 (es := List.map iV [_]) rfl rfl (dT rfl) rfl rfl (fun _ => B2 (A7 fun _ => rfl)) (fun _ => rfl) ?_
  intro g39
  refine S9 rfl rfl rfl rfl (by (simp; done)) (by simp) (by decide) rfl rfl rfl rfl (dT rfl) (fun _ => ⟨rfl, rfl⟩) (by simp only [H2]; (simp; omega)) (fun _ => rfl) ?_
  intro g40
  refine y_M rfl <| y_M rfl <| b0y rfl rfl rfl H6 (G7 rfl) (by omega) rfl <| a0u rfl rfl rfl rfl (by decide) rfl (by (simp; done)) (by omega) rfl rfl rfl (dT rfl) (fun _ => ⟨rfl, rfl, rfl⟩) (by simp only [H2]; (simp; omega)) (fun _ => rfl) ?_
  intro g44
  (refine xO rfl rfl (by simp) rfl (fun _ => rfl) (fun _ => rfl) ?_; intro g3)
  refine J7 ⟨fun _ => ⟨by decide +kernel, by decide +kernel⟩, [(.t 0, _), (.t 3, _), (.t 4, _), (.h 3, _)], ⟨rfl, rfl, rfl, rfl, rfl, rfl, rfl, rfl, trivial⟩, ?_⟩
  refine A0 <| y_M rfl <| E6 rfl rfl (C4 (by omega)) <| y_S rfl <| xN [0,3,4] [3] rfl ?_
  refine ⟨(i + 1, _, _), ?_, (by simp only; omega), ⟨rfl, rfl, rfl, rfl, trivial⟩⟩
  exact ⟨by omega, by rw [b3e (by omega), ← hi2]; exact b0b (hi2 ▸ X4 _) hk1 hk2 fun h => by omega⟩
 refine D8 <| A3 <| A0 <| y_M rfl ?_
 (refine xO rfl rfl (by simp) rfl (fun _ => rfl) (fun _ => rfl) ?_; intro g2)
 refine xN [2] [2] rfl <| A9 <| R8 rfl rfl (by simp) (by exact A7 fun _ => rfl) trivial ?_
 rw [hi2, List.take_of_length_le (by omega)]

theorem c1c : E7 Tryz.f110 = [0, 2, 8, 7, 9, 6, 5, 3] := by kernel_rfl
theorem d7i (x : List Int) (hv : vl x = true) : CW (cxT oG) 110 [L x] = some (iV x.sum, []) := by
 have hx40 := (Q6.1 hv).1
 have hgb := a0p hv
 refine E4 rfl Tryz.func110 rfl ⟨by kernel_rfl, rfl, dT rfl, dT rfl, by decide⟩ c1c <| A3 <| A0 <| y_S rfl <| xN [0] [] rfl <| A3 <| A0 <| y_S rfl <| xN [0,3] [] rfl <| A3 <| A3 <| A0 <| y_M rfl <| B9 rfl rfl <| y_M rfl <| xN [3,6,7,8] [] rfl <| B0 <| F5 (β := Nat × Int) [(.t 6, _), (.t 7, _)] (fun (z : Nat × Int) => match z with | (i, a) => [(.t 8, iV i), (.t 3, iV a)]) (fun (z : Nat × Int) => match z with | (i, a) => i ≤ x.length ∧ a = prS (H4 x) i) (fun (z : Nat × Int) => match z with | (i, a) => x.length - i) (0, 0) ⟨rfl, rfl, rfl, rfl, trivial⟩ ⟨Nat.zero_le _, rfl⟩ ?_
 intro z hb
 obtain ⟨i, a⟩ := z
 try dsimp only at hb
 obtain ⟨hi1, ha⟩ := hb
 have hsb := c2c hv i
 have hgi : -100000 ≤ x.getD i default ∧ x.getD i default ≤ 100000 := hgb i
 rw [← ha] at hsb
 refine A3 <| A0 <| F8 rfl rfl <| xN [3,6,7,8,9] [] rfl <| A3 ?_
 refine A5 rfl ?_ ?_ <;> intro hc <;> try simp only [SL] at hc
 ·refine A6 <| A3 <| B0 <| A3 <| A0 <| B8 rfl rfl rfl (fun _ => rfl) (by omega) <| y_I rfl <| y_S rfl <| xN [3,5,6,7,8] [] rfl <| A0 <| y_M rfl <| y_M rfl <| E6 rfl rfl (C4 (by omega)) <| y_S rfl <| xN [3,6,7,8] [] rfl <| A0 <| E6 rfl rfl (C4 (by omega)) <| y_M rfl <| xN [3,6,7,8] [] rfl ?_
  refine ⟨(i + 1, a + x.getD i default), ⟨by omega, by rw [prS, ha]; rfl⟩, (by simp only; omega), ⟨rfl, rfl, rfl, rfl, trivial⟩⟩
 refine D8 <| A3 <| A0 <| y_M rfl <| y_S rfl <| xN [2] [] rfl <| A9 <| C0 rfl rfl trivial ?_
 rw [ha, show i = x.length by omega, b7f]

theorem c2u : E7 Tryz.f129 = [0, 2, 4, 8, 3] := by kernel_rfl
theorem d6d (x : List Int) (hv : vl x = true) : CW (cxT oG) 129 [L x] = some (iV x.sum, []) := by
 have hx40 := (Q6.1 hv).1
 have hgb := a0p hv
 refine E4 rfl Tryz.func129 rfl ⟨by kernel_rfl, rfl, dT rfl, dT rfl, by decide⟩ c2u <| A3 <| A0 <| y_S rfl <| xN [0] [] rfl <| A3 <| A0 <| y_S rfl <| xN [0,3] [] rfl <| A3 <| A3 <| A0 <| y_S rfl <| xN [0,3,4] [] rfl <| B0 <| F5 (β := Nat × Int) [(.t 0, _)] (fun (z : Nat × Int) => match z with | (i, a) => [(.t 4, iV i), (.t 3, iV a)]) (fun (z : Nat × Int) => match z with | (i, a) => i ≤ x.length ∧ a = prS (H4 x) i) (fun (z : Nat × Int) => match z with | (i, a) => x.length - i) (0, 0) ⟨rfl, rfl, rfl, trivial⟩ ⟨Nat.zero_le _, rfl⟩ ?_
 intro z hb
 obtain ⟨i, a⟩ := z
 try dsimp only at hb
 obtain ⟨hi1, ha⟩ := hb
 have hsb := c2c hv i
 have hgi : -100000 ≤ x.getD i default ∧ x.getD i default ≤ 100000 := hgb i
 rw [← ha] at hsb
 refine A3 <| A3 <| A0 <| y_M rfl <| y_M rfl <| B9 rfl rfl <| F8 rfl rfl <| xN [0,3,4,8] [] rfl ?_
 refine A5 rfl ?_ ?_ <;> intro hc <;> try simp only [SL] at hc
 ·refine A6 <| A3 <| B0 <| A0 <| y_M rfl <| y_M rfl <| y_M rfl <| B8 rfl rfl rfl (fun _ => rfl) (by omega) <| y_I rfl <| E6 rfl rfl (C4 (by omega)) <| y_S rfl <| xN [0,3,4] [] rfl <| A0 <| y_M rfl <| E6 rfl rfl (C4 (by omega)) <| y_S rfl <| xN [0,3,4] [] rfl ?_
  refine ⟨(i + 1, a + x.getD i default), ⟨by omega, by rw [prS, ha]; rfl⟩, (by simp only; omega), ⟨rfl, rfl, rfl, trivial⟩⟩
 refine D8 <| A3 <| A0 <| y_M rfl <| y_S rfl <| xN [2] [] rfl <| A9 <| C0 rfl rfl trivial ?_
 rw [ha, show i = x.length by omega, b7f]

theorem b6q : E7 Tryz.f109 = [0, 2, 13, 12, 14, 11, 4, 3, 23, 22, 24, 21, 5, 7, 27, 37] := by kernel_rfl
theorem d1v (x : List Int) (hv : vl x = true) : CW (cxT oG) 109 [L x] = some (.own 1 ((rkI x).map iV), []) := by
 have hx40 := (Q6.1 hv).1
 have hgb := a0p hv
 refine E4 rfl Tryz.func109 rfl ⟨by kernel_rfl, rfl, dT rfl, dT rfl, by decide⟩ b6q <| A3 <| A0 ?_
 (refine B1 rfl rfl (fun _ => rfl) ?_; intro g2)
 refine xN [0] [] rfl <| A3 <| A0 <| y_M rfl <| B9 rfl rfl <| c4e (f := iV) (x0 := 0) rfl rfl rfl rfl rfl (by simp only [H2]; omega) (dT rfl) (fun _ => B2 (by exact A7 fun _ => rfl)) (fun _ => rfl) ?_
 intro g10
 (refine xO rfl rfl (by simp) rfl (fun _ => rfl) (fun _ => rfl) ?_; intro g3)
 refine xN [0,3] [3] rfl <| A3 <| A3 <| A0 <| y_M rfl <| B9 rfl rfl <| y_M rfl <| xN [0,3,11,12,13] [3] rfl <| B0 ?_
 refine F5 (β := Nat × List Int) [(.t 0, _), (.t 3, _), (.t 11, _), (.t 12, _)] (fun (z : Nat × List Int) => match z with | (i, l) => [(.t 13, iV i), (.h 3, .obj g3 0 1 (l.map iV))]) (fun (z : Nat × List Int) => match z with | (i, l) => i ≤ x.length ∧ T6 x.length (fun i => 1 + prS (rkT x (H4 x i)) x.length) (fun _ => 0) i l) (fun (z : Nat × List Int) => match z with | (i, l) => x.length - i) (0, List.replicate x.length 0) ⟨rfl, rfl, rfl, rfl, rfl, rfl, trivial⟩ ⟨Nat.zero_le _, by simp, fun j hj => by rw [if_neg (by omega)]; simp [List.getD_eq_getElem?_getD, hj]⟩ ?_
 intro z hb
 obtain ⟨i, l⟩ := z
 try dsimp only at hb
 obtain ⟨hi1, hf⟩ := hb
 have hfl := hf.1
 refine A3 <| A0 <| F8 rfl rfl <| xN [0,3,11,12,13,14] [3] rfl <| A3 ?_
 refine A5 rfl ?_ ?_ <;> intro hc <;> try simp only [SL] at hc
 ·refine A6 <| A3 <| B0 <| A3 <| A0 <| y_M rfl <| B8 rfl rfl rfl (fun _ => rfl) (by omega) <| y_I rfl <| y_S rfl <| y_S rfl <| xN [0,3,4,5,11,12,13] [3] rfl <| A3 <| A0 <| y_M rfl <| y_M rfl <| F0 rfl rfl rfl rfl (by omega) (by (simp; omega)) rfl <| M0 rfl rfl rfl (by omega) (fun _ _ => ⟨rfl, rfl, dT rfl, dT rfl, rfl, rfl⟩) (by decide) (by exact B2 (A7 fun _ => rfl)) <| xN [0,3,4,5,11,12,13] [3] rfl <| A3 <| A0 <| y_M rfl <| B9 rfl rfl <| y_M rfl <| xN [0,3,4,5,11,12,13,21,22,23] [3] rfl <| B0 <| F5 (β := Nat × List Int) [(.t 0, _), (.t 3, _), (.t 4, _), (.t 5, _), (.t 11, _), (.t 12, _), (.t 13, _), (.t 21, _), (.t 22, _)] (fun (z : Nat × List Int) => match z with | (k, l2) => [(.t 23, iV k), (.h 3, .obj g3 0 1 (l2.map iV))]) (fun (z : Nat × List Int) => match z with | (k, l2) => k ≤ x.length ∧ l2 = l.set i (1 + prS (rkT x (H4 x i)) k)) (fun (z : Nat × List Int) => match z with | (k, l2) => x.length - k) (0, l.set i 1) ⟨rfl, rfl, rfl, rfl, rfl, rfl, rfl, rfl, rfl, rfl, rfl, trivial⟩ ⟨Nat.zero_le _, rfl⟩ ?_
  intro z hb
  obtain ⟨k, l2⟩ := z
  try dsimp only at hb
  obtain ⟨hk1, hl2⟩ := hb
  have hl2l : l2.length = x.length := by rw [hl2]; simp [hfl]
  have hl2i : l2.getD i default = 1 + prS (rkT x (H4 x i)) k := by rw [hl2, a4y _ _ _ _ (by omega), if_pos rfl]
  have hrb := d7w x (H4 x i) k
  refine A3 <| A0 <| F8 rfl rfl <| xN [0,3,4,5,11,12,13,21,22,23,24] [3] rfl <| A3 ?_
  refine A5 rfl ?_ ?_ <;> intro hc <;> try simp only [SL] at hc
  ·refine A6 <| A3 <| B0 <| A3 <| A0 <| B8 rfl rfl rfl (fun _ => rfl) (by omega) <| y_I rfl <| y_S rfl <| xN [0,3,4,5,7,11,12,13,21,22,23] [3] rfl <| B0 <| A3 <| A0 <| y_M rfl <| y_M rfl <| F8 rfl rfl <| y_S rfl <| xN [0,3,4,5,7,11,12,13,21,22,23,27] [3] rfl ?_
   refine A5 rfl ?_ ?_ <;> intro hc <;> try simp only [SL] at hc
   ·refine A0 <| y_M rfl <| y_M rfl <| F0 rfl rfl rfl rfl (by omega) (by (simp; omega)) rfl <| H7 rfl rfl (by omega) (fun _ => rfl) (fun _ => rfl) rfl <| E6 rfl rfl (C4 (by omega)) <| F0 rfl rfl rfl rfl (by omega) (by (simp; omega)) rfl <| M0 rfl rfl rfl (by omega) (fun _ _ => ⟨rfl, rfl, dT rfl, dT rfl, rfl, rfl⟩) (by decide) (by exact B2 (A7 fun _ => rfl)) <| xN [0,3,4,5,11,12,13,21,22,23] [3] rfl <| A0 <| E6 rfl rfl (C4 (by omega)) <| y_M rfl <| xN [0,3,4,5,11,12,13,21,22,23] [3] rfl ?_
    refine ⟨(k + 1, l2.set i (l2.getD i default + 2)), ?_, (by simp only; omega), ⟨rfl, rfl, rfl, rfl, rfl, rfl, rfl, rfl, rfl, rfl, rfl, trivial⟩⟩
    have hrs : prS (rkT x (H4 x i)) (k + 1) = prS (rkT x (H4 x i)) k + rkT x (H4 x i) k := rfl
    exact ⟨by omega, by rw [hl2i, hl2, List.set_set, hrs, rkT, if_pos (by assumption), Int.add_assoc]⟩
   refine A3 <| A0 <| y_M rfl <| y_M rfl <| O2 rfl rfl <| y_S rfl <| xN [0,3,4,5,11,12,13,21,22,23,37] [3] rfl ?_
   refine A5 rfl ?_ ?_ <;> intro hc <;> try simp only [SL] at hc
   ·refine A0 <| y_M rfl <| y_M rfl <| F0 rfl rfl rfl rfl (by omega) (by (simp; omega)) rfl <| H7 rfl rfl (by omega) (fun _ => rfl) (fun _ => rfl) rfl <| E6 rfl rfl (C4 (by omega)) <| F0 rfl rfl rfl rfl (by omega) (by (simp; omega)) rfl <| M0 rfl rfl rfl (by omega) (fun _ _ => ⟨rfl, rfl, dT rfl, dT rfl, rfl, rfl⟩) (by decide) (by exact B2 (A7 fun _ => rfl)) <| xN [0,3,4,5,11,12,13,21,22,23] [3] rfl <| A0 <| E6 rfl rfl (C4 (by omega)) <| y_M rfl <| xN [0,3,4,5,11,12,13,21,22,23] [3] rfl ?_
    refine ⟨(k + 1, l2.set i (l2.getD i default + 1)), ?_, (by simp only; omega), ⟨rfl, rfl, rfl, rfl, rfl, rfl, rfl, rfl, rfl, rfl, rfl, trivial⟩⟩
    have hrs : prS (rkT x (H4 x i)) (k + 1) = prS (rkT x (H4 x i)) k + rkT x (H4 x i) k := rfl
    exact ⟨by omega, by rw [hl2i, hl2, List.set_set, hrs, rkT, if_neg (by unfold H4; omega), if_pos (by assumption), Int.add_assoc]⟩
   refine A6 <| A0 <| E6 rfl rfl (C4 (by omega)) <| y_M rfl <| xN [0,3,4,5,11,12,13,21,22,23] [3] rfl ?_
   refine ⟨(k + 1, l2), ?_, (by simp only; omega), ⟨rfl, rfl, rfl, rfl, rfl, rfl, rfl, rfl, rfl, rfl, rfl, trivial⟩⟩
   have hrs : prS (rkT x (H4 x i)) (k + 1) = prS (rkT x (H4 x i)) k + rkT x (H4 x i) k := rfl
   exact ⟨by omega, by rw [hl2, hrs, rkT, if_neg (by unfold H4; omega), if_neg (by unfold H4; omega), Int.add_zero]⟩
  refine D8 <| A0 <| E6 rfl rfl (C4 (by omega)) <| y_M rfl <| xN [0,3,11,12,13] [3] rfl ?_
  refine ⟨(i + 1, l2), ?_, (by simp only; omega), ⟨rfl, rfl, rfl, rfl, rfl, rfl, trivial⟩⟩
  exact ⟨by omega, by rw [hl2]; exact hf.step (by omega) (by rw [show k = x.length by omega])⟩
 refine D8 <| A3 <| A0 <| y_M rfl ?_
 (refine H9 rfl rfl (by (simp; omega)) rfl (fun _ => (B2 (by exact A7 fun _ => rfl))) (fun _ => rfl) ?_; intro g2)
 refine xN [2] [2] rfl <| A9 <| R8 rfl rfl (by (simp [hfl]; done)) (by exact A7 fun _ => rfl) trivial ?_
 rw [hf.fin (by omega)]
 rfl

theorem b5p : E7 Tryz.f128 = [0, 2, 4, 12, 7, 18, 29, 5, 40, 6, 3] := by kernel_rfl
theorem d3f (x : List Int) (hv : vl x = true) : CW (cxT oG) 128 [L x] = some (.own 1 ((rkI x).map iV), []) := by
 have hx40 := (Q6.1 hv).1
 have hgb := a0p hv
 refine E4 rfl Tryz.func128 rfl ⟨by kernel_rfl, rfl, dT rfl, dT rfl, by decide⟩ b5p <| A3 <| A0 ?_
 (refine B1 rfl rfl (fun _ => rfl) ?_; intro g2)
 refine xN [0] [] rfl <| A3 <| A0 <| B6 (es := List.map iV []) rfl rfl (dT rfl) rfl rfl (fun _ => B2 (A7 fun _ => rfl)) (fun _ => rfl) ?_
 intro g8
 (refine xO rfl rfl (by simp) rfl (fun _ => rfl) (fun _ => rfl) ?_; intro g3)
 refine xN [0,3] [3] rfl <| A3 <| A3 <| A0 <| y_S rfl <| xN [0,3,4] [3] rfl <| B0 <| F5 (β := Nat × List Int × Nat) [(.t 0, _)] (fun (z : Nat × List Int × Nat) => match z with | (i, l, g) => [(.t 4, iV i), (.h 3, .obj g 0 1 (l.map iV)), (.t 3, .sl 3 g none 0 l.length)]) (fun (z : Nat × List Int × Nat) => match z with | (i, l, g) => i ≤ x.length ∧ l = (List.range i).map fun i => 1 + prS (rkT x (H4 x i)) x.length) (fun (z : Nat × List Int × Nat) => match z with | (i, l, g) => x.length - i) (0, [], _) ⟨rfl, rfl, rfl, rfl, trivial⟩ ⟨Nat.zero_le _, rfl⟩ ?_
 intro z hb
 obtain ⟨i, l, g⟩ := z
 try dsimp only at hb
 obtain ⟨hi1, hl⟩ := hb
 have hll : l.length = i := by rw [hl]; simp
 refine A3 <| A3 <| A0 <| y_M rfl <| y_M rfl <| B9 rfl rfl <| F8 rfl rfl <| xN [0,3,4,12] [3] rfl ?_
 refine A5 rfl ?_ ?_ <;> intro hc <;> try simp only [SL] at hc
 ·refine A6 <| A3 <| B0 <| A3 <| A0 <| y_S rfl <| xN [0,3,4,5] [3] rfl <| A3 <| A0 <| y_S rfl <| xN [0,3,4,5,6] [3] rfl <| A3 <| A3 <| A0 <| y_S rfl <| xN [0,3,4,5,6,7] [3] rfl <| B0 <| F5 (β := Nat × Int × Int) [(.t 0, _), (.t 3, _), (.t 4, _), (.h 3, _)] (fun (z : Nat × Int × Int) => match z with | (k, a, b) => [(.t 7, iV k), (.t 5, iV a), (.t 6, iV b)]) (fun (z : Nat × Int × Int) => match z with | (k, a, b) => k ≤ x.length ∧ 2 * a + b = prS (rkT x (H4 x i)) k ∧ 0 ≤ a ∧ a ≤ k ∧ 0 ≤ b ∧ b ≤ k) (fun (z : Nat × Int × Int) => match z with | (k, a, b) => x.length - k) (0, 0, 0) ⟨rfl, rfl, rfl, rfl, rfl, rfl, rfl, trivial⟩ ⟨Nat.zero_le _, rfl, by decide, by decide, by decide, by decide⟩ ?_
  intro z hb
  obtain ⟨k, a, b⟩ := z
  try dsimp only at hb
  obtain ⟨hk1, hab, ha0, ha1, hb0, hb1⟩ := hb
  refine A3 <| A3 <| A0 <| y_M rfl <| y_M rfl <| B9 rfl rfl <| F8 rfl rfl <| xN [0,3,4,5,6,7,18] [3] rfl ?_
  refine A5 rfl ?_ ?_ <;> intro hc <;> try simp only [SL] at hc
  ·refine A6 <| A3 <| B0 <| A3 <| A3 <| A0 <| y_M rfl <| y_M rfl <| B8 rfl rfl rfl (fun _ => rfl) (by omega) <| y_I rfl <| y_M rfl <| y_M rfl <| B8 rfl rfl rfl (fun _ => rfl) (by omega) <| y_I rfl <| F8 rfl rfl ?_
   refine J7 ⟨fun _ => ⟨by decide +kernel, by decide +kernel⟩, [(.t 0, _), (.t 3, _), (.t 4, _), (.t 5, _), (.t 6, _), (.t 7, _), (.t 29, _), (.h 3, _)], ⟨rfl, rfl, rfl, rfl, rfl, rfl, rfl, rfl, rfl, rfl, rfl, rfl, rfl, rfl, rfl, rfl, trivial⟩, ?_⟩
   refine A5 rfl ?_ ?_ <;> intro hc <;> try simp only [SL] at hc
   ·refine A0 <| y_M rfl <| E6 rfl rfl (C4 (by omega)) <| y_S rfl <| xN [0,3,4,5,6,7] [3] rfl <| A3 <| A0 <| y_M rfl <| y_M rfl <| B8 rfl rfl rfl (fun _ => rfl) (by omega) <| y_I rfl <| y_M rfl <| y_M rfl <| B8 rfl rfl rfl (fun _ => rfl) (by omega) <| y_I rfl <| O2 rfl rfl ?_
    refine J7 ⟨fun _ => ⟨by decide +kernel, by decide +kernel⟩, [(.t 0, _), (.t 3, _), (.t 4, _), (.t 5, _), (.t 6, _), (.t 7, _), (.t 40, _), (.h 3, _)], ⟨rfl, rfl, rfl, rfl, rfl, rfl, rfl, rfl, rfl, rfl, rfl, rfl, rfl, rfl, rfl, rfl, trivial⟩, ?_⟩
    refine A5 rfl ?_ ?_ <;> intro hc <;> try simp only [SL] at hc
    ·refine A0 <| y_M rfl <| E6 rfl rfl (C4 (by omega)) <| y_S rfl <| xN [0,3,4,5,6,7] [3] rfl <| A0 <| y_M rfl <| E6 rfl rfl (C4 (by omega)) <| y_S rfl <| xN [0,3,4,5,6,7] [3] rfl ?_
     refine ⟨(k + 1, a + 1, b + 1), ?_, (by simp only; omega), ⟨rfl, rfl, rfl, rfl, rfl, rfl, rfl, trivial⟩⟩
     have hrs : prS (rkT x (H4 x i)) (k + 1) = prS (rkT x (H4 x i)) k + rkT x (H4 x i) k := rfl
     exact ⟨by omega, by rw [hrs, ← hab, rkT, if_pos (by assumption)]; omega, by omega, by omega, by omega, by omega⟩
    refine A6 <| A0 <| y_M rfl <| E6 rfl rfl (C4 (by omega)) <| y_S rfl <| xN [0,3,4,5,6,7] [3] rfl ?_
    refine ⟨(k + 1, a + 1, b), ?_, (by simp only; omega), ⟨rfl, rfl, rfl, rfl, rfl, rfl, rfl, trivial⟩⟩
    have hrs : prS (rkT x (H4 x i)) (k + 1) = prS (rkT x (H4 x i)) k + rkT x (H4 x i) k := rfl
    exact ⟨by omega, by rw [hrs, ← hab, rkT, if_pos (by assumption)]; omega, by omega, by omega, by omega, by omega⟩
   refine A6 <| A3 <| A0 <| y_M rfl <| y_M rfl <| B8 rfl rfl rfl (fun _ => rfl) (by omega) <| y_I rfl <| y_M rfl <| y_M rfl <| B8 rfl rfl rfl (fun _ => rfl) (by omega) <| y_I rfl <| O2 rfl rfl ?_
   refine J7 ⟨fun _ => ⟨by decide +kernel, by decide +kernel⟩, [(.t 0, _), (.t 3, _), (.t 4, _), (.t 5, _), (.t 6, _), (.t 7, _), (.t 40, _), (.h 3, _)], ⟨rfl, rfl, rfl, rfl, rfl, rfl, rfl, rfl, rfl, rfl, rfl, rfl, rfl, rfl, rfl, rfl, trivial⟩, ?_⟩
   refine A5 rfl ?_ ?_ <;> intro hc <;> try simp only [SL] at hc
   ·refine A0 <| y_M rfl <| E6 rfl rfl (C4 (by omega)) <| y_S rfl <| xN [0,3,4,5,6,7] [3] rfl <| A0 <| y_M rfl <| E6 rfl rfl (C4 (by omega)) <| y_S rfl <| xN [0,3,4,5,6,7] [3] rfl ?_
    refine ⟨(k + 1, a, b + 1), ?_, (by simp only; omega), ⟨rfl, rfl, rfl, rfl, rfl, rfl, rfl, trivial⟩⟩
    have hrs : prS (rkT x (H4 x i)) (k + 1) = prS (rkT x (H4 x i)) k + rkT x (H4 x i) k := rfl
    exact ⟨by omega, by rw [hrs, ← hab, rkT, if_neg (by unfold H4; omega), if_pos (by assumption)]; omega, by omega, by omega, by omega, by omega⟩
   refine A6 <| A0 <| y_M rfl <| E6 rfl rfl (C4 (by omega)) <| y_S rfl <| xN [0,3,4,5,6,7] [3] rfl ?_
   refine ⟨(k + 1, a, b), ?_, (by simp only; omega), ⟨rfl, rfl, rfl, rfl, rfl, rfl, rfl, trivial⟩⟩
   have hrs : prS (rkT x (H4 x i)) (k + 1) = prS (rkT x (H4 x i)) k + rkT x (H4 x i) k := rfl
   exact ⟨by omega, by rw [hrs, ← hab, rkT, if_neg (by unfold H4; omega), if_neg (by unfold H4; omega)]; omega, by omega, by omega, by omega, by omega⟩
  refine D8 <| A0 <| y_M rfl <| y_M rfl <| a7t rfl rfl (C4 (by omega)) <| y_M rfl <| E6 rfl rfl (C4 (by omega)) <| E6 rfl rfl (C4 (by omega)) <| B6 (es := List.map iV [_]) rfl rfl (dT rfl) rfl rfl (fun _ => B2 (A7 fun _ => rfl)) (fun _ => rfl) ?_
  intro g49
  refine xA rfl rfl rfl rfl (by simp) (by simp) rfl rfl rfl rfl rfl (fun _ => rfl) (by simp only [LN]; omega) (fun _ => rfl) ?_
  intro g50
  (refine xO rfl rfl (by simp) rfl (fun _ => rfl) (fun _ => rfl) ?_; intro g3)
  refine xN [0,3,4] [3] rfl <| A0 <| y_M rfl <| E6 rfl rfl (C4 (by omega)) <| y_S rfl <| xN [0,3,4] [3] rfl ?_
  refine ⟨(i + 1, l ++ [2 * a + b + 1], _), ?_, (by simp only; omega), ⟨rfl, rfl, rfl, rfl, trivial⟩⟩
  exact ⟨by omega, by rw [hl, V1, hab, show k = x.length by omega, Int.add_comm]⟩
 refine D8 <| A3 <| A0 <| y_M rfl ?_
 (refine xO rfl rfl (by simp) rfl (fun _ => rfl) (fun _ => rfl) ?_; intro g2)
 refine xN [2] [2] rfl <| A9 <| R8 rfl rfl (by simp) (by exact A7 fun _ => rfl) trivial ?_
 rw [hl, show i = x.length by omega]
 rfl

theorem b3l : E7 Tryz.f127 = [0, 2, 4, 10, 3] := by kernel_rfl
theorem c9x (x : List Int) (hl : x.length ≤ 1000) : CW (cxT oG) 127 [L x] = some (.own 1 (x.reverse.map iV), []) := by
 refine E4 rfl Tryz.func127 rfl ⟨by kernel_rfl, rfl, dT rfl, dT rfl, by decide⟩ b3l <| A3 <| A0 ?_
 (refine B1 rfl rfl (fun _ => rfl) ?_; intro g2)
 refine xN [0] [] rfl <| A3 <| A0 <| B6 (es := List.map iV []) rfl rfl (dT rfl) rfl rfl (fun _ => B2 (A7 fun _ => rfl)) (fun _ => rfl) ?_
 intro g5
 (refine xO rfl rfl (by simp) rfl (fun _ => rfl) (fun _ => rfl) ?_; intro g3)
 refine xN [0,3] [3] rfl <| A3 <| A3 <| A0 <| y_M rfl <| B9 rfl rfl <| P5 rfl rfl (C4 (by omega)) <| y_S rfl <| xN [0,3,4] [3] rfl <| B0 <| F5 (β := Nat × List Int × Nat) [(.t 0, _)] (fun (z : Nat × List Int × Nat) => match z with | (k, l, g) => [(.t 4, iV ((k : Int) - 1)), (.h 3, .obj g 0 1 (l.map iV)), (.t 3, .sl 3 g none 0 l.length)]) (fun (z : Nat × List Int × Nat) => match z with | (k, l, g) => k ≤ x.length ∧ l = (x.drop k).reverse) (fun (z : Nat × List Int × Nat) => match z with | (k, l, g) => k) (x.length, [], _) ⟨rfl, rfl, rfl, rfl, trivial⟩ ⟨Nat.le_refl _, by simp⟩ ?_
 intro z hb
 obtain ⟨k, l, g⟩ := z
 try dsimp only at hb
 obtain ⟨hk1, hl2⟩ := hb
 have hll : l.length = x.length - k := by rw [hl2]; simp
 refine A3 <| A3 <| A0 <| y_M rfl <| c0m rfl rfl <| xN [0,3,4,10] [3] rfl ?_
 refine A5 rfl ?_ ?_ <;> intro hc <;> try simp only [SL] at hc
 ·obtain ⟨k', rfl⟩ : ∃ k', k = k' + 1 := ⟨k - 1, by omega⟩
  rw [show (((k' + 1 : Nat) : Int) - 1) = (k' : Int) by omega]
  refine A6 <| A3 <| B0 <| A0 <| y_M rfl <| y_M rfl <| y_M rfl <| B8 rfl rfl rfl (fun _ => rfl) (by omega) <| y_I rfl <| B6 (es := List.map iV [_]) rfl rfl (dT rfl) rfl rfl (fun _ => B2 (A7 fun _ => rfl)) (fun _ => rfl) ?_
  intro g18
  refine xA rfl rfl rfl rfl (by simp) (by simp) rfl rfl rfl rfl rfl (fun _ => rfl) (by simp only [LN]; omega) (fun _ => rfl) ?_
  intro g19
  (refine xO rfl rfl (by simp) rfl (fun _ => rfl) (fun _ => rfl) ?_; intro g3)
  refine xN [0,3,4] [3] rfl <| A0 <| y_M rfl <| P5 rfl rfl (C4 (by omega)) <| y_S rfl <| xN [0,3,4] [3] rfl ?_
  refine ⟨(k', l ++ [x.getD k' default], _), ?_, (by simp only; omega), ⟨rfl, rfl, rfl, rfl, trivial⟩⟩
  exact ⟨by omega, by rw [hl2, c9f (show k' < x.length by omega), List.reverse_cons]⟩
 refine D8 <| A3 <| A0 <| y_M rfl ?_
 (refine xO rfl rfl (by simp) rfl (fun _ => rfl) (fun _ => rfl) ?_; intro g2)
 refine xN [2] [2] rfl <| A9 <| R8 rfl rfl (by simp) (by exact A7 fun _ => rfl) trivial ?_
 rw [hl2, show k = 0 by omega]
 rfl

theorem a9j : E7 Tryz.f130 = [0, 2, 3, 7, 15] := by kernel_rfl
theorem c2x (x : List Int) (hl : x.length ≤ 1048576) : CW (cxT oG) 130 [L x] = some (bV (vl x), []) := by
 refine E4 rfl Tryz.func130 rfl ⟨by kernel_rfl, rfl, dT rfl, dT rfl, by decide⟩ a9j <| A3 <| A0 <| y_S rfl <| xN [0] [] rfl <| A3 <| A3 <| A0 <| y_S rfl <| xN [0,3] [] rfl <| B0 <| F5 (β := Nat) [(.t 0, _)] (fun (i : Nat) => [(.t 3, iV i)]) (fun (i : Nat) => i ≤ x.length ∧ ∀ j, j < i → -100000 ≤ x.getD j default ∧ x.getD j default ≤ 100000) (fun (i : Nat) => x.length - i) 0 ⟨rfl, rfl, trivial⟩ ⟨Nat.zero_le _, fun j h => by omega⟩ ?_
 intro i hb
 obtain ⟨hi1, hi2⟩ := hb
 refine A3 <| A3 <| A0 <| y_M rfl <| y_M rfl <| B9 rfl rfl <| F8 rfl rfl <| xN [0,3,7] [] rfl ?_
 refine A5 rfl ?_ ?_ <;> intro hc <;> try simp only [SL] at hc
 ·refine A6 <| A3 <| B0 <| A3 <| A0 <| y_M rfl <| y_M rfl <| B8 rfl rfl rfl (fun _ => rfl) (by omega) <| y_I rfl ?_
  refine xC3 rfl rfl rfl rfl (b7g _ _ _) ⟨rfl, rfl, rfl⟩ rfl rfl fun g14 => ?_
  refine J9 rfl <| xN [0,3,15] [] rfl ?_
  refine A5 rfl ?_ ?_ <;> intro hc <;> try simp only [SL] at hc
  ·refine A3 <| A0 <| y_S rfl <| xN [2] [] rfl <| A9 <| C0 rfl rfl trivial ?_
   rw [vl, c2y (show i < x.length by omega) (by (simp_all; omega)), Bool.and_false]
   rfl
  refine A6 <| A0 <| y_M rfl <| E6 rfl rfl (C4 (by omega)) <| y_S rfl <| xN [0,3] [] rfl ?_
  refine ⟨i + 1, ⟨by omega, fun j hj => by rcases Nat.lt_succ_iff_lt_or_eq.1 hj with h | h; (· exact hi2 j h); (· subst h; assumption)⟩, (by omega), ⟨rfl, rfl, trivial⟩⟩
 refine D8 <| A3 <| A0 <| y_M rfl <| B9 rfl rfl <| a5h rfl rfl <| y_S rfl <| xN [2] [] rfl <| A9 <| C0 rfl rfl trivial ?_
 rw [vl, c7q fun j hj => hi2 j (by omega), Bool.and_true]
 exact congrArg bV (decide_eq_decide.2 (by omega))

theorem a9o : E7 Tryz.f99 = [0, 2] := by kernel_rfl
theorem c3n (c : List Int) (hc : c.length ≤ 1048576) : CW (cxT oG) 99 [L c] = some (bV (!vd c), []) := by
 refine E4 rfl Tryz.func99 rfl ⟨by kernel_rfl, rfl, dT rfl, dT rfl, by decide⟩ a9o <| A3 <| A0 <| y_S rfl <| xN [0] [] rfl <| A3 <| A0 <| y_M rfl ?_
 refine xC1 rfl rfl (W9 c hc) ⟨rfl, rfl, rfl⟩ rfl rfl fun g4 => ?_
 refine J9 rfl <| y_S rfl <| xN [2] [] rfl <| A9 <| C0 rfl rfl trivial ?_
 rfl

theorem a8k : E7 Tryz.f134 = [0, 1, 4, 8, 7, 9, 5, 16] := by kernel_rfl
theorem c0h (cols : List (List Int)) (hc4 : cols.length ≤ 1048576) (hcb : ∀ c ∈ cols, c.length ≤ 1048576) : ∃ res outs, (fun res outs => ∃ r : Int, res = iV r ∧ outs = [] ∧ decide (0 ≤ r) = cols.any fun c => !vd c) res outs ∧ CW (cxT oG) 134 [M cols, .clo 99 []] = some (res, outs) := by
 refine P3 rfl Tryz.func134 rfl ⟨by kernel_rfl, rfl, dT rfl, dT rfl, by decide⟩ a8k <| A3 <| A0 <| y_S rfl <| xN [0,1] [] rfl <| A3 <| A3 <| A0 <| y_M rfl <| B9 rfl rfl <| y_M rfl <| xN [0,1,7,8] [] rfl <| B0 <| F5 (β := Nat) [(.t 0, _), (.t 1, _), (.t 7, _)] (fun (i : Nat) => [(.t 8, iV i)]) (fun (i : Nat) => i ≤ cols.length ∧ ∀ j, j < i → (!vd (cols.getD j default)) = false) (fun (i : Nat) => cols.length - i) 0 ⟨rfl, rfl, rfl, rfl, trivial⟩ ⟨Nat.zero_le _, fun j h => by omega⟩ ?_
 intro i hb
 obtain ⟨hi1, hi2⟩ := hb
 have hci := fun h : i < cols.length => hcb _ (V3 h)
 refine A3 <| A0 <| F8 rfl rfl <| xN [0,1,7,8,9] [] rfl <| A3 ?_
 refine A5 rfl ?_ ?_ <;> intro hc <;> try simp only [SL] at hc
 ·refine A6 <| A3 <| B0 <| A3 <| A0 <| y_M rfl <| y_S rfl <| xN [0,1,5,7,8] [] rfl <| A3 <| A0 <| y_M rfl <| y_M rfl <| y_M rfl <| B8 rfl rfl rfl (fun _ => rfl) (by omega) <| y_I rfl ?_
  apply c7z rfl rfl
  ·apply A8
   ·exact B7 rfl
   exact C3
  ·exact c3n (cols.getD i default) (hci (by omega))
  ·exact ⟨rfl, rfl, rfl, dT rfl, rfl⟩
  ·exact .inl rfl
  ·exact B3
  ·exact C6 rfl
  ·exact fun _ => rfl
  intro g16
  refine xN [0,1,5,7,8,16] [] rfl ?_
  refine A5 rfl ?_ ?_ <;> intro hc <;> try simp only [SL] at hc
  ·refine A3 <| A0 <| y_M rfl <| y_S rfl <| xN [4] [] rfl <| A9 ?_
   refine ⟨_, _, ?_, J0 rfl rfl B5⟩
   exact ⟨_, rfl, rfl, d2j (q := fun c => !vd c) (by omega) (by simpa using hc)⟩
  refine A6 <| A0 <| E6 rfl rfl (C4 (by omega)) <| y_M rfl <| xN [0,1,7,8] [] rfl ?_
  refine ⟨i + 1, ⟨by omega, fun j hj => by rcases Nat.lt_succ_iff_lt_or_eq.1 hj with h | h; (· exact hi2 j h); (· subst h; simpa using hc)⟩, (by omega), ⟨rfl, rfl, rfl, rfl, trivial⟩⟩
 refine D8 <| A3 <| A0 <| y_S rfl <| xN [4] [] rfl <| A9 ?_
 refine ⟨_, _, ?_, J0 rfl rfl B5⟩
 exact ⟨-1, rfl, rfl, d0a fun j hj => hi2 j (by omega)⟩

theorem a4p : E7 Tryz.f98 = [0, 1, 4] := by kernel_rfl
theorem b1y (cols : List (List Int)) (hc4 : cols.length ≤ 1048576) (hcb : ∀ c ∈ cols, c.length ≤ 1048576) : CW (cxT oG) 98 [M cols, .clo 99 []] = some (bV (cols.any fun c => !vd c), []) := by
 obtain ⟨_, _, ⟨r, rfl, rfl, hr⟩, hC⟩ := c0h (oG := oG) cols hc4 hcb
 refine E4 rfl Tryz.func98 rfl ⟨by kernel_rfl, rfl, dT rfl, dT rfl, by decide⟩ a4p <| A3 <| A0 <| y_S rfl <| xN [0,1] [] rfl <| A3 <| A0 <| y_M rfl <| y_M rfl ?_
 refine xC2 rfl rfl rfl (hC) ⟨rfl, rfl, rfl⟩ rfl rfl fun g7 => ?_
 refine c0m rfl rfl <| y_S rfl <| xN [4] [] rfl <| A9 <| C0 rfl rfl trivial ?_
 rw [← hr]

theorem a6h : E7 Tryz.f58 = [0, 2] := by kernel_rfl
theorem b4h (cols : List (List Int)) (hc4 : cols.length ≤ 1048576) (hcb : ∀ c ∈ cols, c.length ≤ 1048576) : CW (cxT oG) 58 [M cols] = some (bV (vcs cols), []) := by
 refine E4 rfl Tryz.func58 rfl ⟨by kernel_rfl, rfl, dT rfl, dT rfl, by decide⟩ a6h <| A3 <| A0 <| y_S rfl <| xN [0] [] rfl <| A3 <| A0 <| y_M rfl <| B9 rfl rfl <| a5h rfl rfl <| y_M rfl ?_
 refine C5 rfl rfl ?_ ?_ <;> intro hg0 <;> have hg := hg0 <;> try simp only [SG] at hg
 ·refine y_M rfl <| gT rfl rfl ?_
  refine xC2 rfl rfl rfl (b1y cols hc4 hcb) ⟨rfl, rfl, rfl⟩ rfl rfl fun g8 => ?_
  refine gT rfl rfl <| J9 rfl <| E8 rfl (by assumption) rfl rfl <| y_S rfl <| xN [2] [] rfl <| A9 <| C0 rfl rfl trivial ?_
  rw [c7k]
  (simp_all; done)
 refine gF rfl rfl <| gF rfl rfl <| F7 rfl (by assumption) rfl rfl <| y_S rfl <| xN [2] [] rfl <| A9 <| C0 rfl rfl trivial ?_
 rw [c7k]
 (simp_all [ofConst]; intros; omega)

theorem b4l : E7 Tryz.f108 = [0, 3, 2, 9] := by kernel_rfl
theorem d0i (x : List Int) (hl : x.length ≤ 1000) : ∃ res outs, (fun res outs => res = .tup [] ∧ outs = [x.reverse.map iV]) res outs ∧ CW (cxT oG) 108 [.own 1 (x.map iV)] = some (res, outs) := by
 refine P3 rfl Tryz.func108 rfl ⟨by kernel_rfl, rfl, dT rfl, dT rfl, by decide⟩ b4l <| A3 <| A0 <| y_M rfl <| M3 rfl rfl ?_
 simp only [List.length_map]
 refine P5 rfl rfl (C4 (by omega)) <| y_S rfl <| y_S rfl <| xN [0,2,3] [0] rfl <| B0 ?_
 rw [show ((x.length : Int) - 1) = (x.length : Int) - 1 - ((0 : Nat) : Int) by simp]
 refine F5 (β := Nat × List Int) [(.t 0, _)] (fun (z : Nat × List Int) => match z with | (i, l) => [(.t 2, iV i), (.t 3, iV ((x.length : Int) - 1 - (i : Int))), (.h 0, .obj 1 1 1 (l.map iV))]) (fun (z : Nat × List Int) => match z with | (i, l) => i ≤ x.length ∧ b9b x i l) (fun (z : Nat × List Int) => match z with | (i, l) => x.length - i) (0, x) ⟨rfl, rfl, rfl, rfl, trivial⟩ ⟨Nat.zero_le _, b9b.start x⟩ ?_
 intro z hb
 obtain ⟨i, l⟩ := z
 try dsimp only at hb
 obtain ⟨hi1, hr⟩ := hb
 have hrl := hr.1
 refine A3 <| A3 <| A0 <| y_M rfl <| y_M rfl <| F8 rfl rfl <| xN [0,2,3,9] [0] rfl ?_
 refine A5 rfl ?_ ?_ <;> intro hc <;> try simp only [SL] at hc
 ·refine A6 <| A3 <| B0 <| A0 ?_
  iterate 6 refine y_M rfl ?_
  rw [show ((x.length : Int) - 1 - (i : Int)) = ((x.length - 1 - i : Nat) : Int) by omega]
  refine F0 rfl rfl rfl rfl (by (simp; omega)) (by (simp; omega)) rfl <| H7 rfl rfl (by omega) (fun _ => rfl) (fun _ => rfl) rfl <| y_M rfl <| y_M rfl <| F0 rfl rfl rfl rfl (by (simp; omega)) (by (simp; omega)) rfl <| H7 rfl rfl (by omega) (fun _ => rfl) (fun _ => rfl) rfl <| F0 rfl rfl rfl rfl (by (simp; omega)) (by (simp; omega)) rfl <| M0 rfl rfl rfl (by omega) (fun _ _ => ⟨rfl, rfl, dT rfl, dT rfl, rfl, rfl⟩) (by decide) (by exact b7i (A7 fun _ => rfl)) <| F0 rfl rfl rfl rfl (by (simp; omega)) (by (simp; omega)) rfl <| M0 rfl rfl rfl (by (simp; omega)) (fun _ _ => ⟨rfl, rfl, dT rfl, dT rfl, rfl, rfl⟩) (by decide) (by exact b7i (A7 fun _ => rfl)) ?_
  refine J7 ⟨fun _ => ⟨by decide +kernel, by decide +kernel⟩, [(.t 0, _), (.t 2, _), (.t 3, _), (.h 0, _)], ⟨rfl, rfl, rfl, rfl, rfl, rfl, rfl, rfl, trivial⟩, ?_⟩
  refine A0 <| y_M rfl <| E6 rfl rfl (C4 (by omega)) ?_
  rw [show ((x.length - 1 - i : Nat) : Int) = (x.length : Int) - 1 - (i : Int) by omega]
  refine y_M rfl <| P5 rfl rfl (C4 (by omega)) <| y_S rfl <| y_S rfl <| xN [0,2,3] [0] rfl ?_
  rw [show ((x.length : Int) - 1 - (i : Int) - 1) = (x.length : Int) - 1 - ((i + 1 : Nat) : Int) by omega]
  refine ⟨(i + 1, _), ?_, (by simp only; omega), ⟨rfl, rfl, rfl, rfl, trivial⟩⟩
  exact ⟨by omega, hr.step (by omega)⟩
 refine D8 ?_
 refine ⟨_, _, ?_, d0t (J3 rfl (a3d fun _ => rfl))⟩
 exact ⟨rfl, by rw [hr.fin (by omega)]⟩

theorem b6b : E7 Tryz.f65 = [0, 1, 2, 6, 9, 7, 19] := by kernel_rfl
theorem d1f (k : Nat) (hk : k < 4) (nums : List Int) (cols : List (List Int)) (hc4 : cols.length ≤ 1048576) (hcb : ∀ c ∈ cols, c.length ≤ 1048576) : CW (cxT oG) 65 [sV (d5b k), L nums, M cols] = some (.own 1 ((cols.getD k default).map iV), []) := by
 have hgl : (cols.getD k default).length ≤ 1048576 := by rcases Nat.lt_or_ge k cols.length with c | c; (· exact hcb _ (V3 c)); (· rw [List.getD_eq_getElem?_getD, List.getElem?_eq_none c]; exact Nat.zero_le _)
 refine E4 rfl Tryz.func65 rfl ⟨by kernel_rfl, rfl, dT rfl, dT rfl, by decide⟩ b6b <| A3 <| A0 ?_
 (refine B1 rfl rfl (fun _ => rfl) ?_; intro g6)
 refine xN [0,1,2] [] rfl <| A3 <| A3 <| A0 <| y_M rfl <| d2u (t := false) rfl rfl (by match k, hk with | 0, _ => decide +kernel | 1, _ => decide +kernel | 2, _ => decide +kernel | 3, _ => decide +kernel) <| xN [0,1,2,9] [] rfl ?_
 refine A5 rfl (fun hc => ?_) (fun hc => ?_)
 ·try simp only [SD] at hc
  exact absurd hc (by decide)
 try simp only [SL] at hc
 refine A6 <| A3 <| A3 <| A0 <| y_M rfl <| b0m (b := UInt8.ofNat (97 + k)) rfl rfl rfl (by decide) rfl ?_
 rw [show (UInt8.ofNat (97 + k)).toNat = 97 + k from by match k, hk with | 0, _ => rfl | 1, _ => rfl | 2, _ => rfl | 3, _ => rfl]
 refine P5 rfl rfl (by constructor <;> simp [IntKind.min, IntKind.max, IntKind.signed, IntKind.bits] <;> omega) ?_
 rw [show ((97 + k : Nat) : Int) - 97 = (k : Int) by omega]
 refine a6r rfl rfl rfl (C4 (by omega)) <| y_S rfl <| xN [2,7] [] rfl <| A3 <| A0 <| y_M rfl <| y_M rfl <| B9 rfl rfl <| F8 rfl rfl <| xN [2,7,19] [] rfl ?_
 refine A5 rfl ?_ ?_ <;> intro hc <;> try simp only [SL] at hc
 ·refine A3 <| A0 <| y_M rfl <| y_M rfl <| B8 rfl rfl rfl (fun _ => rfl) (by omega) <| y_I rfl ?_
  apply xC rfl
  ·apply A8
   ·exact B7 rfl
   exact C3
  ·exact c7m (cols.getD k default) hgl
  refine ⟨⟨rfl, rfl, rfl, dT rfl, rfl⟩, .inl rfl, B3, M9, fun _ => rfl, fun g24 => ?_⟩
  simp only [List.length_map]
  (refine xO rfl rfl (by simp) rfl (fun _ => rfl) (fun _ => rfl) ?_; intro g6)
  refine xN [6] [6] rfl <| A9 <| R8 rfl rfl (by simp) (by exact A7 fun _ => rfl) trivial ?_
  rfl
 refine A6 <| A3 <| A0 ?_
 (refine B1 rfl rfl (fun _ => rfl) ?_; intro g6)
 refine xN [6] [6] rfl <| A9 <| R8 rfl rfl (by simp) (by rfl) trivial ?_
 rw [List.getD_eq_getElem?_getD, List.getElem?_eq_none (by omega)]
 rfl
end Go.Proofs.YtcpmbhfnapijaaaGreatDoor
