/- What each function of the program gives on the abstract machine, part 1 of 1. Conditions: those in front of each theorem. -/
import Derived.Test.YtfiobkibbebeiaaMd
import Derived.Test.YtfiobkibbebeiaaChecked
import Derived.KernelRfl

set_option linter.unusedVariables false
set_option linter.unusedSimpArgs false
namespace Go.Proofs.Ytfiobkibbebeiaa
open Go Go.Mv Go.Proofs
set_option maxRecDepth 100000
set_option maxHeartbeats 20000000

theorem SD : (∀ {p : Prop} [Decidable p], (decide p = true) = p) ∧ (∀ {p : Prop} {_ : Decidable p}, decide p = false ↔ ¬p) ∧ (∀ (b : Bool), ((!b) = true) = (b = false)) ∧ (∀ (b : Bool), ((!b) = false) = (b = true)) ∧ (∀ {α : Type} [BEq α] [LawfulBEq α] {a b : α}, (a != b) = true ↔ a ≠ b) ∧
    (∀ {α : Type} [BEq α] [LawfulBEq α] {a b : α}, (a == b) = true ↔ a = b) ∧ (∀ {α : Type} (a b : α), (a ≠ b) = ¬a = b) ∧ (!true) = false ∧ (!false) = true ∧ (∀ {α : Type} [BEq α] [LawfulBEq α] {a b : α}, (a == b) = false ↔ a ≠ b) ∧ (∀ {α : Type} [BEq α] [LawfulBEq α] {a b : α}, (a != b) = false ↔ a = b) ∧
    (∀ {p : Prop} [Decidable p], ¬¬p ↔ p) ∧ (∀ {a b : Int}, ¬a < b ↔ b ≤ a) ∧ (∀ {a b : Int}, ¬a ≤ b ↔ b < a) :=
  ⟨@decide_eq_true_eq, @decide_eq_false_iff_not, @Bool.not_eq_true', @Bool.not_eq_false', @bne_iff_ne, @beq_iff_eq, @ne_eq, @Bool.not_true, @Bool.not_false, @beq_eq_false_iff_ne, @bne_eq_false_iff_eq, @Decidable.not_not, @Int.not_lt, @Int.not_le⟩
theorem SG : ((∀ {p : Prop} [Decidable p], (decide p = true) = p) ∧ (∀ {p : Prop} {_ : Decidable p}, decide p = false ↔ ¬p) ∧ (∀ (b : Bool), ((!b) = true) = (b = false)) ∧ (∀ (b : Bool), ((!b) = false) = (b = true)) ∧ (∀ {α : Type} [BEq α] [LawfulBEq α] {a b : α}, (a != b) = true ↔ a ≠ b) ∧
    (∀ {α : Type} [BEq α] [LawfulBEq α] {a b : α}, (a == b) = true ↔ a = b) ∧ (∀ {α : Type} (a b : α), (a ≠ b) = ¬a = b) ∧ (!true) = false ∧ (!false) = true ∧ (∀ {α : Type} [BEq α] [LawfulBEq α] {a b : α}, (a == b) = false ↔ a ≠ b) ∧ (∀ {α : Type} [BEq α] [LawfulBEq α] {a b : α}, (a != b) = false ↔ a = b) ∧
    (∀ {p : Prop} [Decidable p], ¬¬p ↔ p) ∧ (∀ {a b : Int}, ¬a < b ↔ b ≤ a) ∧ (∀ {a b : Int}, ¬a ≤ b ↔ b < a)) ∧
    (∀ (a b : Bool), ((a && b) = true) = (a = true ∧ b = true)) ∧ (∀ {x y : Bool}, (x && y) = false ↔ x = false ∨ y = false) ∧ (∀ (a b : Bool), ((a || b) = true) = (a = true ∨ b = true)) ∧ (∀ {x y : Bool}, (x || y) = false ↔ x = false ∧ y = false) :=
  ⟨SD, @Bool.and_eq_true, @Bool.and_eq_false_iff, @Bool.or_eq_true, @Bool.or_eq_false_iff⟩
def c1z (keep : List Nat) (A : Asr) : List Mv.Loc → Asr → Option Asr
  | l :: ls, B => match keepLoc keep l, Mv.look A l with
    | true, some a => c1z keep A ls ((l, a) :: B)
    | _, _ => none
  | [], B => some B
theorem c0n {keep : List Nat} {A : Asr} : ∀ (ls : List Mv.Loc) {B C : Asr}, KeepL keep A B → c1z keep A ls B = some C → KeepL keep A C
  | [], B, C, h, e => by simp only [c1z, Option.some.injEq] at e; rw [← e]; exact h
  | l :: ls, B, C, h, e => by
    simp only [c1z] at e
    split at e
    · exact c0n ls (show KeepL keep A ((l, _) :: B) from ⟨by assumption, by assumption, h⟩) e
    · cases e
theorem kS (ts hs : List Nat) {keep : List Nat} {A B : Asr} (h : c1z keep A (ts.map .t ++ hs.map .h) [] = some B) : KeepL keep A B := c0n _ (show KeepL keep A [] from trivial) h
section
variable {cx : Cx} {keep : List Nat} {ops0 : Array Oper} {r : List Oper} {A : Asr} {Q : Asr → List Log → Prop}
variable {d ty : Nat} {pos : String} {aft : Array Edge}
theorem gT {op : Op} {dst : Option Nat} {g dg : Nat} {want b : Bool} (hd : (ops0[g]?).bind (·.dst) = some dg) (hb : Mv.look A (.t dg) = some (.val (.bool b)))
    (h : XR cx keep ops0 (⟨dst, op, ty, pos, aft, none⟩ :: r) A fun A' lg => Q A' (c0b (.t dg) lg)) (hw : b = want := by assumption) : XR cx keep ops0 (⟨dst, op, ty, pos, aft, some (g, want)⟩ :: r) A Q := S2 hd hb hw h
theorem gF {op : Op} {g dg : Nat} {want b : Bool} (hd : (ops0[g]?).bind (·.dst) = some dg) (hb : Mv.look A (.t dg) = some (.val (.bool b)))
    (h : XR cx keep ops0 r ((.t d, .val (.tuple #[])) :: A) fun A' lg => Q A' (([.t dg], [.t d]) :: lg)) (hw : b = !want := by assumption) : XR cx keep ops0 (⟨some d, op, ty, pos, aft, some (g, want)⟩ :: r) A Q := K4 hd hb hw h
theorem xN {B : Asr} {p : Asr → List Log → Prop} {R : Asr → Prop} (ts hs : List Nat) (h : c1z keep A (ts.map .t ++ hs.map .h) [] = some B) (q : R B) :
    XR cx keep ops0 [] A (fun A' lg => (false = true → p A' lg) ∧ ∃ B, KeepL keep A' B ∧ R B) := F3 ⟨nofun, B, kS ts hs h, q⟩
theorem xC {G : Type} {k : Nat} {args : Array Operand} {Ts : Array Nat} {vs av : List AV} {ids : List (Nat × Bool)} {wp wb : Ws} {lp lb li : List Mv.Loc} {res : AV} {outs : List (List AV)} {v : G → AV} {wi : G → Ws}
    (hv : opds A args.toList = some vs) (hp : a2e (CW cx) A (cx.md k) 0 vs av ids wp lp) (hC : CW cx k av = some (res, outs))
    (hr : (apartIds ids = true ∧ K2 ((T8 (cx.md k) 0 vs).map (·.1)) = true ∧ K2 ((cidAll (cx.md k) 0 av).map (·.1)) = true ∧ av.length ≤ 1000 ∧ V8 av = true) ∧
      (ids.all (fun x => x.2) = true ∨ (hasList res = false ∧ outs.any C3 = false)) ∧
      b8a (CW cx) (puts A wp) (T8 (cx.md k) 0 vs) outs wb lb ∧ a1d (CW cx) (puts (puts A wp) wb) d res v wi li ∧
      (∀ g, tRefsOk keep (keptWs keep (wp ++ (wb ++ (wi g ++ [(.t d, v g)])))) = true) ∧
      ∀ g, XR cx keep ops0 r (a1z A (wp ++ (wb ++ (wi g ++ [(.t d, v g)])))) fun A' lg => Q A' ((a0y args.toList ++ (lp ++ (lb ++ li)), Q9 (wp ++ (wb ++ (wi g ++ [(.t d, v g)])))) :: lg)) :
    XR cx keep ops0 (⟨some d, .call ⟨.value (.func k), args, Ts⟩, ty, pos, aft, none⟩ :: r) A Q :=
  a5q hv hp hC hr.1 hr.2.1 hr.2.2.1 hr.2.2.2.1 hr.2.2.2.2.1 hr.2.2.2.2.2
theorem xC1 {k : Nat} {Ts : Array Nat} {x1 : Operand} {v1 res : AV} (hx : opds A [x1] = some [v1]) (p1 : N9 v1 = true) (hC : CW cx k [v1] = some (res, []))
    (hb : T8 (cx.md k) 0 [v1] = [] ∧ K2 ((cidAll (cx.md k) 0 [v1]).map (·.1)) = true ∧ V8 [v1] = true) (hi : I5 res = true) (hk : tRefsOk keep (keptWs keep [(.t d, res)]) = true)
    (h : ∀ _ : Unit, XR cx keep ops0 r (a1z A [(.t d, res)]) fun A' lg => Q A' ((a0y [x1], [.t d]) :: lg)) : XR cx keep ops0 (⟨some d, .call ⟨.value (.func k), #[x1], Ts⟩, ty, pos, aft, none⟩ :: r) A Q :=
  a5q hx (A6 (C0 p1) E7) hC ⟨rfl, by rw [hb.1]; rfl, hb.2.1, by simp, hb.2.2⟩ (.inl rfl) (by rw [hb.1]; exact C7) (D3 hi) (fun _ => hk) (fun g => by have := h g; simpa [Q9] using this)
theorem xC2 {k : Nat} {Ts : Array Nat} {x1 x2 : Operand} {v1 v2 res : AV} (hx : opds A [x1, x2] = some [v1, v2]) (p1 : N9 v1 = true) (p2 : N9 v2 = true) (hC : CW cx k [v1, v2] = some (res, []))
    (hb : T8 (cx.md k) 0 [v1, v2] = [] ∧ K2 ((cidAll (cx.md k) 0 [v1, v2]).map (·.1)) = true ∧ V8 [v1, v2] = true) (hi : I5 res = true) (hk : tRefsOk keep (keptWs keep [(.t d, res)]) = true)
    (h : ∀ _ : Unit, XR cx keep ops0 r (a1z A [(.t d, res)]) fun A' lg => Q A' ((a0y [x1, x2], [.t d]) :: lg)) : XR cx keep ops0 (⟨some d, .call ⟨.value (.func k), #[x1, x2], Ts⟩, ty, pos, aft, none⟩ :: r) A Q :=
  a5q hx (A6 (C0 p1) (A6 (C0 p2) E7)) hC ⟨rfl, by rw [hb.1]; rfl, hb.2.1, by simp, hb.2.2⟩ (.inl rfl) (by rw [hb.1]; exact C7) (D3 hi) (fun _ => hk) (fun g => by have := h g; simpa [Q9] using this)
theorem xC3 {k : Nat} {Ts : Array Nat} {x1 x2 x3 : Operand} {v1 v2 v3 res : AV} (hx : opds A [x1, x2, x3] = some [v1, v2, v3]) (p1 : N9 v1 = true) (p2 : N9 v2 = true) (p3 : N9 v3 = true) (hC : CW cx k [v1, v2, v3] = some (res, []))
    (hb : T8 (cx.md k) 0 [v1, v2, v3] = [] ∧ K2 ((cidAll (cx.md k) 0 [v1, v2, v3]).map (·.1)) = true ∧ V8 [v1, v2, v3] = true) (hi : I5 res = true) (hk : tRefsOk keep (keptWs keep [(.t d, res)]) = true)
    (h : ∀ _ : Unit, XR cx keep ops0 r (a1z A [(.t d, res)]) fun A' lg => Q A' ((a0y [x1, x2, x3], [.t d]) :: lg)) : XR cx keep ops0 (⟨some d, .call ⟨.value (.func k), #[x1, x2, x3], Ts⟩, ty, pos, aft, none⟩ :: r) A Q :=
  a5q hx (A6 (C0 p1) (A6 (C0 p2) (A6 (C0 p3) E7))) hC ⟨rfl, by rw [hb.1]; rfl, hb.2.1, by simp, hb.2.2⟩ (.inl rfl) (by rw [hb.1]; exact C7) (D3 hi) (fun _ => hk) (fun g => by have := h g; simpa [Q9] using this)
theorem xO {α : Type} {f : α → AV} {xs : List α} {x : Operand} {id g s n : Nat} (hx : opd A x = some (.sl id g none 0 n)) (ho : Mv.look A (.h id) = some (.obj g 0 s (xs.map f))) (hn : n = (xs.map f).length) (hne : Loc.beq (.h d) (.h id) = false) (hf : ∀ a, L0 (f a) = true)
    (hk : ∀ g, slotOk keep (.t d) (.sl d g none 0 n) = true) (h : ∀ g', XR cx keep ops0 r ((.t d, .sl d g' none 0 n) :: (.h d, .obj g' 0 s (xs.map f)) :: (.h id, .dead g) :: A) fun A' lg => Q A' ((rds x ++ [.h id, .h d], [.h id, .h d, .t d]) :: lg)) :
    XR cx keep ops0 (⟨some d, .assign x, ty, pos, aft, none⟩ :: r) A Q := b3f hx ho hn hne (fun _ => F0 (B6 hf)) hk h
theorem xB {T id g m s : Nat} {a x : Operand} {e v : AV} (ha : opd A a = some (.ptr id g none 0 0)) (hx : opd A x = some v) (ho : Mv.look A (.h id) = some (.obj g m s [e])) (hl : a8g (leaves e) v = true)
    (hc : decide (m ≠ 2 ∧ (leaves v).length = (tyS cx.P T).size ∧ 0 < (leaves v).length ∧ (leaves v).length ≤ (leaves e).length) = true) (hw : S7 (leaves v) (leaves e) = true) (hp : putAt e 0 v = v) (hm : decide (m = 3) = true) (hi : H9 [v] = true)
    (h : XR cx keep ops0 r ((.h id, .obj g m s [v]) :: A) fun A' lg => Q A' ((rds a ++ (rds x ++ [.h id, .h id, .h id]), [.h id]) :: lg)) : XR cx keep ops0 (⟨none, .store T a x, ty, pos, aft, none⟩ :: r) A Q := by
  obtain ⟨h1, h2, h3, h4⟩ := of_decide_eq_true hc
  exact b4h ha hx ho hl ⟨h1, h2, h3, h4, hw⟩ hp (by rw [of_decide_eq_true hm]; exact D4 hi) h
theorem xA {α : Type} {f : α → AV} {xs ys : List α} {T T' E s id g n id2 g2 n2 : Nat} {x y : Operand} {z : AV} (hx : opd A x = some (.sl id g none 0 n)) (hy : opd A y = some (.sl id2 g2 none 0 n2)) (ho : Mv.look A (.h id) = some (.obj g 0 s (xs.map f))) (ho2 : Mv.look A (.h id2) = some (.obj g2 0 s (ys.map f)))
    (hn : n = (xs.map f).length) (hn2 : n2 = (ys.map f).length) (hd : (decide (1000000 ≤ id2) && !Loc.beq (.h id) (.h id2)) = true) (hT : Y1 cx.P T = some (E, s)) (hT' : M3 (tyS cx.P T').k = true) (hz : a5z cx.P E = some (z, s)) (hb : decide ((tyS cx.P E).bytes ≤ 4096) = true) (hf : ∀ a, ((leaves (f a)).all cellLeaf && L0 (f a)) = true)
    (hle : xs.length + ys.length ≤ 4294967296) (hk : ∀ g, slotOk keep (.t d) (.sl (tid d 0) g none 0 (xs ++ ys).length) = true)
    (h : ∀ g', XR cx keep ops0 r ((.t d, .sl (tid d 0) g' none 0 (xs ++ ys).length) :: (.h (tid d 0), .obj g' 0 s ((xs ++ ys).map f)) :: (.h id, .dead g) :: (.h id2, .dead g2) :: A) fun A' lg => Q A' ((rds x ++ (rds y ++ [.h id2, .h id, .h (tid d 0)]), [.h id2, .h id, .h (tid d 0), .t d]) :: lg)) :
    XR cx keep ops0 (⟨some d, .call ⟨.builtin .append, #[x, y], #[T, T']⟩, ty, pos, aft, none⟩ :: r) A Q := by
  simp only [Bool.and_eq_true, decide_eq_true_eq, Bool.not_eq_true'] at hd hf
  exact b4b hx hy ho ho2 hn hn2 hd.1 hd.2 hT hT' hz (of_decide_eq_true hb) hf (Nat.le_trans hle (by decide)) hk h
theorem y_M {x : Operand} {v : AV} (e : (opd A x, slotOk keep (.t d) v) = (some v, true)) (h : XR cx keep ops0 r ((.t d, v) :: A) fun A' lg => Q A' ((rds x, [.t d]) :: lg)) : XR cx keep ops0 (⟨some d, .move x, ty, pos, aft, none⟩ :: r) A Q := by
  simp only [Prod.mk.injEq] at e
  exact c7y e.1 e.2 h
theorem y_S {x : Operand} {v : AV} (e : (opd A x, Y8 v, slotOk keep (.t d) v) = (some v, true, true)) (h : XR cx keep ops0 r ((.t d, v) :: A) fun A' lg => Q A' ((rds x, [.t d]) :: lg)) : XR cx keep ops0 (⟨some d, .assign x, ty, pos, aft, none⟩ :: r) A Q := by
  simp only [Prod.mk.injEq] at e
  exact c4d e.1 e.2.1 e.2.2 h
theorem y_F {x : Operand} {S f o ft : Nat} {v v' : AV} (e : (opd A x, (match (tyS cx.P S).k with | .struct fs => fs[f]? | _ => none), decide ((tyS cx.P ft).size ≠ 0), (match v with | .ptr id g p i j => some (AV.ptr id g p i (j + o)) | .ipt e j => some (.ipt e (j + o)) | _ => none), slotOk keep (.t d) v') = (some v, some (o, ft), true, some v', true)) (h : XR cx keep ops0 r ((.t d, v') :: A) fun A' lg => Q A' ((rds x, [.t d]) :: lg)) : XR cx keep ops0 (⟨some d, .fieldAddr S x f, ty, pos, aft, none⟩ :: r) A Q := by
  simp only [Prod.mk.injEq] at e
  refine b5x e.1 e.2.1 (of_decide_eq_true e.2.2.1) ?_ e.2.2.2.2 h
  have e4 := e.2.2.2.1
  cases v <;> exact e4
theorem y_L {a : Operand} {T id g m s i j : Nat} {es : List AV} {e0 v : AV} (e : (opd A a, Mv.look A (.h id), es[i]?, ((leaves e0).all fun l => !isOwn l), partF cx.P T ((leaves e0).drop j), slotOk keep (.t d) v) = (some (.ptr id g none i j), some (.obj g m s es), some e0, true, some v, true)) (h : XR cx keep ops0 r ((.t d, v) :: A) fun A' lg => Q A' ((rds a ++ [.h id], [.t d]) :: lg)) : XR cx keep ops0 (⟨some d, .load T a, ty, pos, aft, none⟩ :: r) A Q := by
  simp only [Prod.mk.injEq] at e
  exact a1g e.1 e.2.1 e.2.2.1 e.2.2.2.1 e.2.2.2.2.1 e.2.2.2.2.2 h
theorem y_E {x : Operand} {i : Nat} {vs : List AV} {v : AV} (e : (opd A x, vs[i]?, slotOk keep (.t d) v) = (some (.tup vs), some v, true)) (h : XR cx keep ops0 r ((.t d, v) :: A) fun A' lg => Q A' ((rds x, [.t d]) :: lg)) : XR cx keep ops0 (⟨some d, .extract x i, ty, pos, aft, none⟩ :: r) A Q := by
  simp only [Prod.mk.injEq] at e
  exact c2l e.1 e.2.1 e.2.2 h
theorem y_B {a : Operand} {T id g m s : Nat} {v : AV} (e : (opd A a, Mv.look A (.h id), ((leaves v).all fun l => !isOwn l), partF cx.P T (leaves v), slotOk keep (.t d) v) = (some (.ptr id g none 0 0), some (.obj g m s [v]), true, some v, true)) (h : XR cx keep ops0 r ((.t d, v) :: A) fun A' lg => Q A' ((rds a ++ [.h id], [.t d]) :: lg)) : XR cx keep ops0 (⟨some d, .load T a, ty, pos, aft, none⟩ :: r) A Q := by
  simp only [Prod.mk.injEq] at e
  exact b6j e.1 e.2.1 e.2.2.1 e.2.2.2.1 e.2.2.2.2 h
theorem y_I {a : Operand} {T : Nat} {v : AV} (e : (opd A a, partF cx.P T (leaves v), slotOk keep (.t d) v) = (some (.ipt v 0), some v, true)) (h : XR cx keep ops0 r ((.t d, v) :: A) fun A' lg => Q A' ((rds a, [.t d]) :: lg)) : XR cx keep ops0 (⟨some d, .load T a, ty, pos, aft, none⟩ :: r) A Q := by
  simp only [Prod.mk.injEq] at e
  exact b6b e.1 e.2.1 e.2.2 h
theorem y_A {T s : Nat} {z : AV} (e : (a5z cx.P T, H9 [z], slotOk keep (.t d) (.ptr d 0 none 0 0)) = (some (z, s), true, true)) (hk : ∀ g, slotOk keep (.t d) (.ptr d g none 0 0) = true)
    (h : ∀ g, XR cx keep ops0 r ((.t d, .ptr d g none 0 0) :: (.h d, .obj g 3 s [z]) :: A) fun A' lg => Q A' (([.h d], [.h d, .t d]) :: lg)) : XR cx keep ops0 (⟨some d, .alloc T, ty, pos, aft, none⟩ :: r) A Q := by
  simp only [Prod.mk.injEq] at e
  exact c7b e.1 (fun _ => D4 e.2.1) hk h
end
theorem SL : (∀ {α β : Type} {av : List α} (f : α → β), (av.map f).length = av.length) ∧ (((∀ {p : Prop} [Decidable p], (decide p = true) = p) ∧ (∀ {p : Prop} {_ : Decidable p}, decide p = false ↔ ¬p) ∧ (∀ (b : Bool), ((!b) = true) = (b = false)) ∧ (∀ (b : Bool), ((!b) = false) = (b = true)) ∧ (∀ {α : Type} [BEq α] [LawfulBEq α] {a b : α}, (a != b) = true ↔ a ≠ b) ∧
    (∀ {α : Type} [BEq α] [LawfulBEq α] {a b : α}, (a == b) = true ↔ a = b) ∧ (∀ {α : Type} (a b : α), (a ≠ b) = ¬a = b) ∧ (!true) = false ∧ (!false) = true ∧ (∀ {α : Type} [BEq α] [LawfulBEq α] {a b : α}, (a == b) = false ↔ a ≠ b) ∧ (∀ {α : Type} [BEq α] [LawfulBEq α] {a b : α}, (a != b) = false ↔ a = b) ∧
    (∀ {p : Prop} [Decidable p], ¬¬p ↔ p) ∧ (∀ {a b : Int}, ¬a < b ↔ b ≤ a) ∧ (∀ {a b : Int}, ¬a ≤ b ↔ b < a)) ∧
    (∀ (a b : Bool), ((a && b) = true) = (a = true ∧ b = true)) ∧ (∀ {x y : Bool}, (x && y) = false ↔ x = false ∨ y = false) ∧ (∀ (a b : Bool), ((a || b) = true) = (a = true ∨ b = true)) ∧ (∀ {x y : Bool}, (x || y) = false ↔ x = false ∧ y = false)) := ⟨@List.length_map.{0, 0}, SG⟩
theorem LN : (∀ {α : Type}, ([] : List α).length = 0) ∧ (∀ {α : Type} {a : α} {l : List α}, (a :: l).length = l.length + 1) ∧ (∀ {α : Type} {a b : List α}, (a ++ b).length = a.length + b.length) ∧ (∀ n : Nat, 0 + n = n) ∧ (∀ {α β : Type} {l : List α} (f : α → β), (l.map f).length = l.length) := ⟨rfl, rfl, List.length_append, Nat.zero_add, List.length_map.{0, 0}⟩
theorem dT {p : Prop} [Decidable p] (h : decide p = true) : p := of_decide_eq_true h

def mdT : List (Nat × List Nat) := [(29, [3, 3, 3, 3]), (30, [3, 3, 3, 3]), (45, [1]), (46, [2]), (49, [3, 3, 3, 3]), (50, [3, 3, 3, 3])]
noncomputable def c8g : List (Nat × (List AV → Option (AV × List (List AV)))) := [(45, Z6 26)]
noncomputable def cxT : Cx := { P := Try.prog, md := c9g mdT, ext := c1i c8g, it := fun _ => none, fzB := fun T d => [].contains (T, d) }
noncomputable def cxE : Cx := { P := Try.prog, md := c9g mdT, ext := fun _ => none }
theorem c6i (xs : List Rat) (hl : xs.length ≤ O8) (hx : ∀ x ∈ xs, Sm 1000000000 x) : CW cxT 45 [.own 2 (xs.map qV), .clo 26 []] = some (.tup [], [(sortQ xs).map qV]) := c8h cxT rfl (b5w _ hl hx)

theorem a9h : C1 Try.f52 = [0, 1, 2, 6] := by kernel_rfl
theorem b1r (n lo hi : Int) : CW cxT 52 [iV n, iV lo, iV hi] = some (bV (decide (lo ≤ n) && decide (n ≤ hi)), []) := by
 refine B8 rfl Try.func52 rfl ⟨by kernel_rfl, rfl, dT rfl, dT rfl, by decide⟩ a9h <| A3 <| A0 <| y_S rfl <| xN [0,1,2] [] rfl <| A3 <| A0 <| y_M rfl <| y_M rfl <| c0g rfl rfl <| y_M rfl ?_
 refine E4 rfl rfl ?_ ?_ <;> intro hg0 <;> have hg := hg0 <;> try simp only [SG] at hg
 ·refine y_M rfl <| gT rfl rfl <| y_M rfl <| gT rfl rfl <| c0g rfl rfl <| H8 rfl (by assumption) rfl rfl <| y_S rfl <| xN [6] [] rfl <| B1 <| C8 rfl rfl trivial ?_
  simp_all [ofConst]; try omega
 refine gF rfl rfl <| gF rfl rfl <| F7 rfl (by assumption) rfl rfl <| y_S rfl <| xN [6] [] rfl <| B1 <| C8 rfl rfl trivial ?_
 simp_all [ofConst]; try omega

theorem c1u : C1 Try.f32 = [0, 1, 2, 6] := by kernel_rfl
theorem c8j (n lo hi : Int) : CW cxT 32 [iV n, iV lo, iV hi] = some (bV (decide (lo ≤ n) && decide (n ≤ hi)), []) := by
 refine B8 rfl Try.func32 rfl ⟨by kernel_rfl, rfl, dT rfl, dT rfl, by decide⟩ c1u <| A3 <| A0 <| y_S rfl <| xN [0,1,2] [] rfl <| A3 <| A0 <| y_M rfl <| y_M rfl <| c3o rfl rfl <| y_M rfl ?_
 refine E4 rfl rfl ?_ ?_ <;> intro hg0 <;> have hg := hg0 <;> try simp only [SG] at hg
 ·refine y_M rfl <| gT rfl rfl <| y_M rfl <| gT rfl rfl <| c0g rfl rfl <| H8 rfl (by assumption) rfl rfl <| y_S rfl <| xN [6] [] rfl <| B1 <| C8 rfl rfl trivial ?_
  simp_all [ofConst]; try omega
 refine gF rfl rfl <| gF rfl rfl <| F7 rfl (by assumption) rfl rfl <| y_S rfl <| xN [6] [] rfl <| B1 <| C8 rfl rfl trivial ?_
 simp_all [ofConst]; try omega

theorem b7g : C1 Try.f49 = [0, 1, 4, 24, 5, 36, 6] := by kernel_rfl
theorem a3b (bs : List Int) (p : Int) (hbs : a4o bs) (hl : bs.length ≤ 1048576) (hp : 0 ≤ p ∧ p ≤ 1000000000) (n : Int) (hn : n ≤ 1000000000) : ∃ res outs, (fun res outs => ∃ k, res = iV k ∧ outs = [[rdr bs (p + 1)]] ∧ (1 ≤ n → 0 ≤ k ∧ k < n) ∧ (n < 1 → k = 0)) res outs ∧ CW cxT 49 [.ownp [rdr bs p] 0 0, iV n] = some (res, outs) := by
 refine N2 rfl Try.func49 rfl ⟨by kernel_rfl, rfl, dT rfl, dT rfl, by decide⟩ b7g <| A3 <| A0 <| y_S rfl <| xN [0,1] [0] rfl <| A3 <| A0 <| y_M rfl <| y_M rfl <| J0 rfl rfl rfl <| y_F rfl <| y_L rfl <| G4 rfl rfl (B0 (by omega)) <| J0 rfl rfl rfl <| y_F rfl <| b2y rfl rfl rfl rfl rfl ⟨by decide, rfl, dT rfl, dT rfl, rfl⟩ (by exact c2j rfl) <| xN [0,1] [0] rfl <| A3 <| A3 <| A0 <| y_M rfl <| H7 rfl rfl <| y_M rfl ?_
 refine E4 rfl rfl ?_ ?_ <;> intro hg0 <;> have hg := hg0 <;> try simp only [SG] at hg
 ·refine y_M rfl <| gT rfl rfl <| J0 rfl rfl rfl <| gT rfl rfl <| y_F rfl <| gT rfl rfl <| y_L rfl <| gT rfl rfl <| C6 rfl rfl <| gT rfl rfl <| a8p rfl rfl <| F7 rfl (by assumption) rfl rfl <| xN [0,1,24] [0] rfl ?_
  refine B4 rfl ?_ ?_ <;> intro hc <;> try simp only [SL] at hc
  ·refine A3 <| A0 <| y_S rfl <| xN [4] [0] rfl <| B1 ?_
   refine ⟨_, _, ?_, Q8 rfl rfl (Q1 rfl rfl)⟩
   refine ⟨_, rfl, rfl, fun h => ?_, fun h => ?_⟩
   ·omega
   omega
  refine B7 <| A3 <| A0 <| y_M rfl <| J0 rfl rfl rfl <| y_F rfl <| y_L rfl <| a0w rfl rfl (B0 (by omega)) <| y_S rfl <| xN [0,1,5] [0] rfl <| A3 <| A3 <| A0 <| y_M rfl <| y_M rfl <| J0 rfl rfl rfl <| y_F rfl <| y_L rfl <| C6 rfl rfl <| H7 rfl rfl <| xN [0,1,5,36] [0] rfl ?_
  refine B4 rfl ?_ ?_ <;> intro hc <;> try simp only [SL] at hc
  ·refine A3 <| A0 <| y_M rfl <| J0 rfl rfl rfl <| y_F rfl <| y_L rfl <| y_M rfl <| P9 rfl rfl rfl (fun _ => rfl) (by omega) <| y_I rfl <| b8d rfl rfl rfl (B0 (by have := hbs.getD (p + 1 - 1).toNat; omega)) <| y_M rfl ?_
   have hk := hbs.getD (p + 1 - 1).toNat
   refine a6p rfl rfl (by omega) <| y_S rfl <| xN [4] [0] rfl <| B1 ?_
   refine ⟨_, _, ?_, Q8 rfl rfl (Q1 rfl rfl)⟩
   refine ⟨_, rfl, rfl, fun h => ?_, fun h => ?_⟩
   ·exact a7p (by omega) (by omega)
   omega
  refine B7 <| A3 <| A0 <| y_M rfl <| J0 rfl rfl rfl <| y_F rfl <| y_L rfl <| y_M rfl <| y_M rfl <| J0 rfl rfl rfl <| y_F rfl <| y_L rfl <| C6 rfl rfl ?_
  have hlen : 0 < (bs.length : Int) := by omega
  refine a6p rfl rfl (by omega) ?_
  have hm1 := a7p (a := p + 1 - 1) (by omega) hlen
  refine P9 rfl rfl rfl (fun _ => rfl) (by omega) <| y_I rfl <| b8d rfl rfl rfl (B0 (by have := hbs.getD ((p + 1 - 1).tmod bs.length).toNat; omega)) ?_
  have hk := hbs.getD ((p + 1 - 1).tmod bs.length).toNat
  refine K8 rfl rfl (B0 (by omega)) <| y_M rfl <| J0 rfl rfl rfl <| y_F rfl <| y_L rfl <| y_M rfl <| K8 rfl rfl (B0 (by omega)) <| G4 rfl rfl (B0 (by omega)) <| y_M rfl <| J0 rfl rfl rfl <| y_F rfl <| y_L rfl <| C6 rfl rfl <| a6p rfl rfl (by omega) ?_
  have hm2 := a7p (a := (p + 1 - 1) * 7 + 3) (by omega) hlen
  refine P9 rfl rfl rfl (fun _ => rfl) (by omega) <| y_I rfl <| b8d rfl rfl rfl (B0 (by have := hbs.getD (((p + 1 - 1) * 7 + 3).tmod bs.length).toNat; omega)) ?_
  have hk2 := hbs.getD (((p + 1 - 1) * 7 + 3).tmod bs.length).toNat
  refine K8 rfl rfl (B0 (by omega)) <| G4 rfl rfl (B0 (by omega)) <| y_M rfl <| K8 rfl rfl (B0 (by omega)) <| G4 rfl rfl (B0 (by omega)) <| y_M rfl <| y_M rfl <| J0 rfl rfl rfl <| y_F rfl <| y_L rfl <| C6 rfl rfl ?_
  have hd := a2n (a := p + 1 - 1) (b := bs.length) (by omega) (by omega)
  refine L8 rfl rfl ⟨by omega, B0 (by omega)⟩ <| K8 rfl rfl (B0 (by omega)) <| G4 rfl rfl (B0 (by omega)) <| y_S rfl ?_
  refine F3 ⟨fun _ => ⟨by decide +kernel, by decide +kernel⟩, [(.t 1, _), (.t 6, _), (.h 0, _)], ⟨rfl, rfl, rfl, rfl, rfl, rfl, trivial⟩, ?_⟩
  refine A3 <| A0 <| y_M rfl <| y_M rfl ?_
  have hd2 := a2n (a := (bs.getD ((p + 1 - 1).tmod bs.length).toNat default * 131 + bs.getD (((p + 1 - 1) * 7 + 3).tmod bs.length).toNat default * 1117 + (p + 1 - 1) * 29 + (p + 1 - 1).tdiv bs.length * 53)) (b := 64) (by omega) (by decide)
  refine L8 rfl rfl ⟨by omega, B0 (by omega)⟩ ?_
  have hx := c7z (x := (bs.getD ((p + 1 - 1).tmod bs.length).toNat default * 131 + bs.getD (((p + 1 - 1) * 7 + 3).tmod bs.length).toNat default * 1117 + (p + 1 - 1) * 29 + (p + 1 - 1).tdiv bs.length * 53)) (by omega) (y := (bs.getD ((p + 1 - 1).tmod bs.length).toNat default * 131 + bs.getD (((p + 1 - 1) * 7 + 3).tmod bs.length).toNat default * 1117 + (p + 1 - 1) * 29 + (p + 1 - 1).tdiv bs.length * 53).tdiv 64) (by omega)
  refine c9t rfl rfl <| y_S rfl <| xN [1,6] [0] rfl <| A3 <| A0 <| y_M rfl <| y_M rfl <| a6p rfl rfl (by omega) <| y_S rfl <| xN [4] [0] rfl <| B1 ?_
  refine ⟨_, _, ?_, Q8 rfl rfl (Q1 rfl rfl)⟩
  refine ⟨_, rfl, rfl, fun h => ?_, fun h => ?_⟩
  ·exact a7p (by omega) (by omega)
  omega
 iterate 5 refine gF rfl rfl ?_
 refine H8 rfl (by assumption) rfl rfl <| xN [0,1,24] [0] rfl ?_
 refine B4 rfl (fun hc => ?_) (fun hc => absurd hc (by decide))
 refine A3 <| A0 <| y_S rfl <| xN [4] [0] rfl <| B1 ?_
 refine ⟨_, _, ?_, Q8 rfl rfl (Q1 rfl rfl)⟩
 refine ⟨_, rfl, rfl, fun h => ?_, fun h => ?_⟩
 ·omega
 omega

theorem b8o : C1 Try.f50 = [0, 1, 4] := by kernel_rfl
theorem c7q (bs : List Int) (p : Int) (hbs : a4o bs) (hl : bs.length ≤ 1048576) (hp : 0 ≤ p ∧ p ≤ 1000000000) (xs : List Int) (hx : 1 ≤ xs.length ∧ xs.length ≤ 1000) : ∃ res outs, (fun res outs => ∃ k, res = iV k ∧ outs = [[rdr bs (p + 1)]] ∧ k ∈ xs) res outs ∧ CW cxT 50 [.ownp [rdr bs p] 0 0, L xs] = some (res, outs) := by
 refine N2 rfl Try.func50 rfl ⟨by kernel_rfl, rfl, dT rfl, dT rfl, by decide⟩ b8o <| A3 <| A0 <| y_S rfl <| xN [0,1] [0] rfl <| A3 <| A0 <| y_M rfl <| y_M rfl <| y_M rfl <| C6 rfl rfl ?_
 obtain ⟨_, _, ⟨k, rfl, rfl, hk1, hk2⟩, hC⟩ := a3b bs p hbs hl hp xs.length (by omega)
 have hk1 := hk1 (by omega)
 apply xC rfl
 ·apply A6
  ·exact Y0 rfl (by decide) rfl
  apply A6
  ·exact C0 rfl
  exact E7
 ·exact hC
 refine ⟨⟨rfl, rfl, rfl, dT rfl, rfl⟩, .inl rfl, K5 rfl rfl rfl C7, D3 rfl, fun _ => rfl, fun g9 => ?_⟩
 refine P9 rfl rfl rfl (fun _ => rfl) (by omega) <| y_I rfl <| y_S rfl <| xN [4] [0] rfl <| B1 ?_
 refine ⟨_, _, ?_, Q8 rfl rfl (Q1 rfl rfl)⟩
 refine ⟨_, rfl, rfl, I8 (by omega)⟩

theorem a5x : C1 Try.f30 = [0, 2, 5] := by kernel_rfl
theorem b4v (bs : List Int) (hl : bs.length ≤ 1048576) : ∃ res outs, (fun res outs => res = .ownp [rdr (bs.take 2000) 0] 0 0 ∧ outs = []) res outs ∧ CW cxT 30 [.list (bs.map uV)] = some (res, outs) := by
 refine N2 rfl Try.func30 rfl ⟨by kernel_rfl, rfl, dT rfl, dT rfl, by decide⟩ a5x <| A3 <| A0 <| y_S rfl <| xN [0] [] rfl <| A3 <| A3 <| A0 <| y_M rfl <| C6 rfl rfl <| c1h rfl rfl <| xN [0,5] [] rfl ?_
 refine B4 rfl ?_ ?_ <;> intro hc <;> try simp only [SL] at hc
 ·refine A0 <| y_M rfl <| b3k rfl rfl rfl (Mv.sized_map fun _ => rfl) (b4o rfl) b6z (by (simp; omega)) <| y_S rfl <| xN [0] [] rfl <| A3 <| A0 <| y_M rfl <| I4 (fs := [_, _]) rfl rfl rfl rfl rfl <| I2 rfl rfl rfl (fun _ => D4 rfl) (fun _ => rfl) ?_
  intro g10
  (refine a3s rfl rfl rfl rfl (fun _ => D4 rfl) (fun _ => rfl) ?_; intro g2)
  refine xN [2] [2] rfl <| B1 ?_
  refine ⟨_, _, ?_, c0u rfl rfl rfl C9⟩
  have e : rdr (bs.take 2000) 0 = .agg [.list ((bs.map uV).take 2000), iV 0] := by unfold rdr; rw [List.map_take]
  rw [e]
  exact ⟨rfl, rfl⟩
 refine B7 <| A3 <| A0 <| y_M rfl <| I4 (fs := [_, _]) rfl rfl rfl rfl rfl <| I2 rfl rfl rfl (fun _ => D4 rfl) (fun _ => rfl) ?_
 intro g10
 (refine a3s rfl rfl rfl rfl (fun _ => D4 rfl) (fun _ => rfl) ?_; intro g2)
 refine xN [2] [2] rfl <| B1 ?_
 refine ⟨_, _, ?_, c0u rfl rfl rfl C9⟩
 have e : bs.take 2000 = bs := List.take_of_length_le (by omega)
 rw [e]
 exact ⟨rfl, rfl⟩

theorem a3y : C1 Try.f70 = [0, 1, 4, 8, 7, 9, 5, 16] := by kernel_rfl
theorem b3s (xs : List Int) (hl : xs.length ≤ 1000) (k : Nat) (a b : AV) (q : Int → Bool) (hq : ∀ x, CW cxT k [iV x, .ipt a 0, .ipt b 0] = some (bV (q x), [])) : ∃ res outs, (fun res outs => ∃ r : Int, res = iV r ∧ outs = [] ∧ decide (0 ≤ r) = xs.any q) res outs ∧ CW cxT 70 [L xs, .clo k [.ipt a 0, .ipt b 0]] = some (res, outs) := by
 refine N2 rfl Try.func70 rfl ⟨by kernel_rfl, rfl, dT rfl, dT rfl, by decide⟩ a3y <| A3 <| A0 <| y_S rfl <| xN [0,1] [] rfl <| A3 <| A3 <| A0 <| y_M rfl <| C6 rfl rfl <| y_M rfl <| xN [0,1,7,8] [] rfl <| B5 <| G2 (β := Nat) [(.t 0, _), (.t 1, _), (.t 7, _)] (fun (i : Nat) => [(.t 8, iV i)]) (fun (i : Nat) => i ≤ xs.length ∧ ∀ j, j < i → q (xs.getD j default) = false) (fun (i : Nat) => xs.length - i) 0 ⟨rfl, rfl, rfl, rfl, trivial⟩ ⟨Nat.zero_le _, fun j h => by omega⟩ ?_
 intro i hb
 obtain ⟨hi1, hi2⟩ := hb
 refine A3 <| A0 <| H7 rfl rfl <| xN [0,1,7,8,9] [] rfl <| A3 ?_
 refine B4 rfl ?_ ?_ <;> intro hc <;> try simp only [SL] at hc
 ·refine B7 <| A3 <| B5 <| A3 <| A0 <| y_M rfl <| y_S rfl <| xN [0,1,5,7,8] [] rfl <| A3 <| A0 <| y_M rfl <| y_M rfl <| y_M rfl <| A5 rfl rfl rfl (fun _ => rfl) (by omega) <| y_I rfl ?_
  apply b4e rfl rfl
  ·apply A6
   ·exact C0 rfl
   apply A6
   ·exact C0 rfl
   apply A6
   ·exact C0 rfl
   exact E7
  ·exact hq (xs.getD i default)
  ·exact ⟨rfl, rfl, rfl, dT rfl, rfl⟩
  ·exact .inl rfl
  ·exact C7
  ·exact D3 rfl
  ·exact fun _ => rfl
  intro g16
  refine xN [0,1,5,7,8,16] [] rfl ?_
  refine B4 rfl ?_ ?_ <;> intro hc <;> try simp only [SL] at hc
  ·refine A3 <| A0 <| y_M rfl <| y_S rfl <| xN [4] [] rfl <| B1 ?_
   refine ⟨_, _, ?_, Q8 rfl rfl C9⟩
   exact ⟨_, rfl, rfl, c6z (by omega) hc⟩
  refine B7 <| A0 <| G4 rfl rfl (B0 (by omega)) <| y_M rfl <| xN [0,1,7,8] [] rfl ?_
  refine ⟨i + 1, ⟨by omega, fun a ha => by rcases Nat.lt_succ_iff_lt_or_eq.1 ha with h | h; exact hi2 a h; subst h; exact hc⟩, (by omega), ⟨rfl, rfl, rfl, rfl, trivial⟩⟩
 refine G1 <| A3 <| A0 <| y_S rfl <| xN [4] [] rfl <| B1 ?_
 refine ⟨_, _, ?_, Q8 rfl rfl C9⟩
 exact ⟨-1, rfl, rfl, c5d fun j hj => hi2 j (by omega)⟩

theorem a1j : C1 Try.f58 = [0, 1, 4] := by kernel_rfl
theorem a6s (xs : List Int) (hl : xs.length ≤ 1000) (k : Nat) (a b : AV) (q : Int → Bool) (hq : ∀ x, CW cxT k [iV x, .ipt a 0, .ipt b 0] = some (bV (q x), [])) : CW cxT 58 [L xs, .clo k [.ipt a 0, .ipt b 0]] = some (bV (xs.any q), []) := by
 obtain ⟨_, _, ⟨r, rfl, rfl, hr⟩, hC⟩ := b3s xs hl k a b q hq
 refine B8 rfl Try.func58 rfl ⟨by kernel_rfl, rfl, dT rfl, dT rfl, by decide⟩ a1j <| A3 <| A0 <| y_S rfl <| xN [0,1] [] rfl <| A3 <| A0 <| y_M rfl <| y_M rfl ?_
 apply xC rfl
 ·apply A6
  ·exact C0 rfl
  apply A6
  ·exact a3k rfl (c6c (c6c a3d))
  exact E7
 ·exact hC
 refine ⟨⟨rfl, rfl, rfl, dT rfl, rfl⟩, .inl rfl, C7, D3 rfl, fun _ => rfl, fun g7 => ?_⟩
 refine c3o rfl rfl <| y_S rfl <| xN [4] [] rfl <| B1 <| C8 rfl rfl trivial ?_
 rw [← hr]

theorem b0k : C1 Try.f59 = [0, 1, 2, 4] := by kernel_rfl
theorem c5c (x lo hi : Int) : CW cxT 59 [iV x, .ipt (iV lo) 0, .ipt (iV hi) 0] = some (bV (!(decide (lo ≤ x) && decide (x ≤ hi))), []) := by
 refine B8 rfl Try.func59 rfl ⟨by kernel_rfl, rfl, dT rfl, dT rfl, by decide⟩ b0k <| A3 <| A0 <| y_S rfl <| xN [0,1,2] [] rfl <| A3 <| A0 <| y_M rfl <| y_I rfl <| y_I rfl ?_
 refine xC3 rfl rfl rfl rfl (c8j _ _ _) ⟨rfl, rfl, rfl⟩ rfl rfl fun g8 => ?_
 refine a4p rfl <| y_S rfl <| xN [4] [] rfl <| B1 <| C8 rfl rfl trivial ?_
 rfl

theorem b4f : C1 Try.f55 = [0, 1, 2, 6, 4, 5] := by kernel_rfl
theorem c0s (xs : List Int) (hl : xs.length ≤ 1000) (lo hi : Int) : CW cxT 55 [L xs, iV lo, iV hi] = some (bV (J3 lo hi xs), []) := by
 refine B8 rfl Try.func55 rfl ⟨by kernel_rfl, rfl, dT rfl, dT rfl, by decide⟩ b4f <| A3 <| A0 <| I2 rfl rfl rfl (fun _ => D4 rfl) (fun _ => rfl) ?_
 intro g4
 refine I2 rfl rfl rfl (fun _ => D4 rfl) (fun _ => rfl) ?_
 intro g5
 refine y_S rfl <| xN [0,4,5] [4,5] rfl <| A3 <| A0 <| y_M rfl <| b9a rfl rfl ?_
 apply xC rfl
 ·apply A6
  ·exact C0 rfl
  apply A6
  ·exact a3k rfl (c5x rfl rfl (c5x rfl rfl a3d))
  exact E7
 ·exact a6s xs hl 59 (iV lo) (iV hi) _ (fun x => c5c x lo hi)
 refine ⟨⟨rfl, rfl, rfl, dT rfl, rfl⟩, .inr ⟨rfl, rfl⟩, C7, D3 rfl, fun _ => rfl, fun g9 => ?_⟩
 refine a4p rfl <| y_S rfl <| xN [6] [] rfl <| B1 <| C8 rfl rfl trivial ?_
 exact congrArg bV (c4j lo hi xs)

theorem b6m : C1 Try.f53 = [0, 1, 4, 7, 5] := by kernel_rfl
theorem c3d (a b : Int) (ha : -4611686018427387904 ≤ a ∧ a ≤ 4611686018427387904) (hb : -4611686018427387904 ≤ b ∧ b ≤ 4611686018427387904) : CW cxT 53 [iV a, iV b] = some (iV (Int.gcd a b : Int), []) := by
 refine B8 rfl Try.func53 rfl ⟨by kernel_rfl, rfl, dT rfl, dT rfl, by decide⟩ b6m <| A3 <| A0 <| y_S rfl <| xN [0,1] [] rfl <| A3 <| B5 <| a4j (β := Int × Int) (fun (z : Int × Int) => match z with | (x, y) => [(.t 0, iV x), (.t 1, iV y)]) (fun (z : Int × Int) => match z with | (x, y) => Int.gcd x y = Int.gcd a b ∧ (-4611686018427387904 ≤ x ∧ x ≤ 4611686018427387904) ∧ (-4611686018427387904 ≤ y ∧ y ≤ 4611686018427387904)) (fun (z : Int × Int) => match z with | (x, y) => y.natAbs) (a, b) ⟨rfl, rfl, trivial⟩ ⟨rfl, ha, hb⟩ ?_
 intro z hb
 obtain ⟨x, y⟩ := z
 try dsimp only at hb
 obtain ⟨hg, hx, hy⟩ := hb
 refine A3 <| A3 <| A0 <| y_M rfl <| a4q rfl rfl <| xN [0,1,7] [] rfl ?_
 refine B4 rfl ?_ ?_ <;> intro hc <;> try simp only [SL] at hc
 ·refine B7 <| B5 <| A3 <| A0 <| y_M rfl <| y_M rfl <| a6p rfl rfl (by omega) <| y_S rfl <| xN [1,5] [] rfl <| A3 <| A0 <| y_M rfl <| y_S rfl <| xN [0,5] [] rfl <| A0 <| y_M rfl <| y_S rfl <| xN [0,1] [] rfl ?_
  refine ⟨(y, x.tmod y), ⟨by rw [a3u]; exact hg, hy, by have := a7i x y; omega⟩, (by have := a7o x hc; simp only; omega), ⟨rfl, rfl, trivial⟩⟩
 refine G1 <| A3 <| A0 <| y_M rfl <| y_M rfl <| X2 rfl (B0 (by omega)) <| a2s rfl rfl <| y_S rfl <| xN [4] [] rfl <| B1 <| C8 rfl rfl trivial ?_
 subst hc
 rw [a7j, hg]

theorem a1y : C1 Try.f51 = [0, 1, 4, 6] := by kernel_rfl
theorem a7z (a b : Int) (ha : -4611686018427387904 ≤ a ∧ a ≤ 4611686018427387904) (hb : -4611686018427387904 ≤ b ∧ b ≤ 4611686018427387904) : CW cxT 51 [iV a, iV b] = some (iV (Int.gcd a b : Int), []) := by
 refine B8 rfl Try.func51 rfl ⟨by kernel_rfl, rfl, dT rfl, dT rfl, by decide⟩ a1y <| A3 <| A0 <| y_S rfl <| xN [0,1] [] rfl <| A3 <| B5 <| a4j (β := Int × Int) (fun (z : Int × Int) => match z with | (x, y) => [(.t 0, iV x), (.t 1, iV y)]) (fun (z : Int × Int) => match z with | (x, y) => Int.gcd x y = Int.gcd a b ∧ (-4611686018427387904 ≤ x ∧ x ≤ 4611686018427387904) ∧ (-4611686018427387904 ≤ y ∧ y ≤ 4611686018427387904)) (fun (z : Int × Int) => match z with | (x, y) => y.natAbs) (a, b) ⟨rfl, rfl, trivial⟩ ⟨rfl, ha, hb⟩ ?_
 intro z hb
 obtain ⟨x, y⟩ := z
 try dsimp only at hb
 obtain ⟨hg, hx, hy⟩ := hb
 refine A3 <| A3 <| A0 <| y_M rfl <| a4q rfl rfl <| xN [0,1,6] [] rfl ?_
 refine B4 rfl ?_ ?_ <;> intro hc <;> try simp only [SL] at hc
 ·refine B7 <| B5 <| A0 <| y_M rfl <| y_M rfl <| y_M rfl <| a6p rfl rfl (by omega) <| y_S rfl <| y_S rfl ?_
  refine F3 ⟨fun _ => ⟨by decide +kernel, by decide +kernel⟩, [(.t 0, _), (.t 1, _)], ⟨rfl, rfl, rfl, rfl, trivial⟩, ?_⟩
  refine ⟨(y, x.tmod y), ⟨by rw [a3u]; exact hg, hy, by have := a7i x y; omega⟩, (by have := a7o x hc; simp only; omega), ⟨rfl, rfl, trivial⟩⟩
 refine G1 <| A3 <| A0 <| y_M rfl <| y_M rfl <| X2 rfl (B0 (by omega)) <| a2s rfl rfl <| y_S rfl <| xN [4] [] rfl <| B1 <| C8 rfl rfl trivial ?_
 subst hc
 rw [a7j, hg]

theorem b6l : C1 Try.f35 = [0, 1, 4, 7, 5] := by kernel_rfl
theorem c3j (a b : Int) (ha : -4611686018427387904 ≤ a ∧ a ≤ 4611686018427387904) (hb : -4611686018427387904 ≤ b ∧ b ≤ 4611686018427387904) : CW cxT 35 [iV a, iV b] = some (iV (Int.gcd a b : Int), []) := by
 refine B8 rfl Try.func35 rfl ⟨by kernel_rfl, rfl, dT rfl, dT rfl, by decide⟩ b6l <| A3 <| A0 <| y_S rfl <| xN [0,1] [] rfl <| A3 <| B5 <| a4j (β := Int × Int) (fun (z : Int × Int) => match z with | (x, y) => [(.t 0, iV x), (.t 1, iV y)]) (fun (z : Int × Int) => match z with | (x, y) => Int.gcd x y = Int.gcd a b ∧ (-4611686018427387904 ≤ x ∧ x ≤ 4611686018427387904) ∧ (-4611686018427387904 ≤ y ∧ y ≤ 4611686018427387904)) (fun (z : Int × Int) => match z with | (x, y) => y.natAbs) (a, b) ⟨rfl, rfl, trivial⟩ ⟨rfl, ha, hb⟩ ?_
 intro z hb
 obtain ⟨x, y⟩ := z
 try dsimp only at hb
 obtain ⟨hg, hx, hy⟩ := hb
 refine A3 <| A3 <| A0 <| y_M rfl <| a4q rfl rfl <| xN [0,1,7] [] rfl ?_
 refine B4 rfl ?_ ?_ <;> intro hc <;> try simp only [SL] at hc
 ·refine B7 <| B5 <| A3 <| A0 <| y_M rfl <| y_M rfl <| a6p rfl rfl (by omega) <| y_S rfl <| xN [1,5] [] rfl <| A3 <| A0 <| y_M rfl <| y_S rfl <| xN [0,5] [] rfl <| A0 <| y_M rfl <| y_S rfl <| xN [0,1] [] rfl ?_
  refine ⟨(y, x.tmod y), ⟨by rw [a3u]; exact hg, hy, by have := a7i x y; omega⟩, (by have := a7o x hc; simp only; omega), ⟨rfl, rfl, trivial⟩⟩
 refine G1 <| A3 <| A0 <| y_M rfl <| y_M rfl <| X2 rfl (B0 (by omega)) <| a2s rfl rfl <| y_S rfl <| xN [4] [] rfl <| B1 <| C8 rfl rfl trivial ?_
 subst hc
 rw [a7j, hg]

theorem b3o : C1 Try.f38 = [0, 1, 4, 7, 5] := by kernel_rfl
theorem U9 (u d : Int) (hu : -4611686018427387904 ≤ u ∧ u ≤ 4611686018427387904) (hd : -4611686018427387904 ≤ d ∧ d ≤ 4611686018427387904) (h0 : d ≠ 0) : CW cxT 38 [iV u, iV d] = some (qV (Rat.divInt u d), []) := by
 refine B8 rfl Try.func38 rfl ⟨by kernel_rfl, rfl, dT rfl, dT rfl, by decide⟩ b3o <| A3 <| A0 <| y_A rfl (fun _ => rfl) ?_
 intro g4
 refine xN [0,1,4] [4] rfl <| A3 <| A3 <| A0 <| y_M rfl <| H7 rfl rfl <| xN [0,1,4,7] [4] rfl ?_
 refine B4 rfl ?_ ?_ <;> intro hc <;> try simp only [SL] at hc
 ·refine A3 <| A0 <| y_M rfl <| X2 rfl (B0 (by omega)) <| y_S rfl <| xN [0,1,4] [4] rfl <| A0 <| y_M rfl <| X2 rfl (B0 (by omega)) <| y_S rfl <| xN [0,1,4] [4] rfl <| A3 <| A0 <| y_M rfl <| y_M rfl ?_
  refine xC2 rfl rfl rfl ((by exact c3d (-u) (-d) (by omega) (by omega))) ⟨rfl, rfl, rfl⟩ rfl rfl fun g14 => ?_
  refine y_S rfl <| xN [0,1,4,5] [4] rfl <| A3 <| A0 <| y_M rfl <| y_M rfl ?_
  (have hf := V6 (u := -u) (d := -d) (by omega); have hbd := a4m (u := -u) (d := -d) (by omega); have hgp := N8 (u := -u) (d := -d) (by omega))
  refine L8 rfl rfl ⟨by omega, B0 (by rw [← hf.1]; omega)⟩ <| y_M rfl <| y_M rfl <| L8 rfl rfl ⟨by omega, B0 (by rw [← hf.2]; omega)⟩ <| I4 (fs := [_, _]) rfl rfl rfl rfl rfl <| xB rfl rfl rfl rfl rfl rfl rfl rfl rfl ?_
  refine F3 ⟨fun _ => ⟨by decide +kernel, by decide +kernel⟩, [(.t 4, _), (.h 4, _)], ⟨rfl, rfl, rfl, rfl, trivial⟩, ?_⟩
  refine B1 <| E5 (E8 rfl rfl rfl rfl rfl (F6 C9)) ?_
  rw [← hf.1, ← hf.2]
  (rw [Rat.neg_divInt_neg]; rfl)
 refine B7 <| A3 <| A0 <| y_M rfl <| y_M rfl ?_
 refine xC2 rfl rfl rfl (by exact c3d u d hu hd) ⟨rfl, rfl, rfl⟩ rfl rfl fun g14 => ?_
 refine y_S rfl <| xN [0,1,4,5] [4] rfl <| A3 <| A0 <| y_M rfl <| y_M rfl ?_
 (have hf := V6 (u := u) (d := d) (by omega); have hbd := a4m (u := u) (d := d) (by omega); have hgp := N8 (u := u) (d := d) (by omega))
 refine L8 rfl rfl ⟨by omega, B0 (by rw [← hf.1]; omega)⟩ <| y_M rfl <| y_M rfl <| L8 rfl rfl ⟨by omega, B0 (by rw [← hf.2]; omega)⟩ <| I4 (fs := [_, _]) rfl rfl rfl rfl rfl <| xB rfl rfl rfl rfl rfl rfl rfl rfl rfl ?_
 refine F3 ⟨fun _ => ⟨by decide +kernel, by decide +kernel⟩, [(.t 4, _), (.h 4, _)], ⟨rfl, rfl, rfl, rfl, trivial⟩, ?_⟩
 refine B1 <| E5 (E8 rfl rfl rfl rfl rfl (F6 C9)) ?_
 rw [← hf.1, ← hf.2]
 rfl

theorem b2n : C1 Try.f13 = [0, 1, 4, 7, 5] := by kernel_rfl
theorem c7j (u d : Int) (hu : -4611686018427387904 ≤ u ∧ u ≤ 4611686018427387904) (hd : -4611686018427387904 ≤ d ∧ d ≤ 4611686018427387904) (h0 : d ≠ 0) : CW cxT 13 [iV u, iV d] = some (qV (Rat.divInt u d), []) := by
 refine B8 rfl Try.func13 rfl ⟨by kernel_rfl, rfl, dT rfl, dT rfl, by decide⟩ b2n <| A3 <| A0 <| y_A rfl (fun _ => rfl) ?_
 intro g4
 refine xN [0,1,4] [4] rfl <| A3 <| A3 <| A0 <| y_M rfl <| H7 rfl rfl <| xN [0,1,4,7] [4] rfl ?_
 refine B4 rfl ?_ ?_ <;> intro hc <;> try simp only [SL] at hc
 ·refine A3 <| A0 <| y_M rfl <| X2 rfl (B0 (by omega)) <| y_S rfl <| xN [0,1,4] [4] rfl <| A0 <| y_M rfl <| X2 rfl (B0 (by omega)) <| y_S rfl <| xN [0,1,4] [4] rfl <| A3 <| A0 <| y_M rfl <| y_M rfl ?_
  refine xC2 rfl rfl rfl ((by exact c3j (-u) (-d) (by omega) (by omega))) ⟨rfl, rfl, rfl⟩ rfl rfl fun g14 => ?_
  refine y_S rfl <| xN [0,1,4,5] [4] rfl <| A3 <| A0 <| y_M rfl <| y_M rfl ?_
  (have hf := V6 (u := -u) (d := -d) (by omega); have hbd := a4m (u := -u) (d := -d) (by omega); have hgp := N8 (u := -u) (d := -d) (by omega))
  refine L8 rfl rfl ⟨by omega, B0 (by rw [← hf.1]; omega)⟩ <| y_M rfl <| y_M rfl <| L8 rfl rfl ⟨by omega, B0 (by rw [← hf.2]; omega)⟩ <| I4 (fs := [_, _]) rfl rfl rfl rfl rfl <| xB rfl rfl rfl rfl rfl rfl rfl rfl rfl ?_
  refine F3 ⟨fun _ => ⟨by decide +kernel, by decide +kernel⟩, [(.t 4, _), (.h 4, _)], ⟨rfl, rfl, rfl, rfl, trivial⟩, ?_⟩
  refine B1 <| E5 (E8 rfl rfl rfl rfl rfl (F6 C9)) ?_
  rw [← hf.1, ← hf.2]
  (rw [Rat.neg_divInt_neg]; rfl)
 refine B7 <| A3 <| A0 <| y_M rfl <| y_M rfl ?_
 refine xC2 rfl rfl rfl (by exact c3j u d hu hd) ⟨rfl, rfl, rfl⟩ rfl rfl fun g14 => ?_
 refine y_S rfl <| xN [0,1,4,5] [4] rfl <| A3 <| A0 <| y_M rfl <| y_M rfl ?_
 (have hf := V6 (u := u) (d := d) (by omega); have hbd := a4m (u := u) (d := d) (by omega); have hgp := N8 (u := u) (d := d) (by omega))
 refine L8 rfl rfl ⟨by omega, B0 (by rw [← hf.1]; omega)⟩ <| y_M rfl <| y_M rfl <| L8 rfl rfl ⟨by omega, B0 (by rw [← hf.2]; omega)⟩ <| I4 (fs := [_, _]) rfl rfl rfl rfl rfl <| xB rfl rfl rfl rfl rfl rfl rfl rfl rfl ?_
 refine F3 ⟨fun _ => ⟨by decide +kernel, by decide +kernel⟩, [(.t 4, _), (.h 4, _)], ⟨rfl, rfl, rfl, rfl, trivial⟩, ?_⟩
 refine B1 <| E5 (E8 rfl rfl rfl rfl rfl (F6 C9)) ?_
 rw [← hf.1, ← hf.2]
 rfl

theorem a0s : C1 Try.f47 = [0, 1, 4, 10, 5] := by kernel_rfl
theorem a2k (u d : Int) (hu : -4611686018427387904 ≤ u ∧ u ≤ 4611686018427387904) (hd : -4611686018427387904 ≤ d ∧ d ≤ 4611686018427387904) (h0 : d ≠ 0) : CW cxT 47 [iV u, iV d] = some (qV (Rat.divInt u d), []) := by
 have hbd := a4m (u := u) h0
 have hgp := N8 (u := u) h0
 have hgl := a7r (u := u) h0
 refine B8 rfl Try.func47 rfl ⟨by kernel_rfl, rfl, dT rfl, dT rfl, by decide⟩ a0s <| A3 <| A0 <| y_A rfl (fun _ => rfl) ?_
 intro g4
 refine xN [0,1,4] [4] rfl <| A3 <| A0 <| y_M rfl <| y_M rfl ?_
 refine xC2 rfl rfl rfl (a7z u d hu hd) ⟨rfl, rfl, rfl⟩ rfl rfl fun g8 => ?_
 refine y_S rfl <| xN [0,1,4,5] [4] rfl <| A3 <| A3 <| A0 <| y_M rfl <| H7 rfl rfl <| xN [0,1,4,5,10] [4] rfl ?_
 refine B4 rfl ?_ ?_ <;> intro hc <;> try simp only [SL] at hc
 ·refine A0 <| y_M rfl <| X2 rfl (B0 (by omega)) <| y_S rfl <| xN [0,1,4,5] [4] rfl <| A3 <| A0 <| y_M rfl <| y_M rfl ?_
  (have hf := c4g (u := u) (d := d) (by omega))
  refine L8 rfl rfl ⟨by omega, B0 (by rw [← hf.1]; omega)⟩ <| y_M rfl <| y_M rfl <| L8 rfl rfl ⟨by omega, B0 (by rw [← hf.2]; omega)⟩ <| I4 (fs := [_, _]) rfl rfl rfl rfl rfl <| xB rfl rfl rfl rfl rfl rfl rfl rfl rfl ?_
  refine F3 ⟨fun _ => ⟨by decide +kernel, by decide +kernel⟩, [(.t 4, _), (.h 4, _)], ⟨rfl, rfl, rfl, rfl, trivial⟩, ?_⟩
  refine B1 <| E5 (E8 rfl rfl rfl rfl rfl (F6 C9)) ?_
  rw [← hf.1, ← hf.2]
  rfl
 refine B7 <| A3 <| A0 <| y_M rfl <| y_M rfl ?_
 (have hf := V6 (u := u) (d := d) (by omega))
 refine L8 rfl rfl ⟨by omega, B0 (by rw [← hf.1]; omega)⟩ <| y_M rfl <| y_M rfl <| L8 rfl rfl ⟨by omega, B0 (by rw [← hf.2]; omega)⟩ <| I4 (fs := [_, _]) rfl rfl rfl rfl rfl <| xB rfl rfl rfl rfl rfl rfl rfl rfl rfl ?_
 refine F3 ⟨fun _ => ⟨by decide +kernel, by decide +kernel⟩, [(.t 4, _), (.h 4, _)], ⟨rfl, rfl, rfl, rfl, trivial⟩, ?_⟩
 refine B1 <| E5 (E8 rfl rfl rfl rfl rfl (F6 C9)) ?_
 rw [← hf.1, ← hf.2]
 rfl

theorem b3d : C1 Try.f54 = [0, 1, 4, 3, 2, 21] := by kernel_rfl
theorem c6q (p q : Rat) (hp : Sm 1000000000 p) (hq : Sm 1000000000 q) : CW cxT 54 [qV p, qV q] = some (qV (p + q), []) := by
 obtain ⟨p1, p2, p3⟩ := hp
 obtain ⟨q1, q2, q3⟩ := hq
 have dp := D9 p
 have dq := D9 q
 have m1 := J2 (x := p.num) (y := (q.den : Int)) ⟨p1, p2⟩ ⟨by omega, q3⟩
 have m2 := J2 (x := q.num) (y := (p.den : Int)) ⟨q1, q2⟩ ⟨by omega, p3⟩
 have m3 := J2 (x := (p.den : Int)) (y := (q.den : Int)) ⟨by omega, p3⟩ ⟨by omega, q3⟩
 have m4 := J2 (x := p.num) (y := q.num) ⟨p1, p2⟩ ⟨q1, q2⟩
 have dn := I9 p q
 refine B8 rfl Try.func54 rfl ⟨by kernel_rfl, rfl, dT rfl, dT rfl, by decide⟩ b3d <| A3 <| A0 <| I2 rfl rfl rfl (fun _ => D4 rfl) (fun _ => rfl) ?_
 intro g2
 refine I2 rfl rfl rfl (fun _ => D4 rfl) (fun _ => rfl) ?_
 intro g3
 refine y_A rfl (fun _ => rfl) ?_
 intro g4
 refine xN [2,3,4] [2,3,4] rfl <| A3 <| A0 <| y_F rfl <| y_L rfl <| y_F rfl <| y_L rfl <| K8 rfl rfl (B0 (by omega)) <| y_F rfl <| y_L rfl <| y_F rfl <| y_L rfl <| K8 rfl rfl (B0 (by omega)) <| G4 rfl rfl (B0 (by omega)) <| y_F rfl <| y_L rfl <| y_F rfl <| y_L rfl <| K8 rfl rfl (B0 (by omega)) ?_
 refine xC2 rfl rfl rfl (U9 (p.num * q.den + q.num * p.den) ((p.den : Int) * q.den) (by omega) (by omega) dn) ⟨rfl, rfl, rfl⟩ rfl rfl fun g21 => ?_
 refine xB rfl rfl rfl rfl rfl rfl rfl rfl rfl <| xN [4] [4] rfl <| B1 <| E5 (E8 rfl rfl rfl rfl rfl (F6 C9)) ?_
 rw [← b9v]
 rfl

theorem b0r : C1 Try.f41 = [0, 1, 4, 3, 2, 21] := by kernel_rfl
theorem b6p (p q : Rat) (hp : Sm 1000000000 p) (hq : Sm 1000000000 q) : CW cxT 41 [qV p, qV q] = some (qV (p - q), []) := by
 obtain ⟨p1, p2, p3⟩ := hp
 obtain ⟨q1, q2, q3⟩ := hq
 have dp := D9 p
 have dq := D9 q
 have m1 := J2 (x := p.num) (y := (q.den : Int)) ⟨p1, p2⟩ ⟨by omega, q3⟩
 have m2 := J2 (x := q.num) (y := (p.den : Int)) ⟨q1, q2⟩ ⟨by omega, p3⟩
 have m3 := J2 (x := (p.den : Int)) (y := (q.den : Int)) ⟨by omega, p3⟩ ⟨by omega, q3⟩
 have m4 := J2 (x := p.num) (y := q.num) ⟨p1, p2⟩ ⟨q1, q2⟩
 have dn := I9 p q
 refine B8 rfl Try.func41 rfl ⟨by kernel_rfl, rfl, dT rfl, dT rfl, by decide⟩ b0r <| A3 <| A0 <| I2 rfl rfl rfl (fun _ => D4 rfl) (fun _ => rfl) ?_
 intro g2
 refine I2 rfl rfl rfl (fun _ => D4 rfl) (fun _ => rfl) ?_
 intro g3
 refine y_A rfl (fun _ => rfl) ?_
 intro g4
 refine xN [2,3,4] [2,3,4] rfl <| A3 <| A0 <| y_F rfl <| y_L rfl <| y_F rfl <| y_L rfl <| K8 rfl rfl (B0 (by omega)) <| y_F rfl <| y_L rfl <| y_F rfl <| y_L rfl <| K8 rfl rfl (B0 (by omega)) <| a0w rfl rfl (B0 (by omega)) <| y_F rfl <| y_L rfl <| y_F rfl <| y_L rfl <| K8 rfl rfl (B0 (by omega)) ?_
 refine xC2 rfl rfl rfl (U9 (p.num * q.den - q.num * p.den) ((p.den : Int) * q.den) (by omega) (by omega) dn) ⟨rfl, rfl, rfl⟩ rfl rfl fun g21 => ?_
 refine xB rfl rfl rfl rfl rfl rfl rfl rfl rfl <| xN [4] [4] rfl <| B1 <| E5 (E8 rfl rfl rfl rfl rfl (F6 C9)) ?_
 rw [← c8n]
 rfl

theorem b0w : C1 Try.f40 = [0, 1, 4, 3, 2, 15] := by kernel_rfl
theorem b5r (p q : Rat) (hp : Sm 1000000000 p) (hq : Sm 1000000000 q) : CW cxT 40 [qV p, qV q] = some (qV (p * q), []) := by
 obtain ⟨p1, p2, p3⟩ := hp
 obtain ⟨q1, q2, q3⟩ := hq
 have dp := D9 p
 have dq := D9 q
 have m1 := J2 (x := p.num) (y := (q.den : Int)) ⟨p1, p2⟩ ⟨by omega, q3⟩
 have m2 := J2 (x := q.num) (y := (p.den : Int)) ⟨q1, q2⟩ ⟨by omega, p3⟩
 have m3 := J2 (x := (p.den : Int)) (y := (q.den : Int)) ⟨by omega, p3⟩ ⟨by omega, q3⟩
 have m4 := J2 (x := p.num) (y := q.num) ⟨p1, p2⟩ ⟨q1, q2⟩
 have dn := I9 p q
 refine B8 rfl Try.func40 rfl ⟨by kernel_rfl, rfl, dT rfl, dT rfl, by decide⟩ b0w <| A3 <| A0 <| I2 rfl rfl rfl (fun _ => D4 rfl) (fun _ => rfl) ?_
 intro g2
 refine I2 rfl rfl rfl (fun _ => D4 rfl) (fun _ => rfl) ?_
 intro g3
 refine y_A rfl (fun _ => rfl) ?_
 intro g4
 refine xN [2,3,4] [2,3,4] rfl <| A3 <| A0 <| y_F rfl <| y_L rfl <| y_F rfl <| y_L rfl <| K8 rfl rfl (B0 (by omega)) <| y_F rfl <| y_L rfl <| y_F rfl <| y_L rfl <| K8 rfl rfl (B0 (by omega)) ?_
 refine xC2 rfl rfl rfl (U9 (p.num * q.num) ((p.den : Int) * q.den) (by omega) (by omega) dn) ⟨rfl, rfl, rfl⟩ rfl rfl fun g15 => ?_
 refine xB rfl rfl rfl rfl rfl rfl rfl rfl rfl <| xN [4] [4] rfl <| B1 <| E5 (E8 rfl rfl rfl rfl rfl (F6 C9)) ?_
 rw [← b3l]
 rfl

theorem b3e : C1 Try.f19 = [0, 1, 4, 2, 3] := by kernel_rfl
theorem a7h (p q : Rat) (hp : Sm 1000000000 p) (hq : Sm 1000000000 q) : CW cxT 19 [qV p, qV q] = some (bV (decide (p < q)), []) := by
 obtain ⟨p1, p2, p3⟩ := hp
 obtain ⟨q1, q2, q3⟩ := hq
 have dp := D9 p
 have dq := D9 q
 have m1 := J2 (x := p.num) (y := (q.den : Int)) ⟨p1, p2⟩ ⟨by omega, q3⟩
 have m2 := J2 (x := q.num) (y := (p.den : Int)) ⟨q1, q2⟩ ⟨by omega, p3⟩
 have m3 := J2 (x := (p.den : Int)) (y := (q.den : Int)) ⟨by omega, p3⟩ ⟨by omega, q3⟩
 have m4 := J2 (x := p.num) (y := q.num) ⟨p1, p2⟩ ⟨q1, q2⟩
 have dn := I9 p q
 refine B8 rfl Try.func19 rfl ⟨by kernel_rfl, rfl, dT rfl, dT rfl, by decide⟩ b3e <| A3 <| A0 <| I2 rfl rfl rfl (fun _ => D4 rfl) (fun _ => rfl) ?_
 intro g2
 refine I2 rfl rfl rfl (fun _ => D4 rfl) (fun _ => rfl) ?_
 intro g3
 refine y_S rfl <| xN [2,3] [2,3] rfl <| A3 <| A0 <| y_F rfl <| y_L rfl <| y_F rfl <| y_L rfl <| K8 rfl rfl (B0 (by omega)) <| y_F rfl <| y_L rfl <| y_F rfl <| y_L rfl <| K8 rfl rfl (B0 (by omega)) <| H7 rfl rfl <| y_S rfl <| xN [4] [] rfl <| B1 <| C8 rfl rfl trivial ?_
 exact congrArg bV (decide_eq_decide.2 (Rat.lt_iff p q).symm)

theorem b3w : C1 Try.f12 = [0, 1, 4, 2, 3] := by kernel_rfl
theorem c6j (p q : Rat) (hp : Sm 1000000000 p) (hq : Sm 1000000000 q) : CW cxT 12 [qV p, qV q] = some (bV (decide (p < q)), []) := by
 obtain ⟨p1, p2, p3⟩ := hp
 obtain ⟨q1, q2, q3⟩ := hq
 have dp := D9 p
 have dq := D9 q
 have m1 := J2 (x := p.num) (y := (q.den : Int)) ⟨p1, p2⟩ ⟨by omega, q3⟩
 have m2 := J2 (x := q.num) (y := (p.den : Int)) ⟨q1, q2⟩ ⟨by omega, p3⟩
 have m3 := J2 (x := (p.den : Int)) (y := (q.den : Int)) ⟨by omega, p3⟩ ⟨by omega, q3⟩
 have m4 := J2 (x := p.num) (y := q.num) ⟨p1, p2⟩ ⟨q1, q2⟩
 have dn := I9 p q
 refine B8 rfl Try.func12 rfl ⟨by kernel_rfl, rfl, dT rfl, dT rfl, by decide⟩ b3w <| A3 <| A0 <| I2 rfl rfl rfl (fun _ => D4 rfl) (fun _ => rfl) ?_
 intro g2
 refine I2 rfl rfl rfl (fun _ => D4 rfl) (fun _ => rfl) ?_
 intro g3
 refine y_S rfl <| xN [2,3] [2,3] rfl <| A3 <| A0 <| y_F rfl <| y_L rfl <| y_F rfl <| y_L rfl <| K8 rfl rfl (B0 (by omega)) <| y_F rfl <| y_L rfl <| y_F rfl <| y_L rfl <| K8 rfl rfl (B0 (by omega)) <| H7 rfl rfl <| y_S rfl <| xN [4] [] rfl <| B1 <| C8 rfl rfl trivial ?_
 exact congrArg bV (decide_eq_decide.2 (Rat.lt_iff p q).symm)

theorem a0k : C1 Try.f33 = [0, 1, 4, 3, 2, 5, 33] := by kernel_rfl
theorem a7q (p q : Rat) (hp : Sm 1000000000 p) (hq : Sm 1000000000 q) : CW cxT 33 [qV p, qV q] = some (qV (p + q), []) := by
 obtain ⟨p1, p2, p3⟩ := hp
 obtain ⟨q1, q2, q3⟩ := hq
 have dp := D9 p
 have dq := D9 q
 have m1 := J2 (x := p.num) (y := (q.den : Int)) ⟨p1, p2⟩ ⟨by omega, q3⟩
 have m2 := J2 (x := q.num) (y := (p.den : Int)) ⟨q1, q2⟩ ⟨by omega, p3⟩
 have m3 := J2 (x := (p.den : Int)) (y := (q.den : Int)) ⟨by omega, p3⟩ ⟨by omega, q3⟩
 have m4 := J2 (x := p.num) (y := q.num) ⟨p1, p2⟩ ⟨q1, q2⟩
 have dn := I9 p q
 have hgp := N8 (u := (p.den : Int)) (d := (q.den : Int)) (by omega)
 have hgl := a7r (u := (p.den : Int)) (d := (q.den : Int)) (by omega)
 have t1 := a2n (a := (q.den : Int)) (b := (Int.gcd p.den q.den : Int)) (by omega) (by omega)
 have t2 := a2n (a := (p.den : Int)) (b := (Int.gcd p.den q.den : Int)) (by omega) (by omega)
 have n1 := J2 (x := p.num) (y := (q.den : Int).tdiv (Int.gcd p.den q.den : Int)) (a := 1000000000) (b := 1000000000) ⟨p1, p2⟩ ⟨by omega, by omega⟩
 have n2 := J2 (x := q.num) (y := (p.den : Int).tdiv (Int.gcd p.den q.den : Int)) (a := 1000000000) (b := 1000000000) ⟨q1, q2⟩ ⟨by omega, by omega⟩
 have n3 := J2 (x := (p.den : Int).tdiv (Int.gcd p.den q.den : Int)) (y := (q.den : Int)) (a := 1000000000) (b := 1000000000) ⟨by omega, by omega⟩ ⟨by omega, q3⟩
 have dn2 := b1g p q
 refine B8 rfl Try.func33 rfl ⟨by kernel_rfl, rfl, dT rfl, dT rfl, by decide⟩ a0k <| A3 <| A0 <| I2 rfl rfl rfl (fun _ => D4 rfl) (fun _ => rfl) ?_
 intro g2
 refine I2 rfl rfl rfl (fun _ => D4 rfl) (fun _ => rfl) ?_
 intro g3
 refine y_A rfl (fun _ => rfl) ?_
 intro g4
 refine xN [2,3,4] [2,3,4] rfl <| A3 <| A0 <| y_F rfl <| y_L rfl <| y_F rfl <| y_L rfl ?_
 refine xC2 rfl rfl rfl (a7z (p.den : Int) (q.den : Int) (by omega) (by omega)) ⟨rfl, rfl, rfl⟩ rfl rfl fun g10 => ?_
 refine y_S rfl <| xN [2,3,4,5] [2,3,4] rfl <| A3 <| A0 <| y_F rfl <| y_L rfl <| y_F rfl <| y_L rfl <| y_M rfl <| L8 rfl rfl ⟨by omega, B0 (by omega)⟩ <| K8 rfl rfl (B0 (by omega)) <| y_F rfl <| y_L rfl <| y_F rfl <| y_L rfl <| y_M rfl <| L8 rfl rfl ⟨by omega, B0 (by omega)⟩ <| K8 rfl rfl (B0 (by omega)) <| G4 rfl rfl (B0 (by omega)) <| y_F rfl <| y_L rfl <| y_M rfl <| L8 rfl rfl ⟨by omega, B0 (by omega)⟩ <| y_F rfl <| y_L rfl <| K8 rfl rfl (B0 (by omega)) ?_
 refine xC2 rfl rfl rfl (a2k _ _ (by omega) (by omega) dn2) ⟨rfl, rfl, rfl⟩ rfl rfl fun g33 => ?_
 refine xB rfl rfl rfl rfl rfl rfl rfl rfl rfl ?_
 refine F3 ⟨fun _ => ⟨by (simp only [Q9, List.nil_append, List.append_nil, List.map_cons, List.map_nil, List.cons_append]; decide +kernel), by decide +kernel⟩, [(.t 4, _), (.h 4, _)], ⟨rfl, rfl, rfl, rfl, trivial⟩, ?_⟩
 refine B1 <| E5 (E8 rfl rfl rfl rfl rfl (F6 C9)) ?_
 rw [← c0o]
 rfl

theorem a1f : C1 Try.f48 = [0, 2] := by kernel_rfl
theorem b8c (n : Int) : CW cxT 48 [iV n] = some (iV (max (-1) (min 1 n)), []) := by
 refine B8 rfl Try.func48 rfl ⟨by kernel_rfl, rfl, dT rfl, dT rfl, by decide⟩ a1f <| A3 <| A0 <| y_S rfl <| xN [0] [] rfl <| A3 <| A0 <| y_M rfl <| c1g rfl rfl <| a2s rfl rfl <| y_S rfl <| xN [2] [] rfl <| B1 <| C8 rfl rfl trivial ?_
 rfl

theorem b2f : C1 Try.f22 = [0, 2] := by kernel_rfl
theorem Z9 (n : Int) : CW cxT 22 [iV n] = some (qV (n : Rat), []) := by
 refine B8 rfl Try.func22 rfl ⟨by kernel_rfl, rfl, dT rfl, dT rfl, by decide⟩ b2f <| A3 <| A0 <| y_A rfl (fun _ => rfl) ?_
 intro g2
 refine xN [0,2] [2] rfl <| A3 <| A0 <| y_M rfl <| I4 (fs := [_, _]) rfl rfl rfl rfl rfl <| xB rfl rfl rfl rfl rfl rfl rfl rfl rfl <| xN [2] [2] rfl <| B1 <| E5 (E8 rfl rfl rfl rfl rfl (F6 C9)) ?_
 rfl

theorem X3 : C1 Try.f23 = [0, 1, 4, 3, 2, 12] := by kernel_rfl
theorem Z0 (p q : Rat) (hp : Sm 1000000000 p) (hq : Sm 1000000000 q) : CW cxT 23 [qV p, qV q] = some (qV (p - q), []) := by
 obtain ⟨q1, q2, q3⟩ := id hq
 refine B8 rfl Try.func23 rfl ⟨by kernel_rfl, rfl, dT rfl, dT rfl, by decide⟩ X3 <| A3 <| A0 <| I2 rfl rfl rfl (fun _ => D4 rfl) (fun _ => rfl) ?_
 intro g2
 refine I2 rfl rfl rfl (fun _ => D4 rfl) (fun _ => rfl) ?_
 intro g3
 refine y_A rfl (fun _ => rfl) ?_
 intro g4
 refine xN [2,3,4] [2,3,4] rfl <| A3 <| A0 <| y_B rfl <| y_F rfl <| y_L rfl <| X2 rfl (B0 (by omega)) <| y_F rfl <| y_L rfl <| I4 (fs := [_, _]) rfl rfl rfl rfl rfl ?_
 refine xC2 rfl rfl rfl (a7q p (-q) hp (show Sm 1000000000 (-q) from ⟨by rw [(W5 q).1]; omega, by rw [(W5 q).1]; omega, q3⟩)) ⟨rfl, rfl, rfl⟩ rfl rfl fun g12 => ?_
 refine xB rfl rfl rfl rfl rfl rfl rfl rfl rfl <| xN [4] [4] rfl <| B1 <| E5 (E8 rfl rfl rfl rfl rfl (F6 C9)) ?_
 rw [Rat.sub_eq_add_neg]
 rfl

theorem V4 : C1 Try.f26 = [0, 1, 4, 3, 2] := by kernel_rfl
theorem s_compare (p q : Rat) (hp : Sm 1000000000 p) (hq : Sm 1000000000 q) : CW cxT 26 [qV p, qV q] = some (iV (max (-1) (min 1 (p - q).num)), []) := by
 refine B8 rfl Try.func26 rfl ⟨by kernel_rfl, rfl, dT rfl, dT rfl, by decide⟩ V4 <| A3 <| A0 <| I2 rfl rfl rfl (fun _ => D4 rfl) (fun _ => rfl) ?_
 intro g2
 refine I2 rfl rfl rfl (fun _ => D4 rfl) (fun _ => rfl) ?_
 intro g3
 refine y_S rfl <| xN [2,3] [2,3] rfl <| A3 <| A0 <| y_B rfl <| y_B rfl ?_
 refine xC2 rfl rfl rfl (Z0 p q hp hq) ⟨rfl, rfl, rfl⟩ rfl rfl fun g7 => ?_
 refine c1j rfl rfl rfl rfl ?_
 refine xC1 rfl rfl (b8c _) ⟨rfl, rfl, rfl⟩ rfl rfl fun g9 => ?_
 refine y_S rfl <| xN [4] [] rfl <| B1 <| C8 rfl rfl trivial ?_
 rfl

theorem b0p : C1 Try.f24 = [0, 1, 4, 2, 3, 6, 5, 11, 16] := by kernel_rfl
theorem a9c (p q : Rat) (hp : Sm 1000000000 p) (hq : Sm 1000000000 q) : CW cxT 24 [qV p, qV q] = some (qV (p * q), []) := by
 obtain ⟨p1, p2, p3⟩ := hp
 obtain ⟨q1, q2, q3⟩ := hq
 have dp := D9 p
 have dq := D9 q
 have m1 := J2 (x := p.num) (y := (q.den : Int)) ⟨p1, p2⟩ ⟨by omega, q3⟩
 have m2 := J2 (x := q.num) (y := (p.den : Int)) ⟨q1, q2⟩ ⟨by omega, p3⟩
 have m3 := J2 (x := (p.den : Int)) (y := (q.den : Int)) ⟨by omega, p3⟩ ⟨by omega, q3⟩
 have m4 := J2 (x := p.num) (y := q.num) ⟨p1, p2⟩ ⟨q1, q2⟩
 have dn := I9 p q
 have s1 := a4m (u := p.num) (d := (q.den : Int)) (by omega)
 have s2 := a4m (u := q.num) (d := (p.den : Int)) (by omega)
 have e := c2a p q
 have n1 := J2 (x := (Rat.divInt p.num (q.den : Int)).num) (y := (Rat.divInt q.num (p.den : Int)).num) (a := 1000000000) (b := 1000000000) ⟨by omega, by omega⟩ ⟨by omega, by omega⟩
 have n2 := J2 (x := ((Rat.divInt p.num (q.den : Int)).den : Int)) (y := ((Rat.divInt q.num (p.den : Int)).den : Int)) (a := 1000000000) (b := 1000000000) ⟨by omega, by omega⟩ ⟨by omega, by omega⟩
 refine B8 rfl Try.func24 rfl ⟨by kernel_rfl, rfl, dT rfl, dT rfl, by decide⟩ b0p <| A3 <| A0 <| I2 rfl rfl rfl (fun _ => D4 rfl) (fun _ => rfl) ?_
 intro g2
 refine I2 rfl rfl rfl (fun _ => D4 rfl) (fun _ => rfl) ?_
 intro g3
 refine y_A rfl (fun _ => rfl) ?_
 intro g4
 refine xN [2,3,4] [2,3,4] rfl <| A3 <| A0 <| y_F rfl <| y_L rfl <| y_F rfl <| y_L rfl ?_
 refine xC2 rfl rfl rfl (a2k p.num (q.den : Int) (by omega) (by omega) (by omega)) ⟨rfl, rfl, rfl⟩ rfl rfl fun g11 => ?_
 refine y_F rfl <| y_L rfl <| y_F rfl <| y_L rfl ?_
 refine xC2 rfl rfl rfl (a2k q.num (p.den : Int) (by omega) (by omega) (by omega)) ⟨rfl, rfl, rfl⟩ rfl rfl fun g16 => ?_
 refine y_A rfl (fun _ => rfl) ?_
 intro g5
 refine y_A rfl (fun _ => rfl) ?_
 intro g6
 iterate 2 refine xB rfl rfl rfl rfl rfl rfl rfl rfl rfl ?_
 refine F3 ⟨fun _ => ⟨by (simp only [Q9, List.nil_append, List.append_nil, List.map_cons, List.map_nil, List.cons_append]; decide +kernel), by decide +kernel⟩, [(.t 4, _), (.t 5, _), (.t 6, _), (.h 4, _), (.h 5, _), (.h 6, _)], ⟨rfl, rfl, rfl, rfl, rfl, rfl, rfl, rfl, rfl, rfl, rfl, rfl, trivial⟩, ?_⟩
 refine A3 <| A0 <| y_F rfl <| y_L rfl <| y_F rfl <| y_L rfl <| K8 rfl rfl (B0 (by omega)) <| y_F rfl <| y_L rfl <| y_F rfl <| y_L rfl <| K8 rfl rfl (B0 (by omega)) <| I4 (fs := [_, _]) rfl rfl rfl rfl rfl <| xB rfl rfl rfl rfl rfl rfl rfl rfl rfl <| xN [4] [4] rfl <| B1 <| E5 (E8 rfl rfl rfl rfl rfl (F6 C9)) ?_
 show AV.agg [_, _] = AV.agg [_, _]
 rw [e.1, e.2]

theorem b5n : C1 Try.f28 = [0, 2, 1, 5] := by kernel_rfl
theorem b8k (p : Rat) (hp : Sm 1000000000 p) : CW cxT 28 [qV p] = some (qV (p * (1 / 2 : Rat)), []) := by
 refine B8 rfl Try.func28 rfl ⟨by kernel_rfl, rfl, dT rfl, dT rfl, by decide⟩ b5n <| A3 <| A0 <| I2 rfl rfl rfl (fun _ => D4 rfl) (fun _ => rfl) ?_
 intro g1
 refine y_A rfl (fun _ => rfl) ?_
 intro g2
 refine xN [1,2] [1,2] rfl <| A3 <| A0 <| y_B rfl <| I4 (fs := [_, _]) rfl rfl rfl rfl rfl ?_
 apply xC rfl
 ·apply A6
  ·exact C0 rfl
  apply A6
  ·exact C0 rfl
  exact E7
 ·exact (by
   have h := a9c p (1 / 2) hp (by refine ⟨?_, ?_, ?_⟩ <;> decide +kernel)
   rw [show qV (1 / 2) = AV.agg [iV 1, iV 2] from congrArg AV.agg (by rw [show (1 / 2 : Rat).num = 1 by decide +kernel, show (1 / 2 : Rat).den = 2 by decide +kernel]; rfl)] at h
   exact h)
 refine ⟨⟨rfl, rfl, rfl, dT rfl, rfl⟩, .inl rfl, C7, D3 rfl, fun _ => rfl, fun g5 => ?_⟩
 refine xB rfl rfl rfl rfl rfl rfl rfl rfl rfl <| xN [2] [2] rfl <| B1 <| E5 (E8 rfl rfl rfl rfl rfl (F6 C9)) ?_
 rfl

namespace E
theorem a1y : C1 Try.f51 = [0, 1, 4, 6] := by kernel_rfl
theorem a7z (a b : Int) (ha : -4611686018427387904 ≤ a ∧ a ≤ 4611686018427387904) (hb : -4611686018427387904 ≤ b ∧ b ≤ 4611686018427387904) : CW cxE 51 [iV a, iV b] = some (iV (Int.gcd a b : Int), []) := by
 refine B8 rfl Try.func51 rfl ⟨by kernel_rfl, rfl, dT rfl, dT rfl, by decide⟩ a1y <| A3 <| A0 <| y_S rfl <| xN [0,1] [] rfl <| A3 <| B5 <| a4j (β := Int × Int) (fun (z : Int × Int) => match z with | (x, y) => [(.t 0, iV x), (.t 1, iV y)]) (fun (z : Int × Int) => match z with | (x, y) => Int.gcd x y = Int.gcd a b ∧ (-4611686018427387904 ≤ x ∧ x ≤ 4611686018427387904) ∧ (-4611686018427387904 ≤ y ∧ y ≤ 4611686018427387904)) (fun (z : Int × Int) => match z with | (x, y) => y.natAbs) (a, b) ⟨rfl, rfl, trivial⟩ ⟨rfl, ha, hb⟩ ?_
 intro z hb
 obtain ⟨x, y⟩ := z
 try dsimp only at hb
 obtain ⟨hg, hx, hy⟩ := hb
 refine A3 <| A3 <| A0 <| y_M rfl <| a4q rfl rfl <| xN [0,1,6] [] rfl ?_
 refine B4 rfl ?_ ?_ <;> intro hc <;> try simp only [SL] at hc
 ·refine B7 <| B5 <| A0 <| y_M rfl <| y_M rfl <| y_M rfl <| a6p rfl rfl (by omega) <| y_S rfl <| y_S rfl ?_
  refine F3 ⟨fun _ => ⟨by decide +kernel, by decide +kernel⟩, [(.t 0, _), (.t 1, _)], ⟨rfl, rfl, rfl, rfl, trivial⟩, ?_⟩
  refine ⟨(y, x.tmod y), ⟨by rw [a3u]; exact hg, hy, by have := a7i x y; omega⟩, (by have := a7o x hc; simp only; omega), ⟨rfl, rfl, trivial⟩⟩
 refine G1 <| A3 <| A0 <| y_M rfl <| y_M rfl <| X2 rfl (B0 (by omega)) <| a2s rfl rfl <| y_S rfl <| xN [4] [] rfl <| B1 <| C8 rfl rfl trivial ?_
 subst hc
 rw [a7j, hg]
end E

namespace E
theorem a0s : C1 Try.f47 = [0, 1, 4, 10, 5] := by kernel_rfl
theorem a2k (u d : Int) (hu : -4611686018427387904 ≤ u ∧ u ≤ 4611686018427387904) (hd : -4611686018427387904 ≤ d ∧ d ≤ 4611686018427387904) (h0 : d ≠ 0) : CW cxE 47 [iV u, iV d] = some (qV (Rat.divInt u d), []) := by
 have hbd := a4m (u := u) h0
 have hgp := N8 (u := u) h0
 have hgl := a7r (u := u) h0
 refine B8 rfl Try.func47 rfl ⟨by kernel_rfl, rfl, dT rfl, dT rfl, by decide⟩ a0s <| A3 <| A0 <| y_A rfl (fun _ => rfl) ?_
 intro g4
 refine xN [0,1,4] [4] rfl <| A3 <| A0 <| y_M rfl <| y_M rfl ?_
 refine xC2 rfl rfl rfl (a7z u d hu hd) ⟨rfl, rfl, rfl⟩ rfl rfl fun g8 => ?_
 refine y_S rfl <| xN [0,1,4,5] [4] rfl <| A3 <| A3 <| A0 <| y_M rfl <| H7 rfl rfl <| xN [0,1,4,5,10] [4] rfl ?_
 refine B4 rfl ?_ ?_ <;> intro hc <;> try simp only [SL] at hc
 ·refine A0 <| y_M rfl <| X2 rfl (B0 (by omega)) <| y_S rfl <| xN [0,1,4,5] [4] rfl <| A3 <| A0 <| y_M rfl <| y_M rfl ?_
  (have hf := c4g (u := u) (d := d) (by omega))
  refine L8 rfl rfl ⟨by omega, B0 (by rw [← hf.1]; omega)⟩ <| y_M rfl <| y_M rfl <| L8 rfl rfl ⟨by omega, B0 (by rw [← hf.2]; omega)⟩ <| I4 (fs := [_, _]) rfl rfl rfl rfl rfl <| xB rfl rfl rfl rfl rfl rfl rfl rfl rfl ?_
  refine F3 ⟨fun _ => ⟨by decide +kernel, by decide +kernel⟩, [(.t 4, _), (.h 4, _)], ⟨rfl, rfl, rfl, rfl, trivial⟩, ?_⟩
  refine B1 <| E5 (E8 rfl rfl rfl rfl rfl (F6 C9)) ?_
  rw [← hf.1, ← hf.2]
  rfl
 refine B7 <| A3 <| A0 <| y_M rfl <| y_M rfl ?_
 (have hf := V6 (u := u) (d := d) (by omega))
 refine L8 rfl rfl ⟨by omega, B0 (by rw [← hf.1]; omega)⟩ <| y_M rfl <| y_M rfl <| L8 rfl rfl ⟨by omega, B0 (by rw [← hf.2]; omega)⟩ <| I4 (fs := [_, _]) rfl rfl rfl rfl rfl <| xB rfl rfl rfl rfl rfl rfl rfl rfl rfl ?_
 refine F3 ⟨fun _ => ⟨by decide +kernel, by decide +kernel⟩, [(.t 4, _), (.h 4, _)], ⟨rfl, rfl, rfl, rfl, trivial⟩, ?_⟩
 refine B1 <| E5 (E8 rfl rfl rfl rfl rfl (F6 C9)) ?_
 rw [← hf.1, ← hf.2]
 rfl
end E

namespace E
theorem a0k : C1 Try.f33 = [0, 1, 4, 3, 2, 5, 33] := by kernel_rfl
theorem a7q (p q : Rat) (hp : Sm 1000000000 p) (hq : Sm 1000000000 q) : CW cxE 33 [qV p, qV q] = some (qV (p + q), []) := by
 obtain ⟨p1, p2, p3⟩ := hp
 obtain ⟨q1, q2, q3⟩ := hq
 have dp := D9 p
 have dq := D9 q
 have m1 := J2 (x := p.num) (y := (q.den : Int)) ⟨p1, p2⟩ ⟨by omega, q3⟩
 have m2 := J2 (x := q.num) (y := (p.den : Int)) ⟨q1, q2⟩ ⟨by omega, p3⟩
 have m3 := J2 (x := (p.den : Int)) (y := (q.den : Int)) ⟨by omega, p3⟩ ⟨by omega, q3⟩
 have m4 := J2 (x := p.num) (y := q.num) ⟨p1, p2⟩ ⟨q1, q2⟩
 have dn := I9 p q
 have hgp := N8 (u := (p.den : Int)) (d := (q.den : Int)) (by omega)
 have hgl := a7r (u := (p.den : Int)) (d := (q.den : Int)) (by omega)
 have t1 := a2n (a := (q.den : Int)) (b := (Int.gcd p.den q.den : Int)) (by omega) (by omega)
 have t2 := a2n (a := (p.den : Int)) (b := (Int.gcd p.den q.den : Int)) (by omega) (by omega)
 have n1 := J2 (x := p.num) (y := (q.den : Int).tdiv (Int.gcd p.den q.den : Int)) (a := 1000000000) (b := 1000000000) ⟨p1, p2⟩ ⟨by omega, by omega⟩
 have n2 := J2 (x := q.num) (y := (p.den : Int).tdiv (Int.gcd p.den q.den : Int)) (a := 1000000000) (b := 1000000000) ⟨q1, q2⟩ ⟨by omega, by omega⟩
 have n3 := J2 (x := (p.den : Int).tdiv (Int.gcd p.den q.den : Int)) (y := (q.den : Int)) (a := 1000000000) (b := 1000000000) ⟨by omega, by omega⟩ ⟨by omega, q3⟩
 have dn2 := b1g p q
 refine B8 rfl Try.func33 rfl ⟨by kernel_rfl, rfl, dT rfl, dT rfl, by decide⟩ a0k <| A3 <| A0 <| I2 rfl rfl rfl (fun _ => D4 rfl) (fun _ => rfl) ?_
 intro g2
 refine I2 rfl rfl rfl (fun _ => D4 rfl) (fun _ => rfl) ?_
 intro g3
 refine y_A rfl (fun _ => rfl) ?_
 intro g4
 refine xN [2,3,4] [2,3,4] rfl <| A3 <| A0 <| y_F rfl <| y_L rfl <| y_F rfl <| y_L rfl ?_
 refine xC2 rfl rfl rfl (a7z (p.den : Int) (q.den : Int) (by omega) (by omega)) ⟨rfl, rfl, rfl⟩ rfl rfl fun g10 => ?_
 refine y_S rfl <| xN [2,3,4,5] [2,3,4] rfl <| A3 <| A0 <| y_F rfl <| y_L rfl <| y_F rfl <| y_L rfl <| y_M rfl <| L8 rfl rfl ⟨by omega, B0 (by omega)⟩ <| K8 rfl rfl (B0 (by omega)) <| y_F rfl <| y_L rfl <| y_F rfl <| y_L rfl <| y_M rfl <| L8 rfl rfl ⟨by omega, B0 (by omega)⟩ <| K8 rfl rfl (B0 (by omega)) <| G4 rfl rfl (B0 (by omega)) <| y_F rfl <| y_L rfl <| y_M rfl <| L8 rfl rfl ⟨by omega, B0 (by omega)⟩ <| y_F rfl <| y_L rfl <| K8 rfl rfl (B0 (by omega)) ?_
 refine xC2 rfl rfl rfl (a2k _ _ (by omega) (by omega) dn2) ⟨rfl, rfl, rfl⟩ rfl rfl fun g33 => ?_
 refine xB rfl rfl rfl rfl rfl rfl rfl rfl rfl ?_
 refine F3 ⟨fun _ => ⟨by (simp only [Q9, List.nil_append, List.append_nil, List.map_cons, List.map_nil, List.cons_append]; decide +kernel), by decide +kernel⟩, [(.t 4, _), (.h 4, _)], ⟨rfl, rfl, rfl, rfl, trivial⟩, ?_⟩
 refine B1 <| E5 (E8 rfl rfl rfl rfl rfl (F6 C9)) ?_
 rw [← c0o]
 rfl
end E

namespace E
theorem a1f : C1 Try.f48 = [0, 2] := by kernel_rfl
theorem b8c (n : Int) : CW cxE 48 [iV n] = some (iV (max (-1) (min 1 n)), []) := by
 refine B8 rfl Try.func48 rfl ⟨by kernel_rfl, rfl, dT rfl, dT rfl, by decide⟩ a1f <| A3 <| A0 <| y_S rfl <| xN [0] [] rfl <| A3 <| A0 <| y_M rfl <| c1g rfl rfl <| a2s rfl rfl <| y_S rfl <| xN [2] [] rfl <| B1 <| C8 rfl rfl trivial ?_
 rfl
end E

namespace E
theorem X3 : C1 Try.f23 = [0, 1, 4, 3, 2, 12] := by kernel_rfl
theorem Z0 (p q : Rat) (hp : Sm 1000000000 p) (hq : Sm 1000000000 q) : CW cxE 23 [qV p, qV q] = some (qV (p - q), []) := by
 obtain ⟨q1, q2, q3⟩ := id hq
 refine B8 rfl Try.func23 rfl ⟨by kernel_rfl, rfl, dT rfl, dT rfl, by decide⟩ X3 <| A3 <| A0 <| I2 rfl rfl rfl (fun _ => D4 rfl) (fun _ => rfl) ?_
 intro g2
 refine I2 rfl rfl rfl (fun _ => D4 rfl) (fun _ => rfl) ?_
 intro g3
 refine y_A rfl (fun _ => rfl) ?_
 intro g4
 refine xN [2,3,4] [2,3,4] rfl <| A3 <| A0 <| y_B rfl <| y_F rfl <| y_L rfl <| X2 rfl (B0 (by omega)) <| y_F rfl <| y_L rfl <| I4 (fs := [_, _]) rfl rfl rfl rfl rfl ?_
 refine xC2 rfl rfl rfl (a7q p (-q) hp (show Sm 1000000000 (-q) from ⟨by rw [(W5 q).1]; omega, by rw [(W5 q).1]; omega, q3⟩)) ⟨rfl, rfl, rfl⟩ rfl rfl fun g12 => ?_
 refine xB rfl rfl rfl rfl rfl rfl rfl rfl rfl <| xN [4] [4] rfl <| B1 <| E5 (E8 rfl rfl rfl rfl rfl (F6 C9)) ?_
 rw [Rat.sub_eq_add_neg]
 rfl
end E

namespace E
theorem V4 : C1 Try.f26 = [0, 1, 4, 3, 2] := by kernel_rfl
theorem s_compare (p q : Rat) (hp : Sm 1000000000 p) (hq : Sm 1000000000 q) : CW cxE 26 [qV p, qV q] = some (iV (max (-1) (min 1 (p - q).num)), []) := by
 refine B8 rfl Try.func26 rfl ⟨by kernel_rfl, rfl, dT rfl, dT rfl, by decide⟩ V4 <| A3 <| A0 <| I2 rfl rfl rfl (fun _ => D4 rfl) (fun _ => rfl) ?_
 intro g2
 refine I2 rfl rfl rfl (fun _ => D4 rfl) (fun _ => rfl) ?_
 intro g3
 refine y_S rfl <| xN [2,3] [2,3] rfl <| A3 <| A0 <| y_B rfl <| y_B rfl ?_
 refine xC2 rfl rfl rfl (Z0 p q hp hq) ⟨rfl, rfl, rfl⟩ rfl rfl fun g7 => ?_
 refine c1j rfl rfl rfl rfl ?_
 refine xC1 rfl rfl (b8c _) ⟨rfl, rfl, rfl⟩ rfl rfl fun g9 => ?_
 refine y_S rfl <| xN [4] [] rfl <| B1 <| C8 rfl rfl trivial ?_
 rfl
end E

theorem b9j : C1 Try.f43 = [0, 2, 7, 4, 15, 3] := by kernel_rfl
theorem c9k (xs : List Int) (hl : 1 ≤ xs.length ∧ xs.length ≤ 1000) : ∃ res outs, (fun res outs => ∃ v, res = iV v ∧ outs = [] ∧ v ∈ xs ∧ ∀ x ∈ xs, v ≤ x) res outs ∧ CW cxT 43 [L xs] = some (res, outs) := by
 refine N2 rfl Try.func43 rfl ⟨by kernel_rfl, rfl, dT rfl, dT rfl, by decide⟩ b9j <| A3 <| A0 <| y_S rfl <| xN [0] [] rfl <| A3 <| A3 <| A0 <| y_M rfl <| C6 rfl rfl <| H7 rfl rfl <| xN [0,7] [] rfl ?_
 refine B4 rfl (fun hc => ?_) (fun hc => ?_)
 ·try simp only [SD] at hc
  exact absurd hc (by omega)
 try simp only [SL] at hc
 refine B7 <| A3 <| A0 <| y_M rfl <| A5 rfl rfl rfl (fun _ => rfl) (by (change 0 < _; omega)) <| y_I rfl <| y_S rfl <| xN [0,3] [] rfl <| A3 <| A3 <| A0 <| y_S rfl <| xN [0,3,4] [] rfl <| B5 <| G2 (β := Nat × Int) [(.t 0, _)] (fun (z : Nat × Int) => match z with | (i, v) => [(.t 4, iV i), (.t 3, iV v)]) (fun (z : Nat × Int) => match z with | (i, v) => 1 ≤ i ∧ i ≤ xs.length ∧ v ∈ xs ∧ ∀ j, j < i → v ≤ xs.getD j default) (fun (z : Nat × Int) => match z with | (i, v) => xs.length - i) (1, xs.getD 0 default) ⟨rfl, rfl, rfl, trivial⟩ ⟨Nat.le_refl _, hl.1, I8 (by omega), fun j h => by have h0 : j = 0 := (by omega); subst h0; exact Int.le_refl _⟩ ?_
 intro z hb
 obtain ⟨i, v⟩ := z
 try dsimp only at hb
 obtain ⟨hi0, hi1, hv1, hv2⟩ := hb
 refine A3 <| A3 <| A0 <| y_M rfl <| y_M rfl <| C6 rfl rfl <| H7 rfl rfl <| xN [0,3,4,15] [] rfl ?_
 refine B4 rfl ?_ ?_ <;> intro hc <;> try simp only [SL] at hc
 ·refine B7 <| A3 <| B5 <| A0 <| y_M rfl <| y_M rfl <| y_M rfl <| A5 rfl rfl rfl (fun _ => rfl) (by omega) <| y_I rfl <| c1g rfl rfl <| y_S rfl <| xN [0,3,4] [] rfl <| A0 <| y_M rfl <| G4 rfl rfl (B0 (by omega)) <| y_S rfl <| xN [0,3,4] [] rfl ?_
  refine ⟨(i + 1, min v (xs.getD i default)), ⟨by omega, by omega, by rcases Int.le_total v (xs.getD i default) with h | h; (· (rw [Int.min_eq_left h]; exact hv1)); (· (rw [Int.min_eq_right h]; exact I8 (by omega))), fun j hj => by rcases Nat.lt_succ_iff_lt_or_eq.1 hj with h | h; (· have := hv2 j h; omega); (· subst h; omega)⟩, (by simp only; omega), ⟨rfl, rfl, rfl, trivial⟩⟩
 refine G1 <| A3 <| A0 <| y_M rfl <| y_S rfl <| xN [2] [] rfl <| B1 ?_
 refine ⟨_, _, ?_, Q8 rfl rfl C9⟩
 refine ⟨v, rfl, rfl, hv1, fun x hx2 => ?_⟩
 obtain ⟨j, hj, rfl⟩ := L4 hx2
 exact hv2 j (by omega)

theorem b9f : C1 Try.f44 = [0, 2, 7, 4, 15, 3] := by kernel_rfl
theorem c9s (xs : List Int) (hl : 1 ≤ xs.length ∧ xs.length ≤ 1000) : ∃ res outs, (fun res outs => ∃ v, res = iV v ∧ outs = [] ∧ v ∈ xs ∧ ∀ x ∈ xs, x ≤ v) res outs ∧ CW cxT 44 [L xs] = some (res, outs) := by
 refine N2 rfl Try.func44 rfl ⟨by kernel_rfl, rfl, dT rfl, dT rfl, by decide⟩ b9f <| A3 <| A0 <| y_S rfl <| xN [0] [] rfl <| A3 <| A3 <| A0 <| y_M rfl <| C6 rfl rfl <| H7 rfl rfl <| xN [0,7] [] rfl ?_
 refine B4 rfl (fun hc => ?_) (fun hc => ?_)
 ·try simp only [SD] at hc
  exact absurd hc (by omega)
 try simp only [SL] at hc
 refine B7 <| A3 <| A0 <| y_M rfl <| A5 rfl rfl rfl (fun _ => rfl) (by (change 0 < _; omega)) <| y_I rfl <| y_S rfl <| xN [0,3] [] rfl <| A3 <| A3 <| A0 <| y_S rfl <| xN [0,3,4] [] rfl <| B5 <| G2 (β := Nat × Int) [(.t 0, _)] (fun (z : Nat × Int) => match z with | (i, v) => [(.t 4, iV i), (.t 3, iV v)]) (fun (z : Nat × Int) => match z with | (i, v) => 1 ≤ i ∧ i ≤ xs.length ∧ v ∈ xs ∧ ∀ j, j < i → xs.getD j default ≤ v) (fun (z : Nat × Int) => match z with | (i, v) => xs.length - i) (1, xs.getD 0 default) ⟨rfl, rfl, rfl, trivial⟩ ⟨Nat.le_refl _, hl.1, I8 (by omega), fun j h => by have h0 : j = 0 := (by omega); subst h0; exact Int.le_refl _⟩ ?_
 intro z hb
 obtain ⟨i, v⟩ := z
 try dsimp only at hb
 obtain ⟨hi0, hi1, hv1, hv2⟩ := hb
 refine A3 <| A3 <| A0 <| y_M rfl <| y_M rfl <| C6 rfl rfl <| H7 rfl rfl <| xN [0,3,4,15] [] rfl ?_
 refine B4 rfl ?_ ?_ <;> intro hc <;> try simp only [SL] at hc
 ·refine B7 <| A3 <| B5 <| A0 <| y_M rfl <| y_M rfl <| y_M rfl <| A5 rfl rfl rfl (fun _ => rfl) (by omega) <| y_I rfl <| a2s rfl rfl <| y_S rfl <| xN [0,3,4] [] rfl <| A0 <| y_M rfl <| G4 rfl rfl (B0 (by omega)) <| y_S rfl <| xN [0,3,4] [] rfl ?_
  refine ⟨(i + 1, max v (xs.getD i default)), ⟨by omega, by omega, by rcases Int.le_total v (xs.getD i default) with h | h; (· (rw [Int.max_eq_right h]; exact I8 (by omega))); (· (rw [Int.max_eq_left h]; exact hv1)), fun j hj => by rcases Nat.lt_succ_iff_lt_or_eq.1 hj with h | h; (· have := hv2 j h; omega); (· subst h; omega)⟩, (by simp only; omega), ⟨rfl, rfl, rfl, trivial⟩⟩
 refine G1 <| A3 <| A0 <| y_M rfl <| y_S rfl <| xN [2] [] rfl <| B1 ?_
 refine ⟨_, _, ?_, Q8 rfl rfl C9⟩
 refine ⟨v, rfl, rfl, hv1, fun x hx2 => ?_⟩
 obtain ⟨j, hj, rfl⟩ := L4 hx2
 exact hv2 j (by omega)

theorem a2z : C1 Try.f42 = [0, 1, 2, 6] := by kernel_rfl
theorem b1d (xs ys : List Int) (hl : xs.length ≤ 1048576) (hl2 : ys.length ≤ 1048576) : CW cxT 42 [L xs, L ys, iV 7] = some (bV (vpS xs ys && decide (1 ≤ xs.length)), []) := by
 refine B8 rfl Try.func42 rfl ⟨by kernel_rfl, rfl, dT rfl, dT rfl, by decide⟩ a2z <| A3 <| A0 <| y_S rfl <| xN [0,1,2] [] rfl <| A3 <| A0 <| y_M rfl <| C6 rfl rfl <| y_M rfl <| C6 rfl rfl <| a8p rfl rfl <| y_M rfl ?_
 refine E4 rfl rfl ?_ ?_ <;> intro hg0 <;> have hg := hg0 <;> try simp only [SG] at hg
 ·refine y_M rfl <| gT rfl rfl <| C6 rfl rfl <| gT rfl rfl <| y_M rfl <| gT rfl rfl ?_
  refine xC3 rfl rfl rfl rfl (c8j _ _ _) ⟨rfl, rfl, rfl⟩ rfl rfl fun g16 => ?_
  refine H8 rfl (by assumption) rfl rfl <| y_M rfl ?_
  refine E4 rfl rfl ?_ ?_ <;> intro hg0 <;> have hg := hg0 <;> try simp only [SG] at hg
  ·refine y_M rfl <| gT rfl rfl ?_
   refine xC3 rfl rfl rfl rfl (c0s xs (by omega) (-12) 12) ⟨rfl, rfl, rfl⟩ rfl rfl fun g20 => ?_
   refine H8 rfl (by assumption) rfl rfl <| y_M rfl ?_
   refine E4 rfl rfl ?_ ?_ <;> intro hg0 <;> have hg := hg0 <;> try simp only [SG] at hg
   ·refine y_M rfl <| gT rfl rfl ?_
    refine xC3 rfl rfl rfl rfl (c0s ys (by omega) (-12) 12) ⟨rfl, rfl, rfl⟩ rfl rfl fun g24 => ?_
    refine H8 rfl (by assumption) rfl rfl <| y_S rfl <| xN [6] [] rfl <| B1 <| C8 rfl rfl trivial ?_
    (rw [c9v (by omega) (by omega) (by omega)]; simp_all [ofConst])
   refine gF rfl rfl <| F7 rfl (by assumption) rfl rfl <| y_S rfl <| xN [6] [] rfl <| B1 <| C8 rfl rfl trivial ?_
   (rw [c9v (by omega) (by omega) (by omega)]; simp_all [ofConst])
  refine gF rfl rfl <| F7 rfl (by assumption) rfl rfl <| y_M rfl <| K4 rfl rfl rfl <| K4 rfl rfl rfl <| F7 rfl rfl rfl rfl <| y_S rfl <| xN [6] [] rfl <| B1 <| C8 rfl rfl trivial ?_
  (rw [c8w (by omega)]; rfl)
 refine gF rfl rfl <| gF rfl rfl <| gF rfl rfl <| F7 rfl (by assumption) rfl rfl <| y_M rfl <| K4 rfl rfl rfl <| K4 rfl rfl rfl <| F7 rfl rfl rfl rfl <| y_M rfl <| K4 rfl rfl rfl <| K4 rfl rfl rfl <| F7 rfl rfl rfl rfl <| y_S rfl <| xN [6] [] rfl <| B1 <| C8 rfl rfl trivial ?_
 (rw [c8w (by omega)]; rfl)

theorem a3j : C1 Try.f36 = [0, 1, 4, 5, 9, 31] := by kernel_rfl
theorem b1a (xs ys : List Int) (hl : xs.length ≤ 1048576) (hl2 : ys.length ≤ 1048576) : CW cxT 36 [L xs, L ys] = some (bV (vpS xs ys), []) := by
 refine B8 rfl Try.func36 rfl ⟨by kernel_rfl, rfl, dT rfl, dT rfl, by decide⟩ a3j <| A3 <| A0 <| y_S rfl <| xN [0,1] [] rfl <| A3 <| A3 <| A0 <| y_S rfl <| xN [0,1,5] [] rfl <| B5 <| G2 (β := Nat) [(.t 0, _), (.t 1, _)] (fun (i : Nat) => [(.t 5, iV i)]) (fun (i : Nat) => i ≤ xs.length ∧ ∀ j, j < i → j < ys.length ∧ (-12 ≤ xs.getD j default ∧ xs.getD j default ≤ 12) ∧ (-12 ≤ ys.getD j default ∧ ys.getD j default ≤ 12)) (fun (i : Nat) => xs.length - i) 0 ⟨rfl, rfl, rfl, trivial⟩ ⟨Nat.zero_le _, fun j h => by omega⟩ ?_
 intro i hb
 obtain ⟨hi1, hi2⟩ := hb
 refine A3 <| A3 <| A0 <| y_M rfl <| y_M rfl <| C6 rfl rfl <| H7 rfl rfl <| xN [0,1,5,9] [] rfl ?_
 refine B4 rfl ?_ ?_ <;> intro hc <;> try simp only [SL] at hc
 ·refine B7 <| A3 <| B5 <| A3 <| A0 <| y_M rfl <| y_M rfl <| C6 rfl rfl <| c3o rfl rfl <| y_M rfl ?_
  refine E4 rfl rfl ?_ ?_ <;> intro hg0 <;> have hg := hg0 <;> try simp only [SG] at hg
  ·refine y_M rfl <| gT rfl rfl <| y_M rfl <| gT rfl rfl <| A5 rfl rfl rfl (fun _ => rfl) (by omega) <| gT rfl rfl <| y_I rfl <| gT rfl rfl ?_
   refine xC3 rfl rfl rfl rfl (b1r _ _ _) ⟨rfl, rfl, rfl⟩ rfl rfl fun g21 => ?_
   refine gT rfl rfl <| a4p rfl <| F7 rfl (by assumption) rfl rfl <| y_M rfl ?_
   refine E4 rfl rfl ?_ ?_ <;> intro hg0 <;> have hg := hg0 <;> try simp only [SG] at hg
   ·refine y_M rfl <| gT rfl rfl <| y_M rfl <| gT rfl rfl <| A5 rfl rfl rfl (fun _ => rfl) (by omega) <| gT rfl rfl <| y_I rfl <| gT rfl rfl ?_
    refine xC3 rfl rfl rfl rfl (b1r _ _ _) ⟨rfl, rfl, rfl⟩ rfl rfl fun g29 => ?_
    refine gT rfl rfl <| a4p rfl <| F7 rfl (by assumption) rfl rfl <| xN [0,1,5,31] [] rfl ?_
    refine B4 rfl ?_ ?_ <;> intro hc <;> try simp only [SL] at hc
    ·refine A3 <| A0 <| y_S rfl <| xN [4] [] rfl <| B1 <| C8 rfl rfl trivial ?_
     exact congrArg bV (b2l (show i < xs.length by omega) (by simp_all; omega)).symm
    refine B7 <| A0 <| y_M rfl <| G4 rfl rfl (B0 (by omega)) <| y_S rfl <| xN [0,1,5] [] rfl ?_
    refine ⟨i + 1, ⟨by omega, fun j hj => by rcases Nat.lt_succ_iff_lt_or_eq.1 hj with h | h; (· exact hi2 j h); (· subst h; (simp_all; done))⟩, (by omega), ⟨rfl, rfl, rfl, trivial⟩⟩
   iterate 5 refine gF rfl rfl ?_
   refine H8 rfl (by assumption) rfl rfl <| xN [0,1,5,31] [] rfl ?_
   refine B4 rfl (fun hc => ?_) (fun hc => absurd hc (by decide))
   refine A3 <| A0 <| y_S rfl <| xN [4] [] rfl <| B1 <| C8 rfl rfl trivial ?_
   exact congrArg bV (b2l (show i < xs.length by omega) (by simp_all; omega)).symm
  iterate 5 refine gF rfl rfl ?_
  refine H8 rfl (by assumption) rfl rfl <| y_M rfl ?_
  iterate 6 refine K4 rfl rfl rfl ?_
  refine H8 rfl rfl rfl rfl <| xN [0,1,5,31] [] rfl ?_
  refine B4 rfl (fun hc => ?_) (fun hc => absurd hc (by decide))
  refine A3 <| A0 <| y_S rfl <| xN [4] [] rfl <| B1 <| C8 rfl rfl trivial ?_
  exact congrArg bV (b2l (show i < xs.length by omega) (by simp_all; omega)).symm
 refine G1 <| A3 <| A0 <| y_M rfl <| C6 rfl rfl <| y_M rfl <| C6 rfl rfl <| a8p rfl rfl <| y_M rfl ?_
 refine E4 rfl rfl ?_ ?_ <;> intro hg0 <;> have hg := hg0 <;> try simp only [SG] at hg
 ·refine y_M rfl <| gT rfl rfl <| C6 rfl rfl <| gT rfl rfl <| c0g rfl rfl <| H8 rfl (by assumption) rfl rfl <| y_S rfl <| xN [4] [] rfl <| B1 <| C8 rfl rfl trivial ?_
  (rw [b6u fun j hj => hi2 j (by omega)]; simp_all [ofConst])
 refine gF rfl rfl <| gF rfl rfl <| F7 rfl (by assumption) rfl rfl <| y_S rfl <| xN [4] [] rfl <| B1 <| C8 rfl rfl trivial ?_
 (rw [b6u fun j hj => hi2 j (by omega)]; simp_all [ofConst])

theorem b7i : C1 Try.f37 = [0, 2, 3, 7, 17] := by kernel_rfl
theorem c8o (xs : List Int) (hl : xs.length ≤ 1048576) : CW cxT 37 [L xs] = some (bV (wd xs), []) := by
 refine B8 rfl Try.func37 rfl ⟨by kernel_rfl, rfl, dT rfl, dT rfl, by decide⟩ b7i <| A3 <| A0 <| y_S rfl <| xN [0] [] rfl <| A3 <| A3 <| A0 <| y_S rfl <| xN [0,3] [] rfl <| B5 <| G2 (β := Nat) [(.t 0, _)] (fun (i : Nat) => [(.t 3, iV i)]) (fun (i : Nat) => 1 ≤ i ∧ (i ≤ xs.length ∨ i = 1) ∧ ∀ j, j < i → xs.getD j default = xs.getD 0 default) (fun (i : Nat) => xs.length - i) 1 ⟨rfl, rfl, trivial⟩ ⟨Nat.le_refl _, .inr rfl, fun j h => by have h0 : j = 0 := (by omega); rw [h0]⟩ ?_
 intro i hb
 obtain ⟨hi0, hi1, hi2⟩ := hb
 refine A3 <| A3 <| A0 <| y_M rfl <| y_M rfl <| C6 rfl rfl <| H7 rfl rfl <| xN [0,3,7] [] rfl ?_
 refine B4 rfl ?_ ?_ <;> intro hc <;> try simp only [SL] at hc
 ·refine B7 <| A3 <| B5 <| A3 <| A0 <| y_M rfl <| y_M rfl <| A5 rfl rfl rfl (fun _ => rfl) (by omega) <| y_I rfl <| y_M rfl <| A5 rfl rfl rfl (fun _ => rfl) (by (change 0 < _; omega)) <| y_I rfl <| a4q rfl rfl ?_
  refine F3 ⟨fun _ => ⟨by decide +kernel, by decide +kernel⟩, [(.t 0, _), (.t 3, _), (.t 17, _)], ⟨rfl, rfl, rfl, rfl, rfl, rfl, trivial⟩, ?_⟩
  refine B4 rfl ?_ ?_ <;> intro hc <;> try simp only [SL] at hc
  ·refine A3 <| A0 <| y_S rfl <| xN [2] [] rfl <| B1 <| C8 rfl rfl trivial ?_
   exact congrArg bV (c9m (show i < xs.length by omega) hc).symm
  refine B7 <| A0 <| y_M rfl <| G4 rfl rfl (B0 (by omega)) <| y_S rfl <| xN [0,3] [] rfl ?_
  refine ⟨i + 1, ⟨by omega, .inl (by omega), fun j hj => by rcases Nat.lt_succ_iff_lt_or_eq.1 hj with h | h; (· exact hi2 j h); (· subst h; exact hc)⟩, (by omega), ⟨rfl, rfl, trivial⟩⟩
 refine G1 <| A3 <| A0 <| y_S rfl <| xN [2] [] rfl <| B1 <| C8 rfl rfl trivial ?_
 exact congrArg bV (c9x fun j hj => hi2 j (by omega)).symm

theorem a3x : C1 Try.f16 = [0, 1, 4] := by kernel_rfl
theorem b3i (xs ys : List Int) (hl : xs.length ≤ 1048576) (hl2 : ys.length ≤ 1048576) : CW cxT 16 [L xs, L ys] = some (bV (vc xs ys), []) := by
 refine B8 rfl Try.func16 rfl ⟨by kernel_rfl, rfl, dT rfl, dT rfl, by decide⟩ a3x <| A3 <| A0 <| y_S rfl <| xN [0,1] [] rfl <| A3 <| A0 <| y_M rfl <| y_M rfl ?_
 refine xC2 rfl rfl rfl (b1a xs ys hl hl2) ⟨rfl, rfl, rfl⟩ rfl rfl fun g7 => ?_
 refine y_M rfl ?_
 refine E4 rfl rfl ?_ ?_ <;> intro hg0 <;> have hg := hg0 <;> try simp only [SG] at hg
 ·refine y_M rfl <| gT rfl rfl ?_
  refine xC1 rfl rfl (c8o xs hl) ⟨rfl, rfl, rfl⟩ rfl rfl fun g10 => ?_
  refine H8 rfl (by assumption) rfl rfl <| y_S rfl <| xN [4] [] rfl <| B1 <| C8 rfl rfl trivial ?_
  simp_all [vc, ofConst]
 refine gF rfl rfl <| F7 rfl (by assumption) rfl rfl <| y_S rfl <| xN [4] [] rfl <| B1 <| C8 rfl rfl trivial ?_
 simp_all [vc, ofConst]

theorem a3l : C1 Try.f20 = [0, 1, 4] := by kernel_rfl
theorem a2t (xs ys : List Int) (hl : xs.length ≤ 1048576) (hl2 : ys.length ≤ 1048576) : CW cxT 20 [L xs, L ys] = some (bV (vc xs ys), []) := by
 refine B8 rfl Try.func20 rfl ⟨by kernel_rfl, rfl, dT rfl, dT rfl, by decide⟩ a3l <| A3 <| A0 <| y_S rfl <| xN [0,1] [] rfl <| A3 <| A0 <| y_M rfl <| y_M rfl ?_
 refine xC3 rfl rfl rfl rfl (b1d xs ys hl hl2) ⟨rfl, rfl, rfl⟩ rfl rfl fun g7 => ?_
 refine y_M rfl ?_
 refine E4 rfl rfl ?_ ?_ <;> intro hg0 <;> have hg := hg0 <;> try simp only [SG] at hg
 ·refine y_M rfl <| gT rfl rfl ?_
  have hvp : vpS xs ys = true ∧ 1 ≤ xs.length := by simpa using hg0
  have h7 := (b2h.1 hvp.1).2.1
  obtain ⟨_, _, ⟨mn, rfl, rfl, hmn1, hmn2⟩, hCn⟩ := c9k xs ⟨hvp.2, by omega⟩
  obtain ⟨_, _, ⟨mx, rfl, rfl, hmx1, hmx2⟩, hCx⟩ := c9s xs ⟨hvp.2, by omega⟩
  refine xC1 rfl rfl (hCn) ⟨rfl, rfl, rfl⟩ rfl rfl fun g10 => ?_
  refine gT rfl rfl <| y_M rfl <| gT rfl rfl ?_
  refine xC1 rfl rfl (hCx) ⟨rfl, rfl, rfl⟩ rfl rfl fun g12 => ?_
  refine gT rfl rfl <| H7 rfl rfl <| H8 rfl (by assumption) rfl rfl <| y_S rfl <| xN [4] [] rfl <| B1 <| C8 rfl rfl trivial ?_
  (rw [c1t hmn1 hmn2 hmx1 hmx2]; simp_all [vc, ofConst]; done)
 iterate 4 refine gF rfl rfl ?_
 refine F7 rfl (by assumption) rfl rfl <| y_S rfl <| xN [4] [] rfl <| B1 <| C8 rfl rfl trivial ?_
 (simp only [vc]; cases h1 : vpS xs ys <;> simp_all [ofConst, wd]; done)

theorem b2w : C1 Try.f34 = [0, 1, 2, 3, 8, 27] := by kernel_rfl
theorem c0d (xs ys : List Int) (hl : xs.length = ys.length) (h7 : xs.length ≤ 7) (hx : J3 (-12) 12 xs = true) (hy : J3 (-12) 12 ys = true) (i k : Nat) (hi : i < xs.length) (hk : k < xs.length) (hne : xs.getD i default ≠ xs.getD k default) : CW cxT 34 [L xs, L ys, nV i, nV k] = some (qV (slq xs ys i k), []) := by
 have h1 := F4 hx (by decide) i
 have h2 := F4 hx (by decide) k
 have h3 := F4 hy (by decide) i
 have h4 := F4 hy (by decide) k
 refine B8 rfl Try.func34 rfl ⟨by kernel_rfl, rfl, dT rfl, dT rfl, by decide⟩ b2w <| A3 <| A0 <| y_A rfl (fun _ => rfl) ?_
 intro g8
 refine xN [0,1,2,3,8] [8] rfl <| A3 <| A0 <| y_M rfl <| y_M rfl <| A5 rfl rfl rfl (fun _ => rfl) (by omega) <| y_I rfl <| y_M rfl <| y_M rfl <| A5 rfl rfl rfl (fun _ => rfl) (by omega) <| y_I rfl <| a0w rfl rfl (B0 (by omega)) <| y_M rfl <| y_M rfl <| A5 rfl rfl rfl (fun _ => rfl) (by omega) <| y_I rfl <| y_M rfl <| y_M rfl <| A5 rfl rfl rfl (fun _ => rfl) (by omega) <| y_I rfl <| a0w rfl rfl (B0 (by omega)) ?_
 refine xC2 rfl rfl rfl (a2k (ys.getD i default - ys.getD k default) (xs.getD i default - xs.getD k default) (by omega) (by omega) (by omega)) ⟨rfl, rfl, rfl⟩ rfl rfl fun g27 => ?_
 refine xB rfl rfl rfl rfl rfl rfl rfl rfl rfl ?_
 refine F3 ⟨fun _ => ⟨by (simp only [Q9, List.nil_append, List.append_nil, List.map_cons, List.map_nil, List.cons_append]; decide +kernel), by decide +kernel⟩, [(.t 8, _), (.h 8, _)], ⟨rfl, rfl, rfl, rfl, trivial⟩, ?_⟩
 refine B1 <| E5 (E8 rfl rfl rfl rfl rfl (F6 C9)) ?_
 rfl

theorem b3z : C1 Try.f46 = [0, 2] := by kernel_rfl
theorem c6r (xs : List Rat) (hx : xs.length ≤ O8) : CW cxT 46 [.own 2 (xs.map qV)] = some (.own 2 (xs.map qV), []) := by
 refine B8 rfl Try.func46 rfl ⟨by kernel_rfl, rfl, dT rfl, dT rfl, by decide⟩ b3z <| A3 <| A0 ?_
 (refine G3 rfl rfl (fun _ => rfl) ?_; intro g2)
 refine xN [0] [0] rfl <| A3 <| A0 <| y_M rfl <| y_M rfl <| Z2 rfl rfl <| y_M rfl <| Z2 rfl rfl ?_
 refine c8c rfl rfl rfl rfl rfl rfl (fun hz => ?_) (fun hz => ?_)
 ·skip
  (refine G3 rfl rfl (fun _ => rfl) ?_; intro g2)
  refine xN [2] [0,2] rfl <| B1 <| a2a rfl rfl (by (simp; done)) (by rfl) trivial ?_
  (have h0 : xs = [] := (by simpa using hz); subst h0; rfl)
 skip
 (refine xO rfl rfl (by simp) rfl (fun _ => rfl) (fun _ => rfl) ?_; intro g2)
 refine xN [2] [0,2] rfl <| B1 <| a2a rfl rfl (by (simp; done)) (by exact B6 fun _ => rfl) trivial ?_
 rfl

theorem a9p : C1 Try.f17 = [0, 1, 4, 6, 12, 7, 17, 28, 5] := by kernel_rfl
theorem c2z (xs ys : List Int) (hl : xs.length = ys.length) (h7 : xs.length ≤ 7) (hx : J3 (-12) 12 xs = true) (hy : J3 (-12) 12 ys = true) : CW cxT 17 [L xs, L ys] = some (.own 2 ((slA xs ys).map qV), []) := by
 refine B8 rfl Try.func17 rfl ⟨by kernel_rfl, rfl, dT rfl, dT rfl, by decide⟩ a9p <| A3 <| A0 ?_
 (refine G3 rfl rfl (fun _ => rfl) ?_; intro g4)
 refine xN [0,1] [] rfl <| A3 <| A0 <| D7 (es := List.map a5s []) rfl rfl (dT rfl) rfl rfl (fun _ => F0 (B6 fun _ => rfl)) (fun _ => rfl) ?_
 intro g8
 (refine xO rfl rfl (by simp) rfl (fun _ => rfl) (fun _ => rfl) ?_; intro g5)
 refine xN [0,1,5] [5] rfl <| A3 <| A3 <| A0 <| y_S rfl <| xN [0,1,5,6] [5] rfl <| B5 <| G2 (β := Nat × List Rat × Nat) [(.t 0, _), (.t 1, _)] (fun (z : Nat × List Rat × Nat) => match z with | (i, zs, g) => [(.t 6, iV i), (.t 5, .sl 5 g none 0 zs.length), (.h 5, .obj g 0 2 (zs.map qV))]) (fun (z : Nat × List Rat × Nat) => match z with | (i, zs, g) => i ≤ xs.length ∧ zs = slU xs ys i) (fun (z : Nat × List Rat × Nat) => match z with | (i, zs, g) => xs.length - i) (0, [], _) ⟨rfl, rfl, rfl, rfl, rfl, trivial⟩ ⟨Nat.zero_le _, rfl⟩ ?_
 intro z hb
 obtain ⟨i, zs, g⟩ := z
 try dsimp only at hb
 obtain ⟨hi1, hzs⟩ := hb
 have hzl : zs.length ≤ 49 := by have h1 := a2i xs ys i; have h3 := Nat.mul_le_mul (show i ≤ 7 by omega) (show i ≤ 7 by omega); rw [hzs]; omega
 refine A3 <| A3 <| A0 <| y_M rfl <| y_M rfl <| C6 rfl rfl <| H7 rfl rfl <| xN [0,1,5,6,12] [5] rfl ?_
 refine B4 rfl ?_ ?_ <;> intro hc <;> try simp only [SL] at hc
 ·refine B7 <| A3 <| B5 <| A3 <| A0 <| y_S rfl <| xN [0,1,5,6,7] [5] rfl <| B5 <| G2 (β := Nat × List Rat × Nat) [(.t 0, _), (.t 1, _), (.t 6, _)] (fun (z : Nat × List Rat × Nat) => match z with | (k, zs, g) => [(.t 7, iV k), (.t 5, .sl 5 g none 0 zs.length), (.h 5, .obj g 0 2 (zs.map qV))]) (fun (z : Nat × List Rat × Nat) => match z with | (k, zs, g) => k ≤ i ∧ zs = slU xs ys i ++ slV xs ys i k) (fun (z : Nat × List Rat × Nat) => match z with | (k, zs, g) => i - k) (0, zs, g) ⟨rfl, rfl, rfl, rfl, rfl, rfl, trivial⟩ ⟨Nat.zero_le _, by rw [hzs]; simp [slV]⟩ ?_
  intro z hb
  obtain ⟨k, zs, g⟩ := z
  try dsimp only at hb
  obtain ⟨hk1, hzs⟩ := hb
  have hzl : zs.length ≤ 49 + 7 := by have h1 := a2i xs ys i; have h2 := a7f xs ys i k; have h3 := Nat.mul_le_mul (show i ≤ 7 by omega) (show i ≤ 7 by omega); rw [hzs, List.length_append]; omega
  refine A3 <| A3 <| A0 <| y_M rfl <| y_M rfl <| H7 rfl rfl <| xN [0,1,5,6,7,17] [5] rfl ?_
  refine B4 rfl ?_ ?_ <;> intro hc <;> try simp only [SL] at hc
  ·refine B7 <| A3 <| B5 <| A3 <| A0 <| y_M rfl <| y_M rfl <| A5 rfl rfl rfl (fun _ => rfl) (by omega) <| y_I rfl <| y_M rfl <| y_M rfl <| A5 rfl rfl rfl (fun _ => rfl) (by omega) <| y_I rfl <| a4q rfl rfl ?_
   refine F3 ⟨fun _ => ⟨by decide +kernel, by decide +kernel⟩, [(.t 0, _), (.t 1, _), (.t 5, _), (.t 6, _), (.t 7, _), (.t 28, _), (.h 5, _)], ⟨rfl, rfl, rfl, rfl, rfl, rfl, rfl, rfl, rfl, rfl, rfl, rfl, rfl, rfl, trivial⟩, ?_⟩
   refine B4 rfl ?_ ?_ <;> intro hc <;> try simp only [SL] at hc
   ·refine A0 <| y_M rfl <| y_M rfl <| y_M rfl <| A5 rfl rfl rfl (fun _ => rfl) (by omega) <| y_I rfl <| y_M rfl <| y_M rfl <| A5 rfl rfl rfl (fun _ => rfl) (by omega) <| y_I rfl ?_
    have h1 := F4 hx (by decide) i
    have h2 := F4 hx (by decide) k
    have h3 := F4 hy (by decide) i
    have h4 := F4 hy (by decide) k
    refine a0w rfl rfl (B0 (by omega)) <| y_M rfl <| y_M rfl <| A5 rfl rfl rfl (fun _ => rfl) (by omega) <| y_I rfl <| y_M rfl <| y_M rfl <| A5 rfl rfl rfl (fun _ => rfl) (by omega) <| y_I rfl <| a0w rfl rfl (B0 (by omega)) ?_
    refine xC2 rfl rfl rfl (U9 (ys.getD i default - ys.getD k default) (xs.getD i default - xs.getD k default) (by omega) (by omega) (by omega)) ⟨rfl, rfl, rfl⟩ rfl rfl fun g48 => ?_
    refine D7 (es := List.map qV [slq xs ys i k]) rfl rfl (dT rfl) rfl rfl (fun _ => F0 (B6 fun _ => rfl)) (fun _ => rfl) ?_
    intro g49
    refine xA rfl rfl rfl rfl (by simp) (by simp) rfl rfl rfl rfl rfl (fun _ => rfl) (by simp only [LN]; omega) (fun _ => rfl) ?_
    intro g50
    (refine xO rfl rfl (by simp) rfl (fun _ => rfl) (fun _ => rfl) ?_; intro g5)
    refine F3 ⟨fun _ => ⟨by (simp only [Q9, List.nil_append, List.append_nil, List.map_cons, List.map_nil, List.cons_append]; decide +kernel), by decide +kernel⟩, [(.t 0, _), (.t 1, _), (.t 5, _), (.t 6, _), (.t 7, _), (.h 5, _)], ⟨rfl, rfl, rfl, rfl, rfl, rfl, rfl, rfl, rfl, rfl, rfl, rfl, trivial⟩, ?_⟩
    refine A0 <| y_M rfl <| G4 rfl rfl (B0 (by omega)) <| y_S rfl <| xN [0,1,5,6,7] [5] rfl ?_
    refine ⟨(k + 1, zs ++ [slq xs ys i k], _), ?_, (by simp only; omega), ⟨rfl, rfl, rfl, rfl, rfl, rfl, trivial⟩⟩
    exact ⟨by omega, by rw [b4n (by assumption), hzs, List.append_assoc]⟩
   refine B7 <| A0 <| y_M rfl <| G4 rfl rfl (B0 (by omega)) <| y_S rfl <| xN [0,1,5,6,7] [5] rfl ?_
   refine ⟨(k + 1, zs, _), ?_, (by simp only; omega), ⟨rfl, rfl, rfl, rfl, rfl, rfl, trivial⟩⟩
   exact ⟨by omega, by rw [b8l (by omega), hzs]⟩
  refine G1 <| A0 <| y_M rfl <| G4 rfl rfl (B0 (by omega)) <| y_S rfl <| xN [0,1,5,6] [5] rfl ?_
  refine ⟨(i + 1, zs, _), ?_, (by simp only; omega), ⟨rfl, rfl, rfl, rfl, rfl, trivial⟩⟩
  exact ⟨by omega, by rw [slU, hzs, show k = i by omega]⟩
 refine G1 <| A3 <| A0 <| y_M rfl ?_
 (refine xO rfl rfl (by simp) rfl (fun _ => rfl) (fun _ => rfl) ?_; intro g4)
 refine xN [4] [4] rfl <| B1 <| a2a rfl rfl (by simp) (by exact B6 fun _ => rfl) trivial ?_
 rw [hzs, slA, show i = xs.length by omega]

theorem a9q : C1 Try.f21 = [0, 1, 4, 10, 9, 11, 6, 14, 13, 15, 7, 25, 5] := by kernel_rfl
theorem c2s (xs ys : List Int) (hl : xs.length = ys.length) (h7 : xs.length ≤ 7) (hx : J3 (-12) 12 xs = true) (hy : J3 (-12) 12 ys = true) : CW cxT 21 [L xs, L ys] = some (.own 2 ((sortQ (slA xs ys)).map qV), []) := by
 refine B8 rfl Try.func21 rfl ⟨by kernel_rfl, rfl, dT rfl, dT rfl, by decide⟩ a9q <| A3 <| A0 ?_
 (refine G3 rfl rfl (fun _ => rfl) ?_; intro g4)
 refine xN [0,1] [] rfl <| A3 <| A0 ?_
 (refine G3 rfl rfl (fun _ => rfl) ?_; intro g5)
 refine xN [0,1,5] [5] rfl <| A3 <| A3 <| A0 <| y_M rfl <| C6 rfl rfl <| y_M rfl <| xN [0,1,5,9,10] [5] rfl <| B5 <| G2 (β := Nat × List Rat × Nat) [(.t 0, _), (.t 1, _), (.t 9, _)] (fun (z : Nat × List Rat × Nat) => match z with | (i, zs, g) => [(.t 10, iV i), (.t 5, .sl 5 g none 0 zs.length), (.h 5, .obj g 0 2 (zs.map qV))]) (fun (z : Nat × List Rat × Nat) => match z with | (i, zs, g) => i ≤ xs.length ∧ zs = slU xs ys i) (fun (z : Nat × List Rat × Nat) => match z with | (i, zs, g) => xs.length - i) (0, [], _) ⟨rfl, rfl, rfl, rfl, rfl, rfl, trivial⟩ ⟨Nat.zero_le _, rfl⟩ ?_
 intro z hb
 obtain ⟨i, zs, g⟩ := z
 try dsimp only at hb
 obtain ⟨hi1, hzs⟩ := hb
 have hzl : zs.length ≤ 49 := by have h1 := a2i xs ys i; have h3 := Nat.mul_le_mul (show i ≤ 7 by omega) (show i ≤ 7 by omega); rw [hzs]; omega
 refine A3 <| A0 <| H7 rfl rfl <| xN [0,1,5,9,10,11] [5] rfl <| A3 ?_
 refine B4 rfl ?_ ?_ <;> intro hc <;> try simp only [SL] at hc
 ·refine B7 <| A3 <| B5 <| A3 <| A0 <| y_M rfl <| y_S rfl <| xN [0,1,5,6,9,10] [5] rfl <| A3 <| A0 <| y_M rfl <| y_M rfl <| xN [0,1,5,6,9,10,13,14] [5] rfl <| B5 <| G2 (β := Nat × List Rat × Nat) [(.t 0, _), (.t 1, _), (.t 6, _), (.t 9, _), (.t 10, _), (.t 13, _)] (fun (z : Nat × List Rat × Nat) => match z with | (k, zs, g) => [(.t 14, iV k), (.t 5, .sl 5 g none 0 zs.length), (.h 5, .obj g 0 2 (zs.map qV))]) (fun (z : Nat × List Rat × Nat) => match z with | (k, zs, g) => k ≤ i ∧ zs = slU xs ys i ++ slV xs ys i k) (fun (z : Nat × List Rat × Nat) => match z with | (k, zs, g) => i - k) (0, zs, g) ⟨rfl, rfl, rfl, rfl, rfl, rfl, rfl, rfl, rfl, trivial⟩ ⟨Nat.zero_le _, by rw [hzs]; simp [slV]⟩ ?_
  intro z hb
  obtain ⟨k, zs, g⟩ := z
  try dsimp only at hb
  obtain ⟨hk1, hzs⟩ := hb
  have hzl : zs.length ≤ 49 + 7 := by have h1 := a2i xs ys i; have h2 := a7f xs ys i k; have h3 := Nat.mul_le_mul (show i ≤ 7 by omega) (show i ≤ 7 by omega); rw [hzs, List.length_append]; omega
  refine A3 <| A0 <| H7 rfl rfl <| xN [0,1,5,6,9,10,13,14,15] [5] rfl <| A3 ?_
  refine B4 rfl ?_ ?_ <;> intro hc <;> try simp only [SL] at hc
  ·refine B7 <| A3 <| B5 <| A3 <| A0 <| y_M rfl <| y_S rfl <| xN [0,1,5,6,7,9,10,13,14] [5] rfl <| A3 <| A0 <| y_M rfl <| y_M rfl <| A5 rfl rfl rfl (fun _ => rfl) (by omega) <| y_I rfl <| y_M rfl <| y_M rfl <| A5 rfl rfl rfl (fun _ => rfl) (by omega) <| y_I rfl <| a4q rfl rfl ?_
   refine F3 ⟨fun _ => ⟨by decide +kernel, by decide +kernel⟩, [(.t 0, _), (.t 1, _), (.t 5, _), (.t 6, _), (.t 7, _), (.t 9, _), (.t 10, _), (.t 13, _), (.t 14, _), (.t 25, _), (.h 5, _)], ⟨rfl, rfl, rfl, rfl, rfl, rfl, rfl, rfl, rfl, rfl, rfl, rfl, rfl, rfl, rfl, rfl, rfl, rfl, rfl, rfl, rfl, rfl, trivial⟩, ?_⟩
   refine B4 rfl ?_ ?_ <;> intro hc <;> try simp only [SL] at hc
   ·refine A0 ?_
    iterate 5 refine y_M rfl ?_
    apply xC rfl
    ·apply A6
     ·exact C0 rfl
     apply A6
     ·exact C0 rfl
     apply A6
     ·exact C0 rfl
     apply A6
     ·exact C0 rfl
     exact E7
    ·exact c0d xs ys hl h7 hx hy i k (by omega) (by omega) hc
    refine ⟨⟨rfl, rfl, rfl, dT rfl, rfl⟩, .inl rfl, C7, D3 rfl, fun _ => rfl, fun g31 => ?_⟩
    refine D7 (es := List.map qV [slq xs ys i k]) rfl rfl (dT rfl) rfl rfl (fun _ => F0 (B6 fun _ => rfl)) (fun _ => rfl) ?_
    intro g32
    refine xA rfl rfl rfl rfl (by simp) (by simp) rfl rfl rfl rfl rfl (fun _ => rfl) (by simp only [LN]; omega) (fun _ => rfl) ?_
    intro g33
    (refine xO rfl rfl (by simp) rfl (fun _ => rfl) (fun _ => rfl) ?_; intro g5)
    refine xN [0,1,5,6,9,10,13,14] [5] rfl <| A0 <| G4 rfl rfl (B0 (by omega)) <| y_M rfl <| xN [0,1,5,6,9,10,13,14] [5] rfl ?_
    refine ⟨(k + 1, zs ++ [slq xs ys i k], _), ?_, (by simp only; omega), ⟨rfl, rfl, rfl, rfl, rfl, rfl, rfl, rfl, rfl, trivial⟩⟩
    exact ⟨by omega, by rw [b4n (by assumption), hzs, List.append_assoc]⟩
   refine B7 <| A0 <| G4 rfl rfl (B0 (by omega)) <| y_M rfl <| xN [0,1,5,6,9,10,13,14] [5] rfl ?_
   refine ⟨(k + 1, zs, _), ?_, (by simp only; omega), ⟨rfl, rfl, rfl, rfl, rfl, rfl, rfl, rfl, rfl, trivial⟩⟩
   exact ⟨by omega, by rw [b8l (by omega), hzs]⟩
  refine G1 <| A0 <| G4 rfl rfl (B0 (by omega)) <| y_M rfl <| xN [0,1,5,9,10] [5] rfl ?_
  refine ⟨(i + 1, zs, _), ?_, (by simp only; omega), ⟨rfl, rfl, rfl, rfl, rfl, rfl, trivial⟩⟩
  exact ⟨by omega, by rw [slU, hzs, show k = i by omega]⟩
 refine G1 <| A3 <| A0 <| y_M rfl ?_
 have hza : zs = slA xs ys := by rw [hzs, slA, show i = xs.length by omega]
 have hsl := a4f (xs := xs) (ys := ys) h7
 apply a5q rfl
 ·apply A6
  ·exact c4s rfl rfl (by decide) (by (simp; done)) (a7k fun _ => rfl)
  apply A6
  ·exact a3k rfl a3d
  exact E7
 ·exact c6i zs (by simp only [O8]; omega) (fun q hq => (a0m hx hy _ q (hza ▸ hq)).mono (by decide))
 ·exact ⟨rfl, rfl, rfl, dT rfl, rfl⟩
 ·exact .inl rfl
 ·exact K5 rfl (by simp) (c4m _ _) C7
 ·exact a4g rfl
 ·(intro _; exact H3 (F0 (B6 fun _ => rfl)) rfl)
 intro g37
 refine xN [5] [5] rfl <| A3 <| A0 <| y_M rfl ?_
 subst hza
 apply xC rfl
 ·apply A6
  ·exact c6s rfl rfl (by (simp; done)) (B6 fun _ => rfl)
  exact E7
 ·exact c6r (sortQ (slA xs ys)) (by simp only [O8, Q5]; omega)
 refine ⟨⟨rfl, rfl, rfl, dT rfl, rfl⟩, .inl rfl, C7, a3q, fun _ => rfl, fun g39 => ?_⟩
 (refine xO rfl rfl (by simp) rfl (fun _ => rfl) (fun _ => rfl) ?_; intro g4)
 refine xN [4] [4] rfl <| B1 <| a2a rfl rfl (by simp) (by exact B6 fun _ => rfl) trivial ?_
 rfl

theorem b7k : C1 Try.f27 = [0, 1, 4, 9, 6, 17, 5, 27] := by kernel_rfl
theorem c3w (l : List Rat) (hl : 1 ≤ l.length ∧ l.length ≤ 1000) (hx : ∀ q ∈ l, Sm 1000000000 q) : CW cxT 27 [.list (l.map qV), .clo 26 []] = some (qV (mnQ l), []) := by
 have h01 : l.take 1 = [l.getD 0 default] := by have := F5 (xs := l) (i := 0) (by omega); rw [List.take_zero, List.nil_append] at this; exact this
 refine B8 rfl Try.func27 rfl ⟨by kernel_rfl, rfl, dT rfl, dT rfl, by decide⟩ b7k <| A3 <| A0 <| y_A rfl (fun _ => rfl) ?_
 intro g4
 refine xN [0,1,4] [4] rfl <| A3 <| A3 <| A0 <| y_M rfl <| C6 rfl rfl <| H7 rfl rfl <| xN [0,1,4,9] [4] rfl ?_
 refine B4 rfl (fun hc => ?_) (fun hc => ?_)
 ·try simp only [SD] at hc
  exact absurd hc (by omega)
 try simp only [SL] at hc
 refine B7 <| A3 <| A0 <| y_M rfl <| A5 rfl rfl rfl (fun _ => rfl) (by (change 0 < _; omega)) <| y_I rfl <| y_A rfl (fun _ => rfl) ?_
 intro g5
 refine xB rfl rfl rfl rfl rfl rfl rfl rfl rfl <| xN [0,1,4,5] [4,5] rfl <| A3 <| A3 <| A0 <| y_S rfl <| xN [0,1,4,5,6] [4,5] rfl <| B5 <| G2 (β := Nat × Rat) [(.t 0, _), (.t 1, _), (.t 4, _), (.t 5, _), (.h 4, _)] (fun (z : Nat × Rat) => match z with | (i, v) => [(.t 6, iV i), (.h 5, .obj g5 3 2 [qV v])]) (fun (z : Nat × Rat) => match z with | (i, v) => 1 ≤ i ∧ i ≤ l.length ∧ v = mnQ (l.take i)) (fun (z : Nat × Rat) => match z with | (i, v) => l.length - i) (1, l.getD 0 default) ⟨rfl, rfl, rfl, rfl, rfl, rfl, rfl, trivial⟩ ⟨Nat.le_refl _, hl.1, by rw [h01]; rfl⟩ ?_
 intro z hb
 obtain ⟨i, v⟩ := z
 try dsimp only at hb
 obtain ⟨hi0, hi1, hv⟩ := hb
 have htl : 0 < (l.take i).length := by rw [List.length_take]; omega
 have hvs : Sm 1000000000 v := by rw [hv]; exact hx _ (List.mem_of_mem_take (M4 htl).1)
 refine A3 <| A3 <| A0 <| y_M rfl <| y_M rfl <| C6 rfl rfl <| H7 rfl rfl <| xN [0,1,4,5,6,17] [4,5] rfl ?_
 refine B4 rfl ?_ ?_ <;> intro hc <;> try simp only [SL] at hc
 ·refine B7 <| A3 <| B5 <| A3 <| A0 <| y_M rfl <| y_M rfl <| y_M rfl <| A5 rfl rfl rfl (fun _ => rfl) (by omega) <| y_I rfl <| y_B rfl ?_
  have hxi := hx _ (P5 (xs := l) (i := i) (by omega))
  apply b4e rfl rfl
  ·apply A6
   ·exact C0 rfl
   apply A6
   ·exact C0 rfl
   exact E7
  ·exact s_compare (l.getD i default) v hxi hvs
  ·exact ⟨rfl, rfl, rfl, dT rfl, rfl⟩
  ·exact .inl rfl
  ·exact C7
  ·exact D3 rfl
  ·exact fun _ => rfl
  intro g26
  refine H7 rfl rfl ?_
  refine F3 ⟨fun _ => ⟨by (simp only [Q9, List.nil_append, List.append_nil, List.map_cons, List.map_nil, List.cons_append]; decide +kernel), by decide +kernel⟩, [(.t 0, _), (.t 1, _), (.t 4, _), (.t 5, _), (.t 6, _), (.t 27, _), (.h 4, _), (.h 5, _)], ⟨rfl, rfl, rfl, rfl, rfl, rfl, rfl, rfl, rfl, rfl, rfl, rfl, rfl, rfl, rfl, rfl, trivial⟩, ?_⟩
  refine B4 rfl ?_ ?_ <;> intro hc <;> try simp only [SL] at hc
  ·have hlt : (l.getD i default) < v := (a8q (l.getD i default) v).1 (by omega)
   refine A0 <| y_M rfl <| y_M rfl <| A5 rfl rfl rfl (fun _ => rfl) (by omega) <| y_I rfl <| xB rfl rfl rfl rfl rfl rfl rfl rfl rfl <| xN [0,1,4,5,6] [4,5] rfl <| A0 <| y_M rfl <| G4 rfl rfl (B0 (by omega)) <| y_S rfl <| xN [0,1,4,5,6] [4,5] rfl ?_
   refine ⟨(i + 1, (l.getD i default)), ?_, (by simp only; omega), ⟨rfl, rfl, rfl, rfl, rfl, rfl, rfl, trivial⟩⟩
   exact ⟨by omega, by omega, by rw [F5 (by omega), T9 _ htl, ← hv]; rw [if_pos hlt]⟩
  have hge : ¬ (l.getD i default) < v := fun h => by have := (a8q (l.getD i default) v).2 h; omega
  refine B7 <| A0 <| y_M rfl <| G4 rfl rfl (B0 (by omega)) <| y_S rfl <| xN [0,1,4,5,6] [4,5] rfl ?_
  refine ⟨(i + 1, v), ?_, (by simp only; omega), ⟨rfl, rfl, rfl, rfl, rfl, rfl, rfl, trivial⟩⟩
  exact ⟨by omega, by omega, by rw [F5 (by omega), T9 _ htl, ← hv]; rw [if_neg hge]⟩
 refine G1 <| A3 <| A0 <| y_B rfl <| xB rfl rfl rfl rfl rfl rfl rfl rfl rfl <| xN [4] [4] rfl <| B1 <| E5 (E8 rfl rfl rfl rfl rfl (F6 C9)) ?_
 rw [hv, List.take_of_length_le (by omega)]
 rfl

theorem b7d : C1 Try.f25 = [0, 1, 4, 9, 6, 17, 5, 27] := by kernel_rfl
theorem c5a (l : List Rat) (hl : 1 ≤ l.length ∧ l.length ≤ 1000) (hx : ∀ q ∈ l, Sm 1000000000 q) : CW cxT 25 [.list (l.map qV), .clo 26 []] = some (qV (mxQ l), []) := by
 have h01 : l.take 1 = [l.getD 0 default] := by have := F5 (xs := l) (i := 0) (by omega); rw [List.take_zero, List.nil_append] at this; exact this
 refine B8 rfl Try.func25 rfl ⟨by kernel_rfl, rfl, dT rfl, dT rfl, by decide⟩ b7d <| A3 <| A0 <| y_A rfl (fun _ => rfl) ?_
 intro g4
 refine xN [0,1,4] [4] rfl <| A3 <| A3 <| A0 <| y_M rfl <| C6 rfl rfl <| H7 rfl rfl <| xN [0,1,4,9] [4] rfl ?_
 refine B4 rfl (fun hc => ?_) (fun hc => ?_)
 ·try simp only [SD] at hc
  exact absurd hc (by omega)
 try simp only [SL] at hc
 refine B7 <| A3 <| A0 <| y_M rfl <| A5 rfl rfl rfl (fun _ => rfl) (by (change 0 < _; omega)) <| y_I rfl <| y_A rfl (fun _ => rfl) ?_
 intro g5
 refine xB rfl rfl rfl rfl rfl rfl rfl rfl rfl <| xN [0,1,4,5] [4,5] rfl <| A3 <| A3 <| A0 <| y_S rfl <| xN [0,1,4,5,6] [4,5] rfl <| B5 <| G2 (β := Nat × Rat) [(.t 0, _), (.t 1, _), (.t 4, _), (.t 5, _), (.h 4, _)] (fun (z : Nat × Rat) => match z with | (i, v) => [(.t 6, iV i), (.h 5, .obj g5 3 2 [qV v])]) (fun (z : Nat × Rat) => match z with | (i, v) => 1 ≤ i ∧ i ≤ l.length ∧ v = mxQ (l.take i)) (fun (z : Nat × Rat) => match z with | (i, v) => l.length - i) (1, l.getD 0 default) ⟨rfl, rfl, rfl, rfl, rfl, rfl, rfl, trivial⟩ ⟨Nat.le_refl _, hl.1, by rw [h01]; rfl⟩ ?_
 intro z hb
 obtain ⟨i, v⟩ := z
 try dsimp only at hb
 obtain ⟨hi0, hi1, hv⟩ := hb
 have htl : 0 < (l.take i).length := by rw [List.length_take]; omega
 have hvs : Sm 1000000000 v := by rw [hv]; exact hx _ (List.mem_of_mem_take (U0 htl).1)
 refine A3 <| A3 <| A0 <| y_M rfl <| y_M rfl <| C6 rfl rfl <| H7 rfl rfl <| xN [0,1,4,5,6,17] [4,5] rfl ?_
 refine B4 rfl ?_ ?_ <;> intro hc <;> try simp only [SL] at hc
 ·refine B7 <| A3 <| B5 <| A3 <| A0 <| y_M rfl <| y_M rfl <| y_M rfl <| A5 rfl rfl rfl (fun _ => rfl) (by omega) <| y_I rfl <| y_B rfl ?_
  have hxi := hx _ (P5 (xs := l) (i := i) (by omega))
  apply b4e rfl rfl
  ·apply A6
   ·exact C0 rfl
   apply A6
   ·exact C0 rfl
   exact E7
  ·exact s_compare (l.getD i default) v hxi hvs
  ·exact ⟨rfl, rfl, rfl, dT rfl, rfl⟩
  ·exact .inl rfl
  ·exact C7
  ·exact D3 rfl
  ·exact fun _ => rfl
  intro g26
  refine c1h rfl rfl ?_
  refine F3 ⟨fun _ => ⟨by (simp only [Q9, List.nil_append, List.append_nil, List.map_cons, List.map_nil, List.cons_append]; decide +kernel), by decide +kernel⟩, [(.t 0, _), (.t 1, _), (.t 4, _), (.t 5, _), (.t 6, _), (.t 27, _), (.h 4, _), (.h 5, _)], ⟨rfl, rfl, rfl, rfl, rfl, rfl, rfl, rfl, rfl, rfl, rfl, rfl, rfl, rfl, rfl, rfl, trivial⟩, ?_⟩
  refine B4 rfl ?_ ?_ <;> intro hc <;> try simp only [SL] at hc
  ·have hlt : v < (l.getD i default) := (c5y (l.getD i default) v).1 (by omega)
   refine A0 <| y_M rfl <| y_M rfl <| A5 rfl rfl rfl (fun _ => rfl) (by omega) <| y_I rfl <| xB rfl rfl rfl rfl rfl rfl rfl rfl rfl <| xN [0,1,4,5,6] [4,5] rfl <| A0 <| y_M rfl <| G4 rfl rfl (B0 (by omega)) <| y_S rfl <| xN [0,1,4,5,6] [4,5] rfl ?_
   refine ⟨(i + 1, (l.getD i default)), ?_, (by simp only; omega), ⟨rfl, rfl, rfl, rfl, rfl, rfl, rfl, trivial⟩⟩
   exact ⟨by omega, by omega, by rw [F5 (by omega), Y4 _ htl, ← hv]; rw [if_pos hlt]⟩
  have hge : ¬ v < (l.getD i default) := fun h => by have := (c5y (l.getD i default) v).2 h; omega
  refine B7 <| A0 <| y_M rfl <| G4 rfl rfl (B0 (by omega)) <| y_S rfl <| xN [0,1,4,5,6] [4,5] rfl ?_
  refine ⟨(i + 1, v), ?_, (by simp only; omega), ⟨rfl, rfl, rfl, rfl, rfl, rfl, rfl, trivial⟩⟩
  exact ⟨by omega, by omega, by rw [F5 (by omega), Y4 _ htl, ← hv]; rw [if_neg hge]⟩
 refine G1 <| A3 <| A0 <| y_B rfl <| xB rfl rfl rfl rfl rfl rfl rfl rfl rfl <| xN [4] [4] rfl <| B1 <| E5 (E8 rfl rfl rfl rfl rfl (F6 C9)) ?_
 rw [hv, List.take_of_length_le (by omega)]
 rfl

theorem b1f : C1 Try.f7 = [0, 1, 4, 5, 15, 21, 20, 22, 19, 27, 26, 28, 25, 11, 8, 10, 9, 6, 57] := by kernel_rfl
theorem c5w (xs ys : List Int) (hl : xs.length ≤ 1048576) (hl2 : ys.length ≤ 1048576) : CW cxT 7 [L xs, L ys] = some (.tup [a5s (stX xs ys), bV (vc xs ys)], []) := by
 refine B8 rfl Try.func7 rfl ⟨by kernel_rfl, rfl, dT rfl, dT rfl, by decide⟩ b1f <| A3 <| A0 <| y_A rfl (fun _ => rfl) ?_
 intro g4
 refine y_S rfl <| xN [0,1,4] [4] rfl <| A3 <| A3 <| A0 <| y_M rfl <| y_M rfl ?_
 refine xC2 rfl rfl rfl (a2t xs ys hl hl2) ⟨rfl, rfl, rfl⟩ rfl rfl fun g14 => ?_
 refine a4p rfl <| xN [0,1,4,15] [4] rfl ?_
 refine B4 rfl ?_ ?_ <;> intro hc <;> try simp only [SL] at hc
 ·have hvc : ¬ vc xs ys = true := by simpa using hc
  refine A3 <| A0 <| I4 (fs := [_, _]) rfl rfl rfl rfl rfl <| xB rfl rfl rfl rfl rfl rfl rfl rfl rfl <| y_S rfl <| xN [4,5] [4] rfl <| B1 <| E5 (E8 rfl rfl rfl rfl rfl (a5e rfl rfl (F6 C9))) ?_
  rw [stX, if_neg hvc, Bool.eq_false_iff.2 hvc]
  rfl
 have hvc : vc xs ys = true := by exact hc
 have hv := a8t.1 hvc
 obtain ⟨hl3, h7, hx, hy, hw⟩ := hv
 have hsl := a4f (xs := xs) (ys := ys) h7
 have hsp := a4x (ys := ys) hw
 have hsm : ∀ i, i < (sortQ (slA xs ys)).length → Sm 24 ((sortQ (slA xs ys)).getD i default) := fun i hi => a4c (a0m hx hy _) _ (P5 hi)
 have hsq := Q5 (slA xs ys)
 have hd1 := a5a (n := (sortQ (slA xs ys)).length) (by omega)
 have hd2 := b4g (sortQ (slA xs ys)).length
 refine B7 <| A3 <| A0 ?_
 (refine G3 rfl rfl (fun _ => rfl) ?_; intro g6)
 refine xN [0,1,4,6] [4,6] rfl <| A3 <| A3 <| A0 <| y_M rfl <| y_M rfl ?_
 apply a5q rfl
 ·apply A6
  ·exact C0 rfl
  apply A6
  ·exact C0 rfl
  exact E7
 ·exact c2s xs ys hl3 h7 hx hy
 ·exact ⟨rfl, rfl, rfl, dT rfl, rfl⟩
 ·exact .inl rfl
 ·exact C7
 ·exact a3q
 ·(intro _; exact H3 (F0 (B6 fun _ => rfl)) rfl)
 intro g19
 simp only [List.length_map]
 refine Z2 rfl rfl <| y_M rfl <| xN [0,1,4,6,19,20,21] [4,6,1000019] rfl <| B5 <| G2 (β := Nat × List Rat × Nat) [(.t 0, _), (.t 1, _), (.t 4, _), (.t 19, _), (.t 20, _), (.h 4, _), (.h 1000019, _)] (fun (z : Nat × List Rat × Nat) => match z with | (a, hs, g) => [(.t 21, iV a), (.t 6, .sl 6 g none 0 hs.length), (.h 6, .obj g 0 2 (hs.map qV))]) (fun (z : Nat × List Rat × Nat) => match z with | (a, hs, g) => a ≤ (sortQ (slA xs ys)).length ∧ hs = ((sortQ (slA xs ys)).take a).map (brd xs ys)) (fun (z : Nat × List Rat × Nat) => match z with | (a, hs, g) => (sortQ (slA xs ys)).length - a) (0, [], _) ⟨rfl, rfl, rfl, rfl, rfl, rfl, rfl, rfl, rfl, rfl, trivial⟩ ⟨Nat.zero_le _, rfl⟩ ?_
 intro z hb
 obtain ⟨a, hs, g⟩ := z
 try dsimp only at hb
 obtain ⟨ha1, hhs⟩ := hb
 have hhl : hs.length = a := by rw [hhs, List.length_map, List.length_take]; omega
 refine A3 <| A0 <| H7 rfl rfl <| xN [0,1,4,6,19,20,21,22] [4,6,1000019] rfl <| A3 ?_
 refine B4 rfl ?_ ?_ <;> intro hc <;> try simp only [SL] at hc
 ·have hsa := hsm a (by omega)
  refine B7 <| A3 <| B5 <| A3 <| A0 <| W9 rfl rfl rfl rfl (by omega) (by (simp; done)) rfl <| a1o rfl rfl (by omega) (fun _ => rfl) (fun _ => rfl) rfl <| y_A rfl (fun _ => rfl) ?_
  intro g8
  refine xB rfl rfl rfl rfl rfl rfl rfl rfl rfl <| xN [0,1,4,6,8,19,20,21] [4,6,8,1000019] rfl <| A3 <| A0 ?_
  (refine G3 rfl rfl (fun _ => rfl) ?_; intro g9)
  refine xN [0,1,4,6,8,9,19,20,21] [4,6,8,9,1000019] rfl <| A3 <| A3 <| A0 <| y_M rfl <| C6 rfl rfl <| y_M rfl <| xN [0,1,4,6,8,9,19,20,21,25,26,27] [4,6,8,9,1000019] rfl <| B5 <| G2 (β := Nat × List Rat × Nat) [(.t 0, _), (.t 1, _), (.t 4, _), (.t 6, _), (.t 8, _), (.t 19, _), (.t 20, _), (.t 21, _), (.t 25, _), (.t 26, _), (.h 4, _), (.h 6, _), (.h 8, _), (.h 1000019, _)] (fun (z : Nat × List Rat × Nat) => match z with | (i, ls, g1) => [(.t 27, iV i), (.t 9, .sl 9 g1 none 0 ls.length), (.h 9, .obj g1 0 2 (ls.map qV))]) (fun (z : Nat × List Rat × Nat) => match z with | (i, ls, g1) => i ≤ xs.length ∧ ls = (List.range i).map (lfQ xs ys ((sortQ (slA xs ys)).getD a default))) (fun (z : Nat × List Rat × Nat) => match z with | (i, ls, g1) => xs.length - i) (0, [], _) ⟨rfl, rfl, rfl, rfl, rfl, rfl, rfl, rfl, rfl, rfl, rfl, rfl, rfl, rfl, rfl, rfl, rfl, trivial⟩ ⟨Nat.zero_le _, rfl⟩ ?_
  intro z hb
  obtain ⟨i, ls, g1⟩ := z
  try dsimp only at hb
  obtain ⟨hi1, hls⟩ := hb
  have hll : ls.length = i := by rw [hls]; simp
  refine A3 <| A0 <| H7 rfl rfl <| xN [0,1,4,6,8,9,19,20,21,25,26,27,28] [4,6,8,9,1000019] rfl <| A3 ?_
  refine B4 rfl ?_ ?_ <;> intro hc <;> try simp only [SL] at hc
  ·have hxi := P3 hx i
   have hyi := P3 hy i
   refine B7 <| A3 <| B5 <| A3 <| A0 <| y_M rfl <| A5 rfl rfl rfl (fun _ => rfl) (by omega) <| y_I rfl <| y_S rfl <| y_S rfl <| xN [0,1,4,6,8,9,10,11,19,20,21,25,26,27] [4,6,8,9,1000019] rfl <| A0 <| y_M rfl <| y_M rfl <| y_M rfl <| A5 rfl rfl rfl (fun _ => rfl) (by omega) <| y_I rfl ?_
   refine xC1 rfl rfl (Z9 (ys.getD i default)) ⟨rfl, rfl, rfl⟩ rfl rfl fun g37 => ?_
   refine y_B rfl <| y_M rfl ?_
   refine xC1 rfl rfl (Z9 (xs.getD i default)) ⟨rfl, rfl, rfl⟩ rfl rfl fun g40 => ?_
   refine xC2 rfl rfl rfl (a9c ((sortQ (slA xs ys)).getD a default) (xQ xs i) (hsa.mono (by decide)) (hxi.mono (by decide))) ⟨rfl, rfl, rfl⟩ rfl rfl fun g41 => ?_
   refine xC2 rfl rfl rfl (Z0 (xQ ys i) (((sortQ (slA xs ys)).getD a default) * xQ xs i) (hyi.mono (by decide)) ((hsa.mul hxi).mono (by decide))) ⟨rfl, rfl, rfl⟩ rfl rfl fun g42 => ?_
   refine D7 (es := List.map qV [lfQ xs ys ((sortQ (slA xs ys)).getD a default) i]) rfl rfl (dT rfl) rfl rfl (fun _ => F0 (B6 fun _ => rfl)) (fun _ => rfl) ?_
   intro g43
   refine xA rfl rfl rfl rfl (by simp) (by simp) rfl rfl rfl rfl rfl (fun _ => rfl) (by simp only [LN]; omega) (fun _ => rfl) ?_
   intro g44
   (refine xO rfl rfl (by simp) rfl (fun _ => rfl) (fun _ => rfl) ?_; intro g9)
   refine F3 ⟨fun _ => ⟨by (simp only [Q9, List.nil_append, List.append_nil, List.map_cons, List.map_nil, List.cons_append]; decide +kernel), by decide +kernel⟩, [(.t 0, _), (.t 1, _), (.t 4, _), (.t 6, _), (.t 8, _), (.t 9, _), (.t 19, _), (.t 20, _), (.t 21, _), (.t 25, _), (.t 26, _), (.t 27, _), (.h 4, _), (.h 6, _), (.h 8, _), (.h 9, _), (.h 1000019, _)], ⟨rfl, rfl, rfl, rfl, rfl, rfl, rfl, rfl, rfl, rfl, rfl, rfl, rfl, rfl, rfl, rfl, rfl, rfl, rfl, rfl, rfl, rfl, rfl, rfl, rfl, rfl, rfl, rfl, rfl, rfl, rfl, rfl, rfl, rfl, trivial⟩, ?_⟩
   refine A0 <| G4 rfl rfl (B0 (by omega)) <| y_M rfl <| xN [0,1,4,6,8,9,19,20,21,25,26,27] [4,6,8,9,1000019] rfl ?_
   refine ⟨(i + 1, _, _), ?_, (by simp only; omega), ⟨rfl, rfl, rfl, rfl, rfl, rfl, rfl, rfl, rfl, rfl, rfl, rfl, rfl, rfl, rfl, rfl, rfl, trivial⟩⟩
   exact ⟨by omega, by rw [Q3, hls]⟩
  refine G1 <| A0 <| y_M rfl <| y_M rfl ?_
  have hle : ls = lfL xs ys ((sortQ (slA xs ys)).getD a default) := by rw [hls, show i = xs.length by omega]; rfl
  subst hle
  have hlm := b7w hx hy hsa
  have hlb : (lfL xs ys ((sortQ (slA xs ys)).getD a default)).length = xs.length := by simp [lfL]
  have hl0 : 0 < (lfL xs ys ((sortQ (slA xs ys)).getD a default)).length := by have := a5m hw; omega
  apply xC rfl
  ·apply A6
   ·exact G6 rfl rfl rfl (by (simp; done)) (fun _ => rfl)
   apply A6
   ·exact a3k rfl a3d
   exact E7
  ·exact c5a (lfL xs ys ((sortQ (slA xs ys)).getD a default)) (by omega) (fun q h => (hlm q h).mono (by decide))
  refine ⟨⟨rfl, rfl, rfl, dT rfl, rfl⟩, .inr ⟨rfl, rfl⟩, C7, D3 rfl, fun _ => rfl, fun g48 => ?_⟩
  refine y_M rfl ?_
  apply xC rfl
  ·apply A6
   ·exact G6 rfl rfl rfl (by (simp; done)) (fun _ => rfl)
   apply A6
   ·exact a3k rfl a3d
   exact E7
  ·exact c3w (lfL xs ys ((sortQ (slA xs ys)).getD a default)) (by omega) (fun q h => (hlm q h).mono (by decide))
  refine ⟨⟨rfl, rfl, rfl, dT rfl, rfl⟩, .inr ⟨rfl, rfl⟩, C7, D3 rfl, fun _ => rfl, fun g50 => ?_⟩
  refine xC2 rfl rfl rfl (Z0 (mxQ (lfL xs ys ((sortQ (slA xs ys)).getD a default))) (mnQ (lfL xs ys ((sortQ (slA xs ys)).getD a default))) ((hlm _ (U0 hl0).1).mono (by decide)) ((hlm _ (M4 hl0).1).mono (by decide))) ⟨rfl, rfl, rfl⟩ rfl rfl fun g51 => ?_
  refine xC1 rfl rfl (b8k (mxQ (lfL xs ys ((sortQ (slA xs ys)).getD a default)) - mnQ (lfL xs ys ((sortQ (slA xs ys)).getD a default))) (((hlm _ (U0 hl0).1).sub (hlm _ (M4 hl0).1)).mono (by decide))) ⟨rfl, rfl, rfl⟩ rfl rfl fun g52 => ?_
  refine D7 (es := List.map qV [brd xs ys ((sortQ (slA xs ys)).getD a default)]) rfl rfl (dT rfl) rfl rfl (fun _ => F0 (B6 fun _ => rfl)) (fun _ => rfl) ?_
  intro g53
  refine xA rfl rfl rfl rfl (by simp) (by simp) rfl rfl rfl rfl rfl (fun _ => rfl) (by simp only [LN]; omega) (fun _ => rfl) ?_
  intro g54
  (refine xO rfl rfl (by simp) rfl (fun _ => rfl) (fun _ => rfl) ?_; intro g6)
  refine xN [0,1,4,6,19,20,21] [4,6,1000019] rfl <| A0 <| G4 rfl rfl (B0 (by omega)) <| y_M rfl <| xN [0,1,4,6,19,20,21] [4,6,1000019] rfl ?_
  refine ⟨(a + 1, _, _), ?_, (by simp only; omega), ⟨rfl, rfl, rfl, rfl, rfl, rfl, rfl, rfl, rfl, rfl, trivial⟩⟩
  exact ⟨by omega, by rw [F5 (by omega), List.map_append, hhs]; rfl⟩
 refine G1 <| A3 <| A0 <| y_M rfl ?_
 have hhe : hs = (sortQ (slA xs ys)).map (brd xs ys) := by rw [hhs, List.take_of_length_le (by omega)]
 subst hhe
 apply xC rfl
 ·apply A6
  ·exact G6 rfl rfl rfl (by (simp; done)) (fun _ => rfl)
  apply A6
  ·exact a3k rfl a3d
  exact E7
 ·exact c3w ((sortQ (slA xs ys)).map (brd xs ys)) (by rw [List.length_map]; omega) (fun q h => by obtain ⟨s, hs, rfl⟩ := List.mem_map.1 h; exact (b4j hx hy (a4c (a0m hx hy _) _ hs) (by have := a5m hw; omega)).mono (by decide))
 refine ⟨⟨rfl, rfl, rfl, dT rfl, rfl⟩, .inr ⟨rfl, rfl⟩, C7, D3 rfl, fun _ => rfl, fun g57 => ?_⟩
 refine xB rfl rfl rfl rfl rfl rfl rfl rfl rfl <| y_S rfl <| xN [4,5] [4] rfl <| B1 <| E5 (E8 rfl rfl rfl rfl rfl (a5e rfl rfl (F6 C9))) ?_
 rw [stX, if_pos hvc, hvc, ← c5e]
 rfl

theorem b5a : C1 Try.f39 = [0, 1, 2, 3, 8, 7, 6, 17] := by kernel_rfl
theorem c4v (x y : Int) (hx : -12 ≤ x ∧ x ≤ 12) (hy : -12 ≤ y ∧ y ≤ 12) (s h : Rat) (hs : Sm 24 s) (hh : Sm 12 h) : CW cxT 39 [iV x, iV y, qV s, qV h] = some (qV ((y : Rat) - (s * (x : Rat) + h)), []) := by
 have hxs : Sm 12 (x : Rat) := b6k hx (by decide)
 have hys : Sm 12 (y : Rat) := b6k hy (by decide)
 refine B8 rfl Try.func39 rfl ⟨by kernel_rfl, rfl, dT rfl, dT rfl, by decide⟩ b5a <| A3 <| A0 <| I2 rfl rfl rfl (fun _ => D4 rfl) (fun _ => rfl) ?_
 intro g6
 refine I2 rfl rfl rfl (fun _ => D4 rfl) (fun _ => rfl) ?_
 intro g7
 refine y_A rfl (fun _ => rfl) ?_
 intro g8
 refine xN [0,1,6,7,8] [6,7,8] rfl <| A3 <| A0 <| y_M rfl ?_
 refine xC2 rfl rfl rfl ((by have h := U9 y 1 (by omega) (by decide) (by omega); rw [show Rat.divInt y 1 = ((y : Int) : Rat) from a6j _] at h; exact h)) ⟨rfl, rfl, rfl⟩ rfl rfl fun g10 => ?_
 refine y_B rfl <| y_M rfl ?_
 refine xC2 rfl rfl rfl ((by have h := U9 x 1 (by omega) (by decide) (by omega); rw [show Rat.divInt x 1 = ((x : Int) : Rat) from a6j _] at h; exact h)) ⟨rfl, rfl, rfl⟩ rfl rfl fun g13 => ?_
 refine xC2 rfl rfl rfl (b5r s (x : Rat) (hs.mono (by decide)) (hxs.mono (by decide))) ⟨rfl, rfl, rfl⟩ rfl rfl fun g14 => ?_
 refine y_B rfl ?_
 refine xC2 rfl rfl rfl (c6q (s * (x : Rat)) h ((hs.mul hxs).mono (by decide)) (hh.mono (by decide))) ⟨rfl, rfl, rfl⟩ rfl rfl fun g16 => ?_
 refine xC2 rfl rfl rfl (b6p (y : Rat) (s * (x : Rat) + h) (hys.mono (by decide)) (((hs.mul hxs).add hh).mono (by decide))) ⟨rfl, rfl, rfl⟩ rfl rfl fun g17 => ?_
 refine xB rfl rfl rfl rfl rfl rfl rfl rfl rfl ?_
 refine F3 ⟨fun _ => ⟨by (simp only [Q9, List.nil_append, List.append_nil, List.map_cons, List.map_nil, List.cons_append]; decide +kernel), by decide +kernel⟩, [(.t 8, _), (.h 8, _)], ⟨rfl, rfl, rfl, rfl, trivial⟩, ?_⟩
 refine B1 <| E5 (E8 rfl rfl rfl rfl rfl (F6 C9)) ?_
 rfl

theorem a9s : C1 Try.f18 = [0, 1, 2, 6, 5, 7, 9, 24, 10, 40, 8, 44, 19, 37, 50] := by kernel_rfl
theorem b2b (xs ys : List Int) (hl3 : xs.length = ys.length) (h7 : xs.length ≤ 7) (hn : 1 ≤ xs.length) (hx : J3 (-12) 12 xs = true) (hy : J3 (-12) 12 ys = true) (s : Rat) (hs : Sm 24 s) : CW cxT 18 [L xs, L ys, qV s] = some (qV (brd xs ys s), []) := by
 refine B8 rfl Try.func18 rfl ⟨by kernel_rfl, rfl, dT rfl, dT rfl, by decide⟩ a9s <| A3 <| A0 <| I2 rfl rfl rfl (fun _ => D4 rfl) (fun _ => rfl) ?_
 intro g5
 refine y_A rfl (fun _ => rfl) ?_
 intro g6
 refine xN [0,1,5,6] [5,6] rfl <| A3 <| A0 <| y_M rfl <| A5 rfl rfl rfl (fun _ => rfl) (by (change 0 < _; omega)) <| y_I rfl <| y_M rfl <| A5 rfl rfl rfl (fun _ => rfl) (by (change 0 < _; omega)) <| y_I rfl <| y_B rfl ?_
 refine xC2 rfl rfl rfl ((by have h := U9 0 1 (by decide) (by decide) (by decide); rw [show Rat.divInt 0 1 = (0 : Rat) by decide +kernel] at h; exact h)) ⟨rfl, rfl, rfl⟩ rfl rfl fun g18 => ?_
 have hx0 := F4 hx (by decide) 0
 have hy0 := F4 hy (by decide) 0
 have hq0 := b3p hx hy hs 0
 apply xC rfl
 ·apply A6
  ·exact C0 rfl
  apply A6
  ·exact C0 rfl
  apply A6
  ·exact C0 rfl
  apply A6
  ·exact C0 rfl
  exact E7
 ·exact (by have h := c4v (xs.getD 0 default) (ys.getD 0 default) hx0 hy0 s 0 hs (b6k (n := 0) (by decide) (by decide)); rw [Rat.add_zero] at h; exact (show CW cxT 39 [_, _, _, _] = some (qV (lfQ xs ys s 0), []) from h))
 refine ⟨⟨rfl, rfl, rfl, dT rfl, rfl⟩, .inl rfl, C7, D3 rfl, fun _ => rfl, fun g19 => ?_⟩
 refine y_A rfl (fun _ => rfl) ?_
 intro g7
 refine xB rfl rfl rfl rfl rfl rfl rfl rfl rfl ?_
 refine F3 ⟨fun _ => ⟨by (simp only [Q9, List.nil_append, List.append_nil, List.map_cons, List.map_nil, List.cons_append]; decide +kernel), by decide +kernel⟩, [(.t 0, _), (.t 1, _), (.t 5, _), (.t 6, _), (.t 7, _), (.h 5, _), (.h 6, _), (.h 7, _)], ⟨rfl, rfl, rfl, rfl, rfl, rfl, rfl, rfl, rfl, rfl, rfl, rfl, rfl, rfl, rfl, rfl, trivial⟩, ?_⟩
 refine A3 <| A0 <| y_B rfl <| y_A rfl (fun _ => rfl) ?_
 intro g8
 refine xB rfl rfl rfl rfl rfl rfl rfl rfl rfl <| xN [0,1,5,6,7,8] [5,6,7,8] rfl <| A3 <| A3 <| A0 <| y_S rfl <| xN [0,1,5,6,7,8,9] [5,6,7,8] rfl <| B5 <| G2 (β := Nat × Rat × Rat) [(.t 0, _), (.t 1, _), (.t 5, _), (.t 6, _), (.t 7, _), (.t 8, _), (.h 5, _), (.h 6, _)] (fun (z : Nat × Rat × Rat) => match z with | (i, lo, hi) => [(.t 9, iV i), (.h 7, .obj g7 3 2 [qV lo]), (.h 8, .obj g8 3 2 [qV hi])]) (fun (z : Nat × Rat × Rat) => match z with | (i, lo, hi) => 1 ≤ i ∧ i ≤ xs.length ∧ lo = mnQ ((List.range i).map (lfQ xs ys s)) ∧ hi = mxQ ((List.range i).map (lfQ xs ys s))) (fun (z : Nat × Rat × Rat) => match z with | (i, lo, hi) => xs.length - i) (1, lfQ xs ys s 0, lfQ xs ys s 0) ⟨rfl, rfl, rfl, rfl, rfl, rfl, rfl, rfl, rfl, rfl, rfl, trivial⟩ ⟨Nat.le_refl _, hn, rfl, rfl⟩ ?_
 intro z hb
 obtain ⟨i, lo, hi⟩ := z
 try dsimp only at hb
 obtain ⟨hi0, hi1, hlo, hhi⟩ := hb
 have hl0 : 0 < ((List.range i).map (lfQ xs ys s)).length := by simp; omega
 have hls : ∀ q ∈ ((List.range i).map (lfQ xs ys s)), Sm 6912 q := fun q h => by obtain ⟨j, _, rfl⟩ := List.mem_map.1 h; exact b3p hx hy hs j
 have hlos : Sm 6912 lo := by rw [hlo]; exact hls _ (M4 hl0).1
 have hhis : Sm 6912 hi := by rw [hhi]; exact hls _ (U0 hl0).1
 refine A3 <| A3 <| A0 <| y_M rfl <| y_M rfl <| C6 rfl rfl <| H7 rfl rfl <| xN [0,1,5,6,7,8,9,24] [5,6,7,8] rfl ?_
 refine B4 rfl ?_ ?_ <;> intro hc <;> try simp only [SL] at hc
 ·refine B7 <| A3 <| B5 <| A3 <| A0 <| y_M rfl <| y_M rfl <| A5 rfl rfl rfl (fun _ => rfl) (by omega) <| y_I rfl <| y_M rfl <| y_M rfl <| A5 rfl rfl rfl (fun _ => rfl) (by omega) <| y_I rfl <| y_B rfl ?_
  refine xC2 rfl rfl rfl ((by have h := U9 0 1 (by decide) (by decide) (by decide); rw [show Rat.divInt 0 1 = (0 : Rat) by decide +kernel] at h; exact h)) ⟨rfl, rfl, rfl⟩ rfl rfl fun g36 => ?_
  have hxi := F4 hx (by decide) i
  have hyi := F4 hy (by decide) i
  have hqi := b3p hx hy hs i
  apply xC rfl
  ·apply A6
   ·exact C0 rfl
   apply A6
   ·exact C0 rfl
   apply A6
   ·exact C0 rfl
   apply A6
   ·exact C0 rfl
   exact E7
  ·exact (by have h := c4v (xs.getD i default) (ys.getD i default) hxi hyi s 0 hs (b6k (n := 0) (by decide) (by decide)); rw [Rat.add_zero] at h; exact (show CW cxT 39 [_, _, _, _] = some (qV (lfQ xs ys s i), []) from h))
  refine ⟨⟨rfl, rfl, rfl, dT rfl, rfl⟩, .inl rfl, C7, D3 rfl, fun _ => rfl, fun g37 => ?_⟩
  refine y_A rfl (fun _ => rfl) ?_
  intro g10
  refine xB rfl rfl rfl rfl rfl rfl rfl rfl rfl ?_
  refine F3 ⟨fun _ => ⟨by (simp only [Q9, List.nil_append, List.append_nil, List.map_cons, List.map_nil, List.cons_append]; decide +kernel), by decide +kernel⟩, [(.t 0, _), (.t 1, _), (.t 5, _), (.t 6, _), (.t 7, _), (.t 8, _), (.t 9, _), (.t 10, _), (.h 5, _), (.h 6, _), (.h 7, _), (.h 8, _), (.h 10, _)], ⟨rfl, rfl, rfl, rfl, rfl, rfl, rfl, rfl, rfl, rfl, rfl, rfl, rfl, rfl, rfl, rfl, rfl, rfl, rfl, rfl, rfl, rfl, rfl, rfl, rfl, rfl, trivial⟩, ?_⟩
  refine A3 <| A3 <| A0 <| y_B rfl <| y_B rfl ?_
  refine xC2 rfl rfl rfl (a7h (lfQ xs ys s i) lo (hqi.mono (by decide)) (hlos.mono (by decide))) ⟨rfl, rfl, rfl⟩ rfl rfl fun g40 => ?_
  refine xN [0,1,5,6,7,8,9,10,40] [5,6,7,8,10] rfl ?_
  refine B4 rfl ?_ ?_ <;> intro hc <;> try simp only [SL] at hc
  ·refine A0 <| y_B rfl <| xB rfl rfl rfl rfl rfl rfl rfl rfl rfl <| xN [0,1,5,6,7,8,9,10] [5,6,7,8,10] rfl <| A3 <| A0 <| y_B rfl <| y_B rfl ?_
   refine xC2 rfl rfl rfl (a7h hi (lfQ xs ys s i) (hhis.mono (by decide)) (hqi.mono (by decide))) ⟨rfl, rfl, rfl⟩ rfl rfl fun g44 => ?_
   refine xN [0,1,5,6,7,8,9,10,44] [5,6,7,8,10] rfl ?_
   refine B4 rfl ?_ ?_ <;> intro hc <;> try simp only [SL] at hc
   ·refine A0 <| y_B rfl <| xB rfl rfl rfl rfl rfl rfl rfl rfl rfl <| xN [0,1,5,6,7,8,9] [5,6,7,8] rfl <| A0 <| y_M rfl <| G4 rfl rfl (B0 (by omega)) <| y_S rfl <| xN [0,1,5,6,7,8,9] [5,6,7,8] rfl ?_
    refine ⟨(i + 1, lfQ xs ys s i, lfQ xs ys s i), ?_, (by simp only; omega), ⟨rfl, rfl, rfl, rfl, rfl, rfl, rfl, rfl, rfl, rfl, rfl, trivial⟩⟩
    exact ⟨by omega, by omega, by rw [Q3, T9 _ hl0, ← hlo]; exact (if_pos (by assumption)).symm, by rw [Q3, Y4 _ hl0, ← hhi]; exact (if_pos (by assumption)).symm⟩
   refine B7 <| A0 <| y_M rfl <| G4 rfl rfl (B0 (by omega)) <| y_S rfl <| xN [0,1,5,6,7,8,9] [5,6,7,8] rfl ?_
   refine ⟨(i + 1, lfQ xs ys s i, hi), ?_, (by simp only; omega), ⟨rfl, rfl, rfl, rfl, rfl, rfl, rfl, rfl, rfl, rfl, rfl, trivial⟩⟩
   exact ⟨by omega, by omega, by rw [Q3, T9 _ hl0, ← hlo]; exact (if_pos (by assumption)).symm, by rw [Q3, Y4 _ hl0, ← hhi]; exact (if_neg (by assumption)).symm⟩
  refine B7 <| A3 <| A0 <| y_B rfl <| y_B rfl ?_
  refine xC2 rfl rfl rfl (a7h hi (lfQ xs ys s i) (hhis.mono (by decide)) (hqi.mono (by decide))) ⟨rfl, rfl, rfl⟩ rfl rfl fun g44 => ?_
  refine xN [0,1,5,6,7,8,9,10,44] [5,6,7,8,10] rfl ?_
  refine B4 rfl ?_ ?_ <;> intro hc <;> try simp only [SL] at hc
  ·refine A0 <| y_B rfl <| xB rfl rfl rfl rfl rfl rfl rfl rfl rfl <| xN [0,1,5,6,7,8,9] [5,6,7,8] rfl <| A0 <| y_M rfl <| G4 rfl rfl (B0 (by omega)) <| y_S rfl <| xN [0,1,5,6,7,8,9] [5,6,7,8] rfl ?_
   refine ⟨(i + 1, lo, lfQ xs ys s i), ?_, (by simp only; omega), ⟨rfl, rfl, rfl, rfl, rfl, rfl, rfl, rfl, rfl, rfl, rfl, trivial⟩⟩
   exact ⟨by omega, by omega, by rw [Q3, T9 _ hl0, ← hlo]; exact (if_neg (by assumption)).symm, by rw [Q3, Y4 _ hl0, ← hhi]; exact (if_pos (by assumption)).symm⟩
  refine B7 <| A0 <| y_M rfl <| G4 rfl rfl (B0 (by omega)) <| y_S rfl <| xN [0,1,5,6,7,8,9] [5,6,7,8] rfl ?_
  refine ⟨(i + 1, lo, hi), ?_, (by simp only; omega), ⟨rfl, rfl, rfl, rfl, rfl, rfl, rfl, rfl, rfl, rfl, rfl, trivial⟩⟩
  exact ⟨by omega, by omega, by rw [Q3, T9 _ hl0, ← hlo]; exact (if_neg (by assumption)).symm, by rw [Q3, Y4 _ hl0, ← hhi]; exact (if_neg (by assumption)).symm⟩
 refine G1 <| A3 <| A0 <| y_B rfl <| y_B rfl ?_
 obtain rfl : i = xs.length := by omega
 have eh : hi = mxQ (lfL xs ys s) := hhi
 have el : lo = mnQ (lfL xs ys s) := hlo
 refine xC2 rfl rfl rfl (b6p hi lo (hhis.mono (by decide)) (hlos.mono (by decide))) ⟨rfl, rfl, rfl⟩ rfl rfl fun g48 => ?_
 refine xC2 rfl rfl rfl ((by have h := U9 1 2 (by decide) (by decide) (by decide); rw [show Rat.divInt 1 2 = (1 / 2 : Rat) by decide +kernel] at h; exact h)) ⟨rfl, rfl, rfl⟩ rfl rfl fun g49 => ?_
 refine xC2 rfl rfl rfl (b5r (hi - lo) (1 / 2) ((hhis.sub hlos).mono (by decide)) (b2t.mono (by decide))) ⟨rfl, rfl, rfl⟩ rfl rfl fun g50 => ?_
 refine xB rfl rfl rfl rfl rfl rfl rfl rfl rfl <| xN [6] [6] rfl <| B1 <| E5 (E8 rfl rfl rfl rfl rfl (F6 C9)) ?_
 rw [eh, el]
 rfl

theorem b0y : C1 Try.f5 = [0, 1, 4, 5, 13, 6, 8, 27, 7, 9, 39, 23, 36] := by kernel_rfl
theorem c5u (xs ys : List Int) (hl : xs.length ≤ 1048576) (hl2 : ys.length ≤ 1048576) : CW cxT 5 [L xs, L ys] = some (.tup [a5s (stX xs ys), bV (vc xs ys)], []) := by
 refine B8 rfl Try.func5 rfl ⟨by kernel_rfl, rfl, dT rfl, dT rfl, by decide⟩ b0y <| A3 <| A0 <| y_A rfl (fun _ => rfl) ?_
 intro g4
 refine y_S rfl <| xN [0,1,4] [4] rfl <| A3 <| A3 <| A0 <| y_M rfl <| y_M rfl ?_
 refine xC2 rfl rfl rfl (b3i xs ys hl hl2) ⟨rfl, rfl, rfl⟩ rfl rfl fun g12 => ?_
 refine a4p rfl <| xN [0,1,4,13] [4] rfl ?_
 refine B4 rfl ?_ ?_ <;> intro hc <;> try simp only [SL] at hc
 ·have hvc : ¬ vc xs ys = true := by simpa using hc
  refine A3 <| A0 <| I4 (fs := [_, _]) rfl rfl rfl rfl rfl <| xB rfl rfl rfl rfl rfl rfl rfl rfl rfl <| y_S rfl <| xN [4,5] [4] rfl <| B1 <| E5 (E8 rfl rfl rfl rfl rfl (a5e rfl rfl (F6 C9))) ?_
  rw [stX, if_neg hvc, Bool.eq_false_iff.2 hvc]
  rfl
 have hvc : vc xs ys = true := by exact hc
 have hv := a8t.1 hvc
 obtain ⟨hl3, h7, hx, hy, hw⟩ := hv
 have hsl := a4f (xs := xs) (ys := ys) h7
 have hsp := a4x (ys := ys) hw
 have hsm : ∀ i, i < (sortQ (slA xs ys)).length → Sm 24 ((sortQ (slA xs ys)).getD i default) := fun i hi => a4c (a0m hx hy _) _ (P5 hi)
 have hsq := Q5 (slA xs ys)
 have hd1 := a5a (n := (sortQ (slA xs ys)).length) (by omega)
 have hd2 := b4g (sortQ (slA xs ys)).length
 have hw1 := a5m hw
 have hsmA : ∀ i, i < (slA xs ys).length → Sm 24 ((slA xs ys).getD i default) := fun i hi => a0m hx hy _ _ (P5 hi)
 have hbA := fun i (h : i < (slA xs ys).length) => b4j hx hy (hsmA i h) (by omega)
 refine B7 <| A3 <| A0 <| y_M rfl <| y_M rfl ?_
 apply xC rfl
 ·apply A6
  ·exact C0 rfl
  apply A6
  ·exact C0 rfl
  exact E7
 ·exact c2z xs ys hl3 h7 hx hy
 refine ⟨⟨rfl, rfl, rfl, dT rfl, rfl⟩, .inl rfl, C7, a3q, fun _ => rfl, fun g17 => ?_⟩
 simp only [List.length_map]
 (refine xO rfl rfl (by simp) rfl (fun _ => rfl) (fun _ => rfl) ?_; intro g6)
 refine xN [0,1,4,6] [4,6] rfl <| A3 <| A0 <| y_M rfl <| y_M rfl <| y_M rfl <| W9 rfl rfl rfl rfl (by omega) (by (simp; done)) rfl <| a1o rfl rfl (by omega) (fun _ => rfl) (fun _ => rfl) rfl ?_
 refine xC3 rfl rfl rfl rfl (b2b xs ys hl3 h7 (by omega) hx hy ((slA xs ys).getD 0 default) (hsmA 0 (by omega))) ⟨rfl, rfl, rfl⟩ rfl rfl fun g23 => ?_
 refine y_A rfl (fun _ => rfl) ?_
 intro g7
 refine xB rfl rfl rfl rfl rfl rfl rfl rfl rfl <| xN [0,1,4,6,7] [4,6,7] rfl <| A3 <| A3 <| A0 <| y_S rfl <| xN [0,1,4,6,7,8] [4,6,7] rfl <| B5 <| G2 (β := Nat × Rat) [(.t 0, _), (.t 1, _), (.t 4, _), (.t 6, _), (.t 7, _), (.h 4, _), (.h 6, _)] (fun (z : Nat × Rat) => match z with | (i, v) => [(.t 8, iV i), (.h 7, .obj g7 3 2 [qV v])]) (fun (z : Nat × Rat) => match z with | (i, v) => 1 ≤ i ∧ i ≤ (slA xs ys).length ∧ v = mnQ (((slA xs ys).take i).map (brd xs ys))) (fun (z : Nat × Rat) => match z with | (i, v) => (slA xs ys).length - i) (1, brd xs ys ((slA xs ys).getD 0 default)) ⟨rfl, rfl, rfl, rfl, rfl, rfl, rfl, rfl, rfl, trivial⟩ ⟨Nat.le_refl _, by omega, by rw [show (slA xs ys).take 1 = [(slA xs ys).getD 0 default] from by have := F5 (xs := slA xs ys) (i := 0) (by omega); rw [List.take_zero, List.nil_append] at this; exact this]; rfl⟩ ?_
 intro z hb
 obtain ⟨i, v⟩ := z
 try dsimp only at hb
 obtain ⟨hi0, hi1, hv⟩ := hb
 have hl0 : 0 < (((slA xs ys).take i).map (brd xs ys)).length := by rw [List.length_map, List.length_take]; omega
 have hvs : Sm 200000000 v := by rw [hv]; obtain ⟨s, hs, e⟩ := List.mem_map.1 (M4 hl0).1; rw [← e]; exact b4j hx hy (a0m hx hy _ _ (List.mem_of_mem_take hs)) (by omega)
 refine A3 <| A3 <| A0 <| y_M rfl <| y_M rfl <| Z2 rfl rfl <| H7 rfl rfl <| xN [0,1,4,6,7,8,27] [4,6,7] rfl ?_
 refine B4 rfl ?_ ?_ <;> intro hc <;> try simp only [SL] at hc
 ·refine B7 <| A3 <| B5 <| A3 <| A0 <| y_M rfl <| y_M rfl <| y_M rfl <| y_M rfl <| W9 rfl rfl rfl rfl (by omega) (by (simp; done)) rfl <| a1o rfl rfl (by omega) (fun _ => rfl) (fun _ => rfl) rfl ?_
  refine xC3 rfl rfl rfl rfl (b2b xs ys hl3 h7 (by omega) hx hy ((slA xs ys).getD i default) (hsmA i (by omega))) ⟨rfl, rfl, rfl⟩ rfl rfl fun g36 => ?_
  refine y_A rfl (fun _ => rfl) ?_
  intro g9
  refine xB rfl rfl rfl rfl rfl rfl rfl rfl rfl <| xN [0,1,4,6,7,8,9] [4,6,7,9] rfl <| A3 <| A0 <| y_B rfl <| y_B rfl ?_
  refine xC2 rfl rfl rfl (a7h (brd xs ys ((slA xs ys).getD i default)) v ((hbA i (by omega)).mono (by decide)) (hvs.mono (by decide))) ⟨rfl, rfl, rfl⟩ rfl rfl fun g39 => ?_
  refine xN [0,1,4,6,7,8,9,39] [4,6,7,9] rfl ?_
  refine B4 rfl ?_ ?_ <;> intro hc <;> try simp only [SL] at hc
  ·refine A0 <| y_B rfl <| xB rfl rfl rfl rfl rfl rfl rfl rfl rfl <| xN [0,1,4,6,7,8] [4,6,7] rfl <| A0 <| y_M rfl <| G4 rfl rfl (B0 (by omega)) <| y_S rfl <| xN [0,1,4,6,7,8] [4,6,7] rfl ?_
   refine ⟨(i + 1, brd xs ys ((slA xs ys).getD i default)), ?_, (by simp only; omega), ⟨rfl, rfl, rfl, rfl, rfl, rfl, rfl, rfl, rfl, trivial⟩⟩
   exact ⟨by omega, by omega, by rw [F5 (by omega), List.map_append, List.map_singleton, T9 _ hl0, ← hv]; exact (if_pos (by assumption)).symm⟩
  refine B7 <| A0 <| y_M rfl <| G4 rfl rfl (B0 (by omega)) <| y_S rfl <| xN [0,1,4,6,7,8] [4,6,7] rfl ?_
  refine ⟨(i + 1, v), ?_, (by simp only; omega), ⟨rfl, rfl, rfl, rfl, rfl, rfl, rfl, rfl, rfl, trivial⟩⟩
  exact ⟨by omega, by omega, by rw [F5 (by omega), List.map_append, List.map_singleton, T9 _ hl0, ← hv]; exact (if_neg (by assumption)).symm⟩
 refine G1 <| A3 <| A0 <| y_B rfl <| xB rfl rfl rfl rfl rfl rfl rfl rfl rfl <| y_S rfl <| xN [4,5] [4] rfl <| B1 <| E5 (E8 rfl rfl rfl rfl rfl (a5e rfl rfl (F6 C9))) ?_
 rw [stX, if_pos hvc, hvc, hv, List.take_of_length_le (by omega)]
 rfl

theorem a8r : C1 Try.f15 = [0, 2, 4, 9, 3] := by kernel_rfl
theorem c2u (l : List Int) (hl : l.length ≤ 1000) (hb : ∀ i, i < l.length → -1000000 ≤ l.getD i default ∧ l.getD i default ≤ 1000000) : CW cxT 15 [L l] = some (.own 1 ((ngI l).map iV), []) := by
 refine B8 rfl Try.func15 rfl ⟨by kernel_rfl, rfl, dT rfl, dT rfl, by decide⟩ a8r <| A3 <| A0 ?_
 (refine G3 rfl rfl (fun _ => rfl) ?_; intro g2)
 refine xN [0] [] rfl <| A3 <| A0 <| D7 (es := List.map iV []) rfl rfl (dT rfl) rfl rfl (fun _ => F0 (B6 fun _ => rfl)) (fun _ => rfl) ?_
 intro g5
 (refine xO rfl rfl (by simp) rfl (fun _ => rfl) (fun _ => rfl) ?_; intro g3)
 refine xN [0,3] [3] rfl <| A3 <| A3 <| A0 <| y_S rfl <| xN [0,3,4] [3] rfl <| B5 <| G2 (β := Nat × List Int × Nat) [(.t 0, _)] (fun (z : Nat × List Int × Nat) => match z with | (i, xs, g) => [(.t 4, iV i), (.t 3, .sl 3 g none 0 xs.length), (.h 3, .obj g 0 1 (xs.map iV))]) (fun (z : Nat × List Int × Nat) => match z with | (i, xs, g) => i ≤ l.length ∧ xs = ngI (l.take i)) (fun (z : Nat × List Int × Nat) => match z with | (i, xs, g) => l.length - i) (0, [], _) ⟨rfl, rfl, rfl, rfl, trivial⟩ ⟨Nat.zero_le _, rfl⟩ ?_
 intro z hb
 obtain ⟨i, xs, g⟩ := z
 try dsimp only at hb
 obtain ⟨hi1, hxs⟩ := hb
 have hxl : xs.length = i := by rw [hxs, b9w, List.length_take]; omega
 refine A3 <| A3 <| A0 <| y_M rfl <| y_M rfl <| C6 rfl rfl <| H7 rfl rfl <| xN [0,3,4,9] [3] rfl ?_
 refine B4 rfl ?_ ?_ <;> intro hc <;> try simp only [SL] at hc
 ·refine B7 <| A3 <| B5 <| A0 <| y_M rfl <| y_M rfl <| y_M rfl <| A5 rfl rfl rfl (fun _ => rfl) (by omega) <| y_I rfl ?_
  have hbi := hb i (by omega)
  refine X2 rfl (B0 (by omega)) <| D7 (es := List.map iV [-(l.getD i default)]) rfl rfl (dT rfl) rfl rfl (fun _ => F0 (B6 fun _ => rfl)) (fun _ => rfl) ?_
  intro g18
  refine xA rfl rfl rfl rfl (by simp) (by simp) rfl rfl rfl rfl rfl (fun _ => rfl) (by simp only [LN]; omega) (fun _ => rfl) ?_
  intro g19
  (refine xO rfl rfl (by simp) rfl (fun _ => rfl) (fun _ => rfl) ?_; intro g3)
  refine xN [0,3,4] [3] rfl <| A0 <| y_M rfl <| G4 rfl rfl (B0 (by omega)) <| y_S rfl <| xN [0,3,4] [3] rfl ?_
  refine ⟨(i + 1, xs ++ [-(l.getD i default)], _), ?_, (by simp only; omega), ⟨rfl, rfl, rfl, rfl, trivial⟩⟩
  exact ⟨by omega, by rw [hxs, F5 (by omega)]; simp [ngI]⟩
 refine G1 <| A3 <| A0 <| y_M rfl ?_
 (refine xO rfl rfl (by simp) rfl (fun _ => rfl) (fun _ => rfl) ?_; intro g2)
 refine xN [2] [2] rfl <| B1 <| a2a rfl rfl (by simp) (by exact B6 fun _ => rfl) trivial ?_
 rw [hxs, List.take_of_length_le (by omega)]

theorem a5o : C1 Try.f29 = [0, 2, 3, 7, 4, 21, 30, 8, 6, 9, 5, 47, 48, 54, 58, 62] := by kernel_rfl
theorem b5s (bs : List Int) (p : Int) (hbs : a4o bs) (hl : bs.length ≤ 1048576) (hp : p = 0) : ∃ res outs, (fun res outs => ∃ (xs ys : List Int) (p' : Int), res = .tup [.own 1 (xs.map iV), .own 1 (ys.map iV)] ∧ outs = [[rdr bs p']] ∧ xs.length ≤ 8 ∧ ys.length ≤ 9) res outs ∧ CW cxT 29 [.ownp [rdr bs p] 0 0] = some (res, outs) := by
 refine N2 rfl Try.func29 rfl ⟨by kernel_rfl, rfl, dT rfl, dT rfl, by decide⟩ a5o <| A3 <| A0 ?_
 (refine G3 rfl rfl (fun _ => rfl) ?_; intro g2)
 (refine G3 rfl rfl (fun _ => rfl) ?_; intro g3)
 refine xN [0] [0] rfl <| A3 <| A0 <| D7 (es := List.map iV []) rfl rfl (dT rfl) rfl rfl (fun _ => F0 (B6 fun _ => rfl)) (fun _ => rfl) ?_
 intro g10
 (refine xO rfl rfl (by simp) rfl (fun _ => rfl) (fun _ => rfl) ?_; intro g4)
 refine xN [0,4] [0,4] rfl <| A3 <| A0 <| D7 (es := List.map iV []) rfl rfl (dT rfl) rfl rfl (fun _ => F0 (B6 fun _ => rfl)) (fun _ => rfl) ?_
 intro g11
 (refine xO rfl rfl (by simp) rfl (fun _ => rfl) (fun _ => rfl) ?_; intro g5)
 refine xN [0,4,5] [0,4,5] rfl <| A3 <| A0 <| y_M rfl ?_
 obtain ⟨_, _, ⟨k0, rfl, rfl, k0b, -⟩, hC0⟩ := a3b bs (p) hbs hl (by omega) 3 (by omega)
 have k0b := k0b (by omega)
 apply xC rfl
 ·apply A6
  ·exact Y0 rfl (by decide) rfl
  apply A6
  ·exact C0 rfl
  exact E7
 ·exact hC0
 refine ⟨⟨rfl, rfl, rfl, dT rfl, rfl⟩, .inl rfl, K5 rfl rfl rfl C7, D3 rfl, fun _ => rfl, fun g13 => ?_⟩
 refine a0w rfl rfl (B0 (by omega)) <| y_S rfl <| xN [0,4,5,6] [0,4,5] rfl <| A3 <| A3 <| A0 <| y_M rfl <| D7 (es := List.map iV [_, _, _, _, _, _, _, _]) rfl rfl (dT rfl) rfl rfl (fun _ => F0 (B6 fun _ => rfl)) (fun _ => rfl) ?_
 intro g16
 obtain ⟨_, _, ⟨k1, rfl, rfl, k1m⟩, hC1⟩ := c7q bs (p + 1) hbs hl (by omega) [4, 5, 3, 6, 2, 7, 1, 0] (by decide)
 have k1b : 0 ≤ k1 ∧ k1 ≤ 7 := by simp at k1m; omega
 apply xC rfl
 ·apply A6
  ·exact Y0 rfl (by decide) rfl
  apply A6
  ·exact a6k rfl rfl (by (simp; done)) (fun _ => rfl)
  exact E7
 ·exact hC1
 refine ⟨⟨rfl, rfl, rfl, dT rfl, rfl⟩, .inl rfl, K5 rfl rfl rfl C7, D3 rfl, fun _ => rfl, fun g17 => ?_⟩
 refine y_S rfl <| xN [0,4,5,6,7] [0,4,5] rfl <| B5 <| G2 (β := List Int × Nat × List Int × Nat × Int) [(.t 0, _), (.t 6, _), (.t 7, _)] (fun (z : List Int × Nat × List Int × Nat × Int) => match z with | (xs, gx, ys, gy, q) => [(.h 0, .obj 1 4 0 [rdr bs q]), (.t 4, .sl 4 gx none 0 xs.length), (.h 4, .obj gx 0 1 (xs.map iV)), (.t 5, .sl 5 gy none 0 ys.length), (.h 5, .obj gy 0 1 (ys.map iV))]) (fun (z : List Int × Nat × List Int × Nat × Int) => match z with | (xs, gx, ys, gy, q) => (xs.length : Int) ≤ k1 ∧ xs.length = ys.length ∧ p + 2 ≤ q ∧ q ≤ p + 2 + 4 * (xs.length : Int)) (fun (z : List Int × Nat × List Int × Nat × Int) => match z with | (xs, gx, ys, gy, q) => 8 - xs.length) ([], _, [], _, p + 1 + 1) ⟨rfl, rfl, rfl, rfl, rfl, rfl, rfl, rfl, trivial⟩ ⟨by simp; omega, rfl, by omega, by simp; omega⟩ ?_
 intro z hb
 obtain ⟨xs, gx, ys, gy, q⟩ := z
 try dsimp only at hb
 obtain ⟨hx1, hx2, hq1, hq2⟩ := hb
 refine A3 <| A3 <| A0 <| y_M rfl <| Z2 rfl rfl <| y_M rfl <| H7 rfl rfl <| xN [0,4,5,6,7,21] [0,4,5] rfl ?_
 refine B4 rfl ?_ ?_ <;> intro hc <;> try simp only [SL] at hc
 ·refine B7 <| B5 <| A3 <| A0 <| y_M rfl ?_
  obtain ⟨_, _, ⟨k2, rfl, rfl, k2b, -⟩, hC2⟩ := a3b bs (q) hbs hl (by omega) 11 (by omega)
  have k2b := k2b (by omega)
  obtain ⟨_, _, ⟨k3, rfl, rfl, k3b, -⟩, hC3⟩ := a3b bs (q + 1) hbs hl (by omega) 25 (by omega)
  have k3b := k3b (by omega)
  obtain ⟨_, _, ⟨k4, rfl, rfl, k4b, -⟩, hC4⟩ := a3b bs (q + 1 + 1) hbs hl (by omega) 2 (by omega)
  have k4b := k4b (by omega)
  obtain ⟨_, _, ⟨k5, rfl, rfl, k5b, -⟩, hC5⟩ := a3b bs (q + 1 + 1 + 1) hbs hl (by omega) 4 (by omega)
  have k5b := k5b (by omega)
  have hmb := J2 (x := k0 - 1) (y := k2 - 5) (a := 1) (b := 5) ⟨by omega, by omega⟩ ⟨by omega, by omega⟩
  apply xC rfl
  ·apply A6
   ·exact Y0 rfl (by decide) rfl
   apply A6
   ·exact C0 rfl
   exact E7
  ·exact hC2
  refine ⟨⟨rfl, rfl, rfl, dT rfl, rfl⟩, .inl rfl, K5 rfl rfl rfl C7, D3 rfl, fun _ => rfl, fun g23 => ?_⟩
  refine a0w rfl rfl (B0 (by omega)) <| y_S rfl <| xN [0,4,5,6,7,8] [0,4,5] rfl <| A3 <| A0 <| y_M rfl ?_
  apply xC rfl
  ·apply A6
   ·exact Y0 rfl (by decide) rfl
   apply A6
   ·exact C0 rfl
   exact E7
  ·exact hC3
  refine ⟨⟨rfl, rfl, rfl, dT rfl, rfl⟩, .inl rfl, K5 rfl rfl rfl C7, D3 rfl, fun _ => rfl, fun g26 => ?_⟩
  refine a0w rfl rfl (B0 (by omega)) <| y_S rfl <| xN [0,4,5,6,7,8,9] [0,4,5] rfl <| A3 <| A3 <| A0 <| y_M rfl ?_
  apply xC rfl
  ·apply A6
   ·exact Y0 rfl (by decide) rfl
   apply A6
   ·exact C0 rfl
   exact E7
  ·exact hC4
  refine ⟨⟨rfl, rfl, rfl, dT rfl, rfl⟩, .inl rfl, K5 rfl rfl rfl C7, D3 rfl, fun _ => rfl, fun g29 => ?_⟩
  refine a8p rfl rfl <| xN [0,4,5,6,7,8,9,30] [0,4,5] rfl ?_
  refine B4 rfl ?_ ?_ <;> intro hc <;> try simp only [SL] at hc
  ·refine A0 <| y_M rfl <| y_M rfl <| K8 rfl rfl (B0 (by omega)) <| y_M rfl ?_
   apply xC rfl
   ·apply A6
    ·exact Y0 rfl (by decide) rfl
    apply A6
    ·exact C0 rfl
    exact E7
   ·exact hC5
   refine ⟨⟨rfl, rfl, rfl, dT rfl, rfl⟩, .inl rfl, K5 rfl rfl rfl C7, D3 rfl, fun _ => rfl, fun g35 => ?_⟩
   refine G4 rfl rfl (B0 (by omega)) <| a0w rfl rfl (B0 (by omega)) <| y_S rfl <| xN [0,4,5,6,7,8,9] [0,4,5] rfl <| A3 <| A0 <| y_M rfl <| y_M rfl <| D7 (es := List.map iV [_]) rfl rfl (dT rfl) rfl rfl (fun _ => F0 (B6 fun _ => rfl)) (fun _ => rfl) ?_
   intro g40
   refine xA rfl rfl rfl rfl (by simp) (by simp) rfl rfl rfl rfl rfl (fun _ => rfl) (by simp only [LN]; omega) (fun _ => rfl) ?_
   intro g41
   (refine xO rfl rfl (by simp) rfl (fun _ => rfl) (fun _ => rfl) ?_; intro g4)
   refine xN [0,4,5,6,7,9] [0,4,5] rfl <| A0 <| y_M rfl <| y_M rfl <| D7 (es := List.map iV [_]) rfl rfl (dT rfl) rfl rfl (fun _ => F0 (B6 fun _ => rfl)) (fun _ => rfl) ?_
   intro g44
   refine xA rfl rfl rfl rfl (by simp) (by simp) rfl rfl rfl rfl rfl (fun _ => rfl) (by simp only [LN]; omega) (fun _ => rfl) ?_
   intro g45
   (refine xO rfl rfl (by simp) rfl (fun _ => rfl) (fun _ => rfl) ?_; intro g5)
   refine xN [0,4,5,6,7] [0,4,5] rfl ?_
   refine ⟨(xs ++ [k2 - 5], _, ys ++ [(k0 - 1) * (k2 - 5) + k5 - 1], _, q + 1 + 1 + 1 + 1), ?_, (by simp only [List.length_append, List.length_singleton]; omega), ⟨rfl, rfl, rfl, rfl, rfl, rfl, rfl, rfl, trivial⟩⟩
   refine ⟨?_, ?_, ?_, ?_⟩ <;> (try simp only [List.length_append, List.length_singleton]) <;> omega
  refine B7 <| A3 <| A0 <| y_M rfl <| y_M rfl <| D7 (es := List.map iV [_]) rfl rfl (dT rfl) rfl rfl (fun _ => F0 (B6 fun _ => rfl)) (fun _ => rfl) ?_
  intro g40
  refine xA rfl rfl rfl rfl (by simp) (by simp) rfl rfl rfl rfl rfl (fun _ => rfl) (by simp only [LN]; omega) (fun _ => rfl) ?_
  intro g41
  (refine xO rfl rfl (by simp) rfl (fun _ => rfl) (fun _ => rfl) ?_; intro g4)
  refine xN [0,4,5,6,7,9] [0,4,5] rfl <| A0 <| y_M rfl <| y_M rfl <| D7 (es := List.map iV [_]) rfl rfl (dT rfl) rfl rfl (fun _ => F0 (B6 fun _ => rfl)) (fun _ => rfl) ?_
  intro g44
  refine xA rfl rfl rfl rfl (by simp) (by simp) rfl rfl rfl rfl rfl (fun _ => rfl) (by simp only [LN]; omega) (fun _ => rfl) ?_
  intro g45
  (refine xO rfl rfl (by simp) rfl (fun _ => rfl) (fun _ => rfl) ?_; intro g5)
  refine xN [0,4,5,6,7] [0,4,5] rfl ?_
  refine ⟨(xs ++ [k2 - 5], _, ys ++ [k3 - 12], _, q + 1 + 1 + 1), ?_, (by simp only [List.length_append, List.length_singleton]; omega), ⟨rfl, rfl, rfl, rfl, rfl, rfl, rfl, rfl, trivial⟩⟩
  refine ⟨?_, ?_, ?_, ?_⟩ <;> (try simp only [List.length_append, List.length_singleton]) <;> omega
 refine G1 <| A3 <| A3 <| A0 <| y_M rfl ?_
 obtain ⟨_, _, ⟨k6, rfl, rfl, k6b, -⟩, hC6⟩ := a3b bs (q) hbs hl (by omega) 30 (by omega)
 have k6b := k6b (by omega)
 obtain ⟨_, _, ⟨k7, rfl, rfl, k7m⟩, hC7⟩ := c7q bs (q + 1) hbs hl (by omega) [13, -13, 12] (by decide)
 have k7b : -13 ≤ k7 ∧ k7 ≤ 13 := by simp at k7m; omega
 apply xC rfl
 ·apply A6
  ·exact Y0 rfl (by decide) rfl
  apply A6
  ·exact C0 rfl
  exact E7
 ·exact hC6
 refine ⟨⟨rfl, rfl, rfl, dT rfl, rfl⟩, .inl rfl, K5 rfl rfl rfl C7, D3 rfl, fun _ => rfl, fun g47 => ?_⟩
 refine xN [0,4,5,47] [0,4,5] rfl <| B5 <| A3 <| A0 <| a8p rfl rfl <| y_S rfl <| xN [0,4,5,47,48] [0,4,5] rfl ?_
 refine B4 rfl ?_ ?_ <;> intro hc <;> try simp only [SL] at hc
 ·refine A3 <| A0 <| y_M rfl <| y_M rfl <| D7 (es := List.map iV [_]) rfl rfl (dT rfl) rfl rfl (fun _ => F0 (B6 fun _ => rfl)) (fun _ => rfl) ?_
  intro g52
  refine xA rfl rfl rfl rfl (by simp) (by simp) rfl rfl rfl rfl rfl (fun _ => rfl) (by simp only [LN]; omega) (fun _ => rfl) ?_
  intro g53
  (refine xO rfl rfl (by simp) rfl (fun _ => rfl) (fun _ => rfl) ?_; intro g2)
  (refine xO rfl rfl (by simp) rfl (fun _ => rfl) (fun _ => rfl) ?_; intro g3)
  refine xN [2,3] [0,2,3] rfl <| B1 ?_
  refine ⟨_, _, ?_, E5 (X6 rfl rfl (by (simp; done)) (by exact B6 fun _ => rfl) (X6 rfl rfl (by (simp; done)) (by exact B6 fun _ => rfl) (F6 (Q1 rfl rfl)))) rfl⟩
  exact ⟨_, _, _, rfl, rfl, by omega, by (simp; omega)⟩
 refine A3 <| A0 <| a8p rfl rfl <| y_S rfl <| xN [0,4,5,54] [0,4,5] rfl ?_
 refine B4 rfl ?_ ?_ <;> intro hc <;> try simp only [SL] at hc
 ·refine A3 <| A0 <| y_M rfl <| Z2 rfl rfl <| c1h rfl rfl <| xN [0,4,5,58] [0,4,5] rfl ?_
  refine B4 rfl ?_ ?_ <;> intro hc <;> try simp only [SL] at hc
  ·refine A0 <| y_M rfl <| y_M rfl <| D7 (es := List.map iV [_, _, _]) rfl rfl (dT rfl) rfl rfl (fun _ => F0 (B6 fun _ => rfl)) (fun _ => rfl) ?_
   intro g61
   apply xC rfl
   ·apply A6
    ·exact Y0 rfl (by decide) rfl
    apply A6
    ·exact a6k rfl rfl (by (simp; done)) (fun _ => rfl)
    exact E7
   ·exact hC7
   refine ⟨⟨rfl, rfl, rfl, dT rfl, rfl⟩, .inl rfl, K5 rfl rfl rfl C7, D3 rfl, fun _ => rfl, fun g62 => ?_⟩
   refine W9 rfl rfl rfl rfl (by (change 0 < _; omega)) (by (simp; done)) rfl <| b4a rfl rfl rfl (by (change 0 < _; omega)) (fun _ _ => ⟨rfl, rfl, dT rfl, dT rfl, rfl, rfl⟩) (by decide) (by exact F0 (B6 fun _ => rfl)) <| xN [4,5] [0,4,5] rfl <| A3 <| A0 <| y_M rfl <| y_M rfl ?_
   (refine xO rfl rfl (by simp) rfl (fun _ => rfl) (fun _ => rfl) ?_; intro g2)
   (refine xO rfl rfl (by simp) rfl (fun _ => rfl) (fun _ => rfl) ?_; intro g3)
   refine xN [2,3] [0,2,3] rfl <| B1 ?_
   refine ⟨_, _, ?_, E5 (X6 rfl rfl (by (simp; done)) (by exact B6 fun _ => rfl) (X6 rfl rfl (by (simp; done)) (by exact B6 fun _ => rfl) (F6 (Q1 rfl rfl)))) rfl⟩
   exact ⟨_, _, _, rfl, rfl, by (simp; omega), by omega⟩
  refine B7 <| A3 <| A0 <| y_M rfl <| y_M rfl ?_
  (refine xO rfl rfl (by simp) rfl (fun _ => rfl) (fun _ => rfl) ?_; intro g2)
  (refine xO rfl rfl (by simp) rfl (fun _ => rfl) (fun _ => rfl) ?_; intro g3)
  refine xN [2,3] [0,2,3] rfl <| B1 ?_
  refine ⟨_, _, ?_, E5 (X6 rfl rfl (by (simp; done)) (by exact B6 fun _ => rfl) (X6 rfl rfl (by (simp; done)) (by exact B6 fun _ => rfl) (F6 (Q1 rfl rfl)))) rfl⟩
  exact ⟨_, _, _, rfl, rfl, by omega, by omega⟩
 refine B7 <| A3 <| A0 <| y_M rfl <| y_M rfl ?_
 (refine xO rfl rfl (by simp) rfl (fun _ => rfl) (fun _ => rfl) ?_; intro g2)
 (refine xO rfl rfl (by simp) rfl (fun _ => rfl) (fun _ => rfl) ?_; intro g3)
 refine xN [2,3] [0,2,3] rfl <| B1 ?_
 refine ⟨_, _, ?_, E5 (X6 rfl rfl (by (simp; done)) (by exact B6 fun _ => rfl) (X6 rfl rfl (by (simp; done)) (by exact B6 fun _ => rfl) (F6 (Q1 rfl rfl)))) rfl⟩
 exact ⟨_, _, _, rfl, rfl, by omega, by omega⟩

theorem Z5 : C1 Try.f10 = [0, 2, 3] := by kernel_rfl
theorem a3a (bs : List Int) (hbs : a4o bs) (hl : bs.length ≤ 1048576) : ∃ res outs, (fun res outs => ∃ xs ys : List Int, res = .tup [.own 1 (xs.map iV), .own 1 (ys.map iV)] ∧ outs = [] ∧ xs.length ≤ 8 ∧ ys.length ≤ 9) res outs ∧ CW cxT 10 [.list (bs.map uV)] = some (res, outs) := by
 refine N2 rfl Try.func10 rfl ⟨by kernel_rfl, rfl, dT rfl, dT rfl, by decide⟩ Z5 <| A3 <| A0 ?_
 (refine G3 rfl rfl (fun _ => rfl) ?_; intro g2)
 (refine G3 rfl rfl (fun _ => rfl) ?_; intro g3)
 refine xN [0] [] rfl <| A3 <| A0 <| y_M rfl ?_
 obtain ⟨_, _, ⟨rfl, rfl⟩, hC0⟩ := b4v bs hl
 have hbs2 : a4o (bs.take 2000) := fun b hb => hbs b (List.mem_of_mem_take hb)
 have hl2 : (bs.take 2000).length ≤ 1048576 := by simp; omega
 apply xC rfl
 ·apply A6
  ·exact C0 rfl
  exact E7
 ·exact hC0
 refine ⟨⟨rfl, rfl, rfl, dT rfl, rfl⟩, .inl rfl, C7, c5g, fun _ => rfl, fun g5 => ?_⟩
 obtain ⟨_, _, ⟨xs, ys, p1, rfl, rfl, hx8, hy9⟩, hC1⟩ := b5s (bs.take 2000) 0 hbs2 hl2 rfl
 apply xC rfl
 ·apply A6
  ·exact Y0 rfl (by decide) rfl
  exact E7
 ·exact hC1
 refine ⟨⟨rfl, rfl, rfl, dT rfl, rfl⟩, .inl rfl, K5 rfl rfl rfl C7, b1u (b2i fun _ => b2i fun _ => c5o), fun _ => rfl, fun g6 => ?_⟩
 refine y_E rfl <| y_E rfl ?_
 (refine xO rfl rfl (by simp) rfl (fun _ => rfl) (fun _ => rfl) ?_; intro g2)
 (refine xO rfl rfl (by simp) rfl (fun _ => rfl) (fun _ => rfl) ?_; intro g3)
 refine xN [2,3] [2,3] rfl <| B1 ?_
 refine ⟨_, _, ?_, E5 (X6 rfl rfl (by simp) (by exact B6 fun _ => rfl) (X6 rfl rfl (by simp) (by exact B6 fun _ => rfl) (F6 C9))) rfl⟩
 exact ⟨xs, ys, rfl, rfl, hx8, hy9⟩

theorem b5g : C1 Try.f31 = [0, 2, 1, 8] := by kernel_rfl
theorem c6b (p : Rat) (hp : Sm 1000000000 p) : CW cxT 31 [qV p] = some (qV (St.absQ p), []) := by
 obtain ⟨q1, q2, q3⟩ := id hp
 refine B8 rfl Try.func31 rfl ⟨by kernel_rfl, rfl, dT rfl, dT rfl, by decide⟩ b5g <| A3 <| A0 <| I2 rfl rfl rfl (fun _ => D4 rfl) (fun _ => rfl) ?_
 intro g1
 refine y_A rfl (fun _ => rfl) ?_
 intro g2
 refine xN [1,2] [1,2] rfl <| A3 <| A0 <| y_F rfl <| y_L rfl <| y_F rfl <| y_L rfl <| X2 rfl (B0 (by omega)) <| a2s rfl rfl <| y_F rfl <| y_L rfl <| I4 (fs := [_, _]) rfl rfl rfl rfl rfl <| xB rfl rfl rfl rfl rfl rfl rfl rfl rfl <| xN [2] [2] rfl <| B1 <| E5 (E8 rfl rfl rfl rfl rfl (F6 C9)) ?_
 have e := c3t p
 rw [Int.zero_sub] at e
 unfold qV
 rw [e.1, e.2]
 rfl

theorem a6t : C1 Try.f14 = [0, 2, 4, 11, 3] := by kernel_rfl
theorem a8o (xs : List Int) (hl : 1 ≤ xs.length ∧ xs.length ≤ 1000) : ∃ res outs, (fun res outs => ∃ v, res = iV v ∧ outs = [] ∧ v ∈ xs ∧ ∀ x ∈ xs, x ≤ v) res outs ∧ CW cxT 14 [L xs] = some (res, outs) := by
 refine N2 rfl Try.func14 rfl ⟨by kernel_rfl, rfl, dT rfl, dT rfl, by decide⟩ a6t <| A3 <| A0 <| y_S rfl <| xN [0] [] rfl <| A3 <| A0 <| y_M rfl <| A5 rfl rfl rfl (fun _ => rfl) (by (change 0 < _; omega)) <| y_I rfl <| y_S rfl <| xN [0,3] [] rfl <| A3 <| A3 <| A0 <| y_S rfl <| xN [0,3,4] [] rfl <| B5 <| G2 (β := Nat × Int) [(.t 0, _)] (fun (z : Nat × Int) => match z with | (i, v) => [(.t 4, iV i), (.t 3, iV v)]) (fun (z : Nat × Int) => match z with | (i, v) => 1 ≤ i ∧ i ≤ xs.length ∧ v ∈ xs ∧ ∀ j, j < i → xs.getD j default ≤ v) (fun (z : Nat × Int) => match z with | (i, v) => xs.length - i) (1, xs.getD 0 default) ⟨rfl, rfl, rfl, trivial⟩ ⟨Nat.le_refl _, hl.1, I8 (by omega), fun j h => by have h0 : j = 0 := (by omega); subst h0; exact Int.le_refl _⟩ ?_
 intro z hb
 obtain ⟨i, v⟩ := z
 try dsimp only at hb
 obtain ⟨hi0, hi1, hv1, hv2⟩ := hb
 refine A3 <| A3 <| A0 <| y_M rfl <| y_M rfl <| C6 rfl rfl <| H7 rfl rfl <| xN [0,3,4,11] [] rfl ?_
 refine B4 rfl ?_ ?_ <;> intro hc <;> try simp only [SL] at hc
 ·refine B7 <| A3 <| B5 <| A0 <| y_M rfl <| y_M rfl <| y_M rfl <| A5 rfl rfl rfl (fun _ => rfl) (by omega) <| y_I rfl <| a2s rfl rfl <| y_S rfl <| xN [0,3,4] [] rfl <| A0 <| y_M rfl <| G4 rfl rfl (B0 (by omega)) <| y_S rfl <| xN [0,3,4] [] rfl ?_
  refine ⟨(i + 1, max v (xs.getD i default)), ⟨by omega, by omega, by rcases Int.le_total v (xs.getD i default) with h | h; (· (rw [Int.max_eq_right h]; exact I8 (by omega))); (· (rw [Int.max_eq_left h]; exact hv1)), fun j hj => by rcases Nat.lt_succ_iff_lt_or_eq.1 hj with h | h; (· have := hv2 j h; omega); (· subst h; omega)⟩, (by simp only; omega), ⟨rfl, rfl, rfl, trivial⟩⟩
 refine G1 <| A3 <| A0 <| y_M rfl <| y_S rfl <| xN [2] [] rfl <| B1 ?_
 refine ⟨_, _, ?_, Q8 rfl rfl C9⟩
 refine ⟨v, rfl, rfl, hv1, fun x hx2 => ?_⟩
 obtain ⟨j, hj, rfl⟩ := L4 hx2
 exact hv2 j (by omega)

theorem b0n : C1 Try.f11 = [0, 1, 4, 5, 14, 20, 19, 21, 25, 24, 26, 8, 7, 36, 6, 54, 53, 55, 9, 89, 10, 88, 111, 128] := by kernel_rfl
theorem c3g (xs ys : List Int) (hl : xs.length ≤ 1048576) (hl2 : ys.length ≤ 1048576) : CW cxT 11 [L xs, L ys] = some (.tup [a5s (thX xs ys), bV (vc xs ys)], []) := by
 refine B8 rfl Try.func11 rfl ⟨by kernel_rfl, rfl, dT rfl, dT rfl, by decide⟩ b0n <| A3 <| A0 <| y_A rfl (fun _ => rfl) ?_
 intro g4
 refine y_S rfl <| xN [0,1,4] [4] rfl <| A3 <| A3 <| A0 <| y_M rfl <| y_M rfl ?_
 refine xC2 rfl rfl rfl (a2t xs ys hl hl2) ⟨rfl, rfl, rfl⟩ rfl rfl fun g13 => ?_
 refine a4p rfl <| xN [0,1,4,14] [4] rfl ?_
 refine B4 rfl ?_ ?_ <;> intro hc <;> try simp only [SL] at hc
 ·have hvc : ¬ vc xs ys = true := by simpa using hc
  refine A3 <| A0 <| I4 (fs := [_, _]) rfl rfl rfl rfl rfl <| xB rfl rfl rfl rfl rfl rfl rfl rfl rfl <| y_S rfl <| xN [4,5] [4] rfl <| B1 <| E5 (E8 rfl rfl rfl rfl rfl (a5e rfl rfl (F6 C9))) ?_
  rw [thX, if_neg hvc, Bool.eq_false_iff.2 hvc]
  rfl
 have hvc : vc xs ys = true := by exact hc
 have hv := a8t.1 hvc
 obtain ⟨hl3, h7, hx, hy, hw⟩ := hv
 have hsl := a4f (xs := xs) (ys := ys) h7
 have hsp := a4x (ys := ys) hw
 have hsm : ∀ i, i < (sortQ (slA xs ys)).length → Sm 24 ((sortQ (slA xs ys)).getD i default) := fun i hi => a4c (a0m hx hy _) _ (P5 hi)
 have hsq := Q5 (slA xs ys)
 have hd1 := a5a (n := (sortQ (slA xs ys)).length) (by omega)
 have hd2 := b4g (sortQ (slA xs ys)).length
 refine B7 <| A3 <| A0 ?_
 refine xC1 rfl rfl (Z9 0) ⟨rfl, rfl, rfl⟩ rfl rfl fun g16 => ?_
 refine D7 (es := List.map qV [0]) rfl rfl (dT rfl) rfl rfl (fun _ => F0 (B6 fun _ => rfl)) (fun _ => rfl) ?_
 intro g17
 (refine xO rfl rfl (by simp) rfl (fun _ => rfl) (fun _ => rfl) ?_; intro g6)
 refine xN [0,1,4,6] [4,6] rfl <| A3 <| A3 <| A0 <| y_M rfl <| C6 rfl rfl <| y_M rfl <| xN [0,1,4,6,19,20] [4,6] rfl <| B5 <| G2 (β := Nat × List Rat × Nat) [(.t 0, _), (.t 1, _), (.t 4, _), (.t 19, _), (.h 4, _)] (fun (z : Nat × List Rat × Nat) => match z with | (i, vs, g) => [(.t 20, iV i), (.t 6, .sl 6 g none 0 vs.length), (.h 6, .obj g 0 2 (vs.map qV))]) (fun (z : Nat × List Rat × Nat) => match z with | (i, vs, g) => i ≤ xs.length ∧ vs = [0] ++ (List.range i).flatMap (th1 xs ys) ∧ vs.length ≤ 1 + 49 * i) (fun (z : Nat × List Rat × Nat) => match z with | (i, vs, g) => xs.length - i) (0, [0], _) ⟨rfl, rfl, rfl, rfl, rfl, rfl, rfl, rfl, trivial⟩ ⟨Nat.zero_le _, rfl, by decide⟩ ?_
 intro z hb
 obtain ⟨i, vs, g⟩ := z
 try dsimp only at hb
 obtain ⟨hi1, hvs, hvl⟩ := hb
 refine A3 <| A0 <| H7 rfl rfl <| xN [0,1,4,6,19,20,21] [4,6] rfl <| A3 ?_
 refine B4 rfl ?_ ?_ <;> intro hc <;> try simp only [SL] at hc
 ·have hdi := F4 hx (by decide) i
  have hdi2 := F4 hy (by decide) i
  refine B7 <| A3 <| B5 <| A3 <| A0 <| y_M rfl <| y_S rfl <| xN [0,1,4,6,7,19,20] [4,6] rfl <| A3 <| A0 <| y_M rfl <| C6 rfl rfl <| y_M rfl <| xN [0,1,4,6,7,19,20,24,25] [4,6] rfl <| B5 <| G2 (β := Nat × List Rat × Nat) [(.t 0, _), (.t 1, _), (.t 4, _), (.t 7, _), (.t 19, _), (.t 20, _), (.t 24, _), (.h 4, _)] (fun (z : Nat × List Rat × Nat) => match z with | (k, ws, g) => [(.t 25, iV k), (.t 6, .sl 6 g none 0 ws.length), (.h 6, .obj g 0 2 (ws.map qV))]) (fun (z : Nat × List Rat × Nat) => match z with | (k, ws, g) => k ≤ xs.length ∧ ws = vs ++ (List.range k).flatMap (th2 xs ys i) ∧ ws.length ≤ vs.length + 7 * k) (fun (z : Nat × List Rat × Nat) => match z with | (k, ws, g) => xs.length - k) (0, vs, _) ⟨rfl, rfl, rfl, rfl, rfl, rfl, rfl, rfl, rfl, rfl, rfl, trivial⟩ ⟨Nat.zero_le _, (List.append_nil _).symm, Nat.le_refl _⟩ ?_
  intro z hb
  obtain ⟨k, ws, g⟩ := z
  try dsimp only at hb
  obtain ⟨hk1, hws, hwl⟩ := hb
  refine A3 <| A0 <| H7 rfl rfl <| xN [0,1,4,6,7,19,20,24,25,26] [4,6] rfl <| A3 ?_
  refine B4 rfl ?_ ?_ <;> intro hc <;> try simp only [SL] at hc
  ·have hdk := F4 hx (by decide) k
   have hdk2 := F4 hy (by decide) k
   refine B7 <| A3 <| B5 <| A3 <| A0 <| y_M rfl <| y_S rfl <| xN [0,1,4,6,7,8,19,20,24,25] [4,6] rfl <| A3 <| A3 <| A0 <| y_M rfl <| y_M rfl <| A5 rfl rfl rfl (fun _ => rfl) (by omega) <| y_I rfl <| y_M rfl <| y_M rfl <| A5 rfl rfl rfl (fun _ => rfl) (by omega) <| y_I rfl <| a8p rfl rfl ?_
   refine F3 ⟨fun _ => ⟨by decide +kernel, by decide +kernel⟩, [(.t 0, _), (.t 1, _), (.t 4, _), (.t 6, _), (.t 7, _), (.t 8, _), (.t 19, _), (.t 20, _), (.t 24, _), (.t 25, _), (.t 36, _), (.h 4, _), (.h 6, _)], ⟨rfl, rfl, rfl, rfl, rfl, rfl, rfl, rfl, rfl, rfl, rfl, rfl, rfl, rfl, rfl, rfl, rfl, rfl, rfl, rfl, rfl, rfl, rfl, rfl, rfl, rfl, trivial⟩, ?_⟩
   refine B4 rfl ?_ ?_ <;> intro hc <;> try simp only [SL] at hc
   ·refine A3 <| A0 <| y_M rfl <| y_M rfl <| y_M rfl <| A5 rfl rfl rfl (fun _ => rfl) (by omega) <| y_I rfl <| y_M rfl <| y_M rfl <| A5 rfl rfl rfl (fun _ => rfl) (by omega) <| y_I rfl <| a0w rfl rfl (B0 (by omega)) ?_
    refine xC1 rfl rfl ((by have h := Z9 ((ys.getD i default) - (ys.getD k default)); rw [Rat.intCast_sub] at h; exact h)) ⟨rfl, rfl, rfl⟩ rfl rfl fun g47 => ?_
    refine xC1 rfl rfl (c6b (xQ ys i - xQ ys k) (((P3 hy i).sub (P3 hy k)).mono (by decide))) ⟨rfl, rfl, rfl⟩ rfl rfl fun g48 => ?_
    refine xC1 rfl rfl (b8k (St.absQ (xQ ys i - xQ ys k)) ((a7m ((P3 hy i).sub (P3 hy k))).mono (by decide))) ⟨rfl, rfl, rfl⟩ rfl rfl fun g49 => ?_
    refine D7 (es := List.map qV [St.absQ (xQ ys i - xQ ys k) * (1 / 2)]) rfl rfl (dT rfl) rfl rfl (fun _ => F0 (B6 fun _ => rfl)) (fun _ => rfl) ?_
    intro g50
    refine xA rfl rfl rfl rfl (by simp) (by simp) rfl rfl rfl rfl rfl (fun _ => rfl) (by simp only [LN]; omega) (fun _ => rfl) ?_
    intro g51
    (refine xO rfl rfl (by simp) rfl (fun _ => rfl) (fun _ => rfl) ?_; intro g6)
    refine F3 ⟨fun _ => ⟨by (simp only [Q9, List.nil_append, List.append_nil, List.map_cons, List.map_nil, List.cons_append]; decide +kernel), by decide +kernel⟩, [(.t 0, _), (.t 1, _), (.t 4, _), (.t 6, _), (.t 7, _), (.t 19, _), (.t 20, _), (.t 24, _), (.t 25, _), (.h 4, _), (.h 6, _)], ⟨rfl, rfl, rfl, rfl, rfl, rfl, rfl, rfl, rfl, rfl, rfl, rfl, rfl, rfl, rfl, rfl, rfl, rfl, rfl, rfl, rfl, rfl, trivial⟩, ?_⟩
    refine G1 <| A0 <| G4 rfl rfl (B0 (by omega)) <| y_M rfl <| xN [0,1,4,6,7,19,20,24,25] [4,6] rfl ?_
    refine ⟨(k + 1, ws ++ [St.absQ (xQ ys i - xQ ys k) * (1 / 2)], _), ?_, (by simp only; omega), ⟨rfl, rfl, rfl, rfl, rfl, rfl, rfl, rfl, rfl, rfl, rfl, trivial⟩⟩
    exact ⟨by omega, by rw [W7, ← List.append_assoc, ← hws, th2, if_pos (by assumption)], by rw [List.length_append]; simp only [List.length_singleton]; omega⟩
   have hne : xs.getD i default ≠ xs.getD k default := by omega
   refine B7 <| A3 <| A0 <| y_M rfl <| C6 rfl rfl <| y_M rfl <| xN [0,1,4,6,7,8,19,20,24,25,53,54] [4,6] rfl <| B5 <| G2 (β := Nat × List Rat × Nat) [(.t 0, _), (.t 1, _), (.t 4, _), (.t 7, _), (.t 8, _), (.t 19, _), (.t 20, _), (.t 24, _), (.t 25, _), (.t 53, _), (.h 4, _)] (fun (z : Nat × List Rat × Nat) => match z with | (j, us, g) => [(.t 54, iV j), (.t 6, .sl 6 g none 0 us.length), (.h 6, .obj g 0 2 (us.map qV))]) (fun (z : Nat × List Rat × Nat) => match z with | (j, us, g) => j ≤ xs.length ∧ us = ws ++ (List.range j).flatMap (th3 xs ys i k) ∧ us.length ≤ ws.length + j) (fun (z : Nat × List Rat × Nat) => match z with | (j, us, g) => xs.length - j) (0, ws, _) ⟨rfl, rfl, rfl, rfl, rfl, rfl, rfl, rfl, rfl, rfl, rfl, rfl, rfl, rfl, trivial⟩ ⟨Nat.zero_le _, (List.append_nil _).symm, Nat.le_refl _⟩ ?_
   intro z hb
   obtain ⟨j, us, g⟩ := z
   try dsimp only at hb
   obtain ⟨hj1, hus, hul⟩ := hb
   refine A3 <| A0 <| H7 rfl rfl <| xN [0,1,4,6,7,8,19,20,24,25,53,54,55] [4,6] rfl <| A3 ?_
   refine B4 rfl ?_ ?_ <;> intro hc <;> try simp only [SL] at hc
   ·have hdj := F4 hx (by decide) j
    have hdj2 := F4 hy (by decide) j
    refine B7 <| A3 <| B5 <| A3 <| A0 <| y_M rfl <| y_S rfl <| xN [0,1,4,6,7,8,9,19,20,24,25,53,54] [4,6] rfl <| A3 <| A0 <| y_M rfl <| y_M rfl <| a4q rfl rfl <| y_M rfl ?_
    refine E4 rfl rfl ?_ ?_ <;> intro hg0 <;> have hg := hg0 <;> try simp only [SG] at hg
    ·refine y_M rfl <| gT rfl rfl <| y_M rfl <| gT rfl rfl <| a4q rfl rfl <| H8 rfl (by assumption) rfl rfl <| y_M rfl ?_
     refine E4 rfl rfl ?_ ?_ <;> intro hg0 <;> have hg := hg0 <;> try simp only [SG] at hg
     ·refine y_M rfl <| gT rfl rfl <| y_M rfl <| gT rfl rfl <| A5 rfl rfl rfl (fun _ => rfl) (by omega) <| gT rfl rfl <| y_I rfl <| gT rfl rfl <| y_M rfl <| gT rfl rfl <| y_M rfl <| gT rfl rfl <| A5 rfl rfl rfl (fun _ => rfl) (by omega) <| gT rfl rfl <| y_I rfl <| gT rfl rfl <| y_M rfl <| gT rfl rfl <| y_M rfl <| gT rfl rfl <| A5 rfl rfl rfl (fun _ => rfl) (by omega) <| gT rfl rfl <| y_I rfl <| gT rfl rfl <| c1g rfl rfl <| gT rfl rfl <| y_M rfl <| gT rfl rfl <| y_M rfl <| gT rfl rfl <| A5 rfl rfl rfl (fun _ => rfl) (by omega) <| gT rfl rfl <| y_I rfl <| gT rfl rfl <| y_M rfl <| gT rfl rfl <| y_M rfl <| gT rfl rfl <| A5 rfl rfl rfl (fun _ => rfl) (by omega) <| gT rfl rfl <| y_I rfl <| gT rfl rfl <| a2s rfl rfl <| gT rfl rfl ?_
      refine xC3 rfl rfl rfl rfl (c8j _ _ _) ⟨rfl, rfl, rfl⟩ rfl rfl fun g88 => ?_
      refine H8 rfl (by assumption) rfl rfl ?_
      refine F3 ⟨fun _ => ⟨by (simp only [Q9, List.nil_append, List.append_nil, List.map_cons, List.map_nil, List.cons_append]; decide +kernel), by decide +kernel⟩, [(.t 0, _), (.t 1, _), (.t 4, _), (.t 6, _), (.t 7, _), (.t 8, _), (.t 9, _), (.t 19, _), (.t 20, _), (.t 24, _), (.t 25, _), (.t 53, _), (.t 54, _), (.t 89, _), (.h 4, _), (.h 6, _)], ⟨rfl, rfl, rfl, rfl, rfl, rfl, rfl, rfl, rfl, rfl, rfl, rfl, rfl, rfl, rfl, rfl, rfl, rfl, rfl, rfl, rfl, rfl, rfl, rfl, rfl, rfl, rfl, rfl, rfl, rfl, rfl, rfl, trivial⟩, ?_⟩
      refine B4 rfl ?_ ?_ <;> intro hc <;> try simp only [SL] at hc
      ·refine A3 <| A0 <| y_M rfl <| y_M rfl <| A5 rfl rfl rfl (fun _ => rfl) (by omega) <| y_I rfl ?_
       refine xC1 rfl rfl (Z9 (ys.getD i default)) ⟨rfl, rfl, rfl⟩ rfl rfl fun g94 => ?_
       refine y_M rfl <| y_M rfl <| y_M rfl <| y_M rfl ?_
       apply xC rfl
       ·apply A6
        ·exact C0 rfl
        apply A6
        ·exact C0 rfl
        apply A6
        ·exact C0 rfl
        apply A6
        ·exact C0 rfl
        exact E7
       ·exact c0d xs ys hl3 h7 hx hy i k (by omega) (by omega) hne
       refine ⟨⟨rfl, rfl, rfl, dT rfl, rfl⟩, .inl rfl, C7, D3 rfl, fun _ => rfl, fun g99 => ?_⟩
       refine y_M rfl <| y_M rfl <| A5 rfl rfl rfl (fun _ => rfl) (by omega) <| y_I rfl <| y_M rfl <| y_M rfl <| A5 rfl rfl rfl (fun _ => rfl) (by omega) <| y_I rfl <| a0w rfl rfl (B0 (by omega)) ?_
       refine xC1 rfl rfl ((by have h := Z9 ((xs.getD j default) - (xs.getD i default)); rw [Rat.intCast_sub] at h; exact h)) ⟨rfl, rfl, rfl⟩ rfl rfl fun g109 => ?_
       refine xC2 rfl rfl rfl (a9c (slq xs ys i k) (xQ xs j - xQ xs i) ((b2p hx hy hne).mono (by decide)) (((P3 hx j).sub (P3 hx i)).mono (by decide))) ⟨rfl, rfl, rfl⟩ rfl rfl fun g110 => ?_
       refine xC2 rfl rfl rfl (a7q (xQ ys i) (slq xs ys i k * (xQ xs j - xQ xs i)) ((P3 hy i).mono (by decide)) (((b2p hx hy hne).mul ((P3 hx j).sub (P3 hx i))).mono (by decide))) ⟨rfl, rfl, rfl⟩ rfl rfl fun g111 => ?_
       refine y_A rfl (fun _ => rfl) ?_
       intro g10
       refine xB rfl rfl rfl rfl rfl rfl rfl rfl rfl ?_
       refine F3 ⟨fun _ => ⟨by (simp only [Q9, List.nil_append, List.append_nil, List.map_cons, List.map_nil, List.cons_append]; decide +kernel), by decide +kernel⟩, [(.t 0, _), (.t 1, _), (.t 4, _), (.t 6, _), (.t 7, _), (.t 8, _), (.t 9, _), (.t 10, _), (.t 19, _), (.t 20, _), (.t 24, _), (.t 25, _), (.t 53, _), (.t 54, _), (.h 4, _), (.h 6, _), (.h 10, _)], ⟨rfl, rfl, rfl, rfl, rfl, rfl, rfl, rfl, rfl, rfl, rfl, rfl, rfl, rfl, rfl, rfl, rfl, rfl, rfl, rfl, rfl, rfl, rfl, rfl, rfl, rfl, rfl, rfl, rfl, rfl, rfl, rfl, rfl, rfl, trivial⟩, ?_⟩
       refine A0 <| y_M rfl <| y_M rfl <| y_M rfl <| A5 rfl rfl rfl (fun _ => rfl) (by omega) <| y_I rfl ?_
       refine xC1 rfl rfl (Z9 (ys.getD j default)) ⟨rfl, rfl, rfl⟩ rfl rfl fun g117 => ?_
       refine y_B rfl ?_
       refine xC2 rfl rfl rfl (Z0 (xQ ys j) (atQ xs ys i k j) ((P3 hy j).mono (by decide)) ((a7t hx hy hne j).mono (by decide))) ⟨rfl, rfl, rfl⟩ rfl rfl fun g119 => ?_
       refine xC1 rfl rfl (c6b (xQ ys j - atQ xs ys i k j) (((P3 hy j).sub (a7t hx hy hne j)).mono (by decide))) ⟨rfl, rfl, rfl⟩ rfl rfl fun g120 => ?_
       refine xC1 rfl rfl (b8k (St.absQ (xQ ys j - atQ xs ys i k j)) ((a7m ((P3 hy j).sub (a7t hx hy hne j))).mono (by decide))) ⟨rfl, rfl, rfl⟩ rfl rfl fun g121 => ?_
       refine D7 (es := List.map qV [dvQ xs ys i k j]) rfl rfl (dT rfl) rfl rfl (fun _ => F0 (B6 fun _ => rfl)) (fun _ => rfl) ?_
       intro g122
       refine xA rfl rfl rfl rfl (by simp) (by simp) rfl rfl rfl rfl rfl (fun _ => rfl) (by simp only [LN]; omega) (fun _ => rfl) ?_
       intro g123
       (refine xO rfl rfl (by simp) rfl (fun _ => rfl) (fun _ => rfl) ?_; intro g6)
       refine F3 ⟨fun _ => ⟨by (simp only [Q9, List.nil_append, List.append_nil, List.map_cons, List.map_nil, List.cons_append]; decide +kernel), by decide +kernel⟩, [(.t 0, _), (.t 1, _), (.t 4, _), (.t 6, _), (.t 7, _), (.t 8, _), (.t 19, _), (.t 20, _), (.t 24, _), (.t 25, _), (.t 53, _), (.t 54, _), (.h 4, _), (.h 6, _)], ⟨rfl, rfl, rfl, rfl, rfl, rfl, rfl, rfl, rfl, rfl, rfl, rfl, rfl, rfl, rfl, rfl, rfl, rfl, rfl, rfl, rfl, rfl, rfl, rfl, rfl, rfl, rfl, rfl, trivial⟩, ?_⟩
       refine A0 <| G4 rfl rfl (B0 (by omega)) <| y_M rfl <| xN [0,1,4,6,7,8,19,20,24,25,53,54] [4,6] rfl ?_
       refine ⟨(j + 1, us ++ [dvQ xs ys i k j], _), ?_, (by simp only; omega), ⟨rfl, rfl, rfl, rfl, rfl, rfl, rfl, rfl, rfl, rfl, rfl, rfl, rfl, rfl, trivial⟩⟩
       exact ⟨by omega, by rw [W7, ← List.append_assoc, ← hus, th3, if_pos (by simp_all [btw]; omega)], by rw [List.length_append]; simp only [List.length_singleton]; omega⟩
      refine B7 <| A0 <| G4 rfl rfl (B0 (by omega)) <| y_M rfl <| xN [0,1,4,6,7,8,19,20,24,25,53,54] [4,6] rfl ?_
      refine ⟨(j + 1, us, _), ?_, (by simp only; omega), ⟨rfl, rfl, rfl, rfl, rfl, rfl, rfl, rfl, rfl, rfl, rfl, rfl, rfl, rfl, trivial⟩⟩
      exact ⟨by omega, by rw [W7, ← List.append_assoc, ← hus, th3, if_neg (by simp_all [btw]; omega), List.append_nil], by omega⟩
     iterate 22 refine gF rfl rfl ?_
     refine F7 rfl (by assumption) rfl rfl ?_
     refine F3 ⟨fun _ => ⟨by decide +kernel, by decide +kernel⟩, [(.t 0, _), (.t 1, _), (.t 4, _), (.t 6, _), (.t 7, _), (.t 8, _), (.t 9, _), (.t 19, _), (.t 20, _), (.t 24, _), (.t 25, _), (.t 53, _), (.t 54, _), (.t 89, _), (.h 4, _), (.h 6, _)], ⟨rfl, rfl, rfl, rfl, rfl, rfl, rfl, rfl, rfl, rfl, rfl, rfl, rfl, rfl, rfl, rfl, rfl, rfl, rfl, rfl, rfl, rfl, rfl, rfl, rfl, rfl, rfl, rfl, rfl, rfl, rfl, rfl, trivial⟩, ?_⟩
     refine B4 rfl (fun hc => absurd hc (by decide)) (fun hc => ?_)
     refine B7 <| A0 <| G4 rfl rfl (B0 (by omega)) <| y_M rfl <| xN [0,1,4,6,7,8,19,20,24,25,53,54] [4,6] rfl ?_
     refine ⟨(j + 1, us, _), ?_, (by simp only; omega), ⟨rfl, rfl, rfl, rfl, rfl, rfl, rfl, rfl, rfl, rfl, rfl, rfl, rfl, rfl, trivial⟩⟩
     exact ⟨by omega, by rw [W7, ← List.append_assoc, ← hus, th3, if_neg (by simp_all [btw]; omega), List.append_nil], by omega⟩
    refine gF rfl rfl <| gF rfl rfl <| F7 rfl (by assumption) rfl rfl <| y_M rfl ?_
    iterate 23 refine K4 rfl rfl rfl ?_
    refine F7 rfl rfl rfl rfl ?_
    refine F3 ⟨fun _ => ⟨by decide +kernel, by decide +kernel⟩, [(.t 0, _), (.t 1, _), (.t 4, _), (.t 6, _), (.t 7, _), (.t 8, _), (.t 9, _), (.t 19, _), (.t 20, _), (.t 24, _), (.t 25, _), (.t 53, _), (.t 54, _), (.t 89, _), (.h 4, _), (.h 6, _)], ⟨rfl, rfl, rfl, rfl, rfl, rfl, rfl, rfl, rfl, rfl, rfl, rfl, rfl, rfl, rfl, rfl, rfl, rfl, rfl, rfl, rfl, rfl, rfl, rfl, rfl, rfl, rfl, rfl, rfl, rfl, rfl, rfl, trivial⟩, ?_⟩
    refine B4 rfl (fun hc => absurd hc (by decide)) (fun hc => ?_)
    refine B7 <| A0 <| G4 rfl rfl (B0 (by omega)) <| y_M rfl <| xN [0,1,4,6,7,8,19,20,24,25,53,54] [4,6] rfl ?_
    refine ⟨(j + 1, us, _), ?_, (by simp only; omega), ⟨rfl, rfl, rfl, rfl, rfl, rfl, rfl, rfl, rfl, rfl, rfl, rfl, rfl, rfl, trivial⟩⟩
    exact ⟨by omega, by rw [W7, ← List.append_assoc, ← hus, th3, if_neg (by simp_all [btw]; omega), List.append_nil], by omega⟩
   refine G1 <| A0 <| G4 rfl rfl (B0 (by omega)) <| y_M rfl <| xN [0,1,4,6,7,19,20,24,25] [4,6] rfl ?_
   refine ⟨(k + 1, us, _), ?_, (by simp only; omega), ⟨rfl, rfl, rfl, rfl, rfl, rfl, rfl, rfl, rfl, rfl, rfl, trivial⟩⟩
   exact ⟨by omega, by rw [W7, ← List.append_assoc, ← hws, th2, if_neg hne, hus, show j = xs.length by omega], by omega⟩
  refine G1 <| A0 <| G4 rfl rfl (B0 (by omega)) <| y_M rfl <| xN [0,1,4,6,19,20] [4,6] rfl ?_
  refine ⟨(i + 1, ws, _), ?_, (by simp only; omega), ⟨rfl, rfl, rfl, rfl, rfl, rfl, rfl, rfl, trivial⟩⟩
  exact ⟨by omega, by rw [W7, ← List.append_assoc, ← hvs, hws, show k = xs.length by omega]; rfl, by omega⟩
 refine G1 <| A3 <| A0 <| y_M rfl ?_
 have hva : vs = thA xs ys := by rw [hvs, show i = xs.length by omega]; rfl
 subst hva
 have hll := c7a (ys := ys) h7
 apply xC rfl
 ·apply A6
  ·exact G6 rfl rfl rfl (by (simp; done)) (fun _ => rfl)
  apply A6
  ·exact a3k rfl a3d
  exact E7
 ·exact c5a (thA xs ys) ⟨by unfold thA; rw [List.length_append]; simp, by omega⟩ (fun q h => (c9r hx hy q h).mono (by decide))
 refine ⟨⟨rfl, rfl, rfl, dT rfl, rfl⟩, .inr ⟨rfl, rfl⟩, C7, D3 rfl, fun _ => rfl, fun g128 => ?_⟩
 refine xB rfl rfl rfl rfl rfl rfl rfl rfl rfl <| y_S rfl <| xN [4,5] [4] rfl <| B1 <| E5 (E8 rfl rfl rfl rfl rfl (a5e rfl rfl (F6 C9))) ?_
 rw [thX, if_pos hvc, hvc]
 rfl

theorem a1a : C1 Try.f4 = [0, 2, 13, 4, 3, 6, 8, 7, 5, 42, 9, 10, 22, 28, 54] := by kernel_rfl
theorem a5d (bs : List Int) (hbs : a4o bs) : CW cxT 4 [.list (bs.map uV)] = some (bV true, []) := by
 refine B8 rfl Try.func4 rfl ⟨by kernel_rfl, rfl, dT rfl, dT rfl, by decide⟩ a1a <| A3 <| A0 <| y_S rfl <| xN [0] [] rfl <| A3 <| A3 <| A0 <| y_M rfl <| C6 rfl rfl <| c1h rfl rfl <| xN [0,13] [] rfl ?_
 refine B4 rfl ?_ ?_ <;> intro hc <;> try simp only [SL] at hc
 ·refine A3 <| A0 <| y_S rfl <| xN [2] [] rfl <| B1 <| C8 rfl rfl trivial ?_
  rfl
 refine B7 <| A3 <| A0 ?_
 have hl2 : bs.length ≤ 1048576 := by omega
 refine y_M rfl ?_
 obtain ⟨_, _, ⟨xs, ys, rfl, rfl, hx8, hy9⟩, hC1⟩ := a3a bs hbs hl2
 have hl : xs.length ≤ 1048576 := by omega
 have hly : ys.length ≤ 1048576 := by omega
 have hrl := c6u (xs := xs) (ys := ys)
 apply xC rfl
 ·apply A6
  ·exact C0 rfl
  exact E7
 ·exact hC1
 refine ⟨⟨rfl, rfl, rfl, dT rfl, rfl⟩, .inl rfl, C7, b1u (b2i fun _ => b2i fun _ => c5o), fun _ => rfl, fun g16 => ?_⟩
 refine y_M rfl <| y_E rfl <| y_E rfl ?_
 (refine xO rfl rfl (by simp) rfl (fun _ => rfl) (fun _ => rfl) ?_; intro g3)
 (refine xO rfl rfl (by simp) rfl (fun _ => rfl) (fun _ => rfl) ?_; intro g4)
 refine xN [3,4] [3,4] rfl <| A3 <| A0 <| y_M rfl <| y_M rfl ?_
 apply xC rfl
 ·apply A6
  ·exact G6 rfl rfl rfl (by (simp; done)) (fun _ => rfl)
  apply A6
  ·exact G6 rfl rfl rfl (by (simp; done)) (fun _ => rfl)
  exact E7
 ·exact c5w xs ys hl hly
 refine ⟨⟨rfl, rfl, rfl, dT rfl, rfl⟩, .inr ⟨rfl, rfl⟩, C7, a4g rfl, fun _ => rfl, fun g22 => ?_⟩
 refine y_M rfl <| y_E rfl <| y_E rfl <| y_A rfl (fun _ => rfl) ?_
 intro g5
 refine xB rfl rfl rfl rfl rfl rfl rfl rfl rfl <| y_S rfl <| xN [3,4,5,6] [3,4,5] rfl <| A3 <| A0 <| y_M rfl <| y_M rfl ?_
 apply xC rfl
 ·apply A6
  ·exact G6 rfl rfl rfl (by (simp; done)) (fun _ => rfl)
  apply A6
  ·exact G6 rfl rfl rfl (by (simp; done)) (fun _ => rfl)
  exact E7
 ·exact c5u xs ys hl hly
 refine ⟨⟨rfl, rfl, rfl, dT rfl, rfl⟩, .inr ⟨rfl, rfl⟩, C7, a4g rfl, fun _ => rfl, fun g28 => ?_⟩
 refine y_M rfl <| y_E rfl <| y_E rfl <| y_A rfl (fun _ => rfl) ?_
 intro g7
 refine xB rfl rfl rfl rfl rfl rfl rfl rfl rfl <| y_S rfl <| xN [3,4,5,6,7,8] [3,4,5,7] rfl <| A3 <| A3 <| A0 <| y_B rfl <| y_B rfl <| c9i rfl rfl (by kernel_rfl) rfl ?_
 simp only [beq_self_eq_true, Bool.and_self, Bool.not_true]
 refine y_M rfl <| S2 rfl rfl rfl <| y_M rfl <| S2 rfl rfl rfl <| y_M rfl <| S2 rfl rfl rfl <| c8u rfl rfl rfl ?_
 simp only [beq_self_eq_true, Bool.not_true]
 refine F7 rfl rfl rfl rfl <| y_M rfl <| S2 rfl rfl rfl <| y_M rfl <| S2 rfl rfl rfl <| a4p rfl <| F7 rfl rfl rfl rfl <| xN [3,4,5,6,7,8,42] [3,4,5,7] rfl ?_
 refine B4 rfl ?_ ?_ <;> intro hc <;> try simp only [SL] at hc
 ·refine A3 <| A0 <| y_B rfl <| y_B rfl <| c7v rfl rfl (by kernel_rfl) rfl <| y_M rfl ?_
  refine E4 rfl rfl ?_ ?_ <;> intro hg0 <;> have hg := hg0 <;> try simp only [SG] at hg
  ·refine y_M rfl <| gT rfl rfl <| y_M rfl <| gT rfl rfl <| c9e rfl rfl rfl <| H8 rfl (by assumption) rfl rfl <| y_S rfl <| xN [2] [] rfl <| B1 <| C8 rfl rfl trivial ?_
   (simp; done)
  refine gF rfl rfl <| gF rfl rfl <| F7 rfl (by assumption) rfl rfl <| y_S rfl <| xN [2] [] rfl <| B1 <| C8 rfl rfl trivial ?_
  (simp_all; done)
 have hvc : vc xs ys = true := by simp_all
 have hv := a8t.1 hvc
 have hyb : ∀ i, i < ys.length → -1000000 ≤ ys.getD i default ∧ ys.getD i default ≤ 1000000 := fun i hi => by have := F4 hv.2.2.2.1 (by decide) i; omega
 have hTX : thX xs ys = stX xs ys := by rw [thX, stX, if_pos hvc, if_pos hvc, (b1t (ys := ys) hv.2.2.2.2).1]
 have hw1 := a5m hv.2.2.2.2
 refine B7 <| A3 <| A0 <| y_M rfl <| y_M rfl ?_
 apply xC rfl
 ·apply A6
  ·exact G6 rfl rfl rfl (by (simp; done)) (fun _ => rfl)
  apply A6
  ·exact G6 rfl rfl rfl (by (simp; done)) (fun _ => rfl)
  exact E7
 ·exact c3g xs ys hl hly
 refine ⟨⟨rfl, rfl, rfl, dT rfl, rfl⟩, .inr ⟨rfl, rfl⟩, C7, a4g rfl, fun _ => rfl, fun g54 => ?_⟩
 rw [hTX]
 refine y_M rfl <| y_E rfl <| y_E rfl <| y_A rfl (fun _ => rfl) ?_
 intro g9
 refine xB rfl rfl rfl rfl rfl rfl rfl rfl rfl <| y_S rfl <| xN [4,5,9,10] [4,5,9] rfl <| A3 <| A0 <| y_M rfl <| y_M rfl ?_
 refine E4 rfl rfl ?_ ?_ <;> intro hg0 <;> have hg := hg0 <;> try simp only [SG] at hg
 ·refine y_B rfl <| gT rfl rfl <| y_B rfl <| gT rfl rfl <| c7v rfl rfl (by kernel_rfl) rfl <| H8 rfl (by assumption) rfl rfl <| y_M rfl ?_
  refine E4 rfl rfl ?_ ?_ <;> intro hg0 <;> have hg := hg0 <;> try simp only [SG] at hg
  ·refine y_M rfl <| gT rfl rfl ?_
   obtain ⟨_, _, ⟨m1, rfl, rfl, hm1, hm2⟩, hC2⟩ := a8o ys ⟨by omega, by omega⟩
   have hb1 : -12 ≤ m1 ∧ m1 ≤ 12 := by obtain ⟨j, hj, rfl⟩ := L4 hm1; exact F4 hv.2.2.2.1 (by decide) j
   apply xC rfl
   ·apply A6
    ·exact G6 rfl rfl rfl (by (simp; done)) (fun _ => rfl)
    exact E7
   ·exact hC2
   refine ⟨⟨rfl, rfl, rfl, dT rfl, rfl⟩, .inr ⟨rfl, rfl⟩, C7, D3 rfl, fun _ => rfl, fun g65 => ?_⟩
   refine gT rfl rfl <| y_M rfl <| gT rfl rfl ?_
   apply xC rfl
   ·apply A6
    ·exact G6 rfl rfl rfl (by (simp; done)) (fun _ => rfl)
    exact E7
   ·exact c2u ys (by omega) hyb
   refine ⟨⟨rfl, rfl, rfl, dT rfl, rfl⟩, .inr ⟨b0v fun _ => rfl, rfl⟩, C7, a3q, fun _ => rfl, fun g67 => ?_⟩
   refine gT rfl rfl ?_
   obtain ⟨_, _, ⟨m2, rfl, rfl, hn1, hn2⟩, hC3⟩ := a8o (ngI ys) ⟨by simp; omega, by simp; omega⟩
   have hb2 : -12 ≤ m2 ∧ m2 ≤ 12 := by obtain ⟨j, hj, rfl⟩ := L4 hn1; rw [c5v]; have := F4 hv.2.2.2.1 (by decide) j; omega
   apply xC rfl
   ·apply A6
    ·exact G6 rfl rfl rfl (by (simp; done)) (fun _ => rfl)
    exact E7
   ·exact hC3
   refine ⟨⟨rfl, rfl, rfl, dT rfl, rfl⟩, .inr ⟨rfl, rfl⟩, C7, D3 rfl, fun _ => rfl, fun g68 => ?_⟩
   refine gT rfl rfl <| G4 rfl rfl (B0 (by omega)) <| gT rfl rfl ?_
   refine xC2 rfl rfl rfl (c7j (m1 + m2) 2 (by omega) (by omega) (by omega)) ⟨rfl, rfl, rfl⟩ rfl rfl fun g70 => ?_
   refine gT rfl rfl <| y_B rfl <| gT rfl rfl ?_
   rw [show a5s (stX xs ys) = qV (stP xs ys) from congrArg a5s (if_pos hvc)]
   refine xC2 rfl rfl rfl (c6j (Rat.divInt (m1 + m2) 2) (stP xs ys) ((c6n (a := 24) (by omega) (by decide)).mono (by decide)) ((c8i hv.2.2.1 hv.2.2.2.1 hv.2.2.2.2).mono (by decide))) ⟨rfl, rfl, rfl⟩ rfl rfl fun g72 => ?_
   rw [decide_eq_false (Rat.not_lt.2 (b9x hv.1 hv.2.2.2.2 hm1 hm2 hn1 hn2))]
   refine gT rfl rfl <| a4p rfl <| H8 rfl (by assumption) rfl rfl <| y_S rfl ?_
   refine F3 ⟨fun _ => ⟨by (simp only [Q9, List.nil_append, List.append_nil, List.map_cons, List.map_nil, List.cons_append]; decide +kernel), by decide +kernel⟩, [(.t 2, _)], ⟨rfl, rfl, trivial⟩, ?_⟩
   refine B1 <| C8 rfl rfl trivial ?_
   rfl
  iterate 9 refine gF rfl rfl ?_
  refine F7 rfl (by assumption) rfl rfl <| y_S rfl ?_
  refine F3 ⟨fun _ => ⟨by decide +kernel, by decide +kernel⟩, [(.t 2, _)], ⟨rfl, rfl, trivial⟩, ?_⟩
  refine B1 <| C8 rfl rfl trivial ?_
  (simp_all; done)
 refine gF rfl rfl <| gF rfl rfl <| F7 rfl (by assumption) rfl rfl <| y_M rfl ?_
 iterate 10 refine K4 rfl rfl rfl ?_
 refine F7 rfl rfl rfl rfl <| y_S rfl ?_
 refine F3 ⟨fun _ => ⟨by decide +kernel, by decide +kernel⟩, [(.t 2, _)], ⟨rfl, rfl, trivial⟩, ?_⟩
 refine B1 <| C8 rfl rfl trivial ?_
 (simp_all; done)
end Go.Proofs.Ytfiobkibbebeiaa
