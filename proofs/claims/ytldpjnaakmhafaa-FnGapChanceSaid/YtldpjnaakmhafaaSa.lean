/- What each function of the program gives on the abstract machine, part 1 of 1. Conditions: those in front of each theorem. -/
import Derived.Test.YtldpjnaakmhafaaMd
import Derived.Test.YtldpjnaakmhafaaChecked
import Derived.KernelRfl

set_option linter.unusedVariables false
set_option linter.unusedSimpArgs false
namespace Go.Proofs.Ytldpjnaakmhafaa
open Go Go.Mv Go.Proofs
set_option maxRecDepth 100000
set_option maxHeartbeats 20000000

theorem SD : (∀ {p : Prop} [Decidable p], (decide p = true) = p) ∧ (∀ {p : Prop} {_ : Decidable p}, decide p = false ↔ ¬p) ∧ (∀ (b : Bool), ((!b) = true) = (b = false)) ∧ (∀ (b : Bool), ((!b) = false) = (b = true)) ∧ (∀ {α : Type} [BEq α] [LawfulBEq α] {a b : α}, (a != b) = true ↔ a ≠ b) ∧
    (∀ {α : Type} [BEq α] [LawfulBEq α] {a b : α}, (a == b) = true ↔ a = b) ∧ (∀ {α : Type} (a b : α), (a ≠ b) = ¬a = b) ∧ (!true) = false ∧ (!false) = true ∧ (∀ {α : Type} [BEq α] [LawfulBEq α] {a b : α}, (a == b) = false ↔ a ≠ b) ∧ (∀ {α : Type} [BEq α] [LawfulBEq α] {a b : α}, (a != b) = false ↔ a = b) ∧
    (∀ {p : Prop} [Decidable p], ¬¬p ↔ p) ∧ (∀ {a b : Int}, ¬a < b ↔ b ≤ a) ∧ (∀ {a b : Int}, ¬a ≤ b ↔ b < a) :=
  ⟨@decide_eq_true_eq, @decide_eq_false_iff_not, @Bool.not_eq_true', @Bool.not_eq_false', @bne_iff_ne, @beq_iff_eq, @ne_eq, @Bool.not_true, @Bool.not_false, @beq_eq_false_iff_ne, @bne_eq_false_iff_eq, @Decidable.not_not, @Int.not_lt, @Int.not_le⟩
theorem SG : ((∀ {p : Prop} [Decidable p], (decide p = true) = p) ∧ (∀ {p : Prop} {_ : Decidable p}, decide p = false ↔ ¬p) ∧ (∀ (b : Bool), ((!b) = true) = (b = false)) ∧ (∀ (b : Bool), ((!b) = false) = (b = true)) ∧ (∀ {α : Type} [BEq α] [LawfulBEq α] {a b : α}, (a != b) = true ↔ a ≠ b) ∧
    (∀ {α : Type} [BEq α] [LawfulBEq α] {a b : α}, (a == b) = true ↔ a = b) ∧ (∀ {α : Type} (a b : α), (a ≠ b) = ¬a = b) ∧ (!true) = false ∧ (!false) = true ∧ (∀ {α : Type} [BEq α] [LawfulBEq α] {a b : α}, (a == b) = false ↔ a ≠ b) ∧ (∀ {α : Type} [BEq α] [LawfulBEq α] {a b : α}, (a != b) = false ↔ a = b) ∧
    (∀ {p : Prop} [Decidable p], ¬¬p ↔ p) ∧ (∀ {a b : Int}, ¬a < b ↔ b ≤ a) ∧ (∀ {a b : Int}, ¬a ≤ b ↔ b < a)) ∧
    (∀ (a b : Bool), ((a && b) = true) = (a = true ∧ b = true)) ∧ (∀ {x y : Bool}, (x && y) = false ↔ x = false ∨ y = false) ∧ (∀ (a b : Bool), ((a || b) = true) = (a = true ∨ b = true)) ∧ (∀ {x y : Bool}, (x || y) = false ↔ x = false ∧ y = false) :=
  ⟨SD, @Bool.and_eq_true, @Bool.and_eq_false_iff, @Bool.or_eq_true, @Bool.or_eq_false_iff⟩
def c0z (keep : List Nat) (A : Asr) : List Mv.Loc → Asr → Option Asr
  | l :: ls, B => match keepLoc keep l, Mv.look A l with
    | true, some a => c0z keep A ls ((l, a) :: B)
    | _, _ => none
  | [], B => some B
theorem b9g {keep : List Nat} {A : Asr} : ∀ (ls : List Mv.Loc) {B C : Asr}, KeepL keep A B → c0z keep A ls B = some C → KeepL keep A C
  | [], B, C, h, e => by simp only [c0z, Option.some.injEq] at e; rw [← e]; exact h
  | l :: ls, B, C, h, e => by
    simp only [c0z] at e
    split at e
    · exact b9g ls (show KeepL keep A ((l, _) :: B) from ⟨by assumption, by assumption, h⟩) e
    · cases e
theorem kS (ts hs : List Nat) {keep : List Nat} {A B : Asr} (h : c0z keep A (ts.map .t ++ hs.map .h) [] = some B) : KeepL keep A B := b9g _ (show KeepL keep A [] from trivial) h
section
variable {cx : Cx} {keep : List Nat} {ops0 : Array Oper} {r : List Oper} {A : Asr} {Q : Asr → List Log → Prop}
variable {d ty : Nat} {pos : String} {aft : Array Edge}
theorem gT {op : Op} {dst : Option Nat} {g dg : Nat} {want b : Bool} (hd : (ops0[g]?).bind (·.dst) = some dg) (hb : Mv.look A (.t dg) = some (.val (.bool b)))
    (h : XR cx keep ops0 (⟨dst, op, ty, pos, aft, none⟩ :: r) A fun A' lg => Q A' (b9h (.t dg) lg)) (hw : b = want := by assumption) : XR cx keep ops0 (⟨dst, op, ty, pos, aft, some (g, want)⟩ :: r) A Q := S0 hd hb hw h
theorem gF {op : Op} {g dg : Nat} {want b : Bool} (hd : (ops0[g]?).bind (·.dst) = some dg) (hb : Mv.look A (.t dg) = some (.val (.bool b)))
    (h : XR cx keep ops0 r ((.t d, .val (.tuple #[])) :: A) fun A' lg => Q A' (([.t dg], [.t d]) :: lg)) (hw : b = !want := by assumption) : XR cx keep ops0 (⟨some d, op, ty, pos, aft, some (g, want)⟩ :: r) A Q := A8 hd hb hw h
theorem xN {B : Asr} {p : Asr → List Log → Prop} {R : Asr → Prop} (ts hs : List Nat) (h : c0z keep A (ts.map .t ++ hs.map .h) [] = some B) (q : R B) :
    XR cx keep ops0 [] A (fun A' lg => (false = true → p A' lg) ∧ ∃ B, KeepL keep A' B ∧ R B) := P4 ⟨nofun, B, kS ts hs h, q⟩
theorem xC {G : Type} {k : Nat} {args : Array Operand} {Ts : Array Nat} {vs av : List AV} {ids : List (Nat × Bool)} {wp wb : Ws} {lp lb li : List Mv.Loc} {res : AV} {outs : List (List AV)} {v : G → AV} {wi : G → Ws}
    (hv : opds A args.toList = some vs) (hp : a2a (CW cx) A (cx.md k) 0 vs av ids wp lp) (hC : CW cx k av = some (res, outs))
    (hr : (apartIds ids = true ∧ J6 ((T8 (cx.md k) 0 vs).map (·.1)) = true ∧ J6 ((cidAll (cx.md k) 0 av).map (·.1)) = true ∧ av.length ≤ 1000 ∧ W4 av = true) ∧
      (ids.all (fun x => x.2) = true ∨ (hasList res = false ∧ outs.any C8 = false)) ∧
      b8c (CW cx) (puts A wp) (T8 (cx.md k) 0 vs) outs wb lb ∧ a0y (CW cx) (puts (puts A wp) wb) d res v wi li ∧
      (∀ g, tRefsOk keep (keptWs keep (wp ++ (wb ++ (wi g ++ [(.t d, v g)])))) = true) ∧
      ∀ g, XR cx keep ops0 r (a0z A (wp ++ (wb ++ (wi g ++ [(.t d, v g)])))) fun A' lg => Q A' ((a0p args.toList ++ (lp ++ (lb ++ li)), a4r (wp ++ (wb ++ (wi g ++ [(.t d, v g)])))) :: lg)) :
    XR cx keep ops0 (⟨some d, .call ⟨.value (.func k), args, Ts⟩, ty, pos, aft, none⟩ :: r) A Q :=
  a5g hv hp hC hr.1 hr.2.1 hr.2.2.1 hr.2.2.2.1 hr.2.2.2.2.1 hr.2.2.2.2.2
theorem xC1 {k : Nat} {Ts : Array Nat} {x1 : Operand} {v1 res : AV} (hx : opds A [x1] = some [v1]) (p1 : O9 v1 = true) (hC : CW cx k [v1] = some (res, []))
    (hb : T8 (cx.md k) 0 [v1] = [] ∧ J6 ((cidAll (cx.md k) 0 [v1]).map (·.1)) = true ∧ W4 [v1] = true) (hi : I1 res = true) (hk : tRefsOk keep (keptWs keep [(.t d, res)]) = true)
    (h : ∀ _ : Unit, XR cx keep ops0 r (a0z A [(.t d, res)]) fun A' lg => Q A' ((a0p [x1], [.t d]) :: lg)) : XR cx keep ops0 (⟨some d, .call ⟨.value (.func k), #[x1], Ts⟩, ty, pos, aft, none⟩ :: r) A Q :=
  a5g hx (A6 (B0 p1) E6) hC ⟨rfl, by rw [hb.1]; rfl, hb.2.1, by simp, hb.2.2⟩ (.inl rfl) (by rw [hb.1]; exact C6) (D5 hi) (fun _ => hk) (fun g => by have := h g; simpa [a4r] using this)
theorem xC2 {k : Nat} {Ts : Array Nat} {x1 x2 : Operand} {v1 v2 res : AV} (hx : opds A [x1, x2] = some [v1, v2]) (p1 : O9 v1 = true) (p2 : O9 v2 = true) (hC : CW cx k [v1, v2] = some (res, []))
    (hb : T8 (cx.md k) 0 [v1, v2] = [] ∧ J6 ((cidAll (cx.md k) 0 [v1, v2]).map (·.1)) = true ∧ W4 [v1, v2] = true) (hi : I1 res = true) (hk : tRefsOk keep (keptWs keep [(.t d, res)]) = true)
    (h : ∀ _ : Unit, XR cx keep ops0 r (a0z A [(.t d, res)]) fun A' lg => Q A' ((a0p [x1, x2], [.t d]) :: lg)) : XR cx keep ops0 (⟨some d, .call ⟨.value (.func k), #[x1, x2], Ts⟩, ty, pos, aft, none⟩ :: r) A Q :=
  a5g hx (A6 (B0 p1) (A6 (B0 p2) E6)) hC ⟨rfl, by rw [hb.1]; rfl, hb.2.1, by simp, hb.2.2⟩ (.inl rfl) (by rw [hb.1]; exact C6) (D5 hi) (fun _ => hk) (fun g => by have := h g; simpa [a4r] using this)
theorem xC3 {k : Nat} {Ts : Array Nat} {x1 x2 x3 : Operand} {v1 v2 v3 res : AV} (hx : opds A [x1, x2, x3] = some [v1, v2, v3]) (p1 : O9 v1 = true) (p2 : O9 v2 = true) (p3 : O9 v3 = true) (hC : CW cx k [v1, v2, v3] = some (res, []))
    (hb : T8 (cx.md k) 0 [v1, v2, v3] = [] ∧ J6 ((cidAll (cx.md k) 0 [v1, v2, v3]).map (·.1)) = true ∧ W4 [v1, v2, v3] = true) (hi : I1 res = true) (hk : tRefsOk keep (keptWs keep [(.t d, res)]) = true)
    (h : ∀ _ : Unit, XR cx keep ops0 r (a0z A [(.t d, res)]) fun A' lg => Q A' ((a0p [x1, x2, x3], [.t d]) :: lg)) : XR cx keep ops0 (⟨some d, .call ⟨.value (.func k), #[x1, x2, x3], Ts⟩, ty, pos, aft, none⟩ :: r) A Q :=
  a5g hx (A6 (B0 p1) (A6 (B0 p2) (A6 (B0 p3) E6))) hC ⟨rfl, by rw [hb.1]; rfl, hb.2.1, by simp, hb.2.2⟩ (.inl rfl) (by rw [hb.1]; exact C6) (D5 hi) (fun _ => hk) (fun g => by have := h g; simpa [a4r] using this)
theorem xO {α : Type} {f : α → AV} {xs : List α} {x : Operand} {id g s n : Nat} (hx : opd A x = some (.sl id g none 0 n)) (ho : Mv.look A (.h id) = some (.obj g 0 s (xs.map f))) (hn : n = (xs.map f).length) (hne : Loc.beq (.h d) (.h id) = false) (hf : ∀ a, K1 (f a) = true)
    (hk : ∀ g, slotOk keep (.t d) (.sl d g none 0 n) = true) (h : ∀ g', XR cx keep ops0 r ((.t d, .sl d g' none 0 n) :: (.h d, .obj g' 0 s (xs.map f)) :: (.h id, .dead g) :: A) fun A' lg => Q A' ((rds x ++ [.h id, .h d], [.h id, .h d, .t d]) :: lg)) :
    XR cx keep ops0 (⟨some d, .assign x, ty, pos, aft, none⟩ :: r) A Q := b2f hx ho hn hne (fun _ => E7 (B8 hf)) hk h
theorem xB {T id g m s : Nat} {a x : Operand} {e v : AV} (ha : opd A a = some (.ptr id g none 0 0)) (hx : opd A x = some v) (ho : Mv.look A (.h id) = some (.obj g m s [e])) (hl : a4o (leaves e) v = true)
    (hc : decide (m ≠ 2 ∧ (leaves v).length = (tyS cx.P T).size ∧ 0 < (leaves v).length ∧ (leaves v).length ≤ (leaves e).length) = true) (hw : Q5 (leaves v) (leaves e) = true) (hp : putAt e 0 v = v) (hm : decide (m = 3) = true) (hi : H9 [v] = true)
    (h : XR cx keep ops0 r ((.h id, .obj g m s [v]) :: A) fun A' lg => Q A' ((rds a ++ (rds x ++ [.h id, .h id, .h id]), [.h id]) :: lg)) : XR cx keep ops0 (⟨none, .store T a x, ty, pos, aft, none⟩ :: r) A Q := by
  obtain ⟨h1, h2, h3, h4⟩ := of_decide_eq_true hc
  exact Z4 ha hx ho hl ⟨h1, h2, h3, h4, hw⟩ hp (by rw [of_decide_eq_true hm]; exact L4 hi) h
theorem xA {α : Type} {f : α → AV} {xs ys : List α} {T T' E s id g n id2 g2 n2 : Nat} {x y : Operand} {z : AV} (hx : opd A x = some (.sl id g none 0 n)) (hy : opd A y = some (.sl id2 g2 none 0 n2)) (ho : Mv.look A (.h id) = some (.obj g 0 s (xs.map f))) (ho2 : Mv.look A (.h id2) = some (.obj g2 0 s (ys.map f)))
    (hn : n = (xs.map f).length) (hn2 : n2 = (ys.map f).length) (hd : (decide (1000000 ≤ id2) && !Loc.beq (.h id) (.h id2)) = true) (hT : U6 cx.P T = some (E, s)) (hT' : K7 (tyS cx.P T').k = true) (hz : a1s cx.P E = some (z, s)) (hb : decide ((tyS cx.P E).bytes ≤ 4096) = true) (hf : ∀ a, ((leaves (f a)).all cellLeaf && K1 (f a)) = true)
    (hle : xs.length + ys.length ≤ 4294967296) (hk : ∀ g, slotOk keep (.t d) (.sl (tid d 0) g none 0 (xs ++ ys).length) = true)
    (h : ∀ g', XR cx keep ops0 r ((.t d, .sl (tid d 0) g' none 0 (xs ++ ys).length) :: (.h (tid d 0), .obj g' 0 s ((xs ++ ys).map f)) :: (.h id, .dead g) :: (.h id2, .dead g2) :: A) fun A' lg => Q A' ((rds x ++ (rds y ++ [.h id2, .h id, .h (tid d 0)]), [.h id2, .h id, .h (tid d 0), .t d]) :: lg)) :
    XR cx keep ops0 (⟨some d, .call ⟨.builtin .append, #[x, y], #[T, T']⟩, ty, pos, aft, none⟩ :: r) A Q := by
  simp only [Bool.and_eq_true, decide_eq_true_eq, Bool.not_eq_true'] at hd hf
  exact b2p hx hy ho ho2 hn hn2 hd.1 hd.2 hT hT' hz (of_decide_eq_true hb) hf (Nat.le_trans hle (by decide)) hk h
theorem y_M {x : Operand} {v : AV} (e : (opd A x, slotOk keep (.t d) v) = (some v, true)) (h : XR cx keep ops0 r ((.t d, v) :: A) fun A' lg => Q A' ((rds x, [.t d]) :: lg)) : XR cx keep ops0 (⟨some d, .move x, ty, pos, aft, none⟩ :: r) A Q := by
  simp only [Prod.mk.injEq] at e
  exact c7m e.1 e.2 h
theorem y_S {x : Operand} {v : AV} (e : (opd A x, Y8 v, slotOk keep (.t d) v) = (some v, true, true)) (h : XR cx keep ops0 r ((.t d, v) :: A) fun A' lg => Q A' ((rds x, [.t d]) :: lg)) : XR cx keep ops0 (⟨some d, .assign x, ty, pos, aft, none⟩ :: r) A Q := by
  simp only [Prod.mk.injEq] at e
  exact c2v e.1 e.2.1 e.2.2 h
theorem y_F {x : Operand} {S f o ft : Nat} {v v' : AV} (e : (opd A x, (match (tyS cx.P S).k with | .struct fs => fs[f]? | _ => none), decide ((tyS cx.P ft).size ≠ 0), (match v with | .ptr id g p i j => some (AV.ptr id g p i (j + o)) | .ipt e j => some (.ipt e (j + o)) | _ => none), slotOk keep (.t d) v') = (some v, some (o, ft), true, some v', true)) (h : XR cx keep ops0 r ((.t d, v') :: A) fun A' lg => Q A' ((rds x, [.t d]) :: lg)) : XR cx keep ops0 (⟨some d, .fieldAddr S x f, ty, pos, aft, none⟩ :: r) A Q := by
  simp only [Prod.mk.injEq] at e
  refine b6b e.1 e.2.1 (of_decide_eq_true e.2.2.1) ?_ e.2.2.2.2 h
  have e4 := e.2.2.2.1
  cases v <;> exact e4
theorem y_L {a : Operand} {T id g m s i j : Nat} {es : List AV} {e0 v : AV} (e : (opd A a, Mv.look A (.h id), es[i]?, ((leaves e0).all fun l => !isOwn l), partF cx.P T ((leaves e0).drop j), slotOk keep (.t d) v) = (some (.ptr id g none i j), some (.obj g m s es), some e0, true, some v, true)) (h : XR cx keep ops0 r ((.t d, v) :: A) fun A' lg => Q A' ((rds a ++ [.h id], [.t d]) :: lg)) : XR cx keep ops0 (⟨some d, .load T a, ty, pos, aft, none⟩ :: r) A Q := by
  simp only [Prod.mk.injEq] at e
  exact W9 e.1 e.2.1 e.2.2.1 e.2.2.2.1 e.2.2.2.2.1 e.2.2.2.2.2 h
theorem y_E {x : Operand} {i : Nat} {vs : List AV} {v : AV} (e : (opd A x, vs[i]?, slotOk keep (.t d) v) = (some (.tup vs), some v, true)) (h : XR cx keep ops0 r ((.t d, v) :: A) fun A' lg => Q A' ((rds x, [.t d]) :: lg)) : XR cx keep ops0 (⟨some d, .extract x i, ty, pos, aft, none⟩ :: r) A Q := by
  simp only [Prod.mk.injEq] at e
  exact c0f e.1 e.2.1 e.2.2 h
theorem y_B {a : Operand} {T id g m s : Nat} {v : AV} (e : (opd A a, Mv.look A (.h id), ((leaves v).all fun l => !isOwn l), partF cx.P T (leaves v), slotOk keep (.t d) v) = (some (.ptr id g none 0 0), some (.obj g m s [v]), true, some v, true)) (h : XR cx keep ops0 r ((.t d, v) :: A) fun A' lg => Q A' ((rds a ++ [.h id], [.t d]) :: lg)) : XR cx keep ops0 (⟨some d, .load T a, ty, pos, aft, none⟩ :: r) A Q := by
  simp only [Prod.mk.injEq] at e
  exact b6i e.1 e.2.1 e.2.2.1 e.2.2.2.1 e.2.2.2.2 h
theorem y_I {a : Operand} {T : Nat} {v : AV} (e : (opd A a, partF cx.P T (leaves v), slotOk keep (.t d) v) = (some (.ipt v 0), some v, true)) (h : XR cx keep ops0 r ((.t d, v) :: A) fun A' lg => Q A' ((rds a, [.t d]) :: lg)) : XR cx keep ops0 (⟨some d, .load T a, ty, pos, aft, none⟩ :: r) A Q := by
  simp only [Prod.mk.injEq] at e
  exact b5v e.1 e.2.1 e.2.2 h
theorem y_A {T s : Nat} {z : AV} (e : (a1s cx.P T, H9 [z], slotOk keep (.t d) (.ptr d 0 none 0 0)) = (some (z, s), true, true)) (hk : ∀ g, slotOk keep (.t d) (.ptr d g none 0 0) = true)
    (h : ∀ g, XR cx keep ops0 r ((.t d, .ptr d g none 0 0) :: (.h d, .obj g 3 s [z]) :: A) fun A' lg => Q A' (([.h d], [.h d, .t d]) :: lg)) : XR cx keep ops0 (⟨some d, .alloc T, ty, pos, aft, none⟩ :: r) A Q := by
  simp only [Prod.mk.injEq] at e
  exact c6g e.1 (fun _ => L4 e.2.1) hk h
end
theorem SL : (∀ {α β : Type} {av : List α} (f : α → β), (av.map f).length = av.length) ∧ (((∀ {p : Prop} [Decidable p], (decide p = true) = p) ∧ (∀ {p : Prop} {_ : Decidable p}, decide p = false ↔ ¬p) ∧ (∀ (b : Bool), ((!b) = true) = (b = false)) ∧ (∀ (b : Bool), ((!b) = false) = (b = true)) ∧ (∀ {α : Type} [BEq α] [LawfulBEq α] {a b : α}, (a != b) = true ↔ a ≠ b) ∧
    (∀ {α : Type} [BEq α] [LawfulBEq α] {a b : α}, (a == b) = true ↔ a = b) ∧ (∀ {α : Type} (a b : α), (a ≠ b) = ¬a = b) ∧ (!true) = false ∧ (!false) = true ∧ (∀ {α : Type} [BEq α] [LawfulBEq α] {a b : α}, (a == b) = false ↔ a ≠ b) ∧ (∀ {α : Type} [BEq α] [LawfulBEq α] {a b : α}, (a != b) = false ↔ a = b) ∧
    (∀ {p : Prop} [Decidable p], ¬¬p ↔ p) ∧ (∀ {a b : Int}, ¬a < b ↔ b ≤ a) ∧ (∀ {a b : Int}, ¬a ≤ b ↔ b < a)) ∧
    (∀ (a b : Bool), ((a && b) = true) = (a = true ∧ b = true)) ∧ (∀ {x y : Bool}, (x && y) = false ↔ x = false ∨ y = false) ∧ (∀ (a b : Bool), ((a || b) = true) = (a = true ∨ b = true)) ∧ (∀ {x y : Bool}, (x || y) = false ↔ x = false ∧ y = false)) := ⟨@List.length_map.{0, 0}, SG⟩
theorem LN : (∀ {α : Type}, ([] : List α).length = 0) ∧ (∀ {α : Type} {a : α} {l : List α}, (a :: l).length = l.length + 1) ∧ (∀ {α : Type} {a b : List α}, (a ++ b).length = a.length + b.length) ∧ (∀ n : Nat, 0 + n = n) ∧ (∀ {α β : Type} {l : List α} (f : α → β), (l.map f).length = l.length) := ⟨rfl, rfl, List.length_append, Nat.zero_add, List.length_map.{0, 0}⟩
theorem dT {p : Prop} [Decidable p] (h : decide p = true) : p := of_decide_eq_true h

def mdT : List (Nat × List Nat) := [(21, [0, 0, 1]), (22, [1]), (25, [3, 3, 3, 3]), (26, [3, 3, 3, 3]), (27, [3, 3, 3, 3]), (28, [3, 3, 3, 3]), (34, [2]), (35, [2]), (37, [3, 3, 3, 3]), (41, [1])]
noncomputable def c8h : List (Nat × (List AV → Option (AV × List (List AV)))) := [(35, a7d), (40, a3f), (41, a6y)]
noncomputable def cxT : Cx := { P := Try.prog, md := c8p mdT, ext := b9p c8h, it := fun _ => none, fzB := fun T d => [(50, 57), (50, 26)].contains (T, d) }
noncomputable def cxE : Cx := { P := Try.prog, md := c8p mdT, ext := fun _ => none }
theorem c7s (n : Int) (h : 1 ≤ n ∧ n ≤ 1000) : CW cxT 35 [.nil, iV n] = some (.own 1 (([] : List Int).map iV), []) := b7l cxT rfl (by simp [a7d, h])
theorem c6e (xs : List Int) (hl : xs.length ≤ M1) : CW cxT 40 [.list (xs.map iV)] = some (.own 1 (xs.map iV), []) := b7l cxT rfl (by simp [a3f, b9q, hl])
theorem c8e (xs : List Int) (hl : xs.length ≤ M1) : CW cxT 41 [.own 1 (xs.map iV)] = some (.tup [], [(sortI xs).map iV]) := b7l cxT rfl (by simp [a6y, b9q, hl])

theorem a8l : E5 Try.f38 = [0, 1, 2, 6] := by kernel_rfl
theorem c0v (n lo hi : Int) : CW cxT 38 [iV n, iV lo, iV hi] = some (bV (decide (lo ≤ n) && decide (n ≤ hi)), []) := by
 refine F0 rfl Try.func38 rfl ⟨by kernel_rfl, rfl, dT rfl, dT rfl, by decide⟩ a8l <| A3 <| A0 <| y_S rfl <| xN [0,1,2] [] rfl <| A3 <| A0 <| y_M rfl <| y_M rfl <| Z3 rfl rfl <| y_M rfl ?_
 refine B2 rfl rfl ?_ ?_ <;> intro hg0 <;> have hg := hg0 <;> try simp only [SG] at hg
 ·refine y_M rfl <| gT rfl rfl <| y_M rfl <| gT rfl rfl <| Z3 rfl rfl <| C7 rfl (by assumption) rfl rfl <| y_S rfl <| xN [6] [] rfl <| B6 <| C1 rfl rfl trivial ?_
  simp_all [ofConst]; try omega
 refine gF rfl rfl <| gF rfl rfl <| B5 rfl (by assumption) rfl rfl <| y_S rfl <| xN [6] [] rfl <| B6 <| C1 rfl rfl trivial ?_
 simp_all [ofConst]; try omega

theorem c0q : E5 Try.f29 = [0, 1, 2, 6] := by kernel_rfl
theorem c7f (n lo hi : Int) : CW cxT 29 [iV n, iV lo, iV hi] = some (bV (decide (lo ≤ n) && decide (n ≤ hi)), []) := by
 refine F0 rfl Try.func29 rfl ⟨by kernel_rfl, rfl, dT rfl, dT rfl, by decide⟩ c0q <| A3 <| A0 <| y_S rfl <| xN [0,1,2] [] rfl <| A3 <| A0 <| y_M rfl <| y_M rfl <| b8z rfl rfl <| y_M rfl ?_
 refine B2 rfl rfl ?_ ?_ <;> intro hg0 <;> have hg := hg0 <;> try simp only [SG] at hg
 ·refine y_M rfl <| gT rfl rfl <| y_M rfl <| gT rfl rfl <| Z3 rfl rfl <| C7 rfl (by assumption) rfl rfl <| y_S rfl <| xN [6] [] rfl <| B6 <| C1 rfl rfl trivial ?_
  simp_all [ofConst]; try omega
 refine gF rfl rfl <| gF rfl rfl <| B5 rfl (by assumption) rfl rfl <| y_S rfl <| xN [6] [] rfl <| B6 <| C1 rfl rfl trivial ?_
 simp_all [ofConst]; try omega

theorem b4c : E5 Try.f26 = [0, 1, 4, 24, 5, 36, 6] := by kernel_rfl
theorem a4m (bs : List Int) (p : Int) (hbs : a2q bs) (hl : bs.length ≤ 1048576) (hp : 0 ≤ p ∧ p ≤ 1000000000) (n : Int) (hn : n ≤ 1000000000) : ∃ res outs, (fun res outs => ∃ k, res = iV k ∧ outs = [[rdr bs (p + 1)]] ∧ (1 ≤ n → 0 ≤ k ∧ k < n) ∧ (n < 1 → k = 0)) res outs ∧ CW cxT 26 [.ownp [rdr bs p] 0 0, iV n] = some (res, outs) := by
 refine L6 rfl Try.func26 rfl ⟨by kernel_rfl, rfl, dT rfl, dT rfl, by decide⟩ b4c <| A3 <| A0 <| y_S rfl <| xN [0,1] [0] rfl <| A3 <| A0 <| y_M rfl <| y_M rfl <| I6 rfl rfl rfl <| y_F rfl <| y_L rfl <| D4 rfl rfl (B1 (by omega)) <| I6 rfl rfl rfl <| y_F rfl <| a6x rfl rfl rfl rfl rfl ⟨by decide, rfl, dT rfl, dT rfl, rfl⟩ (by exact a4t rfl) <| xN [0,1] [0] rfl <| A3 <| A3 <| A0 <| y_M rfl <| I9 rfl rfl <| y_M rfl ?_
 refine B2 rfl rfl ?_ ?_ <;> intro hg0 <;> have hg := hg0 <;> try simp only [SG] at hg
 ·refine y_M rfl <| gT rfl rfl <| I6 rfl rfl rfl <| gT rfl rfl <| y_F rfl <| gT rfl rfl <| y_L rfl <| gT rfl rfl <| B9 rfl rfl <| gT rfl rfl <| M6 rfl rfl <| B5 rfl (by assumption) rfl rfl <| xN [0,1,24] [0] rfl ?_
  refine A9 rfl ?_ ?_ <;> intro hc <;> try simp only [SL] at hc
  ·refine A3 <| A0 <| y_S rfl <| xN [4] [0] rfl <| B6 ?_
   refine ⟨_, _, ?_, X1 rfl rfl (Q1 rfl rfl)⟩
   refine ⟨_, rfl, rfl, fun h => ?_, fun h => ?_⟩
   ·omega
   omega
  refine C0 <| A3 <| A0 <| y_M rfl <| I6 rfl rfl rfl <| y_F rfl <| y_L rfl <| N1 rfl rfl (B1 (by omega)) <| y_S rfl <| xN [0,1,5] [0] rfl <| A3 <| A3 <| A0 <| y_M rfl <| y_M rfl <| I6 rfl rfl rfl <| y_F rfl <| y_L rfl <| B9 rfl rfl <| I9 rfl rfl <| xN [0,1,5,36] [0] rfl ?_
  refine A9 rfl ?_ ?_ <;> intro hc <;> try simp only [SL] at hc
  ·refine A3 <| A0 <| y_M rfl <| I6 rfl rfl rfl <| y_F rfl <| y_L rfl <| y_M rfl <| I2 rfl rfl rfl (fun _ => rfl) (by omega) <| y_I rfl <| b8d rfl rfl rfl (B1 (by have := hbs.getD (p + 1 - 1).toNat; omega)) <| y_M rfl ?_
   have hk := hbs.getD (p + 1 - 1).toNat
   refine b4m rfl rfl (by omega) <| y_S rfl <| xN [4] [0] rfl <| B6 ?_
   refine ⟨_, _, ?_, X1 rfl rfl (Q1 rfl rfl)⟩
   refine ⟨_, rfl, rfl, fun h => ?_, fun h => ?_⟩
   ·exact a3o (by omega) (by omega)
   omega
  refine C0 <| A3 <| A0 <| y_M rfl <| I6 rfl rfl rfl <| y_F rfl <| y_L rfl <| y_M rfl <| y_M rfl <| I6 rfl rfl rfl <| y_F rfl <| y_L rfl <| B9 rfl rfl ?_
  have hlen : 0 < (bs.length : Int) := by omega
  refine b4m rfl rfl (by omega) ?_
  have hm1 := a3o (a := p + 1 - 1) (by omega) hlen
  refine I2 rfl rfl rfl (fun _ => rfl) (by omega) <| y_I rfl <| b8d rfl rfl rfl (B1 (by have := hbs.getD ((p + 1 - 1).tmod bs.length).toNat; omega)) ?_
  have hk := hbs.getD ((p + 1 - 1).tmod bs.length).toNat
  refine W6 rfl rfl (B1 (by omega)) <| y_M rfl <| I6 rfl rfl rfl <| y_F rfl <| y_L rfl <| y_M rfl <| W6 rfl rfl (B1 (by omega)) <| D4 rfl rfl (B1 (by omega)) <| y_M rfl <| I6 rfl rfl rfl <| y_F rfl <| y_L rfl <| B9 rfl rfl <| b4m rfl rfl (by omega) ?_
  have hm2 := a3o (a := (p + 1 - 1) * 7 + 3) (by omega) hlen
  refine I2 rfl rfl rfl (fun _ => rfl) (by omega) <| y_I rfl <| b8d rfl rfl rfl (B1 (by have := hbs.getD (((p + 1 - 1) * 7 + 3).tmod bs.length).toNat; omega)) ?_
  have hk2 := hbs.getD (((p + 1 - 1) * 7 + 3).tmod bs.length).toNat
  refine W6 rfl rfl (B1 (by omega)) <| D4 rfl rfl (B1 (by omega)) <| y_M rfl <| W6 rfl rfl (B1 (by omega)) <| D4 rfl rfl (B1 (by omega)) <| y_M rfl <| y_M rfl <| I6 rfl rfl rfl <| y_F rfl <| y_L rfl <| B9 rfl rfl ?_
  have hd := b9s (a := p + 1 - 1) (b := bs.length) (by omega) (by omega)
  refine b9t rfl rfl ⟨by omega, B1 (by omega)⟩ <| W6 rfl rfl (B1 (by omega)) <| D4 rfl rfl (B1 (by omega)) <| y_S rfl ?_
  refine P4 ⟨fun _ => ⟨by decide +kernel, by decide +kernel⟩, [(.t 1, _), (.t 6, _), (.h 0, _)], ⟨rfl, rfl, rfl, rfl, rfl, rfl, trivial⟩, ?_⟩
  refine A3 <| A0 <| y_M rfl <| y_M rfl ?_
  have hd2 := b9s (a := (bs.getD ((p + 1 - 1).tmod bs.length).toNat default * 131 + bs.getD (((p + 1 - 1) * 7 + 3).tmod bs.length).toNat default * 1117 + (p + 1 - 1) * 29 + (p + 1 - 1).tdiv bs.length * 53)) (b := 64) (by omega) (by decide)
  refine b9t rfl rfl ⟨by omega, B1 (by omega)⟩ ?_
  have hx := c7y (x := (bs.getD ((p + 1 - 1).tmod bs.length).toNat default * 131 + bs.getD (((p + 1 - 1) * 7 + 3).tmod bs.length).toNat default * 1117 + (p + 1 - 1) * 29 + (p + 1 - 1).tdiv bs.length * 53)) (by omega) (y := (bs.getD ((p + 1 - 1).tmod bs.length).toNat default * 131 + bs.getD (((p + 1 - 1) * 7 + 3).tmod bs.length).toNat default * 1117 + (p + 1 - 1) * 29 + (p + 1 - 1).tdiv bs.length * 53).tdiv 64) (by omega)
  refine c8m rfl rfl <| y_S rfl <| xN [1,6] [0] rfl <| A3 <| A0 <| y_M rfl <| y_M rfl <| b4m rfl rfl (by omega) <| y_S rfl <| xN [4] [0] rfl <| B6 ?_
  refine ⟨_, _, ?_, X1 rfl rfl (Q1 rfl rfl)⟩
  refine ⟨_, rfl, rfl, fun h => ?_, fun h => ?_⟩
  ·exact a3o (by omega) (by omega)
  omega
 iterate 5 refine gF rfl rfl ?_
 refine C7 rfl (by assumption) rfl rfl <| xN [0,1,24] [0] rfl ?_
 refine A9 rfl (fun hc => ?_) (fun hc => absurd hc (by decide))
 refine A3 <| A0 <| y_S rfl <| xN [4] [0] rfl <| B6 ?_
 refine ⟨_, _, ?_, X1 rfl rfl (Q1 rfl rfl)⟩
 refine ⟨_, rfl, rfl, fun h => ?_, fun h => ?_⟩
 ·omega
 omega

theorem b7t : E5 Try.f28 = [0, 1, 4] := by kernel_rfl
theorem b4n (bs : List Int) (p : Int) (hbs : a2q bs) (hl : bs.length ≤ 1048576) (hp : 0 ≤ p ∧ p ≤ 1000000000) (xs : List Int) (hx : 1 ≤ xs.length ∧ xs.length ≤ 1000) : ∃ res outs, (fun res outs => ∃ k, res = iV k ∧ outs = [[rdr bs (p + 1)]] ∧ k ∈ xs) res outs ∧ CW cxT 28 [.ownp [rdr bs p] 0 0, L xs] = some (res, outs) := by
 refine L6 rfl Try.func28 rfl ⟨by kernel_rfl, rfl, dT rfl, dT rfl, by decide⟩ b7t <| A3 <| A0 <| y_S rfl <| xN [0,1] [0] rfl <| A3 <| A0 <| y_M rfl <| y_M rfl <| y_M rfl <| B9 rfl rfl ?_
 obtain ⟨_, _, ⟨k, rfl, rfl, hk1, hk2⟩, hC⟩ := a4m bs p hbs hl hp xs.length (by omega)
 have hk1 := hk1 (by omega)
 apply xC rfl
 ·apply A6
  ·exact L7 rfl (by decide) rfl
  apply A6
  ·exact B0 rfl
  exact E6
 ·exact hC
 refine ⟨⟨rfl, rfl, rfl, dT rfl, rfl⟩, .inl rfl, E8 rfl rfl rfl C6, D5 rfl, fun _ => rfl, fun g9 => ?_⟩
 refine I2 rfl rfl rfl (fun _ => rfl) (by omega) <| y_I rfl <| y_S rfl <| xN [4] [0] rfl <| B6 ?_
 refine ⟨_, _, ?_, X1 rfl rfl (Q1 rfl rfl)⟩
 refine ⟨_, rfl, rfl, a3z (by omega)⟩

theorem a5e : E5 Try.f25 = [0, 2, 5] := by kernel_rfl
theorem b3x (bs : List Int) (hl : bs.length ≤ 1048576) : ∃ res outs, (fun res outs => res = .ownp [rdr (bs.take 2000) 0] 0 0 ∧ outs = []) res outs ∧ CW cxT 25 [.list (bs.map uV)] = some (res, outs) := by
 refine L6 rfl Try.func25 rfl ⟨by kernel_rfl, rfl, dT rfl, dT rfl, by decide⟩ a5e <| A3 <| A0 <| y_S rfl <| xN [0] [] rfl <| A3 <| A3 <| A0 <| y_M rfl <| B9 rfl rfl <| J0 rfl rfl <| xN [0,5] [] rfl ?_
 refine A9 rfl ?_ ?_ <;> intro hc <;> try simp only [SL] at hc
 ·refine A0 <| y_M rfl <| b2l rfl rfl rfl (Mv.sized_map fun _ => rfl) (b1u rfl) b5t (by (simp; omega)) <| y_S rfl <| xN [0] [] rfl <| A3 <| A0 <| y_M rfl <| c0a (fs := [_, _]) rfl rfl rfl rfl rfl <| b1f rfl rfl rfl (fun _ => L4 rfl) (fun _ => rfl) ?_
  intro g10
  (refine a0g rfl rfl rfl rfl (fun _ => L4 rfl) (fun _ => rfl) ?_; intro g2)
  refine xN [2] [2] rfl <| B6 ?_
  refine ⟨_, _, ?_, b9d rfl rfl rfl F9⟩
  have e : rdr (bs.take 2000) 0 = .agg [.list ((bs.map uV).take 2000), iV 0] := by unfold rdr; rw [List.map_take]
  rw [e]
  exact ⟨rfl, rfl⟩
 refine C0 <| A3 <| A0 <| y_M rfl <| c0a (fs := [_, _]) rfl rfl rfl rfl rfl <| b1f rfl rfl rfl (fun _ => L4 rfl) (fun _ => rfl) ?_
 intro g10
 (refine a0g rfl rfl rfl rfl (fun _ => L4 rfl) (fun _ => rfl) ?_; intro g2)
 refine xN [2] [2] rfl <| B6 ?_
 refine ⟨_, _, ?_, b9d rfl rfl rfl F9⟩
 have e : bs.take 2000 = bs := List.take_of_length_le (by omega)
 rw [e]
 exact ⟨rfl, rfl⟩

theorem a9g : E5 Try.f33 = [0, 2, 3] := by kernel_rfl
theorem c3a (xs : List Int) (hl : xs.length ≤ M1) : CW cxT 33 [L xs] = some (.own 1 ((sortI xs).map iV), []) := by
 refine F0 rfl Try.func33 rfl ⟨by kernel_rfl, rfl, dT rfl, dT rfl, by decide⟩ a9g <| A3 <| A0 ?_
 (refine G0 rfl rfl (fun _ => rfl) ?_; intro g2)
 refine xN [0] [] rfl <| A3 <| A0 <| y_M rfl ?_
 apply xC rfl
 ·apply A6
  ·exact B0 rfl
  exact E6
 ·exact c6e xs hl
 refine ⟨⟨rfl, rfl, rfl, dT rfl, rfl⟩, .inl rfl, C6, O3, fun _ => rfl, fun g5 => ?_⟩
 (refine xO rfl rfl (by simp) rfl (fun _ => rfl) (fun _ => rfl) ?_; intro g3)
 refine xN [3] [3] rfl <| A3 <| A0 <| y_M rfl ?_
 apply a5g rfl
 ·apply A6
  ·exact b4h rfl rfl (by decide) (by (simp; done)) (a1z fun _ => rfl)
  exact E6
 ·exact c8e _ hl
 ·exact ⟨rfl, rfl, rfl, dT rfl, rfl⟩
 ·exact .inl rfl
 ·exact E8 rfl (by simp) (b6p _ _) C6
 ·exact Y1 rfl
 ·(intro _; exact F4 (E7 (B8 fun _ => rfl)) rfl)
 intro g7
 refine xN [3] [3] rfl <| A3 <| A0 <| y_M rfl ?_
 (refine xO rfl rfl (by simp) rfl (fun _ => rfl) (fun _ => rfl) ?_; intro g2)
 refine xN [2] [2] rfl <| B6 <| a3c rfl rfl (by (simp; done)) (by exact B8 fun _ => rfl) trivial ?_
 rfl

theorem a4f : E5 Try.f46 = [0, 1, 4, 8, 7, 9, 5, 16] := by kernel_rfl
theorem b3c (xs : List Int) (hl : xs.length ≤ 1000) (k : Nat) (a b : AV) (q : Int → Bool) (hq : ∀ x, CW cxT k [iV x, .ipt a 0, .ipt b 0] = some (bV (q x), [])) : ∃ res outs, (fun res outs => ∃ r : Int, res = iV r ∧ outs = [] ∧ decide (0 ≤ r) = xs.any q) res outs ∧ CW cxT 46 [L xs, .clo k [.ipt a 0, .ipt b 0]] = some (res, outs) := by
 refine L6 rfl Try.func46 rfl ⟨by kernel_rfl, rfl, dT rfl, dT rfl, by decide⟩ a4f <| A3 <| A0 <| y_S rfl <| xN [0,1] [] rfl <| A3 <| A3 <| A0 <| y_M rfl <| B9 rfl rfl <| y_M rfl <| xN [0,1,7,8] [] rfl <| C5 <| G5 (β := Nat) [(.t 0, _), (.t 1, _), (.t 7, _)] (fun (i : Nat) => [(.t 8, iV i)]) (fun (i : Nat) => i ≤ xs.length ∧ ∀ j, j < i → q (xs.getD j default) = false) (fun (i : Nat) => xs.length - i) 0 ⟨rfl, rfl, rfl, rfl, trivial⟩ ⟨Nat.zero_le _, fun j h => by omega⟩ ?_
 intro i hb
 obtain ⟨hi1, hi2⟩ := hb
 refine A3 <| A0 <| I9 rfl rfl <| xN [0,1,7,8,9] [] rfl <| A3 ?_
 refine A9 rfl ?_ ?_ <;> intro hc <;> try simp only [SL] at hc
 ·refine C0 <| A3 <| C5 <| A3 <| A0 <| y_M rfl <| y_S rfl <| xN [0,1,5,7,8] [] rfl <| A3 <| A0 <| y_M rfl <| y_M rfl <| y_M rfl <| O2 rfl rfl rfl (fun _ => rfl) (by omega) <| y_I rfl ?_
  apply b8w rfl rfl
  ·apply A6
   ·exact B0 rfl
   apply A6
   ·exact B0 rfl
   apply A6
   ·exact B0 rfl
   exact E6
  ·exact hq (xs.getD i default)
  ·exact ⟨rfl, rfl, rfl, dT rfl, rfl⟩
  ·exact .inl rfl
  ·exact C6
  ·exact D5 rfl
  ·exact fun _ => rfl
  intro g16
  refine xN [0,1,5,7,8,16] [] rfl ?_
  refine A9 rfl ?_ ?_ <;> intro hc <;> try simp only [SL] at hc
  ·refine A3 <| A0 <| y_M rfl <| y_S rfl <| xN [4] [] rfl <| B6 ?_
   refine ⟨_, _, ?_, X1 rfl rfl F9⟩
   exact ⟨_, rfl, rfl, c5r (by omega) hc⟩
  refine C0 <| A0 <| D4 rfl rfl (B1 (by omega)) <| y_M rfl <| xN [0,1,7,8] [] rfl ?_
  refine ⟨i + 1, ⟨by omega, fun a ha => by rcases Nat.lt_succ_iff_lt_or_eq.1 ha with h | h; exact hi2 a h; subst h; exact hc⟩, (by omega), ⟨rfl, rfl, rfl, rfl, trivial⟩⟩
 refine G6 <| A3 <| A0 <| y_S rfl <| xN [4] [] rfl <| B6 ?_
 refine ⟨_, _, ?_, X1 rfl rfl F9⟩
 exact ⟨-1, rfl, rfl, c4h fun j hj => hi2 j (by omega)⟩

theorem a0w : E5 Try.f42 = [0, 1, 4] := by kernel_rfl
theorem a6h (xs : List Int) (hl : xs.length ≤ 1000) (k : Nat) (a b : AV) (q : Int → Bool) (hq : ∀ x, CW cxT k [iV x, .ipt a 0, .ipt b 0] = some (bV (q x), [])) : CW cxT 42 [L xs, .clo k [.ipt a 0, .ipt b 0]] = some (bV (xs.any q), []) := by
 obtain ⟨_, _, ⟨r, rfl, rfl, hr⟩, hC⟩ := b3c xs hl k a b q hq
 refine F0 rfl Try.func42 rfl ⟨by kernel_rfl, rfl, dT rfl, dT rfl, by decide⟩ a0w <| A3 <| A0 <| y_S rfl <| xN [0,1] [] rfl <| A3 <| A0 <| y_M rfl <| y_M rfl ?_
 apply xC rfl
 ·apply A6
  ·exact B0 rfl
  apply A6
  ·exact c4x rfl (c4j (c4j c2r))
  exact E6
 ·exact hC
 refine ⟨⟨rfl, rfl, rfl, dT rfl, rfl⟩, .inl rfl, C6, D5 rfl, fun _ => rfl, fun g7 => ?_⟩
 refine b8z rfl rfl <| y_S rfl <| xN [4] [] rfl <| B6 <| C1 rfl rfl trivial ?_
 rw [← hr]

theorem a9m : E5 Try.f43 = [0, 1, 2, 4] := by kernel_rfl
theorem c3c (x lo hi : Int) : CW cxT 43 [iV x, .ipt (iV lo) 0, .ipt (iV hi) 0] = some (bV (!(decide (lo ≤ x) && decide (x ≤ hi))), []) := by
 refine F0 rfl Try.func43 rfl ⟨by kernel_rfl, rfl, dT rfl, dT rfl, by decide⟩ a9m <| A3 <| A0 <| y_S rfl <| xN [0,1,2] [] rfl <| A3 <| A0 <| y_M rfl <| y_I rfl <| y_I rfl ?_
 refine xC3 rfl rfl rfl rfl (c7f _ _ _) ⟨rfl, rfl, rfl⟩ rfl rfl fun g8 => ?_
 refine a2o rfl <| y_S rfl <| xN [4] [] rfl <| B6 <| C1 rfl rfl trivial ?_
 rfl

theorem b2t : E5 Try.f39 = [0, 1, 2, 6, 4, 5] := by kernel_rfl
theorem c5k (xs : List Int) (hl : xs.length ≤ 1000) (lo hi : Int) : CW cxT 39 [L xs, iV lo, iV hi] = some (bV (a2v lo hi xs), []) := by
 refine F0 rfl Try.func39 rfl ⟨by kernel_rfl, rfl, dT rfl, dT rfl, by decide⟩ b2t <| A3 <| A0 <| b1f rfl rfl rfl (fun _ => L4 rfl) (fun _ => rfl) ?_
 intro g4
 refine b1f rfl rfl rfl (fun _ => L4 rfl) (fun _ => rfl) ?_
 intro g5
 refine y_S rfl <| xN [0,4,5] [4,5] rfl <| A3 <| A0 <| y_M rfl <| a8d rfl rfl ?_
 apply xC rfl
 ·apply A6
  ·exact B0 rfl
  apply A6
  ·exact c4x rfl (c2h rfl rfl (c2h rfl rfl c2r))
  exact E6
 ·exact a6h xs hl 43 (iV lo) (iV hi) _ (fun x => c3c x lo hi)
 refine ⟨⟨rfl, rfl, rfl, dT rfl, rfl⟩, .inr ⟨rfl, rfl⟩, C6, D5 rfl, fun _ => rfl, fun g9 => ?_⟩
 refine a2o rfl <| y_S rfl <| xN [6] [] rfl <| B6 <| C1 rfl rfl trivial ?_
 exact congrArg bV (c1z lo hi xs)

theorem a3q : E5 Try.f32 = [0, 2] := by kernel_rfl
theorem a0b (xs : List Int) (hl : xs.length ≤ 1048576) : CW cxT 32 [L xs] = some (bV (vd xs), []) := by
 refine F0 rfl Try.func32 rfl ⟨by kernel_rfl, rfl, dT rfl, dT rfl, by decide⟩ a3q <| A3 <| A0 <| y_S rfl <| xN [0] [] rfl <| A3 <| A0 <| y_M rfl <| B9 rfl rfl <| Z3 rfl rfl <| y_M rfl ?_
 refine B2 rfl rfl ?_ ?_ <;> intro hg0 <;> have hg := hg0 <;> try simp only [SG] at hg
 ·refine y_M rfl <| gT rfl rfl ?_
  refine xC3 rfl rfl rfl rfl (c5k xs (by omega) (-200) 200) ⟨rfl, rfl, rfl⟩ rfl rfl fun g8 => ?_
  refine C7 rfl (by assumption) rfl rfl <| y_S rfl <| xN [2] [] rfl <| B6 <| C1 rfl rfl trivial ?_
  cases hb : a2v (-200) 200 xs <;> simp_all [vd, ofConst] <;> omega
 refine gF rfl rfl <| B5 rfl (by assumption) rfl rfl <| y_S rfl <| xN [2] [] rfl <| B6 <| C1 rfl rfl trivial ?_
 cases hb : a2v (-200) 200 xs <;> simp_all [vd, ofConst] <;> omega

theorem a4q : E5 Try.f30 = [0, 2, 3, 7, 15] := by kernel_rfl
theorem a0s (xs : List Int) (hl : xs.length ≤ 1048576) : CW cxT 30 [L xs] = some (bV (vd xs), []) := by
 refine F0 rfl Try.func30 rfl ⟨by kernel_rfl, rfl, dT rfl, dT rfl, by decide⟩ a4q <| A3 <| A0 <| y_S rfl <| xN [0] [] rfl <| A3 <| A3 <| A0 <| y_S rfl <| xN [0,3] [] rfl <| C5 <| G5 (β := Nat) [(.t 0, _)] (fun (i : Nat) => [(.t 3, iV i)]) (fun (i : Nat) => i ≤ xs.length ∧ ∀ j, j < i → -200 ≤ xs.getD j default ∧ xs.getD j default ≤ 200) (fun (i : Nat) => xs.length - i) 0 ⟨rfl, rfl, trivial⟩ ⟨Nat.zero_le _, fun j h => by omega⟩ ?_
 intro i hb
 obtain ⟨hi1, hi2⟩ := hb
 refine A3 <| A3 <| A0 <| y_M rfl <| y_M rfl <| B9 rfl rfl <| I9 rfl rfl <| xN [0,3,7] [] rfl ?_
 refine A9 rfl ?_ ?_ <;> intro hc <;> try simp only [SL] at hc
 ·refine C0 <| A3 <| C5 <| A3 <| A0 <| y_M rfl <| y_M rfl <| O2 rfl rfl rfl (fun _ => rfl) (by omega) <| y_I rfl ?_
  refine xC3 rfl rfl rfl rfl (c0v _ _ _) ⟨rfl, rfl, rfl⟩ rfl rfl fun g14 => ?_
  refine a2o rfl <| xN [0,3,15] [] rfl ?_
  refine A9 rfl ?_ ?_ <;> intro hc <;> try simp only [SL] at hc
  ·refine A3 <| A0 <| y_S rfl <| xN [2] [] rfl <| B6 <| C1 rfl rfl trivial ?_
   rw [vd, c3x (show i < xs.length by omega) (by (simp_all; omega)), Bool.and_false]
   rfl
  refine C0 <| A0 <| y_M rfl <| D4 rfl rfl (B1 (by omega)) <| y_S rfl <| xN [0,3] [] rfl ?_
  refine ⟨i + 1, ⟨by omega, fun j hj => by rcases Nat.lt_succ_iff_lt_or_eq.1 hj with h | h; (· exact hi2 j h); (· subst h; assumption)⟩, (by omega), ⟨rfl, rfl, trivial⟩⟩
 refine G6 <| A3 <| A0 <| y_M rfl <| B9 rfl rfl <| Z3 rfl rfl <| y_S rfl <| xN [2] [] rfl <| B6 <| C1 rfl rfl trivial ?_
 rw [vd, c5i fun j hj => hi2 j (by omega), Bool.and_true]
 exact congrArg bV (decide_eq_decide.2 (by omega))

theorem b3d : E5 Try.f23 = [0, 1, 2, 3, 8, 9] := by kernel_rfl
theorem a6z (i k m n : Nat) (hi : i ≤ 100) (hk : k ≤ 100) (hm : m ≤ 100) (hn : n ≤ 100) : CW cxT 23 [nV i, nV k, nV m, nV n] = some (nV (Gp.ap m n i k), []) := by
 have h1 : i * n ≤ 100 * 100 := Nat.mul_le_mul hi hn
 have h2 : k * m ≤ 100 * 100 := Nat.mul_le_mul hk hm
 have e1 : (i : Int) * (n : Int) = ((i * n : Nat) : Int) := by rw [Int.natCast_mul]
 have e2 : (k : Int) * (m : Int) = ((k * m : Nat) : Int) := by rw [Int.natCast_mul]
 refine F0 rfl Try.func23 rfl ⟨by kernel_rfl, rfl, dT rfl, dT rfl, by decide⟩ b3d <| A3 <| A0 <| y_S rfl <| xN [0,1,2,3] [] rfl <| A3 <| A0 <| y_M rfl <| y_M rfl <| W6 rfl rfl (B1 (by omega)) <| y_M rfl <| y_M rfl <| W6 rfl rfl (B1 (by omega)) <| N1 rfl rfl (B1 (by omega)) <| y_S rfl <| xN [9] [] rfl <| A3 <| A0 <| y_M rfl <| y_M rfl <| c3t rfl (B1 (by omega)) <| b9a rfl rfl <| y_S rfl <| xN [8] [] rfl <| B6 <| C1 rfl rfl trivial <| congrArg iV ?_
 unfold Gp.ap
 omega

theorem a9j : E5 Try.f36 = [0, 1, 4, 10, 9, 11, 8, 7, 16, 5] := by kernel_rfl
theorem b5u (l : List Int) (hl : l.length ≤ 1048576) (x : Int) : CW cxT 36 [L l, iV x] = some (nV (cl l x), []) := by
 refine F0 rfl Try.func36 rfl ⟨by kernel_rfl, rfl, dT rfl, dT rfl, by decide⟩ a9j <| A3 <| A0 <| y_S rfl <| xN [0,1] [] rfl <| A3 <| A0 <| y_S rfl <| xN [0,1,5] [] rfl <| A3 <| A3 <| A0 <| y_M rfl <| B9 rfl rfl <| y_M rfl <| xN [1,5,8,9,10] [] rfl <| C5 <| G5 (β := Nat × Nat) [(.t 1, _), (.t 8, _), (.t 9, _)] (fun (z : Nat × Nat) => match z with | (i, c) => [(.t 10, iV i), (.t 5, nV c)]) (fun (z : Nat × Nat) => match z with | (i, c) => i ≤ l.length ∧ c = cl (l.take i) x) (fun (z : Nat × Nat) => match z with | (i, c) => l.length - i) (0, 0) ⟨rfl, rfl, rfl, rfl, rfl, trivial⟩ ⟨Nat.zero_le _, rfl⟩ ?_
 intro z hb
 obtain ⟨i, c⟩ := z
 try dsimp only at hb
 obtain ⟨hi1, hc0⟩ := hb
 have hcl := X4 (l.take i) x
 rw [List.length_take, ← hc0] at hcl
 refine A3 <| A0 <| I9 rfl rfl <| xN [1,5,8,9,10,11] [] rfl <| A3 ?_
 refine A9 rfl ?_ ?_ <;> intro hc <;> try simp only [SL] at hc
 ·refine C0 <| A3 <| C5 <| A3 <| A0 <| O2 rfl rfl rfl (fun _ => rfl) (by omega) <| y_I rfl <| y_S rfl <| xN [1,5,7,8,9,10] [] rfl <| A3 <| A0 <| y_M rfl <| y_M rfl <| Z3 rfl rfl <| xN [1,5,8,9,10,16] [] rfl ?_
  refine A9 rfl ?_ ?_ <;> intro hc <;> try simp only [SL] at hc
  ·refine A0 <| y_M rfl <| D4 rfl rfl (B1 (by omega)) <| y_S rfl <| xN [1,5,8,9,10] [] rfl <| A0 <| D4 rfl rfl (B1 (by omega)) <| y_M rfl <| xN [1,5,8,9,10] [] rfl ?_
   refine ⟨(i + 1, c + 1), ?_, (by simp only; omega), ⟨rfl, rfl, rfl, rfl, rfl, trivial⟩⟩
   exact ⟨by omega, by rw [V4 (by omega), a6s, ← hc0]; rw [if_pos (by assumption)]⟩
  refine C0 <| A0 <| D4 rfl rfl (B1 (by omega)) <| y_M rfl <| xN [1,5,8,9,10] [] rfl ?_
  refine ⟨(i + 1, c), ?_, (by simp only; omega), ⟨rfl, rfl, rfl, rfl, rfl, trivial⟩⟩
  exact ⟨by omega, by rw [V4 (by omega), a6s, ← hc0]; (rw [if_neg (by omega)])⟩
 refine G6 <| A3 <| A0 <| y_M rfl <| y_S rfl <| xN [4] [] rfl <| B6 <| C1 rfl rfl trivial ?_
 rw [hc0, List.take_of_length_le (by omega)]

theorem b5o : E5 Try.f31 = [0, 1, 4, 6, 10, 18, 5] := by kernel_rfl
theorem c3r (l : List Int) (hl : l.length ≤ 1048576) (x : Int) : CW cxT 31 [L l, iV x] = some (nV (cl l x), []) := by
 refine F0 rfl Try.func31 rfl ⟨by kernel_rfl, rfl, dT rfl, dT rfl, by decide⟩ b5o <| A3 <| A0 <| y_S rfl <| xN [0,1] [] rfl <| A3 <| A0 <| y_S rfl <| xN [0,1,5] [] rfl <| A3 <| A3 <| A0 <| y_S rfl <| xN [0,1,5,6] [] rfl <| C5 <| G5 (β := Nat × Nat) [(.t 0, _), (.t 1, _)] (fun (z : Nat × Nat) => match z with | (i, c) => [(.t 6, iV i), (.t 5, nV c)]) (fun (z : Nat × Nat) => match z with | (i, c) => i ≤ l.length ∧ c = cl (l.take i) x) (fun (z : Nat × Nat) => match z with | (i, c) => l.length - i) (0, 0) ⟨rfl, rfl, rfl, rfl, trivial⟩ ⟨Nat.zero_le _, rfl⟩ ?_
 intro z hb
 obtain ⟨i, c⟩ := z
 try dsimp only at hb
 obtain ⟨hi1, hc0⟩ := hb
 have hcl := X4 (l.take i) x
 rw [List.length_take, ← hc0] at hcl
 refine A3 <| A3 <| A0 <| y_M rfl <| y_M rfl <| B9 rfl rfl <| I9 rfl rfl <| xN [0,1,5,6,10] [] rfl ?_
 refine A9 rfl ?_ ?_ <;> intro hc <;> try simp only [SL] at hc
 ·refine C0 <| A3 <| C5 <| A3 <| A0 <| y_M rfl <| y_M rfl <| O2 rfl rfl rfl (fun _ => rfl) (by omega) <| y_I rfl <| y_M rfl <| Z3 rfl rfl <| xN [0,1,5,6,18] [] rfl ?_
  refine A9 rfl ?_ ?_ <;> intro hc <;> try simp only [SL] at hc
  ·refine A0 <| y_M rfl <| D4 rfl rfl (B1 (by omega)) <| y_S rfl <| xN [0,1,5,6] [] rfl <| A0 <| y_M rfl <| D4 rfl rfl (B1 (by omega)) <| y_S rfl <| xN [0,1,5,6] [] rfl ?_
   refine ⟨(i + 1, c + 1), ?_, (by simp only; omega), ⟨rfl, rfl, rfl, rfl, trivial⟩⟩
   exact ⟨by omega, by rw [V4 (by omega), a6s, ← hc0]; rw [if_pos (by assumption)]⟩
  refine C0 <| A0 <| y_M rfl <| D4 rfl rfl (B1 (by omega)) <| y_S rfl <| xN [0,1,5,6] [] rfl ?_
  refine ⟨(i + 1, c), ?_, (by simp only; omega), ⟨rfl, rfl, rfl, rfl, trivial⟩⟩
  exact ⟨by omega, by rw [V4 (by omega), a6s, ← hc0]; (rw [if_neg (by omega)])⟩
 refine G6 <| A3 <| A0 <| y_M rfl <| y_S rfl <| xN [4] [] rfl <| B6 <| C1 rfl rfl trivial ?_
 rw [hc0, List.take_of_length_le (by omega)]

theorem a6q : E5 Try.f18 = [0, 1, 4] := by kernel_rfl
theorem a8b (a b : List Int) (ha : a.length ≤ 1048576) (hb : b.length ≤ 1048576) : CW cxT 18 [L a, L b] = some (bV (smp a b), []) := by
 refine F0 rfl Try.func18 rfl ⟨by kernel_rfl, rfl, dT rfl, dT rfl, by decide⟩ a6q <| A3 <| A0 <| y_S rfl <| xN [0,1] [] rfl <| A3 <| A0 <| y_M rfl <| B9 rfl rfl <| J0 rfl rfl <| y_M rfl ?_
 refine B2 rfl rfl ?_ ?_ <;> intro hg0 <;> have hg := hg0 <;> try simp only [SG] at hg
 ·refine y_M rfl <| gT rfl rfl <| B9 rfl rfl <| gT rfl rfl <| J0 rfl rfl <| C7 rfl (by assumption) rfl rfl <| y_M rfl ?_
  refine B2 rfl rfl ?_ ?_ <;> intro hg0 <;> have hg := hg0 <;> try simp only [SG] at hg
  ·refine y_M rfl <| gT rfl rfl <| B9 rfl rfl <| gT rfl rfl <| y_M rfl <| gT rfl rfl <| B9 rfl rfl <| gT rfl rfl <| D4 rfl rfl (B1 (by omega)) <| gT rfl rfl <| Z3 rfl rfl <| C7 rfl (by assumption) rfl rfl <| y_M rfl ?_
   refine B2 rfl rfl ?_ ?_ <;> intro hg0 <;> have hg := hg0 <;> try simp only [SG] at hg
   ·refine y_M rfl <| gT rfl rfl ?_
    refine xC1 rfl rfl (a0b a ha) ⟨rfl, rfl, rfl⟩ rfl rfl fun g23 => ?_
    refine C7 rfl (by assumption) rfl rfl <| y_M rfl ?_
    refine B2 rfl rfl ?_ ?_ <;> intro hg0 <;> have hg := hg0 <;> try simp only [SG] at hg
    ·refine y_M rfl <| gT rfl rfl ?_
     refine xC1 rfl rfl (a0b b hb) ⟨rfl, rfl, rfl⟩ rfl rfl fun g27 => ?_
     refine C7 rfl (by assumption) rfl rfl <| y_S rfl <| xN [4] [] rfl <| B6 <| C1 rfl rfl trivial ?_
     (simp_all [smp, ofConst]; omega)
    refine gF rfl rfl <| B5 rfl (by assumption) rfl rfl <| y_S rfl <| xN [4] [] rfl <| B6 <| C1 rfl rfl trivial ?_
    (simp_all [smp, ofConst]; done)
   refine gF rfl rfl <| B5 rfl (by assumption) rfl rfl <| y_M rfl <| A8 rfl rfl rfl <| A8 rfl rfl rfl <| B5 rfl rfl rfl rfl <| y_S rfl <| xN [4] [] rfl <| B6 <| C1 rfl rfl trivial ?_
   (simp_all [smp, ofConst]; omega)
  iterate 5 refine gF rfl rfl ?_
  refine B5 rfl (by assumption) rfl rfl <| y_M rfl <| A8 rfl rfl rfl <| A8 rfl rfl rfl <| B5 rfl rfl rfl rfl <| y_M rfl <| A8 rfl rfl rfl <| A8 rfl rfl rfl <| B5 rfl rfl rfl rfl <| y_S rfl <| xN [4] [] rfl <| B6 <| C1 rfl rfl trivial ?_
  (simp_all [smp, ofConst]; done)
 refine gF rfl rfl <| gF rfl rfl <| B5 rfl (by assumption) rfl rfl <| y_M rfl ?_
 iterate 6 refine A8 rfl rfl rfl ?_
 refine B5 rfl rfl rfl rfl <| y_M rfl <| A8 rfl rfl rfl <| A8 rfl rfl rfl <| B5 rfl rfl rfl rfl <| y_M rfl <| A8 rfl rfl rfl <| A8 rfl rfl rfl <| B5 rfl rfl rfl rfl <| y_S rfl <| xN [4] [] rfl <| B6 <| C1 rfl rfl trivial ?_
 (simp_all [smp, ofConst]; done)

theorem a6o : E5 Try.f13 = [0, 1, 4] := by kernel_rfl
theorem b6j (a b : List Int) (ha : a.length ≤ 1048576) (hb : b.length ≤ 1048576) : CW cxT 13 [L a, L b] = some (bV (smp a b), []) := by
 refine F0 rfl Try.func13 rfl ⟨by kernel_rfl, rfl, dT rfl, dT rfl, by decide⟩ a6o <| A3 <| A0 <| y_S rfl <| xN [0,1] [] rfl <| A3 <| A0 <| y_M rfl ?_
 refine xC1 rfl rfl (a0s a ha) ⟨rfl, rfl, rfl⟩ rfl rfl fun g6 => ?_
 refine y_M rfl ?_
 refine B2 rfl rfl ?_ ?_ <;> intro hg0 <;> have hg := hg0 <;> try simp only [SG] at hg
 ·refine y_M rfl <| gT rfl rfl ?_
  refine xC1 rfl rfl (a0s b hb) ⟨rfl, rfl, rfl⟩ rfl rfl fun g9 => ?_
  refine C7 rfl (by assumption) rfl rfl <| y_M rfl ?_
  refine B2 rfl rfl ?_ ?_ <;> intro hg0 <;> have hg := hg0 <;> try simp only [SG] at hg
  ·refine y_M rfl <| gT rfl rfl <| B9 rfl rfl <| gT rfl rfl <| y_M rfl <| gT rfl rfl <| B9 rfl rfl <| gT rfl rfl <| D4 rfl rfl (B1 (by omega)) <| gT rfl rfl <| Z3 rfl rfl <| C7 rfl (by assumption) rfl rfl <| y_M rfl ?_
   refine B2 rfl rfl ?_ ?_ <;> intro hg0 <;> have hg := hg0 <;> try simp only [SG] at hg
   ·refine y_M rfl <| gT rfl rfl <| B9 rfl rfl <| gT rfl rfl <| J0 rfl rfl <| C7 rfl (by assumption) rfl rfl <| y_M rfl ?_
    refine B2 rfl rfl ?_ ?_ <;> intro hg0 <;> have hg := hg0 <;> try simp only [SG] at hg
    ·refine y_M rfl <| gT rfl rfl <| B9 rfl rfl <| gT rfl rfl <| J0 rfl rfl <| C7 rfl (by assumption) rfl rfl <| y_S rfl <| xN [4] [] rfl <| B6 <| C1 rfl rfl trivial ?_
     (simp_all [smp, ofConst]; omega)
    refine gF rfl rfl <| gF rfl rfl <| B5 rfl (by assumption) rfl rfl <| y_S rfl <| xN [4] [] rfl <| B6 <| C1 rfl rfl trivial ?_
    (simp_all [smp, ofConst]; done)
   refine gF rfl rfl <| gF rfl rfl <| B5 rfl (by assumption) rfl rfl <| y_M rfl <| A8 rfl rfl rfl <| A8 rfl rfl rfl <| A8 rfl rfl rfl <| B5 rfl rfl rfl rfl <| y_S rfl <| xN [4] [] rfl <| B6 <| C1 rfl rfl trivial ?_
   (simp_all [smp, ofConst]; omega)
  iterate 5 refine gF rfl rfl ?_
  refine B5 rfl (by assumption) rfl rfl <| y_M rfl <| A8 rfl rfl rfl <| A8 rfl rfl rfl <| A8 rfl rfl rfl <| B5 rfl rfl rfl rfl <| y_M rfl <| A8 rfl rfl rfl <| A8 rfl rfl rfl <| A8 rfl rfl rfl <| B5 rfl rfl rfl rfl <| y_S rfl <| xN [4] [] rfl <| B6 <| C1 rfl rfl trivial ?_
  (simp_all [smp, ofConst]; done)
 refine gF rfl rfl <| B5 rfl (by assumption) rfl rfl <| y_M rfl ?_
 iterate 6 refine A8 rfl rfl rfl ?_
 refine B5 rfl rfl rfl rfl <| y_M rfl <| A8 rfl rfl rfl <| A8 rfl rfl rfl <| A8 rfl rfl rfl <| B5 rfl rfl rfl rfl <| y_M rfl <| A8 rfl rfl rfl <| A8 rfl rfl rfl <| A8 rfl rfl rfl <| B5 rfl rfl rfl rfl <| y_S rfl <| xN [4] [] rfl <| B6 <| C1 rfl rfl trivial ?_
 (simp_all [smp, ofConst]; done)

theorem a5j : E5 Try.f16 = [0, 1, 2, 3, 4, 10, 11, 37, 45] := by kernel_rfl
theorem b5f (m n d i k L : Nat) (hm : m ≤ 10) (hn : n ≤ 10) (hd : d ≤ 1000) (hi : i ≤ m + 1) (hk : k ≤ n + 1) (hL : i + k + L = m + n) : CW cxT 16 [nV m, nV n, nV i, nV k, nV d] = some (nV (Gp.pF m n d L i k), []) := by
 obtain ⟨kk, hkk⟩ : ∃ kk : Nat, L < kk := ⟨_, Nat.lt_succ_self _⟩
 revert i k L
 induction kk with
 | zero => intro i k L hi hk hL hkk; exact absurd hkk (Nat.not_lt_zero _)
 | succ kk ih =>
  intro i k L hi hk hL hkk
  have h1 : i * n ≤ 11 * 10 := Nat.mul_le_mul (by omega) hn
  have h2 : k * m ≤ 11 * 10 := Nat.mul_le_mul (by omega) hm
  have e1 : (i : Int) * (n : Int) = ((i * n : Nat) : Int) := by rw [Int.natCast_mul]
  have e2 : (k : Int) * (m : Int) = ((k * m : Nat) : Int) := by rw [Int.natCast_mul]
  refine F0 rfl Try.func16 rfl ⟨by kernel_rfl, rfl, dT rfl, dT rfl, by decide⟩ a5j <| A3 <| A0 <| y_S rfl <| xN [0,1,2,3,4] [] rfl <| A3 <| A0 <| y_M rfl <| y_M rfl <| W6 rfl rfl (B1 (by omega)) <| y_M rfl <| y_M rfl <| W6 rfl rfl (B1 (by omega)) <| N1 rfl rfl (B1 (by omega)) <| y_S rfl <| xN [0,1,2,3,4,11] [] rfl <| A3 <| A3 <| A0 <| y_M rfl <| y_M rfl <| J0 rfl rfl <| y_M rfl ?_
  refine B2 rfl rfl ?_ ?_ <;> intro hg0 <;> have hg := hg0 <;> try simp only [SG] at hg
  ·refine y_M rfl <| gT rfl rfl <| y_M rfl <| gT rfl rfl <| J0 rfl rfl <| B5 rfl (by assumption) rfl rfl <| y_M rfl ?_
   refine B2 rfl rfl ?_ ?_ <;> intro hg0 <;> have hg := hg0 <;> try simp only [SG] at hg
   ·refine y_M rfl <| gT rfl rfl <| y_M rfl <| gT rfl rfl <| J0 rfl rfl <| B5 rfl (by assumption) rfl rfl <| y_M rfl ?_
    refine B2 rfl rfl ?_ ?_ <;> intro hg0 <;> have hg := hg0 <;> try simp only [SG] at hg
    ·refine y_M rfl <| gT rfl rfl <| y_M rfl <| gT rfl rfl <| c3t rfl (B1 (by omega)) <| gT rfl rfl <| I9 rfl rfl <| B5 rfl (by assumption) rfl rfl <| xN [0,1,2,3,4,37] [] rfl ?_
     refine A9 rfl ?_ ?_ <;> intro hc <;> try simp only [SL] at hc
     ·refine A3 <| A0 <| y_S rfl <| xN [10] [] rfl <| B6 <| C1 rfl rfl trivial ?_
      exact congrArg nV (b3f (by unfold Gp.ap; omega)).symm
     refine C0 <| A3 <| A3 <| A0 <| y_M rfl <| y_M rfl <| M6 rfl rfl <| y_M rfl ?_
     refine B2 rfl rfl ?_ ?_ <;> intro hg0 <;> have hg := hg0 <;> try simp only [SG] at hg
     ·refine y_M rfl <| gT rfl rfl <| y_M rfl <| gT rfl rfl <| M6 rfl rfl <| C7 rfl (by assumption) rfl rfl <| xN [0,1,2,3,4,45] [] rfl ?_
      refine A9 rfl ?_ ?_ <;> intro hc <;> try simp only [SL] at hc
      ·refine A3 <| A0 <| y_S rfl <| xN [10] [] rfl <| B6 <| C1 rfl rfl trivial ?_
       exact congrArg nV (c7r (by omega) (by omega) (by unfold Gp.ap; omega) (by omega)).symm
      refine C0 <| A3 <| A0 ?_
      obtain ⟨L1, rfl⟩ : ∃ L1, L = L1 + 1 := ⟨L - 1, by omega⟩
      have hb1 := b9f m n d L1 (i + 1) k (by omega)
      have hb2 := b9f m n d L1 i (k + 1) (by omega)
      refine y_M rfl <| y_M rfl <| y_M rfl <| D4 rfl rfl (B1 (by omega)) <| y_M rfl <| y_M rfl ?_
      rw [show ((i : Int) + 1) = ((i + 1 : Nat) : Int) by omega]
      apply xC rfl
      ·apply A6
       ·exact B0 rfl
       apply A6
       ·exact B0 rfl
       apply A6
       ·exact B0 rfl
       apply A6
       ·exact B0 rfl
       apply A6
       ·exact B0 rfl
       exact E6
      ·exact ih (i + 1) k L1 (by omega) (by omega) (by omega) (by omega)
      refine ⟨⟨rfl, rfl, rfl, dT rfl, rfl⟩, .inl rfl, C6, D5 rfl, fun _ => rfl, fun g52 => ?_⟩
      refine y_M rfl <| y_M rfl <| y_M rfl <| y_M rfl <| D4 rfl rfl (B1 (by omega)) <| y_M rfl ?_
      rw [show ((k : Int) + 1) = ((k + 1 : Nat) : Int) by omega]
      apply xC rfl
      ·apply A6
       ·exact B0 rfl
       apply A6
       ·exact B0 rfl
       apply A6
       ·exact B0 rfl
       apply A6
       ·exact B0 rfl
       apply A6
       ·exact B0 rfl
       exact E6
      ·exact ih i (k + 1) L1 (by omega) (by omega) (by omega) (by omega)
      refine ⟨⟨rfl, rfl, rfl, dT rfl, rfl⟩, .inl rfl, C6, D5 rfl, fun _ => rfl, fun g59 => ?_⟩
      refine D4 rfl rfl (B1 (by omega)) <| y_S rfl <| xN [10] [] rfl <| B6 <| C1 rfl rfl trivial ?_
      exact congrArg nV (c4c (by omega) (by omega) (by unfold Gp.ap; omega)).symm
     refine gF rfl rfl <| gF rfl rfl <| B5 rfl (by assumption) rfl rfl <| xN [0,1,2,3,4,45] [] rfl ?_
     refine A9 rfl (fun hc => absurd hc (by decide)) (fun hc => ?_)
     refine C0 <| A3 <| A0 ?_
     obtain ⟨L1, rfl⟩ : ∃ L1, L = L1 + 1 := ⟨L - 1, by omega⟩
     have hb1 := b9f m n d L1 (i + 1) k (by omega)
     have hb2 := b9f m n d L1 i (k + 1) (by omega)
     refine y_M rfl <| y_M rfl <| y_M rfl <| D4 rfl rfl (B1 (by omega)) <| y_M rfl <| y_M rfl ?_
     rw [show ((i : Int) + 1) = ((i + 1 : Nat) : Int) by omega]
     apply xC rfl
     ·apply A6
      ·exact B0 rfl
      apply A6
      ·exact B0 rfl
      apply A6
      ·exact B0 rfl
      apply A6
      ·exact B0 rfl
      apply A6
      ·exact B0 rfl
      exact E6
     ·exact ih (i + 1) k L1 (by omega) (by omega) (by omega) (by omega)
     refine ⟨⟨rfl, rfl, rfl, dT rfl, rfl⟩, .inl rfl, C6, D5 rfl, fun _ => rfl, fun g52 => ?_⟩
     refine y_M rfl <| y_M rfl <| y_M rfl <| y_M rfl <| D4 rfl rfl (B1 (by omega)) <| y_M rfl ?_
     rw [show ((k : Int) + 1) = ((k + 1 : Nat) : Int) by omega]
     apply xC rfl
     ·apply A6
      ·exact B0 rfl
      apply A6
      ·exact B0 rfl
      apply A6
      ·exact B0 rfl
      apply A6
      ·exact B0 rfl
      apply A6
      ·exact B0 rfl
      exact E6
     ·exact ih i (k + 1) L1 (by omega) (by omega) (by omega) (by omega)
     refine ⟨⟨rfl, rfl, rfl, dT rfl, rfl⟩, .inl rfl, C6, D5 rfl, fun _ => rfl, fun g59 => ?_⟩
     refine D4 rfl rfl (B1 (by omega)) <| y_S rfl <| xN [10] [] rfl <| B6 <| C1 rfl rfl trivial ?_
     exact congrArg nV (c4c (by omega) (by omega) (by unfold Gp.ap; omega)).symm
    refine gF rfl rfl <| gF rfl rfl <| gF rfl rfl <| C7 rfl (by assumption) rfl rfl <| xN [0,1,2,3,4,37] [] rfl ?_
    refine A9 rfl (fun hc => ?_) (fun hc => absurd hc (by decide))
    refine A3 <| A0 <| y_S rfl <| xN [10] [] rfl <| B6 <| C1 rfl rfl trivial ?_
    exact congrArg nV (b3f (by unfold Gp.ap; omega)).symm
   refine gF rfl rfl <| gF rfl rfl <| C7 rfl (by assumption) rfl rfl <| y_M rfl ?_
   iterate 4 refine A8 rfl rfl rfl ?_
   refine C7 rfl rfl rfl rfl <| xN [0,1,2,3,4,37] [] rfl ?_
   refine A9 rfl (fun hc => ?_) (fun hc => absurd hc (by decide))
   refine A3 <| A0 <| y_S rfl <| xN [10] [] rfl <| B6 <| C1 rfl rfl trivial ?_
   exact congrArg nV (b3f (by unfold Gp.ap; omega)).symm
  refine gF rfl rfl <| gF rfl rfl <| C7 rfl (by assumption) rfl rfl <| y_M rfl <| A8 rfl rfl rfl <| A8 rfl rfl rfl <| A8 rfl rfl rfl <| C7 rfl rfl rfl rfl <| y_M rfl ?_
  iterate 4 refine A8 rfl rfl rfl ?_
  refine C7 rfl rfl rfl rfl <| xN [0,1,2,3,4,37] [] rfl ?_
  refine A9 rfl (fun hc => ?_) (fun hc => absurd hc (by decide))
  refine A3 <| A0 <| y_S rfl <| xN [10] [] rfl <| B6 <| C1 rfl rfl trivial ?_
  exact congrArg nV (b3f (by unfold Gp.ap; omega)).symm

theorem b3j : E5 Try.f17 = [0, 1, 4, 6, 7, 17, 8, 5] := by kernel_rfl
theorem c7h (a b : List Int) (ha : a.length ≤ 10) (hb : b.length ≤ 10) : CW cxT 17 [L a, L b] = some (nV (P0 a b (a ++ b)), []) := by
 have hab : (a ++ b).length ≤ 20 := by simp; omega
 refine F0 rfl Try.func17 rfl ⟨by kernel_rfl, rfl, dT rfl, dT rfl, by decide⟩ b3j <| A3 <| A0 <| y_S rfl <| xN [0,1] [] rfl <| A3 <| A0 <| y_S rfl <| xN [0,1,5] [] rfl <| A3 <| A0 <| D6 (es := List.map iV []) rfl rfl (dT rfl) rfl rfl (fun _ => E7 (B8 fun _ => rfl)) (fun _ => rfl) ?_
 intro g9
 refine y_M rfl <| K3 rfl rfl rfl (by (simp; done)) rfl rfl rfl (dT rfl) (fun _ => ⟨rfl, rfl, rfl⟩) (by simp only [M1]; (simp only [List.length_nil, List.length_cons, List.length_append, Nat.zero_add, List.length_map]; omega)) (fun _ => rfl) ?_
 intro g11
 simp only [List.nil_append]
 refine y_M rfl <| K3 rfl rfl rfl (by (simp; done)) rfl rfl rfl (dT rfl) (fun _ => ⟨rfl, rfl, rfl⟩) (by simp only [M1]; omega) (fun _ => rfl) ?_
 intro g13
 (refine xO rfl rfl (by simp) rfl (fun _ => rfl) (fun _ => rfl) ?_; intro g6)
 refine xN [0,1,5,6] [6] rfl <| A3 <| A3 <| A0 <| y_S rfl <| xN [0,1,5,6,7] [6] rfl <| C5 <| G5 (β := Nat × Nat) [(.t 0, _), (.t 1, _), (.t 6, _), (.h 6, _)] (fun (z : Nat × Nat) => match z with | (i, g) => [(.t 7, iV i), (.t 5, nV g)]) (fun (z : Nat × Nat) => match z with | (i, g) => i ≤ (a ++ b).length ∧ g = P0 a b ((a ++ b).take i)) (fun (z : Nat × Nat) => match z with | (i, g) => (a ++ b).length - i) (0, 0) ⟨rfl, rfl, rfl, rfl, rfl, rfl, trivial⟩ ⟨Nat.zero_le _, rfl⟩ ?_
 intro z hb
 obtain ⟨i, g⟩ := z
 try dsimp only at hb
 obtain ⟨hi1, hg0⟩ := hb
 have hca := X4 a ((a ++ b).getD i default)
 have hcb := X4 b ((a ++ b).getD i default)
 have hgb := a7c a b ha hb ((a ++ b).take i)
 rw [← hg0] at hgb
 refine A3 <| A3 <| A0 <| y_M rfl <| y_M rfl <| G9 rfl rfl <| I9 rfl rfl <| xN [0,1,5,6,7,17] [6] rfl ?_
 refine A9 rfl ?_ ?_ <;> intro hc <;> try simp only [SL] at hc
 ·refine C0 <| A3 <| C5 <| A3 <| A0 <| y_M rfl <| y_M rfl <| y_M rfl <| K8 rfl rfl rfl rfl (by omega) (by (simp; done)) rfl <| M5 rfl rfl (by omega) (fun _ => rfl) (fun _ => rfl) rfl ?_
  refine xC2 rfl rfl rfl (c3r a (by omega) ((a ++ b).getD i default)) ⟨rfl, rfl, rfl⟩ rfl rfl fun g25 => ?_
  refine y_M rfl <| B9 rfl rfl ?_
  have hq1 : cl a ((a ++ b).getD i default) * b.length ≤ 10 * 10 := Nat.mul_le_mul (by omega) hb
  have hq2 : cl b ((a ++ b).getD i default) * a.length ≤ 10 * 10 := Nat.mul_le_mul (by omega) ha
  have he1 : (cl a ((a ++ b).getD i default) : Int) * (b.length : Int) = ((cl a ((a ++ b).getD i default) * b.length : Nat) : Int) := by rw [Int.natCast_mul]
  have he2 : (cl b ((a ++ b).getD i default) : Int) * (a.length : Int) = ((cl b ((a ++ b).getD i default) * a.length : Nat) : Int) := by rw [Int.natCast_mul]
  refine W6 rfl rfl (B1 (by omega)) <| y_M rfl <| y_M rfl <| y_M rfl <| K8 rfl rfl rfl rfl (by omega) (by (simp; done)) rfl <| M5 rfl rfl (by omega) (fun _ => rfl) (fun _ => rfl) rfl ?_
  refine xC2 rfl rfl rfl (c3r b (by omega) ((a ++ b).getD i default)) ⟨rfl, rfl, rfl⟩ rfl rfl fun g34 => ?_
  refine y_M rfl <| B9 rfl rfl <| W6 rfl rfl (B1 (by omega)) <| N1 rfl rfl (B1 (by omega)) <| y_S rfl ?_
  refine P4 ⟨fun _ => ⟨by (simp only [a4r, List.nil_append, List.append_nil, List.map_cons, List.map_nil, List.cons_append]; decide +kernel), by decide +kernel⟩, [(.t 0, _), (.t 1, _), (.t 5, _), (.t 6, _), (.t 7, _), (.t 8, _), (.h 6, _)], ⟨rfl, rfl, rfl, rfl, rfl, rfl, rfl, rfl, rfl, rfl, rfl, rfl, rfl, rfl, trivial⟩, ?_⟩
  refine A0 <| y_M rfl <| y_M rfl <| y_M rfl <| c3t rfl (B1 (by omega)) <| c7l rfl rfl rfl <| y_S rfl <| xN [0,1,5,6,7] [6] rfl <| A0 ?_
  rw [c7x]
  refine y_M rfl <| D4 rfl rfl (B1 (by omega)) <| y_S rfl <| xN [0,1,5,6,7] [6] rfl ?_
  refine ⟨(i + 1, _), ?_, (by simp only; omega), ⟨rfl, rfl, rfl, rfl, rfl, rfl, trivial⟩⟩
  exact ⟨by omega, by rw [V4 (by omega), b0r, ← hg0]⟩
 refine G6 <| A3 <| A0 ?_
 skip
 refine y_M rfl <| y_S rfl <| xN [4] [] rfl <| B6 <| C1 rfl rfl trivial ?_
 rw [hg0, List.take_of_length_le (by omega)]

theorem a7q : E5 Try.f15 = [0, 1, 4, 13, 6, 16, 5] := by kernel_rfl
theorem c0t (n k : Nat) (hn : n ≤ 12) (hk : k ≤ n) : CW cxT 15 [nV n, nV k] = some (nV (Gp.chN n k), []) := by
 refine F0 rfl Try.func15 rfl ⟨by kernel_rfl, rfl, dT rfl, dT rfl, by decide⟩ a7q <| A3 <| A0 <| y_S rfl <| xN [0,1] [] rfl <| A3 <| A3 <| A0 <| y_M rfl <| I9 rfl rfl <| y_M rfl ?_
 refine B2 rfl rfl ?_ ?_ <;> intro hg0 <;> have hg := hg0 <;> try simp only [SG] at hg
 ·refine y_M rfl <| gT rfl rfl <| y_M rfl <| gT rfl rfl <| J0 rfl rfl <| B5 rfl rfl rfl rfl <| xN [0,1,13] [] rfl ?_
  refine A9 rfl ?_ ?_ <;> intro hc <;> try simp only [SL] at hc
  ·refine A3 <| A0 <| y_S rfl <| xN [4] [] rfl <| B6 <| C1 rfl rfl trivial ?_
   (exfalso; omega)
  refine C0 <| A3 <| A0 <| y_S rfl <| xN [0,1,5] [] rfl <| A3 <| A3 <| A0 <| y_S rfl <| xN [0,1,5,6] [] rfl <| C5 <| G5 (β := Nat) [(.t 0, _), (.t 1, _)] (fun (i : Nat) => [(.t 6, nV i), (.t 5, nV (Gp.chN n i))]) (fun (i : Nat) => i ≤ k) (fun (i : Nat) => k - i) 0 ⟨rfl, rfl, rfl, rfl, trivial⟩ (Nat.zero_le _) ?_
  intro i hb
  have hi1 := hb
  have hcb := (Gp.chN_bd n (by omega) i (by omega)).1
  have hmb := b7e (x := (Gp.chN n i : Int)) (y := (n : Int) - (i : Int)) (a := 1000) (b := 12) ⟨by omega, by omega⟩ ⟨by omega, by omega⟩
  refine A3 <| A3 <| A0 <| y_M rfl <| y_M rfl <| I9 rfl rfl <| xN [0,1,5,6,16] [] rfl ?_
  refine A9 rfl ?_ ?_ <;> intro hc <;> try simp only [SL] at hc
  ·refine C0 <| A3 <| C5 <| A0 ?_
   have hq1 := a7a (n := n) (i := i) (by omega)
   have hq2 := (Gp.chN_bd n (by omega) (i + 1) (by omega)).1
   refine y_M rfl <| y_M rfl <| y_M rfl <| N1 rfl rfl (B1 (by omega)) <| W6 rfl rfl (B1 (by omega)) <| y_M rfl <| D4 rfl rfl (B1 (by omega)) <| b9t rfl rfl ⟨by omega, B1 (by omega)⟩ <| y_S rfl <| xN [0,1,5,6] [] rfl <| A0 ?_
   rw [a7a (by omega)]
   refine y_M rfl <| D4 rfl rfl (B1 (by omega)) <| y_S rfl <| xN [0,1,5,6] [] rfl ?_
   refine ⟨i + 1, (by omega), (by omega), ⟨rfl, rfl, rfl, rfl, trivial⟩⟩
  refine G6 <| A3 <| A0 <| y_M rfl <| y_S rfl <| xN [4] [] rfl <| B6 <| C1 rfl rfl trivial ?_
  (rw [show i = k by omega]; done)
 refine gF rfl rfl <| gF rfl rfl <| C7 rfl (by assumption) rfl rfl <| xN [0,1,13] [] rfl ?_
 refine A9 rfl (fun hc => ?_) (fun hc => absurd hc (by decide))
 refine A3 <| A0 <| y_S rfl <| xN [4] [] rfl <| B6 <| C1 rfl rfl trivial ?_
 (exfalso; omega)

theorem a8a : E5 Try.f11 = [0, 1, 4, 6, 9, 5] := by kernel_rfl
theorem c1h (n k : Nat) (hn : n ≤ 12) (hk : k ≤ n) : CW cxT 11 [nV n, nV k] = some (nV (Gp.chN n k), []) := by
 refine F0 rfl Try.func11 rfl ⟨by kernel_rfl, rfl, dT rfl, dT rfl, by decide⟩ a8a <| A3 <| A0 <| y_S rfl <| xN [0,1] [] rfl <| A3 <| A0 <| y_S rfl <| xN [0,1,5] [] rfl <| A3 <| A3 <| A0 <| y_S rfl <| xN [0,1,5,6] [] rfl <| C5 <| G5 (β := Nat) [(.t 0, _), (.t 1, _)] (fun (i : Nat) => [(.t 6, nV i), (.t 5, nV (Gp.chN n i))]) (fun (i : Nat) => i ≤ k) (fun (i : Nat) => k - i) 0 ⟨rfl, rfl, rfl, rfl, trivial⟩ (Nat.zero_le _) ?_
 intro i hb
 have hi1 := hb
 have hcb := (Gp.chN_bd n (by omega) i (by omega)).1
 have hmb := b7e (x := (Gp.chN n i : Int)) (y := (n : Int) - (i : Int)) (a := 1000) (b := 12) ⟨by omega, by omega⟩ ⟨by omega, by omega⟩
 refine A3 <| A3 <| A0 <| y_M rfl <| y_M rfl <| I9 rfl rfl <| xN [0,1,5,6,9] [] rfl ?_
 refine A9 rfl ?_ ?_ <;> intro hc <;> try simp only [SL] at hc
 ·refine C0 <| A3 <| C5 <| A0 ?_
  have hq1 := a7a (n := n) (i := i) (by omega)
  have hq2 := (Gp.chN_bd n (by omega) (i + 1) (by omega)).1
  refine y_M rfl <| y_M rfl <| y_M rfl <| N1 rfl rfl (B1 (by omega)) <| W6 rfl rfl (B1 (by omega)) <| y_M rfl <| D4 rfl rfl (B1 (by omega)) <| b9t rfl rfl ⟨by omega, B1 (by omega)⟩ <| y_S rfl <| xN [0,1,5,6] [] rfl <| A0 ?_
  rw [a7a (by omega)]
  refine y_M rfl <| D4 rfl rfl (B1 (by omega)) <| y_S rfl <| xN [0,1,5,6] [] rfl ?_
  refine ⟨i + 1, (by omega), (by omega), ⟨rfl, rfl, rfl, rfl, trivial⟩⟩
 refine G6 <| A3 <| A0 <| y_M rfl <| y_S rfl <| xN [4] [] rfl <| B6 <| C1 rfl rfl trivial ?_
 (rw [show i = k by omega]; done)

theorem b2v : E5 Try.f14 = [0, 2, 9, 4, 12, 6, 18, 26, 5, 30, 3] := by kernel_rfl
theorem c5z (xs : List Int) (hl : xs.length ≤ 10) (hv : vd xs = true) : ∃ res outs, (fun res outs => ∃ l : List Int, res = .own 1 (l.map iV) ∧ outs = [] ∧ (l = [] ↔ xs.Nodup)) res outs ∧ CW cxT 14 [L xs] = some (res, outs) := by
 refine L6 rfl Try.func14 rfl ⟨by kernel_rfl, rfl, dT rfl, dT rfl, by decide⟩ b2v <| A3 <| A0 ?_
 (refine G0 rfl rfl (fun _ => rfl) ?_; intro g2)
 refine xN [0] [] rfl <| A3 <| A3 <| A0 <| y_M rfl ?_
 refine xC1 rfl rfl (a0s xs (by omega)) ⟨rfl, rfl, rfl⟩ rfl rfl fun g8 => ?_
 refine a2o rfl <| xN [0,9] [] rfl ?_
 refine A9 rfl (fun hc => ?_) (fun hc => ?_)
 ·try simp only [SD] at hc
  exact absurd hv (by simp_all)
 try simp only [SL] at hc
 refine C0 <| A3 <| A0 <| D6 (es := List.map iV []) rfl rfl (dT rfl) rfl rfl (fun _ => E7 (B8 fun _ => rfl)) (fun _ => rfl) ?_
 intro g10
 (refine xO rfl rfl (by simp) rfl (fun _ => rfl) (fun _ => rfl) ?_; intro g3)
 refine xN [0,3] [3] rfl <| A3 <| A3 <| A0 <| y_S rfl <| xN [0,3,4] [3] rfl <| C5 <| G5 (β := Nat × Int × List Int × Nat) [(.t 0, _)] (fun (z : Nat × Int × List Int × Nat) => match z with | (i, v, l, g) => [(.t 4, iV v), (.t 3, .sl 3 g none 0 l.length), (.h 3, .obj g 0 1 (l.map iV))]) (fun (z : Nat × Int × List Int × Nat) => match z with | (i, v, l, g) => i ≤ 401 ∧ v = (i : Int) - 200 ∧ l.length ≤ i ∧ (l = [] ↔ ∀ w, w < i → xs.count ((w : Int) - 200) ≤ 1)) (fun (z : Nat × Int × List Int × Nat) => match z with | (i, v, l, g) => 401 - i) (0, -200, [], _) ⟨rfl, rfl, rfl, rfl, trivial⟩ ⟨by omega, by omega, Nat.le_refl _, ⟨fun _ w hw => absurd hw (Nat.not_lt_zero _), fun _ => rfl⟩⟩ ?_
 intro z hb
 obtain ⟨i, v, l, g⟩ := z
 try dsimp only at hb
 obtain ⟨hi1, hvi, hll, hls⟩ := hb
 refine A3 <| A3 <| A0 <| y_M rfl <| Z3 rfl rfl <| xN [0,3,4,12] [3] rfl ?_
 refine A9 rfl ?_ ?_ <;> intro hc <;> try simp only [SL] at hc
 ·refine C0 <| A3 <| C5 <| A3 <| A0 <| y_S rfl <| xN [0,3,4,5] [3] rfl <| A3 <| A3 <| A0 <| y_S rfl <| xN [0,3,4,5,6] [3] rfl <| C5 <| G5 (β := Nat × Nat) [(.t 0, _), (.t 3, _), (.t 4, _), (.h 3, _)] (fun (z : Nat × Nat) => match z with | (j, c) => [(.t 6, iV j), (.t 5, nV c)]) (fun (z : Nat × Nat) => match z with | (j, c) => j ≤ xs.length ∧ c ≤ j ∧ c = (xs.take j).count v) (fun (z : Nat × Nat) => match z with | (j, c) => xs.length - j) (0, 0) ⟨rfl, rfl, rfl, rfl, rfl, rfl, trivial⟩ ⟨Nat.zero_le _, Nat.le_refl _, rfl⟩ ?_
  intro z hb
  obtain ⟨j, c⟩ := z
  try dsimp only at hb
  obtain ⟨hj1, hcj, hcc⟩ := hb
  refine A3 <| A3 <| A0 <| y_M rfl <| y_M rfl <| B9 rfl rfl <| I9 rfl rfl <| xN [0,3,4,5,6,18] [3] rfl ?_
  refine A9 rfl ?_ ?_ <;> intro hc <;> try simp only [SL] at hc
  ·refine C0 <| A3 <| C5 <| A3 <| A0 <| y_M rfl <| y_M rfl <| O2 rfl rfl rfl (fun _ => rfl) (by omega) <| y_I rfl <| y_M rfl <| M6 rfl rfl <| xN [0,3,4,5,6,26] [3] rfl ?_
   refine A9 rfl ?_ ?_ <;> intro hc <;> try simp only [SL] at hc
   ·refine A0 <| y_M rfl <| D4 rfl rfl (B1 (by omega)) <| y_S rfl <| xN [0,3,4,5,6] [3] rfl <| A0 <| y_M rfl <| D4 rfl rfl (B1 (by omega)) <| y_S rfl <| xN [0,3,4,5,6] [3] rfl ?_
    refine ⟨(j + 1, c + 1), ?_, (by simp only; omega), ⟨rfl, rfl, rfl, rfl, rfl, rfl, trivial⟩⟩
    exact ⟨by omega, by omega, by rw [b9j (by omega), ← hcc]; rw [if_pos (by assumption)]⟩
   refine C0 <| A0 <| y_M rfl <| D4 rfl rfl (B1 (by omega)) <| y_S rfl <| xN [0,3,4,5,6] [3] rfl ?_
   refine ⟨(j + 1, c), ?_, (by simp only; omega), ⟨rfl, rfl, rfl, rfl, rfl, rfl, trivial⟩⟩
   exact ⟨by omega, by omega, by rw [b9j (by omega), ← hcc]; rw [if_neg (by omega)]; rfl⟩
  refine G6 <| A3 <| A0 ?_
  have hcx : c = xs.count ((i : Int) - 200) := by rw [hcc, List.take_of_length_le (by omega), hvi]
  refine y_M rfl <| J0 rfl rfl <| xN [0,3,4,5,30] [3] rfl ?_
  refine A9 rfl ?_ ?_ <;> intro hc <;> try simp only [SL] at hc
  ·refine A0 <| y_M rfl <| y_M rfl <| D6 (es := List.map iV [(c : Int)]) rfl rfl (dT rfl) rfl rfl (fun _ => E7 (B8 fun _ => rfl)) (fun _ => rfl) ?_
   intro g33
   refine xA rfl rfl rfl rfl (by simp) (by simp) rfl rfl rfl rfl rfl (fun _ => rfl) (by simp only [LN]; omega) (fun _ => rfl) ?_
   intro g34
   (refine xO rfl rfl (by simp) rfl (fun _ => rfl) (fun _ => rfl) ?_; intro g3)
   refine xN [0,3,4] [3] rfl <| A0 <| y_M rfl <| D4 rfl rfl (B1 (by omega)) <| y_S rfl <| xN [0,3,4] [3] rfl ?_
   refine ⟨(i + 1, v + 1, l ++ [(c : Int)], _), ?_, (by simp only; omega), ⟨rfl, rfl, rfl, rfl, trivial⟩⟩
   exact ⟨by omega, by omega, by rw [List.length_append]; simp only [List.length_singleton]; omega, c5j hcx (by omega) _⟩
  refine C0 <| A0 <| y_M rfl <| D4 rfl rfl (B1 (by omega)) <| y_S rfl <| xN [0,3,4] [3] rfl ?_
  refine ⟨(i + 1, v + 1, l, _), ?_, (by simp only; omega), ⟨rfl, rfl, rfl, rfl, trivial⟩⟩
  exact ⟨by omega, by omega, by omega, c7n hcx (by omega) hls⟩
 refine G6 <| A3 <| A0 <| y_M rfl ?_
 (refine xO rfl rfl (by simp) rfl (fun _ => rfl) (fun _ => rfl) ?_; intro g2)
 refine xN [2] [2] rfl <| B6 ?_
 refine ⟨_, _, ?_, a1x rfl rfl (by simp) (by exact B8 fun _ => rfl) F9⟩
 exact ⟨l, rfl, rfl, by rw [hls, show i = 401 by omega]; exact c5p hv⟩

theorem b1x : E5 Try.f34 = [0, 2] := by kernel_rfl
theorem c5b (xs : List Int) (hx : xs.length ≤ M1) : CW cxT 34 [.own 1 (xs.map iV)] = some (.own 1 (xs.map iV), []) := by
 refine F0 rfl Try.func34 rfl ⟨by kernel_rfl, rfl, dT rfl, dT rfl, by decide⟩ b1x <| A3 <| A0 ?_
 (refine G0 rfl rfl (fun _ => rfl) ?_; intro g2)
 refine xN [0] [0] rfl <| A3 <| A0 <| y_M rfl <| y_M rfl <| G9 rfl rfl <| y_M rfl <| G9 rfl rfl ?_
 refine c7o rfl rfl rfl rfl rfl rfl (fun hz => ?_) (fun hz => ?_)
 ·skip
  (refine G0 rfl rfl (fun _ => rfl) ?_; intro g2)
  refine xN [2] [0,2] rfl <| B6 <| a3c rfl rfl (by (simp; done)) (by rfl) trivial ?_
  (have h0 : xs = [] := (by simpa using hz); subst h0; rfl)
 skip
 (refine xO rfl rfl (by simp) rfl (fun _ => rfl) (fun _ => rfl) ?_; intro g2)
 refine xN [2] [0,2] rfl <| B6 <| a3c rfl rfl (by (simp; done)) (by exact B8 fun _ => rfl) trivial ?_
 rfl

theorem b1g : E5 Try.f19 = [0, 2, 9, 4, 5, 15, 6, 31, 37, 3] := by kernel_rfl
theorem c4y (xs : List Int) (hl : xs.length ≤ 10) (hv : vd xs = true) : ∃ res outs, (fun res outs => ∃ l : List Int, res = .own 1 (l.map iV) ∧ outs = [] ∧ (l = [] ↔ xs.Nodup)) res outs ∧ CW cxT 19 [L xs] = some (res, outs) := by
 have hsl := b1y xs
 refine L6 rfl Try.func19 rfl ⟨by kernel_rfl, rfl, dT rfl, dT rfl, by decide⟩ b1g <| A3 <| A0 ?_
 (refine G0 rfl rfl (fun _ => rfl) ?_; intro g2)
 refine xN [0] [] rfl <| A3 <| A3 <| A0 <| y_M rfl ?_
 refine xC1 rfl rfl (a0b xs (by omega)) ⟨rfl, rfl, rfl⟩ rfl rfl fun g8 => ?_
 refine a2o rfl <| xN [0,9] [] rfl ?_
 refine A9 rfl (fun hc => ?_) (fun hc => ?_)
 ·try simp only [SD] at hc
  exact absurd hv (by simp_all)
 try simp only [SL] at hc
 refine C0 <| A3 <| A0 ?_
 (refine G0 rfl rfl (fun _ => rfl) ?_; intro g3)
 refine xN [0,3] [3] rfl <| A3 <| A0 <| y_M rfl ?_
 apply xC rfl
 ·apply A6
  ·exact B0 rfl
  exact E6
 ·exact c3a xs (by simp only [M1]; omega)
 refine ⟨⟨rfl, rfl, rfl, dT rfl, rfl⟩, .inl rfl, C6, O3, fun _ => rfl, fun g11 => ?_⟩
 simp only [List.length_map]
 (refine xO rfl rfl (by simp) rfl (fun _ => rfl) (fun _ => rfl) ?_; intro g4)
 refine xN [3,4] [3,4] rfl <| A3 <| A3 <| A0 <| y_S rfl <| xN [3,4,5] [3,4] rfl <| C5 <| G5 (β := Nat × List Int × Nat) [(.t 4, _), (.h 4, _)] (fun (z : Nat × List Int × Nat) => match z with | (i, l, g) => [(.t 5, iV i), (.t 3, .sl 3 g none 0 l.length), (.h 3, .obj g 0 1 (l.map iV))]) (fun (z : Nat × List Int × Nat) => match z with | (i, l, g) => i ≤ (sortI xs).length ∧ l.length ≤ i ∧ (i = 0 ∨ i = (sortI xs).length ∨ (sortI xs).getD (i - 1) default ≠ (sortI xs).getD i default) ∧ (l = [] ↔ NA (sortI xs) i)) (fun (z : Nat × List Int × Nat) => match z with | (i, l, g) => (sortI xs).length - i) (0, [], _) ⟨rfl, rfl, rfl, rfl, rfl, trivial⟩ ⟨by omega, Nat.le_refl _, .inl rfl, ⟨fun _ j hj => absurd hj (Nat.not_lt_zero _), fun _ => rfl⟩⟩ ?_
 intro z hb
 obtain ⟨i, l, g⟩ := z
 try dsimp only at hb
 obtain ⟨hi1, hll, hbi, hls⟩ := hb
 refine A3 <| A3 <| A0 <| y_M rfl <| y_M rfl <| G9 rfl rfl <| I9 rfl rfl <| xN [3,4,5,15] [3,4] rfl ?_
 refine A9 rfl ?_ ?_ <;> intro hc <;> try simp only [SL] at hc
 ·refine C0 <| C5 <| A3 <| A0 <| y_M rfl <| y_S rfl <| xN [3,4,5,6] [3,4] rfl <| A3 <| C5 <| G5 (β := Nat) [(.t 3, _), (.t 4, _), (.t 5, _), (.h 3, _), (.h 4, _)] (fun (k : Nat) => [(.t 6, iV k)]) (fun (k : Nat) => i ≤ k ∧ k ≤ (sortI xs).length ∧ ∀ j, i ≤ j → j < k → (sortI xs).getD j default = (sortI xs).getD i default) (fun (k : Nat) => (sortI xs).length - k) i ⟨rfl, rfl, rfl, rfl, rfl, rfl, trivial⟩ ⟨Nat.le_refl _, hi1, fun j h1 h2 => absurd h2 (by omega)⟩ ?_
  intro k hb
  obtain ⟨hk1, hk2, hgr⟩ := hb
  refine A3 <| A3 <| A0 <| y_M rfl <| y_M rfl <| G9 rfl rfl <| I9 rfl rfl <| y_M rfl ?_
  refine B2 rfl rfl ?_ ?_ <;> intro hg0 <;> have hg := hg0 <;> try simp only [SG] at hg
  ·refine y_M rfl <| gT rfl rfl <| y_M rfl <| gT rfl rfl <| K8 rfl rfl rfl rfl (by omega) (by (simp; done)) rfl <| gT rfl rfl <| M5 rfl rfl (by omega) (fun _ => rfl) (fun _ => rfl) rfl <| gT rfl rfl <| y_M rfl <| gT rfl rfl <| y_M rfl <| gT rfl rfl <| K8 rfl rfl rfl rfl (by omega) (by (simp; done)) rfl <| gT rfl rfl <| M5 rfl rfl (by omega) (fun _ => rfl) (fun _ => rfl) rfl <| gT rfl rfl <| M6 rfl rfl <| C7 rfl (by assumption) rfl rfl ?_
   refine P4 ⟨fun _ => ⟨by decide +kernel, by decide +kernel⟩, [(.t 3, _), (.t 4, _), (.t 5, _), (.t 6, _), (.t 31, _), (.h 3, _), (.h 4, _)], ⟨rfl, rfl, rfl, rfl, rfl, rfl, rfl, rfl, rfl, rfl, rfl, rfl, rfl, rfl, trivial⟩, ?_⟩
   refine A9 rfl ?_ ?_ <;> intro hc <;> try simp only [SL] at hc
   ·refine C0 <| C5 <| A0 <| y_M rfl <| D4 rfl rfl (B1 (by omega)) <| y_S rfl <| xN [3,4,5,6] [3,4] rfl ?_
    refine ⟨k + 1, ⟨by omega, by omega, fun j h1 h2 => by rcases Nat.lt_succ_iff_lt_or_eq.1 h2 with h | h; (· exact hgr j h1 h); (· subst h; omega)⟩, (by omega), ⟨rfl, rfl, rfl, rfl, rfl, rfl, trivial⟩⟩
   refine G6 <| A3 <| A3 <| A0 ?_
   have hki : i < k := by
    rcases Nat.lt_or_ge i k with h | h
    ·exact h
    exfalso
    obtain rfl : k = i := by omega
    omega
   have hbd : k = 0 ∨ k = (sortI xs).length ∨ (sortI xs).getD (k - 1) default ≠ (sortI xs).getD k default := by have hgl := hgr (k - 1) (by omega) (by omega); omega
   refine y_M rfl <| y_M rfl <| N1 rfl rfl (B1 (by omega)) <| J0 rfl rfl <| xN [3,4,5,6,37] [3,4] rfl ?_
   refine A9 rfl ?_ ?_ <;> intro hc <;> try simp only [SL] at hc
   ·refine A0 <| y_M rfl <| y_M rfl <| y_M rfl <| N1 rfl rfl (B1 (by omega)) <| D6 (es := List.map iV [(k : Int) - (i : Int)]) rfl rfl (dT rfl) rfl rfl (fun _ => E7 (B8 fun _ => rfl)) (fun _ => rfl) ?_
    intro g42
    refine xA rfl rfl rfl rfl (by simp) (by simp) rfl rfl rfl rfl rfl (fun _ => rfl) (by simp only [LN]; omega) (fun _ => rfl) ?_
    intro g43
    (refine xO rfl rfl (by simp) rfl (fun _ => rfl) (fun _ => rfl) ?_; intro g3)
    refine xN [3,4,6] [3,4] rfl <| A0 <| y_M rfl <| y_S rfl <| xN [3,4,5] [3,4] rfl ?_
    refine ⟨(k, l ++ [(k : Int) - (i : Int)], _), ?_, (by simp only; omega), ⟨rfl, rfl, rfl, rfl, rfl, trivial⟩⟩
    exact ⟨by omega, by rw [List.length_append]; simp only [List.length_singleton]; omega, hbd, c4l (i := i) (by omega) hgr _⟩
   refine C0 <| A0 <| y_M rfl <| y_S rfl <| xN [3,4,5] [3,4] rfl ?_
   refine ⟨(k, l, _), ?_, (by simp only; omega), ⟨rfl, rfl, rfl, rfl, rfl, trivial⟩⟩
   exact ⟨by omega, by omega, hbd, by rw [show k = i + 1 by omega]; exact c7b (by rcases hbi with h | h | h; (· exact .inl h); (· omega); (· exact .inr h)) hls⟩
  iterate 8 refine gF rfl rfl ?_
  refine B5 rfl (by assumption) rfl rfl ?_
  refine P4 ⟨fun _ => ⟨by decide +kernel, by decide +kernel⟩, [(.t 3, _), (.t 4, _), (.t 5, _), (.t 6, _), (.t 31, _), (.h 3, _), (.h 4, _)], ⟨rfl, rfl, rfl, rfl, rfl, rfl, rfl, rfl, rfl, rfl, rfl, rfl, rfl, rfl, trivial⟩, ?_⟩
  refine A9 rfl (fun hc => absurd hc (by decide)) (fun hc => ?_)
  refine G6 <| A3 <| A3 <| A0 ?_
  have hki : i < k := by
   rcases Nat.lt_or_ge i k with h | h
   ·exact h
   exfalso
   obtain rfl : k = i := by omega
   omega
  have hbd : k = 0 ∨ k = (sortI xs).length ∨ (sortI xs).getD (k - 1) default ≠ (sortI xs).getD k default := by have hgl := hgr (k - 1) (by omega) (by omega); omega
  refine y_M rfl <| y_M rfl <| N1 rfl rfl (B1 (by omega)) <| J0 rfl rfl <| xN [3,4,5,6,37] [3,4] rfl ?_
  refine A9 rfl ?_ ?_ <;> intro hc <;> try simp only [SL] at hc
  ·refine A0 <| y_M rfl <| y_M rfl <| y_M rfl <| N1 rfl rfl (B1 (by omega)) <| D6 (es := List.map iV [(k : Int) - (i : Int)]) rfl rfl (dT rfl) rfl rfl (fun _ => E7 (B8 fun _ => rfl)) (fun _ => rfl) ?_
   intro g42
   refine xA rfl rfl rfl rfl (by simp) (by simp) rfl rfl rfl rfl rfl (fun _ => rfl) (by simp only [LN]; omega) (fun _ => rfl) ?_
   intro g43
   (refine xO rfl rfl (by simp) rfl (fun _ => rfl) (fun _ => rfl) ?_; intro g3)
   refine xN [3,4,6] [3,4] rfl <| A0 <| y_M rfl <| y_S rfl <| xN [3,4,5] [3,4] rfl ?_
   refine ⟨(k, l ++ [(k : Int) - (i : Int)], _), ?_, (by simp only; omega), ⟨rfl, rfl, rfl, rfl, rfl, trivial⟩⟩
   exact ⟨by omega, by rw [List.length_append]; simp only [List.length_singleton]; omega, hbd, c4l (i := i) (by omega) hgr _⟩
  refine C0 <| A0 <| y_M rfl <| y_S rfl <| xN [3,4,5] [3,4] rfl ?_
  refine ⟨(k, l, _), ?_, (by simp only; omega), ⟨rfl, rfl, rfl, rfl, rfl, trivial⟩⟩
  exact ⟨by omega, by omega, hbd, by rw [show k = i + 1 by omega]; exact c7b (by rcases hbi with h | h | h; (· exact .inl h); (· omega); (· exact .inr h)) hls⟩
 refine G6 <| A3 <| A0 <| y_M rfl ?_
 apply xC rfl
 ·apply A6
  ·exact c5y rfl rfl (by (simp; done)) (B8 fun _ => rfl)
  exact E6
 ·exact c5b l (by simp only [M1]; omega)
 refine ⟨⟨rfl, rfl, rfl, dT rfl, rfl⟩, .inl rfl, C6, O3, fun _ => rfl, fun g46 => ?_⟩
 (refine xO rfl rfl (by simp) rfl (fun _ => rfl) (fun _ => rfl) ?_; intro g2)
 refine xN [2] [2] rfl <| B6 ?_
 refine ⟨_, _, ?_, a1x rfl rfl (by simp) (by exact B8 fun _ => rfl) F9⟩
 exact ⟨l, rfl, rfl, by rw [hls, show i = (sortI xs).length by omega]; exact c7q⟩

theorem b2d : E5 Try.f5 = [0, 1, 4, 5, 30, 6] := by kernel_rfl
theorem c5x (a b : List Int) (ha : a.length ≤ 1048576) (hb : b.length ≤ 1048576) : CW cxT 5 [L a, L b] = some (.tup [iV (gX a b).1, iV (gX a b).2], []) := by
 refine F0 rfl Try.func5 rfl ⟨by kernel_rfl, rfl, dT rfl, dT rfl, by decide⟩ b2d <| A3 <| A0 <| y_S rfl <| y_S rfl <| xN [0,1] [] rfl <| A3 <| A3 <| A0 <| y_M rfl <| y_M rfl ?_
 refine xC2 rfl rfl rfl (b6j a b ha hb) ⟨rfl, rfl, rfl⟩ rfl rfl fun g9 => ?_
 refine a2o rfl <| y_M rfl ?_
 refine B2 rfl rfl ?_ ?_ <;> intro hg0 <;> have hg := hg0 <;> try simp only [SG] at hg
 ·refine y_M rfl <| gT rfl rfl <| B9 rfl rfl <| gT rfl rfl <| J0 rfl rfl <| B5 rfl (by assumption) rfl rfl <| y_M rfl ?_
  refine B2 rfl rfl ?_ ?_ <;> intro hg0 <;> have hg := hg0 <;> try simp only [SG] at hg
  ·refine y_M rfl <| gT rfl rfl <| B9 rfl rfl <| gT rfl rfl <| J0 rfl rfl <| B5 rfl (by assumption) rfl rfl <| y_M rfl ?_
   refine B2 rfl rfl ?_ ?_ <;> intro hg0 <;> have hg := hg0 <;> try simp only [SG] at hg
   ·refine D6 (es := List.map iV []) rfl rfl (dT rfl) rfl rfl (fun _ => E7 (B8 fun _ => rfl)) (fun _ => rfl) ?_
    intro g22
    refine gT rfl rfl <| y_M rfl <| gT rfl rfl <| K3 rfl rfl rfl (by (simp; done)) rfl rfl rfl (dT rfl) (fun _ => ⟨rfl, rfl, rfl⟩) (by simp only [M1]; (simp only [List.length_nil, List.length_cons, List.length_append, Nat.zero_add, List.length_map]; omega)) (fun _ => rfl) ?_
    intro g24
    refine gT rfl rfl ?_
    simp only [List.nil_append]
    refine y_M rfl <| gT rfl rfl <| K3 rfl rfl rfl (by (simp; done)) rfl rfl rfl (dT rfl) (fun _ => ⟨rfl, rfl, rfl⟩) (by simp only [M1]; omega) (fun _ => rfl) ?_
    intro g26
    refine gT rfl rfl ?_
    have hvs := b8r (a := a) (b := b) (by simp_all)
    obtain ⟨_, _, ⟨tl, rfl, rfl, htl⟩, hCt⟩ := c5z (a ++ b) hvs.2 hvs.1
    apply xC rfl
    ·apply A6
     ·exact G8 rfl rfl rfl (by (simp; done)) (fun _ => rfl)
     exact E6
    ·exact hCt
    refine ⟨⟨rfl, rfl, rfl, dT rfl, rfl⟩, .inr ⟨S7 fun _ => rfl, rfl⟩, C6, O3, fun _ => rfl, fun g27 => ?_⟩
    refine gT rfl rfl <| G9 rfl rfl <| gT rfl rfl <| J0 rfl rfl <| B5 rfl (by assumption) rfl rfl <| xN [0,1,30] [] rfl ?_
    refine A9 rfl ?_ ?_ <;> intro hc <;> try simp only [SL] at hc
    ·refine A3 <| A0 <| y_S rfl <| y_S rfl <| xN [4,5] [] rfl <| B6 <| N5 (K5 rfl rfl (K5 rfl rfl (S4 F9))) ?_
     (rw [a3e (Bool.eq_false_iff.2 fun h => by obtain ⟨h1, h2, h3, h4⟩ := I7.1 h; (simp_all; done))]; rfl)
    refine C0 <| A3 <| A0 ?_
    have hok : gok a b = true := I7.2 ⟨by simp_all, by omega, by omega, htl.1 (List.eq_nil_of_length_eq_zero (by omega))⟩
    have hsm := a2d.1 (I7.1 hok).1
    have hgp := a7z hsm.2.2.2.1 hsm.2.2.2.2 (I7.1 hok).2.2.2
    have hgb := a7c a b (by omega) (by omega) (a ++ b)
    have hcb := (Gp.chN_bd (a.length + b.length) (by omega) a.length (by omega)).1
    have hpf := a7b (a := a) (b := b) (by omega) (by omega) hgp
    unfold a6d at hpf
    refine y_M rfl <| B9 rfl rfl <| y_M rfl <| B9 rfl rfl <| D4 rfl rfl (B1 (by omega)) <| y_M rfl <| B9 rfl rfl ?_
    refine xC2 rfl rfl rfl (c0t (a.length + b.length) a.length (by omega) (by omega)) ⟨rfl, rfl, rfl⟩ rfl rfl fun g38 => ?_
    refine y_S rfl <| xN [0,1,6] [] rfl <| A3 <| A0 <| y_M rfl <| y_M rfl <| B9 rfl rfl <| y_M rfl <| B9 rfl rfl <| y_M rfl <| y_M rfl ?_
    refine xC2 rfl rfl rfl (c7h a b (by omega) (by omega)) ⟨rfl, rfl, rfl⟩ rfl rfl fun g46 => ?_
    refine N1 rfl rfl (B1 (by omega)) ?_
    rw [show ((P0 a b (a ++ b) : Int) - 1) = ((P0 a b (a ++ b) - 1 : Nat) : Int) by omega]
    apply xC rfl
    ·apply A6
     ·exact B0 rfl
     apply A6
     ·exact B0 rfl
     apply A6
     ·exact B0 rfl
     apply A6
     ·exact B0 rfl
     apply A6
     ·exact B0 rfl
     exact E6
    ·exact b5f a.length b.length (P0 a b (a ++ b) - 1) 0 0 (a.length + b.length) (by omega) (by omega) (by omega) (by omega) (by omega) (by omega)
    refine ⟨⟨rfl, rfl, rfl, dT rfl, rfl⟩, .inl rfl, C6, D5 rfl, fun _ => rfl, fun g48 => ?_⟩
    refine N1 rfl rfl (B1 (by omega)) <| y_M rfl <| y_S rfl <| y_S rfl <| xN [4,5] [] rfl <| B6 <| N5 (K5 rfl rfl (K5 rfl rfl (S4 F9))) ?_
    (rw [b7j hok, show ((Gp.chN (a.length + b.length) a.length : Nat) : Int) - ((Gp.pF a.length b.length (P0 a b (a ++ b) - 1) (a.length + b.length) 0 0 : Nat) : Int) = (b0e a b : Int) by omega]; rfl)
   iterate 7 refine gF rfl rfl ?_
   refine C7 rfl (by assumption) rfl rfl <| xN [0,1,30] [] rfl ?_
   refine A9 rfl (fun hc => ?_) (fun hc => absurd hc (by decide))
   refine A3 <| A0 <| y_S rfl <| y_S rfl <| xN [4,5] [] rfl <| B6 <| N5 (K5 rfl rfl (K5 rfl rfl (S4 F9))) ?_
   (rw [a3e (Bool.eq_false_iff.2 fun h => by obtain ⟨h1, h2, h3, h4⟩ := I7.1 h; omega)]; rfl)
  refine gF rfl rfl <| gF rfl rfl <| C7 rfl (by assumption) rfl rfl <| y_M rfl ?_
  iterate 8 refine A8 rfl rfl rfl ?_
  refine C7 rfl rfl rfl rfl <| xN [0,1,30] [] rfl ?_
  refine A9 rfl (fun hc => ?_) (fun hc => absurd hc (by decide))
  refine A3 <| A0 <| y_S rfl <| y_S rfl <| xN [4,5] [] rfl <| B6 <| N5 (K5 rfl rfl (K5 rfl rfl (S4 F9))) ?_
  (rw [a3e (Bool.eq_false_iff.2 fun h => by obtain ⟨h1, h2, h3, h4⟩ := I7.1 h; omega)]; rfl)
 refine gF rfl rfl <| gF rfl rfl <| C7 rfl (by assumption) rfl rfl <| y_M rfl <| A8 rfl rfl rfl <| A8 rfl rfl rfl <| A8 rfl rfl rfl <| C7 rfl rfl rfl rfl <| y_M rfl ?_
 iterate 8 refine A8 rfl rfl rfl ?_
 refine C7 rfl rfl rfl rfl <| xN [0,1,30] [] rfl ?_
 refine A9 rfl (fun hc => ?_) (fun hc => absurd hc (by decide))
 refine A3 <| A0 <| y_S rfl <| y_S rfl <| xN [4,5] [] rfl <| B6 <| N5 (K5 rfl rfl (K5 rfl rfl (S4 F9))) ?_
 (rw [a3e (Bool.eq_false_iff.2 fun h => by obtain ⟨h1, h2, h3, h4⟩ := I7.1 h; (simp_all; done))]; rfl)

theorem b2x : E5 Try.f12 = [0, 1, 2, 6, 21, 8, 24, 9, 29, 32, 40, 7, 52, 68] := by kernel_rfl
theorem c6l (m n d : Nat) (hm : 1 ≤ m ∧ m ≤ 6) (hn : 1 ≤ n ∧ n ≤ 6) (hd : d ≤ 1000) : CW cxT 12 [nV m, nV n, nV d] = some (nV (Gp.fw m n d m n), []) := by
 refine F0 rfl Try.func12 rfl ⟨by kernel_rfl, rfl, dT rfl, dT rfl, by decide⟩ b2x <| A3 <| A0 <| y_S rfl <| xN [0,1,2] [] rfl <| A3 <| A3 <| A0 <| y_M rfl ?_
 refine xC3 rfl rfl rfl rfl ((by have h := c7f (m : Int) 1 6; rw [show (decide ((1 : Int) ≤ (m : Int)) && decide ((m : Int) ≤ 6)) = true by simp; omega] at h; exact h)) ⟨rfl, rfl, rfl⟩ rfl rfl fun g11 => ?_
 refine a2o rfl <| y_M rfl <| S0 rfl rfl rfl <| y_M rfl <| S0 rfl rfl rfl ?_
 refine xC3 rfl rfl rfl rfl ((by have h := c7f (n : Int) 1 6; rw [show (decide ((1 : Int) ≤ (n : Int)) && decide ((n : Int) ≤ 6)) = true by simp; omega] at h; exact h)) ⟨rfl, rfl, rfl⟩ rfl rfl fun g15 => ?_
 refine S0 rfl rfl rfl <| a2o rfl <| B5 rfl rfl rfl rfl <| y_M rfl <| S0 rfl rfl rfl <| y_M rfl <| S0 rfl rfl rfl <| I9 rfl rfl <| B5 rfl rfl rfl rfl <| xN [0,1,2,21] [] rfl ?_
 refine A9 rfl (fun hc => ?_) (fun hc => ?_)
 ·try simp only [SD] at hc
  exact absurd hc (by omega)
 try simp only [SL] at hc
 refine C0 <| A3 <| A0 <| y_A rfl (fun _ => rfl) ?_
 intro g7
 refine xN [0,1,2,7] [7] rfl <| A3 <| A3 <| A0 <| y_S rfl <| xN [0,1,2,7,8] [7] rfl <| C5 <| G5 (β := Nat × List Int) [(.t 0, _), (.t 1, _), (.t 2, _), (.t 7, _)] (fun (z : Nat × List Int) => match z with | (i, fs) => [(.t 8, iV i), (.h 7, .obj g7 3 49 [.agg (fs.map iV)])]) (fun (z : Nat × List Int) => match z with | (i, fs) => i ≤ m + 1 ∧ Tb m n d i 0 fs) (fun (z : Nat × List Int) => match z with | (i, fs) => m + 1 - i) (0, List.replicate 49 0) ⟨rfl, rfl, rfl, rfl, rfl, rfl, trivial⟩ ⟨Nat.zero_le _, c5e m n d⟩ ?_
 intro z hb
 obtain ⟨i, fs⟩ := z
 try dsimp only at hb
 obtain ⟨hi1, htb0⟩ := hb
 have htl0 := htb0.1
 refine A3 <| A3 <| A0 <| y_M rfl <| y_M rfl <| Z3 rfl rfl <| xN [0,1,2,7,8,24] [7] rfl ?_
 refine A9 rfl ?_ ?_ <;> intro hc <;> try simp only [SL] at hc
 ·refine C0 <| A3 <| C5 <| A3 <| A0 <| y_S rfl <| xN [0,1,2,7,8,9] [7] rfl <| C5 <| G5 (β := Nat × List Int) [(.t 0, _), (.t 1, _), (.t 2, _), (.t 7, _), (.t 8, _)] (fun (z : Nat × List Int) => match z with | (k, fs) => [(.t 9, iV k), (.h 7, .obj g7 3 49 [.agg (fs.map iV)])]) (fun (z : Nat × List Int) => match z with | (k, fs) => k ≤ n + 1 ∧ Tb m n d i k fs) (fun (z : Nat × List Int) => match z with | (k, fs) => n + 1 - k) (0, fs) ⟨rfl, rfl, rfl, rfl, rfl, rfl, rfl, trivial⟩ ⟨Nat.zero_le _, htb0⟩ ?_
  intro z hb
  obtain ⟨k, fs⟩ := z
  try dsimp only at hb
  obtain ⟨hk1, htb⟩ := hb
  have htl := htb.1
  refine A3 <| A3 <| A0 <| y_M rfl <| y_M rfl <| Z3 rfl rfl <| xN [0,1,2,7,8,9,29] [7] rfl ?_
  refine A9 rfl ?_ ?_ <;> intro hc <;> try simp only [SL] at hc
  ·refine C0 <| A3 <| C5 <| A3 <| C5 <| A3 <| A0 <| y_M rfl <| y_M rfl <| y_M rfl <| y_M rfl ?_
   apply xC rfl
   ·apply A6
    ·exact B0 rfl
    apply A6
    ·exact B0 rfl
    apply A6
    ·exact B0 rfl
    apply A6
    ·exact B0 rfl
    exact E6
   ·exact a6z i k m n (by omega) (by omega) (by omega) (by omega)
   refine ⟨⟨rfl, rfl, rfl, dT rfl, rfl⟩, .inl rfl, C6, D5 rfl, fun _ => rfl, fun g37 => ?_⟩
   refine y_M rfl <| J0 rfl rfl <| y_S rfl <| xN [0,1,2,7,8,9,32] [7] rfl ?_
   refine A9 rfl ?_ ?_ <;> intro hc <;> try simp only [SL] at hc
   ·refine G6 <| A0 <| y_M rfl <| D4 rfl rfl (B1 (by omega)) <| y_S rfl <| xN [0,1,2,7,8,9] [7] rfl ?_
    refine ⟨(k + 1, _), ?_, (by simp only; omega), ⟨rfl, rfl, rfl, rfl, rfl, rfl, rfl, trivial⟩⟩
    exact ⟨by omega, b7z htb (by omega) (by omega) (by omega) (by omega)⟩
   refine A3 <| A0 <| y_M rfl <| M6 rfl rfl <| y_M rfl ?_
   refine B2 rfl rfl ?_ ?_ <;> intro hg0 <;> have hg := hg0 <;> try simp only [SG] at hg
   ·refine y_M rfl <| gT rfl rfl <| M6 rfl rfl <| C7 rfl (by assumption) rfl rfl <| y_S rfl <| xN [0,1,2,7,8,9,40] [7] rfl ?_
    refine A9 rfl ?_ ?_ <;> intro hc <;> try simp only [SL] at hc
    ·refine A0 <| y_M rfl <| y_M rfl <| A5 7 rfl rfl rfl rfl rfl (by omega) rfl <| A5 1 rfl rfl rfl rfl rfl (by omega) rfl <| I3 rfl rfl rfl (by omega) rfl (by decide) (O5 _) <| xN [0,1,2,7,8,9] [7] rfl <| A3 <| A3 <| A0 <| y_M rfl <| J0 rfl rfl <| xN [0,1,2,7,8,9,52] [7] rfl ?_
     refine A9 rfl ?_ ?_ <;> intro hc <;> try simp only [SL] at hc
     ·refine A0 <| y_M rfl <| y_M rfl <| A5 7 rfl rfl rfl rfl rfl (by omega) rfl <| A5 1 rfl rfl rfl rfl rfl (by omega) rfl <| E9 rfl rfl (by omega) ⟨rfl, rfl, rfl⟩ <| y_M rfl <| N1 rfl rfl (B1 (by omega)) <| y_M rfl ?_
      rw [show ((i : Int) - 1) = ((i - 1 : Nat) : Int) by omega]
      refine A5 7 rfl rfl rfl rfl rfl (by omega) rfl <| A5 1 rfl rfl rfl rfl rfl (by omega) rfl <| E9 rfl rfl (by omega) ⟨rfl, rfl, rfl⟩ ?_
      have hbA := a3h htb
      have hb1 := hbA (0 + i * 7 + k * 1)
      have hb2 := hbA (0 + (i - 1) * 7 + k * 1)
      have hb3 := hbA (0 + i * 7 + (k - 1) * 1)
      refine D4 rfl rfl (B1 (by omega)) <| A5 7 rfl rfl rfl rfl rfl (by omega) rfl <| A5 1 rfl rfl rfl rfl rfl (by omega) rfl <| I3 rfl rfl rfl (by omega) rfl (by decide) (O5 _) ?_
      refine P4 ⟨fun _ => ⟨by decide +kernel, by decide +kernel⟩, [(.t 0, _), (.t 1, _), (.t 2, _), (.t 7, _), (.t 8, _), (.t 9, _), (.h 7, _)], ⟨rfl, rfl, rfl, rfl, rfl, rfl, rfl, rfl, rfl, rfl, rfl, rfl, rfl, rfl, trivial⟩, ?_⟩
      refine A3 <| A0 <| y_M rfl <| J0 rfl rfl <| xN [0,1,2,7,8,9,68] [7] rfl ?_
      refine A9 rfl ?_ ?_ <;> intro hc <;> try simp only [SL] at hc
      ·refine A0 <| y_M rfl <| y_M rfl <| A5 7 rfl rfl rfl rfl rfl (by omega) rfl <| A5 1 rfl rfl rfl rfl rfl (by omega) rfl <| E9 rfl rfl (by omega) ⟨rfl, rfl, rfl⟩ <| y_M rfl <| y_M rfl <| N1 rfl rfl (B1 (by omega)) ?_
       rw [show ((k : Int) - 1) = ((k - 1 : Nat) : Int) by omega]
       refine A5 7 rfl rfl rfl rfl rfl (by omega) rfl <| A5 1 rfl rfl rfl rfl rfl (by omega) rfl <| E9 rfl rfl (by omega) ⟨rfl, rfl, rfl⟩ ?_
       have hbA := a3h htb
       have hb1 := hbA (0 + i * 7 + k * 1)
       have hb2 := hbA (0 + (i - 1) * 7 + k * 1)
       have hb3 := hbA (0 + i * 7 + (k - 1) * 1)
       have hbS := a2c (p := 0 + i * 7 + k * 1) (v := fs.getD (0 + i * 7 + k * 1) 0 + fs.getD (0 + (i - 1) * 7 + k * 1) 0) hbA (by omega) (by omega)
       have hb4 := hbS (0 + i * 7 + k * 1)
       have hb5 := hbS (0 + i * 7 + (k - 1) * 1)
       refine D4 rfl rfl (B1 (by omega)) <| A5 7 rfl rfl rfl rfl rfl (by omega) rfl <| A5 1 rfl rfl rfl rfl rfl (by omega) rfl <| I3 rfl rfl rfl (by omega) rfl (by decide) (O5 _) ?_
       refine P4 ⟨fun _ => ⟨by decide +kernel, by decide +kernel⟩, [(.t 0, _), (.t 1, _), (.t 2, _), (.t 7, _), (.t 8, _), (.t 9, _), (.h 7, _)], ⟨rfl, rfl, rfl, rfl, rfl, rfl, rfl, rfl, rfl, rfl, rfl, rfl, rfl, rfl, trivial⟩, ?_⟩
       refine A0 <| y_M rfl <| D4 rfl rfl (B1 (by omega)) <| y_S rfl <| xN [0,1,2,7,8,9] [7] rfl ?_
       refine ⟨(k + 1, _), ?_, (by simp only; omega), ⟨rfl, rfl, rfl, rfl, rfl, rfl, rfl, trivial⟩⟩
       (exfalso; omega)
      refine C0 <| A0 <| y_M rfl <| D4 rfl rfl (B1 (by omega)) <| y_S rfl <| xN [0,1,2,7,8,9] [7] rfl ?_
      refine ⟨(k + 1, _), ?_, (by simp only; omega), ⟨rfl, rfl, rfl, rfl, rfl, rfl, rfl, trivial⟩⟩
      (exfalso; omega)
     refine C0 <| A3 <| A0 <| y_M rfl <| J0 rfl rfl <| xN [0,1,2,7,8,9,68] [7] rfl ?_
     refine A9 rfl ?_ ?_ <;> intro hc <;> try simp only [SL] at hc
     ·refine A0 <| y_M rfl <| y_M rfl <| A5 7 rfl rfl rfl rfl rfl (by omega) rfl <| A5 1 rfl rfl rfl rfl rfl (by omega) rfl <| E9 rfl rfl (by omega) ⟨rfl, rfl, rfl⟩ <| y_M rfl <| y_M rfl <| N1 rfl rfl (B1 (by omega)) ?_
      rw [show ((k : Int) - 1) = ((k - 1 : Nat) : Int) by omega]
      refine A5 7 rfl rfl rfl rfl rfl (by omega) rfl <| A5 1 rfl rfl rfl rfl rfl (by omega) rfl <| E9 rfl rfl (by omega) ⟨rfl, rfl, rfl⟩ ?_
      have hbA := a3h htb
      have hb1 := hbA (0 + i * 7 + k * 1)
      have hb2 := hbA (0 + (i - 1) * 7 + k * 1)
      have hb3 := hbA (0 + i * 7 + (k - 1) * 1)
      have hbS := a2c (p := 0 + i * 7 + k * 1) (v := fs.getD (0 + i * 7 + k * 1) 0 + fs.getD (0 + (i - 1) * 7 + k * 1) 0) hbA (by omega) (by omega)
      have hb4 := hbS (0 + i * 7 + k * 1)
      have hb5 := hbS (0 + i * 7 + (k - 1) * 1)
      refine D4 rfl rfl (B1 (by omega)) <| A5 7 rfl rfl rfl rfl rfl (by omega) rfl <| A5 1 rfl rfl rfl rfl rfl (by omega) rfl <| I3 rfl rfl rfl (by omega) rfl (by decide) (O5 _) ?_
      refine P4 ⟨fun _ => ⟨by decide +kernel, by decide +kernel⟩, [(.t 0, _), (.t 1, _), (.t 2, _), (.t 7, _), (.t 8, _), (.t 9, _), (.h 7, _)], ⟨rfl, rfl, rfl, rfl, rfl, rfl, rfl, rfl, rfl, rfl, rfl, rfl, rfl, rfl, trivial⟩, ?_⟩
      refine A0 <| y_M rfl <| D4 rfl rfl (B1 (by omega)) <| y_S rfl <| xN [0,1,2,7,8,9] [7] rfl ?_
      refine ⟨(k + 1, _), ?_, (by simp only; omega), ⟨rfl, rfl, rfl, rfl, rfl, rfl, rfl, trivial⟩⟩
      (exfalso; omega)
     refine C0 <| A0 <| y_M rfl <| D4 rfl rfl (B1 (by omega)) <| y_S rfl <| xN [0,1,2,7,8,9] [7] rfl ?_
     refine ⟨(k + 1, _), ?_, (by simp only; omega), ⟨rfl, rfl, rfl, rfl, rfl, rfl, rfl, trivial⟩⟩
     exact ⟨by omega, c9i htb (by omega) (by omega)⟩
    refine C0 <| A3 <| A3 <| A0 <| y_M rfl <| J0 rfl rfl <| xN [0,1,2,7,8,9,52] [7] rfl ?_
    refine A9 rfl ?_ ?_ <;> intro hc <;> try simp only [SL] at hc
    ·refine A0 <| y_M rfl <| y_M rfl <| A5 7 rfl rfl rfl rfl rfl (by omega) rfl <| A5 1 rfl rfl rfl rfl rfl (by omega) rfl <| E9 rfl rfl (by omega) ⟨rfl, rfl, rfl⟩ <| y_M rfl <| N1 rfl rfl (B1 (by omega)) <| y_M rfl ?_
     rw [show ((i : Int) - 1) = ((i - 1 : Nat) : Int) by omega]
     refine A5 7 rfl rfl rfl rfl rfl (by omega) rfl <| A5 1 rfl rfl rfl rfl rfl (by omega) rfl <| E9 rfl rfl (by omega) ⟨rfl, rfl, rfl⟩ ?_
     have hbA := a3h htb
     have hb1 := hbA (0 + i * 7 + k * 1)
     have hb2 := hbA (0 + (i - 1) * 7 + k * 1)
     have hb3 := hbA (0 + i * 7 + (k - 1) * 1)
     refine D4 rfl rfl (B1 (by omega)) <| A5 7 rfl rfl rfl rfl rfl (by omega) rfl <| A5 1 rfl rfl rfl rfl rfl (by omega) rfl <| I3 rfl rfl rfl (by omega) rfl (by decide) (O5 _) ?_
     refine P4 ⟨fun _ => ⟨by decide +kernel, by decide +kernel⟩, [(.t 0, _), (.t 1, _), (.t 2, _), (.t 7, _), (.t 8, _), (.t 9, _), (.h 7, _)], ⟨rfl, rfl, rfl, rfl, rfl, rfl, rfl, rfl, rfl, rfl, rfl, rfl, rfl, rfl, trivial⟩, ?_⟩
     refine A3 <| A0 <| y_M rfl <| J0 rfl rfl <| xN [0,1,2,7,8,9,68] [7] rfl ?_
     refine A9 rfl ?_ ?_ <;> intro hc <;> try simp only [SL] at hc
     ·refine A0 <| y_M rfl <| y_M rfl <| A5 7 rfl rfl rfl rfl rfl (by omega) rfl <| A5 1 rfl rfl rfl rfl rfl (by omega) rfl <| E9 rfl rfl (by omega) ⟨rfl, rfl, rfl⟩ <| y_M rfl <| y_M rfl <| N1 rfl rfl (B1 (by omega)) ?_
      rw [show ((k : Int) - 1) = ((k - 1 : Nat) : Int) by omega]
      refine A5 7 rfl rfl rfl rfl rfl (by omega) rfl <| A5 1 rfl rfl rfl rfl rfl (by omega) rfl <| E9 rfl rfl (by omega) ⟨rfl, rfl, rfl⟩ ?_
      have hbA := a3h htb
      have hb1 := hbA (0 + i * 7 + k * 1)
      have hb2 := hbA (0 + (i - 1) * 7 + k * 1)
      have hb3 := hbA (0 + i * 7 + (k - 1) * 1)
      have hbS := a2c (p := 0 + i * 7 + k * 1) (v := fs.getD (0 + i * 7 + k * 1) 0 + fs.getD (0 + (i - 1) * 7 + k * 1) 0) hbA (by omega) (by omega)
      have hb4 := hbS (0 + i * 7 + k * 1)
      have hb5 := hbS (0 + i * 7 + (k - 1) * 1)
      refine D4 rfl rfl (B1 (by omega)) <| A5 7 rfl rfl rfl rfl rfl (by omega) rfl <| A5 1 rfl rfl rfl rfl rfl (by omega) rfl <| I3 rfl rfl rfl (by omega) rfl (by decide) (O5 _) ?_
      refine P4 ⟨fun _ => ⟨by decide +kernel, by decide +kernel⟩, [(.t 0, _), (.t 1, _), (.t 2, _), (.t 7, _), (.t 8, _), (.t 9, _), (.h 7, _)], ⟨rfl, rfl, rfl, rfl, rfl, rfl, rfl, rfl, rfl, rfl, rfl, rfl, rfl, rfl, trivial⟩, ?_⟩
      refine A0 <| y_M rfl <| D4 rfl rfl (B1 (by omega)) <| y_S rfl <| xN [0,1,2,7,8,9] [7] rfl ?_
      refine ⟨(k + 1, _), ?_, (by simp only; omega), ⟨rfl, rfl, rfl, rfl, rfl, rfl, rfl, trivial⟩⟩
      exact ⟨by omega, c3j htb (by omega) (by omega) (by omega) (by omega) (by omega) (by omega)⟩
     refine C0 <| A0 <| y_M rfl <| D4 rfl rfl (B1 (by omega)) <| y_S rfl <| xN [0,1,2,7,8,9] [7] rfl ?_
     refine ⟨(k + 1, _), ?_, (by simp only; omega), ⟨rfl, rfl, rfl, rfl, rfl, rfl, rfl, trivial⟩⟩
     exact ⟨by omega, c6z htb (by omega) (by omega) (by omega) (by omega)⟩
    refine C0 <| A3 <| A0 <| y_M rfl <| J0 rfl rfl <| xN [0,1,2,7,8,9,68] [7] rfl ?_
    refine A9 rfl ?_ ?_ <;> intro hc <;> try simp only [SL] at hc
    ·refine A0 <| y_M rfl <| y_M rfl <| A5 7 rfl rfl rfl rfl rfl (by omega) rfl <| A5 1 rfl rfl rfl rfl rfl (by omega) rfl <| E9 rfl rfl (by omega) ⟨rfl, rfl, rfl⟩ <| y_M rfl <| y_M rfl <| N1 rfl rfl (B1 (by omega)) ?_
     rw [show ((k : Int) - 1) = ((k - 1 : Nat) : Int) by omega]
     refine A5 7 rfl rfl rfl rfl rfl (by omega) rfl <| A5 1 rfl rfl rfl rfl rfl (by omega) rfl <| E9 rfl rfl (by omega) ⟨rfl, rfl, rfl⟩ ?_
     have hbA := a3h htb
     have hb1 := hbA (0 + i * 7 + k * 1)
     have hb2 := hbA (0 + (i - 1) * 7 + k * 1)
     have hb3 := hbA (0 + i * 7 + (k - 1) * 1)
     have hbS := a2c (p := 0 + i * 7 + k * 1) (v := fs.getD (0 + i * 7 + k * 1) 0 + fs.getD (0 + (i - 1) * 7 + k * 1) 0) hbA (by omega) (by omega)
     have hb4 := hbS (0 + i * 7 + k * 1)
     have hb5 := hbS (0 + i * 7 + (k - 1) * 1)
     refine D4 rfl rfl (B1 (by omega)) <| A5 7 rfl rfl rfl rfl rfl (by omega) rfl <| A5 1 rfl rfl rfl rfl rfl (by omega) rfl <| I3 rfl rfl rfl (by omega) rfl (by decide) (O5 _) ?_
     refine P4 ⟨fun _ => ⟨by decide +kernel, by decide +kernel⟩, [(.t 0, _), (.t 1, _), (.t 2, _), (.t 7, _), (.t 8, _), (.t 9, _), (.h 7, _)], ⟨rfl, rfl, rfl, rfl, rfl, rfl, rfl, rfl, rfl, rfl, rfl, rfl, rfl, rfl, trivial⟩, ?_⟩
     refine A0 <| y_M rfl <| D4 rfl rfl (B1 (by omega)) <| y_S rfl <| xN [0,1,2,7,8,9] [7] rfl ?_
     refine ⟨(k + 1, _), ?_, (by simp only; omega), ⟨rfl, rfl, rfl, rfl, rfl, rfl, rfl, trivial⟩⟩
     exact ⟨by omega, c6t htb (by omega) (by omega) (by omega) (by omega) (by omega)⟩
    refine C0 <| A0 <| y_M rfl <| D4 rfl rfl (B1 (by omega)) <| y_S rfl <| xN [0,1,2,7,8,9] [7] rfl ?_
    refine ⟨(k + 1, _), ?_, (by simp only; omega), ⟨rfl, rfl, rfl, rfl, rfl, rfl, rfl, trivial⟩⟩
    exact ⟨by omega, b7z htb (by omega) (by omega) (by omega) (by omega)⟩
   refine gF rfl rfl <| B5 rfl (by assumption) rfl rfl <| y_S rfl <| xN [0,1,2,7,8,9,40] [7] rfl ?_
   refine A9 rfl (fun hc => absurd hc (by decide)) (fun hc => ?_)
   refine C0 <| A3 <| A3 <| A0 <| y_M rfl <| J0 rfl rfl <| xN [0,1,2,7,8,9,52] [7] rfl ?_
   refine A9 rfl ?_ ?_ <;> intro hc <;> try simp only [SL] at hc
   ·refine A0 <| y_M rfl <| y_M rfl <| A5 7 rfl rfl rfl rfl rfl (by omega) rfl <| A5 1 rfl rfl rfl rfl rfl (by omega) rfl <| E9 rfl rfl (by omega) ⟨rfl, rfl, rfl⟩ <| y_M rfl <| N1 rfl rfl (B1 (by omega)) <| y_M rfl ?_
    rw [show ((i : Int) - 1) = ((i - 1 : Nat) : Int) by omega]
    refine A5 7 rfl rfl rfl rfl rfl (by omega) rfl <| A5 1 rfl rfl rfl rfl rfl (by omega) rfl <| E9 rfl rfl (by omega) ⟨rfl, rfl, rfl⟩ ?_
    have hbA := a3h htb
    have hb1 := hbA (0 + i * 7 + k * 1)
    have hb2 := hbA (0 + (i - 1) * 7 + k * 1)
    have hb3 := hbA (0 + i * 7 + (k - 1) * 1)
    refine D4 rfl rfl (B1 (by omega)) <| A5 7 rfl rfl rfl rfl rfl (by omega) rfl <| A5 1 rfl rfl rfl rfl rfl (by omega) rfl <| I3 rfl rfl rfl (by omega) rfl (by decide) (O5 _) ?_
    refine P4 ⟨fun _ => ⟨by decide +kernel, by decide +kernel⟩, [(.t 0, _), (.t 1, _), (.t 2, _), (.t 7, _), (.t 8, _), (.t 9, _), (.h 7, _)], ⟨rfl, rfl, rfl, rfl, rfl, rfl, rfl, rfl, rfl, rfl, rfl, rfl, rfl, rfl, trivial⟩, ?_⟩
    refine A3 <| A0 <| y_M rfl <| J0 rfl rfl <| xN [0,1,2,7,8,9,68] [7] rfl ?_
    refine A9 rfl ?_ ?_ <;> intro hc <;> try simp only [SL] at hc
    ·refine A0 <| y_M rfl <| y_M rfl <| A5 7 rfl rfl rfl rfl rfl (by omega) rfl <| A5 1 rfl rfl rfl rfl rfl (by omega) rfl <| E9 rfl rfl (by (simp; omega)) ⟨rfl, rfl, rfl⟩ <| y_M rfl <| y_M rfl <| N1 rfl rfl (B1 (by omega)) ?_
     rw [show ((k : Int) - 1) = ((k - 1 : Nat) : Int) by omega]
     refine A5 7 rfl rfl rfl rfl rfl (by omega) rfl <| A5 1 rfl rfl rfl rfl rfl (by omega) rfl <| E9 rfl rfl (by (simp; omega)) ⟨rfl, rfl, rfl⟩ ?_
     have hbA := a3h htb
     have hb1 := hbA (0 + i * 7 + k * 1)
     have hb2 := hbA (0 + (i - 1) * 7 + k * 1)
     have hb3 := hbA (0 + i * 7 + (k - 1) * 1)
     have hbS := a2c (p := 0 + i * 7 + k * 1) (v := fs.getD (0 + i * 7 + k * 1) 0 + fs.getD (0 + (i - 1) * 7 + k * 1) 0) hbA (by omega) (by omega)
     have hb4 := hbS (0 + i * 7 + k * 1)
     have hb5 := hbS (0 + i * 7 + (k - 1) * 1)
     refine D4 rfl rfl (B1 (by omega)) <| A5 7 rfl rfl rfl rfl rfl (by omega) rfl <| A5 1 rfl rfl rfl rfl rfl (by omega) rfl <| I3 rfl rfl rfl (by (simp; omega)) rfl (by decide) (O5 _) ?_
     refine P4 ⟨fun _ => ⟨by decide +kernel, by decide +kernel⟩, [(.t 0, _), (.t 1, _), (.t 2, _), (.t 7, _), (.t 8, _), (.t 9, _), (.h 7, _)], ⟨rfl, rfl, rfl, rfl, rfl, rfl, rfl, rfl, rfl, rfl, rfl, rfl, rfl, rfl, trivial⟩, ?_⟩
     refine A0 <| y_M rfl <| D4 rfl rfl (B1 (by omega)) <| y_S rfl <| xN [0,1,2,7,8,9] [7] rfl ?_
     refine ⟨(k + 1, _), ?_, (by simp only; omega), ⟨rfl, rfl, rfl, rfl, rfl, rfl, rfl, trivial⟩⟩
     exact ⟨by omega, c3j htb (by omega) (by omega) (by omega) (by omega) (by omega) (by omega)⟩
    refine C0 <| A0 <| y_M rfl <| D4 rfl rfl (B1 (by omega)) <| y_S rfl <| xN [0,1,2,7,8,9] [7] rfl ?_
    refine ⟨(k + 1, _), ?_, (by simp only; omega), ⟨rfl, rfl, rfl, rfl, rfl, rfl, rfl, trivial⟩⟩
    exact ⟨by omega, c6z htb (by omega) (by omega) (by omega) (by omega)⟩
   refine C0 <| A3 <| A0 <| y_M rfl <| J0 rfl rfl <| xN [0,1,2,7,8,9,68] [7] rfl ?_
   refine A9 rfl ?_ ?_ <;> intro hc <;> try simp only [SL] at hc
   ·refine A0 <| y_M rfl <| y_M rfl <| A5 7 rfl rfl rfl rfl rfl (by omega) rfl <| A5 1 rfl rfl rfl rfl rfl (by omega) rfl <| E9 rfl rfl (by omega) ⟨rfl, rfl, rfl⟩ <| y_M rfl <| y_M rfl <| N1 rfl rfl (B1 (by omega)) ?_
    rw [show ((k : Int) - 1) = ((k - 1 : Nat) : Int) by omega]
    refine A5 7 rfl rfl rfl rfl rfl (by omega) rfl <| A5 1 rfl rfl rfl rfl rfl (by omega) rfl <| E9 rfl rfl (by omega) ⟨rfl, rfl, rfl⟩ ?_
    have hbA := a3h htb
    have hb1 := hbA (0 + i * 7 + k * 1)
    have hb2 := hbA (0 + (i - 1) * 7 + k * 1)
    have hb3 := hbA (0 + i * 7 + (k - 1) * 1)
    have hbS := a2c (p := 0 + i * 7 + k * 1) (v := fs.getD (0 + i * 7 + k * 1) 0 + fs.getD (0 + (i - 1) * 7 + k * 1) 0) hbA (by omega) (by omega)
    have hb4 := hbS (0 + i * 7 + k * 1)
    have hb5 := hbS (0 + i * 7 + (k - 1) * 1)
    refine D4 rfl rfl (B1 (by omega)) <| A5 7 rfl rfl rfl rfl rfl (by omega) rfl <| A5 1 rfl rfl rfl rfl rfl (by omega) rfl <| I3 rfl rfl rfl (by omega) rfl (by decide) (O5 _) ?_
    refine P4 ⟨fun _ => ⟨by decide +kernel, by decide +kernel⟩, [(.t 0, _), (.t 1, _), (.t 2, _), (.t 7, _), (.t 8, _), (.t 9, _), (.h 7, _)], ⟨rfl, rfl, rfl, rfl, rfl, rfl, rfl, rfl, rfl, rfl, rfl, rfl, rfl, rfl, trivial⟩, ?_⟩
    refine A0 <| y_M rfl <| D4 rfl rfl (B1 (by omega)) <| y_S rfl <| xN [0,1,2,7,8,9] [7] rfl ?_
    refine ⟨(k + 1, _), ?_, (by simp only; omega), ⟨rfl, rfl, rfl, rfl, rfl, rfl, rfl, trivial⟩⟩
    exact ⟨by omega, c6t htb (by omega) (by omega) (by omega) (by omega) (by omega)⟩
   refine C0 <| A0 <| y_M rfl <| D4 rfl rfl (B1 (by omega)) <| y_S rfl <| xN [0,1,2,7,8,9] [7] rfl ?_
   refine ⟨(k + 1, _), ?_, (by simp only; omega), ⟨rfl, rfl, rfl, rfl, rfl, rfl, rfl, trivial⟩⟩
   exact ⟨by omega, b7z htb (by omega) (by omega) (by omega) (by omega)⟩
  refine G6 <| A0 <| y_M rfl <| D4 rfl rfl (B1 (by omega)) <| y_S rfl <| xN [0,1,2,7,8] [7] rfl ?_
  refine ⟨(i + 1, fs), ?_, (by simp only; omega), ⟨rfl, rfl, rfl, rfl, rfl, rfl, trivial⟩⟩
  exact ⟨by omega, c7j (by rw [show n + 1 = k by omega]; exact htb)⟩
 refine G6 <| A3 <| A0 <| y_M rfl <| y_M rfl <| A5 7 rfl rfl rfl rfl rfl (by omega) rfl <| A5 1 rfl rfl rfl rfl rfl (by omega) rfl <| E9 rfl rfl (by omega) ⟨rfl, rfl, rfl⟩ <| y_S rfl <| xN [6] [] rfl <| B6 <| C1 rfl rfl trivial ?_
 rw [show 0 + m * 7 + n * 1 = m * 7 + n by omega, b4k htb0 (by omega) (by omega) (by omega)]

theorem a9r : E5 Try.f20 = [0, 2, 11, 10, 12, 9, 5, 3, 20, 27, 26, 28, 25, 8, 6] := by kernel_rfl
theorem b6h (a b : List Int) (h : 1 ≤ a.length + b.length) (ha : a.length ≤ 10) (hb : b.length ≤ 10) : CW cxT 20 [.list (List.map L [a, b])] = some (.own 1 ((a ++ b).map iV), []) := by
 refine F0 rfl Try.func20 rfl ⟨by kernel_rfl, rfl, dT rfl, dT rfl, by decide⟩ a9r <| A3 <| A0 ?_
 (refine G0 rfl rfl (fun _ => rfl) ?_; intro g2)
 refine xN [0] [] rfl <| A3 <| A0 <| y_S rfl <| xN [0,3] [] rfl <| A3 <| A3 <| A0 <| y_M rfl <| B9 rfl rfl <| y_M rfl <| xN [0,3,9,10,11] [] rfl <| C5 <| V5 <| A3 <| A0 <| I9 rfl rfl <| xN [0,3,9,10,11,12] [] rfl <| A3 ?_
 refine A9 rfl (fun hc => ?_) (fun hc => absurd hc (by exact fun h => Bool.noConfusion (show true = false from h)))
 refine C0 <| A3 <| C5 <| A3 <| A0 <| I2 (f := L) (xs := [a, b]) (n := 0) rfl rfl rfl (fun _ => rfl) (by simp) ?_
 rw [show [a, b].getD (0 : Int).toNat default = a from rfl]
 refine y_I rfl <| y_S rfl <| xN [0,3,5,9,10,11] [] rfl <| A3 <| A0 <| y_M rfl <| y_M rfl <| B9 rfl rfl <| D4 rfl rfl (B1 (by omega)) <| y_S rfl <| xN [0,3,9,10,11] [] rfl <| A3 <| A0 <| y_M rfl <| I9 rfl rfl <| xN [0,3,9,10,11,20] [] rfl ?_
 refine A9 rfl (fun hc => ?_) (fun hc => ?_)
 ·try simp only [SD] at hc
  exact absurd hc (by omega)
 try simp only [SL] at hc
 refine C0 <| A0 <| D4 rfl rfl (B1 (by omega)) <| y_M rfl <| xN [0,3,9,10,11] [] rfl <| V5 <| A3 <| A0 <| I9 rfl rfl <| xN [0,3,9,10,11,12] [] rfl <| A3 ?_
 refine A9 rfl (fun hc => ?_) (fun hc => absurd hc (by exact fun h => Bool.noConfusion (show true = false from h)))
 refine C0 <| A3 <| C5 <| A3 <| A0 <| I2 (f := L) (xs := [a, b]) (n := 0 + 1) rfl rfl rfl (fun _ => rfl) (by simp) ?_
 rw [show [a, b].getD (0 + 1 : Int).toNat default = b from rfl]
 refine y_I rfl <| y_S rfl <| xN [0,3,5,9,10,11] [] rfl <| A3 <| A0 <| y_M rfl <| y_M rfl <| B9 rfl rfl <| D4 rfl rfl (B1 (by omega)) <| y_S rfl <| xN [0,3,9,10,11] [] rfl <| A3 <| A0 <| y_M rfl <| I9 rfl rfl <| xN [0,3,9,10,11,20] [] rfl ?_
 refine A9 rfl (fun hc => ?_) (fun hc => ?_)
 ·try simp only [SD] at hc
  exact absurd hc (by omega)
 try simp only [SL] at hc
 refine C0 <| A0 <| D4 rfl rfl (B1 (by omega)) <| y_M rfl <| xN [0,3,9,10,11] [] rfl <| V5 <| A3 <| A0 <| I9 rfl rfl <| xN [0,3,9,10,11,12] [] rfl <| A3 ?_
 refine A9 rfl (fun hc => absurd hc (by exact fun h => Bool.noConfusion (show false = true from h))) (fun hc => ?_)
 refine G6 <| A3 <| A0 <| y_M rfl ?_
 apply xC rfl
 ·apply A6
  ·exact c6b (by decide)
  apply A6
  ·exact B0 rfl
  exact E6
 ·exact c7s _ (by omega)
 refine ⟨⟨rfl, rfl, rfl, dT rfl, rfl⟩, .inl rfl, C6, O3, fun _ => rfl, fun g24 => ?_⟩
 (refine xO rfl rfl (by simp) rfl (fun _ => rfl) (fun _ => rfl) ?_; intro g6)
 refine xN [0,6] [6] rfl <| A3 <| A3 <| A0 <| y_M rfl <| B9 rfl rfl <| y_M rfl <| xN [6,25,26,27] [6] rfl <| C5 <| V5 <| A3 <| A0 <| I9 rfl rfl <| xN [6,25,26,27,28] [6] rfl <| A3 ?_
 refine A9 rfl (fun hc => ?_) (fun hc => absurd hc (by exact fun h => Bool.noConfusion (show true = false from h)))
 refine C0 <| A3 <| C5 <| A3 <| A0 <| I2 (f := L) (xs := [a, b]) (n := 0) rfl rfl rfl (fun _ => rfl) (by simp) ?_
 rw [show [a, b].getD (0 : Int).toNat default = a from rfl]
 refine y_I rfl <| y_S rfl <| xN [6,8,25,26,27] [6] rfl <| A0 <| y_M rfl <| y_M rfl <| K3 rfl rfl rfl (by (simp; done)) rfl rfl rfl (dT rfl) (fun _ => ⟨rfl, rfl, rfl⟩) (by simp only [M1]; (simp only [List.length_nil, List.length_cons, List.length_append, Nat.zero_add, List.length_map]; omega)) (fun _ => rfl) ?_
 intro g33
 (refine xO rfl rfl (by simp) rfl (fun _ => rfl) (fun _ => rfl) ?_; intro g6)
 refine xN [6,25,26,27] [6] rfl <| A0 <| D4 rfl rfl (B1 (by omega)) <| y_M rfl <| xN [6,25,26,27] [6] rfl <| V5 <| A3 <| A0 <| I9 rfl rfl <| xN [6,25,26,27,28] [6] rfl <| A3 ?_
 refine A9 rfl (fun hc => ?_) (fun hc => absurd hc (by exact fun h => Bool.noConfusion (show true = false from h)))
 refine C0 <| A3 <| C5 <| A3 <| A0 <| I2 (f := L) (xs := [a, b]) (n := 0 + 1) rfl rfl rfl (fun _ => rfl) (by simp) ?_
 rw [show [a, b].getD (0 + 1 : Int).toNat default = b from rfl]
 refine y_I rfl <| y_S rfl <| xN [6,8,25,26,27] [6] rfl <| A0 <| y_M rfl <| y_M rfl <| K3 rfl rfl rfl (by (simp; done)) rfl rfl rfl (dT rfl) (fun _ => ⟨rfl, rfl, rfl⟩) (by simp only [M1]; (simp only [List.length_nil, List.length_cons, List.length_append, Nat.zero_add, List.length_map]; omega)) (fun _ => rfl) ?_
 intro g33
 (refine xO rfl rfl (by simp) rfl (fun _ => rfl) (fun _ => rfl) ?_; intro g6)
 refine xN [6,25,26,27] [6] rfl <| A0 <| D4 rfl rfl (B1 (by omega)) <| y_M rfl <| xN [6,25,26,27] [6] rfl <| V5 <| A3 <| A0 <| I9 rfl rfl <| xN [6,25,26,27,28] [6] rfl <| A3 ?_
 refine A9 rfl (fun hc => absurd hc (by exact fun h => Bool.noConfusion (show false = true from h))) (fun hc => ?_)
 refine G6 <| A3 <| A0 <| y_M rfl ?_
 (refine xO rfl rfl (by simp) rfl (fun _ => rfl) (fun _ => rfl) ?_; intro g2)
 refine xN [2] [2] rfl <| B6 <| a3c rfl rfl (by simp) (by exact B8 fun _ => rfl) trivial ?_
 rfl

theorem b3r : E5 Try.f24 = [0, 1, 4, 13, 12, 14, 11, 7, 5] := by kernel_rfl
theorem c3n (a b : List Int) (ha : a.length ≤ 10) (hb : b.length ≤ 10) (hp : 1 ≤ a.length + b.length) : CW cxT 24 [L a, L b] = some (nV (P0 a b (a ++ b)), []) := by
 have hab : (a ++ b).length ≤ 20 := by simp; omega
 refine F0 rfl Try.func24 rfl ⟨by kernel_rfl, rfl, dT rfl, dT rfl, by decide⟩ b3r <| A3 <| A0 <| y_S rfl <| xN [0,1] [] rfl <| A3 <| A0 ?_
 try rw [a1k]
 refine y_S rfl <| xN [0,1,5] [] rfl <| A3 <| A3 <| A0 <| y_M rfl <| y_M rfl <| D6 (es := List.map L [a, b]) rfl rfl (dT rfl) rfl rfl (fun _ => E7 (B8 fun _ => rfl)) (fun _ => rfl) ?_
 intro g10
 apply a5g rfl
 ·apply A6
  ·exact G8 rfl rfl rfl (by (simp; done)) (fun _ => rfl)
  exact E6
 ·exact b6h a b hp ha hb
 ·exact ⟨rfl, rfl, rfl, dT rfl, rfl⟩
 ·exact .inr ⟨S7 fun _ => rfl, rfl⟩
 ·exact C6
 ·exact O3
 ·(intro _; exact F4 (E7 (B8 fun _ => rfl)) rfl)
 intro g11
 simp only [List.length_map]
 refine G9 rfl rfl <| y_M rfl <| xN [0,1,5,11,12,13] [1000011] rfl <| C5 <| G5 (β := Nat × Nat) [(.t 0, _), (.t 1, _), (.t 11, _), (.t 12, _), (.h 1000011, _)] (fun (z : Nat × Nat) => match z with | (i, g) => [(.t 13, iV i), (.t 5, nV g)]) (fun (z : Nat × Nat) => match z with | (i, g) => i ≤ (a ++ b).length ∧ g = P0 a b ((a ++ b).take i)) (fun (z : Nat × Nat) => match z with | (i, g) => (a ++ b).length - i) (0, 0) ⟨rfl, rfl, rfl, rfl, rfl, rfl, rfl, trivial⟩ ⟨Nat.zero_le _, rfl⟩ ?_
 intro z hb
 obtain ⟨i, g⟩ := z
 try dsimp only at hb
 obtain ⟨hi1, hg0⟩ := hb
 have hca := X4 a ((a ++ b).getD i default)
 have hcb := X4 b ((a ++ b).getD i default)
 have hgb := a7c a b ha hb ((a ++ b).take i)
 rw [← hg0] at hgb
 refine A3 <| A0 <| I9 rfl rfl <| xN [0,1,5,11,12,13,14] [1000011] rfl <| A3 ?_
 refine A9 rfl ?_ ?_ <;> intro hc <;> try simp only [SL] at hc
 ·refine C0 <| A3 <| C5 <| A3 <| A0 <| K8 rfl rfl rfl rfl (by omega) (by (simp; done)) rfl <| M5 rfl rfl (by omega) (fun _ => rfl) (fun _ => rfl) rfl <| y_S rfl <| xN [0,1,5,7,11,12,13] [1000011] rfl <| A0 <| y_M rfl <| y_M rfl <| y_M rfl ?_
  refine xC2 rfl rfl rfl (b5u a (by omega) ((a ++ b).getD i default)) ⟨rfl, rfl, rfl⟩ rfl rfl fun g20 => ?_
  refine y_M rfl <| y_M rfl ?_
  refine xC2 rfl rfl rfl (b5u b (by omega) ((a ++ b).getD i default)) ⟨rfl, rfl, rfl⟩ rfl rfl fun g23 => ?_
  refine y_M rfl <| B9 rfl rfl <| y_M rfl <| B9 rfl rfl ?_
  have hq1 : cl a ((a ++ b).getD i default) * b.length ≤ 10 * 10 := Nat.mul_le_mul (by omega) hb
  have hq2 : cl b ((a ++ b).getD i default) * a.length ≤ 10 * 10 := Nat.mul_le_mul (by omega) ha
  have he1 : (cl a ((a ++ b).getD i default) : Int) * (b.length : Int) = ((cl a ((a ++ b).getD i default) * b.length : Nat) : Int) := by rw [Int.natCast_mul]
  have he2 : (cl b ((a ++ b).getD i default) : Int) * (a.length : Int) = ((cl b ((a ++ b).getD i default) * a.length : Nat) : Int) := by rw [Int.natCast_mul]
  apply xC rfl
  ·apply A6
   ·exact B0 rfl
   apply A6
   ·exact B0 rfl
   apply A6
   ·exact B0 rfl
   apply A6
   ·exact B0 rfl
   exact E6
  ·exact a6z (cl a ((a ++ b).getD i default)) (cl b ((a ++ b).getD i default)) a.length b.length (by omega) (by omega) (by omega) (by omega)
  refine ⟨⟨rfl, rfl, rfl, dT rfl, rfl⟩, .inl rfl, C6, D5 rfl, fun _ => rfl, fun g28 => ?_⟩
  refine b9a rfl rfl ?_
  try rw [a1k]
  refine y_S rfl <| xN [0,1,5,11,12,13] [1000011] rfl <| A0 <| D4 rfl rfl (B1 (by omega)) <| y_M rfl <| xN [0,1,5,11,12,13] [1000011] rfl ?_
  refine ⟨(i + 1, _), ?_, (by simp only; omega), ⟨rfl, rfl, rfl, rfl, rfl, rfl, rfl, trivial⟩⟩
  exact ⟨by omega, by rw [V4 (by omega), b0r, ← hg0]⟩
 refine G6 <| A3 <| A0 <| y_M rfl <| y_S rfl <| xN [4] [] rfl <| B6 <| C1 rfl rfl trivial ?_
 rw [hg0, List.take_of_length_le (by omega)]

theorem b1v : E5 Try.f10 = [0, 1, 4, 8] := by kernel_rfl
theorem c5u (a b : List Int) (ha : a.length ≤ 1048576) (hb : b.length ≤ 1048576) : CW cxT 10 [L a, L b] = some (iV (if smp a b = true then (P0 a b (a ++ b) : Int) else -1), []) := by
 refine F0 rfl Try.func10 rfl ⟨by kernel_rfl, rfl, dT rfl, dT rfl, by decide⟩ b1v <| A3 <| A0 <| y_S rfl <| xN [0,1] [] rfl <| A3 <| A3 <| A0 <| y_M rfl <| y_M rfl ?_
 refine xC2 rfl rfl rfl (a8b a b ha hb) ⟨rfl, rfl, rfl⟩ rfl rfl fun g7 => ?_
 refine a2o rfl <| xN [0,1,8] [] rfl ?_
 refine A9 rfl ?_ ?_ <;> intro hc <;> try simp only [SL] at hc
 ·refine A3 <| A0 <| y_S rfl <| xN [4] [] rfl <| B6 <| C1 rfl rfl trivial ?_
  (rw [if_neg (by simp_all)]; rfl)
 refine C0 <| A3 <| A0 <| y_M rfl <| y_M rfl ?_
 have hsm := a2d.1 (show smp a b = true by simp_all)
 refine xC2 rfl rfl rfl (c3n a b (by omega) (by omega) (by omega)) ⟨rfl, rfl, rfl⟩ rfl rfl fun g11 => ?_
 refine y_S rfl <| xN [4] [] rfl <| B6 <| C1 rfl rfl trivial ?_
 (rw [if_pos (by simp_all)]; done)

theorem a9t : E5 Try.f22 = [0, 1, 2, 3, 4, 13, 12, 14, 11, 10, 17, 6, 7, 8, 38] := by kernel_rfl
theorem c1u (r : List Bool) (a b : List Int) (ha : a.length ≤ 6) (hb : b.length ≤ 6) (h1 : 1 ≤ a.length + b.length) (hr : r.length ≤ 12) (x y : Nat) (hx : x ≤ 4096) (hy : y ≤ 4096) : ∃ res outs, (fun res outs => res = .tup [] ∧ outs = [r.map bV, [L a], [L b], [nV (x + 1)], [nV (up1 a b r y)]]) res outs ∧ CW cxT 22 [.own 1 (r.map bV), .ownp [L a] 0 0, .ownp [L b] 0 0, .ownp [nV x] 0 0, .ownp [nV y] 0 0] = some (res, outs) := by
 refine L6 rfl Try.func22 rfl ⟨by kernel_rfl, rfl, dT rfl, dT rfl, by decide⟩ a9t <| A3 <| A0 <| y_S rfl <| y_S rfl ?_
 try rw [a1k]
 refine y_S rfl <| xN [0,1,2,3,4,6,7,8] [0,1,2,3,4] rfl <| A3 <| A3 <| A0 <| y_M rfl <| G9 rfl rfl <| y_M rfl <| xN [1,2,3,4,6,7,8,11,12,13] [0,1,2,3,4] rfl <| C5 <| G5 (β := Nat × Nat × Nat × Nat) [(.t 1, _), (.t 2, _), (.t 3, _), (.t 4, _), (.t 11, _), (.t 12, _), (.h 0, _), (.h 1, _), (.h 2, _), (.h 3, _), (.h 4, _)] (fun (z : Nat × Nat × Nat × Nat) => match z with | (j, i, k, g) => [(.t 13, iV j), (.t 6, nV i), (.t 7, nV k), (.t 8, nV g)]) (fun (z : Nat × Nat × Nat × Nat) => match z with | (j, i, k, g) => j ≤ r.length ∧ Cst a.length b.length r j i k g) (fun (z : Nat × Nat × Nat × Nat) => match z with | (j, i, k, g) => r.length - j) (0, 0, 0, 0) ⟨rfl, rfl, rfl, rfl, rfl, rfl, rfl, rfl, rfl, rfl, rfl, rfl, rfl, rfl, rfl, trivial⟩ ⟨Nat.zero_le _, c4f⟩ ?_
 intro z hb
 obtain ⟨j, i, k, g⟩ := z
 try dsimp only at hb
 obtain ⟨hj1, hcs⟩ := hb
 have hlk := c5a hcs hj1
 refine A3 <| A0 <| I9 rfl rfl <| xN [1,2,3,4,6,7,8,11,12,13,14] [0,1,2,3,4] rfl <| A3 ?_
 refine A9 rfl ?_ ?_ <;> intro hc <;> try simp only [SL] at hc
 ·refine C0 <| A3 <| C5 <| A3 <| A0 <| K8 rfl rfl rfl rfl (by (simp; omega)) (by (simp; done)) rfl <| M5 rfl rfl (by omega) (fun _ => rfl) (fun _ => rfl) rfl <| y_S rfl <| xN [1,2,3,4,6,7,8,10,11,12,13] [0,1,2,3,4] rfl <| A3 <| A3 <| A0 <| y_M rfl <| xN [1,2,3,4,6,7,8,11,12,13,17] [0,1,2,3,4] rfl ?_
  refine A9 rfl ?_ ?_ <;> intro hc <;> try simp only [SL] at hc
  ·refine A0 <| y_M rfl <| D4 rfl rfl (B1 (by omega)) <| y_S rfl <| xN [1,2,3,4,6,7,8,11,12,13] [0,1,2,3,4] rfl <| A0 <| y_M rfl <| y_M rfl <| y_M rfl <| y_B rfl <| B9 rfl rfl <| y_B rfl <| B9 rfl rfl ?_
   apply xC rfl
   ·apply A6
    ·exact B0 rfl
    apply A6
    ·exact B0 rfl
    apply A6
    ·exact B0 rfl
    apply A6
    ·exact B0 rfl
    exact E6
   ·exact a6z (i + 1) k a.length b.length (by omega) (by omega) (by omega) (by omega)
   refine ⟨⟨rfl, rfl, rfl, dT rfl, rfl⟩, .inl rfl, C6, D5 rfl, fun _ => rfl, fun g29 => ?_⟩
   refine b9a rfl rfl ?_
   try rw [a1k]
   refine y_S rfl <| xN [1,2,3,4,6,7,8,11,12,13] [0,1,2,3,4] rfl <| A0 <| D4 rfl rfl (B1 (by omega)) <| y_M rfl <| xN [1,2,3,4,6,7,8,11,12,13] [0,1,2,3,4] rfl ?_
   refine ⟨(j + 1, i + 1, k, _), ?_, (by simp only; omega), ⟨rfl, rfl, rfl, rfl, rfl, rfl, rfl, rfl, rfl, rfl, rfl, rfl, rfl, rfl, rfl, trivial⟩⟩
   exact ⟨by omega, c3e true (by omega) (by assumption) hcs⟩
  refine A0 <| y_M rfl <| D4 rfl rfl (B1 (by omega)) <| y_S rfl <| xN [1,2,3,4,6,7,8,11,12,13] [0,1,2,3,4] rfl <| A0 <| y_M rfl <| y_M rfl <| y_M rfl <| y_B rfl <| B9 rfl rfl <| y_B rfl <| B9 rfl rfl ?_
  apply xC rfl
  ·apply A6
   ·exact B0 rfl
   apply A6
   ·exact B0 rfl
   apply A6
   ·exact B0 rfl
   apply A6
   ·exact B0 rfl
   exact E6
  ·exact a6z i (k + 1) a.length b.length (by omega) (by omega) (by omega) (by omega)
  refine ⟨⟨rfl, rfl, rfl, dT rfl, rfl⟩, .inl rfl, C6, D5 rfl, fun _ => rfl, fun g29 => ?_⟩
  refine b9a rfl rfl ?_
  try rw [a1k]
  refine y_S rfl <| xN [1,2,3,4,6,7,8,11,12,13] [0,1,2,3,4] rfl <| A0 <| D4 rfl rfl (B1 (by omega)) <| y_M rfl <| xN [1,2,3,4,6,7,8,11,12,13] [0,1,2,3,4] rfl ?_
  refine ⟨(j + 1, i, k + 1, _), ?_, (by simp only; omega), ⟨rfl, rfl, rfl, rfl, rfl, rfl, rfl, rfl, rfl, rfl, rfl, rfl, rfl, rfl, rfl, trivial⟩⟩
  exact ⟨by omega, c3e false (by omega) (by assumption) hcs⟩
 refine G6 <| A3 <| A0 <| y_B rfl <| D4 rfl rfl (B1 (by omega)) <| Z4 rfl rfl rfl rfl ⟨by decide, rfl, dT rfl, dT rfl, rfl⟩ rfl (by exact a4t rfl) <| xN [1,2,4,8] [0,1,2,3,4] rfl <| A3 <| A0 <| y_M rfl <| y_B rfl <| y_B rfl ?_
 refine xC2 rfl rfl rfl (c3n a b (by omega) (by omega) h1) ⟨rfl, rfl, rfl⟩ rfl rfl fun g37 => ?_
 refine b8z rfl rfl <| xN [4,38] [0,1,2,3,4] rfl ?_
 refine A9 rfl ?_ ?_ <;> intro hc <;> try simp only [SL] at hc
 ·refine A0 <| y_B rfl <| D4 rfl rfl (B1 (by omega)) <| Z4 rfl rfl rfl rfl ⟨by decide, rfl, dT rfl, dT rfl, rfl⟩ rfl (by exact a4t rfl) <| xN [] [0,1,2,3,4] rfl ?_
  refine ⟨_, _, ?_, a8s (H6 rfl (a1z fun _ => rfl) (H6 rfl rfl (H6 rfl rfl (H6 rfl rfl (H6 rfl rfl F9)))))⟩
  have hge := b9k hcs (by omega)
  unfold up1
  (rw [if_pos (by omega)]; exact ⟨rfl, rfl⟩)
 refine C0 ?_
 refine ⟨_, _, ?_, a8s (H6 rfl (a1z fun _ => rfl) (H6 rfl rfl (H6 rfl rfl (H6 rfl rfl (H6 rfl rfl F9)))))⟩
 have hge := b9k hcs (by omega)
 unfold up1
 (rw [if_neg (by omega)]; exact ⟨rfl, rfl⟩)

theorem a7m : E5 Try.f21 = [0, 1, 2, 14, 13, 15, 7, 23, 22, 24, 9, 6, 37, 8, 43] := by kernel_rfl
theorem c1c (a b : List Int) (ha : a.length ≤ 6) (hb : b.length ≤ 6) (h1 : 1 ≤ a.length + b.length) : ∃ res outs, (fun res outs => res = .tup [] ∧ outs = [[L a], [L b], [nV (a6d a b)], [nV (b0e a b)]]) res outs ∧ CW cxT 21 [nV a.length, nV b.length, .clo 22 [.ownp [L a] 0 0, .ownp [L b] 0 0, .ownp [nV 0] 0 0, .ownp [nV 0] 0 0]] = some (res, outs) := by
 have hpw : 2 ^ (a.length + b.length) ≤ 4096 := Nat.le_trans (Nat.pow_le_pow_right (by decide) (show a.length + b.length ≤ 12 by omega)) (by decide)
 obtain ⟨N, hN⟩ : ∃ N, N = a.length + b.length := ⟨_, rfl⟩
 rw [← hN] at hpw
 obtain ⟨Z, hZ⟩ : ∃ Z, Z = 2 ^ N := ⟨_, rfl⟩
 rw [← hZ] at hpw
 refine b7g ([(.h 100002, .obj 1 4 0 [L a]), (.h 200002, .obj 1 4 0 [L b]), (.h 300002, .obj 1 4 0 [nV 0]), (.h 400002, .obj 1 4 0 [nV 0])]) (a2f rfl (a2f rfl (a2f rfl (a2f rfl c3g)))) rfl Try.func21 rfl ⟨by kernel_rfl, rfl, dT rfl, dT rfl, by decide⟩ a7m <| A3 <| A0 <| y_M rfl <| y_M rfl <| D4 rfl rfl (B1 (by omega)) <| c7c (x := 1) (y := a.length + b.length) rfl rfl ⟨by omega, by rw [← hN, ← hZ]; omega⟩ ?_
 rw [← hN, ← hZ, Nat.one_mul]
 refine y_M rfl <| xN [0,1,2,13,14] [100002,200002,300002,400002] rfl <| C5 <| G5 (β := Nat × Nat × Nat) [(.t 0, _), (.t 1, _), (.t 2, _), (.t 13, _), (.h 100002, _), (.h 200002, _)] (fun (z : Nat × Nat × Nat) => match z with | (S, x, y) => [(.t 14, nV S), (.h 300002, .obj 1 4 0 [nV x]), (.h 400002, .obj 1 4 0 [nV y])]) (fun (z : Nat × Nat × Nat) => match z with | (S, x, y) => S ≤ Z ∧ Sst a b N S x y) (fun (z : Nat × Nat × Nat) => match z with | (S, x, y) => Z - S) (0, 0, 0) ⟨rfl, rfl, rfl, rfl, rfl, rfl, rfl, rfl, rfl, trivial⟩ ⟨Nat.zero_le _, c2m⟩ ?_
 intro z hb
 obtain ⟨S, x, y⟩ := z
 try dsimp only at hb
 obtain ⟨hS1, hst⟩ := hb
 have hbd := c7z hst
 refine A3 <| A0 <| I9 rfl rfl <| xN [0,1,2,13,14,15] [100002,200002,300002,400002] rfl <| A3 ?_
 refine A9 rfl ?_ ?_ <;> intro hc <;> try simp only [SL] at hc
 ·refine C0 <| A3 <| C5 <| A3 <| A0 <| y_M rfl <| y_S rfl <| xN [0,1,2,6,13,14] [100002,200002,300002,400002] rfl <| A3 <| A0 <| y_M rfl <| y_M rfl <| D4 rfl rfl (B1 (by omega)) ?_
  rw [show ((a.length : Int) + (b.length : Int)) = ((N : Nat) : Int) by omega]
  refine b5m (f := bV) (x0 := false) rfl rfl rfl rfl rfl (by simp only [M1]; omega) (dT rfl) (fun _ => E7 (by exact B8 fun _ => rfl)) (fun _ => rfl) ?_
  intro g20
  (refine xO rfl rfl (by simp) rfl (fun _ => rfl) (fun _ => rfl) ?_; intro g7)
  refine xN [0,1,2,6,7,13,14] [100002,200002,300002,400002,7] rfl <| A3 <| A0 <| y_S rfl <| xN [0,1,2,6,7,8,13,14] [100002,200002,300002,400002,7] rfl <| A3 <| A3 <| A0 <| y_M rfl <| G9 rfl rfl <| y_M rfl <| xN [0,1,2,6,7,8,13,14,22,23] [100002,200002,300002,400002,7] rfl <| C5 <| G5 (β := Nat × Nat × List Bool) [(.t 0, _), (.t 1, _), (.t 2, _), (.t 6, _), (.t 7, _), (.t 13, _), (.t 14, _), (.t 22, _), (.h 100002, _), (.h 200002, _), (.h 300002, _), (.h 400002, _)] (fun (z : Nat × Nat × List Bool) => match z with | (i, c, ys) => [(.t 23, nV i), (.t 8, nV c), (.h 7, .obj g7 0 1 (ys.map bV))]) (fun (z : Nat × Nat × List Bool) => match z with | (i, c, ys) => i ≤ N ∧ Rst N S i c ys) (fun (z : Nat × Nat × List Bool) => match z with | (i, c, ys) => N - i) (0, 0, List.replicate N false) ⟨rfl, rfl, rfl, rfl, rfl, rfl, rfl, rfl, rfl, rfl, rfl, rfl, rfl, rfl, rfl, trivial⟩ ⟨Nat.zero_le _, c2t⟩ ?_
  intro z hb
  obtain ⟨i, c, ys⟩ := z
  try dsimp only at hb
  obtain ⟨hi1, hrs⟩ := hb
  have hyl := hrs.1
  have hcl := c8f hrs
  refine A3 <| A0 <| I9 rfl rfl <| xN [0,1,2,6,7,8,13,14,22,23,24] [100002,200002,300002,400002,7] rfl <| A3 ?_
  refine A9 rfl ?_ ?_ <;> intro hc <;> try simp only [SL] at hc
  ·refine C0 <| A3 <| C5 <| A3 <| A0 <| y_M rfl <| y_S rfl <| xN [0,1,2,6,7,8,9,13,14,22,23] [100002,200002,300002,400002,7] rfl <| A3 <| A0 <| y_M rfl <| y_M rfl <| y_M rfl <| y_M rfl <| c8g (x := S) (y := i) rfl rfl (by omega) <| c7k rfl rfl (Nat.lt_of_le_of_lt (Nat.div_le_self S _) (by omega)) <| M6 rfl rfl ?_
   rw [c2j]
   refine K8 rfl rfl rfl rfl (by omega) (by (simp; omega)) rfl <| b1q rfl rfl rfl (by omega) (fun _ _ => ⟨rfl, rfl, dT rfl, dT rfl, rfl, rfl⟩) (by decide) (by exact E7 (B8 fun _ => rfl)) <| xN [0,1,2,6,7,8,9,13,14,22,23] [100002,200002,300002,400002,7] rfl <| A3 <| A0 <| y_M rfl <| y_M rfl <| K8 rfl rfl rfl rfl (by omega) (by (simp; omega)) rfl <| M5 rfl rfl (by (simp; omega)) (fun _ => rfl) (fun _ => rfl) rfl <| xN [0,1,2,6,7,8,13,14,22,23,37] [100002,200002,300002,400002,7] rfl ?_
   refine A9 rfl ?_ ?_ <;> intro hc <;> try simp only [SL] at hc
   ·rw [c1v (by omega)] at hc
    refine A0 <| y_M rfl <| D4 rfl rfl (B1 (by omega)) <| y_S rfl <| xN [0,1,2,6,7,8,13,14,22,23] [100002,200002,300002,400002,7] rfl <| A0 <| D4 rfl rfl (B1 (by omega)) <| y_M rfl <| xN [0,1,2,6,7,8,13,14,22,23] [100002,200002,300002,400002,7] rfl ?_
    refine ⟨(i + 1, c + 1, ys.set i (S.testBit i)), ?_, (by simp only; omega), ⟨rfl, rfl, rfl, rfl, rfl, rfl, rfl, rfl, rfl, rfl, rfl, rfl, rfl, rfl, rfl, trivial⟩⟩
    exact ⟨by omega, c4w true (by omega) (by assumption) hrs⟩
   rw [c1v (by omega)] at hc
   refine C0 <| A0 <| D4 rfl rfl (B1 (by omega)) <| y_M rfl <| xN [0,1,2,6,7,8,13,14,22,23] [100002,200002,300002,400002,7] rfl ?_
   refine ⟨(i + 1, c, ys.set i (S.testBit i)), ?_, (by simp only; omega), ⟨rfl, rfl, rfl, rfl, rfl, rfl, rfl, rfl, rfl, rfl, rfl, rfl, rfl, rfl, rfl, trivial⟩⟩
   exact ⟨by omega, c4w false (by omega) (by assumption) hrs⟩
  obtain ⟨hys, hcn⟩ := c5w (show i = N by omega) hrs
  subst hys
  have hlr := Gp.rowS_len N S
  refine G6 <| A3 <| A0 <| y_M rfl <| y_M rfl <| M6 rfl rfl <| xN [0,1,2,7,13,14,43] [100002,200002,300002,400002,7] rfl ?_
  refine A9 rfl ?_ ?_ <;> intro hc <;> try simp only [SL] at hc
  ·have hc1 : (Gp.rowS N S).count true = a.length := by omega
   refine A0 <| y_M rfl <| y_M rfl ?_
   obtain ⟨_, _, ⟨rfl, rfl⟩, hCl⟩ := c1u (Gp.rowS N S) a b ha hb h1 (by rw [Gp.rowS_len]; omega) x y (by omega) (by omega)
   apply b8w rfl rfl
   ·apply A6
    ·exact b4h rfl rfl (by decide) (by rw [List.length_map, Gp.rowS_len]; rfl) (a1z fun _ => rfl)
    apply A6
    ·exact L7 rfl (by decide) rfl
    apply A6
    ·exact L7 rfl (by decide) rfl
    apply A6
    ·exact L7 rfl (by decide) rfl
    apply A6
    ·exact L7 rfl (by decide) rfl
    exact E6
   ·exact hCl
   ·exact ⟨rfl, rfl, rfl, dT rfl, rfl⟩
   ·exact .inl rfl
   ·exact E8 rfl rfl (b4t _ _) (E8 rfl rfl rfl (E8 rfl rfl rfl (E8 rfl rfl rfl (E8 rfl rfl rfl C6))))
   ·exact Y1 rfl
   ·(intro _; exact F4 (E7 (B8 fun _ => rfl)) rfl)
   intro g46
   refine xN [0,1,2,13,14] [100002,200002,300002,400002] rfl <| A0 <| D4 rfl rfl (B1 (by omega)) <| y_M rfl <| xN [0,1,2,13,14] [100002,200002,300002,400002] rfl ?_
   refine ⟨(S + 1, x + 1, up1 a b (Gp.rowS N S) y), ?_, (by simp only; omega), ⟨rfl, rfl, rfl, rfl, rfl, rfl, rfl, rfl, rfl, trivial⟩⟩
   exact ⟨by omega, c5c hc1 hst⟩
  have hc1 : ¬ (Gp.rowS N S).count true = a.length := by omega
  refine C0 <| A0 <| D4 rfl rfl (B1 (by omega)) <| y_M rfl <| xN [0,1,2,13,14] [100002,200002,300002,400002] rfl ?_
  refine ⟨(S + 1, x, y), ?_, (by simp only; omega), ⟨rfl, rfl, rfl, rfl, rfl, rfl, rfl, rfl, rfl, trivial⟩⟩
  exact ⟨by omega, c7d hc1 hst⟩
 refine G6 ?_
 refine ⟨_, _, ?_, a8s (H6 rfl rfl (H6 rfl rfl (H6 rfl rfl (H6 rfl rfl F9))))⟩
 obtain ⟨rfl, rfl⟩ := c5t ha hb hN (show S = 2 ^ N by omega) hst
 exact ⟨rfl, rfl⟩

theorem b2z : E5 Try.f7 = [0, 1, 4, 5, 3, 2, 30, 7, 6] := by kernel_rfl
theorem c0b (a b : List Int) (ha : a.length ≤ 1048576) (hb : b.length ≤ 1048576) : CW cxT 7 [L a, L b] = some (.tup [iV (gX a b).1, iV (gX a b).2], []) := by
 refine F0 rfl Try.func7 rfl ⟨by kernel_rfl, rfl, dT rfl, dT rfl, by decide⟩ b2z <| A3 <| A0 <| b1f rfl rfl rfl (fun _ => L4 rfl) (fun _ => rfl) ?_
 intro g2
 refine b1f rfl rfl rfl (fun _ => L4 rfl) (fun _ => rfl) ?_
 intro g3
 refine y_S rfl <| y_S rfl <| xN [2,3] [2,3] rfl <| A3 <| A3 <| A0 <| y_B rfl <| y_B rfl ?_
 refine xC2 rfl rfl rfl (a8b a b ha hb) ⟨rfl, rfl, rfl⟩ rfl rfl fun g10 => ?_
 refine a2o rfl <| y_M rfl ?_
 refine B2 rfl rfl ?_ ?_ <;> intro hg0 <;> have hg := hg0 <;> try simp only [SG] at hg
 ·refine y_B rfl <| gT rfl rfl <| B9 rfl rfl <| gT rfl rfl <| J0 rfl rfl <| B5 rfl (by assumption) rfl rfl <| y_M rfl ?_
  refine B2 rfl rfl ?_ ?_ <;> intro hg0 <;> have hg := hg0 <;> try simp only [SG] at hg
  ·refine y_B rfl <| gT rfl rfl <| B9 rfl rfl <| gT rfl rfl <| J0 rfl rfl <| B5 rfl (by assumption) rfl rfl <| y_M rfl ?_
   refine B2 rfl rfl ?_ ?_ <;> intro hg0 <;> have hg := hg0 <;> try simp only [SG] at hg
   ·refine y_B rfl <| gT rfl rfl <| y_B rfl <| gT rfl rfl <| D6 (es := List.map L [a, b]) rfl rfl (dT rfl) rfl rfl (fun _ => E7 (B8 fun _ => rfl)) (fun _ => rfl) ?_
    intro g25
    refine gT rfl rfl ?_
    have hsm0 := a2d.1 (show smp a b = true by simp_all)
    apply xC rfl
    ·apply A6
     ·exact G8 rfl rfl rfl (by (simp; done)) (fun _ => rfl)
     exact E6
    ·exact b6h a b (by omega) (by omega) (by omega)
    refine ⟨⟨rfl, rfl, rfl, dT rfl, rfl⟩, .inr ⟨S7 fun _ => rfl, rfl⟩, C6, O3, fun _ => rfl, fun g26 => ?_⟩
    refine gT rfl rfl ?_
    have hvs := b8r (a := a) (b := b) (by simp_all)
    obtain ⟨_, _, ⟨tl, rfl, rfl, htl⟩, hCt⟩ := c4y (a ++ b) hvs.2 hvs.1
    apply xC rfl
    ·apply A6
     ·exact G8 rfl rfl rfl (by (simp; done)) (fun _ => rfl)
     exact E6
    ·exact hCt
    refine ⟨⟨rfl, rfl, rfl, dT rfl, rfl⟩, .inr ⟨S7 fun _ => rfl, rfl⟩, C6, O3, fun _ => rfl, fun g27 => ?_⟩
    refine gT rfl rfl <| G9 rfl rfl <| gT rfl rfl <| J0 rfl rfl <| B5 rfl (by assumption) rfl rfl <| xN [2,3,30] [2,3] rfl ?_
    refine A9 rfl ?_ ?_ <;> intro hc <;> try simp only [SL] at hc
    ·refine A3 <| A0 <| y_S rfl <| y_S rfl <| xN [4,5] [] rfl <| B6 <| N5 (K5 rfl rfl (K5 rfl rfl (S4 F9))) ?_
     (rw [a3e (Bool.eq_false_iff.2 fun h => by obtain ⟨h1, h2, h3, h4⟩ := I7.1 h; (simp_all; done))]; rfl)
    refine C0 <| A3 <| A0 <| y_A rfl (fun _ => rfl) ?_
    intro g6
    refine y_A rfl (fun _ => rfl) ?_
    intro g7
    iterate 2 refine xB rfl rfl rfl rfl rfl rfl rfl rfl rfl ?_
    refine xN [2,3,6,7] [2,3,6,7] rfl <| A3 <| A0 ?_
    have hok : gok a b = true := I7.2 ⟨by simp_all, by omega, by omega, htl.1 (List.eq_nil_of_length_eq_zero (by omega))⟩
    have hsm := a2d.1 (I7.1 hok).1
    refine y_B rfl <| B9 rfl rfl <| y_B rfl <| B9 rfl rfl <| a8d rfl rfl ?_
    obtain ⟨_, _, ⟨rfl, rfl⟩, hCl⟩ := c1c a b (by omega) (by omega) (by omega)
    apply xC rfl
    ·apply A6
     ·exact B0 rfl
     apply A6
     ·exact B0 rfl
     apply A6
     ·exact c5f rfl (b2j rfl (by decide) rfl (b2j rfl (by decide) rfl (b2j rfl (by decide) rfl (b2j rfl (by decide) rfl c7p))))
     exact E6
    ·exact hCl
    refine ⟨⟨rfl, rfl, rfl, dT rfl, rfl⟩, .inl rfl, E8 rfl rfl rfl (E8 rfl rfl rfl (E8 rfl rfl rfl (E8 rfl rfl rfl C6))), Y1 rfl, fun _ => rfl, fun g36 => ?_⟩
    refine xN [6,7] [6,7] rfl <| A3 <| A0 <| y_B rfl <| y_B rfl <| y_S rfl <| y_S rfl ?_
    refine P4 ⟨fun _ => ⟨by decide +kernel, by decide +kernel⟩, [(.t 4, _), (.t 5, _)], ⟨rfl, rfl, rfl, rfl, trivial⟩, ?_⟩
    refine B6 <| N5 (K5 rfl rfl (K5 rfl rfl (S4 F9))) ?_
    (rw [b7j hok]; rfl)
   iterate 6 refine gF rfl rfl ?_
   refine C7 rfl (by assumption) rfl rfl <| xN [2,3,30] [2,3] rfl ?_
   refine A9 rfl (fun hc => ?_) (fun hc => absurd hc (by decide))
   refine A3 <| A0 <| y_S rfl <| y_S rfl <| xN [4,5] [] rfl <| B6 <| N5 (K5 rfl rfl (K5 rfl rfl (S4 F9))) ?_
   (rw [a3e (Bool.eq_false_iff.2 fun h => by obtain ⟨h1, h2, h3, h4⟩ := I7.1 h; omega)]; rfl)
  refine gF rfl rfl <| gF rfl rfl <| C7 rfl (by assumption) rfl rfl <| y_M rfl ?_
  iterate 7 refine A8 rfl rfl rfl ?_
  refine C7 rfl rfl rfl rfl <| xN [2,3,30] [2,3] rfl ?_
  refine A9 rfl (fun hc => ?_) (fun hc => absurd hc (by decide))
  refine A3 <| A0 <| y_S rfl <| y_S rfl <| xN [4,5] [] rfl <| B6 <| N5 (K5 rfl rfl (K5 rfl rfl (S4 F9))) ?_
  (rw [a3e (Bool.eq_false_iff.2 fun h => by obtain ⟨h1, h2, h3, h4⟩ := I7.1 h; omega)]; rfl)
 refine gF rfl rfl <| gF rfl rfl <| C7 rfl (by assumption) rfl rfl <| y_M rfl <| A8 rfl rfl rfl <| A8 rfl rfl rfl <| A8 rfl rfl rfl <| C7 rfl rfl rfl rfl <| y_M rfl ?_
 iterate 7 refine A8 rfl rfl rfl ?_
 refine C7 rfl rfl rfl rfl <| xN [2,3,30] [2,3] rfl ?_
 refine A9 rfl (fun hc => ?_) (fun hc => absurd hc (by decide))
 refine A3 <| A0 <| y_S rfl <| y_S rfl <| xN [4,5] [] rfl <| B6 <| N5 (K5 rfl rfl (K5 rfl rfl (S4 F9))) ?_
 (rw [a3e (Bool.eq_false_iff.2 fun h => by obtain ⟨h1, h2, h3, h4⟩ := I7.1 h; (simp_all; done))]; rfl)

theorem a9l : E5 Try.f37 = [0, 1, 4, 5, 14, 6, 27, 28, 36] := by kernel_rfl
theorem b3o (bs : List Int) (p : Int) (hbs : a2q bs) (hl : bs.length ≤ 1048576) (hp : 0 ≤ p ∧ p ≤ 1000) (n : Int) (hn : 0 ≤ n ∧ n ≤ 10) : ∃ res outs, (fun res outs => ∃ (xs : List Int) (p' : Int), res = .own 1 (xs.map iV) ∧ outs = [[rdr bs p']] ∧ xs.length ≤ 21 ∧ p ≤ p' ∧ p' ≤ p + 13) res outs ∧ CW cxT 37 [.ownp [rdr bs p] 0 0, iV n] = some (res, outs) := by
 refine L6 rfl Try.func37 rfl ⟨by kernel_rfl, rfl, dT rfl, dT rfl, by decide⟩ a9l <| A3 <| A0 ?_
 (refine G0 rfl rfl (fun _ => rfl) ?_; intro g4)
 refine xN [0,1] [0] rfl <| A3 <| A0 <| D6 (es := List.map iV []) rfl rfl (dT rfl) rfl rfl (fun _ => E7 (B8 fun _ => rfl)) (fun _ => rfl) ?_
 intro g7
 (refine xO rfl rfl (by simp) rfl (fun _ => rfl) (fun _ => rfl) ?_; intro g5)
 refine xN [0,1,5] [0,5] rfl <| A3 <| A0 <| y_M rfl <| D6 (es := List.map iV [_, _, _, _]) rfl rfl (dT rfl) rfl rfl (fun _ => E7 (B8 fun _ => rfl)) (fun _ => rfl) ?_
 intro g9
 obtain ⟨_, _, ⟨k0, rfl, rfl, k0m⟩, hC0⟩ := b4n bs (p) hbs hl (by omega) [3, 10, 40, 200] (by decide)
 have k0b : 3 ≤ k0 ∧ k0 ≤ 200 := by simp at k0m; omega
 apply xC rfl
 ·apply A6
  ·exact L7 rfl (by decide) rfl
  apply A6
  ·exact T6 rfl rfl (by (simp; done)) (fun _ => rfl)
  exact E6
 ·exact hC0
 refine ⟨⟨rfl, rfl, rfl, dT rfl, rfl⟩, .inl rfl, E8 rfl rfl rfl C6, D5 rfl, fun _ => rfl, fun g10 => ?_⟩
 refine y_S rfl <| xN [0,1,5,6] [0,5] rfl <| A3 <| C5 <| G5 (β := List Int × Nat × Int) [(.t 0, _), (.t 1, _), (.t 6, _)] (fun (z : List Int × Nat × Int) => match z with | (xs, g, q) => [(.h 0, .obj 1 4 0 [rdr bs q]), (.t 5, .sl 5 g none 0 xs.length), (.h 5, .obj g 0 1 (xs.map iV))]) (fun (z : List Int × Nat × Int) => match z with | (xs, g, q) => (xs.length : Int) ≤ n ∧ q = p + 1 + xs.length) (fun (z : List Int × Nat × Int) => match z with | (xs, g, q) => 10 - xs.length) ([], _, p + 1) ⟨rfl, rfl, rfl, rfl, rfl, rfl, trivial⟩ ⟨by simp; omega, by simp⟩ ?_
 intro z hb
 obtain ⟨xs, g, q⟩ := z
 try dsimp only at hb
 obtain ⟨hx1, hq1⟩ := hb
 refine A3 <| A3 <| A0 <| y_M rfl <| G9 rfl rfl <| y_M rfl <| I9 rfl rfl <| xN [0,1,5,6,14] [0,5] rfl ?_
 refine A9 rfl ?_ ?_ <;> intro hc <;> try simp only [SL] at hc
 ·refine C0 <| C5 <| A0 <| y_M rfl <| y_M rfl <| y_M rfl <| W6 rfl rfl (B1 (by omega)) <| D4 rfl rfl (B1 (by omega)) ?_
  obtain ⟨_, _, ⟨k1, rfl, rfl, k1b, -⟩, hC1⟩ := a4m bs (q) hbs hl (by omega) (2 * k0 + 1) (by omega)
  have k1b := k1b (by omega)
  apply xC rfl
  ·apply A6
   ·exact L7 rfl (by decide) rfl
   apply A6
   ·exact B0 rfl
   exact E6
  ·exact hC1
  refine ⟨⟨rfl, rfl, rfl, dT rfl, rfl⟩, .inl rfl, E8 rfl rfl rfl C6, D5 rfl, fun _ => rfl, fun g20 => ?_⟩
  refine b4m rfl rfl (by omega) <| y_M rfl ?_
  have hm1 := a3o (a := k1) (b := 401) (by omega) (by decide)
  refine N1 rfl rfl (B1 (by omega)) <| D6 (es := List.map iV [k1.tmod 401 - k0]) rfl rfl (dT rfl) rfl rfl (fun _ => E7 (B8 fun _ => rfl)) (fun _ => rfl) ?_
  intro g24
  refine xA rfl rfl rfl rfl (by simp) (by simp) rfl rfl rfl rfl rfl (fun _ => rfl) (by simp only [LN]; omega) (fun _ => rfl) ?_
  intro g25
  (refine xO rfl rfl (by simp) rfl (fun _ => rfl) (fun _ => rfl) ?_; intro g5)
  refine xN [0,1,5,6] [0,5] rfl ?_
  refine ⟨(xs ++ [k1.tmod 401 - k0], _, q + 1), ?_, (by simp only [List.length_append, List.length_singleton]; omega), ⟨rfl, rfl, rfl, rfl, rfl, rfl, trivial⟩⟩
  refine ⟨?_, ?_⟩ <;> (try simp only [List.length_append, List.length_singleton]) <;> omega
 refine G6 <| A3 <| A3 <| A0 <| y_M rfl ?_
 obtain ⟨_, _, ⟨k2, rfl, rfl, k2b, -⟩, hC2⟩ := a4m bs (q) hbs hl (by omega) (40) (by omega)
 have k2b := k2b (by omega)
 obtain ⟨_, _, ⟨k3, rfl, rfl, k3m⟩, hC3⟩ := b4n bs (q + 1) hbs hl (by omega) [201, -201] (by decide)
 have k3b : -201 ≤ k3 ∧ k3 ≤ 201 := by simp at k3m; omega
 apply xC rfl
 ·apply A6
  ·exact L7 rfl (by decide) rfl
  apply A6
  ·exact B0 rfl
  exact E6
 ·exact hC2
 refine ⟨⟨rfl, rfl, rfl, dT rfl, rfl⟩, .inl rfl, E8 rfl rfl rfl C6, D5 rfl, fun _ => rfl, fun g27 => ?_⟩
 refine xN [0,5,27] [0,5] rfl <| C5 <| A3 <| A0 <| M6 rfl rfl <| y_S rfl <| xN [0,5,27,28] [0,5] rfl ?_
 refine A9 rfl ?_ ?_ <;> intro hc <;> try simp only [SL] at hc
 ·refine A3 <| A0 <| y_M rfl <| y_M rfl <| D6 (es := List.map iV [_, _]) rfl rfl (dT rfl) rfl rfl (fun _ => E7 (B8 fun _ => rfl)) (fun _ => rfl) ?_
  intro g32
  apply xC rfl
  ·apply A6
   ·exact L7 rfl (by decide) rfl
   apply A6
   ·exact T6 rfl rfl (by (simp; done)) (fun _ => rfl)
   exact E6
  ·exact hC3
  refine ⟨⟨rfl, rfl, rfl, dT rfl, rfl⟩, .inl rfl, E8 rfl rfl rfl C6, D5 rfl, fun _ => rfl, fun g33 => ?_⟩
  refine D6 (es := List.map iV [_]) rfl rfl (dT rfl) rfl rfl (fun _ => E7 (B8 fun _ => rfl)) (fun _ => rfl) ?_
  intro g34
  refine xA rfl rfl rfl rfl (by simp) (by simp) rfl rfl rfl rfl rfl (fun _ => rfl) (by simp only [LN]; omega) (fun _ => rfl) ?_
  intro g35
  (refine xO rfl rfl (by simp) rfl (fun _ => rfl) (fun _ => rfl) ?_; intro g4)
  refine xN [4] [0,4] rfl <| B6 ?_
  refine ⟨_, _, ?_, a1x rfl rfl (by (simp; done)) (by exact B8 fun _ => rfl) (Q1 rfl rfl)⟩
  exact ⟨_, _, rfl, rfl, by (simp; omega), by omega, by omega⟩
 refine A3 <| A0 <| M6 rfl rfl <| y_S rfl <| xN [5,36] [0,5] rfl ?_
 refine A9 rfl ?_ ?_ <;> intro hc <;> try simp only [SL] at hc
 ·refine A3 <| A0 <| y_M rfl <| D6 (es := List.map iV [_, _, _, _, _, _, _, _, _, _, _]) rfl rfl (dT rfl) rfl rfl (fun _ => E7 (B8 fun _ => rfl)) (fun _ => rfl) ?_
  intro g39
  refine xA rfl rfl rfl rfl (by simp) (by simp) rfl rfl rfl rfl rfl (fun _ => rfl) (by simp only [LN]; omega) (fun _ => rfl) ?_
  intro g40
  (refine xO rfl rfl (by simp) rfl (fun _ => rfl) (fun _ => rfl) ?_; intro g4)
  refine xN [4] [0,4] rfl <| B6 ?_
  refine ⟨_, _, ?_, a1x rfl rfl (by (simp; done)) (by exact B8 fun _ => rfl) (Q1 rfl rfl)⟩
  exact ⟨_, _, rfl, rfl, by (simp; omega), by omega, by omega⟩
 refine C0 <| A3 <| A0 <| y_M rfl ?_
 (refine xO rfl rfl (by simp) rfl (fun _ => rfl) (fun _ => rfl) ?_; intro g4)
 refine xN [4] [0,4] rfl <| B6 ?_
 refine ⟨_, _, ?_, a1x rfl rfl (by (simp; done)) (by exact B8 fun _ => rfl) (Q1 rfl rfl)⟩
 exact ⟨_, _, rfl, rfl, by omega, by omega, by omega⟩

theorem a3p : E5 Try.f27 = [0, 2, 3, 4] := by kernel_rfl
theorem b1h (bs : List Int) (p : Int) (hbs : a2q bs) (hl : bs.length ≤ 1048576) (hp : 0 ≤ p ∧ p ≤ 100) : ∃ res outs, (fun res outs => ∃ (xs ys : List Int) (p' : Int), res = .tup [.own 1 (xs.map iV), .own 1 (ys.map iV)] ∧ outs = [[rdr bs p']] ∧ xs.length ≤ 21 ∧ ys.length ≤ 21) res outs ∧ CW cxT 27 [.ownp [rdr bs p] 0 0] = some (res, outs) := by
 refine L6 rfl Try.func27 rfl ⟨by kernel_rfl, rfl, dT rfl, dT rfl, by decide⟩ a3p <| A3 <| A0 ?_
 (refine G0 rfl rfl (fun _ => rfl) ?_; intro g2)
 (refine G0 rfl rfl (fun _ => rfl) ?_; intro g3)
 refine xN [0] [0] rfl <| A3 <| A0 <| y_M rfl <| y_M rfl <| D6 (es := List.map iV [_, _, _, _, _, _]) rfl rfl (dT rfl) rfl rfl (fun _ => E7 (B8 fun _ => rfl)) (fun _ => rfl) ?_
 intro g7
 obtain ⟨_, _, ⟨k0, rfl, rfl, k0m⟩, hC0⟩ := b4n bs (p) hbs hl (by omega) [3, 2, 4, 1, 5, 0] (by decide)
 have k0b : 0 ≤ k0 ∧ k0 ≤ 5 := by simp at k0m; omega
 apply xC rfl
 ·apply A6
  ·exact L7 rfl (by decide) rfl
  apply A6
  ·exact T6 rfl rfl (by (simp; done)) (fun _ => rfl)
  exact E6
 ·exact hC0
 refine ⟨⟨rfl, rfl, rfl, dT rfl, rfl⟩, .inl rfl, E8 rfl rfl rfl C6, D5 rfl, fun _ => rfl, fun g8 => ?_⟩
 obtain ⟨_, _, ⟨xs, p1, rfl, rfl, hx21, hp1, hp2⟩, hC1⟩ := b3o bs (p + 1) hbs hl (by omega) k0 (by omega)
 apply xC rfl
 ·apply A6
  ·exact L7 rfl (by decide) rfl
  apply A6
  ·exact B0 rfl
  exact E6
 ·exact hC1
 refine ⟨⟨rfl, rfl, rfl, dT rfl, rfl⟩, .inl rfl, E8 rfl rfl rfl C6, O3, fun _ => rfl, fun g9 => ?_⟩
 (refine xO rfl rfl (by simp) rfl (fun _ => rfl) (fun _ => rfl) ?_; intro g4)
 refine xN [0,4] [0,4] rfl <| A3 <| A0 <| y_M rfl <| y_M rfl <| y_M rfl <| D6 (es := List.map iV [_, _, _, _, _, _, _]) rfl rfl (dT rfl) rfl rfl (fun _ => E7 (B8 fun _ => rfl)) (fun _ => rfl) ?_
 intro g13
 obtain ⟨_, _, ⟨k1, rfl, rfl, k1m⟩, hC2⟩ := b4n bs (p1) hbs hl (by omega) [3, 4, 2, 1, 5, 0, 6] (by decide)
 have k1b : 0 ≤ k1 ∧ k1 ≤ 6 := by simp at k1m; omega
 apply xC rfl
 ·apply A6
  ·exact L7 rfl (by decide) rfl
  apply A6
  ·exact T6 rfl rfl (by (simp; done)) (fun _ => rfl)
  exact E6
 ·exact hC2
 refine ⟨⟨rfl, rfl, rfl, dT rfl, rfl⟩, .inl rfl, E8 rfl rfl rfl C6, D5 rfl, fun _ => rfl, fun g14 => ?_⟩
 obtain ⟨_, _, ⟨ys, p2, rfl, rfl, hy21, hp3, hp4⟩, hC3⟩ := b3o bs (p1 + 1) hbs hl (by omega) k1 (by omega)
 apply xC rfl
 ·apply A6
  ·exact L7 rfl (by decide) rfl
  apply A6
  ·exact B0 rfl
  exact E6
 ·exact hC3
 refine ⟨⟨rfl, rfl, rfl, dT rfl, rfl⟩, .inl rfl, E8 rfl rfl rfl C6, O3, fun _ => rfl, fun g15 => ?_⟩
 (refine xO rfl rfl (by simp) rfl (fun _ => rfl) (fun _ => rfl) ?_; intro g2)
 (refine xO rfl rfl (by simp) rfl (fun _ => rfl) (fun _ => rfl) ?_; intro g3)
 refine xN [2,3] [0,2,3] rfl <| B6 ?_
 refine ⟨_, _, ?_, N5 (a5k rfl rfl (by simp) (by exact B8 fun _ => rfl) (a5k rfl rfl (by simp) (by exact B8 fun _ => rfl) (S4 (Q1 rfl rfl)))) rfl⟩
 exact ⟨_, _, _, rfl, rfl, hx21, hy21⟩

theorem a1j : E5 Try.f9 = [0, 2, 3, 4, 13, 8, 6, 5, 29, 7, 37] := by kernel_rfl
theorem a6l (bs : List Int) (hbs : a2q bs) (hl : bs.length ≤ 1048576) : ∃ res outs, (fun res outs => ∃ xs ys : List Int, res = .tup [.own 1 (xs.map iV), .own 1 (ys.map iV)] ∧ outs = [] ∧ xs.length ≤ 21 ∧ ys.length ≤ 21) res outs ∧ CW cxT 9 [.list (bs.map uV)] = some (res, outs) := by
 refine L6 rfl Try.func9 rfl ⟨by kernel_rfl, rfl, dT rfl, dT rfl, by decide⟩ a1j <| A3 <| A0 ?_
 (refine G0 rfl rfl (fun _ => rfl) ?_; intro g2)
 (refine G0 rfl rfl (fun _ => rfl) ?_; intro g3)
 refine xN [0] [] rfl <| A3 <| A0 <| y_M rfl ?_
 obtain ⟨_, _, ⟨rfl, rfl⟩, hC0⟩ := b3x bs hl
 have hbs2 : a2q (bs.take 2000) := fun b hb => hbs b (List.mem_of_mem_take hb)
 have hl2 : (bs.take 2000).length ≤ 1048576 := by simp; omega
 obtain ⟨bs2, hbe⟩ : ∃ bs2, bs2 = bs.take 2000 := ⟨_, rfl⟩
 rw [← hbe] at hbs2 hl2 hC0
 apply xC rfl
 ·apply A6
  ·exact B0 rfl
  exact E6
 ·exact hC0
 refine ⟨⟨rfl, rfl, rfl, dT rfl, rfl⟩, .inl rfl, C6, c2y, fun _ => rfl, fun g10 => ?_⟩
 (refine a0g rfl rfl rfl rfl (fun _ => L4 rfl) (fun _ => rfl) ?_; intro g4)
 refine xN [4] [4] rfl <| A3 <| A3 <| A0 <| y_M rfl ?_
 obtain ⟨_, _, ⟨k0, rfl, rfl, k0b, -⟩, hC1⟩ := a4m bs2 (0) hbs2 hl2 (by omega) 4 (by omega)
 have k0b := k0b (by omega)
 apply xC rfl
 ·apply A6
  ·exact L7 rfl (by decide) rfl
  apply A6
  ·exact B0 rfl
  exact E6
 ·exact hC1
 refine ⟨⟨rfl, rfl, rfl, dT rfl, rfl⟩, .inl rfl, E8 rfl rfl rfl C6, D5 rfl, fun _ => rfl, fun g12 => ?_⟩
 refine M6 rfl rfl <| xN [4,13] [4] rfl ?_
 refine A9 rfl ?_ ?_ <;> intro hc <;> try simp only [SL] at hc
 ·refine A3 <| A0 <| y_M rfl ?_
  obtain ⟨_, _, ⟨xs, ys, p1, rfl, rfl, hx21, hy21⟩, hC2⟩ := b1h bs2 (0 + 1) hbs2 hl2 (by omega)
  apply xC rfl
  ·apply A6
   ·exact L7 rfl (by decide) rfl
   exact E6
  ·exact hC2
  refine ⟨⟨rfl, rfl, rfl, dT rfl, rfl⟩, .inl rfl, E8 rfl rfl rfl C6, b0q (b1r fun _ => b1r fun _ => c4r), fun _ => rfl, fun g15 => ?_⟩
  refine y_E rfl <| y_E rfl ?_
  (refine xO rfl rfl (by simp) rfl (fun _ => rfl) (fun _ => rfl) ?_; intro g2)
  (refine xO rfl rfl (by simp) rfl (fun _ => rfl) (fun _ => rfl) ?_; intro g3)
  refine xN [2,3] [2,3] rfl <| B6 ?_
  refine ⟨_, _, ?_, N5 (a5k rfl rfl (by simp) (by exact B8 fun _ => rfl) (a5k rfl rfl (by simp) (by exact B8 fun _ => rfl) (S4 F9))) rfl⟩
  exact ⟨_, _, rfl, rfl, hx21, hy21⟩
 refine C0 <| A3 <| A0 <| D6 (es := List.map iV []) rfl rfl (dT rfl) rfl rfl (fun _ => E7 (B8 fun _ => rfl)) (fun _ => rfl) ?_
 intro g18
 (refine xO rfl rfl (by simp) rfl (fun _ => rfl) (fun _ => rfl) ?_; intro g5)
 refine xN [4,5] [4,5] rfl <| A3 <| A0 <| D6 (es := List.map iV []) rfl rfl (dT rfl) rfl rfl (fun _ => E7 (B8 fun _ => rfl)) (fun _ => rfl) ?_
 intro g19
 (refine xO rfl rfl (by simp) rfl (fun _ => rfl) (fun _ => rfl) ?_; intro g6)
 refine xN [4,5,6] [4,5,6] rfl <| A3 <| A0 <| y_S rfl <| xN [4,5,6,7] [4,5,6] rfl <| A3 <| A3 <| A0 <| y_M rfl <| D6 (es := List.map iV [_, _, _, _, _, _]) rfl rfl (dT rfl) rfl rfl (fun _ => E7 (B8 fun _ => rfl)) (fun _ => rfl) ?_
 intro g21
 obtain ⟨_, _, ⟨k1, rfl, rfl, k1m⟩, hC3⟩ := b4n bs2 (0 + 1) hbs2 hl2 (by omega) [5, 6, 4, 3, 8, 2] (by decide)
 have k1b : 2 ≤ k1 ∧ k1 ≤ 8 := by simp at k1m; omega
 apply xC rfl
 ·apply A6
  ·exact L7 rfl (by decide) rfl
  apply A6
  ·exact T6 rfl rfl (by (simp; done)) (fun _ => rfl)
  exact E6
 ·exact hC3
 refine ⟨⟨rfl, rfl, rfl, dT rfl, rfl⟩, .inl rfl, E8 rfl rfl rfl C6, D5 rfl, fun _ => rfl, fun g22 => ?_⟩
 refine y_S rfl <| xN [4,5,6,7,8] [4,5,6] rfl <| C5 <| G5 (β := List Int × List Int × Int × Int × Nat × Nat) [(.t 4, _), (.t 8, _)] (fun (z : List Int × List Int × Int × Int × Nat × Nat) => match z with | (xs, ys, v, q, g1, g2) => [(.h 4, .obj g4 3 2 [rdr bs2 q]), (.t 5, .sl 5 g1 none 0 xs.length), (.h 5, .obj g1 0 1 (xs.map iV)), (.t 6, .sl 6 g2 none 0 ys.length), (.h 6, .obj g2 0 1 (ys.map iV)), (.t 7, iV v)]) (fun (z : List Int × List Int × Int × Int × Nat × Nat) => match z with | (xs, ys, v, q, g1, g2) => xs.length + ys.length ≤ 8 ∧ q = 2 + 2 * ((xs.length : Int) + ys.length) ∧ -20 ≤ v ∧ v ≤ -20 + 5 * ((xs.length : Int) + ys.length)) (fun (z : List Int × List Int × Int × Int × Nat × Nat) => match z with | (xs, ys, v, q, g1, g2) => 8 - (xs.length + ys.length)) ([], [], -20, 0 + 1 + 1, _, _) ⟨rfl, rfl, rfl, rfl, rfl, rfl, rfl, rfl, trivial⟩ ⟨by simp, by simp, by simp, by simp⟩ ?_
 intro z hb
 obtain ⟨xs, ys, v, q, g1, g2⟩ := z
 try dsimp only at hb
 obtain ⟨hlx, hq1, hv1, hv2⟩ := hb
 refine A3 <| A3 <| A0 <| y_M rfl <| G9 rfl rfl <| y_M rfl <| G9 rfl rfl <| D4 rfl rfl (B1 (by omega)) <| y_M rfl <| I9 rfl rfl <| xN [4,5,6,7,8,29] [4,5,6] rfl ?_
 refine A9 rfl ?_ ?_ <;> intro hc <;> try simp only [SL] at hc
 ·refine C0 <| C5 <| A3 <| A0 <| y_M rfl <| D4 rfl rfl (B1 (by omega)) <| y_M rfl ?_
  obtain ⟨_, _, ⟨k2, rfl, rfl, k2b, -⟩, hC4⟩ := a4m bs2 (q) hbs2 hl2 (by omega) 5 (by omega)
  have k2b := k2b (by omega)
  apply xC rfl
  ·apply A6
   ·exact L7 rfl (by decide) rfl
   apply A6
   ·exact B0 rfl
   exact E6
  ·exact hC4
  refine ⟨⟨rfl, rfl, rfl, dT rfl, rfl⟩, .inl rfl, E8 rfl rfl rfl C6, D5 rfl, fun _ => rfl, fun g33 => ?_⟩
  refine D4 rfl rfl (B1 (by omega)) <| y_S rfl <| xN [4,5,6,7,8] [4,5,6] rfl <| A3 <| A0 <| y_M rfl ?_
  obtain ⟨_, _, ⟨k3, rfl, rfl, k3b, -⟩, hC5⟩ := a4m bs2 (q + 1) hbs2 hl2 (by omega) 2 (by omega)
  have k3b := k3b (by omega)
  apply xC rfl
  ·apply A6
   ·exact L7 rfl (by decide) rfl
   apply A6
   ·exact B0 rfl
   exact E6
  ·exact hC5
  refine ⟨⟨rfl, rfl, rfl, dT rfl, rfl⟩, .inl rfl, E8 rfl rfl rfl C6, D5 rfl, fun _ => rfl, fun g36 => ?_⟩
  refine M6 rfl rfl <| xN [4,5,6,7,8,37] [4,5,6] rfl ?_
  refine A9 rfl ?_ ?_ <;> intro hc <;> try simp only [SL] at hc
  ·refine A0 <| y_M rfl <| y_M rfl <| D6 (es := List.map iV [v + 1 + k2]) rfl rfl (dT rfl) rfl rfl (fun _ => E7 (B8 fun _ => rfl)) (fun _ => rfl) ?_
   intro g40
   refine xA rfl rfl rfl rfl (by simp) (by simp) rfl rfl rfl rfl rfl (fun _ => rfl) (by simp only [LN]; omega) (fun _ => rfl) ?_
   intro g41
   (refine xO rfl rfl (by simp) rfl (fun _ => rfl) (fun _ => rfl) ?_; intro g5)
   refine xN [4,5,6,7,8] [4,5,6] rfl ?_
   refine ⟨(xs ++ [v + 1 + k2], ys, v + 1 + k2, q + 1 + 1, _, g2), ?_, (by simp only [List.length_append, List.length_singleton]; omega), ⟨rfl, rfl, rfl, rfl, rfl, rfl, rfl, rfl, trivial⟩⟩
   refine ⟨?_, ?_, ?_, ?_⟩ <;> (try simp only [List.length_append, List.length_singleton]) <;> omega
  refine A0 <| y_M rfl <| y_M rfl <| D6 (es := List.map iV [v + 1 + k2]) rfl rfl (dT rfl) rfl rfl (fun _ => E7 (B8 fun _ => rfl)) (fun _ => rfl) ?_
  intro g44
  refine xA rfl rfl rfl rfl (by simp) (by simp) rfl rfl rfl rfl rfl (fun _ => rfl) (by simp only [LN]; omega) (fun _ => rfl) ?_
  intro g45
  (refine xO rfl rfl (by simp) rfl (fun _ => rfl) (fun _ => rfl) ?_; intro g6)
  refine xN [4,5,6,7,8] [4,5,6] rfl ?_
  refine ⟨(xs, ys ++ [v + 1 + k2], v + 1 + k2, q + 1 + 1, g1, _), ?_, (by simp only [List.length_append, List.length_singleton]; omega), ⟨rfl, rfl, rfl, rfl, rfl, rfl, rfl, rfl, trivial⟩⟩
  refine ⟨?_, ?_, ?_, ?_⟩ <;> (try simp only [List.length_append, List.length_singleton]) <;> omega
 refine G6 <| A3 <| A0 <| y_M rfl <| y_M rfl ?_
 (refine xO rfl rfl (by simp) rfl (fun _ => rfl) (fun _ => rfl) ?_; intro g2)
 (refine xO rfl rfl (by simp) rfl (fun _ => rfl) (fun _ => rfl) ?_; intro g3)
 refine xN [2,3] [2,3] rfl <| B6 ?_
 refine ⟨_, _, ?_, N5 (a5k rfl rfl (by simp) (by exact B8 fun _ => rfl) (a5k rfl rfl (by simp) (by exact B8 fun _ => rfl) (S4 F9))) rfl⟩
 exact ⟨_, _, rfl, rfl, by omega, by omega⟩

theorem a2w : E5 Try.f4 = [0, 2, 14, 4, 3, 5, 8, 6, 7, 43, 11, 10, 9] := by kernel_rfl
theorem b0g (bs : List Int) (hbs : a2q bs) : CW cxT 4 [.list (bs.map uV)] = some (bV true, []) := by
 refine F0 rfl Try.func4 rfl ⟨by kernel_rfl, rfl, dT rfl, dT rfl, by decide⟩ a2w <| A3 <| A0 <| y_S rfl <| xN [0] [] rfl <| A3 <| A3 <| A0 <| y_M rfl <| B9 rfl rfl <| J0 rfl rfl <| xN [0,14] [] rfl ?_
 refine A9 rfl ?_ ?_ <;> intro hc <;> try simp only [SL] at hc
 ·refine A3 <| A0 <| y_S rfl <| xN [2] [] rfl <| B6 <| C1 rfl rfl trivial ?_
  rfl
 refine C0 <| A3 <| A0 ?_
 have hl2 : bs.length ≤ 1048576 := by omega
 refine y_M rfl ?_
 obtain ⟨_, _, ⟨a, b, rfl, rfl, hx21, hy21⟩, hC1⟩ := a6l bs hbs hl2
 apply xC rfl
 ·apply A6
  ·exact B0 rfl
  exact E6
 ·exact hC1
 refine ⟨⟨rfl, rfl, rfl, dT rfl, rfl⟩, .inl rfl, C6, b0q (b1r fun _ => b1r fun _ => c4r), fun _ => rfl, fun g17 => ?_⟩
 refine y_M rfl <| y_E rfl <| y_E rfl ?_
 (refine xO rfl rfl (by simp) rfl (fun _ => rfl) (fun _ => rfl) ?_; intro g3)
 (refine xO rfl rfl (by simp) rfl (fun _ => rfl) (fun _ => rfl) ?_; intro g4)
 refine xN [3,4] [3,4] rfl <| A3 <| A0 ?_
 simp only [List.length_map]
 refine y_M rfl <| y_M rfl ?_
 apply xC rfl
 ·apply A6
  ·exact G8 rfl rfl rfl (by (simp; done)) (fun _ => rfl)
  apply A6
  ·exact G8 rfl rfl rfl (by (simp; done)) (fun _ => rfl)
  exact E6
 ·exact c0b a b (by omega) (by omega)
 refine ⟨⟨rfl, rfl, rfl, dT rfl, rfl⟩, .inr ⟨rfl, rfl⟩, C6, Y1 rfl, fun _ => rfl, fun g23 => ?_⟩
 refine y_M rfl <| y_E rfl <| y_E rfl <| y_S rfl <| y_S rfl <| xN [3,4,5,6] [3,4] rfl <| A3 <| A0 <| y_M rfl <| y_M rfl ?_
 apply xC rfl
 ·apply A6
  ·exact G8 rfl rfl rfl (by (simp; done)) (fun _ => rfl)
  apply A6
  ·exact G8 rfl rfl rfl (by (simp; done)) (fun _ => rfl)
  exact E6
 ·exact c5x a b (by omega) (by omega)
 refine ⟨⟨rfl, rfl, rfl, dT rfl, rfl⟩, .inr ⟨rfl, rfl⟩, C6, Y1 rfl, fun _ => rfl, fun g29 => ?_⟩
 refine y_M rfl <| y_E rfl <| y_E rfl <| y_S rfl <| y_S rfl <| xN [3,4,5,6,7,8] [3,4] rfl <| A3 <| A3 <| A0 <| y_M rfl <| y_M rfl <| c6u rfl rfl <| y_M rfl ?_
 refine B2 rfl rfl ?_ ?_ <;> intro hg0 <;> have hg := hg0 <;> try simp only [SG] at hg
 ·refine y_M rfl <| gT rfl rfl <| y_M rfl <| gT rfl rfl <| c6u rfl rfl <| B5 rfl (by assumption) rfl rfl <| y_M rfl ?_
  refine B2 rfl rfl ?_ ?_ <;> intro hg0 <;> have hg := hg0 <;> try simp only [SG] at hg
  ·refine y_M rfl <| gT rfl rfl <| I9 rfl rfl <| B5 rfl (by assumption) rfl rfl <| xN [3,4,5,6,7,8,43] [3,4] rfl ?_
   refine A9 rfl ?_ ?_ <;> intro hc <;> try simp only [SL] at hc
   ·refine A3 <| A0 <| y_M rfl <| y_M rfl <| M6 rfl rfl <| y_M rfl ?_
    refine B2 rfl rfl ?_ ?_ <;> intro hg0 <;> have hg := hg0 <;> try simp only [SG] at hg
    ·refine y_M rfl <| gT rfl rfl <| y_M rfl <| gT rfl rfl <| M6 rfl rfl <| C7 rfl (by assumption) rfl rfl <| y_S rfl <| xN [2] [] rfl <| B6 <| C1 rfl rfl trivial ?_
     (simp; done)
    refine gF rfl rfl <| gF rfl rfl <| B5 rfl (by assumption) rfl rfl <| y_S rfl <| xN [2] [] rfl <| B6 <| C1 rfl rfl trivial ?_
    (simp_all; done)
   have hok : gok a b = true := by rcases Bool.eq_false_or_eq_true (gok a b) with h | h; (· exact h); (· exfalso; rw [a3e h] at hc; simp at hc)
   have hsm := a2d.1 (I7.1 hok).1
   have hk6 := I7.1 hok
   have hgp := a7z hsm.2.2.2.1 hsm.2.2.2.2 (I7.1 hok).2.2.2
   have hgb := a7c a b (by omega) (by omega) (a ++ b)
   have hpf := a7b (a := a) (b := b) (by omega) (by omega) hgp
   have hfp := c3w hgp
   have hxy := b7j hok
   have hx1 : (gX a b).1 = (b0e a b : Int) := by rw [hxy]
   have hy1 : (gX a b).2 = (a6d a b : Int) := by rw [hxy]
   rw [hx1, hy1]
   have hcb := (Gp.chN_bd (a.length + b.length) (by omega) a.length (by omega)).1
   have hga : a6d a b = Gp.chN (a.length + b.length) a.length := rfl
   refine C0 <| A3 <| A0 <| y_M rfl <| y_M rfl ?_
   apply xC rfl
   ·apply A6
    ·exact G8 rfl rfl rfl (by (simp; done)) (fun _ => rfl)
    apply A6
    ·exact G8 rfl rfl rfl (by (simp; done)) (fun _ => rfl)
    exact E6
   ·exact c0b b a (by omega) (by omega)
   refine ⟨⟨rfl, rfl, rfl, dT rfl, rfl⟩, .inr ⟨rfl, rfl⟩, C6, Y1 rfl, fun _ => rfl, fun g55 => ?_⟩
   rw [c5s a b]
   refine y_M rfl <| y_E rfl <| y_E rfl <| y_S rfl <| y_S rfl <| xN [3,4,5,6,9,10] [3,4] rfl <| A3 <| A0 <| y_M rfl <| y_M rfl ?_
   apply xC rfl
   ·apply A6
    ·exact G8 rfl rfl rfl (by (simp; done)) (fun _ => rfl)
    apply A6
    ·exact G8 rfl rfl rfl (by (simp; done)) (fun _ => rfl)
    exact E6
   ·exact c5u a b (by omega) (by omega)
   refine ⟨⟨rfl, rfl, rfl, dT rfl, rfl⟩, .inr ⟨rfl, rfl⟩, C6, D5 rfl, fun _ => rfl, fun g60 => ?_⟩
   rw [if_pos (I7.1 hok).1]
   refine y_S rfl <| xN [3,4,5,6,9,10,11] [3,4] rfl <| A3 <| A0 <| y_M rfl <| y_M rfl <| M6 rfl rfl <| y_M rfl ?_
   refine B2 rfl rfl ?_ ?_ <;> intro hg0 <;> have hg := hg0 <;> try simp only [SG] at hg
   ·refine y_M rfl <| gT rfl rfl <| y_M rfl <| gT rfl rfl <| M6 rfl rfl <| C7 rfl (by assumption) rfl rfl <| y_M rfl ?_
    refine B2 rfl rfl ?_ ?_ <;> intro hg0 <;> have hg := hg0 <;> try simp only [SG] at hg
    ·refine y_M rfl <| gT rfl rfl <| b8z rfl rfl <| C7 rfl (by assumption) rfl rfl <| y_M rfl ?_
     refine B2 rfl rfl ?_ ?_ <;> intro hg0 <;> have hg := hg0 <;> try simp only [SG] at hg
     ·refine y_M rfl <| gT rfl rfl <| y_M rfl <| gT rfl rfl <| Z3 rfl rfl <| C7 rfl (by assumption) rfl rfl <| y_M rfl ?_
      refine B2 rfl rfl ?_ ?_ <;> intro hg0 <;> have hg := hg0 <;> try simp only [SG] at hg
      ·refine y_M rfl <| gT rfl rfl <| y_M rfl <| gT rfl rfl <| G9 rfl rfl <| gT rfl rfl <| y_M rfl <| gT rfl rfl <| G9 rfl rfl <| gT rfl rfl <| D4 rfl rfl (B1 (by omega)) <| gT rfl rfl <| y_M rfl <| gT rfl rfl <| G9 rfl rfl <| gT rfl rfl ?_
       refine xC2 rfl rfl rfl (c1h (a.length + b.length) a.length (by omega) (by omega)) ⟨rfl, rfl, rfl⟩ rfl rfl fun g87 => ?_
       refine gT rfl rfl <| M6 rfl rfl <| C7 rfl (by assumption) rfl rfl <| y_M rfl ?_
       refine B2 rfl rfl ?_ ?_ <;> intro hg0 <;> have hg := hg0 <;> try simp only [SG] at hg
       ·refine y_M rfl <| gT rfl rfl <| y_M rfl <| gT rfl rfl <| G9 rfl rfl <| gT rfl rfl <| y_M rfl <| gT rfl rfl <| G9 rfl rfl <| gT rfl rfl <| y_M rfl <| gT rfl rfl <| N1 rfl rfl (B1 (by omega)) <| gT rfl rfl ?_
        rw [show ((P0 a b (a ++ b) : Int) - 1) = ((P0 a b (a ++ b) - 1 : Nat) : Int) by omega]
        refine xC3 rfl rfl rfl rfl (c6l a.length b.length (P0 a b (a ++ b) - 1) (by omega) (by omega) (by omega)) ⟨rfl, rfl, rfl⟩ rfl rfl fun g98 => ?_
        rw [Gp.fw_end]
        refine gT rfl rfl <| D4 rfl rfl (B1 (by omega)) <| gT rfl rfl <| y_M rfl <| gT rfl rfl <| M6 rfl rfl <| C7 rfl (by assumption) rfl rfl <| y_S rfl <| xN [2] [] rfl <| B6 <| C1 rfl rfl trivial ?_
        (simp_all; done)
       iterate 10 refine gF rfl rfl ?_
       refine B5 rfl (by assumption) rfl rfl <| y_S rfl <| xN [2] [] rfl <| B6 <| C1 rfl rfl trivial ?_
       (exfalso; omega)
      iterate 9 refine gF rfl rfl ?_
      refine B5 rfl (by assumption) rfl rfl <| y_M rfl ?_
      iterate 11 refine A8 rfl rfl rfl ?_
      refine B5 rfl rfl rfl rfl <| y_S rfl <| xN [2] [] rfl <| B6 <| C1 rfl rfl trivial ?_
      (exfalso; omega)
     refine gF rfl rfl <| gF rfl rfl <| B5 rfl (by assumption) rfl rfl <| y_M rfl ?_
     iterate 10 refine A8 rfl rfl rfl ?_
     refine B5 rfl rfl rfl rfl <| y_M rfl ?_
     iterate 11 refine A8 rfl rfl rfl ?_
     refine B5 rfl rfl rfl rfl <| y_S rfl <| xN [2] [] rfl <| B6 <| C1 rfl rfl trivial ?_
     (exfalso; omega)
    refine gF rfl rfl <| B5 rfl (by assumption) rfl rfl <| y_M rfl <| A8 rfl rfl rfl <| A8 rfl rfl rfl <| A8 rfl rfl rfl <| B5 rfl rfl rfl rfl <| y_M rfl ?_
    iterate 10 refine A8 rfl rfl rfl ?_
    refine B5 rfl rfl rfl rfl <| y_M rfl ?_
    iterate 11 refine A8 rfl rfl rfl ?_
    refine B5 rfl rfl rfl rfl <| y_S rfl <| xN [2] [] rfl <| B6 <| C1 rfl rfl trivial ?_
    (exfalso; omega)
   refine gF rfl rfl <| gF rfl rfl <| B5 rfl (by assumption) rfl rfl <| y_M rfl <| A8 rfl rfl rfl <| A8 rfl rfl rfl <| B5 rfl rfl rfl rfl <| y_M rfl <| A8 rfl rfl rfl <| A8 rfl rfl rfl <| A8 rfl rfl rfl <| B5 rfl rfl rfl rfl <| y_M rfl ?_
   iterate 10 refine A8 rfl rfl rfl ?_
   refine B5 rfl rfl rfl rfl <| y_M rfl ?_
   iterate 11 refine A8 rfl rfl rfl ?_
   refine B5 rfl rfl rfl rfl <| y_S rfl <| xN [2] [] rfl <| B6 <| C1 rfl rfl trivial ?_
   (exfalso; omega)
  refine gF rfl rfl <| C7 rfl (by assumption) rfl rfl <| xN [3,4,5,6,7,8,43] [3,4] rfl ?_
  refine A9 rfl (fun hc => ?_) (fun hc => absurd hc (by decide))
  refine A3 <| A0 <| y_M rfl <| y_M rfl <| M6 rfl rfl <| y_M rfl ?_
  refine B2 rfl rfl ?_ ?_ <;> intro hg0 <;> have hg := hg0 <;> try simp only [SG] at hg
  ·refine y_M rfl <| gT rfl rfl <| y_M rfl <| gT rfl rfl <| M6 rfl rfl <| C7 rfl (by assumption) rfl rfl <| y_S rfl <| xN [2] [] rfl <| B6 <| C1 rfl rfl trivial ?_
   (simp; done)
  refine gF rfl rfl <| gF rfl rfl <| B5 rfl (by assumption) rfl rfl <| y_S rfl <| xN [2] [] rfl <| B6 <| C1 rfl rfl trivial ?_
  (simp_all; done)
 refine gF rfl rfl <| gF rfl rfl <| C7 rfl (by assumption) rfl rfl <| y_M rfl <| A8 rfl rfl rfl <| A8 rfl rfl rfl <| C7 rfl rfl rfl rfl <| xN [3,4,5,6,7,8,43] [3,4] rfl ?_
 refine A9 rfl (fun hc => ?_) (fun hc => absurd hc (by decide))
 refine A3 <| A0 <| y_M rfl <| y_M rfl <| M6 rfl rfl <| y_M rfl ?_
 refine B2 rfl rfl ?_ ?_ <;> intro hg0 <;> have hg := hg0 <;> try simp only [SG] at hg
 ·refine y_M rfl <| gT rfl rfl <| y_M rfl <| gT rfl rfl <| M6 rfl rfl <| C7 rfl (by assumption) rfl rfl <| y_S rfl <| xN [2] [] rfl <| B6 <| C1 rfl rfl trivial ?_
  (simp; done)
 refine gF rfl rfl <| gF rfl rfl <| B5 rfl (by assumption) rfl rfl <| y_S rfl <| xN [2] [] rfl <| B6 <| C1 rfl rfl trivial ?_
 (simp_all; done)
end Go.Proofs.Ytldpjnaakmhafaa
