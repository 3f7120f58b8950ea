/- What each function of the program gives on the abstract machine, part 1 of 1. Conditions: those in front of each theorem. -/
import Derived.Test.YtldpjnaakmhafaaMd
import Derived.Test.YtldpjnaakmhafaaChecked
import Derived.KernelRfl

set_option linter.unusedVariables false
set_option linter.unusedSimpArgs false
namespace Go.Proofs.Ytldpjnaakmhafaa
open Go Go.Mv Go.Proofs
set_option maxRecDepth 100000
set_option maxHeartbeats 20000000

theorem SD : (∀ {p : Prop} [Decidable p], (decide p = true) = p) ∧ (∀ {p : Prop} {_ : Decidable p}, decide p = false ↔ ¬p) ∧ (∀ (b : Bool), ((!b) = true) = (b = false)) ∧ (∀ (b : Bool), ((!b) = false) = (b = true)) ∧ (∀ {α : Type} [BEq α] [LawfulBEq α] {a b : α}, (a != b) = true ↔ a ≠ b) ∧
    (∀ {α : Type} [BEq α] [LawfulBEq α] {a b : α}, (a == b) = true ↔ a = b) ∧ (∀ {α : Type} (a b : α), (a ≠ b) = ¬a = b) ∧ (!true) = false ∧ (!false) = true ∧ (∀ {α : Type} [BEq α] [LawfulBEq α] {a b : α}, (a == b) = false ↔ a ≠ b) ∧ (∀ {α : Type} [BEq α] [LawfulBEq α] {a b : α}, (a != b) = false ↔ a = b) ∧
    (∀ {p : Prop} [Decidable p], ¬¬p ↔ p) ∧ (∀ {a b : Int}, ¬a < b ↔ b ≤ a) ∧ (∀ {a b : Int}, ¬a ≤ b ↔ b < a) :=
  ⟨@decide_eq_true_eq, @decide_eq_false_iff_not, @Bool.not_eq_true', @Bool.not_eq_false', @bne_iff_ne, @beq_iff_eq, @ne_eq, @Bool.not_true, @Bool.not_false, @beq_eq_false_iff_ne, @bne_eq_false_iff_eq, @Decidable.not_not, @Int.not_lt, @Int.not_le⟩
theorem SG : ((∀ {p : Prop} [Decidable p], (decide p = true) = p) ∧ (∀ {p : Prop} {_ : Decidable p}, decide p = false ↔ ¬p) ∧ (∀ (b : Bool), ((!b) = true) = (b = false)) ∧ (∀ (b : Bool), ((!b) = false) = (b = true)) ∧ (∀ {α : Type} [BEq α] [LawfulBEq α] {a b : α}, (a != b) = true ↔ a ≠ b) ∧
    (∀ {α : Type} [BEq α] [LawfulBEq α] {a b : α}, (a == b) = true ↔ a = b) ∧ (∀ {α : Type} (a b : α), (a ≠ b) = ¬a = b) ∧ (!true) = false ∧ (!false) = true ∧ (∀ {α : Type} [BEq α] [LawfulBEq α] {a b : α}, (a == b) = false ↔ a ≠ b) ∧ (∀ {α : Type} [BEq α] [LawfulBEq α] {a b : α}, (a != b) = false ↔ a = b) ∧
    (∀ {p : Prop} [Decidable p], ¬¬p ↔ p) ∧ (∀ {a b : Int}, ¬a < b ↔ b ≤ a) ∧ (∀ {a b : Int}, ¬a ≤ b ↔ b < a)) ∧
    (∀ (a b : Bool), ((a && b) = true) = (a = true ∧ b = true)) ∧ (∀ {x y : Bool}, (x && y) = false ↔ x = false ∨ y = false) ∧ (∀ (a b : Bool), ((a || b) = true) = (a = true ∨ b = true)) ∧ (∀ {x y : Bool}, (x || y) = false ↔ x = false ∧ y = false) :=
  ⟨SD, @Bool.and_eq_true, @Bool.and_eq_false_iff, @Bool.or_eq_true, @Bool.or_eq_false_iff⟩
def b7y (keep : List Nat) (A : Asr) : List Mv.Loc → Asr → Option Asr
  | l :: ls, B => match keepLoc keep l, Mv.look A l with
    | true, some a => b7y keep A ls ((l, a) :: B)
    | _, _ => none
  | [], B => some B
theorem b6v {keep : List Nat} {A : Asr} : ∀ (ls : List Mv.Loc) {B C : Asr}, KeepL keep A B → b7y keep A ls B = some C → KeepL keep A C
  | [], B, C, h, e => by simp only [b7y, Option.some.injEq] at e; rw [← e]; exact h
  | l :: ls, B, C, h, e => by
    simp only [b7y] at e
    split at e
    · exact b6v ls (show KeepL keep A ((l, _) :: B) from ⟨by assumption, by assumption, h⟩) e
    · cases e
theorem kS (ts hs : List Nat) {keep : List Nat} {A B : Asr} (h : b7y keep A (ts.map .t ++ hs.map .h) [] = some B) : KeepL keep A B := b6v _ (show KeepL keep A [] from trivial) h
section
variable {cx : Cx} {keep : List Nat} {ops0 : Array Oper} {r : List Oper} {A : Asr} {Q : Asr → List Log → Prop}
variable {d ty : Nat} {pos : String} {aft : Array Edge}
theorem gT {op : Op} {dst : Option Nat} {g dg : Nat} {want b : Bool} (hd : (ops0[g]?).bind (·.dst) = some dg) (hb : Mv.look A (.t dg) = some (.val (.bool b)))
    (h : XR cx keep ops0 (⟨dst, op, ty, pos, aft, none⟩ :: r) A fun A' lg => Q A' (b7p (.t dg) lg)) (hw : b = want := by assumption) : XR cx keep ops0 (⟨dst, op, ty, pos, aft, some (g, want)⟩ :: r) A Q := a9k hd hb hw h
theorem gF {op : Op} {g dg : Nat} {want b : Bool} (hd : (ops0[g]?).bind (·.dst) = some dg) (hb : Mv.look A (.t dg) = some (.val (.bool b)))
    (h : XR cx keep ops0 r ((.t d, .val (.tuple #[])) :: A) fun A' lg => Q A' (([.t dg], [.t d]) :: lg)) (hw : b = !want := by assumption) : XR cx keep ops0 (⟨some d, op, ty, pos, aft, some (g, want)⟩ :: r) A Q := B2 hd hb hw h
theorem xN {B : Asr} {p : Asr → List Log → Prop} {R : Asr → Prop} (ts hs : List Nat) (h : b7y keep A (ts.map .t ++ hs.map .h) [] = some B) (q : R B) :
    XR cx keep ops0 [] A (fun A' lg => (false = true → p A' lg) ∧ ∃ B, KeepL keep A' B ∧ R B) := a3t ⟨nofun, B, kS ts hs h, q⟩
theorem xC {G : Type} {k : Nat} {args : Array Operand} {Ts : Array Nat} {vs av : List AV} {ids : List (Nat × Bool)} {wp wb : Ws} {lp lb li : List Mv.Loc} {res : AV} {outs : List (List AV)} {v : G → AV} {wi : G → Ws}
    (hv : opds A args.toList = some vs) (hp : a1j (CW cx) A (cx.md k) 0 vs av ids wp lp) (hC : CW cx k av = some (res, outs))
    (hr : (apartIds ids = true ∧ J1 ((Q6 (cx.md k) 0 vs).map (·.1)) = true ∧ J1 ((cidAll (cx.md k) 0 av).map (·.1)) = true ∧ av.length ≤ 1000 ∧ U0 av = true) ∧
      (ids.all (fun x => x.2) = true ∨ (hasList res = false ∧ outs.any B7 = false)) ∧
      b5j (CW cx) (puts A wp) (Q6 (cx.md k) 0 vs) outs wb lb ∧ a4v (CW cx) (puts (puts A wp) wb) d res v wi li ∧
      (∀ g, tRefsOk keep (keptWs keep (wp ++ (wb ++ (wi g ++ [(.t d, v g)])))) = true) ∧
      ∀ g, XR cx keep ops0 r (a0k A (wp ++ (wb ++ (wi g ++ [(.t d, v g)])))) fun A' lg => Q A' ((a2e args.toList ++ (lp ++ (lb ++ li)), a3u (wp ++ (wb ++ (wi g ++ [(.t d, v g)])))) :: lg)) :
    XR cx keep ops0 (⟨some d, .call ⟨.value (.func k), args, Ts⟩, ty, pos, aft, none⟩ :: r) A Q :=
  a3s hv hp hC hr.1 hr.2.1 hr.2.2.1 hr.2.2.2.1 hr.2.2.2.2.1 hr.2.2.2.2.2
theorem xC1 {k : Nat} {Ts : Array Nat} {x1 : Operand} {v1 res : AV} (hx : opds A [x1] = some [v1]) (p1 : M8 v1 = true) (hC : CW cx k [v1] = some (res, []))
    (hb : Q6 (cx.md k) 0 [v1] = [] ∧ J1 ((cidAll (cx.md k) 0 [v1]).map (·.1)) = true ∧ U0 [v1] = true) (hi : H8 res = true) (hk : tRefsOk keep (keptWs keep [(.t d, res)]) = true)
    (h : ∀ _ : Unit, XR cx keep ops0 r (a0k A [(.t d, res)]) fun A' lg => Q A' ((a2e [x1], [.t d]) :: lg)) : XR cx keep ops0 (⟨some d, .call ⟨.value (.func k), #[x1], Ts⟩, ty, pos, aft, none⟩ :: r) A Q :=
  a3s hx (A5 (A9 p1) E5) hC ⟨rfl, by rw [hb.1]; rfl, hb.2.1, by simp, hb.2.2⟩ (.inl rfl) (by rw [hb.1]; exact C4) (E8 hi) (fun _ => hk) (fun g => by have := h g; simpa [a3u] using this)
theorem xC2 {k : Nat} {Ts : Array Nat} {x1 x2 : Operand} {v1 v2 res : AV} (hx : opds A [x1, x2] = some [v1, v2]) (p1 : M8 v1 = true) (p2 : M8 v2 = true) (hC : CW cx k [v1, v2] = some (res, []))
    (hb : Q6 (cx.md k) 0 [v1, v2] = [] ∧ J1 ((cidAll (cx.md k) 0 [v1, v2]).map (·.1)) = true ∧ U0 [v1, v2] = true) (hi : H8 res = true) (hk : tRefsOk keep (keptWs keep [(.t d, res)]) = true)
    (h : ∀ _ : Unit, XR cx keep ops0 r (a0k A [(.t d, res)]) fun A' lg => Q A' ((a2e [x1, x2], [.t d]) :: lg)) : XR cx keep ops0 (⟨some d, .call ⟨.value (.func k), #[x1, x2], Ts⟩, ty, pos, aft, none⟩ :: r) A Q :=
  a3s hx (A5 (A9 p1) (A5 (A9 p2) E5)) hC ⟨rfl, by rw [hb.1]; rfl, hb.2.1, by simp, hb.2.2⟩ (.inl rfl) (by rw [hb.1]; exact C4) (E8 hi) (fun _ => hk) (fun g => by have := h g; simpa [a3u] using this)
theorem xC3 {k : Nat} {Ts : Array Nat} {x1 x2 x3 : Operand} {v1 v2 v3 res : AV} (hx : opds A [x1, x2, x3] = some [v1, v2, v3]) (p1 : M8 v1 = true) (p2 : M8 v2 = true) (p3 : M8 v3 = true) (hC : CW cx k [v1, v2, v3] = some (res, []))
    (hb : Q6 (cx.md k) 0 [v1, v2, v3] = [] ∧ J1 ((cidAll (cx.md k) 0 [v1, v2, v3]).map (·.1)) = true ∧ U0 [v1, v2, v3] = true) (hi : H8 res = true) (hk : tRefsOk keep (keptWs keep [(.t d, res)]) = true)
    (h : ∀ _ : Unit, XR cx keep ops0 r (a0k A [(.t d, res)]) fun A' lg => Q A' ((a2e [x1, x2, x3], [.t d]) :: lg)) : XR cx keep ops0 (⟨some d, .call ⟨.value (.func k), #[x1, x2, x3], Ts⟩, ty, pos, aft, none⟩ :: r) A Q :=
  a3s hx (A5 (A9 p1) (A5 (A9 p2) (A5 (A9 p3) E5))) hC ⟨rfl, by rw [hb.1]; rfl, hb.2.1, by simp, hb.2.2⟩ (.inl rfl) (by rw [hb.1]; exact C4) (E8 hi) (fun _ => hk) (fun g => by have := h g; simpa [a3u] using this)
theorem xO {α : Type} {f : α → AV} {xs : List α} {x : Operand} {id g s n : Nat} (hx : opd A x = some (.sl id g none 0 n)) (ho : Mv.look A (.h id) = some (.obj g 0 s (xs.map f))) (hn : n = (xs.map f).length) (hne : Loc.beq (.h d) (.h id) = false) (hf : ∀ a, K0 (f a) = true)
    (hk : ∀ g, slotOk keep (.t d) (.sl d g none 0 n) = true) (h : ∀ g', XR cx keep ops0 r ((.t d, .sl d g' none 0 n) :: (.h d, .obj g' 0 s (xs.map f)) :: (.h id, .dead g) :: A) fun A' lg => Q A' ((rds x ++ [.h id, .h d], [.h id, .h d, .t d]) :: lg)) :
    XR cx keep ops0 (⟨some d, .assign x, ty, pos, aft, none⟩ :: r) A Q := a3e hx ho hn hne (fun _ => F6 (D3 hf)) hk h
theorem xB {T id g m s : Nat} {a x : Operand} {e v : AV} (ha : opd A a = some (.ptr id g none 0 0)) (hx : opd A x = some v) (ho : Mv.look A (.h id) = some (.obj g m s [e])) (hl : a6v (leaves e) v = true)
    (hc : decide (m ≠ 2 ∧ (leaves v).length = (tyS cx.P T).size ∧ 0 < (leaves v).length ∧ (leaves v).length ≤ (leaves e).length) = true) (hw : Q2 (leaves v) (leaves e) = true) (hp : putAt e 0 v = v) (hm : decide (m = 3) = true) (hi : H7 [v] = true)
    (h : XR cx keep ops0 r ((.h id, .obj g m s [v]) :: A) fun A' lg => Q A' ((rds a ++ (rds x ++ [.h id, .h id, .h id]), [.h id]) :: lg)) : XR cx keep ops0 (⟨none, .store T a x, ty, pos, aft, none⟩ :: r) A Q := by
  obtain ⟨h1, h2, h3, h4⟩ := of_decide_eq_true hc
  exact Y6 ha hx ho hl ⟨h1, h2, h3, h4, hw⟩ hp (by rw [of_decide_eq_true hm]; exact W0 hi) h
theorem xA {α : Type} {f : α → AV} {xs ys : List α} {T T' E s id g n id2 g2 n2 : Nat} {x y : Operand} {z : AV} (hx : opd A x = some (.sl id g none 0 n)) (hy : opd A y = some (.sl id2 g2 none 0 n2)) (ho : Mv.look A (.h id) = some (.obj g 0 s (xs.map f))) (ho2 : Mv.look A (.h id2) = some (.obj g2 0 s (ys.map f)))
    (hn : n = (xs.map f).length) (hn2 : n2 = (ys.map f).length) (hd : (decide (1000000 ≤ id2) && !Loc.beq (.h id) (.h id2)) = true) (hT : S4 cx.P T = some (E, s)) (hT' : J2 (tyS cx.P T').k = true) (hz : a0r cx.P E = some (z, s)) (hb : decide ((tyS cx.P E).bytes ≤ 4096) = true) (hf : ∀ a, ((leaves (f a)).all cellLeaf && K0 (f a)) = true)
    (hle : xs.length + ys.length ≤ 4294967296) (hk : ∀ g, slotOk keep (.t d) (.sl (tid d 0) g none 0 (xs ++ ys).length) = true)
    (h : ∀ g', XR cx keep ops0 r ((.t d, .sl (tid d 0) g' none 0 (xs ++ ys).length) :: (.h (tid d 0), .obj g' 0 s ((xs ++ ys).map f)) :: (.h id, .dead g) :: (.h id2, .dead g2) :: A) fun A' lg => Q A' ((rds x ++ (rds y ++ [.h id2, .h id, .h (tid d 0)]), [.h id2, .h id, .h (tid d 0), .t d]) :: lg)) :
    XR cx keep ops0 (⟨some d, .call ⟨.builtin .append, #[x, y], #[T, T']⟩, ty, pos, aft, none⟩ :: r) A Q := by
  simp only [Bool.and_eq_true, decide_eq_true_eq, Bool.not_eq_true'] at hd hf
  exact b1k hx hy ho ho2 hn hn2 hd.1 hd.2 hT hT' hz (of_decide_eq_true hb) hf (Nat.le_trans hle (by decide)) hk h
theorem y_M {x : Operand} {v : AV} (e : (opd A x, slotOk keep (.t d) v) = (some v, true)) (h : XR cx keep ops0 r ((.t d, v) :: A) fun A' lg => Q A' ((rds x, [.t d]) :: lg)) : XR cx keep ops0 (⟨some d, .move x, ty, pos, aft, none⟩ :: r) A Q := by
  simp only [Prod.mk.injEq] at e
  exact c4x e.1 e.2 h
theorem y_S {x : Operand} {v : AV} (e : (opd A x, W9 v, slotOk keep (.t d) v) = (some v, true, true)) (h : XR cx keep ops0 r ((.t d, v) :: A) fun A' lg => Q A' ((rds x, [.t d]) :: lg)) : XR cx keep ops0 (⟨some d, .assign x, ty, pos, aft, none⟩ :: r) A Q := by
  simp only [Prod.mk.injEq] at e
  exact c0k e.1 e.2.1 e.2.2 h
theorem y_F {x : Operand} {S f o ft : Nat} {v v' : AV} (e : (opd A x, (match (tyS cx.P S).k with | .struct fs => fs[f]? | _ => none), decide ((tyS cx.P ft).size ≠ 0), (match v with | .ptr id g p i j => some (AV.ptr id g p i (j + o)) | .ipt e j => some (.ipt e (j + o)) | _ => none), slotOk keep (.t d) v') = (some v, some (o, ft), true, some v', true)) (h : XR cx keep ops0 r ((.t d, v') :: A) fun A' lg => Q A' ((rds x, [.t d]) :: lg)) : XR cx keep ops0 (⟨some d, .fieldAddr S x f, ty, pos, aft, none⟩ :: r) A Q := by
  simp only [Prod.mk.injEq] at e
  refine b3x e.1 e.2.1 (of_decide_eq_true e.2.2.1) ?_ e.2.2.2.2 h
  have e4 := e.2.2.2.1
  cases v <;> exact e4
theorem y_L {a : Operand} {T id g m s i j : Nat} {es : List AV} {e0 v : AV} (e : (opd A a, Mv.look A (.h id), es[i]?, ((leaves e0).all fun l => !isOwn l), partF cx.P T ((leaves e0).drop j), slotOk keep (.t d) v) = (some (.ptr id g none i j), some (.obj g m s es), some e0, true, some v, true)) (h : XR cx keep ops0 r ((.t d, v) :: A) fun A' lg => Q A' ((rds a ++ [.h id], [.t d]) :: lg)) : XR cx keep ops0 (⟨some d, .load T a, ty, pos, aft, none⟩ :: r) A Q := by
  simp only [Prod.mk.injEq] at e
  exact a0n e.1 e.2.1 e.2.2.1 e.2.2.2.1 e.2.2.2.2.1 e.2.2.2.2.2 h
theorem y_E {x : Operand} {i : Nat} {vs : List AV} {v : AV} (e : (opd A x, vs[i]?, slotOk keep (.t d) v) = (some (.tup vs), some v, true)) (h : XR cx keep ops0 r ((.t d, v) :: A) fun A' lg => Q A' ((rds x, [.t d]) :: lg)) : XR cx keep ops0 (⟨some d, .extract x i, ty, pos, aft, none⟩ :: r) A Q := by
  simp only [Prod.mk.injEq] at e
  exact b9e e.1 e.2.1 e.2.2 h
theorem y_B {a : Operand} {T id g m s : Nat} {v : AV} (e : (opd A a, Mv.look A (.h id), ((leaves v).all fun l => !isOwn l), partF cx.P T (leaves v), slotOk keep (.t d) v) = (some (.ptr id g none 0 0), some (.obj g m s [v]), true, some v, true)) (h : XR cx keep ops0 r ((.t d, v) :: A) fun A' lg => Q A' ((rds a ++ [.h id], [.t d]) :: lg)) : XR cx keep ops0 (⟨some d, .load T a, ty, pos, aft, none⟩ :: r) A Q := by
  simp only [Prod.mk.injEq] at e
  exact b3z e.1 e.2.1 e.2.2.1 e.2.2.2.1 e.2.2.2.2 h
theorem y_I {a : Operand} {T : Nat} {v : AV} (e : (opd A a, partF cx.P T (leaves v), slotOk keep (.t d) v) = (some (.ipt v 0), some v, true)) (h : XR cx keep ops0 r ((.t d, v) :: A) fun A' lg => Q A' ((rds a, [.t d]) :: lg)) : XR cx keep ops0 (⟨some d, .load T a, ty, pos, aft, none⟩ :: r) A Q := by
  simp only [Prod.mk.injEq] at e
  exact b3w e.1 e.2.1 e.2.2 h
theorem y_A {T s : Nat} {z : AV} (e : (a0r cx.P T, H7 [z], slotOk keep (.t d) (.ptr d 0 none 0 0)) = (some (z, s), true, true)) (hk : ∀ g, slotOk keep (.t d) (.ptr d g none 0 0) = true)
    (h : ∀ g, XR cx keep ops0 r ((.t d, .ptr d g none 0 0) :: (.h d, .obj g 3 s [z]) :: A) fun A' lg => Q A' (([.h d], [.h d, .t d]) :: lg)) : XR cx keep ops0 (⟨some d, .alloc T, ty, pos, aft, none⟩ :: r) A Q := by
  simp only [Prod.mk.injEq] at e
  exact c2s e.1 (fun _ => W0 e.2.1) hk h
end
theorem SL : (∀ {α β : Type} {av : List α} (f : α → β), (av.map f).length = av.length) ∧ (((∀ {p : Prop} [Decidable p], (decide p = true) = p) ∧ (∀ {p : Prop} {_ : Decidable p}, decide p = false ↔ ¬p) ∧ (∀ (b : Bool), ((!b) = true) = (b = false)) ∧ (∀ (b : Bool), ((!b) = false) = (b = true)) ∧ (∀ {α : Type} [BEq α] [LawfulBEq α] {a b : α}, (a != b) = true ↔ a ≠ b) ∧
    (∀ {α : Type} [BEq α] [LawfulBEq α] {a b : α}, (a == b) = true ↔ a = b) ∧ (∀ {α : Type} (a b : α), (a ≠ b) = ¬a = b) ∧ (!true) = false ∧ (!false) = true ∧ (∀ {α : Type} [BEq α] [LawfulBEq α] {a b : α}, (a == b) = false ↔ a ≠ b) ∧ (∀ {α : Type} [BEq α] [LawfulBEq α] {a b : α}, (a != b) = false ↔ a = b) ∧
    (∀ {p : Prop} [Decidable p], ¬¬p ↔ p) ∧ (∀ {a b : Int}, ¬a < b ↔ b ≤ a) ∧ (∀ {a b : Int}, ¬a ≤ b ↔ b < a)) ∧
    (∀ (a b : Bool), ((a && b) = true) = (a = true ∧ b = true)) ∧ (∀ {x y : Bool}, (x && y) = false ↔ x = false ∨ y = false) ∧ (∀ (a b : Bool), ((a || b) = true) = (a = true ∨ b = true)) ∧ (∀ {x y : Bool}, (x || y) = false ↔ x = false ∧ y = false)) := ⟨@List.length_map.{0, 0}, SG⟩
theorem LN : (∀ {α : Type}, ([] : List α).length = 0) ∧ (∀ {α : Type} {a : α} {l : List α}, (a :: l).length = l.length + 1) ∧ (∀ {α : Type} {a b : List α}, (a ++ b).length = a.length + b.length) ∧ (∀ n : Nat, 0 + n = n) ∧ (∀ {α β : Type} {l : List α} (f : α → β), (l.map f).length = l.length) := ⟨rfl, rfl, List.length_append, Nat.zero_add, List.length_map.{0, 0}⟩
theorem dT {p : Prop} [Decidable p] (h : decide p = true) : p := of_decide_eq_true h

def mdT : List (Nat × List Nat) := [(21, [0, 0, 1]), (22, [1]), (25, [3, 3, 3, 3]), (26, [3, 3, 3, 3]), (27, [3, 3, 3, 3]), (28, [3, 3, 3, 3]), (34, [2]), (35, [2]), (37, [3, 3, 3, 3]), (41, [1])]
noncomputable def c5m : List (Nat × (List AV → Option (AV × List (List AV)))) := [(35, a5s), (40, a2v), (41, a5o)]
noncomputable def cxT : Cx := { P := Try.prog, md := c6g mdT, ext := b7g c5m, it := fun _ => none, fzB := fun T d => [(50, 57), (50, 26)].contains (T, d) }
noncomputable def cxE : Cx := { P := Try.prog, md := c6g mdT, ext := fun _ => none }
theorem c5j (n : Int) (h : 1 ≤ n ∧ n ≤ 1000) : CW cxT 35 [.nil, iV n] = some (.own 1 (([] : List Int).map iV), []) := b5q cxT rfl (by simp [a5s, h])
theorem c3y (xs : List Int) (hl : xs.length ≤ K5) : CW cxT 40 [.list (xs.map iV)] = some (.own 1 (xs.map iV), []) := b5q cxT rfl (by simp [a2v, b7s, hl])
theorem c4n (xs : List Int) (hl : xs.length ≤ K5) : CW cxT 41 [.own 1 (xs.map iV)] = some (.tup [], [(sortI xs).map iV]) := b5q cxT rfl (by simp [a5o, b7s, hl])

theorem a6o : D8 Try.f38 = [0, 1, 2, 6] := by kernel_rfl
theorem b9j (n lo hi : Int) : CW cxT 38 [iV n, iV lo, iV hi] = some (bV (decide (lo ≤ n) && decide (n ≤ hi)), []) := by
 refine E3 rfl Try.func38 rfl ⟨by kernel_rfl, rfl, dT rfl, dT rfl, by decide⟩ a6o <| A3 <| A0 <| y_S rfl <| xN [0,1,2] [] rfl <| A3 <| A0 <| y_M rfl <| y_M rfl <| a1o rfl rfl <| y_M rfl ?_
 refine B5 rfl rfl ?_ ?_ <;> intro hg0 <;> have hg := hg0 <;> try simp only [SG] at hg
 ·refine y_M rfl <| gT rfl rfl <| y_M rfl <| gT rfl rfl <| a1o rfl rfl <| C9 rfl (by assumption) rfl rfl <| y_S rfl <| xN [6] [] rfl <| B9 <| B8 rfl rfl trivial ?_
  simp_all [ofConst]; try omega
 refine gF rfl rfl <| gF rfl rfl <| C3 rfl (by assumption) rfl rfl <| y_S rfl <| xN [6] [] rfl <| B9 <| B8 rfl rfl trivial ?_
 simp_all [ofConst]; try omega

theorem b8i : D8 Try.f29 = [0, 1, 2, 6] := by kernel_rfl
theorem c6r (n lo hi : Int) : CW cxT 29 [iV n, iV lo, iV hi] = some (bV (decide (lo ≤ n) && decide (n ≤ hi)), []) := by
 refine E3 rfl Try.func29 rfl ⟨by kernel_rfl, rfl, dT rfl, dT rfl, by decide⟩ b8i <| A3 <| A0 <| y_S rfl <| xN [0,1,2] [] rfl <| A3 <| A0 <| y_M rfl <| y_M rfl <| c0c rfl rfl <| y_M rfl ?_
 refine B5 rfl rfl ?_ ?_ <;> intro hg0 <;> have hg := hg0 <;> try simp only [SG] at hg
 ·refine y_M rfl <| gT rfl rfl <| y_M rfl <| gT rfl rfl <| a1o rfl rfl <| C9 rfl (by assumption) rfl rfl <| y_S rfl <| xN [6] [] rfl <| B9 <| B8 rfl rfl trivial ?_
  simp_all [ofConst]; try omega
 refine gF rfl rfl <| gF rfl rfl <| C3 rfl (by assumption) rfl rfl <| y_S rfl <| xN [6] [] rfl <| B9 <| B8 rfl rfl trivial ?_
 simp_all [ofConst]; try omega

theorem a7o : D8 Try.f33 = [0, 2, 3] := by kernel_rfl
theorem c0p (xs : List Int) (hl : xs.length ≤ K5) : CW cxT 33 [L xs] = some (.own 1 ((sortI xs).map iV), []) := by
 refine E3 rfl Try.func33 rfl ⟨by kernel_rfl, rfl, dT rfl, dT rfl, by decide⟩ a7o <| A3 <| A0 ?_
 (refine I5 rfl rfl (fun _ => rfl) ?_; intro g2)
 refine xN [0] [] rfl <| A3 <| A0 <| y_M rfl ?_
 apply xC rfl
 ·apply A5
  ·exact A9 rfl
  exact E5
 ·exact c3y xs hl
 refine ⟨⟨rfl, rfl, rfl, dT rfl, rfl⟩, .inl rfl, C4, I4, fun _ => rfl, fun g5 => ?_⟩
 (refine xO rfl rfl (by simp) rfl (fun _ => rfl) (fun _ => rfl) ?_; intro g3)
 refine xN [3] [3] rfl <| A3 <| A0 <| y_M rfl ?_
 apply a3s rfl
 ·apply A5
  ·exact b2a rfl rfl (by decide) (by (simp; done)) (a1g fun _ => rfl)
  exact E5
 ·exact c4n _ hl
 ·exact ⟨rfl, rfl, rfl, dT rfl, rfl⟩
 ·exact .inl rfl
 ·exact K3 rfl (by simp) (b6g _ _) C4
 ·exact a0y rfl
 ·(intro _; exact F0 (F6 (D3 fun _ => rfl)) rfl)
 intro g7
 refine xN [3] [3] rfl <| A3 <| A0 <| y_M rfl ?_
 (refine xO rfl rfl (by simp) rfl (fun _ => rfl) (fun _ => rfl) ?_; intro g2)
 refine xN [2] [2] rfl <| B9 <| a0u rfl rfl (by (simp; done)) (by exact D3 fun _ => rfl) trivial ?_
 rfl

theorem a2p : D8 Try.f46 = [0, 1, 4, 8, 7, 9, 5, 16] := by kernel_rfl
theorem b0c (xs : List Int) (hl : xs.length ≤ 1000) (k : Nat) (a b : AV) (q : Int → Bool) (hq : ∀ x, CW cxT k [iV x, .ipt a 0, .ipt b 0] = some (bV (q x), [])) : ∃ res outs, (fun res outs => ∃ r : Int, res = iV r ∧ outs = [] ∧ decide (0 ≤ r) = xs.any q) res outs ∧ CW cxT 46 [L xs, .clo k [.ipt a 0, .ipt b 0]] = some (res, outs) := by
 refine a1e rfl Try.func46 rfl ⟨by kernel_rfl, rfl, dT rfl, dT rfl, by decide⟩ a2p <| A3 <| A0 <| y_S rfl <| xN [0,1] [] rfl <| A3 <| A3 <| A0 <| y_M rfl <| B0 rfl rfl <| y_M rfl <| xN [0,1,7,8] [] rfl <| C1 <| G6 (β := Nat) [(.t 0, _), (.t 1, _), (.t 7, _)] (fun (i : Nat) => [(.t 8, iV i)]) (fun (i : Nat) => i ≤ xs.length ∧ ∀ j, j < i → q (xs.getD j default) = false) (fun (i : Nat) => xs.length - i) 0 ⟨rfl, rfl, rfl, rfl, trivial⟩ ⟨Nat.zero_le _, fun j h => by omega⟩ ?_
 intro i hb
 obtain ⟨hi1, hi2⟩ := hb
 refine A3 <| A0 <| K2 rfl rfl <| xN [0,1,7,8,9] [] rfl <| A3 ?_
 refine B1 rfl ?_ ?_ <;> intro hc <;> try simp only [SL] at hc
 ·refine C0 <| A3 <| C1 <| A3 <| A0 <| y_M rfl <| y_S rfl <| xN [0,1,5,7,8] [] rfl <| A3 <| A0 <| y_M rfl <| y_M rfl <| y_M rfl <| H1 rfl rfl rfl (fun _ => rfl) (by omega) <| y_I rfl ?_
  apply b7c rfl rfl
  ·apply A5
   ·exact A9 rfl
   apply A5
   ·exact A9 rfl
   apply A5
   ·exact A9 rfl
   exact E5
  ·exact hq (xs.getD i default)
  ·exact ⟨rfl, rfl, rfl, dT rfl, rfl⟩
  ·exact .inl rfl
  ·exact C4
  ·exact E8 rfl
  ·exact fun _ => rfl
  intro g16
  refine xN [0,1,5,7,8,16] [] rfl ?_
  refine B1 rfl ?_ ?_ <;> intro hc <;> try simp only [SL] at hc
  ·refine A3 <| A0 <| y_M rfl <| y_S rfl <| xN [4] [] rfl <| B9 ?_
   refine ⟨_, _, ?_, b0j rfl rfl G4⟩
   exact ⟨_, rfl, rfl, c2w (by omega) hc⟩
  refine C0 <| A0 <| E4 rfl rfl (C5 (by omega)) <| y_M rfl <| xN [0,1,7,8] [] rfl ?_
  refine ⟨i + 1, ⟨by omega, fun a ha => by rcases Nat.lt_succ_iff_lt_or_eq.1 ha with h | h; exact hi2 a h; subst h; exact hc⟩, (by omega), ⟨rfl, rfl, rfl, rfl, trivial⟩⟩
 refine G8 <| A3 <| A0 <| y_S rfl <| xN [4] [] rfl <| B9 ?_
 refine ⟨_, _, ?_, b0j rfl rfl G4⟩
 exact ⟨-1, rfl, rfl, c0o fun j hj => hi2 j (by omega)⟩

theorem a0p : D8 Try.f42 = [0, 1, 4] := by kernel_rfl
theorem a5d (xs : List Int) (hl : xs.length ≤ 1000) (k : Nat) (a b : AV) (q : Int → Bool) (hq : ∀ x, CW cxT k [iV x, .ipt a 0, .ipt b 0] = some (bV (q x), [])) : CW cxT 42 [L xs, .clo k [.ipt a 0, .ipt b 0]] = some (bV (xs.any q), []) := by
 obtain ⟨_, _, ⟨r, rfl, rfl, hr⟩, hC⟩ := b0c xs hl k a b q hq
 refine E3 rfl Try.func42 rfl ⟨by kernel_rfl, rfl, dT rfl, dT rfl, by decide⟩ a0p <| A3 <| A0 <| y_S rfl <| xN [0,1] [] rfl <| A3 <| A0 <| y_M rfl <| y_M rfl ?_
 apply xC rfl
 ·apply A5
  ·exact A9 rfl
  apply A5
  ·exact c0w rfl (c2l (c2l b9o))
  exact E5
 ·exact hC
 refine ⟨⟨rfl, rfl, rfl, dT rfl, rfl⟩, .inl rfl, C4, E8 rfl, fun _ => rfl, fun g7 => ?_⟩
 refine c0c rfl rfl <| y_S rfl <| xN [4] [] rfl <| B9 <| B8 rfl rfl trivial ?_
 rw [← hr]

theorem a8k : D8 Try.f43 = [0, 1, 2, 4] := by kernel_rfl
theorem c0b (x lo hi : Int) : CW cxT 43 [iV x, .ipt (iV lo) 0, .ipt (iV hi) 0] = some (bV (!(decide (lo ≤ x) && decide (x ≤ hi))), []) := by
 refine E3 rfl Try.func43 rfl ⟨by kernel_rfl, rfl, dT rfl, dT rfl, by decide⟩ a8k <| A3 <| A0 <| y_S rfl <| xN [0,1,2] [] rfl <| A3 <| A0 <| y_M rfl <| y_I rfl <| y_I rfl ?_
 refine xC3 rfl rfl rfl rfl (c6r _ _ _) ⟨rfl, rfl, rfl⟩ rfl rfl fun g8 => ?_
 refine a2z rfl <| y_S rfl <| xN [4] [] rfl <| B9 <| B8 rfl rfl trivial ?_
 rfl

theorem b0b : D8 Try.f39 = [0, 1, 2, 6, 4, 5] := by kernel_rfl
theorem c2x (xs : List Int) (hl : xs.length ≤ 1000) (lo hi : Int) : CW cxT 39 [L xs, iV lo, iV hi] = some (bV (a2a lo hi xs), []) := by
 refine E3 rfl Try.func39 rfl ⟨by kernel_rfl, rfl, dT rfl, dT rfl, by decide⟩ b0b <| A3 <| A0 <| b6y rfl rfl rfl (fun _ => W0 rfl) (fun _ => rfl) ?_
 intro g4
 refine b6y rfl rfl rfl (fun _ => W0 rfl) (fun _ => rfl) ?_
 intro g5
 refine y_S rfl <| xN [0,4,5] [4,5] rfl <| A3 <| A0 <| y_M rfl <| a5w rfl rfl ?_
 apply xC rfl
 ·apply A5
  ·exact A9 rfl
  apply A5
  ·exact c0w rfl (c2h rfl rfl (c2h rfl rfl b9o))
  exact E5
 ·exact a5d xs hl 43 (iV lo) (iV hi) _ (fun x => c0b x lo hi)
 refine ⟨⟨rfl, rfl, rfl, dT rfl, rfl⟩, .inr ⟨rfl, rfl⟩, C4, E8 rfl, fun _ => rfl, fun g9 => ?_⟩
 refine a2z rfl <| y_S rfl <| xN [6] [] rfl <| B9 <| B8 rfl rfl trivial ?_
 exact congrArg bV (b9x lo hi xs)

theorem a8t : D8 Try.f6 = [0, 2, 4, 11, 3] := by kernel_rfl
theorem V4 (xs : List Int) (hl : xs.length ≤ 1048576) : CW cxT 6 [L xs] = some (.own 1 (xs.map iV), []) := by
 refine E3 rfl Try.func6 rfl ⟨by kernel_rfl, rfl, dT rfl, dT rfl, by decide⟩ a8t <| A3 <| A0 ?_
 (refine I5 rfl rfl (fun _ => rfl) ?_; intro g2)
 refine xN [0] [] rfl <| A3 <| A0 <| y_M rfl <| B0 rfl rfl <| a4i (f := iV) (x0 := 0) rfl rfl rfl rfl rfl (by simp only [K5]; omega) (dT rfl) (fun _ => F6 (by exact D3 fun _ => rfl)) (fun _ => rfl) ?_
 intro g7
 (refine xO rfl rfl (by simp) rfl (fun _ => rfl) (fun _ => rfl) ?_; intro g3)
 refine xN [0,3] [3] rfl <| A3 <| A3 <| A0 <| y_S rfl <| xN [0,3,4] [3] rfl <| C1 <| G6 (β := Nat × List Int) [(.t 0, _), (.t 3, _)] (fun (z : Nat × List Int) => match z with | (i, ys) => [(.t 4, iV i), (.h 3, .obj g3 0 1 (ys.map iV))]) (fun (z : Nat × List Int) => match z with | (i, ys) => i ≤ xs.length ∧ ys.length = xs.length ∧ ∀ j, j < i → ys.getD j default = xs.getD j default) (fun (z : Nat × List Int) => match z with | (i, ys) => xs.length - i) (0, List.replicate xs.length 0) ⟨rfl, rfl, rfl, rfl, trivial⟩ ⟨Nat.zero_le _, by simp, fun j h => by omega⟩ ?_
 intro z hb
 obtain ⟨i, ys⟩ := z
 try dsimp only at hb
 obtain ⟨hi1, hi2, hi3⟩ := hb
 refine A3 <| A3 <| A0 <| y_M rfl <| y_M rfl <| B0 rfl rfl <| K2 rfl rfl <| xN [0,3,4,11] [3] rfl ?_
 refine B1 rfl ?_ ?_ <;> intro hc <;> try simp only [SL] at hc
 ·refine C0 <| A3 <| C1 <| A0 <| y_M rfl <| y_M rfl <| y_M rfl <| y_M rfl <| H1 rfl rfl rfl (fun _ => rfl) (by omega) <| y_I rfl <| I0 rfl rfl rfl rfl (by omega) (by (simp; omega)) rfl <| a2s rfl rfl rfl (by omega) (fun _ _ => ⟨rfl, rfl, dT rfl, dT rfl, rfl, rfl⟩) (by decide) (by exact F6 (D3 fun _ => rfl)) <| xN [0,3,4] [3] rfl <| A0 <| y_M rfl <| E4 rfl rfl (C5 (by omega)) <| y_S rfl <| xN [0,3,4] [3] rfl ?_
  refine ⟨(i + 1, ys.set i (xs.getD i default)), ⟨by omega, by simp [hi2], fun j hj => by rw [b8d (by omega)]; by_cases e : j = i; (· rw [if_pos e, e]); (· rw [if_neg e]; exact hi3 j (by omega))⟩, (by simp only; omega), ⟨rfl, rfl, rfl, rfl, trivial⟩⟩
 refine G8 <| A3 <| A0 <| y_M rfl ?_
 (refine a3e rfl rfl (by (simp; omega)) rfl (fun _ => (F6 (by exact D3 fun _ => rfl))) (fun _ => rfl) ?_; intro g2)
 refine xN [2] [2] rfl <| B9 <| a0u rfl rfl (by (simp [hi2]; done)) (by exact D3 fun _ => rfl) trivial ?_
 rw [b7v hi2 fun j hj => hi3 j (by omega)]

theorem a8d : D8 Try.f8 = [0, 1, 4, 10, 5, 14, 25] := by kernel_rfl
theorem b3g (xs : List Int) (hl : xs.length ≤ 1048576) : CW cxT 8 [L xs, L xs] = some (bV true, []) := by
 refine E3 rfl Try.func8 rfl ⟨by kernel_rfl, rfl, dT rfl, dT rfl, by decide⟩ a8d <| A3 <| A0 <| y_S rfl <| xN [0,1] [] rfl <| A3 <| A3 <| A0 <| y_M rfl <| B0 rfl rfl <| y_M rfl <| B0 rfl rfl <| b6t rfl rfl <| xN [0,1,10] [] rfl ?_
 refine B1 rfl (fun hc => ?_) (fun hc => ?_)
 ·try simp only [SD] at hc
  exact absurd trivial hc
 try simp only [SL] at hc
 refine C0 <| A3 <| A3 <| A0 <| y_S rfl <| xN [0,1,5] [] rfl <| C1 <| G6 (β := Nat) [(.t 0, _), (.t 1, _)] (fun (i : Nat) => [(.t 5, iV i)]) (fun (i : Nat) => i ≤ xs.length) (fun (i : Nat) => xs.length - i) 0 ⟨rfl, rfl, rfl, trivial⟩ (Nat.zero_le _) ?_
 intro i hb
 have hi1 := hb
 refine A3 <| A3 <| A0 <| y_M rfl <| y_M rfl <| B0 rfl rfl <| K2 rfl rfl <| xN [0,1,5,14] [] rfl ?_
 refine B1 rfl ?_ ?_ <;> intro hc <;> try simp only [SL] at hc
 ·refine C0 <| A3 <| C1 <| A3 <| A0 <| y_M rfl <| y_M rfl <| H1 rfl rfl rfl (fun _ => rfl) (by omega) <| y_I rfl <| y_M rfl <| y_M rfl <| H1 rfl rfl rfl (fun _ => rfl) (by omega) <| y_I rfl <| b6t rfl rfl ?_
  refine a3t ⟨fun _ => ⟨by decide +kernel, by decide +kernel⟩, [(.t 0, _), (.t 1, _), (.t 5, _), (.t 25, _)], ⟨rfl, rfl, rfl, rfl, rfl, rfl, rfl, rfl, trivial⟩, ?_⟩
  refine B1 rfl (fun hc => ?_) (fun hc => ?_)
  ·try simp only [SD] at hc
   exact absurd trivial hc
  try simp only [SL] at hc
  refine C0 <| A0 <| y_M rfl <| E4 rfl rfl (C5 (by omega)) <| y_S rfl <| xN [0,1,5] [] rfl ?_
  refine ⟨i + 1, (by omega), (by omega), ⟨rfl, rfl, rfl, trivial⟩⟩
 refine G8 <| A3 <| A0 <| y_S rfl <| xN [4] [] rfl <| B9 <| B8 rfl rfl trivial ?_
 rfl

theorem a2l : D8 Try.f32 = [0, 2] := by kernel_rfl
theorem Y3 (xs : List Int) (hl : xs.length ≤ 1048576) : CW cxT 32 [L xs] = some (bV (vd xs), []) := by
 refine E3 rfl Try.func32 rfl ⟨by kernel_rfl, rfl, dT rfl, dT rfl, by decide⟩ a2l <| A3 <| A0 <| y_S rfl <| xN [0] [] rfl <| A3 <| A0 <| y_M rfl <| B0 rfl rfl <| a1o rfl rfl <| y_M rfl ?_
 refine B5 rfl rfl ?_ ?_ <;> intro hg0 <;> have hg := hg0 <;> try simp only [SG] at hg
 ·refine y_M rfl <| gT rfl rfl ?_
  refine xC3 rfl rfl rfl rfl (c2x xs (by omega) (-200) 200) ⟨rfl, rfl, rfl⟩ rfl rfl fun g8 => ?_
  refine C9 rfl (by assumption) rfl rfl <| y_S rfl <| xN [2] [] rfl <| B9 <| B8 rfl rfl trivial ?_
  cases hb : a2a (-200) 200 xs <;> simp_all [vd, ofConst] <;> omega
 refine gF rfl rfl <| C3 rfl (by assumption) rfl rfl <| y_S rfl <| xN [2] [] rfl <| B9 <| B8 rfl rfl trivial ?_
 cases hb : a2a (-200) 200 xs <;> simp_all [vd, ofConst] <;> omega

theorem a3v : D8 Try.f30 = [0, 2, 3, 7, 15] := by kernel_rfl
theorem Z7 (xs : List Int) (hl : xs.length ≤ 1048576) : CW cxT 30 [L xs] = some (bV (vd xs), []) := by
 refine E3 rfl Try.func30 rfl ⟨by kernel_rfl, rfl, dT rfl, dT rfl, by decide⟩ a3v <| A3 <| A0 <| y_S rfl <| xN [0] [] rfl <| A3 <| A3 <| A0 <| y_S rfl <| xN [0,3] [] rfl <| C1 <| G6 (β := Nat) [(.t 0, _)] (fun (i : Nat) => [(.t 3, iV i)]) (fun (i : Nat) => i ≤ xs.length ∧ ∀ j, j < i → -200 ≤ xs.getD j default ∧ xs.getD j default ≤ 200) (fun (i : Nat) => xs.length - i) 0 ⟨rfl, rfl, trivial⟩ ⟨Nat.zero_le _, fun j h => by omega⟩ ?_
 intro i hb
 obtain ⟨hi1, hi2⟩ := hb
 refine A3 <| A3 <| A0 <| y_M rfl <| y_M rfl <| B0 rfl rfl <| K2 rfl rfl <| xN [0,3,7] [] rfl ?_
 refine B1 rfl ?_ ?_ <;> intro hc <;> try simp only [SL] at hc
 ·refine C0 <| A3 <| C1 <| A3 <| A0 <| y_M rfl <| y_M rfl <| H1 rfl rfl rfl (fun _ => rfl) (by omega) <| y_I rfl ?_
  refine xC3 rfl rfl rfl rfl (b9j _ _ _) ⟨rfl, rfl, rfl⟩ rfl rfl fun g14 => ?_
  refine a2z rfl <| xN [0,3,15] [] rfl ?_
  refine B1 rfl ?_ ?_ <;> intro hc <;> try simp only [SL] at hc
  ·refine A3 <| A0 <| y_S rfl <| xN [2] [] rfl <| B9 <| B8 rfl rfl trivial ?_
   rw [vd, c2g (show i < xs.length by omega) (by (simp_all; omega)), Bool.and_false]
   rfl
  refine C0 <| A0 <| y_M rfl <| E4 rfl rfl (C5 (by omega)) <| y_S rfl <| xN [0,3] [] rfl ?_
  refine ⟨i + 1, ⟨by omega, fun j hj => by rcases Nat.lt_succ_iff_lt_or_eq.1 hj with h | h; (· exact hi2 j h); (· subst h; assumption)⟩, (by omega), ⟨rfl, rfl, trivial⟩⟩
 refine G8 <| A3 <| A0 <| y_M rfl <| B0 rfl rfl <| a1o rfl rfl <| y_S rfl <| xN [2] [] rfl <| B9 <| B8 rfl rfl trivial ?_
 rw [vd, c3q fun j hj => hi2 j (by omega), Bool.and_true]
 exact congrArg bV (decide_eq_decide.2 (by omega))

theorem b1j : D8 Try.f23 = [0, 1, 2, 3, 8, 9] := by kernel_rfl
theorem b1l (i k m n : Nat) (hi : i ≤ 100) (hk : k ≤ 100) (hm : m ≤ 100) (hn : n ≤ 100) : CW cxT 23 [nV i, nV k, nV m, nV n] = some (nV (Gp.ap m n i k), []) := by
 have h1 : i * n ≤ 100 * 100 := Nat.mul_le_mul hi hn
 have h2 : k * m ≤ 100 * 100 := Nat.mul_le_mul hk hm
 have e1 : (i : Int) * (n : Int) = ((i * n : Nat) : Int) := by rw [Int.natCast_mul]
 have e2 : (k : Int) * (m : Int) = ((k * m : Nat) : Int) := by rw [Int.natCast_mul]
 refine E3 rfl Try.func23 rfl ⟨by kernel_rfl, rfl, dT rfl, dT rfl, by decide⟩ b1j <| A3 <| A0 <| y_S rfl <| xN [0,1,2,3] [] rfl <| A3 <| A0 <| y_M rfl <| y_M rfl <| a6c rfl rfl (C5 (by omega)) <| y_M rfl <| y_M rfl <| a6c rfl rfl (C5 (by omega)) <| a1m rfl rfl (C5 (by omega)) <| y_S rfl <| xN [9] [] rfl <| A3 <| A0 <| y_M rfl <| y_M rfl <| b9q rfl (C5 (by omega)) <| b6n rfl rfl <| y_S rfl <| xN [8] [] rfl <| B9 <| B8 rfl rfl trivial <| congrArg iV ?_
 unfold Gp.ap
 omega

theorem a8r : D8 Try.f36 = [0, 1, 4, 10, 9, 11, 8, 7, 16, 5] := by kernel_rfl
theorem b3j (l : List Int) (hl : l.length ≤ 1048576) (x : Int) : CW cxT 36 [L l, iV x] = some (nV (cl l x), []) := by
 refine E3 rfl Try.func36 rfl ⟨by kernel_rfl, rfl, dT rfl, dT rfl, by decide⟩ a8r <| A3 <| A0 <| y_S rfl <| xN [0,1] [] rfl <| A3 <| A0 <| y_S rfl <| xN [0,1,5] [] rfl <| A3 <| A3 <| A0 <| y_M rfl <| B0 rfl rfl <| y_M rfl <| xN [1,5,8,9,10] [] rfl <| C1 <| G6 (β := Nat × Nat) [(.t 1, _), (.t 8, _), (.t 9, _)] (fun (z : Nat × Nat) => match z with | (i, c) => [(.t 10, iV i), (.t 5, nV c)]) (fun (z : Nat × Nat) => match z with | (i, c) => i ≤ l.length ∧ c = cl (l.take i) x) (fun (z : Nat × Nat) => match z with | (i, c) => l.length - i) (0, 0) ⟨rfl, rfl, rfl, rfl, rfl, trivial⟩ ⟨Nat.zero_le _, rfl⟩ ?_
 intro z hb
 obtain ⟨i, c⟩ := z
 try dsimp only at hb
 obtain ⟨hi1, hc0⟩ := hb
 have hcl := a0z (l.take i) x
 rw [List.length_take, ← hc0] at hcl
 refine A3 <| A0 <| K2 rfl rfl <| xN [1,5,8,9,10,11] [] rfl <| A3 ?_
 refine B1 rfl ?_ ?_ <;> intro hc <;> try simp only [SL] at hc
 ·refine C0 <| A3 <| C1 <| A3 <| A0 <| H1 rfl rfl rfl (fun _ => rfl) (by omega) <| y_I rfl <| y_S rfl <| xN [1,5,7,8,9,10] [] rfl <| A3 <| A0 <| y_M rfl <| y_M rfl <| a1o rfl rfl <| xN [1,5,8,9,10,16] [] rfl ?_
  refine B1 rfl ?_ ?_ <;> intro hc <;> try simp only [SL] at hc
  ·refine A0 <| y_M rfl <| E4 rfl rfl (C5 (by omega)) <| y_S rfl <| xN [1,5,8,9,10] [] rfl <| A0 <| E4 rfl rfl (C5 (by omega)) <| y_M rfl <| xN [1,5,8,9,10] [] rfl ?_
   refine ⟨(i + 1, c + 1), ?_, (by simp only; omega), ⟨rfl, rfl, rfl, rfl, rfl, trivial⟩⟩
   exact ⟨by omega, by rw [T3 (by omega), a5q, ← hc0]; rw [if_pos (by assumption)]⟩
  refine C0 <| A0 <| E4 rfl rfl (C5 (by omega)) <| y_M rfl <| xN [1,5,8,9,10] [] rfl ?_
  refine ⟨(i + 1, c), ?_, (by simp only; omega), ⟨rfl, rfl, rfl, rfl, rfl, trivial⟩⟩
  exact ⟨by omega, by rw [T3 (by omega), a5q, ← hc0]; (rw [if_neg (by omega)])⟩
 refine G8 <| A3 <| A0 <| y_M rfl <| y_S rfl <| xN [4] [] rfl <| B9 <| B8 rfl rfl trivial ?_
 rw [hc0, List.take_of_length_le (by omega)]

theorem b2s : D8 Try.f31 = [0, 1, 4, 6, 10, 18, 5] := by kernel_rfl
theorem c0u (l : List Int) (hl : l.length ≤ 1048576) (x : Int) : CW cxT 31 [L l, iV x] = some (nV (cl l x), []) := by
 refine E3 rfl Try.func31 rfl ⟨by kernel_rfl, rfl, dT rfl, dT rfl, by decide⟩ b2s <| A3 <| A0 <| y_S rfl <| xN [0,1] [] rfl <| A3 <| A0 <| y_S rfl <| xN [0,1,5] [] rfl <| A3 <| A3 <| A0 <| y_S rfl <| xN [0,1,5,6] [] rfl <| C1 <| G6 (β := Nat × Nat) [(.t 0, _), (.t 1, _)] (fun (z : Nat × Nat) => match z with | (i, c) => [(.t 6, iV i), (.t 5, nV c)]) (fun (z : Nat × Nat) => match z with | (i, c) => i ≤ l.length ∧ c = cl (l.take i) x) (fun (z : Nat × Nat) => match z with | (i, c) => l.length - i) (0, 0) ⟨rfl, rfl, rfl, rfl, trivial⟩ ⟨Nat.zero_le _, rfl⟩ ?_
 intro z hb
 obtain ⟨i, c⟩ := z
 try dsimp only at hb
 obtain ⟨hi1, hc0⟩ := hb
 have hcl := a0z (l.take i) x
 rw [List.length_take, ← hc0] at hcl
 refine A3 <| A3 <| A0 <| y_M rfl <| y_M rfl <| B0 rfl rfl <| K2 rfl rfl <| xN [0,1,5,6,10] [] rfl ?_
 refine B1 rfl ?_ ?_ <;> intro hc <;> try simp only [SL] at hc
 ·refine C0 <| A3 <| C1 <| A3 <| A0 <| y_M rfl <| y_M rfl <| H1 rfl rfl rfl (fun _ => rfl) (by omega) <| y_I rfl <| y_M rfl <| a1o rfl rfl <| xN [0,1,5,6,18] [] rfl ?_
  refine B1 rfl ?_ ?_ <;> intro hc <;> try simp only [SL] at hc
  ·refine A0 <| y_M rfl <| E4 rfl rfl (C5 (by omega)) <| y_S rfl <| xN [0,1,5,6] [] rfl <| A0 <| y_M rfl <| E4 rfl rfl (C5 (by omega)) <| y_S rfl <| xN [0,1,5,6] [] rfl ?_
   refine ⟨(i + 1, c + 1), ?_, (by simp only; omega), ⟨rfl, rfl, rfl, rfl, trivial⟩⟩
   exact ⟨by omega, by rw [T3 (by omega), a5q, ← hc0]; rw [if_pos (by assumption)]⟩
  refine C0 <| A0 <| y_M rfl <| E4 rfl rfl (C5 (by omega)) <| y_S rfl <| xN [0,1,5,6] [] rfl ?_
  refine ⟨(i + 1, c), ?_, (by simp only; omega), ⟨rfl, rfl, rfl, rfl, trivial⟩⟩
  exact ⟨by omega, by rw [T3 (by omega), a5q, ← hc0]; (rw [if_neg (by omega)])⟩
 refine G8 <| A3 <| A0 <| y_M rfl <| y_S rfl <| xN [4] [] rfl <| B9 <| B8 rfl rfl trivial ?_
 rw [hc0, List.take_of_length_le (by omega)]

theorem a5l : D8 Try.f18 = [0, 1, 4] := by kernel_rfl
theorem b5z (a b : List Int) (ha : a.length ≤ 1048576) (hb : b.length ≤ 1048576) : CW cxT 18 [L a, L b] = some (bV (smp a b), []) := by
 refine E3 rfl Try.func18 rfl ⟨by kernel_rfl, rfl, dT rfl, dT rfl, by decide⟩ a5l <| A3 <| A0 <| y_S rfl <| xN [0,1] [] rfl <| A3 <| A0 <| y_M rfl <| B0 rfl rfl <| O9 rfl rfl <| y_M rfl ?_
 refine B5 rfl rfl ?_ ?_ <;> intro hg0 <;> have hg := hg0 <;> try simp only [SG] at hg
 ·refine y_M rfl <| gT rfl rfl <| B0 rfl rfl <| gT rfl rfl <| O9 rfl rfl <| C9 rfl (by assumption) rfl rfl <| y_M rfl ?_
  refine B5 rfl rfl ?_ ?_ <;> intro hg0 <;> have hg := hg0 <;> try simp only [SG] at hg
  ·refine y_M rfl <| gT rfl rfl <| B0 rfl rfl <| gT rfl rfl <| y_M rfl <| gT rfl rfl <| B0 rfl rfl <| gT rfl rfl <| E4 rfl rfl (C5 (by omega)) <| gT rfl rfl <| a1o rfl rfl <| C9 rfl (by assumption) rfl rfl <| y_M rfl ?_
   refine B5 rfl rfl ?_ ?_ <;> intro hg0 <;> have hg := hg0 <;> try simp only [SG] at hg
   ·refine y_M rfl <| gT rfl rfl ?_
    refine xC1 rfl rfl (Y3 a ha) ⟨rfl, rfl, rfl⟩ rfl rfl fun g23 => ?_
    refine C9 rfl (by assumption) rfl rfl <| y_M rfl ?_
    refine B5 rfl rfl ?_ ?_ <;> intro hg0 <;> have hg := hg0 <;> try simp only [SG] at hg
    ·refine y_M rfl <| gT rfl rfl ?_
     refine xC1 rfl rfl (Y3 b hb) ⟨rfl, rfl, rfl⟩ rfl rfl fun g27 => ?_
     refine C9 rfl (by assumption) rfl rfl <| y_S rfl <| xN [4] [] rfl <| B9 <| B8 rfl rfl trivial ?_
     (simp_all [smp, ofConst]; omega)
    refine gF rfl rfl <| C3 rfl (by assumption) rfl rfl <| y_S rfl <| xN [4] [] rfl <| B9 <| B8 rfl rfl trivial ?_
    (simp_all [smp, ofConst]; done)
   refine gF rfl rfl <| C3 rfl (by assumption) rfl rfl <| y_M rfl <| B2 rfl rfl rfl <| B2 rfl rfl rfl <| C3 rfl rfl rfl rfl <| y_S rfl <| xN [4] [] rfl <| B9 <| B8 rfl rfl trivial ?_
   (simp_all [smp, ofConst]; omega)
  iterate 5 refine gF rfl rfl ?_
  refine C3 rfl (by assumption) rfl rfl <| y_M rfl <| B2 rfl rfl rfl <| B2 rfl rfl rfl <| C3 rfl rfl rfl rfl <| y_M rfl <| B2 rfl rfl rfl <| B2 rfl rfl rfl <| C3 rfl rfl rfl rfl <| y_S rfl <| xN [4] [] rfl <| B9 <| B8 rfl rfl trivial ?_
  (simp_all [smp, ofConst]; done)
 refine gF rfl rfl <| gF rfl rfl <| C3 rfl (by assumption) rfl rfl <| y_M rfl ?_
 iterate 6 refine B2 rfl rfl rfl ?_
 refine C3 rfl rfl rfl rfl <| y_M rfl <| B2 rfl rfl rfl <| B2 rfl rfl rfl <| C3 rfl rfl rfl rfl <| y_M rfl <| B2 rfl rfl rfl <| B2 rfl rfl rfl <| C3 rfl rfl rfl rfl <| y_S rfl <| xN [4] [] rfl <| B9 <| B8 rfl rfl trivial ?_
 (simp_all [smp, ofConst]; done)

theorem a5j : D8 Try.f13 = [0, 1, 4] := by kernel_rfl
theorem b6b (a b : List Int) (ha : a.length ≤ 1048576) (hb : b.length ≤ 1048576) : CW cxT 13 [L a, L b] = some (bV (smp a b), []) := by
 refine E3 rfl Try.func13 rfl ⟨by kernel_rfl, rfl, dT rfl, dT rfl, by decide⟩ a5j <| A3 <| A0 <| y_S rfl <| xN [0,1] [] rfl <| A3 <| A0 <| y_M rfl ?_
 refine xC1 rfl rfl (Z7 a ha) ⟨rfl, rfl, rfl⟩ rfl rfl fun g6 => ?_
 refine y_M rfl ?_
 refine B5 rfl rfl ?_ ?_ <;> intro hg0 <;> have hg := hg0 <;> try simp only [SG] at hg
 ·refine y_M rfl <| gT rfl rfl ?_
  refine xC1 rfl rfl (Z7 b hb) ⟨rfl, rfl, rfl⟩ rfl rfl fun g9 => ?_
  refine C9 rfl (by assumption) rfl rfl <| y_M rfl ?_
  refine B5 rfl rfl ?_ ?_ <;> intro hg0 <;> have hg := hg0 <;> try simp only [SG] at hg
  ·refine y_M rfl <| gT rfl rfl <| B0 rfl rfl <| gT rfl rfl <| y_M rfl <| gT rfl rfl <| B0 rfl rfl <| gT rfl rfl <| E4 rfl rfl (C5 (by omega)) <| gT rfl rfl <| a1o rfl rfl <| C9 rfl (by assumption) rfl rfl <| y_M rfl ?_
   refine B5 rfl rfl ?_ ?_ <;> intro hg0 <;> have hg := hg0 <;> try simp only [SG] at hg
   ·refine y_M rfl <| gT rfl rfl <| B0 rfl rfl <| gT rfl rfl <| O9 rfl rfl <| C9 rfl (by assumption) rfl rfl <| y_M rfl ?_
    refine B5 rfl rfl ?_ ?_ <;> intro hg0 <;> have hg := hg0 <;> try simp only [SG] at hg
    ·refine y_M rfl <| gT rfl rfl <| B0 rfl rfl <| gT rfl rfl <| O9 rfl rfl <| C9 rfl (by assumption) rfl rfl <| y_S rfl <| xN [4] [] rfl <| B9 <| B8 rfl rfl trivial ?_
     (simp_all [smp, ofConst]; omega)
    refine gF rfl rfl <| gF rfl rfl <| C3 rfl (by assumption) rfl rfl <| y_S rfl <| xN [4] [] rfl <| B9 <| B8 rfl rfl trivial ?_
    (simp_all [smp, ofConst]; done)
   refine gF rfl rfl <| gF rfl rfl <| C3 rfl (by assumption) rfl rfl <| y_M rfl <| B2 rfl rfl rfl <| B2 rfl rfl rfl <| B2 rfl rfl rfl <| C3 rfl rfl rfl rfl <| y_S rfl <| xN [4] [] rfl <| B9 <| B8 rfl rfl trivial ?_
   (simp_all [smp, ofConst]; omega)
  iterate 5 refine gF rfl rfl ?_
  refine C3 rfl (by assumption) rfl rfl <| y_M rfl <| B2 rfl rfl rfl <| B2 rfl rfl rfl <| B2 rfl rfl rfl <| C3 rfl rfl rfl rfl <| y_M rfl <| B2 rfl rfl rfl <| B2 rfl rfl rfl <| B2 rfl rfl rfl <| C3 rfl rfl rfl rfl <| y_S rfl <| xN [4] [] rfl <| B9 <| B8 rfl rfl trivial ?_
  (simp_all [smp, ofConst]; done)
 refine gF rfl rfl <| C3 rfl (by assumption) rfl rfl <| y_M rfl ?_
 iterate 6 refine B2 rfl rfl rfl ?_
 refine C3 rfl rfl rfl rfl <| y_M rfl <| B2 rfl rfl rfl <| B2 rfl rfl rfl <| B2 rfl rfl rfl <| C3 rfl rfl rfl rfl <| y_M rfl <| B2 rfl rfl rfl <| B2 rfl rfl rfl <| B2 rfl rfl rfl <| C3 rfl rfl rfl rfl <| y_S rfl <| xN [4] [] rfl <| B9 <| B8 rfl rfl trivial ?_
 (simp_all [smp, ofConst]; done)

theorem a3z : D8 Try.f16 = [0, 1, 2, 3, 4, 10, 11, 37, 45] := by kernel_rfl
theorem b2j (m n d i k L : Nat) (hm : m ≤ 10) (hn : n ≤ 10) (hd : d ≤ 1000) (hi : i ≤ m + 1) (hk : k ≤ n + 1) (hL : i + k + L = m + n) : CW cxT 16 [nV m, nV n, nV i, nV k, nV d] = some (nV (Gp.pF m n d L i k), []) := by
 obtain ⟨kk, hkk⟩ : ∃ kk : Nat, L < kk := ⟨_, Nat.lt_succ_self _⟩
 revert i k L
 induction kk with
 | zero => intro i k L hi hk hL hkk; exact absurd hkk (Nat.not_lt_zero _)
 | succ kk ih =>
  intro i k L hi hk hL hkk
  have h1 : i * n ≤ 11 * 10 := Nat.mul_le_mul (by omega) hn
  have h2 : k * m ≤ 11 * 10 := Nat.mul_le_mul (by omega) hm
  have e1 : (i : Int) * (n : Int) = ((i * n : Nat) : Int) := by rw [Int.natCast_mul]
  have e2 : (k : Int) * (m : Int) = ((k * m : Nat) : Int) := by rw [Int.natCast_mul]
  refine E3 rfl Try.func16 rfl ⟨by kernel_rfl, rfl, dT rfl, dT rfl, by decide⟩ a3z <| A3 <| A0 <| y_S rfl <| xN [0,1,2,3,4] [] rfl <| A3 <| A0 <| y_M rfl <| y_M rfl <| a6c rfl rfl (C5 (by omega)) <| y_M rfl <| y_M rfl <| a6c rfl rfl (C5 (by omega)) <| a1m rfl rfl (C5 (by omega)) <| y_S rfl <| xN [0,1,2,3,4,11] [] rfl <| A3 <| A3 <| A0 <| y_M rfl <| y_M rfl <| O9 rfl rfl <| y_M rfl ?_
  refine B5 rfl rfl ?_ ?_ <;> intro hg0 <;> have hg := hg0 <;> try simp only [SG] at hg
  ·refine y_M rfl <| gT rfl rfl <| y_M rfl <| gT rfl rfl <| O9 rfl rfl <| C3 rfl (by assumption) rfl rfl <| y_M rfl ?_
   refine B5 rfl rfl ?_ ?_ <;> intro hg0 <;> have hg := hg0 <;> try simp only [SG] at hg
   ·refine y_M rfl <| gT rfl rfl <| y_M rfl <| gT rfl rfl <| O9 rfl rfl <| C3 rfl (by assumption) rfl rfl <| y_M rfl ?_
    refine B5 rfl rfl ?_ ?_ <;> intro hg0 <;> have hg := hg0 <;> try simp only [SG] at hg
    ·refine y_M rfl <| gT rfl rfl <| y_M rfl <| gT rfl rfl <| b9q rfl (C5 (by omega)) <| gT rfl rfl <| K2 rfl rfl <| C3 rfl (by assumption) rfl rfl <| xN [0,1,2,3,4,37] [] rfl ?_
     refine B1 rfl ?_ ?_ <;> intro hc <;> try simp only [SL] at hc
     ·refine A3 <| A0 <| y_S rfl <| xN [10] [] rfl <| B9 <| B8 rfl rfl trivial ?_
      exact congrArg nV (b1g (by unfold Gp.ap; omega)).symm
     refine C0 <| A3 <| A3 <| A0 <| y_M rfl <| y_M rfl <| a9c rfl rfl <| y_M rfl ?_
     refine B5 rfl rfl ?_ ?_ <;> intro hg0 <;> have hg := hg0 <;> try simp only [SG] at hg
     ·refine y_M rfl <| gT rfl rfl <| y_M rfl <| gT rfl rfl <| a9c rfl rfl <| C9 rfl (by assumption) rfl rfl <| xN [0,1,2,3,4,45] [] rfl ?_
      refine B1 rfl ?_ ?_ <;> intro hc <;> try simp only [SL] at hc
      ·refine A3 <| A0 <| y_S rfl <| xN [10] [] rfl <| B9 <| B8 rfl rfl trivial ?_
       exact congrArg nV (c4t (by omega) (by omega) (by unfold Gp.ap; omega) (by omega)).symm
      refine C0 <| A3 <| A0 ?_
      obtain ⟨L1, rfl⟩ : ∃ L1, L = L1 + 1 := ⟨L - 1, by omega⟩
      have hb1 := b7f m n d L1 (i + 1) k (by omega)
      have hb2 := b7f m n d L1 i (k + 1) (by omega)
      refine y_M rfl <| y_M rfl <| y_M rfl <| E4 rfl rfl (C5 (by omega)) <| y_M rfl <| y_M rfl ?_
      rw [show ((i : Int) + 1) = ((i + 1 : Nat) : Int) by omega]
      apply xC rfl
      ·apply A5
       ·exact A9 rfl
       apply A5
       ·exact A9 rfl
       apply A5
       ·exact A9 rfl
       apply A5
       ·exact A9 rfl
       apply A5
       ·exact A9 rfl
       exact E5
      ·exact ih (i + 1) k L1 (by omega) (by omega) (by omega) (by omega)
      refine ⟨⟨rfl, rfl, rfl, dT rfl, rfl⟩, .inl rfl, C4, E8 rfl, fun _ => rfl, fun g52 => ?_⟩
      refine y_M rfl <| y_M rfl <| y_M rfl <| y_M rfl <| E4 rfl rfl (C5 (by omega)) <| y_M rfl ?_
      rw [show ((k : Int) + 1) = ((k + 1 : Nat) : Int) by omega]
      apply xC rfl
      ·apply A5
       ·exact A9 rfl
       apply A5
       ·exact A9 rfl
       apply A5
       ·exact A9 rfl
       apply A5
       ·exact A9 rfl
       apply A5
       ·exact A9 rfl
       exact E5
      ·exact ih i (k + 1) L1 (by omega) (by omega) (by omega) (by omega)
      refine ⟨⟨rfl, rfl, rfl, dT rfl, rfl⟩, .inl rfl, C4, E8 rfl, fun _ => rfl, fun g59 => ?_⟩
      refine E4 rfl rfl (C5 (by omega)) <| y_S rfl <| xN [10] [] rfl <| B9 <| B8 rfl rfl trivial ?_
      exact congrArg nV (c2c (by omega) (by omega) (by unfold Gp.ap; omega)).symm
     refine gF rfl rfl <| gF rfl rfl <| C3 rfl (by assumption) rfl rfl <| xN [0,1,2,3,4,45] [] rfl ?_
     refine B1 rfl (fun hc => absurd hc (by decide)) (fun hc => ?_)
     refine C0 <| A3 <| A0 ?_
     obtain ⟨L1, rfl⟩ : ∃ L1, L = L1 + 1 := ⟨L - 1, by omega⟩
     have hb1 := b7f m n d L1 (i + 1) k (by omega)
     have hb2 := b7f m n d L1 i (k + 1) (by omega)
     refine y_M rfl <| y_M rfl <| y_M rfl <| E4 rfl rfl (C5 (by omega)) <| y_M rfl <| y_M rfl ?_
     rw [show ((i : Int) + 1) = ((i + 1 : Nat) : Int) by omega]
     apply xC rfl
     ·apply A5
      ·exact A9 rfl
      apply A5
      ·exact A9 rfl
      apply A5
      ·exact A9 rfl
      apply A5
      ·exact A9 rfl
      apply A5
      ·exact A9 rfl
      exact E5
     ·exact ih (i + 1) k L1 (by omega) (by omega) (by omega) (by omega)
     refine ⟨⟨rfl, rfl, rfl, dT rfl, rfl⟩, .inl rfl, C4, E8 rfl, fun _ => rfl, fun g52 => ?_⟩
     refine y_M rfl <| y_M rfl <| y_M rfl <| y_M rfl <| E4 rfl rfl (C5 (by omega)) <| y_M rfl ?_
     rw [show ((k : Int) + 1) = ((k + 1 : Nat) : Int) by omega]
     apply xC rfl
     ·apply A5
      ·exact A9 rfl
      apply A5
      ·exact A9 rfl
      apply A5
      ·exact A9 rfl
      apply A5
      ·exact A9 rfl
      apply A5
      ·exact A9 rfl
      exact E5
     ·exact ih i (k + 1) L1 (by omega) (by omega) (by omega) (by omega)
     refine ⟨⟨rfl, rfl, rfl, dT rfl, rfl⟩, .inl rfl, C4, E8 rfl, fun _ => rfl, fun g59 => ?_⟩
     refine E4 rfl rfl (C5 (by omega)) <| y_S rfl <| xN [10] [] rfl <| B9 <| B8 rfl rfl trivial ?_
     exact congrArg nV (c2c (by omega) (by omega) (by unfold Gp.ap; omega)).symm
    refine gF rfl rfl <| gF rfl rfl <| gF rfl rfl <| C9 rfl (by assumption) rfl rfl <| xN [0,1,2,3,4,37] [] rfl ?_
    refine B1 rfl (fun hc => ?_) (fun hc => absurd hc (by decide))
    refine A3 <| A0 <| y_S rfl <| xN [10] [] rfl <| B9 <| B8 rfl rfl trivial ?_
    exact congrArg nV (b1g (by unfold Gp.ap; omega)).symm
   refine gF rfl rfl <| gF rfl rfl <| C9 rfl (by assumption) rfl rfl <| y_M rfl ?_
   iterate 4 refine B2 rfl rfl rfl ?_
   refine C9 rfl rfl rfl rfl <| xN [0,1,2,3,4,37] [] rfl ?_
   refine B1 rfl (fun hc => ?_) (fun hc => absurd hc (by decide))
   refine A3 <| A0 <| y_S rfl <| xN [10] [] rfl <| B9 <| B8 rfl rfl trivial ?_
   exact congrArg nV (b1g (by unfold Gp.ap; omega)).symm
  refine gF rfl rfl <| gF rfl rfl <| C9 rfl (by assumption) rfl rfl <| y_M rfl <| B2 rfl rfl rfl <| B2 rfl rfl rfl <| B2 rfl rfl rfl <| C9 rfl rfl rfl rfl <| y_M rfl ?_
  iterate 4 refine B2 rfl rfl rfl ?_
  refine C9 rfl rfl rfl rfl <| xN [0,1,2,3,4,37] [] rfl ?_
  refine B1 rfl (fun hc => ?_) (fun hc => absurd hc (by decide))
  refine A3 <| A0 <| y_S rfl <| xN [10] [] rfl <| B9 <| B8 rfl rfl trivial ?_
  exact congrArg nV (b1g (by unfold Gp.ap; omega)).symm

theorem b3f : D8 Try.f17 = [0, 1, 4, 6, 7, 17, 8, 5] := by kernel_rfl
theorem c4y (a b : List Int) (ha : a.length ≤ 10) (hb : b.length ≤ 10) : CW cxT 17 [L a, L b] = some (nV (V5 a b (a ++ b)), []) := by
 have hab : (a ++ b).length ≤ 20 := by simp; omega
 refine E3 rfl Try.func17 rfl ⟨by kernel_rfl, rfl, dT rfl, dT rfl, by decide⟩ b3f <| A3 <| A0 <| y_S rfl <| xN [0,1] [] rfl <| A3 <| A0 <| y_S rfl <| xN [0,1,5] [] rfl <| A3 <| A0 <| I3 (es := List.map iV []) rfl rfl (dT rfl) rfl rfl (fun _ => F6 (D3 fun _ => rfl)) (fun _ => rfl) ?_
 intro g9
 refine y_M rfl <| J4 rfl rfl rfl (by (simp; done)) rfl rfl rfl (dT rfl) (fun _ => ⟨rfl, rfl, rfl⟩) (by simp only [K5]; (simp only [List.length_nil, List.length_cons, List.length_append, Nat.zero_add, List.length_map]; omega)) (fun _ => rfl) ?_
 intro g11
 simp only [List.nil_append]
 refine y_M rfl <| J4 rfl rfl rfl (by (simp; done)) rfl rfl rfl (dT rfl) (fun _ => ⟨rfl, rfl, rfl⟩) (by simp only [K5]; omega) (fun _ => rfl) ?_
 intro g13
 (refine xO rfl rfl (by simp) rfl (fun _ => rfl) (fun _ => rfl) ?_; intro g6)
 refine xN [0,1,5,6] [6] rfl <| A3 <| A3 <| A0 <| y_S rfl <| xN [0,1,5,6,7] [6] rfl <| C1 <| G6 (β := Nat × Nat) [(.t 0, _), (.t 1, _), (.t 6, _), (.h 6, _)] (fun (z : Nat × Nat) => match z with | (i, g) => [(.t 7, iV i), (.t 5, nV g)]) (fun (z : Nat × Nat) => match z with | (i, g) => i ≤ (a ++ b).length ∧ g = V5 a b ((a ++ b).take i)) (fun (z : Nat × Nat) => match z with | (i, g) => (a ++ b).length - i) (0, 0) ⟨rfl, rfl, rfl, rfl, rfl, rfl, trivial⟩ ⟨Nat.zero_le _, rfl⟩ ?_
 intro z hb
 obtain ⟨i, g⟩ := z
 try dsimp only at hb
 obtain ⟨hi1, hg0⟩ := hb
 have hca := a0z a ((a ++ b).getD i default)
 have hcb := a0z b ((a ++ b).getD i default)
 have hgb := b0g a b ha hb ((a ++ b).take i)
 rw [← hg0] at hgb
 refine A3 <| A3 <| A0 <| y_M rfl <| y_M rfl <| N3 rfl rfl <| K2 rfl rfl <| xN [0,1,5,6,7,17] [6] rfl ?_
 refine B1 rfl ?_ ?_ <;> intro hc <;> try simp only [SL] at hc
 ·refine C0 <| A3 <| C1 <| A3 <| A0 <| y_M rfl <| y_M rfl <| y_M rfl <| I0 rfl rfl rfl rfl (by omega) (by (simp; done)) rfl <| L7 rfl rfl (by omega) (fun _ => rfl) (fun _ => rfl) rfl ?_
  refine xC2 rfl rfl rfl (c0u a (by omega) ((a ++ b).getD i default)) ⟨rfl, rfl, rfl⟩ rfl rfl fun g25 => ?_
  refine y_M rfl <| B0 rfl rfl ?_
  have hq1 : cl a ((a ++ b).getD i default) * b.length ≤ 10 * 10 := Nat.mul_le_mul (by omega) hb
  have hq2 : cl b ((a ++ b).getD i default) * a.length ≤ 10 * 10 := Nat.mul_le_mul (by omega) ha
  have he1 : (cl a ((a ++ b).getD i default) : Int) * (b.length : Int) = ((cl a ((a ++ b).getD i default) * b.length : Nat) : Int) := by rw [Int.natCast_mul]
  have he2 : (cl b ((a ++ b).getD i default) : Int) * (a.length : Int) = ((cl b ((a ++ b).getD i default) * a.length : Nat) : Int) := by rw [Int.natCast_mul]
  refine a6c rfl rfl (C5 (by omega)) <| y_M rfl <| y_M rfl <| y_M rfl <| I0 rfl rfl rfl rfl (by omega) (by (simp; done)) rfl <| L7 rfl rfl (by omega) (fun _ => rfl) (fun _ => rfl) rfl ?_
  refine xC2 rfl rfl rfl (c0u b (by omega) ((a ++ b).getD i default)) ⟨rfl, rfl, rfl⟩ rfl rfl fun g34 => ?_
  refine y_M rfl <| B0 rfl rfl <| a6c rfl rfl (C5 (by omega)) <| a1m rfl rfl (C5 (by omega)) <| y_S rfl ?_
  refine a3t ⟨fun _ => ⟨by (simp only [a3u, List.nil_append, List.append_nil, List.map_cons, List.map_nil, List.cons_append]; decide +kernel), by decide +kernel⟩, [(.t 0, _), (.t 1, _), (.t 5, _), (.t 6, _), (.t 7, _), (.t 8, _), (.h 6, _)], ⟨rfl, rfl, rfl, rfl, rfl, rfl, rfl, rfl, rfl, rfl, rfl, rfl, rfl, rfl, trivial⟩, ?_⟩
  refine A0 <| y_M rfl <| y_M rfl <| y_M rfl <| b9q rfl (C5 (by omega)) <| c5g rfl rfl rfl <| y_S rfl <| xN [0,1,5,6,7] [6] rfl <| A0 ?_
  rw [c5h]
  refine y_M rfl <| E4 rfl rfl (C5 (by omega)) <| y_S rfl <| xN [0,1,5,6,7] [6] rfl ?_
  refine ⟨(i + 1, _), ?_, (by simp only; omega), ⟨rfl, rfl, rfl, rfl, rfl, rfl, trivial⟩⟩
  exact ⟨by omega, by rw [T3 (by omega), a9a, ← hg0]⟩
 refine G8 <| A3 <| A0 ?_
 skip
 refine y_M rfl <| y_S rfl <| xN [4] [] rfl <| B9 <| B8 rfl rfl trivial ?_
 rw [hg0, List.take_of_length_le (by omega)]

theorem a6k : D8 Try.f15 = [0, 1, 4, 13, 6, 16, 5] := by kernel_rfl
theorem b8a (n k : Nat) (hn : n ≤ 12) (hk : k ≤ n) : CW cxT 15 [nV n, nV k] = some (nV (Gp.chN n k), []) := by
 refine E3 rfl Try.func15 rfl ⟨by kernel_rfl, rfl, dT rfl, dT rfl, by decide⟩ a6k <| A3 <| A0 <| y_S rfl <| xN [0,1] [] rfl <| A3 <| A3 <| A0 <| y_M rfl <| K2 rfl rfl <| y_M rfl ?_
 refine B5 rfl rfl ?_ ?_ <;> intro hg0 <;> have hg := hg0 <;> try simp only [SG] at hg
 ·refine y_M rfl <| gT rfl rfl <| y_M rfl <| gT rfl rfl <| O9 rfl rfl <| C3 rfl rfl rfl rfl <| xN [0,1,13] [] rfl ?_
  refine B1 rfl ?_ ?_ <;> intro hc <;> try simp only [SL] at hc
  ·refine A3 <| A0 <| y_S rfl <| xN [4] [] rfl <| B9 <| B8 rfl rfl trivial ?_
   (exfalso; omega)
  refine C0 <| A3 <| A0 <| y_S rfl <| xN [0,1,5] [] rfl <| A3 <| A3 <| A0 <| y_S rfl <| xN [0,1,5,6] [] rfl <| C1 <| G6 (β := Nat) [(.t 0, _), (.t 1, _)] (fun (i : Nat) => [(.t 6, nV i), (.t 5, nV (Gp.chN n i))]) (fun (i : Nat) => i ≤ k) (fun (i : Nat) => k - i) 0 ⟨rfl, rfl, rfl, rfl, trivial⟩ (Nat.zero_le _) ?_
  intro i hb
  have hi1 := hb
  have hcb := (Gp.chN_bd n (by omega) i (by omega)).1
  have hmb := b8q (x := (Gp.chN n i : Int)) (y := (n : Int) - (i : Int)) (a := 1000) (b := 12) ⟨by omega, by omega⟩ ⟨by omega, by omega⟩
  refine A3 <| A3 <| A0 <| y_M rfl <| y_M rfl <| K2 rfl rfl <| xN [0,1,5,6,16] [] rfl ?_
  refine B1 rfl ?_ ?_ <;> intro hc <;> try simp only [SL] at hc
  ·refine C0 <| A3 <| C1 <| A0 ?_
   have hq1 := b6o (n := n) (i := i) (by omega)
   have hq2 := (Gp.chN_bd n (by omega) (i + 1) (by omega)).1
   refine y_M rfl <| y_M rfl <| y_M rfl <| a1m rfl rfl (C5 (by omega)) <| a6c rfl rfl (C5 (by omega)) <| y_M rfl <| E4 rfl rfl (C5 (by omega)) <| c6d rfl rfl ⟨by omega, C5 (by omega)⟩ <| y_S rfl <| xN [0,1,5,6] [] rfl <| A0 ?_
   rw [b6o (by omega)]
   refine y_M rfl <| E4 rfl rfl (C5 (by omega)) <| y_S rfl <| xN [0,1,5,6] [] rfl ?_
   refine ⟨i + 1, (by omega), (by omega), ⟨rfl, rfl, rfl, rfl, trivial⟩⟩
  refine G8 <| A3 <| A0 <| y_M rfl <| y_S rfl <| xN [4] [] rfl <| B9 <| B8 rfl rfl trivial ?_
  (rw [show i = k by omega]; done)
 refine gF rfl rfl <| gF rfl rfl <| C9 rfl (by assumption) rfl rfl <| xN [0,1,13] [] rfl ?_
 refine B1 rfl (fun hc => ?_) (fun hc => absurd hc (by decide))
 refine A3 <| A0 <| y_S rfl <| xN [4] [] rfl <| B9 <| B8 rfl rfl trivial ?_
 (exfalso; omega)

theorem b0q : D8 Try.f14 = [0, 2, 9, 4, 12, 6, 18, 26, 5, 30, 3] := by kernel_rfl
theorem c3h (xs : List Int) (hl : xs.length ≤ 10) (hv : vd xs = true) : ∃ res outs, (fun res outs => ∃ l : List Int, res = .own 1 (l.map iV) ∧ outs = [] ∧ (l = [] ↔ xs.Nodup)) res outs ∧ CW cxT 14 [L xs] = some (res, outs) := by
 refine a1e rfl Try.func14 rfl ⟨by kernel_rfl, rfl, dT rfl, dT rfl, by decide⟩ b0q <| A3 <| A0 ?_
 (refine I5 rfl rfl (fun _ => rfl) ?_; intro g2)
 refine xN [0] [] rfl <| A3 <| A3 <| A0 <| y_M rfl ?_
 refine xC1 rfl rfl (Z7 xs (by omega)) ⟨rfl, rfl, rfl⟩ rfl rfl fun g8 => ?_
 refine a2z rfl <| xN [0,9] [] rfl ?_
 refine B1 rfl (fun hc => ?_) (fun hc => ?_)
 ·try simp only [SD] at hc
  exact absurd hv (by simp_all)
 try simp only [SL] at hc
 refine C0 <| A3 <| A0 <| I3 (es := List.map iV []) rfl rfl (dT rfl) rfl rfl (fun _ => F6 (D3 fun _ => rfl)) (fun _ => rfl) ?_
 intro g10
 (refine xO rfl rfl (by simp) rfl (fun _ => rfl) (fun _ => rfl) ?_; intro g3)
 refine xN [0,3] [3] rfl <| A3 <| A3 <| A0 <| y_S rfl <| xN [0,3,4] [3] rfl <| C1 <| G6 (β := Nat × Int × List Int × Nat) [(.t 0, _)] (fun (z : Nat × Int × List Int × Nat) => match z with | (i, v, l, g) => [(.t 4, iV v), (.t 3, .sl 3 g none 0 l.length), (.h 3, .obj g 0 1 (l.map iV))]) (fun (z : Nat × Int × List Int × Nat) => match z with | (i, v, l, g) => i ≤ 401 ∧ v = (i : Int) - 200 ∧ l.length ≤ i ∧ (l = [] ↔ ∀ w, w < i → xs.count ((w : Int) - 200) ≤ 1)) (fun (z : Nat × Int × List Int × Nat) => match z with | (i, v, l, g) => 401 - i) (0, -200, [], _) ⟨rfl, rfl, rfl, rfl, trivial⟩ ⟨by omega, by omega, Nat.le_refl _, ⟨fun _ w hw => absurd hw (Nat.not_lt_zero _), fun _ => rfl⟩⟩ ?_
 intro z hb
 obtain ⟨i, v, l, g⟩ := z
 try dsimp only at hb
 obtain ⟨hi1, hvi, hll, hls⟩ := hb
 refine A3 <| A3 <| A0 <| y_M rfl <| a1o rfl rfl <| xN [0,3,4,12] [3] rfl ?_
 refine B1 rfl ?_ ?_ <;> intro hc <;> try simp only [SL] at hc
 ·refine C0 <| A3 <| C1 <| A3 <| A0 <| y_S rfl <| xN [0,3,4,5] [3] rfl <| A3 <| A3 <| A0 <| y_S rfl <| xN [0,3,4,5,6] [3] rfl <| C1 <| G6 (β := Nat × Nat) [(.t 0, _), (.t 3, _), (.t 4, _), (.h 3, _)] (fun (z : Nat × Nat) => match z with | (j, c) => [(.t 6, iV j), (.t 5, nV c)]) (fun (z : Nat × Nat) => match z with | (j, c) => j ≤ xs.length ∧ c ≤ j ∧ c = (xs.take j).count v) (fun (z : Nat × Nat) => match z with | (j, c) => xs.length - j) (0, 0) ⟨rfl, rfl, rfl, rfl, rfl, rfl, trivial⟩ ⟨Nat.zero_le _, Nat.le_refl _, rfl⟩ ?_
  intro z hb
  obtain ⟨j, c⟩ := z
  try dsimp only at hb
  obtain ⟨hj1, hcj, hcc⟩ := hb
  refine A3 <| A3 <| A0 <| y_M rfl <| y_M rfl <| B0 rfl rfl <| K2 rfl rfl <| xN [0,3,4,5,6,18] [3] rfl ?_
  refine B1 rfl ?_ ?_ <;> intro hc <;> try simp only [SL] at hc
  ·refine C0 <| A3 <| C1 <| A3 <| A0 <| y_M rfl <| y_M rfl <| H1 rfl rfl rfl (fun _ => rfl) (by omega) <| y_I rfl <| y_M rfl <| a9c rfl rfl <| xN [0,3,4,5,6,26] [3] rfl ?_
   refine B1 rfl ?_ ?_ <;> intro hc <;> try simp only [SL] at hc
   ·refine A0 <| y_M rfl <| E4 rfl rfl (C5 (by omega)) <| y_S rfl <| xN [0,3,4,5,6] [3] rfl <| A0 <| y_M rfl <| E4 rfl rfl (C5 (by omega)) <| y_S rfl <| xN [0,3,4,5,6] [3] rfl ?_
    refine ⟨(j + 1, c + 1), ?_, (by simp only; omega), ⟨rfl, rfl, rfl, rfl, rfl, rfl, trivial⟩⟩
    exact ⟨by omega, by omega, by rw [b7n (by omega), ← hcc]; rw [if_pos (by assumption)]⟩
   refine C0 <| A0 <| y_M rfl <| E4 rfl rfl (C5 (by omega)) <| y_S rfl <| xN [0,3,4,5,6] [3] rfl ?_
   refine ⟨(j + 1, c), ?_, (by simp only; omega), ⟨rfl, rfl, rfl, rfl, rfl, rfl, trivial⟩⟩
   exact ⟨by omega, by omega, by rw [b7n (by omega), ← hcc]; rw [if_neg (by omega)]; rfl⟩
  refine G8 <| A3 <| A0 ?_
  have hcx : c = xs.count ((i : Int) - 200) := by rw [hcc, List.take_of_length_le (by omega), hvi]
  refine y_M rfl <| O9 rfl rfl <| xN [0,3,4,5,30] [3] rfl ?_
  refine B1 rfl ?_ ?_ <;> intro hc <;> try simp only [SL] at hc
  ·refine A0 <| y_M rfl <| y_M rfl <| I3 (es := List.map iV [(c : Int)]) rfl rfl (dT rfl) rfl rfl (fun _ => F6 (D3 fun _ => rfl)) (fun _ => rfl) ?_
   intro g33
   refine xA rfl rfl rfl rfl (by simp) (by simp) rfl rfl rfl rfl rfl (fun _ => rfl) (by simp only [LN]; omega) (fun _ => rfl) ?_
   intro g34
   (refine xO rfl rfl (by simp) rfl (fun _ => rfl) (fun _ => rfl) ?_; intro g3)
   refine xN [0,3,4] [3] rfl <| A0 <| y_M rfl <| E4 rfl rfl (C5 (by omega)) <| y_S rfl <| xN [0,3,4] [3] rfl ?_
   refine ⟨(i + 1, v + 1, l ++ [(c : Int)], _), ?_, (by simp only; omega), ⟨rfl, rfl, rfl, rfl, trivial⟩⟩
   exact ⟨by omega, by omega, by rw [List.length_append]; simp only [List.length_singleton]; omega, c4b hcx (by omega) _⟩
  refine C0 <| A0 <| y_M rfl <| E4 rfl rfl (C5 (by omega)) <| y_S rfl <| xN [0,3,4] [3] rfl ?_
  refine ⟨(i + 1, v + 1, l, _), ?_, (by simp only; omega), ⟨rfl, rfl, rfl, rfl, trivial⟩⟩
  exact ⟨by omega, by omega, by omega, c4p hcx (by omega) hls⟩
 refine G8 <| A3 <| A0 <| y_M rfl ?_
 (refine xO rfl rfl (by simp) rfl (fun _ => rfl) (fun _ => rfl) ?_; intro g2)
 refine xN [2] [2] rfl <| B9 ?_
 refine ⟨_, _, ?_, b1n rfl rfl (by simp) (by exact D3 fun _ => rfl) G4⟩
 exact ⟨l, rfl, rfl, by rw [hls, show i = 401 by omega]; exact c3v hv⟩

theorem b1m : D8 Try.f34 = [0, 2] := by kernel_rfl
theorem c3f (xs : List Int) (hx : xs.length ≤ K5) : CW cxT 34 [.own 1 (xs.map iV)] = some (.own 1 (xs.map iV), []) := by
 refine E3 rfl Try.func34 rfl ⟨by kernel_rfl, rfl, dT rfl, dT rfl, by decide⟩ b1m <| A3 <| A0 ?_
 (refine I5 rfl rfl (fun _ => rfl) ?_; intro g2)
 refine xN [0] [0] rfl <| A3 <| A0 <| y_M rfl <| y_M rfl <| N3 rfl rfl <| y_M rfl <| N3 rfl rfl ?_
 refine c4z rfl rfl rfl rfl rfl rfl (fun hz => ?_) (fun hz => ?_)
 ·skip
  (refine I5 rfl rfl (fun _ => rfl) ?_; intro g2)
  refine xN [2] [0,2] rfl <| B9 <| a0u rfl rfl (by (simp; done)) (by rfl) trivial ?_
  (have h0 : xs = [] := (by simpa using hz); subst h0; rfl)
 skip
 (refine xO rfl rfl (by simp) rfl (fun _ => rfl) (fun _ => rfl) ?_; intro g2)
 refine xN [2] [0,2] rfl <| B9 <| a0u rfl rfl (by (simp; done)) (by exact D3 fun _ => rfl) trivial ?_
 rfl

theorem b0n : D8 Try.f19 = [0, 2, 9, 4, 5, 15, 6, 31, 37, 3] := by kernel_rfl
theorem c3a (xs : List Int) (hl : xs.length ≤ 10) (hv : vd xs = true) : ∃ res outs, (fun res outs => ∃ l : List Int, res = .own 1 (l.map iV) ∧ outs = [] ∧ (l = [] ↔ xs.Nodup)) res outs ∧ CW cxT 19 [L xs] = some (res, outs) := by
 have hsl := b0k xs
 refine a1e rfl Try.func19 rfl ⟨by kernel_rfl, rfl, dT rfl, dT rfl, by decide⟩ b0n <| A3 <| A0 ?_
 (refine I5 rfl rfl (fun _ => rfl) ?_; intro g2)
 refine xN [0] [] rfl <| A3 <| A3 <| A0 <| y_M rfl ?_
 refine xC1 rfl rfl (Y3 xs (by omega)) ⟨rfl, rfl, rfl⟩ rfl rfl fun g8 => ?_
 refine a2z rfl <| xN [0,9] [] rfl ?_
 refine B1 rfl (fun hc => ?_) (fun hc => ?_)
 ·try simp only [SD] at hc
  exact absurd hv (by simp_all)
 try simp only [SL] at hc
 refine C0 <| A3 <| A0 ?_
 (refine I5 rfl rfl (fun _ => rfl) ?_; intro g3)
 refine xN [0,3] [3] rfl <| A3 <| A0 <| y_M rfl ?_
 apply xC rfl
 ·apply A5
  ·exact A9 rfl
  exact E5
 ·exact c0p xs (by simp only [K5]; omega)
 refine ⟨⟨rfl, rfl, rfl, dT rfl, rfl⟩, .inl rfl, C4, I4, fun _ => rfl, fun g11 => ?_⟩
 simp only [List.length_map]
 (refine xO rfl rfl (by simp) rfl (fun _ => rfl) (fun _ => rfl) ?_; intro g4)
 refine xN [3,4] [3,4] rfl <| A3 <| A3 <| A0 <| y_S rfl <| xN [3,4,5] [3,4] rfl <| C1 <| G6 (β := Nat × List Int × Nat) [(.t 4, _), (.h 4, _)] (fun (z : Nat × List Int × Nat) => match z with | (i, l, g) => [(.t 5, iV i), (.t 3, .sl 3 g none 0 l.length), (.h 3, .obj g 0 1 (l.map iV))]) (fun (z : Nat × List Int × Nat) => match z with | (i, l, g) => i ≤ (sortI xs).length ∧ l.length ≤ i ∧ (i = 0 ∨ i = (sortI xs).length ∨ (sortI xs).getD (i - 1) default ≠ (sortI xs).getD i default) ∧ (l = [] ↔ NA (sortI xs) i)) (fun (z : Nat × List Int × Nat) => match z with | (i, l, g) => (sortI xs).length - i) (0, [], _) ⟨rfl, rfl, rfl, rfl, rfl, trivial⟩ ⟨by omega, Nat.le_refl _, .inl rfl, ⟨fun _ j hj => absurd hj (Nat.not_lt_zero _), fun _ => rfl⟩⟩ ?_
 intro z hb
 obtain ⟨i, l, g⟩ := z
 try dsimp only at hb
 obtain ⟨hi1, hll, hbi, hls⟩ := hb
 refine A3 <| A3 <| A0 <| y_M rfl <| y_M rfl <| N3 rfl rfl <| K2 rfl rfl <| xN [3,4,5,15] [3,4] rfl ?_
 refine B1 rfl ?_ ?_ <;> intro hc <;> try simp only [SL] at hc
 ·refine C0 <| C1 <| A3 <| A0 <| y_M rfl <| y_S rfl <| xN [3,4,5,6] [3,4] rfl <| A3 <| C1 <| G6 (β := Nat) [(.t 3, _), (.t 4, _), (.t 5, _), (.h 3, _), (.h 4, _)] (fun (k : Nat) => [(.t 6, iV k)]) (fun (k : Nat) => i ≤ k ∧ k ≤ (sortI xs).length ∧ ∀ j, i ≤ j → j < k → (sortI xs).getD j default = (sortI xs).getD i default) (fun (k : Nat) => (sortI xs).length - k) i ⟨rfl, rfl, rfl, rfl, rfl, rfl, trivial⟩ ⟨Nat.le_refl _, hi1, fun j h1 h2 => absurd h2 (by omega)⟩ ?_
  intro k hb
  obtain ⟨hk1, hk2, hgr⟩ := hb
  refine A3 <| A3 <| A0 <| y_M rfl <| y_M rfl <| N3 rfl rfl <| K2 rfl rfl <| y_M rfl ?_
  refine B5 rfl rfl ?_ ?_ <;> intro hg0 <;> have hg := hg0 <;> try simp only [SG] at hg
  ·refine y_M rfl <| gT rfl rfl <| y_M rfl <| gT rfl rfl <| I0 rfl rfl rfl rfl (by omega) (by (simp; done)) rfl <| gT rfl rfl <| L7 rfl rfl (by omega) (fun _ => rfl) (fun _ => rfl) rfl <| gT rfl rfl <| y_M rfl <| gT rfl rfl <| y_M rfl <| gT rfl rfl <| I0 rfl rfl rfl rfl (by omega) (by (simp; done)) rfl <| gT rfl rfl <| L7 rfl rfl (by omega) (fun _ => rfl) (fun _ => rfl) rfl <| gT rfl rfl <| a9c rfl rfl <| C9 rfl (by assumption) rfl rfl ?_
   refine a3t ⟨fun _ => ⟨by decide +kernel, by decide +kernel⟩, [(.t 3, _), (.t 4, _), (.t 5, _), (.t 6, _), (.t 31, _), (.h 3, _), (.h 4, _)], ⟨rfl, rfl, rfl, rfl, rfl, rfl, rfl, rfl, rfl, rfl, rfl, rfl, rfl, rfl, trivial⟩, ?_⟩
   refine B1 rfl ?_ ?_ <;> intro hc <;> try simp only [SL] at hc
   ·refine C0 <| C1 <| A0 <| y_M rfl <| E4 rfl rfl (C5 (by omega)) <| y_S rfl <| xN [3,4,5,6] [3,4] rfl ?_
    refine ⟨k + 1, ⟨by omega, by omega, fun j h1 h2 => by rcases Nat.lt_succ_iff_lt_or_eq.1 h2 with h | h; (· exact hgr j h1 h); (· subst h; omega)⟩, (by omega), ⟨rfl, rfl, rfl, rfl, rfl, rfl, trivial⟩⟩
   refine G8 <| A3 <| A3 <| A0 ?_
   have hki : i < k := by
    rcases Nat.lt_or_ge i k with h | h
    ·exact h
    exfalso
    obtain rfl : k = i := by omega
    omega
   have hbd : k = 0 ∨ k = (sortI xs).length ∨ (sortI xs).getD (k - 1) default ≠ (sortI xs).getD k default := by have hgl := hgr (k - 1) (by omega) (by omega); omega
   refine y_M rfl <| y_M rfl <| a1m rfl rfl (C5 (by omega)) <| O9 rfl rfl <| xN [3,4,5,6,37] [3,4] rfl ?_
   refine B1 rfl ?_ ?_ <;> intro hc <;> try simp only [SL] at hc
   ·refine A0 <| y_M rfl <| y_M rfl <| y_M rfl <| a1m rfl rfl (C5 (by omega)) <| I3 (es := List.map iV [(k : Int) - (i : Int)]) rfl rfl (dT rfl) rfl rfl (fun _ => F6 (D3 fun _ => rfl)) (fun _ => rfl) ?_
    intro g42
    refine xA rfl rfl rfl rfl (by simp) (by simp) rfl rfl rfl rfl rfl (fun _ => rfl) (by simp only [LN]; omega) (fun _ => rfl) ?_
    intro g43
    (refine xO rfl rfl (by simp) rfl (fun _ => rfl) (fun _ => rfl) ?_; intro g3)
    refine xN [3,4,6] [3,4] rfl <| A0 <| y_M rfl <| y_S rfl <| xN [3,4,5] [3,4] rfl ?_
    refine ⟨(k, l ++ [(k : Int) - (i : Int)], _), ?_, (by simp only; omega), ⟨rfl, rfl, rfl, rfl, rfl, trivial⟩⟩
    exact ⟨by omega, by rw [List.length_append]; simp only [List.length_singleton]; omega, hbd, b9y (i := i) (by omega) hgr _⟩
   refine C0 <| A0 <| y_M rfl <| y_S rfl <| xN [3,4,5] [3,4] rfl ?_
   refine ⟨(k, l, _), ?_, (by simp only; omega), ⟨rfl, rfl, rfl, rfl, rfl, trivial⟩⟩
   exact ⟨by omega, by omega, hbd, by rw [show k = i + 1 by omega]; exact c4g (by rcases hbi with h | h | h; (· exact .inl h); (· omega); (· exact .inr h)) hls⟩
  iterate 8 refine gF rfl rfl ?_
  refine C3 rfl (by assumption) rfl rfl ?_
  refine a3t ⟨fun _ => ⟨by decide +kernel, by decide +kernel⟩, [(.t 3, _), (.t 4, _), (.t 5, _), (.t 6, _), (.t 31, _), (.h 3, _), (.h 4, _)], ⟨rfl, rfl, rfl, rfl, rfl, rfl, rfl, rfl, rfl, rfl, rfl, rfl, rfl, rfl, trivial⟩, ?_⟩
  refine B1 rfl (fun hc => absurd hc (by decide)) (fun hc => ?_)
  refine G8 <| A3 <| A3 <| A0 ?_
  have hki : i < k := by
   rcases Nat.lt_or_ge i k with h | h
   ·exact h
   exfalso
   obtain rfl : k = i := by omega
   omega
  have hbd : k = 0 ∨ k = (sortI xs).length ∨ (sortI xs).getD (k - 1) default ≠ (sortI xs).getD k default := by have hgl := hgr (k - 1) (by omega) (by omega); omega
  refine y_M rfl <| y_M rfl <| a1m rfl rfl (C5 (by omega)) <| O9 rfl rfl <| xN [3,4,5,6,37] [3,4] rfl ?_
  refine B1 rfl ?_ ?_ <;> intro hc <;> try simp only [SL] at hc
  ·refine A0 <| y_M rfl <| y_M rfl <| y_M rfl <| a1m rfl rfl (C5 (by omega)) <| I3 (es := List.map iV [(k : Int) - (i : Int)]) rfl rfl (dT rfl) rfl rfl (fun _ => F6 (D3 fun _ => rfl)) (fun _ => rfl) ?_
   intro g42
   refine xA rfl rfl rfl rfl (by simp) (by simp) rfl rfl rfl rfl rfl (fun _ => rfl) (by simp only [LN]; omega) (fun _ => rfl) ?_
   intro g43
   (refine xO rfl rfl (by simp) rfl (fun _ => rfl) (fun _ => rfl) ?_; intro g3)
   refine xN [3,4,6] [3,4] rfl <| A0 <| y_M rfl <| y_S rfl <| xN [3,4,5] [3,4] rfl ?_
   refine ⟨(k, l ++ [(k : Int) - (i : Int)], _), ?_, (by simp only; omega), ⟨rfl, rfl, rfl, rfl, rfl, trivial⟩⟩
   exact ⟨by omega, by rw [List.length_append]; simp only [List.length_singleton]; omega, hbd, b9y (i := i) (by omega) hgr _⟩
  refine C0 <| A0 <| y_M rfl <| y_S rfl <| xN [3,4,5] [3,4] rfl ?_
  refine ⟨(k, l, _), ?_, (by simp only; omega), ⟨rfl, rfl, rfl, rfl, rfl, trivial⟩⟩
  exact ⟨by omega, by omega, hbd, by rw [show k = i + 1 by omega]; exact c4g (by rcases hbi with h | h | h; (· exact .inl h); (· omega); (· exact .inr h)) hls⟩
 refine G8 <| A3 <| A0 <| y_M rfl ?_
 apply xC rfl
 ·apply A5
  ·exact c2u rfl rfl (by (simp; done)) (D3 fun _ => rfl)
  exact E5
 ·exact c3f l (by simp only [K5]; omega)
 refine ⟨⟨rfl, rfl, rfl, dT rfl, rfl⟩, .inl rfl, C4, I4, fun _ => rfl, fun g46 => ?_⟩
 (refine xO rfl rfl (by simp) rfl (fun _ => rfl) (fun _ => rfl) ?_; intro g2)
 refine xN [2] [2] rfl <| B9 ?_
 refine ⟨_, _, ?_, b1n rfl rfl (by simp) (by exact D3 fun _ => rfl) G4⟩
 exact ⟨l, rfl, rfl, by rw [hls, show i = (sortI xs).length by omega]; exact c5l⟩

theorem a9y : D8 Try.f5 = [0, 1, 4, 5, 30, 6] := by kernel_rfl
theorem c2v (a b : List Int) (ha : a.length ≤ 1048576) (hb : b.length ≤ 1048576) : CW cxT 5 [L a, L b] = some (.tup [iV (gX a b).1, iV (gX a b).2], []) := by
 refine E3 rfl Try.func5 rfl ⟨by kernel_rfl, rfl, dT rfl, dT rfl, by decide⟩ a9y <| A3 <| A0 <| y_S rfl <| y_S rfl <| xN [0,1] [] rfl <| A3 <| A3 <| A0 <| y_M rfl <| y_M rfl ?_
 refine xC2 rfl rfl rfl (b6b a b ha hb) ⟨rfl, rfl, rfl⟩ rfl rfl fun g9 => ?_
 refine a2z rfl <| y_M rfl ?_
 refine B5 rfl rfl ?_ ?_ <;> intro hg0 <;> have hg := hg0 <;> try simp only [SG] at hg
 ·refine y_M rfl <| gT rfl rfl <| B0 rfl rfl <| gT rfl rfl <| O9 rfl rfl <| C3 rfl (by assumption) rfl rfl <| y_M rfl ?_
  refine B5 rfl rfl ?_ ?_ <;> intro hg0 <;> have hg := hg0 <;> try simp only [SG] at hg
  ·refine y_M rfl <| gT rfl rfl <| B0 rfl rfl <| gT rfl rfl <| O9 rfl rfl <| C3 rfl (by assumption) rfl rfl <| y_M rfl ?_
   refine B5 rfl rfl ?_ ?_ <;> intro hg0 <;> have hg := hg0 <;> try simp only [SG] at hg
   ·refine I3 (es := List.map iV []) rfl rfl (dT rfl) rfl rfl (fun _ => F6 (D3 fun _ => rfl)) (fun _ => rfl) ?_
    intro g22
    refine gT rfl rfl <| y_M rfl <| gT rfl rfl <| J4 rfl rfl rfl (by (simp; done)) rfl rfl rfl (dT rfl) (fun _ => ⟨rfl, rfl, rfl⟩) (by simp only [K5]; (simp only [List.length_nil, List.length_cons, List.length_append, Nat.zero_add, List.length_map]; omega)) (fun _ => rfl) ?_
    intro g24
    refine gT rfl rfl ?_
    simp only [List.nil_append]
    refine y_M rfl <| gT rfl rfl <| J4 rfl rfl rfl (by (simp; done)) rfl rfl rfl (dT rfl) (fun _ => ⟨rfl, rfl, rfl⟩) (by simp only [K5]; omega) (fun _ => rfl) ?_
    intro g26
    refine gT rfl rfl ?_
    have hvs := b7j (a := a) (b := b) (by simp_all)
    obtain ⟨_, _, ⟨tl, rfl, rfl, htl⟩, hCt⟩ := c3h (a ++ b) hvs.2 hvs.1
    apply xC rfl
    ·apply A5
     ·exact F8 rfl rfl rfl (by (simp; done)) (fun _ => rfl)
     exact E5
    ·exact hCt
    refine ⟨⟨rfl, rfl, rfl, dT rfl, rfl⟩, .inr ⟨Q1 fun _ => rfl, rfl⟩, C4, I4, fun _ => rfl, fun g27 => ?_⟩
    refine gT rfl rfl <| N3 rfl rfl <| gT rfl rfl <| O9 rfl rfl <| C3 rfl (by assumption) rfl rfl <| xN [0,1,30] [] rfl ?_
    refine B1 rfl ?_ ?_ <;> intro hc <;> try simp only [SL] at hc
    ·refine A3 <| A0 <| y_S rfl <| y_S rfl <| xN [4,5] [] rfl <| B9 <| Q0 (J3 rfl rfl (J3 rfl rfl (V0 G4))) ?_
     (rw [a5a (Bool.eq_false_iff.2 fun h => by obtain ⟨h1, h2, h3, h4⟩ := M0.1 h; (simp_all; done))]; rfl)
    refine C0 <| A3 <| A0 ?_
    have hok : gok a b = true := M0.2 ⟨by simp_all, by omega, by omega, htl.1 (List.eq_nil_of_length_eq_zero (by omega))⟩
    have hsm := a5t.1 (M0.1 hok).1
    have hgp := c0g hsm.2.2.2.1 hsm.2.2.2.2 (M0.1 hok).2.2.2
    have hgb := b0g a b (by omega) (by omega) (a ++ b)
    have hcb := (Gp.chN_bd (a.length + b.length) (by omega) a.length (by omega)).1
    have hpf := c3z (a := a) (b := b) (by omega) (by omega) hgp
    unfold b2o at hpf
    refine y_M rfl <| B0 rfl rfl <| y_M rfl <| B0 rfl rfl <| E4 rfl rfl (C5 (by omega)) <| y_M rfl <| B0 rfl rfl ?_
    refine xC2 rfl rfl rfl (b8a (a.length + b.length) a.length (by omega) (by omega)) ⟨rfl, rfl, rfl⟩ rfl rfl fun g38 => ?_
    refine y_S rfl <| xN [0,1,6] [] rfl <| A3 <| A0 <| y_M rfl <| y_M rfl <| B0 rfl rfl <| y_M rfl <| B0 rfl rfl <| y_M rfl <| y_M rfl ?_
    refine xC2 rfl rfl rfl (c4y a b (by omega) (by omega)) ⟨rfl, rfl, rfl⟩ rfl rfl fun g46 => ?_
    refine a1m rfl rfl (C5 (by omega)) ?_
    rw [show ((V5 a b (a ++ b) : Int) - 1) = ((V5 a b (a ++ b) - 1 : Nat) : Int) by omega]
    apply xC rfl
    ·apply A5
     ·exact A9 rfl
     apply A5
     ·exact A9 rfl
     apply A5
     ·exact A9 rfl
     apply A5
     ·exact A9 rfl
     apply A5
     ·exact A9 rfl
     exact E5
    ·exact b2j a.length b.length (V5 a b (a ++ b) - 1) 0 0 (a.length + b.length) (by omega) (by omega) (by omega) (by omega) (by omega) (by omega)
    refine ⟨⟨rfl, rfl, rfl, dT rfl, rfl⟩, .inl rfl, C4, E8 rfl, fun _ => rfl, fun g48 => ?_⟩
    refine a1m rfl rfl (C5 (by omega)) <| y_M rfl <| y_S rfl <| y_S rfl <| xN [4,5] [] rfl <| B9 <| Q0 (J3 rfl rfl (J3 rfl rfl (V0 G4))) ?_
    (rw [c1w hok, show ((Gp.chN (a.length + b.length) a.length : Nat) : Int) - ((Gp.pF a.length b.length (V5 a b (a ++ b) - 1) (a.length + b.length) 0 0 : Nat) : Int) = (b8j a b : Int) by omega]; rfl)
   iterate 7 refine gF rfl rfl ?_
   refine C9 rfl (by assumption) rfl rfl <| xN [0,1,30] [] rfl ?_
   refine B1 rfl (fun hc => ?_) (fun hc => absurd hc (by decide))
   refine A3 <| A0 <| y_S rfl <| y_S rfl <| xN [4,5] [] rfl <| B9 <| Q0 (J3 rfl rfl (J3 rfl rfl (V0 G4))) ?_
   (rw [a5a (Bool.eq_false_iff.2 fun h => by obtain ⟨h1, h2, h3, h4⟩ := M0.1 h; omega)]; rfl)
  refine gF rfl rfl <| gF rfl rfl <| C9 rfl (by assumption) rfl rfl <| y_M rfl ?_
  iterate 8 refine B2 rfl rfl rfl ?_
  refine C9 rfl rfl rfl rfl <| xN [0,1,30] [] rfl ?_
  refine B1 rfl (fun hc => ?_) (fun hc => absurd hc (by decide))
  refine A3 <| A0 <| y_S rfl <| y_S rfl <| xN [4,5] [] rfl <| B9 <| Q0 (J3 rfl rfl (J3 rfl rfl (V0 G4))) ?_
  (rw [a5a (Bool.eq_false_iff.2 fun h => by obtain ⟨h1, h2, h3, h4⟩ := M0.1 h; omega)]; rfl)
 refine gF rfl rfl <| gF rfl rfl <| C9 rfl (by assumption) rfl rfl <| y_M rfl <| B2 rfl rfl rfl <| B2 rfl rfl rfl <| B2 rfl rfl rfl <| C9 rfl rfl rfl rfl <| y_M rfl ?_
 iterate 8 refine B2 rfl rfl rfl ?_
 refine C9 rfl rfl rfl rfl <| xN [0,1,30] [] rfl ?_
 refine B1 rfl (fun hc => ?_) (fun hc => absurd hc (by decide))
 refine A3 <| A0 <| y_S rfl <| y_S rfl <| xN [4,5] [] rfl <| B9 <| Q0 (J3 rfl rfl (J3 rfl rfl (V0 G4))) ?_
 (rw [a5a (Bool.eq_false_iff.2 fun h => by obtain ⟨h1, h2, h3, h4⟩ := M0.1 h; (simp_all; done))]; rfl)

theorem a7s : D8 Try.f20 = [0, 2, 11, 10, 12, 9, 5, 3, 20, 27, 26, 28, 25, 8, 6] := by kernel_rfl
theorem b3c (a b : List Int) (h : 1 ≤ a.length + b.length) (ha : a.length ≤ 10) (hb : b.length ≤ 10) : CW cxT 20 [.list (List.map L [a, b])] = some (.own 1 ((a ++ b).map iV), []) := by
 refine E3 rfl Try.func20 rfl ⟨by kernel_rfl, rfl, dT rfl, dT rfl, by decide⟩ a7s <| A3 <| A0 ?_
 (refine I5 rfl rfl (fun _ => rfl) ?_; intro g2)
 refine xN [0] [] rfl <| A3 <| A0 <| y_S rfl <| xN [0,3] [] rfl <| A3 <| A3 <| A0 <| y_M rfl <| B0 rfl rfl <| y_M rfl <| xN [0,3,9,10,11] [] rfl <| C1 <| T6 <| A3 <| A0 <| K2 rfl rfl <| xN [0,3,9,10,11,12] [] rfl <| A3 ?_
 refine B1 rfl (fun hc => ?_) (fun hc => absurd hc (by exact fun h => Bool.noConfusion (show true = false from h)))
 refine C0 <| A3 <| C1 <| A3 <| A0 <| O3 (f := L) (xs := [a, b]) (n := 0) rfl rfl rfl (fun _ => rfl) (by simp) ?_
 rw [show [a, b].getD (0 : Int).toNat default = a from rfl]
 refine y_I rfl <| y_S rfl <| xN [0,3,5,9,10,11] [] rfl <| A3 <| A0 <| y_M rfl <| y_M rfl <| B0 rfl rfl <| E4 rfl rfl (C5 (by omega)) <| y_S rfl <| xN [0,3,9,10,11] [] rfl <| A3 <| A0 <| y_M rfl <| K2 rfl rfl <| xN [0,3,9,10,11,20] [] rfl ?_
 refine B1 rfl (fun hc => ?_) (fun hc => ?_)
 ·try simp only [SD] at hc
  exact absurd hc (by omega)
 try simp only [SL] at hc
 refine C0 <| A0 <| E4 rfl rfl (C5 (by omega)) <| y_M rfl <| xN [0,3,9,10,11] [] rfl <| T6 <| A3 <| A0 <| K2 rfl rfl <| xN [0,3,9,10,11,12] [] rfl <| A3 ?_
 refine B1 rfl (fun hc => ?_) (fun hc => absurd hc (by exact fun h => Bool.noConfusion (show true = false from h)))
 refine C0 <| A3 <| C1 <| A3 <| A0 <| O3 (f := L) (xs := [a, b]) (n := 0 + 1) rfl rfl rfl (fun _ => rfl) (by simp) ?_
 rw [show [a, b].getD (0 + 1 : Int).toNat default = b from rfl]
 refine y_I rfl <| y_S rfl <| xN [0,3,5,9,10,11] [] rfl <| A3 <| A0 <| y_M rfl <| y_M rfl <| B0 rfl rfl <| E4 rfl rfl (C5 (by omega)) <| y_S rfl <| xN [0,3,9,10,11] [] rfl <| A3 <| A0 <| y_M rfl <| K2 rfl rfl <| xN [0,3,9,10,11,20] [] rfl ?_
 refine B1 rfl (fun hc => ?_) (fun hc => ?_)
 ·try simp only [SD] at hc
  exact absurd hc (by omega)
 try simp only [SL] at hc
 refine C0 <| A0 <| E4 rfl rfl (C5 (by omega)) <| y_M rfl <| xN [0,3,9,10,11] [] rfl <| T6 <| A3 <| A0 <| K2 rfl rfl <| xN [0,3,9,10,11,12] [] rfl <| A3 ?_
 refine B1 rfl (fun hc => absurd hc (by exact fun h => Bool.noConfusion (show false = true from h))) (fun hc => ?_)
 refine G8 <| A3 <| A0 <| y_M rfl ?_
 apply xC rfl
 ·apply A5
  ·exact c2p (by decide)
  apply A5
  ·exact A9 rfl
  exact E5
 ·exact c5j _ (by omega)
 refine ⟨⟨rfl, rfl, rfl, dT rfl, rfl⟩, .inl rfl, C4, I4, fun _ => rfl, fun g24 => ?_⟩
 (refine xO rfl rfl (by simp) rfl (fun _ => rfl) (fun _ => rfl) ?_; intro g6)
 refine xN [0,6] [6] rfl <| A3 <| A3 <| A0 <| y_M rfl <| B0 rfl rfl <| y_M rfl <| xN [6,25,26,27] [6] rfl <| C1 <| T6 <| A3 <| A0 <| K2 rfl rfl <| xN [6,25,26,27,28] [6] rfl <| A3 ?_
 refine B1 rfl (fun hc => ?_) (fun hc => absurd hc (by exact fun h => Bool.noConfusion (show true = false from h)))
 refine C0 <| A3 <| C1 <| A3 <| A0 <| O3 (f := L) (xs := [a, b]) (n := 0) rfl rfl rfl (fun _ => rfl) (by simp) ?_
 rw [show [a, b].getD (0 : Int).toNat default = a from rfl]
 refine y_I rfl <| y_S rfl <| xN [6,8,25,26,27] [6] rfl <| A0 <| y_M rfl <| y_M rfl <| J4 rfl rfl rfl (by (simp; done)) rfl rfl rfl (dT rfl) (fun _ => ⟨rfl, rfl, rfl⟩) (by simp only [K5]; (simp only [List.length_nil, List.length_cons, List.length_append, Nat.zero_add, List.length_map]; omega)) (fun _ => rfl) ?_
 intro g33
 (refine xO rfl rfl (by simp) rfl (fun _ => rfl) (fun _ => rfl) ?_; intro g6)
 refine xN [6,25,26,27] [6] rfl <| A0 <| E4 rfl rfl (C5 (by omega)) <| y_M rfl <| xN [6,25,26,27] [6] rfl <| T6 <| A3 <| A0 <| K2 rfl rfl <| xN [6,25,26,27,28] [6] rfl <| A3 ?_
 refine B1 rfl (fun hc => ?_) (fun hc => absurd hc (by exact fun h => Bool.noConfusion (show true = false from h)))
 refine C0 <| A3 <| C1 <| A3 <| A0 <| O3 (f := L) (xs := [a, b]) (n := 0 + 1) rfl rfl rfl (fun _ => rfl) (by simp) ?_
 rw [show [a, b].getD (0 + 1 : Int).toNat default = b from rfl]
 refine y_I rfl <| y_S rfl <| xN [6,8,25,26,27] [6] rfl <| A0 <| y_M rfl <| y_M rfl <| J4 rfl rfl rfl (by (simp; done)) rfl rfl rfl (dT rfl) (fun _ => ⟨rfl, rfl, rfl⟩) (by simp only [K5]; (simp only [List.length_nil, List.length_cons, List.length_append, Nat.zero_add, List.length_map]; omega)) (fun _ => rfl) ?_
 intro g33
 (refine xO rfl rfl (by simp) rfl (fun _ => rfl) (fun _ => rfl) ?_; intro g6)
 refine xN [6,25,26,27] [6] rfl <| A0 <| E4 rfl rfl (C5 (by omega)) <| y_M rfl <| xN [6,25,26,27] [6] rfl <| T6 <| A3 <| A0 <| K2 rfl rfl <| xN [6,25,26,27,28] [6] rfl <| A3 ?_
 refine B1 rfl (fun hc => absurd hc (by exact fun h => Bool.noConfusion (show false = true from h))) (fun hc => ?_)
 refine G8 <| A3 <| A0 <| y_M rfl ?_
 (refine xO rfl rfl (by simp) rfl (fun _ => rfl) (fun _ => rfl) ?_; intro g2)
 refine xN [2] [2] rfl <| B9 <| a0u rfl rfl (by simp) (by exact D3 fun _ => rfl) trivial ?_
 rfl

theorem b3b : D8 Try.f24 = [0, 1, 4, 13, 12, 14, 11, 7, 5] := by kernel_rfl
theorem c5n (a b : List Int) (ha : a.length ≤ 10) (hb : b.length ≤ 10) (hp : 1 ≤ a.length + b.length) : CW cxT 24 [L a, L b] = some (nV (V5 a b (a ++ b)), []) := by
 have hab : (a ++ b).length ≤ 20 := by simp; omega
 refine E3 rfl Try.func24 rfl ⟨by kernel_rfl, rfl, dT rfl, dT rfl, by decide⟩ b3b <| A3 <| A0 <| y_S rfl <| xN [0,1] [] rfl <| A3 <| A0 ?_
 try rw [a0b]
 refine y_S rfl <| xN [0,1,5] [] rfl <| A3 <| A3 <| A0 <| y_M rfl <| y_M rfl <| I3 (es := List.map L [a, b]) rfl rfl (dT rfl) rfl rfl (fun _ => F6 (D3 fun _ => rfl)) (fun _ => rfl) ?_
 intro g10
 apply a3s rfl
 ·apply A5
  ·exact F8 rfl rfl rfl (by (simp; done)) (fun _ => rfl)
  exact E5
 ·exact b3c a b hp ha hb
 ·exact ⟨rfl, rfl, rfl, dT rfl, rfl⟩
 ·exact .inr ⟨Q1 fun _ => rfl, rfl⟩
 ·exact C4
 ·exact I4
 ·(intro _; exact F0 (F6 (D3 fun _ => rfl)) rfl)
 intro g11
 simp only [List.length_map]
 refine N3 rfl rfl <| y_M rfl <| xN [0,1,5,11,12,13] [1000011] rfl <| C1 <| G6 (β := Nat × Nat) [(.t 0, _), (.t 1, _), (.t 11, _), (.t 12, _), (.h 1000011, _)] (fun (z : Nat × Nat) => match z with | (i, g) => [(.t 13, iV i), (.t 5, nV g)]) (fun (z : Nat × Nat) => match z with | (i, g) => i ≤ (a ++ b).length ∧ g = V5 a b ((a ++ b).take i)) (fun (z : Nat × Nat) => match z with | (i, g) => (a ++ b).length - i) (0, 0) ⟨rfl, rfl, rfl, rfl, rfl, rfl, rfl, trivial⟩ ⟨Nat.zero_le _, rfl⟩ ?_
 intro z hb
 obtain ⟨i, g⟩ := z
 try dsimp only at hb
 obtain ⟨hi1, hg0⟩ := hb
 have hca := a0z a ((a ++ b).getD i default)
 have hcb := a0z b ((a ++ b).getD i default)
 have hgb := b0g a b ha hb ((a ++ b).take i)
 rw [← hg0] at hgb
 refine A3 <| A0 <| K2 rfl rfl <| xN [0,1,5,11,12,13,14] [1000011] rfl <| A3 ?_
 refine B1 rfl ?_ ?_ <;> intro hc <;> try simp only [SL] at hc
 ·refine C0 <| A3 <| C1 <| A3 <| A0 <| I0 rfl rfl rfl rfl (by omega) (by (simp; done)) rfl <| L7 rfl rfl (by omega) (fun _ => rfl) (fun _ => rfl) rfl <| y_S rfl <| xN [0,1,5,7,11,12,13] [1000011] rfl <| A0 <| y_M rfl <| y_M rfl <| y_M rfl ?_
  refine xC2 rfl rfl rfl (b3j a (by omega) ((a ++ b).getD i default)) ⟨rfl, rfl, rfl⟩ rfl rfl fun g20 => ?_
  refine y_M rfl <| y_M rfl ?_
  refine xC2 rfl rfl rfl (b3j b (by omega) ((a ++ b).getD i default)) ⟨rfl, rfl, rfl⟩ rfl rfl fun g23 => ?_
  refine y_M rfl <| B0 rfl rfl <| y_M rfl <| B0 rfl rfl ?_
  have hq1 : cl a ((a ++ b).getD i default) * b.length ≤ 10 * 10 := Nat.mul_le_mul (by omega) hb
  have hq2 : cl b ((a ++ b).getD i default) * a.length ≤ 10 * 10 := Nat.mul_le_mul (by omega) ha
  have he1 : (cl a ((a ++ b).getD i default) : Int) * (b.length : Int) = ((cl a ((a ++ b).getD i default) * b.length : Nat) : Int) := by rw [Int.natCast_mul]
  have he2 : (cl b ((a ++ b).getD i default) : Int) * (a.length : Int) = ((cl b ((a ++ b).getD i default) * a.length : Nat) : Int) := by rw [Int.natCast_mul]
  apply xC rfl
  ·apply A5
   ·exact A9 rfl
   apply A5
   ·exact A9 rfl
   apply A5
   ·exact A9 rfl
   apply A5
   ·exact A9 rfl
   exact E5
  ·exact b1l (cl a ((a ++ b).getD i default)) (cl b ((a ++ b).getD i default)) a.length b.length (by omega) (by omega) (by omega) (by omega)
  refine ⟨⟨rfl, rfl, rfl, dT rfl, rfl⟩, .inl rfl, C4, E8 rfl, fun _ => rfl, fun g28 => ?_⟩
  refine b6n rfl rfl ?_
  try rw [a0b]
  refine y_S rfl <| xN [0,1,5,11,12,13] [1000011] rfl <| A0 <| E4 rfl rfl (C5 (by omega)) <| y_M rfl <| xN [0,1,5,11,12,13] [1000011] rfl ?_
  refine ⟨(i + 1, _), ?_, (by simp only; omega), ⟨rfl, rfl, rfl, rfl, rfl, rfl, rfl, trivial⟩⟩
  exact ⟨by omega, by rw [T3 (by omega), a9a, ← hg0]⟩
 refine G8 <| A3 <| A0 <| y_M rfl <| y_S rfl <| xN [4] [] rfl <| B9 <| B8 rfl rfl trivial ?_
 rw [hg0, List.take_of_length_le (by omega)]

theorem a8b : D8 Try.f22 = [0, 1, 2, 3, 4, 13, 12, 14, 11, 10, 17, 6, 7, 8, 38] := by kernel_rfl
theorem b9v (r : List Bool) (a b : List Int) (ha : a.length ≤ 6) (hb : b.length ≤ 6) (h1 : 1 ≤ a.length + b.length) (hr : r.length ≤ 12) (x y : Nat) (hx : x ≤ 4096) (hy : y ≤ 4096) : ∃ res outs, (fun res outs => res = .tup [] ∧ outs = [r.map bV, [L a], [L b], [nV (x + 1)], [nV (up1 a b r y)]]) res outs ∧ CW cxT 22 [.own 1 (r.map bV), .ownp [L a] 0 0, .ownp [L b] 0 0, .ownp [nV x] 0 0, .ownp [nV y] 0 0] = some (res, outs) := by
 refine a1e rfl Try.func22 rfl ⟨by kernel_rfl, rfl, dT rfl, dT rfl, by decide⟩ a8b <| A3 <| A0 <| y_S rfl <| y_S rfl ?_
 try rw [a0b]
 refine y_S rfl <| xN [0,1,2,3,4,6,7,8] [0,1,2,3,4] rfl <| A3 <| A3 <| A0 <| y_M rfl <| N3 rfl rfl <| y_M rfl <| xN [1,2,3,4,6,7,8,11,12,13] [0,1,2,3,4] rfl <| C1 <| G6 (β := Nat × Nat × Nat × Nat) [(.t 1, _), (.t 2, _), (.t 3, _), (.t 4, _), (.t 11, _), (.t 12, _), (.h 0, _), (.h 1, _), (.h 2, _), (.h 3, _), (.h 4, _)] (fun (z : Nat × Nat × Nat × Nat) => match z with | (j, i, k, g) => [(.t 13, iV j), (.t 6, nV i), (.t 7, nV k), (.t 8, nV g)]) (fun (z : Nat × Nat × Nat × Nat) => match z with | (j, i, k, g) => j ≤ r.length ∧ Cst a.length b.length r j i k g) (fun (z : Nat × Nat × Nat × Nat) => match z with | (j, i, k, g) => r.length - j) (0, 0, 0, 0) ⟨rfl, rfl, rfl, rfl, rfl, rfl, rfl, rfl, rfl, rfl, rfl, rfl, rfl, rfl, rfl, trivial⟩ ⟨Nat.zero_le _, c0x⟩ ?_
 intro z hb
 obtain ⟨j, i, k, g⟩ := z
 try dsimp only at hb
 obtain ⟨hj1, hcs⟩ := hb
 have hlk := c3r hcs hj1
 refine A3 <| A0 <| K2 rfl rfl <| xN [1,2,3,4,6,7,8,11,12,13,14] [0,1,2,3,4] rfl <| A3 ?_
 refine B1 rfl ?_ ?_ <;> intro hc <;> try simp only [SL] at hc
 ·refine C0 <| A3 <| C1 <| A3 <| A0 <| I0 rfl rfl rfl rfl (by (simp; omega)) (by (simp; done)) rfl <| L7 rfl rfl (by omega) (fun _ => rfl) (fun _ => rfl) rfl <| y_S rfl <| xN [1,2,3,4,6,7,8,10,11,12,13] [0,1,2,3,4] rfl <| A3 <| A3 <| A0 <| y_M rfl <| xN [1,2,3,4,6,7,8,11,12,13,17] [0,1,2,3,4] rfl ?_
  refine B1 rfl ?_ ?_ <;> intro hc <;> try simp only [SL] at hc
  ·refine A0 <| y_M rfl <| E4 rfl rfl (C5 (by omega)) <| y_S rfl <| xN [1,2,3,4,6,7,8,11,12,13] [0,1,2,3,4] rfl <| A0 <| y_M rfl <| y_M rfl <| y_M rfl <| y_B rfl <| B0 rfl rfl <| y_B rfl <| B0 rfl rfl ?_
   apply xC rfl
   ·apply A5
    ·exact A9 rfl
    apply A5
    ·exact A9 rfl
    apply A5
    ·exact A9 rfl
    apply A5
    ·exact A9 rfl
    exact E5
   ·exact b1l (i + 1) k a.length b.length (by omega) (by omega) (by omega) (by omega)
   refine ⟨⟨rfl, rfl, rfl, dT rfl, rfl⟩, .inl rfl, C4, E8 rfl, fun _ => rfl, fun g29 => ?_⟩
   refine b6n rfl rfl ?_
   try rw [a0b]
   refine y_S rfl <| xN [1,2,3,4,6,7,8,11,12,13] [0,1,2,3,4] rfl <| A0 <| E4 rfl rfl (C5 (by omega)) <| y_M rfl <| xN [1,2,3,4,6,7,8,11,12,13] [0,1,2,3,4] rfl ?_
   refine ⟨(j + 1, i + 1, k, _), ?_, (by simp only; omega), ⟨rfl, rfl, rfl, rfl, rfl, rfl, rfl, rfl, rfl, rfl, rfl, rfl, rfl, rfl, rfl, trivial⟩⟩
   exact ⟨by omega, c1h true (by omega) (by assumption) hcs⟩
  refine A0 <| y_M rfl <| E4 rfl rfl (C5 (by omega)) <| y_S rfl <| xN [1,2,3,4,6,7,8,11,12,13] [0,1,2,3,4] rfl <| A0 <| y_M rfl <| y_M rfl <| y_M rfl <| y_B rfl <| B0 rfl rfl <| y_B rfl <| B0 rfl rfl ?_
  apply xC rfl
  ·apply A5
   ·exact A9 rfl
   apply A5
   ·exact A9 rfl
   apply A5
   ·exact A9 rfl
   apply A5
   ·exact A9 rfl
   exact E5
  ·exact b1l i (k + 1) a.length b.length (by omega) (by omega) (by omega) (by omega)
  refine ⟨⟨rfl, rfl, rfl, dT rfl, rfl⟩, .inl rfl, C4, E8 rfl, fun _ => rfl, fun g29 => ?_⟩
  refine b6n rfl rfl ?_
  try rw [a0b]
  refine y_S rfl <| xN [1,2,3,4,6,7,8,11,12,13] [0,1,2,3,4] rfl <| A0 <| E4 rfl rfl (C5 (by omega)) <| y_M rfl <| xN [1,2,3,4,6,7,8,11,12,13] [0,1,2,3,4] rfl ?_
  refine ⟨(j + 1, i, k + 1, _), ?_, (by simp only; omega), ⟨rfl, rfl, rfl, rfl, rfl, rfl, rfl, rfl, rfl, rfl, rfl, rfl, rfl, rfl, rfl, trivial⟩⟩
  exact ⟨by omega, c1h false (by omega) (by assumption) hcs⟩
 refine G8 <| A3 <| A0 <| y_B rfl <| E4 rfl rfl (C5 (by omega)) <| Y6 rfl rfl rfl rfl ⟨by decide, rfl, dT rfl, dT rfl, rfl⟩ rfl (by exact a9d rfl) <| xN [1,2,4,8] [0,1,2,3,4] rfl <| A3 <| A0 <| y_M rfl <| y_B rfl <| y_B rfl ?_
 refine xC2 rfl rfl rfl (c5n a b (by omega) (by omega) h1) ⟨rfl, rfl, rfl⟩ rfl rfl fun g37 => ?_
 refine c0c rfl rfl <| xN [4,38] [0,1,2,3,4] rfl ?_
 refine B1 rfl ?_ ?_ <;> intro hc <;> try simp only [SL] at hc
 ·refine A0 <| y_B rfl <| E4 rfl rfl (C5 (by omega)) <| Y6 rfl rfl rfl rfl ⟨by decide, rfl, dT rfl, dT rfl, rfl⟩ rfl (by exact a9d rfl) <| xN [] [0,1,2,3,4] rfl ?_
  refine ⟨_, _, ?_, a6g (G5 rfl (a1g fun _ => rfl) (G5 rfl rfl (G5 rfl rfl (G5 rfl rfl (G5 rfl rfl G4)))))⟩
  have hge := b7q hcs (by omega)
  unfold up1
  (rw [if_pos (by omega)]; exact ⟨rfl, rfl⟩)
 refine C0 ?_
 refine ⟨_, _, ?_, a6g (G5 rfl (a1g fun _ => rfl) (G5 rfl rfl (G5 rfl rfl (G5 rfl rfl (G5 rfl rfl G4)))))⟩
 have hge := b7q hcs (by omega)
 unfold up1
 (rw [if_neg (by omega)]; exact ⟨rfl, rfl⟩)

theorem a6x : D8 Try.f21 = [0, 1, 2, 14, 13, 15, 7, 23, 22, 24, 9, 6, 37, 8, 43] := by kernel_rfl
theorem b9m (a b : List Int) (ha : a.length ≤ 6) (hb : b.length ≤ 6) (h1 : 1 ≤ a.length + b.length) : ∃ res outs, (fun res outs => res = .tup [] ∧ outs = [[L a], [L b], [nV (b2o a b)], [nV (b8j a b)]]) res outs ∧ CW cxT 21 [nV a.length, nV b.length, .clo 22 [.ownp [L a] 0 0, .ownp [L b] 0 0, .ownp [nV 0] 0 0, .ownp [nV 0] 0 0]] = some (res, outs) := by
 have hpw : 2 ^ (a.length + b.length) ≤ 4096 := Nat.le_trans (Nat.pow_le_pow_right (by decide) (show a.length + b.length ≤ 12 by omega)) (by decide)
 obtain ⟨N, hN⟩ : ∃ N, N = a.length + b.length := ⟨_, rfl⟩
 rw [← hN] at hpw
 obtain ⟨Z, hZ⟩ : ∃ Z, Z = 2 ^ N := ⟨_, rfl⟩
 rw [← hZ] at hpw
 refine b6h ([(.h 100002, .obj 1 4 0 [L a]), (.h 200002, .obj 1 4 0 [L b]), (.h 300002, .obj 1 4 0 [nV 0]), (.h 400002, .obj 1 4 0 [nV 0])]) (a1k rfl (a1k rfl (a1k rfl (a1k rfl c2m)))) rfl Try.func21 rfl ⟨by kernel_rfl, rfl, dT rfl, dT rfl, by decide⟩ a6x <| A3 <| A0 <| y_M rfl <| y_M rfl <| E4 rfl rfl (C5 (by omega)) <| c4s (x := 1) (y := a.length + b.length) rfl rfl ⟨by omega, by rw [← hN, ← hZ]; omega⟩ ?_
 rw [← hN, ← hZ, Nat.one_mul]
 refine y_M rfl <| xN [0,1,2,13,14] [100002,200002,300002,400002] rfl <| C1 <| G6 (β := Nat × Nat × Nat) [(.t 0, _), (.t 1, _), (.t 2, _), (.t 13, _), (.h 100002, _), (.h 200002, _)] (fun (z : Nat × Nat × Nat) => match z with | (S, x, y) => [(.t 14, nV S), (.h 300002, .obj 1 4 0 [nV x]), (.h 400002, .obj 1 4 0 [nV y])]) (fun (z : Nat × Nat × Nat) => match z with | (S, x, y) => S ≤ Z ∧ Sst a b N S x y) (fun (z : Nat × Nat × Nat) => match z with | (S, x, y) => Z - S) (0, 0, 0) ⟨rfl, rfl, rfl, rfl, rfl, rfl, rfl, rfl, rfl, trivial⟩ ⟨Nat.zero_le _, c1m⟩ ?_
 intro z hb
 obtain ⟨S, x, y⟩ := z
 try dsimp only at hb
 obtain ⟨hS1, hst⟩ := hb
 have hbd := c4q hst
 refine A3 <| A0 <| K2 rfl rfl <| xN [0,1,2,13,14,15] [100002,200002,300002,400002] rfl <| A3 ?_
 refine B1 rfl ?_ ?_ <;> intro hc <;> try simp only [SL] at hc
 ·refine C0 <| A3 <| C1 <| A3 <| A0 <| y_M rfl <| y_S rfl <| xN [0,1,2,6,13,14] [100002,200002,300002,400002] rfl <| A3 <| A0 <| y_M rfl <| y_M rfl <| E4 rfl rfl (C5 (by omega)) ?_
  rw [show ((a.length : Int) + (b.length : Int)) = ((N : Nat) : Int) by omega]
  refine a4i (f := bV) (x0 := false) rfl rfl rfl rfl rfl (by simp only [K5]; omega) (dT rfl) (fun _ => F6 (by exact D3 fun _ => rfl)) (fun _ => rfl) ?_
  intro g20
  (refine xO rfl rfl (by simp) rfl (fun _ => rfl) (fun _ => rfl) ?_; intro g7)
  refine xN [0,1,2,6,7,13,14] [100002,200002,300002,400002,7] rfl <| A3 <| A0 <| y_S rfl <| xN [0,1,2,6,7,8,13,14] [100002,200002,300002,400002,7] rfl <| A3 <| A3 <| A0 <| y_M rfl <| N3 rfl rfl <| y_M rfl <| xN [0,1,2,6,7,8,13,14,22,23] [100002,200002,300002,400002,7] rfl <| C1 <| G6 (β := Nat × Nat × List Bool) [(.t 0, _), (.t 1, _), (.t 2, _), (.t 6, _), (.t 7, _), (.t 13, _), (.t 14, _), (.t 22, _), (.h 100002, _), (.h 200002, _), (.h 300002, _), (.h 400002, _)] (fun (z : Nat × Nat × List Bool) => match z with | (i, c, ys) => [(.t 23, nV i), (.t 8, nV c), (.h 7, .obj g7 0 1 (ys.map bV))]) (fun (z : Nat × Nat × List Bool) => match z with | (i, c, ys) => i ≤ N ∧ Rst N S i c ys) (fun (z : Nat × Nat × List Bool) => match z with | (i, c, ys) => N - i) (0, 0, List.replicate N false) ⟨rfl, rfl, rfl, rfl, rfl, rfl, rfl, rfl, rfl, rfl, rfl, rfl, rfl, rfl, rfl, trivial⟩ ⟨Nat.zero_le _, c0a⟩ ?_
  intro z hb
  obtain ⟨i, c, ys⟩ := z
  try dsimp only at hb
  obtain ⟨hi1, hrs⟩ := hb
  have hyl := hrs.1
  have hcl := c5c hrs
  refine A3 <| A0 <| K2 rfl rfl <| xN [0,1,2,6,7,8,13,14,22,23,24] [100002,200002,300002,400002,7] rfl <| A3 ?_
  refine B1 rfl ?_ ?_ <;> intro hc <;> try simp only [SL] at hc
  ·refine C0 <| A3 <| C1 <| A3 <| A0 <| y_M rfl <| y_S rfl <| xN [0,1,2,6,7,8,9,13,14,22,23] [100002,200002,300002,400002,7] rfl <| A3 <| A0 <| y_M rfl <| y_M rfl <| y_M rfl <| y_M rfl <| c5k (x := S) (y := i) rfl rfl (by omega) <| c4w rfl rfl (Nat.lt_of_le_of_lt (Nat.div_le_self S _) (by omega)) <| a9c rfl rfl ?_
   rw [c2e]
   refine I0 rfl rfl rfl rfl (by omega) (by (simp; omega)) rfl <| a2s rfl rfl rfl (by omega) (fun _ _ => ⟨rfl, rfl, dT rfl, dT rfl, rfl, rfl⟩) (by decide) (by exact F6 (D3 fun _ => rfl)) <| xN [0,1,2,6,7,8,9,13,14,22,23] [100002,200002,300002,400002,7] rfl <| A3 <| A0 <| y_M rfl <| y_M rfl <| I0 rfl rfl rfl rfl (by omega) (by (simp; omega)) rfl <| L7 rfl rfl (by (simp; omega)) (fun _ => rfl) (fun _ => rfl) rfl <| xN [0,1,2,6,7,8,13,14,22,23,37] [100002,200002,300002,400002,7] rfl ?_
   refine B1 rfl ?_ ?_ <;> intro hc <;> try simp only [SL] at hc
   ·rw [c0i (by omega)] at hc
    refine A0 <| y_M rfl <| E4 rfl rfl (C5 (by omega)) <| y_S rfl <| xN [0,1,2,6,7,8,13,14,22,23] [100002,200002,300002,400002,7] rfl <| A0 <| E4 rfl rfl (C5 (by omega)) <| y_M rfl <| xN [0,1,2,6,7,8,13,14,22,23] [100002,200002,300002,400002,7] rfl ?_
    refine ⟨(i + 1, c + 1, ys.set i (S.testBit i)), ?_, (by simp only; omega), ⟨rfl, rfl, rfl, rfl, rfl, rfl, rfl, rfl, rfl, rfl, rfl, rfl, rfl, rfl, rfl, trivial⟩⟩
    exact ⟨by omega, b9w true (by omega) (by assumption) hrs⟩
   rw [c0i (by omega)] at hc
   refine C0 <| A0 <| E4 rfl rfl (C5 (by omega)) <| y_M rfl <| xN [0,1,2,6,7,8,13,14,22,23] [100002,200002,300002,400002,7] rfl ?_
   refine ⟨(i + 1, c, ys.set i (S.testBit i)), ?_, (by simp only; omega), ⟨rfl, rfl, rfl, rfl, rfl, rfl, rfl, rfl, rfl, rfl, rfl, rfl, rfl, rfl, rfl, trivial⟩⟩
   exact ⟨by omega, b9w false (by omega) (by assumption) hrs⟩
  obtain ⟨hys, hcn⟩ := c3e (show i = N by omega) hrs
  subst hys
  have hlr := Gp.rowS_len N S
  refine G8 <| A3 <| A0 <| y_M rfl <| y_M rfl <| a9c rfl rfl <| xN [0,1,2,7,13,14,43] [100002,200002,300002,400002,7] rfl ?_
  refine B1 rfl ?_ ?_ <;> intro hc <;> try simp only [SL] at hc
  ·have hc1 : (Gp.rowS N S).count true = a.length := by omega
   refine A0 <| y_M rfl <| y_M rfl ?_
   obtain ⟨_, _, ⟨rfl, rfl⟩, hCl⟩ := b9v (Gp.rowS N S) a b ha hb h1 (by rw [Gp.rowS_len]; omega) x y (by omega) (by omega)
   apply b7c rfl rfl
   ·apply A5
    ·exact b2a rfl rfl (by decide) (by rw [List.length_map, Gp.rowS_len]; rfl) (a1g fun _ => rfl)
    apply A5
    ·exact b0z rfl (by decide) rfl
    apply A5
    ·exact b0z rfl (by decide) rfl
    apply A5
    ·exact b0z rfl (by decide) rfl
    apply A5
    ·exact b0z rfl (by decide) rfl
    exact E5
   ·exact hCl
   ·exact ⟨rfl, rfl, rfl, dT rfl, rfl⟩
   ·exact .inl rfl
   ·exact K3 rfl rfl (b1t _ _) (K3 rfl rfl rfl (K3 rfl rfl rfl (K3 rfl rfl rfl (K3 rfl rfl rfl C4))))
   ·exact a0y rfl
   ·(intro _; exact F0 (F6 (D3 fun _ => rfl)) rfl)
   intro g46
   refine xN [0,1,2,13,14] [100002,200002,300002,400002] rfl <| A0 <| E4 rfl rfl (C5 (by omega)) <| y_M rfl <| xN [0,1,2,13,14] [100002,200002,300002,400002] rfl ?_
   refine ⟨(S + 1, x + 1, up1 a b (Gp.rowS N S) y), ?_, (by simp only; omega), ⟨rfl, rfl, rfl, rfl, rfl, rfl, rfl, rfl, rfl, trivial⟩⟩
   exact ⟨by omega, c2r hc1 hst⟩
  have hc1 : ¬ (Gp.rowS N S).count true = a.length := by omega
  refine C0 <| A0 <| E4 rfl rfl (C5 (by omega)) <| y_M rfl <| xN [0,1,2,13,14] [100002,200002,300002,400002] rfl ?_
  refine ⟨(S + 1, x, y), ?_, (by simp only; omega), ⟨rfl, rfl, rfl, rfl, rfl, rfl, rfl, rfl, rfl, trivial⟩⟩
  exact ⟨by omega, c5t hc1 hst⟩
 refine G8 ?_
 refine ⟨_, _, ?_, a6g (G5 rfl rfl (G5 rfl rfl (G5 rfl rfl (G5 rfl rfl G4))))⟩
 obtain ⟨rfl, rfl⟩ := c3d ha hb hN (show S = 2 ^ N by omega) hst
 exact ⟨rfl, rfl⟩

theorem b0f : D8 Try.f7 = [0, 1, 4, 5, 3, 2, 30, 7, 6] := by kernel_rfl
theorem c2y (a b : List Int) (ha : a.length ≤ 1048576) (hb : b.length ≤ 1048576) : CW cxT 7 [L a, L b] = some (.tup [iV (gX a b).1, iV (gX a b).2], []) := by
 refine E3 rfl Try.func7 rfl ⟨by kernel_rfl, rfl, dT rfl, dT rfl, by decide⟩ b0f <| A3 <| A0 <| b6y rfl rfl rfl (fun _ => W0 rfl) (fun _ => rfl) ?_
 intro g2
 refine b6y rfl rfl rfl (fun _ => W0 rfl) (fun _ => rfl) ?_
 intro g3
 refine y_S rfl <| y_S rfl <| xN [2,3] [2,3] rfl <| A3 <| A3 <| A0 <| y_B rfl <| y_B rfl ?_
 refine xC2 rfl rfl rfl (b5z a b ha hb) ⟨rfl, rfl, rfl⟩ rfl rfl fun g10 => ?_
 refine a2z rfl <| y_M rfl ?_
 refine B5 rfl rfl ?_ ?_ <;> intro hg0 <;> have hg := hg0 <;> try simp only [SG] at hg
 ·refine y_B rfl <| gT rfl rfl <| B0 rfl rfl <| gT rfl rfl <| O9 rfl rfl <| C3 rfl (by assumption) rfl rfl <| y_M rfl ?_
  refine B5 rfl rfl ?_ ?_ <;> intro hg0 <;> have hg := hg0 <;> try simp only [SG] at hg
  ·refine y_B rfl <| gT rfl rfl <| B0 rfl rfl <| gT rfl rfl <| O9 rfl rfl <| C3 rfl (by assumption) rfl rfl <| y_M rfl ?_
   refine B5 rfl rfl ?_ ?_ <;> intro hg0 <;> have hg := hg0 <;> try simp only [SG] at hg
   ·refine y_B rfl <| gT rfl rfl <| y_B rfl <| gT rfl rfl <| I3 (es := List.map L [a, b]) rfl rfl (dT rfl) rfl rfl (fun _ => F6 (D3 fun _ => rfl)) (fun _ => rfl) ?_
    intro g25
    refine gT rfl rfl ?_
    have hsm0 := a5t.1 (show smp a b = true by simp_all)
    apply xC rfl
    ·apply A5
     ·exact F8 rfl rfl rfl (by (simp; done)) (fun _ => rfl)
     exact E5
    ·exact b3c a b (by omega) (by omega) (by omega)
    refine ⟨⟨rfl, rfl, rfl, dT rfl, rfl⟩, .inr ⟨Q1 fun _ => rfl, rfl⟩, C4, I4, fun _ => rfl, fun g26 => ?_⟩
    refine gT rfl rfl ?_
    have hvs := b7j (a := a) (b := b) (by simp_all)
    obtain ⟨_, _, ⟨tl, rfl, rfl, htl⟩, hCt⟩ := c3a (a ++ b) hvs.2 hvs.1
    apply xC rfl
    ·apply A5
     ·exact F8 rfl rfl rfl (by (simp; done)) (fun _ => rfl)
     exact E5
    ·exact hCt
    refine ⟨⟨rfl, rfl, rfl, dT rfl, rfl⟩, .inr ⟨Q1 fun _ => rfl, rfl⟩, C4, I4, fun _ => rfl, fun g27 => ?_⟩
    refine gT rfl rfl <| N3 rfl rfl <| gT rfl rfl <| O9 rfl rfl <| C3 rfl (by assumption) rfl rfl <| xN [2,3,30] [2,3] rfl ?_
    refine B1 rfl ?_ ?_ <;> intro hc <;> try simp only [SL] at hc
    ·refine A3 <| A0 <| y_S rfl <| y_S rfl <| xN [4,5] [] rfl <| B9 <| Q0 (J3 rfl rfl (J3 rfl rfl (V0 G4))) ?_
     (rw [a5a (Bool.eq_false_iff.2 fun h => by obtain ⟨h1, h2, h3, h4⟩ := M0.1 h; (simp_all; done))]; rfl)
    refine C0 <| A3 <| A0 <| y_A rfl (fun _ => rfl) ?_
    intro g6
    refine y_A rfl (fun _ => rfl) ?_
    intro g7
    iterate 2 refine xB rfl rfl rfl rfl rfl rfl rfl rfl rfl ?_
    refine xN [2,3,6,7] [2,3,6,7] rfl <| A3 <| A0 ?_
    have hok : gok a b = true := M0.2 ⟨by simp_all, by omega, by omega, htl.1 (List.eq_nil_of_length_eq_zero (by omega))⟩
    have hsm := a5t.1 (M0.1 hok).1
    refine y_B rfl <| B0 rfl rfl <| y_B rfl <| B0 rfl rfl <| a5w rfl rfl ?_
    obtain ⟨_, _, ⟨rfl, rfl⟩, hCl⟩ := b9m a b (by omega) (by omega) (by omega)
    apply xC rfl
    ·apply A5
     ·exact A9 rfl
     apply A5
     ·exact A9 rfl
     apply A5
     ·exact c3p rfl (b1e rfl (by decide) rfl (b1e rfl (by decide) rfl (b1e rfl (by decide) rfl (b1e rfl (by decide) rfl c5a))))
     exact E5
    ·exact hCl
    refine ⟨⟨rfl, rfl, rfl, dT rfl, rfl⟩, .inl rfl, K3 rfl rfl rfl (K3 rfl rfl rfl (K3 rfl rfl rfl (K3 rfl rfl rfl C4))), a0y rfl, fun _ => rfl, fun g36 => ?_⟩
    refine xN [6,7] [6,7] rfl <| A3 <| A0 <| y_B rfl <| y_B rfl <| y_S rfl <| y_S rfl ?_
    refine a3t ⟨fun _ => ⟨by decide +kernel, by decide +kernel⟩, [(.t 4, _), (.t 5, _)], ⟨rfl, rfl, rfl, rfl, trivial⟩, ?_⟩
    refine B9 <| Q0 (J3 rfl rfl (J3 rfl rfl (V0 G4))) ?_
    (rw [c1w hok]; rfl)
   iterate 6 refine gF rfl rfl ?_
   refine C9 rfl (by assumption) rfl rfl <| xN [2,3,30] [2,3] rfl ?_
   refine B1 rfl (fun hc => ?_) (fun hc => absurd hc (by decide))
   refine A3 <| A0 <| y_S rfl <| y_S rfl <| xN [4,5] [] rfl <| B9 <| Q0 (J3 rfl rfl (J3 rfl rfl (V0 G4))) ?_
   (rw [a5a (Bool.eq_false_iff.2 fun h => by obtain ⟨h1, h2, h3, h4⟩ := M0.1 h; omega)]; rfl)
  refine gF rfl rfl <| gF rfl rfl <| C9 rfl (by assumption) rfl rfl <| y_M rfl ?_
  iterate 7 refine B2 rfl rfl rfl ?_
  refine C9 rfl rfl rfl rfl <| xN [2,3,30] [2,3] rfl ?_
  refine B1 rfl (fun hc => ?_) (fun hc => absurd hc (by decide))
  refine A3 <| A0 <| y_S rfl <| y_S rfl <| xN [4,5] [] rfl <| B9 <| Q0 (J3 rfl rfl (J3 rfl rfl (V0 G4))) ?_
  (rw [a5a (Bool.eq_false_iff.2 fun h => by obtain ⟨h1, h2, h3, h4⟩ := M0.1 h; omega)]; rfl)
 refine gF rfl rfl <| gF rfl rfl <| C9 rfl (by assumption) rfl rfl <| y_M rfl <| B2 rfl rfl rfl <| B2 rfl rfl rfl <| B2 rfl rfl rfl <| C9 rfl rfl rfl rfl <| y_M rfl ?_
 iterate 7 refine B2 rfl rfl rfl ?_
 refine C9 rfl rfl rfl rfl <| xN [2,3,30] [2,3] rfl ?_
 refine B1 rfl (fun hc => ?_) (fun hc => absurd hc (by decide))
 refine A3 <| A0 <| y_S rfl <| y_S rfl <| xN [4,5] [] rfl <| B9 <| Q0 (J3 rfl rfl (J3 rfl rfl (V0 G4))) ?_
 (rw [a5a (Bool.eq_false_iff.2 fun h => by obtain ⟨h1, h2, h3, h4⟩ := M0.1 h; (simp_all; done))]; rfl)

theorem W1 : D8 Try.f3 = [0, 1, 4, 13, 16, 8, 7, 6, 10, 5, 9, 42, 47, 52] := by kernel_rfl
theorem a1u (xs ys : List Int) (hx : c5e xs) (hy : c5e ys) : CW cxT 3 [L xs, L ys] = some (bV true, []) := by
 refine E3 rfl Try.func3 rfl ⟨by kernel_rfl, rfl, dT rfl, dT rfl, by decide⟩ W1 <| A3 <| A0 <| y_S rfl <| xN [0,1] [] rfl <| A3 <| A3 <| A0 <| y_M rfl <| B0 rfl rfl <| O9 rfl rfl <| xN [0,1,13] [] rfl ?_
 refine B1 rfl ?_ ?_ <;> intro hc <;> try simp only [SL] at hc
 ·refine A3 <| A0 <| y_S rfl <| xN [4] [] rfl <| B9 <| B8 rfl rfl trivial ?_
  rfl
 refine C0 <| A3 <| A3 <| A0 <| y_M rfl <| B0 rfl rfl <| O9 rfl rfl <| xN [0,1,16] [] rfl ?_
 refine B1 rfl ?_ ?_ <;> intro hc <;> try simp only [SL] at hc
 ·refine A3 <| A0 <| y_S rfl <| xN [4] [] rfl <| B9 <| B8 rfl rfl trivial ?_
  rfl
 refine C0 <| A3 <| A0 <| y_M rfl ?_
 apply xC rfl
 ·apply A5
  ·exact A9 rfl
  exact E5
 ·exact V4 xs (by omega)
 refine ⟨⟨rfl, rfl, rfl, dT rfl, rfl⟩, .inl rfl, C4, I4, fun _ => rfl, fun g19 => ?_⟩
 simp only [List.length_map]
 refine y_M rfl ?_
 apply xC rfl
 ·apply A5
  ·exact A9 rfl
  exact E5
 ·exact V4 ys (by omega)
 refine ⟨⟨rfl, rfl, rfl, dT rfl, rfl⟩, .inl rfl, C4, I4, fun _ => rfl, fun g21 => ?_⟩
 simp only [List.length_map]
 apply xC rfl
 ·apply A5
  ·exact F8 rfl rfl rfl (by (simp; done)) (fun _ => rfl)
  apply A5
  ·exact F8 rfl rfl rfl (by (simp; done)) (fun _ => rfl)
  exact E5
 ·exact c2v xs ys (by omega) (by omega)
 refine ⟨⟨rfl, rfl, rfl, dT rfl, rfl⟩, .inr ⟨rfl, rfl⟩, C4, a0y rfl, fun _ => rfl, fun g22 => ?_⟩
 refine y_M rfl <| y_E rfl <| y_E rfl <| y_S rfl <| y_S rfl <| xN [0,1,5,6] [] rfl <| A3 <| A0 <| y_M rfl ?_
 apply xC rfl
 ·apply A5
  ·exact A9 rfl
  exact E5
 ·exact V4 xs (by omega)
 refine ⟨⟨rfl, rfl, rfl, dT rfl, rfl⟩, .inl rfl, C4, I4, fun _ => rfl, fun g26 => ?_⟩
 simp only [List.length_map]
 (refine xO rfl rfl (by simp) rfl (fun _ => rfl) (fun _ => rfl) ?_; intro g7)
 refine xN [0,1,5,6,7] [7] rfl <| A3 <| A0 <| y_M rfl ?_
 apply xC rfl
 ·apply A5
  ·exact A9 rfl
  exact E5
 ·exact V4 ys (by omega)
 refine ⟨⟨rfl, rfl, rfl, dT rfl, rfl⟩, .inl rfl, C4, I4, fun _ => rfl, fun g28 => ?_⟩
 simp only [List.length_map]
 (refine xO rfl rfl (by simp) rfl (fun _ => rfl) (fun _ => rfl) ?_; intro g8)
 refine xN [0,1,5,6,7,8] [7,8] rfl <| A3 <| A0 <| y_M rfl <| y_M rfl ?_
 apply xC rfl
 ·apply A5
  ·exact F8 rfl rfl rfl (by (simp; done)) (fun _ => rfl)
  apply A5
  ·exact F8 rfl rfl rfl (by (simp; done)) (fun _ => rfl)
  exact E5
 ·exact c2y xs ys (by omega) (by omega)
 refine ⟨⟨rfl, rfl, rfl, dT rfl, rfl⟩, .inr ⟨rfl, rfl⟩, C4, a0y rfl, fun _ => rfl, fun g32 => ?_⟩
 refine y_M rfl <| y_E rfl <| y_E rfl <| y_S rfl <| y_S rfl <| xN [0,1,5,6,7,8,9,10] [7,8] rfl <| A3 <| A3 <| A0 <| y_M rfl <| y_M rfl <| b6t rfl rfl <| y_M rfl ?_
 refine B5 rfl rfl ?_ ?_ <;> intro hg0 <;> have hg := hg0 <;> try simp only [SG] at hg
 ·refine y_M rfl <| gT rfl rfl <| y_M rfl <| gT rfl rfl <| b6t rfl rfl <| C3 rfl (by assumption) rfl rfl <| xN [0,1,7,8,42] [7,8] rfl ?_
  refine B1 rfl ?_ ?_ <;> intro hc <;> try simp only [SL] at hc
  ·refine A3 <| A0 <| y_S rfl <| xN [4] [] rfl <| B9 <| B8 rfl rfl trivial ?_
   (simp_all; done)
  refine C0 <| A3 <| A3 <| A0 <| y_M rfl <| y_M rfl ?_
  apply xC rfl
  ·apply A5
   ·exact A9 rfl
   exact E5
  ·exact V4 xs (by omega)
  refine ⟨⟨rfl, rfl, rfl, dT rfl, rfl⟩, .inl rfl, C4, I4, fun _ => rfl, fun g45 => ?_⟩
  simp only [List.length_map]
  apply xC rfl
  ·apply A5
   ·exact F8 rfl rfl rfl (by (simp; done)) (fun _ => rfl)
   apply A5
   ·exact F8 rfl rfl rfl (by (simp; done)) (fun _ => rfl)
   exact E5
  ·exact b3g xs (by omega)
  refine ⟨⟨rfl, rfl, rfl, dT rfl, rfl⟩, .inr ⟨rfl, rfl⟩, C4, E8 rfl, fun _ => rfl, fun g46 => ?_⟩
  refine a2z rfl <| xN [1,8,47] [8] rfl ?_
  refine B1 rfl (fun hc => absurd hc (by decide)) (fun hc => ?_)
  refine C0 <| A3 <| A3 <| A0 <| y_M rfl <| y_M rfl ?_
  apply xC rfl
  ·apply A5
   ·exact A9 rfl
   exact E5
  ·exact V4 ys (by omega)
  refine ⟨⟨rfl, rfl, rfl, dT rfl, rfl⟩, .inl rfl, C4, I4, fun _ => rfl, fun g50 => ?_⟩
  simp only [List.length_map]
  apply xC rfl
  ·apply A5
   ·exact F8 rfl rfl rfl (by (simp; done)) (fun _ => rfl)
   apply A5
   ·exact F8 rfl rfl rfl (by (simp; done)) (fun _ => rfl)
   exact E5
  ·exact b3g ys (by omega)
  refine ⟨⟨rfl, rfl, rfl, dT rfl, rfl⟩, .inr ⟨rfl, rfl⟩, C4, E8 rfl, fun _ => rfl, fun g51 => ?_⟩
  refine a2z rfl <| xN [52] [] rfl ?_
  refine B1 rfl (fun hc => absurd hc (by decide)) (fun hc => ?_)
  refine C0 <| A3 <| A0 <| y_S rfl <| xN [4] [] rfl <| B9 <| B8 rfl rfl trivial ?_
  rfl
 refine gF rfl rfl <| gF rfl rfl <| C9 rfl (by assumption) rfl rfl <| xN [0,1,7,8,42] [7,8] rfl ?_
 refine B1 rfl (fun hc => ?_) (fun hc => absurd hc (by decide))
 refine A3 <| A0 <| y_S rfl <| xN [4] [] rfl <| B9 <| B8 rfl rfl trivial ?_
 (simp_all; done)
end Go.Proofs.Ytldpjnaakmhafaa
