/- What each function of the program gives on the abstract machine, part 1 of 2. Conditions: those in front of each theorem. -/
import Derived.Test.YtlainomgfkknbaaGreatDoorMd
import Derived.Test.YtlainomgfkknbaaGreatDoorChecked
import Derived.KernelRfl

set_option linter.unusedVariables false
set_option linter.unusedSimpArgs false
namespace Go.Proofs.YtlainomgfkknbaaGreatDoor
open Go Go.Mv Go.Proofs
set_option maxRecDepth 100000
set_option maxHeartbeats 20000000

theorem SD : (∀ {p : Prop} [Decidable p], (decide p = true) = p) ∧ (∀ {p : Prop} {_ : Decidable p}, decide p = false ↔ ¬p) ∧ (∀ (b : Bool), ((!b) = true) = (b = false)) ∧ (∀ (b : Bool), ((!b) = false) = (b = true)) ∧ (∀ {α : Type} [BEq α] [LawfulBEq α] {a b : α}, (a != b) = true ↔ a ≠ b) ∧
    (∀ {α : Type} [BEq α] [LawfulBEq α] {a b : α}, (a == b) = true ↔ a = b) ∧ (∀ {α : Type} (a b : α), (a ≠ b) = ¬a = b) ∧ (!true) = false ∧ (!false) = true ∧ (∀ {α : Type} [BEq α] [LawfulBEq α] {a b : α}, (a == b) = false ↔ a ≠ b) ∧ (∀ {α : Type} [BEq α] [LawfulBEq α] {a b : α}, (a != b) = false ↔ a = b) ∧
    (∀ {p : Prop} [Decidable p], ¬¬p ↔ p) ∧ (∀ {a b : Int}, ¬a < b ↔ b ≤ a) ∧ (∀ {a b : Int}, ¬a ≤ b ↔ b < a) :=
  ⟨@decide_eq_true_eq, @decide_eq_false_iff_not, @Bool.not_eq_true', @Bool.not_eq_false', @bne_iff_ne, @beq_iff_eq, @ne_eq, @Bool.not_true, @Bool.not_false, @beq_eq_false_iff_ne, @bne_eq_false_iff_eq, @Decidable.not_not, @Int.not_lt, @Int.not_le⟩
theorem SG : ((∀ {p : Prop} [Decidable p], (decide p = true) = p) ∧ (∀ {p : Prop} {_ : Decidable p}, decide p = false ↔ ¬p) ∧ (∀ (b : Bool), ((!b) = true) = (b = false)) ∧ (∀ (b : Bool), ((!b) = false) = (b = true)) ∧ (∀ {α : Type} [BEq α] [LawfulBEq α] {a b : α}, (a != b) = true ↔ a ≠ b) ∧
    (∀ {α : Type} [BEq α] [LawfulBEq α] {a b : α}, (a == b) = true ↔ a = b) ∧ (∀ {α : Type} (a b : α), (a ≠ b) = ¬a = b) ∧ (!true) = false ∧ (!false) = true ∧ (∀ {α : Type} [BEq α] [LawfulBEq α] {a b : α}, (a == b) = false ↔ a ≠ b) ∧ (∀ {α : Type} [BEq α] [LawfulBEq α] {a b : α}, (a != b) = false ↔ a = b) ∧
    (∀ {p : Prop} [Decidable p], ¬¬p ↔ p) ∧ (∀ {a b : Int}, ¬a < b ↔ b ≤ a) ∧ (∀ {a b : Int}, ¬a ≤ b ↔ b < a)) ∧
    (∀ (a b : Bool), ((a && b) = true) = (a = true ∧ b = true)) ∧ (∀ {x y : Bool}, (x && y) = false ↔ x = false ∨ y = false) ∧ (∀ (a b : Bool), ((a || b) = true) = (a = true ∨ b = true)) ∧ (∀ {x y : Bool}, (x || y) = false ↔ x = false ∧ y = false) :=
  ⟨SD, @Bool.and_eq_true, @Bool.and_eq_false_iff, @Bool.or_eq_true, @Bool.or_eq_false_iff⟩
def d3y (keep : List Nat) (A : Asr) : List Mv.Loc → Asr → Option Asr
  | l :: ls, B => match keepLoc keep l, Mv.look A l with
    | true, some a => d3y keep A ls ((l, a) :: B)
    | _, _ => none
  | [], B => some B
theorem d0t {keep : List Nat} {A : Asr} : ∀ (ls : List Mv.Loc) {B C : Asr}, KeepL keep A B → d3y keep A ls B = some C → KeepL keep A C
  | [], B, C, h, e => by simp only [d3y, Option.some.injEq] at e; rw [← e]; exact h
  | l :: ls, B, C, h, e => by
    simp only [d3y] at e
    split at e
    · exact d0t ls (show KeepL keep A ((l, _) :: B) from ⟨by assumption, by assumption, h⟩) e
    · cases e
theorem kS (ts hs : List Nat) {keep : List Nat} {A B : Asr} (h : d3y keep A (ts.map .t ++ hs.map .h) [] = some B) : KeepL keep A B := d0t _ (show KeepL keep A [] from trivial) h
section
variable {cx : Cx} {keep : List Nat} {ops0 : Array Oper} {r : List Oper} {A : Asr} {Q : Asr → List Log → Prop}
variable {d ty : Nat} {pos : String} {aft : Array Edge}
theorem gT {op : Op} {dst : Option Nat} {g dg : Nat} {want b : Bool} (hd : (ops0[g]?).bind (·.dst) = some dg) (hb : Mv.look A (.t dg) = some (.val (.bool b)))
    (h : XR cx keep ops0 (⟨dst, op, ty, pos, aft, none⟩ :: r) A fun A' lg => Q A' (d1w (.t dg) lg)) (hw : b = want := by assumption) : XR cx keep ops0 (⟨dst, op, ty, pos, aft, some (g, want)⟩ :: r) A Q := H3 hd hb hw h
theorem gF {op : Op} {g dg : Nat} {want b : Bool} (hd : (ops0[g]?).bind (·.dst) = some dg) (hb : Mv.look A (.t dg) = some (.val (.bool b)))
    (h : XR cx keep ops0 r ((.t d, .val (.tuple #[])) :: A) fun A' lg => Q A' (([.t dg], [.t d]) :: lg)) (hw : b = !want := by assumption) : XR cx keep ops0 (⟨some d, op, ty, pos, aft, some (g, want)⟩ :: r) A Q := I7 hd hb hw h
theorem xN {B : Asr} {p : Asr → List Log → Prop} {R : Asr → Prop} (ts hs : List Nat) (h : d3y keep A (ts.map .t ++ hs.map .h) [] = some B) (q : R B) :
    XR cx keep ops0 [] A (fun A' lg => (false = true → p A' lg) ∧ ∃ B, KeepL keep A' B ∧ R B) := J6 ⟨nofun, B, kS ts hs h, q⟩
theorem xC {G : Type} {k : Nat} {args : Array Operand} {Ts : Array Nat} {vs av : List AV} {ids : List (Nat × Bool)} {wp wb : Ws} {lp lb li : List Mv.Loc} {res : AV} {outs : List (List AV)} {v : G → AV} {wi : G → Ws}
    (hv : opds A args.toList = some vs) (hp : a6n (CW cx) A (cx.md k) 0 vs av ids wp lp) (hC : CW cx k av = some (res, outs))
    (hr : (apartIds ids = true ∧ nodupB ((a0e (cx.md k) 0 vs).map (·.1)) = true ∧ nodupB ((cidAll (cx.md k) 0 av).map (·.1)) = true ∧ av.length ≤ 1000 ∧ a1m av = true) ∧
      (ids.all (fun x => x.2) = true ∨ (hasList res = false ∧ outs.any F7 = false)) ∧
      c8r (CW cx) (puts A wp) (a0e (cx.md k) 0 vs) outs wb lb ∧ a4x (CW cx) (puts (puts A wp) wb) d res v wi li ∧
      (∀ g, tRefsOk keep (keptWs keep (wp ++ (wb ++ (wi g ++ [(.t d, v g)])))) = true) ∧
      ∀ g, XR cx keep ops0 r (I2 A (wp ++ (wb ++ (wi g ++ [(.t d, v g)])))) fun A' lg => Q A' ((a1q args.toList ++ (lp ++ (lb ++ li)), Z0 (wp ++ (wb ++ (wi g ++ [(.t d, v g)])))) :: lg)) :
    XR cx keep ops0 (⟨some d, .call ⟨.value (.func k), args, Ts⟩, ty, pos, aft, none⟩ :: r) A Q :=
  a8d hv hp hC hr.1 hr.2.1 hr.2.2.1 hr.2.2.2.1 hr.2.2.2.2.1 hr.2.2.2.2.2
theorem xC1 {k : Nat} {Ts : Array Nat} {x1 : Operand} {v1 res : AV} (hx : opds A [x1] = some [v1]) (p1 : U3 v1 = true) (hC : CW cx k [v1] = some (res, []))
    (hb : a0e (cx.md k) 0 [v1] = [] ∧ nodupB ((cidAll (cx.md k) 0 [v1]).map (·.1)) = true ∧ a1m [v1] = true) (hi : K7 res = true) (hk : tRefsOk keep (keptWs keep [(.t d, res)]) = true)
    (h : ∀ _ : Unit, XR cx keep ops0 r (I2 A [(.t d, res)]) fun A' lg => Q A' ((a1q [x1], [.t d]) :: lg)) : XR cx keep ops0 (⟨some d, .call ⟨.value (.func k), #[x1], Ts⟩, ty, pos, aft, none⟩ :: r) A Q :=
  a8d hx (A9 (B7 p1) C5) hC ⟨rfl, by rw [hb.1]; rfl, hb.2.1, by simp, hb.2.2⟩ (.inl rfl) (by rw [hb.1]; exact B3) (C9 hi) (fun _ => hk) (fun g => by have := h g; simpa [Z0] using this)
theorem xC2 {k : Nat} {Ts : Array Nat} {x1 x2 : Operand} {v1 v2 res : AV} (hx : opds A [x1, x2] = some [v1, v2]) (p1 : U3 v1 = true) (p2 : U3 v2 = true) (hC : CW cx k [v1, v2] = some (res, []))
    (hb : a0e (cx.md k) 0 [v1, v2] = [] ∧ nodupB ((cidAll (cx.md k) 0 [v1, v2]).map (·.1)) = true ∧ a1m [v1, v2] = true) (hi : K7 res = true) (hk : tRefsOk keep (keptWs keep [(.t d, res)]) = true)
    (h : ∀ _ : Unit, XR cx keep ops0 r (I2 A [(.t d, res)]) fun A' lg => Q A' ((a1q [x1, x2], [.t d]) :: lg)) : XR cx keep ops0 (⟨some d, .call ⟨.value (.func k), #[x1, x2], Ts⟩, ty, pos, aft, none⟩ :: r) A Q :=
  a8d hx (A9 (B7 p1) (A9 (B7 p2) C5)) hC ⟨rfl, by rw [hb.1]; rfl, hb.2.1, by simp, hb.2.2⟩ (.inl rfl) (by rw [hb.1]; exact B3) (C9 hi) (fun _ => hk) (fun g => by have := h g; simpa [Z0] using this)
theorem xC3 {k : Nat} {Ts : Array Nat} {x1 x2 x3 : Operand} {v1 v2 v3 res : AV} (hx : opds A [x1, x2, x3] = some [v1, v2, v3]) (p1 : U3 v1 = true) (p2 : U3 v2 = true) (p3 : U3 v3 = true) (hC : CW cx k [v1, v2, v3] = some (res, []))
    (hb : a0e (cx.md k) 0 [v1, v2, v3] = [] ∧ nodupB ((cidAll (cx.md k) 0 [v1, v2, v3]).map (·.1)) = true ∧ a1m [v1, v2, v3] = true) (hi : K7 res = true) (hk : tRefsOk keep (keptWs keep [(.t d, res)]) = true)
    (h : ∀ _ : Unit, XR cx keep ops0 r (I2 A [(.t d, res)]) fun A' lg => Q A' ((a1q [x1, x2, x3], [.t d]) :: lg)) : XR cx keep ops0 (⟨some d, .call ⟨.value (.func k), #[x1, x2, x3], Ts⟩, ty, pos, aft, none⟩ :: r) A Q :=
  a8d hx (A9 (B7 p1) (A9 (B7 p2) (A9 (B7 p3) C5))) hC ⟨rfl, by rw [hb.1]; rfl, hb.2.1, by simp, hb.2.2⟩ (.inl rfl) (by rw [hb.1]; exact B3) (C9 hi) (fun _ => hk) (fun g => by have := h g; simpa [Z0] using this)
theorem xO {α : Type} {f : α → AV} {xs : List α} {x : Operand} {id g s n : Nat} (hx : opd A x = some (.sl id g none 0 n)) (ho : Mv.look A (.h id) = some (.obj g 0 s (xs.map f))) (hn : n = (xs.map f).length) (hne : Loc.beq (.h d) (.h id) = false) (hf : ∀ a, L9 (f a) = true)
    (hk : ∀ g, slotOk keep (.t d) (.sl d g none 0 n) = true) (h : ∀ g', XR cx keep ops0 r ((.t d, .sl d g' none 0 n) :: (.h d, .obj g' 0 s (xs.map f)) :: (.h id, .dead g) :: A) fun A' lg => Q A' ((rds x ++ [.h id, .h d], [.h id, .h d, .t d]) :: lg)) :
    XR cx keep ops0 (⟨some d, .assign x, ty, pos, aft, none⟩ :: r) A Q := H9 hx ho hn hne (fun _ => B1 (A6 hf)) hk h
theorem xB {T id g m s : Nat} {a x : Operand} {e v : AV} (ha : opd A a = some (.ptr id g none 0 0)) (hx : opd A x = some v) (ho : Mv.look A (.h id) = some (.obj g m s [e])) (hl : b6h (leaves e) v = true)
    (hc : decide (m ≠ 2 ∧ (leaves v).length = (tyS cx.P T).size ∧ 0 < (leaves v).length ∧ (leaves v).length ≤ (leaves e).length) = true) (hw : Y1 (leaves v) (leaves e) = true) (hp : putAt e 0 v = v) (hm : decide (m = 3) = true) (hi : N5 [v] = true)
    (h : XR cx keep ops0 r ((.h id, .obj g m s [v]) :: A) fun A' lg => Q A' ((rds a ++ (rds x ++ [.h id, .h id, .h id]), [.h id]) :: lg)) : XR cx keep ops0 (⟨none, .store T a x, ty, pos, aft, none⟩ :: r) A Q := by
  obtain ⟨h1, h2, h3, h4⟩ := of_decide_eq_true hc
  exact c2v ha hx ho hl ⟨h1, h2, h3, h4, hw⟩ hp (by rw [of_decide_eq_true hm]; exact K3 hi) h
theorem xA {α : Type} {f : α → AV} {xs ys : List α} {T T' E s id g n id2 g2 n2 : Nat} {x y : Operand} {z : AV} (hx : opd A x = some (.sl id g none 0 n)) (hy : opd A y = some (.sl id2 g2 none 0 n2)) (ho : Mv.look A (.h id) = some (.obj g 0 s (xs.map f))) (ho2 : Mv.look A (.h id2) = some (.obj g2 0 s (ys.map f)))
    (hn : n = (xs.map f).length) (hn2 : n2 = (ys.map f).length) (hd : (decide (1000000 ≤ id2) && !Loc.beq (.h id) (.h id2)) = true) (hT : P5 cx.P T = some (E, s)) (hT' : N3 (tyS cx.P T').k = true) (hz : Y6 cx.P E = some (z, s)) (hb : decide ((tyS cx.P E).bytes ≤ 4096) = true) (hf : ∀ a, ((leaves (f a)).all cellLeaf && L9 (f a)) = true)
    (hle : xs.length + ys.length ≤ 4294967296) (hk : ∀ g, slotOk keep (.t d) (.sl (tid d 0) g none 0 (xs ++ ys).length) = true)
    (h : ∀ g', XR cx keep ops0 r ((.t d, .sl (tid d 0) g' none 0 (xs ++ ys).length) :: (.h (tid d 0), .obj g' 0 s ((xs ++ ys).map f)) :: (.h id, .dead g) :: (.h id2, .dead g2) :: A) fun A' lg => Q A' ((rds x ++ (rds y ++ [.h id2, .h id, .h (tid d 0)]), [.h id2, .h id, .h (tid d 0), .t d]) :: lg)) :
    XR cx keep ops0 (⟨some d, .call ⟨.builtin .append, #[x, y], #[T, T']⟩, ty, pos, aft, none⟩ :: r) A Q := by
  simp only [Bool.and_eq_true, decide_eq_true_eq, Bool.not_eq_true'] at hd hf
  exact Q0 hx hy ho ho2 hn hn2 hd.1 hd.2 hT hT' hz (of_decide_eq_true hb) hf (Nat.le_trans hle (by decide)) hk h
theorem y_M {x : Operand} {v : AV} (e : (opd A x, slotOk keep (.t d) v) = (some v, true)) (h : XR cx keep ops0 r ((.t d, v) :: A) fun A' lg => Q A' ((rds x, [.t d]) :: lg)) : XR cx keep ops0 (⟨some d, .move x, ty, pos, aft, none⟩ :: r) A Q := by
  simp only [Prod.mk.injEq] at e
  exact e0u e.1 e.2 h
theorem y_S {x : Operand} {v : AV} (e : (opd A x, a2x v, slotOk keep (.t d) v) = (some v, true, true)) (h : XR cx keep ops0 r ((.t d, v) :: A) fun A' lg => Q A' ((rds x, [.t d]) :: lg)) : XR cx keep ops0 (⟨some d, .assign x, ty, pos, aft, none⟩ :: r) A Q := by
  simp only [Prod.mk.injEq] at e
  exact d5j e.1 e.2.1 e.2.2 h
theorem y_F {x : Operand} {S f o ft : Nat} {v v' : AV} (e : (opd A x, (match (tyS cx.P S).k with | .struct fs => fs[f]? | _ => none), decide ((tyS cx.P ft).size ≠ 0), (match v with | .ptr id g p i j => some (AV.ptr id g p i (j + o)) | .ipt e j => some (.ipt e (j + o)) | _ => none), slotOk keep (.t d) v') = (some v, some (o, ft), true, some v', true)) (h : XR cx keep ops0 r ((.t d, v') :: A) fun A' lg => Q A' ((rds x, [.t d]) :: lg)) : XR cx keep ops0 (⟨some d, .fieldAddr S x f, ty, pos, aft, none⟩ :: r) A Q := by
  simp only [Prod.mk.injEq] at e
  refine c6e e.1 e.2.1 (of_decide_eq_true e.2.2.1) ?_ e.2.2.2.2 h
  have e4 := e.2.2.2.1
  cases v <;> exact e4
theorem y_L {a : Operand} {T id g m s i j : Nat} {es : List AV} {e0 v : AV} (e : (opd A a, Mv.look A (.h id), es[i]?, ((leaves e0).all fun l => !isOwn l), partF cx.P T ((leaves e0).drop j), slotOk keep (.t d) v) = (some (.ptr id g none i j), some (.obj g m s es), some e0, true, some v, true)) (h : XR cx keep ops0 r ((.t d, v) :: A) fun A' lg => Q A' ((rds a ++ [.h id], [.t d]) :: lg)) : XR cx keep ops0 (⟨some d, .load T a, ty, pos, aft, none⟩ :: r) A Q := by
  simp only [Prod.mk.injEq] at e
  exact a6f e.1 e.2.1 e.2.2.1 e.2.2.2.1 e.2.2.2.2.1 e.2.2.2.2.2 h
theorem y_E {x : Operand} {i : Nat} {vs : List AV} {v : AV} (e : (opd A x, vs[i]?, slotOk keep (.t d) v) = (some (.tup vs), some v, true)) (h : XR cx keep ops0 r ((.t d, v) :: A) fun A' lg => Q A' ((rds x, [.t d]) :: lg)) : XR cx keep ops0 (⟨some d, .extract x i, ty, pos, aft, none⟩ :: r) A Q := by
  simp only [Prod.mk.injEq] at e
  exact d3k e.1 e.2.1 e.2.2 h
theorem y_B {a : Operand} {T id g m s : Nat} {v : AV} (e : (opd A a, Mv.look A (.h id), ((leaves v).all fun l => !isOwn l), partF cx.P T (leaves v), slotOk keep (.t d) v) = (some (.ptr id g none 0 0), some (.obj g m s [v]), true, some v, true)) (h : XR cx keep ops0 r ((.t d, v) :: A) fun A' lg => Q A' ((rds a ++ [.h id], [.t d]) :: lg)) : XR cx keep ops0 (⟨some d, .load T a, ty, pos, aft, none⟩ :: r) A Q := by
  simp only [Prod.mk.injEq] at e
  exact c5o e.1 e.2.1 e.2.2.1 e.2.2.2.1 e.2.2.2.2 h
theorem y_I {a : Operand} {T : Nat} {v : AV} (e : (opd A a, partF cx.P T (leaves v), slotOk keep (.t d) v) = (some (.ipt v 0), some v, true)) (h : XR cx keep ops0 r ((.t d, v) :: A) fun A' lg => Q A' ((rds a, [.t d]) :: lg)) : XR cx keep ops0 (⟨some d, .load T a, ty, pos, aft, none⟩ :: r) A Q := by
  simp only [Prod.mk.injEq] at e
  exact c6c e.1 e.2.1 e.2.2 h
theorem y_A {T s : Nat} {z : AV} (e : (Y6 cx.P T, N5 [z], slotOk keep (.t d) (.ptr d 0 none 0 0)) = (some (z, s), true, true)) (hk : ∀ g, slotOk keep (.t d) (.ptr d g none 0 0) = true)
    (h : ∀ g, XR cx keep ops0 r ((.t d, .ptr d g none 0 0) :: (.h d, .obj g 3 s [z]) :: A) fun A' lg => Q A' (([.h d], [.h d, .t d]) :: lg)) : XR cx keep ops0 (⟨some d, .alloc T, ty, pos, aft, none⟩ :: r) A Q := by
  simp only [Prod.mk.injEq] at e
  exact d8p e.1 (fun _ => K3 e.2.1) hk h
end
theorem SL : (∀ {α β : Type} {av : List α} (f : α → β), (av.map f).length = av.length) ∧ (((∀ {p : Prop} [Decidable p], (decide p = true) = p) ∧ (∀ {p : Prop} {_ : Decidable p}, decide p = false ↔ ¬p) ∧ (∀ (b : Bool), ((!b) = true) = (b = false)) ∧ (∀ (b : Bool), ((!b) = false) = (b = true)) ∧ (∀ {α : Type} [BEq α] [LawfulBEq α] {a b : α}, (a != b) = true ↔ a ≠ b) ∧
    (∀ {α : Type} [BEq α] [LawfulBEq α] {a b : α}, (a == b) = true ↔ a = b) ∧ (∀ {α : Type} (a b : α), (a ≠ b) = ¬a = b) ∧ (!true) = false ∧ (!false) = true ∧ (∀ {α : Type} [BEq α] [LawfulBEq α] {a b : α}, (a == b) = false ↔ a ≠ b) ∧ (∀ {α : Type} [BEq α] [LawfulBEq α] {a b : α}, (a != b) = false ↔ a = b) ∧
    (∀ {p : Prop} [Decidable p], ¬¬p ↔ p) ∧ (∀ {a b : Int}, ¬a < b ↔ b ≤ a) ∧ (∀ {a b : Int}, ¬a ≤ b ↔ b < a)) ∧
    (∀ (a b : Bool), ((a && b) = true) = (a = true ∧ b = true)) ∧ (∀ {x y : Bool}, (x && y) = false ↔ x = false ∨ y = false) ∧ (∀ (a b : Bool), ((a || b) = true) = (a = true ∨ b = true)) ∧ (∀ {x y : Bool}, (x || y) = false ↔ x = false ∧ y = false)) := ⟨@List.length_map.{0, 0}, SG⟩
theorem LN : (∀ {α : Type}, ([] : List α).length = 0) ∧ (∀ {α : Type} {a : α} {l : List α}, (a :: l).length = l.length + 1) ∧ (∀ {α : Type} {a b : List α}, (a ++ b).length = a.length + b.length) ∧ (∀ n : Nat, 0 + n = n) ∧ (∀ {α β : Type} {l : List α} (f : α → β), (l.map f).length = l.length) := ⟨rfl, rfl, List.length_append, Nat.zero_add, List.length_map.{0, 0}⟩
theorem dT {p : Prop} [Decidable p] (h : decide p = true) : p := of_decide_eq_true h

def mdT : List (Nat × List Nat) := [(10, [3, 3, 3, 3]), (11, [3, 3, 3, 3]), (15, [3, 3, 3, 3]), (17, [3, 3, 3, 3]), (18, [3, 3, 3, 3]), (20, [3, 3, 3, 3]), (21, [3, 3, 3, 3]), (22, [3, 3, 3, 3]), (23, [3, 3, 3, 3]), (24, [3, 3, 3, 3]), (25, [3, 3, 3, 3]), (29, [3, 3, 3, 3]), (31, [3, 3, 3, 3]), (32, [3, 3, 3, 3]), (33, [3, 3, 3, 3]), (35, [3, 3, 3, 3]), (40, [2]), (46, [3, 3, 3, 3]), (64, [3, 3, 3, 3]), (71, [1]), (72, [1]), (75, [2])]
noncomputable def e0p : List (Nat × (List AV → Option (AV × List (List AV)))) := [(34, b7o), (39, c0z), (70, a9o), (71, b3q), (79, b4a), (86, c1a), (87, c2k), (88, c1o)]
variable {oG : Option Nat} {rG : Nat}
noncomputable def cxT (oG : Option Nat) : Cx := { P := Tryz.prog, md := e2e mdT, ext := d1p e0p, it := fun _ => none, fz := fun k => [15, 17, 18, 24, 25, 29, 31, 32, 35, 64].contains k, fzB := fun T d => [(32, 58), (78, 57), (78, 26)].contains (T, d), gl := fun g => match oG with | some r => if g = 0 then some (.val (.map (some r))) else none | none => none, mp := fun k => match oG with | some r => if k = r then some goneTb else none | none => none }
noncomputable def cxE : Cx := { P := Tryz.prog, md := e2e mdT, ext := fun _ => none, fz := fun k => [15, 17, 18, 24, 25, 29, 31, 32, 35, 64].contains k }
theorem c0x (l : List UInt8) (b : UInt8) (hl : l.length < 4294967281) : CW (cxT oG) 34 [tV l, tV [b]] = some (.own 1 ((splitB b l).map tV), []) := a4n (cxT oG) rfl (by show (if l.length < 4294967281 then some ((AV.own 1 ((splitB b l).map tV), []) : AV × List (List AV)) else none) = _; rw [if_pos hl])
theorem d6j (ps : List (List UInt8)) (b : UInt8) (h1 : ps.length ≤ G9) (h2 : (joinB b ps).length ≤ G9) : CW (cxT oG) 39 [.list (ps.map tV), tV [b]] = some (tV (joinB b ps), []) := a4n (cxT oG) rfl (by show ((unT (ps.map tV)).bind fun ps => if ps.length ≤ G9 ∧ (joinB b ps).length ≤ G9 then some ((tV (joinB b ps), []) : AV × List (List AV)) else none) = _; rw [d9q, Option.bind_some, if_pos ⟨h1, h2⟩])
theorem d1k (xs : List Int) (hl : xs.length ≤ G9) : CW (cxT oG) 70 [.list (xs.map iV)] = some (.own 1 (xs.map iV), []) := a4n (cxT oG) rfl (by simp [a9o, d1e, hl])
theorem e1g (xs : List Int) (hl : xs.length ≤ G9) : CW (cxT oG) 71 [.own 1 (xs.map iV)] = some (.tup [], [(a0u xs).map iV]) := a4n (cxT oG) rfl (by simp [b3q, d1e, hl])
theorem e0v (n : Int) (h : -9223372036854775808 ≤ n ∧ n ≤ 9223372036854775807) : CW (cxT oG) 79 [iV n] = some (tV (dec n), []) := a4n (cxT oG) rfl (by simp [b4a, h])
theorem e1k (l : List UInt8) (b : UInt8) : CW (cxT oG) 86 [tV l, tV [b]] = some (.tup [tV (a4l b l), bV (decide (l.head? = some b))], []) := a4n (cxT oG) rfl rfl
theorem e1s (l : List UInt8) (b : UInt8) (hl : l.length < 4294967281) : CW (cxT oG) 87 [tV l, tV [b]] = some (.tup [tV (b8m b l), bV (decide (l.getLast? = some b))], []) := a4n (cxT oG) rfl (by show (if l.length < 4294967281 then some ((AV.tup [tV (b8m b l), bV (decide (l.getLast? = some b))], []) : AV × List (List AV)) else none) = _; rw [if_pos hl])
theorem d0j (l : List UInt8) (hl : l.length < 4294967281) : CW (cxT oG) 88 [tV l] = some (atR l, []) := a4n (cxT oG) rfl (by show (if l.length < 4294967281 then some ((atR l, []) : AV × List (List AV)) else none) = _; rw [if_pos hl])

theorem b4f : F4 Tryz.f63 = [0, 1, 2, 6] := by kernel_rfl
theorem c0l (n lo hi : Int) : CW (cxT oG) 63 [iV n, iV lo, iV hi] = some (bV (decide (lo ≤ n) && decide (n ≤ hi)), []) := by
 refine E5 rfl Tryz.func63 rfl ⟨by kernel_rfl, rfl, dT rfl, dT rfl, by decide⟩ b4f <| A3 <| A0 <| y_S rfl <| xN [0,1,2] [] rfl <| A3 <| A0 <| y_M rfl <| y_M rfl <| a7i rfl rfl <| y_M rfl ?_
 refine C6 rfl rfl ?_ ?_ <;> intro hg0 <;> have hg := hg0 <;> try simp only [SG] at hg
 ·refine y_M rfl <| gT rfl rfl <| y_M rfl <| gT rfl rfl <| a7i rfl rfl <| F0 rfl (by assumption) rfl rfl <| y_S rfl <| xN [6] [] rfl <| A8 <| C2 rfl rfl trivial ?_
  simp_all [ofConst]; try omega
 refine gF rfl rfl <| gF rfl rfl <| F3 rfl (by assumption) rfl rfl <| y_S rfl <| xN [6] [] rfl <| A8 <| C2 rfl rfl trivial ?_
 simp_all [ofConst]; try omega

theorem d2w : F4 Tryz.f78 = [0, 1, 2, 6] := by kernel_rfl
theorem e2k (n lo hi : Int) : CW (cxT oG) 78 [iV n, iV lo, iV hi] = some (bV (decide (lo ≤ n) && decide (n ≤ hi)), []) := by
 refine E5 rfl Tryz.func78 rfl ⟨by kernel_rfl, rfl, dT rfl, dT rfl, by decide⟩ d2w <| A3 <| A0 <| y_S rfl <| xN [0,1,2] [] rfl <| A3 <| A0 <| y_M rfl <| y_M rfl <| d2b rfl rfl <| y_M rfl ?_
 refine C6 rfl rfl ?_ ?_ <;> intro hg0 <;> have hg := hg0 <;> try simp only [SG] at hg
 ·refine y_M rfl <| gT rfl rfl <| y_M rfl <| gT rfl rfl <| a7i rfl rfl <| F0 rfl (by assumption) rfl rfl <| y_S rfl <| xN [6] [] rfl <| A8 <| C2 rfl rfl trivial ?_
  simp_all [ofConst]; try omega
 refine gF rfl rfl <| gF rfl rfl <| F3 rfl (by assumption) rfl rfl <| y_S rfl <| xN [6] [] rfl <| A8 <| C2 rfl rfl trivial ?_
 simp_all [ofConst]; try omega

theorem a9y : F4 Tryz.f91 = [0, 1, 4, 8, 7, 9, 5, 16] := by kernel_rfl
theorem c1j (xs : List Int) (hl : xs.length ≤ 1000) (k : Nat) (a b : AV) (q : Int → Bool) (hq : ∀ x, CW (cxT oG) k [iV x, .ipt a 0, .ipt b 0] = some (bV (q x), [])) : ∃ res outs, (fun res outs => ∃ r : Int, res = iV r ∧ outs = [] ∧ decide (0 ≤ r) = xs.any q) res outs ∧ CW (cxT oG) 91 [L xs, .clo k [.ipt a 0, .ipt b 0]] = some (res, outs) := by
 refine Q8 rfl Tryz.func91 rfl ⟨by kernel_rfl, rfl, dT rfl, dT rfl, by decide⟩ a9y <| A3 <| A0 <| y_S rfl <| xN [0,1] [] rfl <| A3 <| A3 <| A0 <| y_M rfl <| B9 rfl rfl <| y_M rfl <| xN [0,1,7,8] [] rfl <| B0 <| E8 (β := Nat) [(.t 0, _), (.t 1, _), (.t 7, _)] (fun (i : Nat) => [(.t 8, iV i)]) (fun (i : Nat) => i ≤ xs.length ∧ ∀ j, j < i → q (xs.getD j default) = false) (fun (i : Nat) => xs.length - i) 0 ⟨rfl, rfl, rfl, rfl, trivial⟩ ⟨Nat.zero_le _, fun j h => by omega⟩ ?_
 intro i hb
 obtain ⟨hi1, hi2⟩ := hb
 refine A3 <| A0 <| F8 rfl rfl <| xN [0,1,7,8,9] [] rfl <| A3 ?_
 refine A5 rfl ?_ ?_ <;> intro hc <;> try simp only [SL] at hc
 ·refine A7 <| A3 <| B0 <| A3 <| A0 <| y_M rfl <| y_S rfl <| xN [0,1,5,7,8] [] rfl <| A3 <| A0 <| y_M rfl <| y_M rfl <| y_M rfl <| B8 rfl rfl rfl (fun _ => rfl) (by omega) <| y_I rfl ?_
  apply e0e rfl rfl
  ·apply A9
   ·exact B7 rfl
   apply A9
   ·exact B7 rfl
   apply A9
   ·exact B7 rfl
   exact C5
  ·exact hq (xs.getD i default)
  ·exact ⟨rfl, rfl, rfl, dT rfl, rfl⟩
  ·exact .inl rfl
  ·exact B3
  ·exact C9 rfl
  ·exact fun _ => rfl
  intro g16
  refine xN [0,1,5,7,8,16] [] rfl ?_
  refine A5 rfl ?_ ?_ <;> intro hc <;> try simp only [SL] at hc
  ·refine A3 <| A0 <| y_M rfl <| y_S rfl <| xN [4] [] rfl <| A8 ?_
   refine ⟨_, _, ?_, K2 rfl rfl B5⟩
   exact ⟨_, rfl, rfl, d8n (by omega) hc⟩
  refine A7 <| A0 <| E4 rfl rfl (C3 (by omega)) <| y_M rfl <| xN [0,1,7,8] [] rfl ?_
  refine ⟨i + 1, ⟨by omega, fun a ha => by rcases Nat.lt_succ_iff_lt_or_eq.1 ha with h | h; exact hi2 a h; subst h; exact hc⟩, (by omega), ⟨rfl, rfl, rfl, rfl, trivial⟩⟩
 refine E3 <| A3 <| A0 <| y_S rfl <| xN [4] [] rfl <| A8 ?_
 refine ⟨_, _, ?_, K2 rfl rfl B5⟩
 exact ⟨-1, rfl, rfl, d8g fun j hj => hi2 j (by omega)⟩

theorem a4o : F4 Tryz.f76 = [0, 1, 4] := by kernel_rfl
theorem b3e (xs : List Int) (hl : xs.length ≤ 1000) (k : Nat) (a b : AV) (q : Int → Bool) (hq : ∀ x, CW (cxT oG) k [iV x, .ipt a 0, .ipt b 0] = some (bV (q x), [])) : CW (cxT oG) 76 [L xs, .clo k [.ipt a 0, .ipt b 0]] = some (bV (xs.any q), []) := by
 obtain ⟨_, _, ⟨r, rfl, rfl, hr⟩, hC⟩ := c1j (oG := oG) xs hl k a b q hq
 refine E5 rfl Tryz.func76 rfl ⟨by kernel_rfl, rfl, dT rfl, dT rfl, by decide⟩ a4o <| A3 <| A0 <| y_S rfl <| xN [0,1] [] rfl <| A3 <| A0 <| y_M rfl <| y_M rfl ?_
 apply xC rfl
 ·apply A9
  ·exact B7 rfl
  apply A9
  ·exact d7u rfl (d6q (d6q d7q))
  exact C5
 ·exact hC
 refine ⟨⟨rfl, rfl, rfl, dT rfl, rfl⟩, .inl rfl, B3, C9 rfl, fun _ => rfl, fun g7 => ?_⟩
 refine d2b rfl rfl <| y_S rfl <| xN [4] [] rfl <| A8 <| C2 rfl rfl trivial ?_
 rw [← hr]

theorem b8x : F4 Tryz.f77 = [0, 1, 2, 4] := by kernel_rfl
theorem d7h (x lo hi : Int) : CW (cxT oG) 77 [iV x, .ipt (iV lo) 0, .ipt (iV hi) 0] = some (bV (!(decide (lo ≤ x) && decide (x ≤ hi))), []) := by
 refine E5 rfl Tryz.func77 rfl ⟨by kernel_rfl, rfl, dT rfl, dT rfl, by decide⟩ b8x <| A3 <| A0 <| y_S rfl <| xN [0,1,2] [] rfl <| A3 <| A0 <| y_M rfl <| y_I rfl <| y_I rfl ?_
 refine xC3 rfl rfl rfl rfl (e2k _ _ _) ⟨rfl, rfl, rfl⟩ rfl rfl fun g8 => ?_
 refine J0 rfl <| y_S rfl <| xN [4] [] rfl <| A8 <| C2 rfl rfl trivial ?_
 rfl

theorem c1x : F4 Tryz.f52 = [0, 1, 2, 6, 4, 5] := by kernel_rfl
theorem d0q (xs : List Int) (hl : xs.length ≤ 1000) (lo hi : Int) : CW (cxT oG) 52 [L xs, iV lo, iV hi] = some (bV (b0h lo hi xs), []) := by
 refine E5 rfl Tryz.func52 rfl ⟨by kernel_rfl, rfl, dT rfl, dT rfl, by decide⟩ c1x <| A3 <| A0 <| a0k rfl rfl rfl (fun _ => K3 rfl) (fun _ => rfl) ?_
 intro g4
 refine a0k rfl rfl rfl (fun _ => K3 rfl) (fun _ => rfl) ?_
 intro g5
 refine y_S rfl <| xN [0,4,5] [4,5] rfl <| A3 <| A0 <| y_M rfl <| c9f rfl rfl ?_
 apply xC rfl
 ·apply A9
  ·exact B7 rfl
  apply A9
  ·exact d7u rfl (d7f rfl rfl (d7f rfl rfl d7q))
  exact C5
 ·exact b3e xs hl 77 (iV lo) (iV hi) _ (fun x => d7h x lo hi)
 refine ⟨⟨rfl, rfl, rfl, dT rfl, rfl⟩, .inr ⟨rfl, rfl⟩, B3, C9 rfl, fun _ => rfl, fun g9 => ?_⟩
 refine J0 rfl <| y_S rfl <| xN [6] [] rfl <| A8 <| C2 rfl rfl trivial ?_
 exact congrArg bV (d6g lo hi xs)

theorem b1a : F4 Tryz.f45 = [0, 2, 3, 7, 15] := by kernel_rfl
theorem a6h (xs : List Int) (hl : xs.length ≤ 1048576) : CW (cxT oG) 45 [L xs] = some (bV (vd xs), []) := by
 refine E5 rfl Tryz.func45 rfl ⟨by kernel_rfl, rfl, dT rfl, dT rfl, by decide⟩ b1a <| A3 <| A0 <| y_S rfl <| xN [0] [] rfl <| A3 <| A3 <| A0 <| y_S rfl <| xN [0,3] [] rfl <| B0 <| E8 (β := Nat) [(.t 0, _)] (fun (i : Nat) => [(.t 3, iV i)]) (fun (i : Nat) => i ≤ xs.length ∧ ∀ j, j < i → -200 ≤ xs.getD j default ∧ xs.getD j default ≤ 200) (fun (i : Nat) => xs.length - i) 0 ⟨rfl, rfl, trivial⟩ ⟨Nat.zero_le _, fun j h => by omega⟩ ?_
 intro i hb
 obtain ⟨hi1, hi2⟩ := hb
 refine A3 <| A3 <| A0 <| y_M rfl <| y_M rfl <| B9 rfl rfl <| F8 rfl rfl <| xN [0,3,7] [] rfl ?_
 refine A5 rfl ?_ ?_ <;> intro hc <;> try simp only [SL] at hc
 ·refine A7 <| A3 <| B0 <| A3 <| A0 <| y_M rfl <| y_M rfl <| B8 rfl rfl rfl (fun _ => rfl) (by omega) <| y_I rfl ?_
  refine xC3 rfl rfl rfl rfl (c0l _ _ _) ⟨rfl, rfl, rfl⟩ rfl rfl fun g14 => ?_
  refine J0 rfl <| xN [0,3,15] [] rfl ?_
  refine A5 rfl ?_ ?_ <;> intro hc <;> try simp only [SL] at hc
  ·refine A3 <| A0 <| y_S rfl <| xN [2] [] rfl <| A8 <| C2 rfl rfl trivial ?_
   rw [vd, c3p (show i < xs.length by omega) (by (simp_all; omega)), Bool.and_false]
   rfl
  refine A7 <| A0 <| y_M rfl <| E4 rfl rfl (C3 (by omega)) <| y_S rfl <| xN [0,3] [] rfl ?_
  refine ⟨i + 1, ⟨by omega, fun j hj => by rcases Nat.lt_succ_iff_lt_or_eq.1 hj with h | h; (· exact hi2 j h); (· subst h; assumption)⟩, (by omega), ⟨rfl, rfl, trivial⟩⟩
 refine E3 <| A3 <| A0 <| y_M rfl <| B9 rfl rfl <| a7i rfl rfl <| y_S rfl <| xN [2] [] rfl <| A8 <| C2 rfl rfl trivial ?_
 rw [vd, d0y fun j hj => hi2 j (by omega), Bool.and_true]
 exact congrArg bV (decide_eq_decide.2 (by omega))

theorem a9k : F4 Tryz.f37 = [0, 2] := by kernel_rfl
theorem a0z (xs : List Int) (hl : xs.length ≤ 1048576) : CW (cxT oG) 37 [L xs] = some (bV (vd xs), []) := by
 refine E5 rfl Tryz.func37 rfl ⟨by kernel_rfl, rfl, dT rfl, dT rfl, by decide⟩ a9k <| A3 <| A0 <| y_S rfl <| xN [0] [] rfl <| A3 <| A0 <| y_M rfl <| B9 rfl rfl <| a7i rfl rfl <| y_M rfl ?_
 refine C6 rfl rfl ?_ ?_ <;> intro hg0 <;> have hg := hg0 <;> try simp only [SG] at hg
 ·refine y_M rfl <| gT rfl rfl ?_
  refine xC3 rfl rfl rfl rfl (d0q xs (by omega) (-200) 200) ⟨rfl, rfl, rfl⟩ rfl rfl fun g8 => ?_
  refine F0 rfl (by assumption) rfl rfl <| y_S rfl <| xN [2] [] rfl <| A8 <| C2 rfl rfl trivial ?_
  cases hb : b0h (-200) 200 xs <;> simp_all [vd, ofConst] <;> omega
 refine gF rfl rfl <| F3 rfl (by assumption) rfl rfl <| y_S rfl <| xN [2] [] rfl <| A8 <| C2 rfl rfl trivial ?_
 cases hb : b0h (-200) 200 xs <;> simp_all [vd, ofConst] <;> omega

theorem c2n : F4 Tryz.f49 = [0, 2, 3, 4, 10, 19] := by kernel_rfl
theorem a9m (w : ByteArray) : CW (cxT oG) 49 [sV w] = some (iV (nd w), []) := by
 refine E5 rfl Tryz.func49 rfl ⟨by kernel_rfl, rfl, dT rfl, dT rfl, by decide⟩ c2n <| A3 <| A0 <| y_S rfl <| xN [0] [] rfl <| A3 <| A3 <| A0 <| y_M rfl <| xN [3] [] rfl <| B0 <| A3 <| A3 <| A0 <| I3 rfl rfl <| y_S rfl <| xN [3,4] [] rfl ?_
 refine A5 rfl ?_ ?_ <;> intro hc <;> try simp only [SL] at hc
 ·refine A7 ?_
  refine A5 rfl (fun hc => ?_) (fun hc => absurd hc (by simp_all))
  refine A3 <| A0 <| y_S rfl <| xN [2] [] rfl <| A8 <| C2 rfl rfl trivial <| congrArg iV ?_
  simp_all [nd]
 refine A3 <| A0 <| I3 rfl rfl <| y_S rfl <| xN [3,4] [] rfl ?_
 refine A5 rfl ?_ ?_ <;> intro hc <;> try simp only [SL] at hc
 ·refine A7 ?_
  refine A5 rfl (fun hc => ?_) (fun hc => absurd hc (by simp_all))
  refine A3 <| A0 <| y_S rfl <| xN [2] [] rfl <| A8 <| C2 rfl rfl trivial <| congrArg iV ?_
  simp_all [nd]
 refine A3 <| A0 <| I3 rfl rfl <| y_S rfl <| xN [3,4] [] rfl ?_
 refine A5 rfl ?_ ?_ <;> intro hc <;> try simp only [SL] at hc
 ·refine A7 ?_
  refine A5 rfl (fun hc => ?_) (fun hc => absurd hc (by simp_all))
  refine A3 <| A0 <| y_S rfl <| xN [2] [] rfl <| A8 <| C2 rfl rfl trivial <| congrArg iV ?_
  simp_all [nd]
 refine A3 <| A0 <| I3 rfl rfl <| y_S rfl <| xN [3,4] [] rfl ?_
 refine A5 rfl ?_ ?_ <;> intro hc <;> try simp only [SL] at hc
 ·refine A7 ?_
  refine A5 rfl (fun hc => ?_) (fun hc => absurd hc (by simp_all))
  refine A3 <| A0 <| y_S rfl <| xN [2] [] rfl <| A8 <| C2 rfl rfl trivial <| congrArg iV ?_
  simp_all [nd]
 refine A0 <| I3 rfl rfl <| y_S rfl <| xN [3,4] [] rfl ?_
 refine A5 rfl ?_ ?_ <;> intro hc <;> try simp only [SL] at hc
 ·refine A3 <| A0 <| y_S rfl <| xN [2] [] rfl <| A8 <| C2 rfl rfl trivial <| congrArg iV ?_
  simp_all [nd]
 refine A3 <| A3 <| A0 <| I3 rfl rfl <| y_S rfl <| xN [3,10] [] rfl ?_
 refine A5 rfl ?_ ?_ <;> intro hc <;> try simp only [SL] at hc
 ·refine A7 ?_
  refine A5 rfl (fun hc => ?_) (fun hc => absurd hc (by simp_all))
  refine A3 <| A0 <| y_S rfl <| xN [2] [] rfl <| A8 <| C2 rfl rfl trivial <| congrArg iV ?_
  simp_all [nd]
 refine A3 <| A0 <| I3 rfl rfl <| y_S rfl <| xN [3,10] [] rfl ?_
 refine A5 rfl ?_ ?_ <;> intro hc <;> try simp only [SL] at hc
 ·refine A7 ?_
  refine A5 rfl (fun hc => ?_) (fun hc => absurd hc (by simp_all))
  refine A3 <| A0 <| y_S rfl <| xN [2] [] rfl <| A8 <| C2 rfl rfl trivial <| congrArg iV ?_
  simp_all [nd]
 refine A3 <| A0 <| I3 rfl rfl <| y_S rfl <| xN [3,10] [] rfl ?_
 refine A5 rfl ?_ ?_ <;> intro hc <;> try simp only [SL] at hc
 ·refine A7 ?_
  refine A5 rfl (fun hc => ?_) (fun hc => absurd hc (by simp_all))
  refine A3 <| A0 <| y_S rfl <| xN [2] [] rfl <| A8 <| C2 rfl rfl trivial <| congrArg iV ?_
  simp_all [nd]
 refine A3 <| A0 <| I3 rfl rfl <| y_S rfl <| xN [3,10] [] rfl ?_
 refine A5 rfl ?_ ?_ <;> intro hc <;> try simp only [SL] at hc
 ·refine A7 ?_
  refine A5 rfl (fun hc => ?_) (fun hc => absurd hc (by simp_all))
  refine A3 <| A0 <| y_S rfl <| xN [2] [] rfl <| A8 <| C2 rfl rfl trivial <| congrArg iV ?_
  simp_all [nd]
 refine A3 <| A0 <| I3 rfl rfl <| y_S rfl <| xN [3,10] [] rfl ?_
 refine A5 rfl ?_ ?_ <;> intro hc <;> try simp only [SL] at hc
 ·refine A7 ?_
  refine A5 rfl (fun hc => ?_) (fun hc => absurd hc (by simp_all))
  refine A3 <| A0 <| y_S rfl <| xN [2] [] rfl <| A8 <| C2 rfl rfl trivial <| congrArg iV ?_
  simp_all [nd]
 refine A3 <| A0 <| I3 rfl rfl <| y_S rfl <| xN [3,10] [] rfl ?_
 refine A5 rfl ?_ ?_ <;> intro hc <;> try simp only [SL] at hc
 ·refine A7 ?_
  refine A5 rfl (fun hc => ?_) (fun hc => absurd hc (by simp_all))
  refine A3 <| A0 <| y_S rfl <| xN [2] [] rfl <| A8 <| C2 rfl rfl trivial <| congrArg iV ?_
  simp_all [nd]
 refine A3 <| A0 <| I3 rfl rfl <| y_S rfl <| xN [3,10] [] rfl ?_
 refine A5 rfl ?_ ?_ <;> intro hc <;> try simp only [SL] at hc
 ·refine A7 ?_
  refine A5 rfl (fun hc => ?_) (fun hc => absurd hc (by simp_all))
  refine A3 <| A0 <| y_S rfl <| xN [2] [] rfl <| A8 <| C2 rfl rfl trivial <| congrArg iV ?_
  simp_all [nd]
 refine A0 <| I3 rfl rfl <| y_S rfl <| xN [3,10] [] rfl ?_
 refine A5 rfl ?_ ?_ <;> intro hc <;> try simp only [SL] at hc
 ·refine A3 <| A0 <| y_S rfl <| xN [2] [] rfl <| A8 <| C2 rfl rfl trivial <| congrArg iV ?_
  simp_all [nd]
 refine A3 <| A3 <| A0 <| I3 rfl rfl <| y_S rfl <| xN [3,19] [] rfl ?_
 refine A5 rfl ?_ ?_ <;> intro hc <;> try simp only [SL] at hc
 ·refine A7 ?_
  refine A5 rfl (fun hc => ?_) (fun hc => absurd hc (by simp_all))
  refine A3 <| A0 <| y_S rfl <| xN [2] [] rfl <| A8 <| C2 rfl rfl trivial <| congrArg iV ?_
  simp_all [nd]
 refine A0 <| I3 rfl rfl <| y_S rfl <| xN [19] [] rfl ?_
 refine A5 rfl ?_ ?_ <;> intro hc <;> try simp only [SL] at hc
 ·refine A3 <| A0 <| y_S rfl <| xN [2] [] rfl <| A8 <| C2 rfl rfl trivial <| congrArg iV ?_
  simp_all [nd]
 refine A7 <| A3 <| A0 <| y_S rfl <| xN [2] [] rfl <| A8 <| C2 rfl rfl trivial <| congrArg iV ?_
 simp_all [nd]

theorem b4r : F4 Tryz.f42 = [0, 2, 3, 4, 13, 16] := by kernel_rfl
theorem d2r (w : ByteArray) : CW (cxT oG) 42 [sV w] = some (iV (rch w), []) := by
 refine E5 rfl Tryz.func42 rfl ⟨by kernel_rfl, rfl, dT rfl, dT rfl, by decide⟩ b4r <| A3 <| A0 <| y_S rfl <| xN [0] [] rfl <| A3 <| A3 <| A0 <| y_M rfl <| xN [3] [] rfl <| B0 <| A3 <| A3 <| A0 <| I3 rfl rfl <| y_S rfl <| xN [3,4] [] rfl ?_
 refine A5 rfl ?_ ?_ <;> intro hc <;> try simp only [SL] at hc
 ·refine A7 ?_
  refine A5 rfl (fun hc => ?_) (fun hc => absurd hc (by simp_all))
  refine A3 <| A0 <| y_S rfl <| xN [2] [] rfl <| A8 <| C2 rfl rfl trivial <| congrArg iV ?_
  simp_all [rch]
 refine A3 <| A0 <| I3 rfl rfl <| y_S rfl <| xN [3,4] [] rfl ?_
 refine A5 rfl ?_ ?_ <;> intro hc <;> try simp only [SL] at hc
 ·refine A7 ?_
  refine A5 rfl (fun hc => ?_) (fun hc => absurd hc (by simp_all))
  refine A3 <| A0 <| y_S rfl <| xN [2] [] rfl <| A8 <| C2 rfl rfl trivial <| congrArg iV ?_
  simp_all [rch]
 refine A3 <| A0 <| I3 rfl rfl <| y_S rfl <| xN [3,4] [] rfl ?_
 refine A5 rfl ?_ ?_ <;> intro hc <;> try simp only [SL] at hc
 ·refine A7 ?_
  refine A5 rfl (fun hc => ?_) (fun hc => absurd hc (by simp_all))
  refine A3 <| A0 <| y_S rfl <| xN [2] [] rfl <| A8 <| C2 rfl rfl trivial <| congrArg iV ?_
  simp_all [rch]
 refine A3 <| A0 <| I3 rfl rfl <| y_S rfl <| xN [3,4] [] rfl ?_
 refine A5 rfl ?_ ?_ <;> intro hc <;> try simp only [SL] at hc
 ·refine A7 ?_
  refine A5 rfl (fun hc => ?_) (fun hc => absurd hc (by simp_all))
  refine A3 <| A0 <| y_S rfl <| xN [2] [] rfl <| A8 <| C2 rfl rfl trivial <| congrArg iV ?_
  simp_all [rch]
 refine A3 <| A0 <| I3 rfl rfl <| y_S rfl <| xN [3,4] [] rfl ?_
 refine A5 rfl ?_ ?_ <;> intro hc <;> try simp only [SL] at hc
 ·refine A7 ?_
  refine A5 rfl (fun hc => ?_) (fun hc => absurd hc (by simp_all))
  refine A3 <| A0 <| y_S rfl <| xN [2] [] rfl <| A8 <| C2 rfl rfl trivial <| congrArg iV ?_
  simp_all [rch]
 refine A3 <| A0 <| I3 rfl rfl <| y_S rfl <| xN [3,4] [] rfl ?_
 refine A5 rfl ?_ ?_ <;> intro hc <;> try simp only [SL] at hc
 ·refine A7 ?_
  refine A5 rfl (fun hc => ?_) (fun hc => absurd hc (by simp_all))
  refine A3 <| A0 <| y_S rfl <| xN [2] [] rfl <| A8 <| C2 rfl rfl trivial <| congrArg iV ?_
  simp_all [rch]
 refine A3 <| A0 <| I3 rfl rfl <| y_S rfl <| xN [3,4] [] rfl ?_
 refine A5 rfl ?_ ?_ <;> intro hc <;> try simp only [SL] at hc
 ·refine A7 ?_
  refine A5 rfl (fun hc => ?_) (fun hc => absurd hc (by simp_all))
  refine A3 <| A0 <| y_S rfl <| xN [2] [] rfl <| A8 <| C2 rfl rfl trivial <| congrArg iV ?_
  simp_all [rch]
 refine A0 <| I3 rfl rfl <| y_S rfl <| xN [3,4] [] rfl ?_
 refine A5 rfl ?_ ?_ <;> intro hc <;> try simp only [SL] at hc
 ·refine A3 <| A0 <| y_S rfl <| xN [2] [] rfl <| A8 <| C2 rfl rfl trivial <| congrArg iV ?_
  simp_all [rch]
 refine A3 <| A3 <| A0 <| I3 rfl rfl <| y_S rfl <| xN [3,13] [] rfl ?_
 refine A5 rfl ?_ ?_ <;> intro hc <;> try simp only [SL] at hc
 ·refine A7 ?_
  refine A5 rfl (fun hc => ?_) (fun hc => absurd hc (by simp_all))
  refine A3 <| A0 <| y_S rfl <| xN [2] [] rfl <| A8 <| C2 rfl rfl trivial <| congrArg iV ?_
  simp_all [rch]
 refine A0 <| I3 rfl rfl <| y_S rfl <| xN [3,13] [] rfl ?_
 refine A5 rfl ?_ ?_ <;> intro hc <;> try simp only [SL] at hc
 ·refine A3 <| A0 <| y_S rfl <| xN [2] [] rfl <| A8 <| C2 rfl rfl trivial <| congrArg iV ?_
  simp_all [rch]
 refine A3 <| A3 <| A0 <| I3 rfl rfl <| y_S rfl <| xN [3,16] [] rfl ?_
 refine A5 rfl ?_ ?_ <;> intro hc <;> try simp only [SL] at hc
 ·refine A7 ?_
  refine A5 rfl (fun hc => ?_) (fun hc => absurd hc (by simp_all))
  refine A3 <| A0 <| y_S rfl <| xN [2] [] rfl <| A8 <| C2 rfl rfl trivial <| congrArg iV ?_
  simp_all [rch]
 refine A3 <| A0 <| I3 rfl rfl <| y_S rfl <| xN [3,16] [] rfl ?_
 refine A5 rfl ?_ ?_ <;> intro hc <;> try simp only [SL] at hc
 ·refine A7 ?_
  refine A5 rfl (fun hc => ?_) (fun hc => absurd hc (by simp_all))
  refine A3 <| A0 <| y_S rfl <| xN [2] [] rfl <| A8 <| C2 rfl rfl trivial <| congrArg iV ?_
  simp_all [rch]
 refine A3 <| A0 <| I3 rfl rfl <| y_S rfl <| xN [3,16] [] rfl ?_
 refine A5 rfl ?_ ?_ <;> intro hc <;> try simp only [SL] at hc
 ·refine A7 ?_
  refine A5 rfl (fun hc => ?_) (fun hc => absurd hc (by simp_all))
  refine A3 <| A0 <| y_S rfl <| xN [2] [] rfl <| A8 <| C2 rfl rfl trivial <| congrArg iV ?_
  simp_all [rch]
 refine A0 <| I3 rfl rfl <| y_S rfl <| xN [16] [] rfl ?_
 refine A5 rfl ?_ ?_ <;> intro hc <;> try simp only [SL] at hc
 ·refine A3 <| A0 <| y_S rfl <| xN [2] [] rfl <| A8 <| C2 rfl rfl trivial <| congrArg iV ?_
  simp_all [rch]
 refine A7 <| A3 <| A0 <| y_S rfl <| xN [2] [] rfl <| A8 <| C2 rfl rfl trivial <| congrArg iV ?_
 simp_all [rch]

theorem b8v : F4 Tryz.f43 = [0, 2, 4, 10] := by kernel_rfl
theorem a5u (n : Int) (hn : -1000000 ≤ n ∧ n ≤ 1000000) : CW (cxT oG) 43 [iV n] = some (tV (dec n), []) := by
 obtain ⟨kk, hkk⟩ : ∃ kk : Nat, 2 * n.natAbs + (if n < 0 then 1 else 0) < kk := ⟨_, Nat.lt_succ_self _⟩
 revert n
 induction kk with
 | zero => intro n hn hkk; exact absurd hkk (Nat.not_lt_zero _)
 | succ kk ih =>
  intro n hn hkk
  refine E5 rfl Tryz.func43 rfl ⟨by kernel_rfl, rfl, dT rfl, dT rfl, by decide⟩ b8v <| A3 <| A0 <| y_S rfl <| xN [0] [] rfl <| A3 <| A3 <| A0 <| y_M rfl <| F8 rfl rfl <| xN [0,4] [] rfl ?_
  refine A5 rfl ?_ ?_ <;> intro hc <;> try simp only [SL] at hc
  ·refine A3 <| A0 <| y_M rfl <| b9l rfl (C3 (by omega)) ?_
   have hdl := V5 (m := -n) (by omega)
   refine xC1 rfl rfl (ih (-n) (by omega) (by split at hkk <;> split <;> omega)) ⟨rfl, rfl, rfl⟩ rfl rfl fun g7 => ?_
   refine L2 rfl rfl (by simp only [G9, List.length_append, List.length_cons, List.length_nil]; omega) <| y_S rfl <| xN [2] [] rfl <| A8 <| C2 rfl rfl trivial ?_
   exact congrArg tV (d8t (by assumption)).symm
  refine A7 <| A3 <| A3 <| A0 <| y_M rfl <| F8 rfl rfl <| xN [0,10] [] rfl ?_
  refine A5 rfl ?_ ?_ <;> intro hc <;> try simp only [SL] at hc
  ·refine A3 <| A0 <| y_M rfl <| y_M rfl <| E4 rfl rfl (C3 (by omega)) <| U9 rfl rfl (P8 rfl (by omega)) (P8 rfl (by omega)) (by (simp; omega)) <| y_S rfl <| xN [2] [] rfl <| A8 <| C2 rfl rfl trivial ?_
   rw [d9y (by omega)]
  refine A7 <| A3 <| A0 <| y_M rfl ?_
  have hd10 : n.tdiv 10 = n / 10 := Int.tdiv_eq_ediv_of_nonneg (by omega)
  refine d8d rfl rfl ⟨by omega, C3 (by omega)⟩ ?_
  have hd10 : n.tdiv 10 = n / 10 := Int.tdiv_eq_ediv_of_nonneg (by omega)
  have hdl0 := V5 (m := n.tdiv 10) (by omega)
  refine xC1 rfl rfl (ih (n.tdiv 10) (by omega) (by split at hkk <;> split <;> omega)) ⟨rfl, rfl, rfl⟩ rfl rfl fun g17 => ?_
  refine y_M rfl <| c5t rfl rfl (by omega) ?_
  have hm10 : n.tmod 10 = n % 10 := Int.tmod_eq_emod_of_nonneg (by omega)
  have hdl1 := V5 (m := n.tmod 10) (by omega)
  refine xC1 rfl rfl (ih (n.tmod 10) (by omega) (by split at hkk <;> split <;> omega)) ⟨rfl, rfl, rfl⟩ rfl rfl fun g20 => ?_
  refine L2 rfl rfl (by simp only [G9, List.length_append, List.length_cons, List.length_nil]; omega) <| y_S rfl <| xN [2] [] rfl <| A8 <| C2 rfl rfl trivial ?_
  rw [← e0x (by omega)]

theorem b3m : F4 Tryz.f30 = [0, 2, 4, 8, 12, 3] := by kernel_rfl
theorem a8e (ns : List Int) (hl : ns.length ≤ 1000000) (hnb : ∀ n ∈ ns, -1000000 ≤ n ∧ n ≤ 1000000) : CW (cxT oG) 30 [L ns] = some (tV (P1 ns), []) := by
 have hg := fun (i : Nat) (h : i < ns.length) => hnb _ (a5l h)
 refine E5 rfl Tryz.func30 rfl ⟨by kernel_rfl, rfl, dT rfl, dT rfl, by decide⟩ b3m <| A3 <| A0 <| y_S rfl <| xN [0] [] rfl <| A3 <| A0 <| y_S rfl <| xN [0,3] [] rfl <| A3 <| A3 <| A0 <| y_S rfl <| xN [0,3,4] [] rfl <| B0 <| E8 (β := Nat) [(.t 0, _)] (fun (i : Nat) => [(.t 4, iV i), (.t 3, tV (P1 (ns.take i)))]) (fun (i : Nat) => i ≤ ns.length) (fun (i : Nat) => ns.length - i) 0 ⟨rfl, rfl, rfl, trivial⟩ (Nat.zero_le _) ?_
 intro i hb
 have hi1 := hb
 have hll := V9 (ns := ns.take i) (fun n hn => hnb n (List.mem_of_mem_take hn))
 rw [List.length_take] at hll
 refine A3 <| A3 <| A0 <| y_M rfl <| y_M rfl <| B9 rfl rfl <| F8 rfl rfl <| xN [0,3,4,8] [] rfl ?_
 refine A5 rfl ?_ ?_ <;> intro hc <;> try simp only [SL] at hc
 ·refine A7 <| A3 <| B0 <| A3 <| A3 <| A0 <| y_M rfl <| O6 rfl rfl <| xN [0,3,4,12] [] rfl ?_
  refine A5 rfl ?_ ?_ <;> intro hc <;> try simp only [SL] at hc
  ·have hi0 : 0 < i := by omega
   refine A0 <| y_M rfl <| L2 rfl rfl (by simp only [G9, List.length_append, List.length_cons, List.length_nil]; omega) <| y_S rfl <| xN [0,3,4] [] rfl <| A0 <| y_M rfl <| y_M rfl <| y_M rfl <| B8 rfl rfl rfl (fun _ => rfl) (by omega) <| y_I rfl ?_
   have hgi := hg i (by omega)
   have hdl := V5 hgi
   refine xC1 rfl rfl (a5u (ns.getD i default) hgi) ⟨rfl, rfl, rfl⟩ rfl rfl fun g20 => ?_
   refine L2 rfl rfl (by simp only [G9, List.length_append, List.length_cons, List.length_nil]; omega) <| y_S rfl <| xN [0,3,4] [] rfl <| A0 <| y_M rfl <| E4 rfl rfl (C3 (by omega)) <| y_S rfl <| xN [0,3,4] [] rfl ?_
   rw [← c6j (by omega) hi0]
   refine ⟨i + 1, ?_, (by omega), ⟨rfl, rfl, rfl, trivial⟩⟩
   omega
  have hi0 : i = 0 := by omega
  refine A7 <| A0 <| y_M rfl <| y_M rfl <| y_M rfl <| B8 rfl rfl rfl (fun _ => rfl) (by omega) <| y_I rfl ?_
  have hgi := hg i (by omega)
  have hdl := V5 hgi
  refine xC1 rfl rfl (a5u (ns.getD i default) hgi) ⟨rfl, rfl, rfl⟩ rfl rfl fun g20 => ?_
  refine L2 rfl rfl (by simp only [G9, List.length_append, List.length_cons, List.length_nil]; omega) <| y_S rfl <| xN [0,3,4] [] rfl <| A0 <| y_M rfl <| E4 rfl rfl (C3 (by omega)) <| y_S rfl <| xN [0,3,4] [] rfl ?_
  rw [← c7c (by omega) hi0]
  refine ⟨i + 1, ?_, (by omega), ⟨rfl, rfl, rfl, trivial⟩⟩
  omega
 refine E3 <| A3 <| A0 <| y_M rfl <| y_S rfl <| xN [2] [] rfl <| A8 <| C2 rfl rfl trivial ?_
 rw [List.take_of_length_le (by omega)]

theorem b5m : F4 Tryz.f28 = [0, 1, 4, 7, 12, 19, 6, 5] := by kernel_rfl
theorem b9w (s : List UInt8) (hs : s.length ≤ 1048576) (c : UInt8) : CW (cxT oG) 28 [tV s, uV c.toNat] = some (.own 1 ((splitB c s).map tV), []) := by
 refine E5 rfl Tryz.func28 rfl ⟨by kernel_rfl, rfl, dT rfl, dT rfl, by decide⟩ b5m <| A3 <| A0 ?_
 (refine B2 rfl rfl (fun _ => rfl) ?_; intro g4)
 refine xN [0,1] [] rfl <| A3 <| A0 <| B4 (es := List.map tV []) rfl rfl (dT rfl) rfl rfl (fun _ => B1 (A6 fun _ => rfl)) (fun _ => rfl) ?_
 intro g8
 (refine xO rfl rfl (by simp) rfl (fun _ => rfl) (fun _ => rfl) ?_; intro g5)
 refine xN [0,1,5] [5] rfl <| A3 <| A0 <| y_S rfl <| xN [0,1,5,6] [5] rfl <| A3 <| A3 <| A0 <| y_S rfl <| xN [0,1,5,6,7] [5] rfl <| B0 <| E8 (β := Nat × Nat × List (List UInt8) × Nat) [(.t 0, _), (.t 1, _)] (fun (z : Nat × Nat × List (List UInt8) × Nat) => match z with | (i, fr, out, g) => [(.t 7, iV i), (.t 6, iV fr), (.t 5, .sl 5 g none 0 out.length), (.h 5, .obj g 0 1 (out.map tV))]) (fun (z : Nat × Nat × List (List UInt8) × Nat) => match z with | (i, fr, out, g) => i ≤ s.length ∧ fr ≤ i ∧ out.length ≤ i ∧ splitB c s = out ++ W9 ((s.drop fr).take (i - fr)) (splitB c (s.drop i))) (fun (z : Nat × Nat × List (List UInt8) × Nat) => match z with | (i, fr, out, g) => s.length - i) (0, 0, [], _) ⟨rfl, rfl, rfl, rfl, rfl, rfl, trivial⟩ ⟨Nat.zero_le _, Nat.le_refl _, Nat.le_refl _, by simp [b9a]⟩ ?_
 intro z hb
 obtain ⟨i, fr, out, g⟩ := z
 try dsimp only at hb
 obtain ⟨hi1, hfr, hol, hsp⟩ := hb
 refine A3 <| A3 <| A0 <| y_M rfl <| y_M rfl <| a1o rfl rfl <| F8 rfl rfl <| xN [0,1,5,6,7,12] [5] rfl ?_
 refine A5 rfl ?_ ?_ <;> intro hc <;> try simp only [SL] at hc
 ·refine A7 <| A3 <| B0 <| A3 <| A0 <| y_M rfl <| y_M rfl <| P4 rfl rfl rfl (by omega) <| y_M rfl <| M9 rfl rfl <| xN [0,1,5,6,7,19] [5] rfl ?_
  refine A5 rfl ?_ ?_ <;> intro hc <;> try simp only [SL] at hc
  ·have hcb : s.getD i 0 = c := UInt8.toNat_inj.1 (by omega)
   refine A3 <| A0 <| y_M rfl <| y_M rfl <| y_M rfl <| y_M rfl <| U9 rfl rfl (H0 rfl) (H0 rfl) (by omega) <| B4 (es := List.map tV [_]) rfl rfl (dT rfl) rfl rfl (fun _ => B1 (A6 fun _ => rfl)) (fun _ => rfl) ?_
   intro g25
   refine xA rfl rfl rfl rfl (by simp) (by simp) rfl rfl rfl rfl rfl (fun _ => rfl) (by simp only [LN]; omega) (fun _ => rfl) ?_
   intro g26
   (refine xO rfl rfl (by simp) rfl (fun _ => rfl) (fun _ => rfl) ?_; intro g5)
   refine xN [0,1,5,7] [5] rfl <| A0 <| y_M rfl <| E4 rfl rfl (C3 (by omega)) <| y_S rfl <| xN [0,1,5,6,7] [5] rfl <| A0 <| y_M rfl <| E4 rfl rfl (C3 (by omega)) <| y_S rfl <| xN [0,1,5,6,7] [5] rfl ?_
   refine ⟨(i + 1, i + 1, out ++ [(s.drop fr).take (i - fr)], _), ?_, (by simp only; omega), ⟨rfl, rfl, rfl, rfl, rfl, rfl, trivial⟩⟩
   have hst := b4k (by omega) hfr hsp
   exact ⟨by omega, by omega, by simp; omega, hst.1 hcb⟩
  have hcb : s.getD i 0 ≠ c := fun e => hc (by rw [e])
  refine A7 <| A0 <| y_M rfl <| E4 rfl rfl (C3 (by omega)) <| y_S rfl <| xN [0,1,5,6,7] [5] rfl ?_
  refine ⟨(i + 1, fr, out, _), ?_, (by simp only; omega), ⟨rfl, rfl, rfl, rfl, rfl, rfl, trivial⟩⟩
  have hst := b4k (by omega) hfr hsp
  exact ⟨by omega, by omega, by omega, hst.2 hcb⟩
 refine E3 <| A3 <| A0 <| y_M rfl <| y_M rfl <| y_M rfl <| U9 rfl rfl H8 (H0 rfl) (by omega) <| B4 (es := List.map tV [_]) rfl rfl (dT rfl) rfl rfl (fun _ => B1 (A6 fun _ => rfl)) (fun _ => rfl) ?_
 intro g33
 refine xA rfl rfl rfl rfl (by simp) (by simp) rfl rfl rfl rfl rfl (fun _ => rfl) (by simp only [LN]; omega) (fun _ => rfl) ?_
 intro g34
 (refine xO rfl rfl (by simp) rfl (fun _ => rfl) (fun _ => rfl) ?_; intro g4)
 refine xN [4] [4] rfl <| A8 <| N4 rfl rfl (by simp) (by exact A6 fun _ => rfl) trivial ?_
 have hil : i = s.length := by omega
 rw [hsp, hil, List.drop_length, splitB, W9, List.append_nil]

theorem b3f : F4 Tryz.f57 = [0, 2, 3, 5, 6, 17, 7, 8, 31, 10, 37, 9, 53, 62, 75, 4] := by kernel_rfl
theorem c9y (s : List UInt8) (hs : s.length ≤ 1048576) : CW (cxT oG) 57 [tV s] = some (.tup [.own 1 (((rdL s).getD []).map iV), bV (rdL s).isSome], []) := by
 obtain ⟨ps, hps⟩ : ∃ ps, ps = splitB 44 s := ⟨_, rfl⟩
 have hpl := U5 44 s
 rw [← hps] at hpl
 have hpp := W7 44 s
 rw [← hps] at hpp
 refine E5 rfl Tryz.func57 rfl ⟨by kernel_rfl, rfl, dT rfl, dT rfl, by decide⟩ b3f <| A3 <| A0 ?_
 (refine B2 rfl rfl (fun _ => rfl) ?_; intro g2)
 refine y_S rfl <| xN [0] [] rfl <| A3 <| A0 <| B4 (es := List.map iV []) rfl rfl (dT rfl) rfl rfl (fun _ => B1 (A6 fun _ => rfl)) (fun _ => rfl) ?_
 intro g11
 (refine xO rfl rfl (by simp) rfl (fun _ => rfl) (fun _ => rfl) ?_; intro g4)
 refine xN [0,4] [4] rfl <| A3 <| A0 <| y_M rfl ?_
 apply xC rfl
 ·apply A9
  ·exact B7 rfl
  apply A9
  ·exact B7 rfl
  exact C5
 ·exact b9w s hs 44
 refine ⟨⟨rfl, rfl, rfl, dT rfl, rfl⟩, .inl rfl, B3, K0, fun _ => rfl, fun g13 => ?_⟩
 rw [← hps]
 try simp only [List.length_map]
 (refine xO rfl rfl (by simp) rfl (fun _ => rfl) (fun _ => rfl) ?_; intro g5)
 refine xN [4,5] [4,5] rfl <| A3 <| A3 <| A0 <| y_S rfl <| xN [4,5,6] [4,5] rfl <| B0 <| E8 (β := Nat × List Int × Nat) [(.t 5, _), (.h 5, _)] (fun (z : Nat × List Int × Nat) => match z with | (i, ns, g) => [(.t 6, iV i), (.t 4, .sl 4 g none 0 ns.length), (.h 4, .obj g 0 1 (ns.map iV))]) (fun (z : Nat × List Int × Nat) => match z with | (i, ns, g) => i ≤ ps.length ∧ a1v (ps.take i) = some ns) (fun (z : Nat × List Int × Nat) => match z with | (i, ns, g) => ps.length - i) (0, [], _) ⟨rfl, rfl, rfl, rfl, rfl, trivial⟩ ⟨Nat.zero_le _, rfl⟩ ?_
 intro z hb
 obtain ⟨i, ns, g⟩ := z
 try dsimp only at hb
 obtain ⟨hi1, hrd⟩ := hb
 have hnl := b2a hrd
 rw [List.length_take] at hnl
 have hpi := fun h : i < ps.length => hpp _ (V8 h)
 refine A3 <| A3 <| A0 <| y_M rfl <| y_M rfl <| I5 rfl rfl <| F8 rfl rfl <| xN [4,5,6,17] [4,5] rfl ?_
 refine A5 rfl ?_ ?_ <;> intro hc <;> try simp only [SL] at hc
 ·refine A7 <| A3 <| B0 <| A3 <| A0 <| y_M rfl <| y_M rfl <| D9 rfl rfl rfl rfl (by omega) (by (simp; done)) rfl <| G2 rfl rfl (by omega) (fun _ => rfl) (fun _ => rfl) rfl <| y_S rfl <| xN [4,5,6,7] [4,5] rfl <| A3 <| A0 <| y_M rfl <| b5g rfl rfl <| y_M rfl ?_
  refine C6 rfl rfl ?_ ?_ <;> intro hg0 <;> have hg := hg0 <;> try simp only [SG] at hg
  ·refine y_M rfl <| gT rfl rfl ?_
   have hp0 : 0 < (ps.getD i default).length := List.length_pos_iff.2 (by assumption)
   refine P4 (n := 0) rfl rfl rfl hp0 <| gT rfl rfl <| M9 rfl rfl <| F0 rfl (by assumption) rfl rfl <| y_S rfl <| xN [4,5,6,7,8] [4,5] rfl <| A3 <| A3 <| A0 <| y_M rfl <| xN [4,5,6,7,8,31] [4,5] rfl ?_
   refine A5 rfl ?_ ?_ <;> intro hc <;> try simp only [SL] at hc
   ·obtain ⟨hng, hup⟩ := e2f (p := (ps.getD i default)) (by assumption) (by omega)
    have hul := c1p (ps.getD i default)
    rw [hup] at hul
    refine A0 <| y_M rfl <| U9 rfl rfl H8 (H0 (n := 1) rfl) (by omega) <| y_S rfl <| xN [4,5,6,7,8] [4,5] rfl <| A3 <| A0 <| y_S rfl <| xN [4,5,6,7,8,9] [4,5] rfl <| A3 <| A3 <| A0 <| y_S rfl <| xN [4,5,6,7,8,9,10] [4,5] rfl <| B0 ?_
    have hup0 := hup
    refine E8 (β := Nat × Int) [(.t 4, _), (.t 5, _), (.t 6, _), (.t 7, _), (.t 8, _), (.h 4, _), (.h 5, _)] (fun (z : Nat × Int) => match z with | (k, a) => [(.t 10, iV k), (.t 9, iV a)]) (fun (z : Nat × Int) => match z with | (k, a) => k ≤ (unS (ps.getD i default)).length ∧ 0 ≤ a ∧ X0 0 ((unS (ps.getD i default)).take k) = some a.toNat) (fun (z : Nat × Int) => match z with | (k, a) => (unS (ps.getD i default)).length - k) (0, 0) ⟨rfl, rfl, rfl, rfl, rfl, rfl, rfl, rfl, rfl, trivial⟩ ⟨Nat.zero_le _, by decide, rfl⟩ ?_
    intro z hb
    obtain ⟨k, a⟩ := z
    try dsimp only at hb
    obtain ⟨hk1, ha0, hdg⟩ := hb
    have hab := b4e (by decide) hdg
    rw [hup] at hk1 hdg
    refine A3 <| A3 <| A0 <| y_M rfl <| y_M rfl <| a1o rfl rfl <| F8 rfl rfl <| xN [4,5,6,7,8,9,10,37] [4,5] rfl ?_
    refine A5 rfl ?_ ?_ <;> intro hc <;> try simp only [SL] at hc
    ·refine A7 <| A3 <| B0 <| A3 <| A3 <| A0 <| y_M rfl <| y_M rfl <| P4 rfl rfl rfl (by omega) <| F8 rfl rfl <| y_M rfl ?_
     refine C6 rfl rfl ?_ ?_ <;> intro hg0 <;> have hg := hg0 <;> try simp only [SG] at hg
     ·refine y_M rfl <| gT rfl rfl <| y_M rfl <| gT rfl rfl <| P4 rfl rfl rfl (by omega) <| gT rfl rfl <| O6 rfl rfl <| F3 rfl (by assumption) rfl rfl <| y_M rfl ?_
      refine C6 rfl rfl ?_ ?_ <;> intro hg0 <;> have hg := hg0 <;> try simp only [SG] at hg
      ·refine y_M rfl <| gT rfl rfl <| O6 rfl rfl <| F3 rfl (by assumption) rfl rfl <| xN [4,5,6,7,8,9,10,53] [4,5] rfl ?_
       refine A5 rfl ?_ ?_ <;> intro hc <;> try simp only [SL] at hc
       ·refine A3 <| A0 ?_
        (refine B2 rfl rfl (fun _ => rfl) ?_; intro g2)
        refine y_S rfl <| xN [2,3] [2] rfl <| A8 <| C0 (G3 rfl rfl (by simp) (by rfl) (D4 rfl rfl (C7 B5))) ?_
        rw [rdL, ← hps, M1 (show i < ps.length by omega) (Y0 (by rw [hup]; exact T5 (by omega) hdg (by omega)))]
        rfl
       refine A7 <| A0 <| y_M rfl <| a8z rfl rfl (C3 (by omega)) <| y_M rfl <| y_M rfl <| P4 rfl rfl rfl (by omega) <| P6 rfl rfl (e1t (by omega)) <| a8i rfl rfl rfl (C3 (by omega)) <| E4 rfl rfl (C3 (by omega)) <| y_S rfl <| xN [4,5,6,7,8,9,10] [4,5] rfl <| A0 <| y_M rfl <| E4 rfl rfl (C3 (by omega)) <| y_S rfl <| xN [4,5,6,7,8,9,10] [4,5] rfl ?_
       refine ⟨(k + 1, _), ?_, (by simp only [hup]; omega), ⟨rfl, rfl, rfl, rfl, rfl, rfl, rfl, rfl, rfl, trivial⟩⟩
       rw [hup]
       have hds := b1h (by omega) hdg (by omega)
       exact ⟨by omega, by omega, hds.trans (congrArg some (by omega))⟩
      refine gF rfl rfl <| F0 rfl (by assumption) rfl rfl <| xN [4,5,6,7,8,9,10,53] [4,5] rfl ?_
      refine A5 rfl (fun hc => ?_) (fun hc => absurd hc (by decide))
      refine A3 <| A0 ?_
      (refine B2 rfl rfl (fun _ => rfl) ?_; intro g2)
      refine y_S rfl <| xN [2,3] [2] rfl <| A8 <| C0 (G3 rfl rfl (by simp) (by rfl) (D4 rfl rfl (C7 B5))) ?_
      rw [rdL, ← hps, M1 (show i < ps.length by omega) (Y0 (by rw [hup]; exact T5 (by omega) hdg (by omega)))]
      rfl
     refine gF rfl rfl <| gF rfl rfl <| gF rfl rfl <| F0 rfl (by assumption) rfl rfl <| y_M rfl <| I7 rfl rfl rfl <| I7 rfl rfl rfl <| F0 rfl rfl rfl rfl <| xN [4,5,6,7,8,9,10,53] [4,5] rfl ?_
     refine A5 rfl (fun hc => ?_) (fun hc => absurd hc (by decide))
     refine A3 <| A0 ?_
     (refine B2 rfl rfl (fun _ => rfl) ?_; intro g2)
     refine y_S rfl <| xN [2,3] [2] rfl <| A8 <| C0 (G3 rfl rfl (by simp) (by rfl) (D4 rfl rfl (C7 B5))) ?_
     rw [rdL, ← hps, M1 (show i < ps.length by omega) (Y0 (by rw [hup]; exact T5 (by omega) hdg (by omega)))]
     rfl
    have hdU : X0 0 (unS (ps.getD i default)) = some a.toNat := by rw [hup]; rw [List.take_of_length_le (by omega)] at hdg; exact hdg
    refine E3 <| A3 <| A3 <| A0 <| y_M rfl <| xN [4,5,6,7,9,62] [4,5] rfl ?_
    refine A5 rfl (fun hc => ?_) (fun hc => absurd hc (by simp_all))
    refine A0 <| y_M rfl <| b9l rfl (C3 (by omega)) <| y_S rfl <| xN [4,5,6,7,9] [4,5] rfl <| A3 <| A3 <| A0 <| y_M rfl <| L6 rfl rfl <| y_M rfl ?_
    refine C6 rfl rfl ?_ ?_ <;> intro hg0 <;> have hg := hg0 <;> try simp only [SG] at hg
    ·refine y_M rfl <| gT rfl rfl ?_
     have hdl1 := V5 (m := -a) (by omega)
     have hdl2 := V5 (m := a) (by omega)
     refine xC1 rfl rfl (a5u (-a) (by omega)) ⟨rfl, rfl, rfl⟩ rfl rfl fun g69 => ?_
     refine gT rfl rfl <| y_M rfl <| gT rfl rfl <| y_M rfl <| gT rfl rfl <| D9 rfl rfl rfl rfl (by omega) (by (simp; done)) rfl <| gT rfl rfl <| G2 rfl rfl (by omega) (fun _ => rfl) (fun _ => rfl) rfl <| gT rfl rfl <| b5g rfl rfl <| F3 rfl (by assumption) rfl rfl ?_
     refine J6 ⟨fun _ => ⟨by (simp only [Z0, List.nil_append, List.append_nil, List.map_cons, List.map_nil, List.cons_append]; decide +kernel), by decide +kernel⟩, [(.t 4, _), (.t 5, _), (.t 6, _), (.t 9, _), (.t 75, _), (.h 4, _), (.h 5, _)], ⟨rfl, rfl, rfl, rfl, rfl, rfl, rfl, rfl, rfl, rfl, rfl, rfl, rfl, rfl, trivial⟩, ?_⟩
     refine A5 rfl ?_ ?_ <;> intro hc <;> try simp only [SL] at hc
     ·refine A3 <| A0 ?_
      (refine B2 rfl rfl (fun _ => rfl) ?_; intro g2)
      refine y_S rfl <| xN [2,3] [2] rfl <| A8 <| C0 (G3 rfl rfl (by simp) (by rfl) (D4 rfl rfl (C7 B5))) ?_
      have hno : rdI (ps.getD i default) = none := by exact b0w (m := -a) hdU (by (rw [hng, if_pos rfl]; omega)) (by exact .inr (by assumption))
      rw [rdL, ← hps, M1 (show i < ps.length by omega) hno]
      rfl
     have hri := c8n (m := -a) hdU (by (rw [hng, if_pos rfl]; omega)) (by rw [hup]; assumption) (by assumption)
     refine A7 <| A0 <| y_M rfl <| y_M rfl <| B4 (es := List.map iV [_]) rfl rfl (dT rfl) rfl rfl (fun _ => B1 (A6 fun _ => rfl)) (fun _ => rfl) ?_
     intro g78
     refine xA rfl rfl rfl rfl (by simp) (by simp) rfl rfl rfl rfl rfl (fun _ => rfl) (by simp only [LN]; omega) (fun _ => rfl) ?_
     intro g79
     (refine xO rfl rfl (by simp) rfl (fun _ => rfl) (fun _ => rfl) ?_; intro g4)
     refine xN [4,5,6] [4,5] rfl <| A0 <| y_M rfl <| E4 rfl rfl (C3 (by omega)) <| y_S rfl <| xN [4,5,6] [4,5] rfl ?_
     refine ⟨(i + 1, ns ++ [-a], _), ?_, (by simp only; omega), ⟨rfl, rfl, rfl, rfl, rfl, trivial⟩⟩
     exact ⟨by omega, b1f (by omega) hrd hri⟩
    iterate 6 refine gF rfl rfl ?_
    refine F0 rfl (by assumption) rfl rfl ?_
    refine J6 ⟨fun _ => ⟨by decide +kernel, by decide +kernel⟩, [(.t 4, _), (.t 5, _), (.t 6, _), (.t 9, _), (.t 75, _), (.h 4, _), (.h 5, _)], ⟨rfl, rfl, rfl, rfl, rfl, rfl, rfl, rfl, rfl, rfl, rfl, rfl, rfl, rfl, trivial⟩, ?_⟩
    refine A5 rfl (fun hc => ?_) (fun hc => absurd hc (by decide))
    refine A3 <| A0 ?_
    (refine B2 rfl rfl (fun _ => rfl) ?_; intro g2)
    refine y_S rfl <| xN [2,3] [2] rfl <| A8 <| C0 (G3 rfl rfl (by simp) (by rfl) (D4 rfl rfl (C7 B5))) ?_
    have hno : rdI (ps.getD i default) = none := by exact b0w (m := -a) hdU (by (rw [hng, if_pos rfl]; omega)) (by exact .inl (by rw [hup]; assumption))
    rw [rdL, ← hps, M1 (show i < ps.length by omega) hno]
    rfl
   obtain ⟨hng, hup⟩ := e0n (p := (ps.getD i default)) (by exact .inr (by omega))
   have hul := c1p (ps.getD i default)
   rw [hup] at hul
   refine A7 <| A3 <| A0 <| y_S rfl <| xN [4,5,6,7,8,9] [4,5] rfl <| A3 <| A3 <| A0 <| y_S rfl <| xN [4,5,6,7,8,9,10] [4,5] rfl <| B0 ?_
   have hup0 := hup
   refine E8 (β := Nat × Int) [(.t 4, _), (.t 5, _), (.t 6, _), (.t 7, _), (.t 8, _), (.h 4, _), (.h 5, _)] (fun (z : Nat × Int) => match z with | (k, a) => [(.t 10, iV k), (.t 9, iV a)]) (fun (z : Nat × Int) => match z with | (k, a) => k ≤ (unS (ps.getD i default)).length ∧ 0 ≤ a ∧ X0 0 ((unS (ps.getD i default)).take k) = some a.toNat) (fun (z : Nat × Int) => match z with | (k, a) => (unS (ps.getD i default)).length - k) (0, 0) ⟨rfl, rfl, rfl, rfl, rfl, rfl, rfl, rfl, rfl, trivial⟩ ⟨Nat.zero_le _, by decide, rfl⟩ ?_
   intro z hb
   obtain ⟨k, a⟩ := z
   try dsimp only at hb
   obtain ⟨hk1, ha0, hdg⟩ := hb
   have hab := b4e (by decide) hdg
   rw [hup] at hk1 hdg
   refine A3 <| A3 <| A0 <| y_M rfl <| y_M rfl <| a1o rfl rfl <| F8 rfl rfl <| xN [4,5,6,7,8,9,10,37] [4,5] rfl ?_
   refine A5 rfl ?_ ?_ <;> intro hc <;> try simp only [SL] at hc
   ·refine A7 <| A3 <| B0 <| A3 <| A3 <| A0 <| y_M rfl <| y_M rfl <| P4 rfl rfl rfl (by omega) <| F8 rfl rfl <| y_M rfl ?_
    refine C6 rfl rfl ?_ ?_ <;> intro hg0 <;> have hg := hg0 <;> try simp only [SG] at hg
    ·refine y_M rfl <| gT rfl rfl <| y_M rfl <| gT rfl rfl <| P4 rfl rfl rfl (by omega) <| gT rfl rfl <| O6 rfl rfl <| F3 rfl (by assumption) rfl rfl <| y_M rfl ?_
     refine C6 rfl rfl ?_ ?_ <;> intro hg0 <;> have hg := hg0 <;> try simp only [SG] at hg
     ·refine y_M rfl <| gT rfl rfl <| O6 rfl rfl <| F3 rfl (by assumption) rfl rfl <| xN [4,5,6,7,8,9,10,53] [4,5] rfl ?_
      refine A5 rfl ?_ ?_ <;> intro hc <;> try simp only [SL] at hc
      ·refine A3 <| A0 ?_
       (refine B2 rfl rfl (fun _ => rfl) ?_; intro g2)
       refine y_S rfl <| xN [2,3] [2] rfl <| A8 <| C0 (G3 rfl rfl (by simp) (by rfl) (D4 rfl rfl (C7 B5))) ?_
       rw [rdL, ← hps, M1 (show i < ps.length by omega) (Y0 (by rw [hup]; exact T5 (by omega) hdg (by omega)))]
       rfl
      refine A7 <| A0 <| y_M rfl <| a8z rfl rfl (C3 (by omega)) <| y_M rfl <| y_M rfl <| P4 rfl rfl rfl (by omega) <| P6 rfl rfl (e1t (by omega)) <| a8i rfl rfl rfl (C3 (by omega)) <| E4 rfl rfl (C3 (by omega)) <| y_S rfl <| xN [4,5,6,7,8,9,10] [4,5] rfl <| A0 <| y_M rfl <| E4 rfl rfl (C3 (by omega)) <| y_S rfl <| xN [4,5,6,7,8,9,10] [4,5] rfl ?_
      refine ⟨(k + 1, _), ?_, (by simp only [hup]; omega), ⟨rfl, rfl, rfl, rfl, rfl, rfl, rfl, rfl, rfl, trivial⟩⟩
      rw [hup]
      have hds := b1h (by omega) hdg (by omega)
      exact ⟨by omega, by omega, hds.trans (congrArg some (by omega))⟩
     refine gF rfl rfl <| F0 rfl (by assumption) rfl rfl <| xN [4,5,6,7,8,9,10,53] [4,5] rfl ?_
     refine A5 rfl (fun hc => ?_) (fun hc => absurd hc (by decide))
     refine A3 <| A0 ?_
     (refine B2 rfl rfl (fun _ => rfl) ?_; intro g2)
     refine y_S rfl <| xN [2,3] [2] rfl <| A8 <| C0 (G3 rfl rfl (by simp) (by rfl) (D4 rfl rfl (C7 B5))) ?_
     rw [rdL, ← hps, M1 (show i < ps.length by omega) (Y0 (by rw [hup]; exact T5 (by omega) hdg (by omega)))]
     rfl
    refine gF rfl rfl <| gF rfl rfl <| gF rfl rfl <| F0 rfl (by assumption) rfl rfl <| y_M rfl <| I7 rfl rfl rfl <| I7 rfl rfl rfl <| F0 rfl rfl rfl rfl <| xN [4,5,6,7,8,9,10,53] [4,5] rfl ?_
    refine A5 rfl (fun hc => ?_) (fun hc => absurd hc (by decide))
    refine A3 <| A0 ?_
    (refine B2 rfl rfl (fun _ => rfl) ?_; intro g2)
    refine y_S rfl <| xN [2,3] [2] rfl <| A8 <| C0 (G3 rfl rfl (by simp) (by rfl) (D4 rfl rfl (C7 B5))) ?_
    rw [rdL, ← hps, M1 (show i < ps.length by omega) (Y0 (by rw [hup]; exact T5 (by omega) hdg (by omega)))]
    rfl
   have hdU : X0 0 (unS (ps.getD i default)) = some a.toNat := by rw [hup]; rw [List.take_of_length_le (by omega)] at hdg; exact hdg
   refine E3 <| A3 <| A3 <| A0 <| y_M rfl <| xN [4,5,6,7,9,62] [4,5] rfl ?_
   refine A5 rfl (fun hc => absurd hc (by simp_all)) (fun hc => ?_)
   refine A7 <| A3 <| A3 <| A0 <| y_M rfl <| L6 rfl rfl <| y_M rfl ?_
   refine C6 rfl rfl ?_ ?_ <;> intro hg0 <;> have hg := hg0 <;> try simp only [SG] at hg
   ·refine y_M rfl <| gT rfl rfl ?_
    have hdl1 := V5 (m := -a) (by omega)
    have hdl2 := V5 (m := a) (by omega)
    refine xC1 rfl rfl (a5u a (by omega)) ⟨rfl, rfl, rfl⟩ rfl rfl fun g69 => ?_
    refine gT rfl rfl <| y_M rfl <| gT rfl rfl <| y_M rfl <| gT rfl rfl <| D9 rfl rfl rfl rfl (by omega) (by (simp; done)) rfl <| gT rfl rfl <| G2 rfl rfl (by omega) (fun _ => rfl) (fun _ => rfl) rfl <| gT rfl rfl <| b5g rfl rfl <| F3 rfl (by assumption) rfl rfl ?_
    refine J6 ⟨fun _ => ⟨by (simp only [Z0, List.nil_append, List.append_nil, List.map_cons, List.map_nil, List.cons_append]; decide +kernel), by decide +kernel⟩, [(.t 4, _), (.t 5, _), (.t 6, _), (.t 9, _), (.t 75, _), (.h 4, _), (.h 5, _)], ⟨rfl, rfl, rfl, rfl, rfl, rfl, rfl, rfl, rfl, rfl, rfl, rfl, rfl, rfl, trivial⟩, ?_⟩
    refine A5 rfl ?_ ?_ <;> intro hc <;> try simp only [SL] at hc
    ·refine A3 <| A0 ?_
     (refine B2 rfl rfl (fun _ => rfl) ?_; intro g2)
     refine y_S rfl <| xN [2,3] [2] rfl <| A8 <| C0 (G3 rfl rfl (by simp) (by rfl) (D4 rfl rfl (C7 B5))) ?_
     have hno : rdI (ps.getD i default) = none := by exact b0w (m := a) hdU (by (rw [hng, if_neg (by decide)]; omega)) (by exact .inr (by assumption))
     rw [rdL, ← hps, M1 (show i < ps.length by omega) hno]
     rfl
    have hri := c8n (m := a) hdU (by (rw [hng, if_neg (by decide)]; omega)) (by rw [hup]; assumption) (by assumption)
    refine A7 <| A0 <| y_M rfl <| y_M rfl <| B4 (es := List.map iV [_]) rfl rfl (dT rfl) rfl rfl (fun _ => B1 (A6 fun _ => rfl)) (fun _ => rfl) ?_
    intro g78
    refine xA rfl rfl rfl rfl (by simp) (by simp) rfl rfl rfl rfl rfl (fun _ => rfl) (by simp only [LN]; omega) (fun _ => rfl) ?_
    intro g79
    (refine xO rfl rfl (by simp) rfl (fun _ => rfl) (fun _ => rfl) ?_; intro g4)
    refine xN [4,5,6] [4,5] rfl <| A0 <| y_M rfl <| E4 rfl rfl (C3 (by omega)) <| y_S rfl <| xN [4,5,6] [4,5] rfl ?_
    refine ⟨(i + 1, ns ++ [a], _), ?_, (by simp only; omega), ⟨rfl, rfl, rfl, rfl, rfl, trivial⟩⟩
    exact ⟨by omega, b1f (by omega) hrd hri⟩
   iterate 6 refine gF rfl rfl ?_
   refine F0 rfl (by assumption) rfl rfl ?_
   refine J6 ⟨fun _ => ⟨by decide +kernel, by decide +kernel⟩, [(.t 4, _), (.t 5, _), (.t 6, _), (.t 9, _), (.t 75, _), (.h 4, _), (.h 5, _)], ⟨rfl, rfl, rfl, rfl, rfl, rfl, rfl, rfl, rfl, rfl, rfl, rfl, rfl, rfl, trivial⟩, ?_⟩
   refine A5 rfl (fun hc => ?_) (fun hc => absurd hc (by decide))
   refine A3 <| A0 ?_
   (refine B2 rfl rfl (fun _ => rfl) ?_; intro g2)
   refine y_S rfl <| xN [2,3] [2] rfl <| A8 <| C0 (G3 rfl rfl (by simp) (by rfl) (D4 rfl rfl (C7 B5))) ?_
   have hno : rdI (ps.getD i default) = none := by exact b0w (m := a) hdU (by (rw [hng, if_neg (by decide)]; omega)) (by exact .inl (by rw [hup]; assumption))
   rw [rdL, ← hps, M1 (show i < ps.length by omega) hno]
   rfl
  refine gF rfl rfl <| gF rfl rfl <| F3 rfl (by assumption) rfl rfl <| y_S rfl <| xN [4,5,6,7,8] [4,5] rfl <| A3 <| A3 <| A0 <| y_M rfl <| xN [4,5,6,7,8,31] [4,5] rfl ?_
  refine A5 rfl (fun hc => absurd hc (by decide)) (fun hc => ?_)
  refine A7 <| A3 <| A0 <| y_S rfl <| xN [4,5,6,7,8,9] [4,5] rfl <| A3 <| A3 <| A0 <| y_S rfl <| xN [4,5,6,7,8,9,10] [4,5] rfl <| B0 ?_
  (obtain ⟨hng, hup⟩ := e0n (p := (ps.getD i default)) (.inl (by assumption)); have hul := c1p (ps.getD i default); rw [hup] at hul)
  refine E8 (β := Nat × Int) [(.t 4, _), (.t 5, _), (.t 6, _), (.t 7, _), (.t 8, _), (.h 4, _), (.h 5, _)] (fun (z : Nat × Int) => match z with | (k, a) => [(.t 10, iV k), (.t 9, iV a)]) (fun (z : Nat × Int) => match z with | (k, a) => k ≤ (unS (ps.getD i default)).length ∧ 0 ≤ a ∧ X0 0 ((unS (ps.getD i default)).take k) = some a.toNat) (fun (z : Nat × Int) => match z with | (k, a) => (unS (ps.getD i default)).length - k) (0, 0) ⟨rfl, rfl, rfl, rfl, rfl, rfl, rfl, rfl, rfl, trivial⟩ ⟨Nat.zero_le _, by decide, rfl⟩ ?_
  intro z hb
  obtain ⟨k, a⟩ := z
  try dsimp only at hb
  obtain ⟨hk1, ha0, hdg⟩ := hb
  have hab := b4e (by decide) hdg
  rw [hup] at hk1 hdg
  refine A3 <| A3 <| A0 <| y_M rfl <| y_M rfl <| a1o rfl rfl <| F8 rfl rfl <| xN [4,5,6,7,8,9,10,37] [4,5] rfl ?_
  refine A5 rfl ?_ ?_ <;> intro hc <;> try simp only [SL] at hc
  ·refine A7 <| A3 <| B0 <| A3 <| A3 <| A0 <| y_M rfl <| y_M rfl <| P4 rfl rfl rfl (by omega) <| F8 rfl rfl <| y_M rfl ?_
   refine C6 rfl rfl ?_ ?_ <;> intro hg0 <;> have hg := hg0 <;> try simp only [SG] at hg
   ·refine y_M rfl <| gT rfl rfl <| y_M rfl <| gT rfl rfl <| P4 rfl rfl rfl (by omega) <| gT rfl rfl <| O6 rfl rfl <| F3 rfl (by assumption) rfl rfl <| y_M rfl ?_
    refine C6 rfl rfl ?_ ?_ <;> intro hg0 <;> have hg := hg0 <;> try simp only [SG] at hg
    ·refine y_M rfl <| gT rfl rfl <| O6 rfl rfl <| F3 rfl (by assumption) rfl rfl <| xN [4,5,6,7,8,9,10,53] [4,5] rfl ?_
     refine A5 rfl ?_ ?_ <;> intro hc <;> try simp only [SL] at hc
     ·refine A3 <| A0 ?_
      (refine B2 rfl rfl (fun _ => rfl) ?_; intro g2)
      refine y_S rfl <| xN [2,3] [2] rfl <| A8 <| C0 (G3 rfl rfl (by simp) (by rfl) (D4 rfl rfl (C7 B5))) ?_
      rw [rdL, ← hps, M1 (show i < ps.length by omega) (Y0 (by rw [hup]; exact T5 (by omega) hdg (by omega)))]
      rfl
     refine A7 <| A0 <| y_M rfl <| a8z rfl rfl (C3 (by omega)) <| y_M rfl <| y_M rfl <| P4 rfl rfl rfl (by omega) <| P6 rfl rfl (e1t (by omega)) <| a8i rfl rfl rfl (C3 (by omega)) <| E4 rfl rfl (C3 (by omega)) <| y_S rfl <| xN [4,5,6,7,8,9,10] [4,5] rfl <| A0 <| y_M rfl <| E4 rfl rfl (C3 (by omega)) <| y_S rfl <| xN [4,5,6,7,8,9,10] [4,5] rfl ?_
     refine ⟨(k + 1, _), ?_, (by simp only [hup]; omega), ⟨rfl, rfl, rfl, rfl, rfl, rfl, rfl, rfl, rfl, trivial⟩⟩
     rw [hup]
     have hds := b1h (by omega) hdg (by omega)
     exact ⟨by omega, by omega, hds.trans (congrArg some (by omega))⟩
    refine gF rfl rfl <| F0 rfl (by assumption) rfl rfl <| xN [4,5,6,7,8,9,10,53] [4,5] rfl ?_
    refine A5 rfl (fun hc => ?_) (fun hc => absurd hc (by decide))
    refine A3 <| A0 ?_
    (refine B2 rfl rfl (fun _ => rfl) ?_; intro g2)
    refine y_S rfl <| xN [2,3] [2] rfl <| A8 <| C0 (G3 rfl rfl (by simp) (by rfl) (D4 rfl rfl (C7 B5))) ?_
    rw [rdL, ← hps, M1 (show i < ps.length by omega) (Y0 (by rw [hup]; exact T5 (by omega) hdg (by omega)))]
    rfl
   refine gF rfl rfl <| gF rfl rfl <| gF rfl rfl <| F0 rfl (by assumption) rfl rfl <| y_M rfl <| I7 rfl rfl rfl <| I7 rfl rfl rfl <| F0 rfl rfl rfl rfl <| xN [4,5,6,7,8,9,10,53] [4,5] rfl ?_
   refine A5 rfl (fun hc => ?_) (fun hc => absurd hc (by decide))
   refine A3 <| A0 ?_
   (refine B2 rfl rfl (fun _ => rfl) ?_; intro g2)
   refine y_S rfl <| xN [2,3] [2] rfl <| A8 <| C0 (G3 rfl rfl (by simp) (by rfl) (D4 rfl rfl (C7 B5))) ?_
   rw [rdL, ← hps, M1 (show i < ps.length by omega) (Y0 (by rw [hup]; exact T5 (by omega) hdg (by omega)))]
   rfl
  have hdU : X0 0 (unS (ps.getD i default)) = some a.toNat := by rw [hup]; rw [List.take_of_length_le (by omega)] at hdg; exact hdg
  refine E3 <| A3 <| A3 <| A0 <| y_M rfl <| xN [4,5,6,7,9,62] [4,5] rfl ?_
  refine A5 rfl (fun hc => absurd hc (by decide)) (fun hc => ?_)
  refine A7 <| A3 <| A3 <| A0 <| y_M rfl <| L6 rfl rfl <| y_M rfl ?_
  refine C6 rfl rfl ?_ ?_ <;> intro hg0 <;> have hg := hg0 <;> try simp only [SG] at hg
  ·refine y_M rfl <| gT rfl rfl ?_
   have hdl1 := V5 (m := -a) (by omega)
   have hdl2 := V5 (m := a) (by omega)
   refine xC1 rfl rfl (a5u a (by omega)) ⟨rfl, rfl, rfl⟩ rfl rfl fun g69 => ?_
   refine gT rfl rfl <| y_M rfl <| gT rfl rfl <| y_M rfl <| gT rfl rfl <| D9 rfl rfl rfl rfl (by omega) (by (simp; done)) rfl <| gT rfl rfl <| G2 rfl rfl (by omega) (fun _ => rfl) (fun _ => rfl) rfl <| gT rfl rfl <| b5g rfl rfl <| F3 rfl (by assumption) rfl rfl ?_
   refine J6 ⟨fun _ => ⟨by (simp only [Z0, List.nil_append, List.append_nil, List.map_cons, List.map_nil, List.cons_append]; decide +kernel), by decide +kernel⟩, [(.t 4, _), (.t 5, _), (.t 6, _), (.t 9, _), (.t 75, _), (.h 4, _), (.h 5, _)], ⟨rfl, rfl, rfl, rfl, rfl, rfl, rfl, rfl, rfl, rfl, rfl, rfl, rfl, rfl, trivial⟩, ?_⟩
   refine A5 rfl ?_ ?_ <;> intro hc <;> try simp only [SL] at hc
   ·refine A3 <| A0 ?_
    (refine B2 rfl rfl (fun _ => rfl) ?_; intro g2)
    refine y_S rfl <| xN [2,3] [2] rfl <| A8 <| C0 (G3 rfl rfl (by simp) (by rfl) (D4 rfl rfl (C7 B5))) ?_
    have hno : rdI (ps.getD i default) = none := by exact b0w (m := a) hdU (by (rw [hng, if_neg (by decide)]; omega)) (by exact .inl (by rw [hup]; assumption))
    rw [rdL, ← hps, M1 (show i < ps.length by omega) hno]
    rfl
   have hri := c8n (m := a) hdU (by (rw [hng, if_neg (by decide)]; omega)) (by rw [hup]; assumption) (by assumption)
   refine A7 <| A0 <| y_M rfl <| y_M rfl <| B4 (es := List.map iV [_]) rfl rfl (dT rfl) rfl rfl (fun _ => B1 (A6 fun _ => rfl)) (fun _ => rfl) ?_
   intro g78
   refine xA rfl rfl rfl rfl (by simp) (by simp) rfl rfl rfl rfl rfl (fun _ => rfl) (by simp only [LN]; omega) (fun _ => rfl) ?_
   intro g79
   (refine xO rfl rfl (by simp) rfl (fun _ => rfl) (fun _ => rfl) ?_; intro g4)
   refine xN [4,5,6] [4,5] rfl <| A0 <| y_M rfl <| E4 rfl rfl (C3 (by omega)) <| y_S rfl <| xN [4,5,6] [4,5] rfl ?_
   refine ⟨(i + 1, ns ++ [a], _), ?_, (by simp only; omega), ⟨rfl, rfl, rfl, rfl, rfl, trivial⟩⟩
   exact ⟨by omega, b1f (by omega) hrd hri⟩
  iterate 6 refine gF rfl rfl ?_
  refine F0 rfl (by assumption) rfl rfl ?_
  refine J6 ⟨fun _ => ⟨by decide +kernel, by decide +kernel⟩, [(.t 4, _), (.t 5, _), (.t 6, _), (.t 9, _), (.t 75, _), (.h 4, _), (.h 5, _)], ⟨rfl, rfl, rfl, rfl, rfl, rfl, rfl, rfl, rfl, rfl, rfl, rfl, rfl, rfl, trivial⟩, ?_⟩
  refine A5 rfl (fun hc => ?_) (fun hc => absurd hc (by decide))
  refine A3 <| A0 ?_
  (refine B2 rfl rfl (fun _ => rfl) ?_; intro g2)
  refine y_S rfl <| xN [2,3] [2] rfl <| A8 <| C0 (G3 rfl rfl (by simp) (by rfl) (D4 rfl rfl (C7 B5))) ?_
  have hno : rdI (ps.getD i default) = none := by exact b0w (m := a) hdU (by (rw [hng, if_neg (by decide)]; omega)) (by exact .inl (by rw [hup]; assumption))
  rw [rdL, ← hps, M1 (show i < ps.length by omega) hno]
  rfl
 refine E3 <| A3 <| A0 <| y_M rfl ?_
 (refine xO rfl rfl (by simp) rfl (fun _ => rfl) (fun _ => rfl) ?_; intro g2)
 refine y_S rfl <| xN [2,3] [2] rfl <| A8 <| C0 (G3 rfl rfl (by simp) (by exact A6 fun _ => rfl) (D4 rfl rfl (C7 B5))) ?_
 have hil : i = ps.length := by omega
 rw [hil, List.take_length] at hrd
 rw [rdL, ← hps, hrd]
 rfl

theorem b2w : F4 Tryz.f41 = [0, 2, 3, 4, 22, 24, 5, 6] := by kernel_rfl
theorem c8i (s : List UInt8) (hs : s.length ≤ 1048576) : CW (cxT oG) 41 [tV s] = some (.tup [.own 1 ((c3x s).map iV), bV (numsOf s).isSome], []) := by
 refine E5 rfl Tryz.func41 rfl ⟨by kernel_rfl, rfl, dT rfl, dT rfl, by decide⟩ b2w <| A3 <| A0 ?_
 (refine B2 rfl rfl (fun _ => rfl) ?_; intro g2)
 refine y_S rfl <| xN [0] [] rfl <| A3 <| A0 <| y_M rfl <| a1o rfl rfl <| y_S rfl <| xN [0,4] [] rfl <| A3 <| A3 <| A0 <| y_M rfl <| F8 rfl rfl <| y_M rfl ?_
 refine C6 rfl rfl ?_ ?_ <;> intro hg0 <;> have hg := hg0 <;> try simp only [SG] at hg
 ·refine y_M rfl <| gT rfl rfl <| P4 (n := 0) rfl rfl rfl (by omega) <| gT rfl rfl <| c0g rfl rfl <| F3 rfl (by assumption) rfl rfl <| y_M rfl ?_
  refine C6 rfl rfl ?_ ?_ <;> intro hg0 <;> have hg := hg0 <;> try simp only [SG] at hg
  ·refine y_M rfl <| gT rfl rfl <| y_M rfl <| gT rfl rfl <| P6 rfl rfl (C3 (by omega)) <| gT rfl rfl ?_
   rw [show ((s.length : Int) - 1) = ((s.length - 1 : Nat) : Int) by omega]
   refine P4 rfl rfl rfl (by omega) <| gT rfl rfl <| c0g rfl rfl <| F3 rfl (by assumption) rfl rfl <| xN [0,4,22] [] rfl ?_
   refine A5 rfl ?_ ?_ <;> intro hc <;> try simp only [SL] at hc
   ·refine A3 <| A0 ?_
    (refine B2 rfl rfl (fun _ => rfl) ?_; intro g2)
    refine y_S rfl <| xN [2,3] [2] rfl <| A8 <| C0 (G3 rfl rfl (by simp) (by rfl) (D4 rfl rfl (C7 B5))) ?_
    obtain ⟨hn1, hn2⟩ := a6l (s := s) (by exact .inr (.inr (by omega)))
    rw [hn1, hn2]
    rfl
   have hin := d3g (s := s) (by omega) (by omega) (by omega)
   refine A7 <| A3 <| A3 <| A0 <| y_M rfl <| M9 rfl rfl <| xN [0,4,24] [] rfl ?_
   refine A5 rfl ?_ ?_ <;> intro hc <;> try simp only [SL] at hc
   ·refine A3 <| A0 <| B4 (es := List.map iV []) rfl rfl (dT rfl) rfl rfl (fun _ => B1 (A6 fun _ => rfl)) (fun _ => rfl) ?_
    intro g25
    (refine xO rfl rfl (by simp) rfl (fun _ => rfl) (fun _ => rfl) ?_; intro g2)
    refine y_S rfl <| xN [2,3] [2] rfl <| A8 <| C0 (G3 rfl rfl (by simp) (by rfl) (D4 rfl rfl (C7 B5))) ?_
    obtain ⟨hn1, hn2⟩ := hin.1 (by omega)
    rw [hn1, hn2]
    rfl
   refine A7 <| A3 <| A0 <| y_M rfl <| y_M rfl <| P6 rfl rfl (C3 (by omega)) ?_
   rw [show ((s.length : Int) - 1) = ((s.length - 1 : Nat) : Int) by omega]
   have hrl := d9o ((s.drop 1).take (s.length - 1 - 1))
   have hin2 : ((s.drop 1).take (s.length - 1 - 1)).length ≤ s.length - 2 := by simp only [List.length_take, List.length_drop]; omega
   refine U9 rfl rfl (H0 rfl) (H0 (n := 1) rfl) (by omega) ?_
   apply xC rfl
   ·apply A9
    ·exact B7 rfl
    exact C5
   ·exact c9y ((s.drop 1).take (s.length - 1 - 1)) (by omega)
   refine ⟨⟨rfl, rfl, rfl, dT rfl, rfl⟩, .inr ⟨K5 _ _, rfl⟩, B3, H5 (N0 fun _ => I4 rfl N1), fun _ => rfl, fun g31 => ?_⟩
   simp only [List.length_map]
   refine y_M rfl <| y_E rfl <| y_E rfl ?_
   (refine xO rfl rfl (by simp) rfl (fun _ => rfl) (fun _ => rfl) ?_; intro g5)
   refine y_S rfl <| xN [5,6] [5] rfl <| A3 <| A0 <| y_M rfl <| y_M rfl <| y_M rfl ?_
   refine C6 rfl rfl ?_ ?_ <;> intro hg0 <;> have hg := hg0 <;> try simp only [SG] at hg
   ·refine y_M rfl <| gT rfl rfl ?_
    apply xC rfl
    ·apply A9
     ·exact I9 rfl rfl rfl (by (simp; done)) (fun _ => rfl)
     exact C5
    ·exact a6h ((rdL ((s.drop 1).take (s.length - 1 - 1))).getD []) (by omega)
    refine ⟨⟨rfl, rfl, rfl, dT rfl, rfl⟩, .inr ⟨rfl, rfl⟩, B3, C9 rfl, fun _ => rfl, fun g38 => ?_⟩
    refine F0 rfl (by assumption) rfl rfl ?_
    (refine xO rfl rfl (by simp) rfl (fun _ => rfl) (fun _ => rfl) ?_; intro g2)
    refine y_S rfl <| xN [2,3] [2] rfl <| A8 <| C0 (G3 rfl rfl (by simp) (by exact A6 fun _ => rfl) (D4 rfl rfl (C7 B5))) ?_
    obtain ⟨hn1, hn2⟩ := hin.2 (by omega)
    rw [hn2, b5a hn1]
    simp_all
    try rfl
   refine gF rfl rfl <| F3 rfl (by assumption) rfl rfl ?_
   (refine xO rfl rfl (by simp) rfl (fun _ => rfl) (fun _ => rfl) ?_; intro g2)
   refine y_S rfl <| xN [2,3] [2] rfl <| A8 <| C0 (G3 rfl rfl (by simp) (by exact A6 fun _ => rfl) (D4 rfl rfl (C7 B5))) ?_
   obtain ⟨hn1, hn2⟩ := hin.2 (by omega)
   rw [hn2, b5a hn1]
   simp_all
   try rfl
  iterate 4 refine gF rfl rfl ?_
  refine F0 rfl (by assumption) rfl rfl <| xN [0,4,22] [] rfl ?_
  refine A5 rfl (fun hc => ?_) (fun hc => absurd hc (by decide))
  refine A3 <| A0 ?_
  (refine B2 rfl rfl (fun _ => rfl) ?_; intro g2)
  refine y_S rfl <| xN [2,3] [2] rfl <| A8 <| C0 (G3 rfl rfl (by simp) (by rfl) (D4 rfl rfl (C7 B5))) ?_
  obtain ⟨hn1, hn2⟩ := a6l (s := s) (by exact .inr (.inl (by omega)))
  rw [hn1, hn2]
  rfl
 refine gF rfl rfl <| gF rfl rfl <| F0 rfl (by assumption) rfl rfl <| y_M rfl ?_
 iterate 5 refine I7 rfl rfl rfl ?_
 refine F0 rfl rfl rfl rfl <| xN [0,4,22] [] rfl ?_
 refine A5 rfl (fun hc => ?_) (fun hc => absurd hc (by decide))
 refine A3 <| A0 ?_
 (refine B2 rfl rfl (fun _ => rfl) ?_; intro g2)
 refine y_S rfl <| xN [2,3] [2] rfl <| A8 <| C0 (G3 rfl rfl (by simp) (by rfl) (D4 rfl rfl (C7 B5))) ?_
 obtain ⟨hn1, hn2⟩ := a6l (s := s) (by exact .inl (by omega))
 rw [hn1, hn2]
 rfl

theorem b2z : F4 Tryz.f29 = [0, 2, 3, 4, 15, 6, 24, 5, 7, 34, 43, 9, 12, 53, 8, 10, 11, 48, 59] := by kernel_rfl
theorem b5s (ws : List W8) (hws : ws.length ≤ 1048600 ∧ ∀ w ∈ ws, w.length ≤ 1048576) : CW (cxT oG) 29 [.list (ws.map tV)] = some (rtR (rdT ws), []) := by
 obtain ⟨kk, hkk⟩ : ∃ kk : Nat, ws.length < kk := ⟨_, Nat.lt_succ_self _⟩
 revert ws
 induction kk with
 | zero => intro ws hws hkk; exact absurd hkk (Nat.not_lt_zero _)
 | succ kk ih =>
  intro ws hws hkk
  refine E5 rfl Tryz.func29 rfl ⟨by kernel_rfl, rfl, dT rfl, dT rfl, by decide⟩ b2z <| A3 <| A0 <| y_A rfl (fun _ => rfl) ?_
  intro g2
  (refine B2 rfl rfl (fun _ => rfl) ?_; intro g3)
  refine y_S rfl <| xN [0,2] [2] rfl <| A3 <| A3 <| A0 <| y_M rfl <| B9 rfl rfl <| M9 rfl rfl <| xN [0,2,15] [2] rfl ?_
  refine A5 rfl ?_ ?_ <;> intro hc <;> try simp only [SL] at hc
  ·have hw0 : ws = [] := List.length_eq_zero_iff.1 (by simpa using hc)
   subst hw0
   refine A3 <| A0 <| H1 (fs := [_, _, _]) rfl rfl rfl rfl rfl <| xB rfl rfl rfl rfl rfl rfl rfl rfl rfl ?_
   (refine B2 rfl rfl (fun _ => rfl) ?_; intro g3)
   refine y_S rfl <| xN [2,3,4] [2,3] rfl <| A8 <| C0 (D5 rfl rfl rfl rfl (C4 rfl (G8 rfl (G8 rfl F9))) (G3 rfl rfl (by simp) (by rfl) (D4 rfl rfl (C7 B5)))) ?_
   rfl
  obtain ⟨w, ws1, rfl⟩ : ∃ w ws1, ws = w :: ws1 := List.exists_cons_of_ne_nil (fun e => by subst e; simp at hc)
  have hw := hws.2 w (by simp)
  refine A7 <| A3 <| A0 <| y_M rfl <| B8 rfl rfl rfl (fun _ => rfl) (by (change 0 < _; omega)) <| y_I rfl ?_
  apply xC rfl
  ·apply A9
   ·exact B7 rfl
   exact C5
  ·exact c8i w (by omega)
  refine ⟨⟨rfl, rfl, rfl, dT rfl, rfl⟩, .inr ⟨K5 _ _, rfl⟩, B3, H5 (N0 fun _ => I4 rfl N1), fun _ => rfl, fun g21 => ?_⟩
  simp only [List.length_map]
  refine y_M rfl <| y_E rfl <| y_E rfl ?_
  (refine xO rfl rfl (by simp) rfl (fun _ => rfl) (fun _ => rfl) ?_; intro g5)
  refine y_S rfl <| xN [0,2,5,6] [2,5] rfl <| A3 <| A3 <| A0 <| y_M rfl <| xN [0,2,5,24] [2,5] rfl ?_
  refine A5 rfl ?_ ?_ <;> intro hc <;> try simp only [SL] at hc
  ·obtain ⟨ns, hns⟩ := Option.isSome_iff_exists.1 hc
   have hraw := d9h hns
   refine A3 <| A0 <| y_M rfl <| H1 (fs := [_, _, _]) rfl rfl rfl rfl rfl <| y_M rfl <| N7 rfl rfl rfl (Mv.sized_map fun _ => rfl) H8 (H0 (n := 1) rfl) (by simp) ?_
   rw [show ((List.map tV (w :: ws1)).drop 1).take ((List.map tV (w :: ws1)).length - 1) = ws1.map tV from by rw [List.map_cons, List.drop_succ_cons, List.drop_zero, List.take_of_length_le (by simp)]]
   refine E7 rfl rfl rfl rfl (F6 rfl (M3 (by decide) (F6 rfl I6))) (fun _ => rfl) ⟨by decide, rfl, dT rfl, Nat.le_refl _⟩ (fun _ => rfl) (fun _ => rfl) (fun _ => (by rfl)) ?_
   intro z
   simp only [I2, List.cons_append, List.nil_append]
   refine y_S rfl <| y_S rfl ?_
   refine J6 ⟨fun _ => ⟨by (simp only [Z0, List.nil_append, List.append_nil, List.map_cons, List.map_nil, List.cons_append]; decide +kernel), by decide +kernel⟩, [(.t 2, _), (.t 3, _), (.t 4, _), (.h 2, _), (.h 5, _)], ⟨rfl, rfl, rfl, rfl, rfl, rfl, rfl, rfl, rfl, rfl, trivial⟩, ?_⟩
   refine A8 <| C0 (D5 rfl rfl rfl rfl (C4 rfl (J8 rfl rfl (by simp) (fun _ => rfl) (G8 rfl F9))) (D4 rfl rfl (D4 rfl rfl (C7 B5)))) ?_
   rw [c3t hns, hraw]
   rfl
  have hnn : numsOf w = none := by simpa using hc
  refine A7 <| A3 <| A0 <| y_M rfl <| B8 rfl rfl rfl (fun _ => rfl) (by (change 0 < _; omega)) <| y_I rfl ?_
  refine xC1 rfl rfl (d2r (bA w)) ⟨rfl, rfl, rfl⟩ rfl rfl fun g32 => ?_
  refine y_S rfl <| xN [0,2,7] [2] rfl <| A3 <| A3 <| A0 <| y_M rfl <| F8 rfl rfl <| xN [0,2,7,34] [2] rfl ?_
  refine A5 rfl ?_ ?_ <;> intro hc <;> try simp only [SL] at hc
  ·refine A3 <| A0 <| H1 (fs := [_, _, _]) rfl rfl rfl rfl rfl <| xB rfl rfl rfl rfl rfl rfl rfl rfl rfl ?_
   (refine B2 rfl rfl (fun _ => rfl) ?_; intro g3)
   refine y_S rfl <| xN [2,3,4] [2,3] rfl <| A8 <| C0 (D5 rfl rfl rfl rfl (C4 rfl (G8 rfl (G8 rfl F9))) (G3 rfl rfl (by simp) (by rfl) (D4 rfl rfl (C7 B5)))) ?_
   rw [d1d hnn (by omega)]
   rfl
  refine A7 <| A3 <| A0 <| y_M rfl <| B8 rfl rfl rfl (fun _ => rfl) (by (change 0 < _; omega)) <| y_I rfl <| H1 (fs := [_, _, _]) rfl rfl rfl rfl rfl <| y_A rfl (fun _ => rfl) ?_
  intro g8
  refine xB rfl rfl rfl rfl rfl rfl rfl rfl rfl <| xN [0,2,7,8] [2,8] rfl <| A3 <| A0 ?_
  rcases c0e (w := bA w) (by omega) with hn | hn | hn
  ·rw [hn]
   refine y_M rfl <| N7 rfl rfl rfl (Mv.sized_map fun _ => rfl) H8 (H0 (n := 1) rfl) (by simp) ?_
   rw [show ((List.map tV (w :: ws1)).drop 1).take ((List.map tV (w :: ws1)).length - 1) = ws1.map tV from by rw [List.map_cons, List.drop_succ_cons, List.drop_zero, List.take_of_length_le (by simp)]]
   refine y_S rfl <| xN [2,7,8,9] [2,8] rfl <| A3 <| B0 <| G0 <| A3 <| A3 <| A0 <| y_M rfl <| O6 rfl rfl <| xN [2,7,8,9,43] [2,8] rfl ?_
   refine A5 rfl (fun hc => absurd hc (by decide)) (fun hc => ?_)
   refine E3 <| A3 <| A0 <| y_B rfl <| y_M rfl <| xB rfl rfl rfl rfl rfl rfl rfl rfl rfl <| y_S rfl <| y_S rfl <| xN [2,3,4] [2] rfl <| A8 <| C0 (D5 rfl rfl rfl rfl (C4 rfl (G8 rfl (G8 rfl F9))) (D4 rfl rfl (D4 rfl rfl (C7 B5)))) ?_
   rw [d1s hnn hn]
   rfl
  ·rw [hn]
   refine y_M rfl <| N7 rfl rfl rfl (Mv.sized_map fun _ => rfl) H8 (H0 (n := 1) rfl) (by simp) ?_
   rw [show ((List.map tV (w :: ws1)).drop 1).take ((List.map tV (w :: ws1)).length - 1) = ws1.map tV from by rw [List.map_cons, List.drop_succ_cons, List.drop_zero, List.take_of_length_le (by simp)]]
   refine y_S rfl <| xN [2,7,8,9] [2,8] rfl <| A3 <| B0 <| G0 <| A3 <| A3 <| A0 <| y_M rfl <| O6 rfl rfl <| xN [2,7,8,9,43] [2,8] rfl ?_
   refine A5 rfl (fun hc => ?_) (fun hc => absurd hc (by decide))
   refine A7 <| A3 <| B0 <| A3 <| A0 <| y_M rfl ?_
   rcases hr1 : rdT ws1 with _ | ⟨k1, r1⟩
   ·skip
    apply xC rfl
    ·apply A9
     ·exact B7 rfl
     exact C5
    ·exact (by have hi := ih ws1 ⟨by simp only [List.length_cons] at hws; omega, fun x hx => hws.2 x (List.mem_cons_of_mem _ hx)⟩ (by simp only [List.length_cons] at hkk; omega); rw [hr1] at hi; exact hi)
    refine ⟨⟨rfl, rfl, rfl, dT rfl, rfl⟩, .inl rfl, B3, H5 (I4 rfl (N0 fun _ => I4 rfl N1)), fun _ => C1 (B1 rfl) (by rfl), fun g48 => ?_⟩
    refine y_M rfl <| y_E rfl <| y_E rfl <| y_E rfl <| y_A rfl (fun _ => rfl) ?_
    intro g10
    refine xB rfl rfl rfl rfl rfl rfl rfl rfl rfl ?_
    (refine H9 rfl rfl (by (simp; done)) rfl (fun _ => (B1 (by rfl))) (fun _ => rfl) ?_; intro g11)
    refine y_S rfl <| xN [2,7,8,10,11,12] [2,8,10] rfl <| A3 <| A3 <| A0 <| y_M rfl <| J0 rfl <| xN [2,7,8,10,11,53] [2,8,10] rfl ?_
    refine A5 rfl (fun hc => ?_) (fun hc => absurd hc (by decide))
    refine A3 <| A0 <| H1 (fs := [_, _, _]) rfl rfl rfl rfl rfl <| xB rfl rfl rfl rfl rfl rfl rfl rfl rfl ?_
    (refine B2 rfl rfl (fun _ => rfl) ?_; intro g3)
    refine y_S rfl <| xN [2,3,4] [2,3] rfl <| A8 <| C0 (D5 rfl rfl rfl rfl (C4 rfl (G8 rfl (G8 rfl F9))) (G3 rfl rfl (by simp) (by rfl) (D4 rfl rfl (C7 B5)))) ?_
    rw [c3b hnn hn, hr1]
    rfl
   skip
   apply xC rfl
   ·apply A9
    ·exact B7 rfl
    exact C5
   ·exact (by have hi := ih ws1 ⟨by simp only [List.length_cons] at hws; omega, fun x hx => hws.2 x (List.mem_cons_of_mem _ hx)⟩ (by simp only [List.length_cons] at hkk; omega); rw [hr1] at hi; exact hi)
   refine ⟨⟨rfl, rfl, rfl, dT rfl, rfl⟩, .inl rfl, B3, K4 rfl, fun _ => rfl, fun g48 => ?_⟩
   refine y_M rfl <| y_E rfl <| y_E rfl <| y_E rfl <| y_A rfl (fun _ => rfl) ?_
   intro g10
   refine xB rfl rfl rfl rfl rfl rfl rfl rfl rfl <| y_S rfl <| y_S rfl <| xN [2,7,8,10,11,12] [2,8,10] rfl <| A3 <| A3 <| A0 <| y_M rfl <| J0 rfl <| xN [2,7,8,10,11,53] [2,8,10] rfl ?_
   refine A5 rfl (fun hc => absurd hc (by decide)) (fun hc => ?_)
   refine A7 <| A3 <| A0 <| y_F rfl <| y_L rfl <| y_B rfl <| a2j (es := List.map trV [_]) rfl rfl (dT rfl) rfl rfl (fun _ => B1 (A6 fun _ => rfl)) (fun _ => rfl) ?_
   intro g58
   refine Q7 rfl rfl rfl (by simp) (by decide) rfl rfl rfl (dT rfl) (fun _ => ⟨rfl, rfl⟩) (by simp only [G9]; (simp only [List.length_nil, List.length_cons, List.length_append, Nat.zero_add, List.length_map]; omega)) (fun _ => rfl) ?_
   intro g59
   refine y_F rfl <| M4 rfl rfl rfl rfl rfl (Nat.le_refl _) rfl <| xN [2,7,8,11] [2,8,1000059] rfl <| A0 <| y_M rfl <| y_S rfl <| xN [2,7,8,9] [2,8,1000059] rfl <| A0 <| y_M rfl <| P6 rfl rfl (C3 (by omega)) <| y_S rfl <| xN [2,7,8,9] [2,8,1000059] rfl <| G0 <| A3 <| A3 <| A0 <| y_M rfl <| O6 rfl rfl <| xN [2,7,8,9,43] [2,8,1000059] rfl ?_
   refine A5 rfl (fun hc => absurd hc (by decide)) (fun hc => ?_)
   refine E3 <| A3 <| A0 <| y_B rfl <| y_M rfl <| E7 rfl rfl rfl rfl (F6 rfl (F6 rfl (X6 (by decide) (by decide) rfl (by simp) fun _ => I6))) (fun _ => rfl) ⟨by decide, rfl, dT rfl, Nat.le_refl _⟩ (fun _ => rfl) (fun _ => rfl) (fun _ => C1 (by rfl) (C1 (B1 (A6 fun _ => rfl)) (by rfl))) ?_
   intro z
   simp only [I2, List.cons_append, List.nil_append]
   refine y_S rfl <| y_S rfl <| xN [2,3,4] [2,300002] rfl <| A8 <| C0 (D5 rfl rfl rfl rfl (C4 rfl (G8 rfl (J8 rfl rfl (by simp) (fun _ => rfl) F9))) (D4 rfl rfl (D4 rfl rfl (C7 B5)))) ?_
   rw [c3b hnn hn, hr1]
   rfl
  rw [hn]
  refine y_M rfl <| N7 rfl rfl rfl (Mv.sized_map fun _ => rfl) H8 (H0 (n := 1) rfl) (by simp) ?_
  rw [show ((List.map tV (w :: ws1)).drop 1).take ((List.map tV (w :: ws1)).length - 1) = ws1.map tV from by rw [List.map_cons, List.drop_succ_cons, List.drop_zero, List.take_of_length_le (by simp)]]
  refine y_S rfl <| xN [2,7,8,9] [2,8] rfl <| A3 <| B0 <| G0 <| A3 <| A3 <| A0 <| y_M rfl <| O6 rfl rfl <| xN [2,7,8,9,43] [2,8] rfl ?_
  refine A5 rfl (fun hc => ?_) (fun hc => absurd hc (by decide))
  refine A7 <| A3 <| B0 <| A3 <| A0 <| y_M rfl ?_
  rcases hr1 : rdT ws1 with _ | ⟨k1, r1⟩
  ·skip
   apply xC rfl
   ·apply A9
    ·exact B7 rfl
    exact C5
   ·exact (by have hi := ih ws1 ⟨by simp only [List.length_cons] at hws; omega, fun x hx => hws.2 x (List.mem_cons_of_mem _ hx)⟩ (by simp only [List.length_cons] at hkk; omega); rw [hr1] at hi; exact hi)
   refine ⟨⟨rfl, rfl, rfl, dT rfl, rfl⟩, .inl rfl, B3, H5 (I4 rfl (N0 fun _ => I4 rfl N1)), fun _ => C1 (B1 rfl) (by rfl), fun g48 => ?_⟩
   refine y_M rfl <| y_E rfl <| y_E rfl <| y_E rfl <| y_A rfl (fun _ => rfl) ?_
   intro g10
   refine xB rfl rfl rfl rfl rfl rfl rfl rfl rfl ?_
   (refine H9 rfl rfl (by (simp; done)) rfl (fun _ => (B1 (by rfl))) (fun _ => rfl) ?_; intro g11)
   refine y_S rfl <| xN [2,7,8,10,11,12] [2,8,10] rfl <| A3 <| A3 <| A0 <| y_M rfl <| J0 rfl <| xN [2,7,8,10,11,53] [2,8,10] rfl ?_
   refine A5 rfl (fun hc => ?_) (fun hc => absurd hc (by decide))
   refine A3 <| A0 <| H1 (fs := [_, _, _]) rfl rfl rfl rfl rfl <| xB rfl rfl rfl rfl rfl rfl rfl rfl rfl ?_
   (refine B2 rfl rfl (fun _ => rfl) ?_; intro g3)
   refine y_S rfl <| xN [2,3,4] [2,3] rfl <| A8 <| C0 (D5 rfl rfl rfl rfl (C4 rfl (G8 rfl (G8 rfl F9))) (G3 rfl rfl (by simp) (by rfl) (D4 rfl rfl (C7 B5)))) ?_
   rw [a7c hnn hn, hr1]
   rfl
  skip
  apply xC rfl
  ·apply A9
   ·exact B7 rfl
   exact C5
  ·exact (by have hi := ih ws1 ⟨by simp only [List.length_cons] at hws; omega, fun x hx => hws.2 x (List.mem_cons_of_mem _ hx)⟩ (by simp only [List.length_cons] at hkk; omega); rw [hr1] at hi; exact hi)
  refine ⟨⟨rfl, rfl, rfl, dT rfl, rfl⟩, .inl rfl, B3, K4 rfl, fun _ => rfl, fun g48 => ?_⟩
  refine y_M rfl <| y_E rfl <| y_E rfl <| y_E rfl <| y_A rfl (fun _ => rfl) ?_
  intro g10
  refine xB rfl rfl rfl rfl rfl rfl rfl rfl rfl <| y_S rfl <| y_S rfl <| xN [2,7,8,10,11,12] [2,8,10] rfl <| A3 <| A3 <| A0 <| y_M rfl <| J0 rfl <| xN [2,7,8,10,11,53] [2,8,10] rfl ?_
  refine A5 rfl (fun hc => absurd hc (by decide)) (fun hc => ?_)
  refine A7 <| A3 <| A0 <| y_F rfl <| y_L rfl <| y_B rfl <| a2j (es := List.map trV [_]) rfl rfl (dT rfl) rfl rfl (fun _ => B1 (A6 fun _ => rfl)) (fun _ => rfl) ?_
  intro g58
  refine Q7 rfl rfl rfl (by simp) (by decide) rfl rfl rfl (dT rfl) (fun _ => ⟨rfl, rfl⟩) (by simp only [G9]; (simp only [List.length_nil, List.length_cons, List.length_append, Nat.zero_add, List.length_map]; omega)) (fun _ => rfl) ?_
  intro g59
  refine y_F rfl <| M4 rfl rfl rfl rfl rfl (Nat.le_refl _) rfl <| xN [2,7,8,11] [2,8,1000059] rfl <| A0 <| y_M rfl <| y_S rfl <| xN [2,7,8,9] [2,8,1000059] rfl <| A0 <| y_M rfl <| P6 rfl rfl (C3 (by omega)) <| y_S rfl <| xN [2,7,8,9] [2,8,1000059] rfl <| G0 <| A3 <| A3 <| A0 <| y_M rfl <| O6 rfl rfl <| xN [2,7,8,9,43] [2,8,1000059] rfl ?_
  refine A5 rfl (fun hc => ?_) (fun hc => absurd hc (by decide))
  refine A7 <| A3 <| B0 <| A3 <| A0 <| y_M rfl ?_
  rcases hr2 : rdT r1 with _ | ⟨k2, r2⟩
  ·skip
   apply xC rfl
   ·apply A9
    ·exact B7 rfl
    exact C5
   ·exact (by have hi := ih r1 ⟨by have := a0g hr1; simp only [List.length_cons] at hws; omega, fun x hx => hws.2 x (List.mem_cons_of_mem _ (b3x hr1 x hx))⟩ (by have := a0g hr1; simp only [List.length_cons] at hkk; omega); rw [hr2] at hi; exact hi)
   refine ⟨⟨rfl, rfl, rfl, dT rfl, rfl⟩, .inl rfl, B3, H5 (I4 rfl (N0 fun _ => I4 rfl N1)), fun _ => C1 (B1 rfl) (by rfl), fun g48 => ?_⟩
   refine y_M rfl <| y_E rfl <| y_E rfl <| y_E rfl <| y_A rfl (fun _ => rfl) ?_
   intro g10
   refine xB rfl rfl rfl rfl rfl rfl rfl rfl rfl ?_
   (refine H9 rfl rfl (by (simp; done)) rfl (fun _ => (B1 (by rfl))) (fun _ => rfl) ?_; intro g11)
   refine y_S rfl <| xN [2,7,8,10,11,12] [2,8,1000059,10] rfl <| A3 <| A3 <| A0 <| y_M rfl <| J0 rfl <| xN [2,7,8,10,11,53] [2,8,1000059,10] rfl ?_
   refine A5 rfl (fun hc => ?_) (fun hc => absurd hc (by decide))
   refine A3 <| A0 <| H1 (fs := [_, _, _]) rfl rfl rfl rfl rfl <| xB rfl rfl rfl rfl rfl rfl rfl rfl rfl ?_
   (refine B2 rfl rfl (fun _ => rfl) ?_; intro g3)
   refine y_S rfl <| xN [2,3,4] [2,3] rfl <| A8 <| C0 (D5 rfl rfl rfl rfl (C4 rfl (G8 rfl (G8 rfl F9))) (G3 rfl rfl (by simp) (by rfl) (D4 rfl rfl (C7 B5)))) ?_
   rw [a7c hnn hn, hr1, Option.bind_some, hr2]
   rfl
  skip
  apply xC rfl
  ·apply A9
   ·exact B7 rfl
   exact C5
  ·exact (by have hi := ih r1 ⟨by have := a0g hr1; simp only [List.length_cons] at hws; omega, fun x hx => hws.2 x (List.mem_cons_of_mem _ (b3x hr1 x hx))⟩ (by have := a0g hr1; simp only [List.length_cons] at hkk; omega); rw [hr2] at hi; exact hi)
  refine ⟨⟨rfl, rfl, rfl, dT rfl, rfl⟩, .inl rfl, B3, K4 rfl, fun _ => rfl, fun g48 => ?_⟩
  refine y_M rfl <| y_E rfl <| y_E rfl <| y_E rfl <| y_A rfl (fun _ => rfl) ?_
  intro g10
  refine xB rfl rfl rfl rfl rfl rfl rfl rfl rfl <| y_S rfl <| y_S rfl <| xN [2,7,8,10,11,12] [2,8,1000059,10] rfl <| A3 <| A3 <| A0 <| y_M rfl <| J0 rfl <| xN [2,7,8,10,11,53] [2,8,1000059,10] rfl ?_
  refine A5 rfl (fun hc => absurd hc (by decide)) (fun hc => ?_)
  refine A7 <| A3 <| A0 <| y_F rfl <| y_L rfl <| y_B rfl <| a2j (es := List.map trV [_]) rfl rfl (dT rfl) rfl rfl (fun _ => B1 (A6 fun _ => rfl)) (fun _ => rfl) ?_
  intro g58
  refine xA rfl rfl rfl rfl (by simp) (by simp) rfl rfl rfl rfl rfl (fun _ => rfl) (by simp only [LN]; omega) (fun _ => rfl) ?_
  intro g59
  refine y_F rfl <| M4 rfl rfl rfl rfl rfl (Nat.le_refl _) rfl <| xN [2,7,8,11] [2,8,1000059] rfl <| A0 <| y_M rfl <| y_S rfl <| xN [2,7,8,9] [2,8,1000059] rfl <| A0 <| y_M rfl <| P6 rfl rfl (C3 (by omega)) <| y_S rfl <| xN [2,7,8,9] [2,8,1000059] rfl <| G0 <| A3 <| A3 <| A0 <| y_M rfl <| O6 rfl rfl <| xN [2,7,8,9,43] [2,8,1000059] rfl ?_
  refine A5 rfl (fun hc => absurd hc (by decide)) (fun hc => ?_)
  refine E3 <| A3 <| A0 <| y_B rfl <| y_M rfl <| E7 rfl rfl rfl rfl (F6 rfl (F6 rfl (X6 (by decide) (by decide) rfl (by simp) fun _ => I6))) (fun _ => rfl) ⟨by decide, rfl, dT rfl, Nat.le_refl _⟩ (fun _ => rfl) (fun _ => rfl) (fun _ => C1 (by rfl) (C1 (B1 (A6 fun _ => rfl)) (by rfl))) ?_
  intro z
  simp only [I2, List.cons_append, List.nil_append]
  refine y_S rfl <| y_S rfl <| xN [2,3,4] [2,300002] rfl <| A8 <| C0 (D5 rfl rfl rfl rfl (C4 rfl (G8 rfl (J8 rfl rfl (by simp) (fun _ => rfl) F9))) (D4 rfl rfl (D4 rfl rfl (C7 B5)))) ?_
  rw [a7c hnn hn, hr1, Option.bind_some, hr2]
  rfl

theorem b3a : F4 Tryz.f15 = [0, 2, 3, 4, 17, 6, 7, 5, 21] := by kernel_rfl
theorem c9k (s : List UInt8) (hs : s.length ≤ 1048576) : CW (cxT oG) 15 [tV s] = some (.tup [trV (rpT s), bV (rdPlan s).isSome], []) := by
 obtain ⟨ws, hws⟩ : ∃ ws, ws = splitB 32 s := ⟨_, rfl⟩
 have hwl := U5 32 s
 have hwp := W7 32 s
 rw [← hws] at hwl hwp
 refine E5 rfl Tryz.func15 rfl ⟨by kernel_rfl, rfl, dT rfl, dT rfl, by decide⟩ b3a <| A3 <| A0 <| y_A rfl (fun _ => rfl) ?_
 intro g2
 refine y_S rfl <| xN [0,2] [2] rfl <| A3 <| A0 <| y_M rfl ?_
 apply xC rfl
 ·apply A9
  ·exact B7 rfl
  apply A9
  ·exact B7 rfl
  exact C5
 ·exact b9w s (by omega) 32
 refine ⟨⟨rfl, rfl, rfl, dT rfl, rfl⟩, .inl rfl, B3, K0, fun _ => rfl, fun g9 => ?_⟩
 rw [← hws]
 try simp only [List.length_map]
 (refine xO rfl rfl (by simp) rfl (fun _ => rfl) (fun _ => rfl) ?_; intro g4)
 refine xN [0,2,4] [2,4] rfl <| A3 <| A3 <| A0 <| y_M rfl <| a1o rfl rfl <| O6 rfl rfl <| y_M rfl ?_
 refine C6 rfl rfl ?_ ?_ <;> intro hg0 <;> have hg := hg0 <;> try simp only [SG] at hg
 ·refine y_M rfl <| gT rfl rfl <| I5 rfl rfl <| gT rfl rfl <| O6 rfl rfl <| F3 rfl (by assumption) rfl rfl <| xN [2,4,17] [2,4] rfl ?_
  refine A5 rfl ?_ ?_ <;> intro hc <;> try simp only [SL] at hc
  ·refine A3 <| A0 <| H1 (fs := [_, _, _]) rfl rfl rfl rfl rfl <| xB rfl rfl rfl rfl rfl rfl rfl rfl rfl <| y_S rfl <| xN [2,3] [2] rfl <| A8 <| C0 (D5 rfl rfl rfl rfl (C4 rfl (G8 rfl (G8 rfl F9))) (D4 rfl rfl (C7 B5))) ?_
   obtain ⟨h1, h2⟩ := b4l (s := s) (by rw [hws] at *; omega)
   rw [h1, h2]
   rfl
  have hin := d2h hws (by omega)
  refine A7 <| A3 <| A0 <| y_M rfl ?_
  rcases hr : rdT ws with _ | ⟨t, r⟩
  ·skip
   apply xC rfl
   ·apply A9
    ·exact J2 rfl rfl (by (simp; done)) (fun _ => rfl)
    exact C5
   ·exact (by have hi := b5s (oG := oG) ws ⟨by omega, fun w hw => by have := hwp w hw; omega⟩; rw [hr] at hi; exact hi)
   refine ⟨⟨rfl, rfl, rfl, dT rfl, rfl⟩, .inl rfl, B3, H5 (I4 rfl (N0 fun _ => I4 rfl N1)), fun _ => C1 (a1f (A6 fun _ => rfl) (by decide)) (by rfl), fun g21 => ?_⟩
   refine y_M rfl <| y_E rfl <| y_E rfl <| y_E rfl <| y_A rfl (fun _ => rfl) ?_
   intro g5
   refine xB rfl rfl rfl rfl rfl rfl rfl rfl rfl ?_
   (refine H9 rfl rfl (by (simp; done)) rfl (fun _ => (B1 (by rfl))) (fun _ => rfl) ?_; intro g6)
   refine y_S rfl <| xN [2,5,6,7] [2,5] rfl <| A3 <| A0 <| y_B rfl <| y_M rfl <| y_M rfl <| I7 rfl rfl rfl <| I7 rfl rfl rfl <| I7 rfl rfl rfl <| F3 rfl rfl rfl rfl <| xB rfl rfl rfl rfl rfl rfl rfl rfl rfl <| y_S rfl <| xN [2,3] [2] rfl <| A8 <| C0 (D5 rfl rfl rfl rfl (C4 rfl (C4 rfl (C4 rfl F9))) (D4 rfl rfl (C7 B5))) ?_
   obtain ⟨h1, h2⟩ := hin.1 hr
   rw [h1, h2]
   rfl
  skip
  apply xC rfl
  ·apply A9
   ·exact J2 rfl rfl (by (simp; done)) (fun _ => rfl)
   exact C5
  ·exact (by have hi := b5s (oG := oG) ws ⟨by omega, fun w hw => by have := hwp w hw; omega⟩; rw [hr] at hi; exact hi)
  refine ⟨⟨rfl, rfl, rfl, dT rfl, rfl⟩, .inl rfl, B3, K4 rfl, fun _ => C1 (a1f (A6 fun _ => rfl) (by decide)) (by rfl), fun g21 => ?_⟩
  refine y_M rfl <| y_E rfl <| y_E rfl <| y_E rfl <| y_A rfl (fun _ => rfl) ?_
  intro g5
  refine xB rfl rfl rfl rfl rfl rfl rfl rfl rfl <| y_S rfl <| y_S rfl <| xN [2,5,6,7] [2,5] rfl <| A3 <| A0 <| y_B rfl <| y_M rfl <| y_M rfl <| H3 rfl rfl rfl <| y_M rfl <| H3 rfl rfl rfl <| B9 rfl rfl <| H3 rfl rfl rfl <| M9 rfl rfl <| F0 rfl rfl rfl rfl <| xB rfl rfl rfl rfl rfl rfl rfl rfl rfl <| y_S rfl <| xN [2,3] [2] rfl <| A8 <| C0 (D5 rfl rfl rfl rfl (C4 rfl (C4 rfl (C4 rfl F9))) (D4 rfl rfl (C7 B5))) ?_
  obtain ⟨h1, h2⟩ := hin.2 t r hr
  rw [h1, h2]
  rfl
 refine gF rfl rfl <| gF rfl rfl <| F0 rfl (by assumption) rfl rfl <| xN [2,4,17] [2,4] rfl ?_
 refine A5 rfl (fun hc => ?_) (fun hc => absurd hc (by decide))
 refine A3 <| A0 <| H1 (fs := [_, _, _]) rfl rfl rfl rfl rfl <| xB rfl rfl rfl rfl rfl rfl rfl rfl rfl <| y_S rfl <| xN [2,3] [2] rfl <| A8 <| C0 (D5 rfl rfl rfl rfl (C4 rfl (G8 rfl (G8 rfl F9))) (D4 rfl rfl (C7 B5))) ?_
 obtain ⟨h1, h2⟩ := b4l (s := s) (by rw [hws] at *; omega)
 rw [h1, h2]
 rfl

theorem b7d : F4 Tryz.f53 = [0, 2, 8, 7, 9, 6, 5, 3] := by kernel_rfl
theorem d4c (ns : List Int) (hl : ns.length ≤ 1000000) (hnb : ∀ n ∈ ns, -1000000 ≤ n ∧ n ≤ 1000000) : CW (cxT oG) 53 [L ns] = some (tV (P1 ns), []) := by
 have hg := fun (i : Nat) (h : i < ns.length) => hnb _ (a5l h)
 have hll := V9 (ns := ns) hnb
 refine E5 rfl Tryz.func53 rfl ⟨by kernel_rfl, rfl, dT rfl, dT rfl, by decide⟩ b7d <| A3 <| A0 <| y_S rfl <| xN [0] [] rfl <| A3 <| A0 ?_
 (refine B2 rfl rfl (fun _ => rfl) ?_; intro g3)
 refine xN [0,3] [3] rfl <| A3 <| A3 <| A0 <| y_M rfl <| B9 rfl rfl <| y_M rfl <| xN [3,6,7,8] [3] rfl <| B0 <| E8 (β := Nat × List (List UInt8) × Nat) [(.t 6, _), (.t 7, _)] (fun (z : Nat × List (List UInt8) × Nat) => match z with | (i, ps, g) => [(.t 8, iV i), (.t 3, .sl 3 g none 0 ps.length), (.h 3, .obj g 0 1 (ps.map tV))]) (fun (z : Nat × List (List UInt8) × Nat) => match z with | (i, ps, g) => i ≤ ns.length ∧ ps = (ns.take i).map dec) (fun (z : Nat × List (List UInt8) × Nat) => match z with | (i, ps, g) => ns.length - i) (0, [], _) ⟨rfl, rfl, rfl, rfl, rfl, trivial⟩ ⟨Nat.zero_le _, rfl⟩ ?_
 intro z hb
 obtain ⟨i, ps, g⟩ := z
 try dsimp only at hb
 obtain ⟨hi1, hps⟩ := hb
 have hpl : ps.length = i := by rw [hps]; simp; omega
 refine A3 <| A0 <| F8 rfl rfl <| xN [3,6,7,8,9] [3] rfl <| A3 ?_
 refine A5 rfl ?_ ?_ <;> intro hc <;> try simp only [SL] at hc
 ·refine A7 <| A3 <| B0 <| A3 <| A0 <| B8 rfl rfl rfl (fun _ => rfl) (by omega) <| y_I rfl <| y_S rfl <| xN [3,5,6,7,8] [3] rfl <| A0 <| y_M rfl <| y_M rfl ?_
  have hgi := hg i (by omega)
  refine xC1 rfl rfl (e0v (ns.getD i default) (by omega)) ⟨rfl, rfl, rfl⟩ rfl rfl fun g14 => ?_
  refine B4 (es := List.map tV [_]) rfl rfl (dT rfl) rfl rfl (fun _ => B1 (A6 fun _ => rfl)) (fun _ => rfl) ?_
  intro g15
  refine xA rfl rfl rfl rfl (by simp) (by simp) rfl rfl rfl rfl rfl (fun _ => rfl) (by simp only [LN]; omega) (fun _ => rfl) ?_
  intro g16
  (refine xO rfl rfl (by simp) rfl (fun _ => rfl) (fun _ => rfl) ?_; intro g3)
  refine xN [3,6,7,8] [3] rfl <| A0 <| E4 rfl rfl (C3 (by omega)) <| y_M rfl <| xN [3,6,7,8] [3] rfl ?_
  refine ⟨(i + 1, ps ++ [dec (ns.getD i default)], _), ?_, (by simp only; omega), ⟨rfl, rfl, rfl, rfl, rfl, trivial⟩⟩
  exact ⟨by omega, by rw [hps, ← b8j (by omega)]⟩
 refine E3 <| A3 <| A0 <| y_M rfl ?_
 have hpe : ps = ns.map dec := by rw [hps, List.take_of_length_le (by omega)]
 have hje : joinB 44 ps = P1 ns := by rw [hpe]; rfl
 apply xC rfl
 ·apply A9
  ·exact I9 rfl rfl rfl (by (simp; done)) (fun _ => rfl)
  apply A9
  ·exact B7 rfl
  exact C5
 ·exact d6j ps 44 (by simp only [G9]; omega) (by rw [hje]; simp only [G9]; omega)
 refine ⟨⟨rfl, rfl, rfl, dT rfl, rfl⟩, .inr ⟨rfl, rfl⟩, B3, C9 rfl, fun _ => rfl, fun g19 => ?_⟩
 refine y_S rfl <| xN [2] [] rfl <| A8 <| C2 rfl rfl trivial ?_
 rw [hje]

theorem b0t : F4 Tryz.f38 = [0, 2] := by kernel_rfl
theorem a5z (ns : List Int) (hl : ns.length ≤ 1000000) (hnb : ∀ n ∈ ns, -1000000 ≤ n ∧ n ≤ 1000000) : CW (cxT oG) 38 [L ns] = some (tV (P3 ns), []) := by
 have hll := V9 (ns := ns) hnb
 refine E5 rfl Tryz.func38 rfl ⟨by kernel_rfl, rfl, dT rfl, dT rfl, by decide⟩ b0t <| A3 <| A0 <| y_S rfl <| xN [0] [] rfl <| A3 <| A0 <| y_M rfl ?_
 refine xC1 rfl rfl (d4c ns hl hnb) ⟨rfl, rfl, rfl⟩ rfl rfl fun g4 => ?_
 iterate 2 refine L2 rfl rfl (by simp only [G9, List.length_append, List.length_cons, List.length_nil]; omega) ?_
 refine y_S rfl <| xN [2] [] rfl <| A8 <| C2 rfl rfl trivial ?_
 rfl

theorem b0r : F4 Tryz.f68 = [0, 2, 3, 4, 6, 5, 27, 29, 33, 32, 34, 31, 9, 11, 43, 10, 7] := by kernel_rfl
theorem c5b (w : List UInt8) (hs : w.length ≤ 1048576) : CW (cxT oG) 68 [tV w] = some (.tup [.own 1 ((rlX w).map iV), bV (okI w)], []) := by
 have hc1 := d7y 91 w
 have hc2 := d5o 93 (a4l 91 w)
 refine E5 rfl Tryz.func68 rfl ⟨by kernel_rfl, rfl, dT rfl, dT rfl, by decide⟩ b0r <| A3 <| A0 ?_
 (refine B2 rfl rfl (fun _ => rfl) ?_; intro g2)
 refine y_S rfl <| xN [0] [] rfl <| A3 <| A0 <| y_M rfl ?_
 apply xC rfl
 ·apply A9
  ·exact B7 rfl
  apply A9
  ·exact B7 rfl
  exact C5
 ·exact e1k w 91
 refine ⟨⟨rfl, rfl, rfl, dT rfl, rfl⟩, .inl rfl, B3, K4 rfl, fun _ => rfl, fun g14 => ?_⟩
 refine y_M rfl <| y_E rfl <| y_E rfl <| y_S rfl <| y_S rfl <| xN [0,4,5] [] rfl <| A3 <| A0 <| y_M rfl ?_
 apply xC rfl
 ·apply A9
  ·exact B7 rfl
  apply A9
  ·exact B7 rfl
  exact C5
 ·exact e1s (a4l 91 w) 93 (by omega)
 refine ⟨⟨rfl, rfl, rfl, dT rfl, rfl⟩, .inl rfl, B3, K4 rfl, fun _ => rfl, fun g19 => ?_⟩
 refine y_M rfl <| y_E rfl <| y_E rfl <| y_S rfl <| y_S rfl <| xN [0,4,5,6] [] rfl <| A3 <| A3 <| A0 <| y_M rfl <| J0 rfl <| y_M rfl ?_
 refine C6 rfl rfl ?_ ?_ <;> intro hg0 <;> have hg := hg0 <;> try simp only [SG] at hg
 ·refine y_M rfl <| gT rfl rfl <| J0 rfl <| F3 rfl (by assumption) rfl rfl <| xN [0,4,27] [] rfl ?_
  refine A5 rfl ?_ ?_ <;> intro hc <;> try simp only [SL] at hc
  ·refine A3 <| A0 ?_
   (refine B2 rfl rfl (fun _ => rfl) ?_; intro g2)
   refine y_S rfl <| xN [2,3] [2] rfl <| A8 <| C0 (G3 rfl rfl (by simp) (by rfl) (D4 rfl rfl (C7 B5))) ?_
   obtain ⟨h1, h2⟩ := c1i (c5k (w := w) (by simp_all [okB]))
   rw [h1, h2]
   rfl
  have hok : okB w = true := by simp [okB]; constructor <;> assumption
  obtain ⟨ps, hps0⟩ : ∃ ps, ps = splitB 44 (a5a w) := ⟨_, rfl⟩
  have hpl := U5 44 (a5a w)
  have hpp := W7 44 (a5a w)
  rw [← hps0] at hpl hpp
  have hil := d7w hok
  refine A7 <| A3 <| A0 ?_
  (refine B2 rfl rfl (fun _ => rfl) ?_; intro g7)
  refine xN [0,4,7] [7] rfl <| A3 <| A3 <| A0 <| y_M rfl <| b5g rfl rfl <| xN [0,4,7,29] [7] rfl ?_
  refine A5 rfl ?_ ?_ <;> intro hc <;> try simp only [SL] at hc
  ·have hin : a5a w ≠ [] := hc
   refine A3 <| A0 <| y_M rfl ?_
   have hps := hps0
   apply a8d rfl
   ·apply A9
    ·exact B7 rfl
    apply A9
    ·exact B7 rfl
    exact C5
   ·exact c0x (a5a w) 44 (by unfold a5a; omega)
   ·exact ⟨rfl, rfl, rfl, dT rfl, rfl⟩
   ·exact .inl rfl
   ·exact B3
   ·exact K0
   ·(intro _; exact C1 (B1 (A6 fun _ => rfl)) rfl)
   intro g31
   rw [← hps]
   try simp only [List.length_map]
   refine I5 rfl rfl <| y_M rfl <| xN [0,7,31,32,33] [7,1000031] rfl <| B0 <| E8 (β := Nat × List Int × Nat) [(.t 0, _), (.t 31, _), (.t 32, _), (.h 1000031, _)] (fun (z : Nat × List Int × Nat) => match z with | (i, ns, g) => [(.t 33, iV i), (.t 7, .sl 7 g none 0 ns.length), (.h 7, .obj g 0 1 (ns.map iV))]) (fun (z : Nat × List Int × Nat) => match z with | (i, ns, g) => i ≤ ps.length ∧ rdA (ps.take i) = some ns) (fun (z : Nat × List Int × Nat) => match z with | (i, ns, g) => ps.length - i) (0, [], _) ⟨rfl, rfl, rfl, rfl, rfl, rfl, rfl, trivial⟩ ⟨Nat.zero_le _, rfl⟩ ?_
   intro z hb
   obtain ⟨i, ns, g⟩ := z
   try dsimp only at hb
   obtain ⟨hi1, hrd⟩ := hb
   have hpi := fun h : i < ps.length => hpp _ (V8 h)
   have hnl := b7i hrd
   rw [List.length_take] at hnl
   refine A3 <| A0 <| F8 rfl rfl <| xN [0,7,31,32,33,34] [7,1000031] rfl <| A3 ?_
   refine A5 rfl ?_ ?_ <;> intro hc <;> try simp only [SL] at hc
   ·refine A7 <| A3 <| B0 <| A3 <| A0 <| D9 rfl rfl rfl rfl (by omega) (by (simp; done)) rfl <| G2 rfl rfl (by omega) (fun _ => rfl) (fun _ => rfl) rfl <| y_S rfl <| xN [0,7,9,31,32,33] [7,1000031] rfl <| A3 <| A0 <| y_M rfl ?_
    rcases hat : Lib.atoiAll (ps.getD i default) with v | _ | _
    ·skip
     apply xC rfl
     ·apply A9
      ·exact B7 rfl
      exact C5
     ·exact (by have hi := d0j (oG := oG) (ps.getD i default) (by omega); unfold atR at hi; rw [hat] at hi; exact hi)
     refine ⟨⟨rfl, rfl, rfl, dT rfl, rfl⟩, .inl rfl, B3, K4 rfl, fun _ => rfl, fun g39 => ?_⟩
     refine y_M rfl <| y_E rfl <| y_E rfl <| y_S rfl <| y_S rfl <| xN [0,7,10,11,31,32,33] [7,1000031] rfl <| A3 <| A3 <| A0 <| y_M rfl <| d6i rfl rfl rfl rfl <| xN [0,7,10,31,32,33,43] [7,1000031] rfl ?_
     refine A5 rfl (fun hc => absurd hc (by decide)) (fun hc => ?_)
     refine A7 <| A0 <| y_M rfl <| y_M rfl <| B4 (es := List.map iV [_]) rfl rfl (dT rfl) rfl rfl (fun _ => B1 (A6 fun _ => rfl)) (fun _ => rfl) ?_
     intro g46
     refine xA rfl rfl rfl rfl (by simp) (by simp) rfl rfl rfl rfl rfl (fun _ => rfl) (by simp only [LN]; omega) (fun _ => rfl) ?_
     intro g47
     (refine xO rfl rfl (by simp) rfl (fun _ => rfl) (fun _ => rfl) ?_; intro g7)
     refine xN [0,7,31,32,33] [7,1000031] rfl <| A0 <| E4 rfl rfl (C3 (by omega)) <| y_M rfl <| xN [0,7,31,32,33] [7,1000031] rfl ?_
     refine ⟨(i + 1, ns ++ [v], _), ?_, (by simp only; omega), ⟨rfl, rfl, rfl, rfl, rfl, rfl, rfl, trivial⟩⟩
     exact ⟨by omega, d5n (by omega) hrd hat⟩
    ·skip
     apply xC rfl
     ·apply A9
      ·exact B7 rfl
      exact C5
     ·exact (by have hi := d0j (oG := oG) (ps.getD i default) (by omega); unfold atR at hi; rw [hat] at hi; exact hi)
     refine ⟨⟨rfl, rfl, rfl, dT rfl, rfl⟩, .inl rfl, B3, K4 rfl, fun _ => rfl, fun g39 => ?_⟩
     refine y_M rfl <| y_E rfl <| y_E rfl <| y_S rfl <| y_S rfl <| xN [0,7,10,11,31,32,33] [7,1000031] rfl <| A3 <| A3 <| A0 <| y_M rfl <| c4v rfl rfl rfl <| xN [0,7,10,31,32,33,43] [7,1000031] rfl ?_
     refine A5 rfl (fun hc => ?_) (fun hc => absurd hc (by decide))
     refine A3 <| A0 ?_
     (refine B2 rfl rfl (fun _ => rfl) ?_; intro g2)
     refine y_S rfl <| xN [2,3] [2] rfl <| A8 <| C0 (G3 rfl rfl (by simp) (by rfl) (D4 rfl rfl (C7 B5))) ?_
     obtain ⟨h1, h2⟩ := c1i (w := w) (by rw [b4d hok hin, ← hps0]; exact c4t (i := i) (by omega) (by intro v hv; rw [hat] at hv; cases hv))
     rw [h1, h2]
     rfl
    skip
    apply xC rfl
    ·apply A9
     ·exact B7 rfl
     exact C5
    ·exact (by have hi := d0j (oG := oG) (ps.getD i default) (by omega); unfold atR at hi; rw [hat] at hi; exact hi)
    refine ⟨⟨rfl, rfl, rfl, dT rfl, rfl⟩, .inl rfl, B3, K4 rfl, fun _ => rfl, fun g39 => ?_⟩
    refine y_M rfl <| y_E rfl <| y_E rfl <| y_S rfl <| y_S rfl <| xN [0,7,10,11,31,32,33] [7,1000031] rfl <| A3 <| A3 <| A0 <| y_M rfl <| c4v rfl rfl rfl <| xN [0,7,10,31,32,33,43] [7,1000031] rfl ?_
    refine A5 rfl (fun hc => ?_) (fun hc => absurd hc (by decide))
    refine A3 <| A0 ?_
    (refine B2 rfl rfl (fun _ => rfl) ?_; intro g2)
    refine y_S rfl <| xN [2,3] [2] rfl <| A8 <| C0 (G3 rfl rfl (by simp) (by rfl) (D4 rfl rfl (C7 B5))) ?_
    obtain ⟨h1, h2⟩ := c1i (w := w) (by rw [b4d hok hin, ← hps0]; exact c4t (i := i) (by omega) (by intro v hv; rw [hat] at hv; cases hv))
    rw [h1, h2]
    rfl
   refine E3 <| A3 <| A0 <| y_M rfl <| y_M rfl ?_
   apply xC rfl
   ·apply A9
    ·exact I9 rfl rfl rfl (by (simp; done)) (fun _ => rfl)
    exact C5
   ·exact a0z ns (by omega)
   refine ⟨⟨rfl, rfl, rfl, dT rfl, rfl⟩, .inr ⟨rfl, rfl⟩, B3, C9 rfl, fun _ => rfl, fun g51 => ?_⟩
   refine y_M rfl ?_
   refine C6 rfl rfl ?_ ?_ <;> intro hg0 <;> have hg := hg0 <;> try simp only [SG] at hg
   ·refine y_M rfl <| gT rfl rfl ?_
    (have hnb := d1a (ns := ns) (by assumption); have hvl := b1g (show vd ns = true by assumption))
    apply xC rfl
    ·apply A9
     ·exact I9 rfl rfl rfl (by (simp; done)) (fun _ => rfl)
     exact C5
    ·exact a5z ns (by omega) hnb
    refine ⟨⟨rfl, rfl, rfl, dT rfl, rfl⟩, .inr ⟨rfl, rfl⟩, B3, C9 rfl, fun _ => rfl, fun g54 => ?_⟩
    refine gT rfl rfl <| y_M rfl <| gT rfl rfl <| L6 rfl rfl <| F0 rfl (by assumption) rfl rfl ?_
    (refine xO rfl rfl (by simp) rfl (fun _ => rfl) (fun _ => rfl) ?_; intro g2)
    refine y_S rfl <| xN [2,3] [2] rfl <| A8 <| C0 (G3 rfl rfl (by simp) (by exact A6 fun _ => rfl) (D4 rfl rfl (C7 B5))) ?_
    (have hx := hin; obtain ⟨h1, h2⟩ := a9v (ns := ns) (w := w) (by rw [b4d hok hx, ← hps0]; rw [List.take_of_length_le (by omega)] at hrd; exact hrd))
    (rw [h1, h2, hg, Bool.true_and]; rfl)
   refine gF rfl rfl <| gF rfl rfl <| gF rfl rfl <| F3 rfl (by assumption) rfl rfl ?_
   (refine xO rfl rfl (by simp) rfl (fun _ => rfl) (fun _ => rfl) ?_; intro g2)
   refine y_S rfl <| xN [2,3] [2] rfl <| A8 <| C0 (G3 rfl rfl (by simp) (by exact A6 fun _ => rfl) (D4 rfl rfl (C7 B5))) ?_
   (have hx := hin; obtain ⟨h1, h2⟩ := a9v (ns := ns) (w := w) (by rw [b4d hok hx, ← hps0]; rw [List.take_of_length_le (by omega)] at hrd; exact hrd))
   (rw [h1, h2, hg, Bool.false_and]; rfl)
  have hie : a5a w = [] := hc
  refine A7 <| A3 <| A0 <| y_M rfl <| y_M rfl ?_
  apply xC rfl
  ·apply A9
   ·exact b3s rfl rfl rfl rfl rfl
   exact C5
  ·exact a0z [] (by decide)
  refine ⟨⟨rfl, rfl, rfl, dT rfl, rfl⟩, .inr ⟨rfl, rfl⟩, B3, C9 rfl, fun _ => rfl, fun g51 => ?_⟩
  refine y_M rfl ?_
  refine C6 rfl rfl ?_ ?_ <;> intro hg0 <;> have hg := hg0 <;> try simp only [SG] at hg
  ·refine y_M rfl <| gT rfl rfl ?_
   skip
   apply xC rfl
   ·apply A9
    ·exact b3s rfl rfl rfl rfl rfl
    exact C5
   ·exact a5z [] (by decide) (by simp)
   refine ⟨⟨rfl, rfl, rfl, dT rfl, rfl⟩, .inr ⟨rfl, rfl⟩, B3, C9 rfl, fun _ => rfl, fun g54 => ?_⟩
   refine gT rfl rfl <| y_M rfl <| gT rfl rfl <| L6 rfl rfl <| F0 rfl rfl rfl rfl ?_
   (refine H9 rfl rfl (by (simp; done)) rfl (fun _ => (B1 (by rfl))) (fun _ => rfl) ?_; intro g2)
   refine y_S rfl <| xN [2,3] [2] rfl <| A8 <| C0 (G3 rfl rfl (by simp) (by rfl) (D4 rfl rfl (C7 B5))) ?_
   obtain ⟨h1, h2⟩ := a9v (ns := []) (w := w) (d2f hok hie)
   (rw [h1, h2, hg, Bool.true_and]; rfl)
  refine gF rfl rfl <| gF rfl rfl <| gF rfl rfl <| F3 rfl (by assumption) rfl rfl ?_
  (refine H9 rfl rfl (by (simp; done)) rfl (fun _ => (B1 (by rfl))) (fun _ => rfl) ?_; intro g2)
  refine y_S rfl <| xN [2,3] [2] rfl <| A8 <| C0 (G3 rfl rfl (by simp) (by rfl) (D4 rfl rfl (C7 B5))) ?_
  obtain ⟨h1, h2⟩ := a9v (ns := []) (w := w) (d2f hok hie)
  (rw [h1, h2, hg, Bool.false_and]; rfl)
 refine gF rfl rfl <| F0 rfl (by assumption) rfl rfl <| xN [0,4,27] [] rfl ?_
 refine A5 rfl (fun hc => ?_) (fun hc => absurd hc (by decide))
 refine A3 <| A0 ?_
 (refine B2 rfl rfl (fun _ => rfl) ?_; intro g2)
 refine y_S rfl <| xN [2,3] [2] rfl <| A8 <| C0 (G3 rfl rfl (by simp) (by rfl) (D4 rfl rfl (C7 B5))) ?_
 obtain ⟨h1, h2⟩ := c1i (c5k (w := w) (by simp_all [okB]))
 rw [h1, h2]
 rfl

theorem b3l : F4 Tryz.f48 = [0, 2, 3, 4, 6, 12, 5] := by kernel_rfl
theorem a1u (w : List UInt8) (hs : w.length ≤ 1048576) : CW (cxT oG) 48 [tV w] = some (.tup [tV (if (numsOf w).isSome = true then lW else w), .own 1 (((numsOf w).getD []).map iV), bV ((numsOf w).isSome || decide (0 ≤ rch (bA w)))], []) := by
 refine E5 rfl Tryz.func48 rfl ⟨by kernel_rfl, rfl, dT rfl, dT rfl, by decide⟩ b3l <| A3 <| A0 <| y_S rfl ?_
 (refine B2 rfl rfl (fun _ => rfl) ?_; intro g3)
 refine y_S rfl <| xN [0] [] rfl <| A3 <| A3 <| A0 <| y_M rfl ?_
 apply xC rfl
 ·apply A9
  ·exact B7 rfl
  exact C5
 ·exact (by have hi := c5b (oG := oG) w hs; rw [e1i] at hi; exact hi)
 refine ⟨⟨rfl, rfl, rfl, dT rfl, rfl⟩, .inr ⟨K5 _ _, rfl⟩, B3, H5 (N0 fun _ => I4 rfl N1), fun _ => rfl, fun g9 => ?_⟩
 simp only [List.length_map]
 refine y_M rfl <| y_E rfl <| y_E rfl ?_
 (refine xO rfl rfl (by simp) rfl (fun _ => rfl) (fun _ => rfl) ?_; intro g5)
 refine y_S rfl <| xN [0,5,6] [5] rfl <| A3 <| A0 <| y_M rfl <| xN [0,5,12] [5] rfl ?_
 refine A5 rfl ?_ ?_ <;> intro hc <;> try simp only [SL] at hc
 ·obtain ⟨ns, hns⟩ := Option.isSome_iff_exists.1 hc
  have hraw := e0z hns
  refine A3 <| A0 <| y_M rfl <| y_S rfl ?_
  (refine xO rfl rfl (by simp) rfl (fun _ => rfl) (fun _ => rfl) ?_; intro g3)
  refine y_S rfl <| xN [2,3,4] [3] rfl <| A8 <| C0 (D4 rfl rfl (G3 rfl rfl (by simp) (by exact A6 fun _ => rfl) (D4 rfl rfl (C7 B5)))) ?_
  rw [hns, hraw]
  rfl
 have hnn : numsOf w = none := by simpa using hc
 have hwo := d9m w
 refine A7 <| A3 <| A0 <| y_M rfl <| y_M rfl <| b5g rfl rfl <| y_M rfl ?_
 refine C6 rfl rfl ?_ ?_ <;> intro hg0 <;> have hg := hg0 <;> try simp only [SG] at hg
 ·refine y_M rfl <| gT rfl rfl ?_
  refine xC1 rfl rfl (a9m (bA w)) ⟨rfl, rfl, rfl⟩ rfl rfl fun g19 => ?_
  refine gT rfl rfl <| d2b rfl rfl <| F0 rfl (by assumption) rfl rfl <| y_S rfl ?_
  (refine B2 rfl rfl (fun _ => rfl) ?_; intro g3)
  refine y_S rfl <| xN [2,3,4] [3] rfl <| A8 <| C0 (D4 rfl rfl (G3 rfl rfl (by simp) (by rfl) (D4 rfl rfl (C7 B5)))) ?_
  rw [hnn, ← hwo]
  simp_all
  try rfl
 refine gF rfl rfl <| gF rfl rfl <| F3 rfl (by assumption) rfl rfl <| y_S rfl ?_
 (refine B2 rfl rfl (fun _ => rfl) ?_; intro g3)
 refine y_S rfl <| xN [2,3,4] [3] rfl <| A8 <| C0 (D4 rfl rfl (G3 rfl rfl (by simp) (by rfl) (D4 rfl rfl (C7 B5)))) ?_
 rw [hnn, ← hwo]
 simp_all
 try rfl

theorem b0v : F4 Tryz.f35 = [0, 2, 3, 4, 15, 7, 26, 6, 5, 35, 34, 36, 9, 12, 44, 8, 10, 11, 39, 50] := by kernel_rfl
theorem b2d (ws : List W8) (hws : ws.length ≤ 1048600 ∧ ∀ w ∈ ws, w.length ≤ 1048576) : CW (cxT oG) 35 [.list (ws.map tV)] = some (rtR (rdT ws), []) := by
 obtain ⟨kk, hkk⟩ : ∃ kk : Nat, ws.length < kk := ⟨_, Nat.lt_succ_self _⟩
 revert ws
 induction kk with
 | zero => intro ws hws hkk; exact absurd hkk (Nat.not_lt_zero _)
 | succ kk ih =>
  intro ws hws hkk
  refine E5 rfl Tryz.func35 rfl ⟨by kernel_rfl, rfl, dT rfl, dT rfl, by decide⟩ b0v <| A3 <| A0 <| y_A rfl (fun _ => rfl) ?_
  intro g2
  (refine B2 rfl rfl (fun _ => rfl) ?_; intro g3)
  refine y_S rfl <| xN [0,2] [2] rfl <| A3 <| A3 <| A0 <| y_M rfl <| B9 rfl rfl <| M9 rfl rfl <| xN [0,2,15] [2] rfl ?_
  refine A5 rfl ?_ ?_ <;> intro hc <;> try simp only [SL] at hc
  ·have hw0 : ws = [] := List.length_eq_zero_iff.1 (by simpa using hc)
   subst hw0
   refine A3 <| A0 <| H1 (fs := [_, _, _]) rfl rfl rfl rfl rfl <| xB rfl rfl rfl rfl rfl rfl rfl rfl rfl ?_
   (refine B2 rfl rfl (fun _ => rfl) ?_; intro g3)
   refine y_S rfl <| xN [2,3,4] [2,3] rfl <| A8 <| C0 (D5 rfl rfl rfl rfl (C4 rfl (G8 rfl (G8 rfl F9))) (G3 rfl rfl (by simp) (by rfl) (D4 rfl rfl (C7 B5)))) ?_
   rfl
  obtain ⟨w, ws1, rfl⟩ : ∃ w ws1, ws = w :: ws1 := List.exists_cons_of_ne_nil (fun e => by subst e; simp at hc)
  have hw := hws.2 w (by simp)
  refine A7 <| A3 <| A0 <| y_M rfl <| B8 rfl rfl rfl (fun _ => rfl) (by (change 0 < _; omega)) <| y_I rfl ?_
  rcases d7d w with ⟨ns, hns⟩ | ⟨hnn, hn⟩ | ⟨hnn, hn⟩ | ⟨hnn, hn⟩ | ⟨hnn, hn⟩
  ·skip
   apply xC rfl
   ·apply A9
    ·exact B7 rfl
    exact C5
   ·exact (show CW (cxT oG) 48 [tV w] = some (.tup [tV lW, .own 1 (ns.map iV), bV true], []) from by have hi := a1u (oG := oG) w (by omega); rw [hns] at hi; exact hi)
   refine ⟨⟨rfl, rfl, rfl, dT rfl, rfl⟩, .inr ⟨by simp [hasList, F7], rfl⟩, B3, H5 (I4 rfl (N0 fun _ => I4 rfl N1)), fun _ => C1 (B1 (A6 fun _ => rfl)) (by rfl), fun g21 => ?_⟩
   try simp only [List.length_map]
   refine y_M rfl <| y_E rfl <| y_E rfl <| y_E rfl <| y_S rfl ?_
   (refine xO rfl rfl (by simp) rfl (fun _ => rfl) (fun _ => rfl) ?_; intro g6)
   refine y_S rfl <| xN [0,2,5,6,7] [2,6] rfl <| A3 <| A3 <| A0 <| y_M rfl <| J0 rfl <| xN [0,2,5,6,26] [2,6] rfl ?_
   refine A5 rfl (fun hc => absurd hc (by decide)) (fun hc => ?_)
   refine A7 <| A3 <| A0 <| y_M rfl <| y_M rfl <| H1 (fs := [_, _, _]) rfl rfl rfl rfl rfl <| y_M rfl <| N7 rfl rfl rfl (Mv.sized_map fun _ => rfl) H8 (H0 (n := 1) rfl) (by simp) ?_
   rw [show ((List.map tV (w :: ws1)).drop 1).take ((List.map tV (w :: ws1)).length - 1) = ws1.map tV from by rw [List.map_cons, List.drop_succ_cons, List.drop_zero, List.take_of_length_le (by simp)]]
   refine y_A rfl (fun _ => rfl) ?_
   intro g8
   refine E7 rfl rfl rfl rfl (F6 rfl (M3 (by decide) (F6 rfl I6))) (fun _ => rfl) ⟨by decide, rfl, dT rfl, Nat.le_refl _⟩ (fun _ => rfl) (fun _ => rfl) (fun _ => (by rfl)) ?_
   intro z
   simp only [I2, List.cons_append, List.nil_append]
   refine y_S rfl ?_
   refine J6 ⟨fun _ => ⟨by (simp only [Z0, List.nil_append, List.append_nil, List.map_cons, List.map_nil, List.cons_append]; decide +kernel), by decide +kernel⟩, [(.t 2, _), (.t 5, _), (.t 8, _), (.t 9, _), (.h 2, _), (.h 8, _), (.h 6, _)], ⟨rfl, rfl, rfl, rfl, rfl, rfl, rfl, rfl, rfl, rfl, rfl, rfl, rfl, rfl, trivial⟩, ?_⟩
   refine A3 <| A3 <| A0 <| y_M rfl ?_
   refine xC1 rfl rfl (a9m (bA lW)) ⟨rfl, rfl, rfl⟩ rfl rfl fun g34 => ?_
   rw [show nd (bA lW) = 0 from d9w rfl]
   refine y_M rfl <| xN [2,8,9,34,35] [2,8,6] rfl <| B0 <| G0 <| A3 <| A0 <| F8 rfl rfl <| xN [2,8,9,34,35,36] [2,8,6] rfl <| A3 ?_
   refine A5 rfl (fun hc => absurd hc (by decide)) (fun hc => ?_)
   refine E3 <| A3 <| A0 <| y_B rfl <| y_M rfl <| E7 rfl rfl rfl rfl (F6 rfl (M3 (by decide) (F6 rfl I6))) (fun _ => rfl) ⟨by decide, rfl, dT rfl, Nat.le_refl _⟩ (fun _ => rfl) (fun _ => rfl) (fun _ => (by rfl)) ?_
   intro z
   simp only [I2, List.cons_append, List.nil_append]
   refine y_S rfl <| y_S rfl <| xN [2,3,4] [2,6] rfl <| A8 <| C0 (D5 rfl rfl rfl rfl (C4 rfl (J8 rfl rfl (by simp) (fun _ => rfl) (G8 rfl F9))) (D4 rfl rfl (D4 rfl rfl (C7 B5)))) ?_
   rw [c3t hns]
   rfl
  ·skip
   apply xC rfl
   ·apply A9
    ·exact B7 rfl
    exact C5
   ·exact (show CW (cxT oG) 48 [tV w] = some (.tup [tV w, .own 1 [], bV true], []) from by have hi := a1u (oG := oG) w (by omega); rw [hnn] at hi; rw [show decide (0 ≤ rch (bA w)) = true from decide_eq_true (by omega)] at hi; exact hi)
   refine ⟨⟨rfl, rfl, rfl, dT rfl, rfl⟩, .inr ⟨rfl, rfl⟩, B3, H5 (I4 rfl (N0 fun _ => I4 rfl N1)), fun _ => C1 (B1 rfl) (by rfl), fun g21 => ?_⟩
   try simp only [List.length_map]
   refine y_M rfl <| y_E rfl <| y_E rfl <| y_E rfl <| y_S rfl ?_
   (refine H9 rfl rfl (by (simp; done)) rfl (fun _ => (B1 (by rfl))) (fun _ => rfl) ?_; intro g6)
   refine y_S rfl <| xN [0,2,5,6,7] [2,6] rfl <| A3 <| A3 <| A0 <| y_M rfl <| J0 rfl <| xN [0,2,5,6,26] [2,6] rfl ?_
   refine A5 rfl (fun hc => absurd hc (by decide)) (fun hc => ?_)
   refine A7 <| A3 <| A0 <| y_M rfl <| y_M rfl <| H1 (fs := [_, _, _]) rfl rfl rfl rfl rfl <| y_M rfl <| N7 rfl rfl rfl (Mv.sized_map fun _ => rfl) H8 (H0 (n := 1) rfl) (by simp) ?_
   rw [show ((List.map tV (w :: ws1)).drop 1).take ((List.map tV (w :: ws1)).length - 1) = ws1.map tV from by rw [List.map_cons, List.drop_succ_cons, List.drop_zero, List.take_of_length_le (by simp)]]
   refine y_A rfl (fun _ => rfl) ?_
   intro g8
   refine E7 rfl rfl rfl rfl (F6 rfl (M3 (by decide) (F6 rfl I6))) (fun _ => rfl) ⟨by decide, rfl, dT rfl, Nat.le_refl _⟩ (fun _ => rfl) (fun _ => rfl) (fun _ => (by rfl)) ?_
   intro z
   simp only [I2, List.cons_append, List.nil_append]
   refine y_S rfl ?_
   refine J6 ⟨fun _ => ⟨by (simp only [Z0, List.nil_append, List.append_nil, List.map_cons, List.map_nil, List.cons_append]; decide +kernel), by decide +kernel⟩, [(.t 2, _), (.t 5, _), (.t 8, _), (.t 9, _), (.h 2, _), (.h 8, _), (.h 6, _)], ⟨rfl, rfl, rfl, rfl, rfl, rfl, rfl, rfl, rfl, rfl, rfl, rfl, rfl, rfl, trivial⟩, ?_⟩
   refine A3 <| A3 <| A0 <| y_M rfl ?_
   refine xC1 rfl rfl (a9m (bA w)) ⟨rfl, rfl, rfl⟩ rfl rfl fun g34 => ?_
   rw [show nd (bA w) = 0 from (S9 (by omega)).trans hn]
   refine y_M rfl <| xN [2,8,9,34,35] [2,8,6] rfl <| B0 <| G0 <| A3 <| A0 <| F8 rfl rfl <| xN [2,8,9,34,35,36] [2,8,6] rfl <| A3 ?_
   refine A5 rfl (fun hc => absurd hc (by decide)) (fun hc => ?_)
   refine E3 <| A3 <| A0 <| y_B rfl <| y_M rfl <| E7 rfl rfl rfl rfl (F6 rfl (M3 (by decide) (F6 rfl I6))) (fun _ => rfl) ⟨by decide, rfl, dT rfl, Nat.le_refl _⟩ (fun _ => rfl) (fun _ => rfl) (fun _ => (by rfl)) ?_
   intro z
   simp only [I2, List.cons_append, List.nil_append]
   refine y_S rfl <| y_S rfl <| xN [2,3,4] [2,6] rfl <| A8 <| C0 (D5 rfl rfl rfl rfl (C4 rfl (c1v rfl rfl rfl (G8 rfl F9))) (D4 rfl rfl (D4 rfl rfl (C7 B5)))) ?_
   rw [d1s hnn hn]
   rfl
  ·skip
   apply xC rfl
   ·apply A9
    ·exact B7 rfl
    exact C5
   ·exact (show CW (cxT oG) 48 [tV w] = some (.tup [tV w, .own 1 [], bV true], []) from by have hi := a1u (oG := oG) w (by omega); rw [hnn] at hi; rw [show decide (0 ≤ rch (bA w)) = true from decide_eq_true (by omega)] at hi; exact hi)
   refine ⟨⟨rfl, rfl, rfl, dT rfl, rfl⟩, .inr ⟨rfl, rfl⟩, B3, H5 (I4 rfl (N0 fun _ => I4 rfl N1)), fun _ => C1 (B1 rfl) (by rfl), fun g21 => ?_⟩
   try simp only [List.length_map]
   refine y_M rfl <| y_E rfl <| y_E rfl <| y_E rfl <| y_S rfl ?_
   (refine H9 rfl rfl (by (simp; done)) rfl (fun _ => (B1 (by rfl))) (fun _ => rfl) ?_; intro g6)
   refine y_S rfl <| xN [0,2,5,6,7] [2,6] rfl <| A3 <| A3 <| A0 <| y_M rfl <| J0 rfl <| xN [0,2,5,6,26] [2,6] rfl ?_
   refine A5 rfl (fun hc => absurd hc (by decide)) (fun hc => ?_)
   refine A7 <| A3 <| A0 <| y_M rfl <| y_M rfl <| H1 (fs := [_, _, _]) rfl rfl rfl rfl rfl <| y_M rfl <| N7 rfl rfl rfl (Mv.sized_map fun _ => rfl) H8 (H0 (n := 1) rfl) (by simp) ?_
   rw [show ((List.map tV (w :: ws1)).drop 1).take ((List.map tV (w :: ws1)).length - 1) = ws1.map tV from by rw [List.map_cons, List.drop_succ_cons, List.drop_zero, List.take_of_length_le (by simp)]]
   refine y_A rfl (fun _ => rfl) ?_
   intro g8
   refine E7 rfl rfl rfl rfl (F6 rfl (M3 (by decide) (F6 rfl I6))) (fun _ => rfl) ⟨by decide, rfl, dT rfl, Nat.le_refl _⟩ (fun _ => rfl) (fun _ => rfl) (fun _ => (by rfl)) ?_
   intro z
   simp only [I2, List.cons_append, List.nil_append]
   refine y_S rfl ?_
   refine J6 ⟨fun _ => ⟨by (simp only [Z0, List.nil_append, List.append_nil, List.map_cons, List.map_nil, List.cons_append]; decide +kernel), by decide +kernel⟩, [(.t 2, _), (.t 5, _), (.t 8, _), (.t 9, _), (.h 2, _), (.h 8, _), (.h 6, _)], ⟨rfl, rfl, rfl, rfl, rfl, rfl, rfl, rfl, rfl, rfl, rfl, rfl, rfl, rfl, trivial⟩, ?_⟩
   refine A3 <| A3 <| A0 <| y_M rfl ?_
   refine xC1 rfl rfl (a9m (bA w)) ⟨rfl, rfl, rfl⟩ rfl rfl fun g34 => ?_
   rw [show nd (bA w) = 1 from (S9 (by omega)).trans hn]
   refine y_M rfl <| xN [2,8,9,34,35] [2,8,6] rfl <| B0 <| G0 <| A3 <| A0 <| F8 rfl rfl <| xN [2,8,9,34,35,36] [2,8,6] rfl <| A3 ?_
   refine A5 rfl (fun hc => ?_) (fun hc => absurd hc (by decide))
   refine A7 <| A3 <| B0 <| A3 <| A0 <| y_M rfl ?_
   rcases hr1 : rdT ws1 with _ | ⟨k1, r1⟩
   ·skip
    apply xC rfl
    ·apply A9
     ·exact B7 rfl
     exact C5
    ·exact (by have hi := ih ws1 ⟨by simp only [List.length_cons] at hws; omega, fun x hx => hws.2 x (List.mem_cons_of_mem _ hx)⟩ (by simp only [List.length_cons] at hkk; omega); rw [hr1] at hi; exact hi)
    refine ⟨⟨rfl, rfl, rfl, dT rfl, rfl⟩, .inl rfl, B3, H5 (I4 rfl (N0 fun _ => I4 rfl N1)), fun _ => C1 (B1 rfl) (by rfl), fun g39 => ?_⟩
    refine y_M rfl <| y_E rfl <| y_E rfl <| y_E rfl <| y_A rfl (fun _ => rfl) ?_
    intro g10
    refine xB rfl rfl rfl rfl rfl rfl rfl rfl rfl ?_
    (refine H9 rfl rfl (by (simp; done)) rfl (fun _ => (B1 (by rfl))) (fun _ => rfl) ?_; intro g11)
    refine y_S rfl <| xN [2,8,10,11,12,34,35] [2,8,6,10] rfl <| A3 <| A3 <| A0 <| y_M rfl <| J0 rfl <| xN [2,8,10,11,34,35,44] [2,8,6,10] rfl ?_
    refine A5 rfl (fun hc => ?_) (fun hc => absurd hc (by decide))
    refine A3 <| A0 <| H1 (fs := [_, _, _]) rfl rfl rfl rfl rfl <| xB rfl rfl rfl rfl rfl rfl rfl rfl rfl ?_
    (refine B2 rfl rfl (fun _ => rfl) ?_; intro g3)
    refine y_S rfl <| xN [2,3,4] [2,3] rfl <| A8 <| C0 (D5 rfl rfl rfl rfl (C4 rfl (G8 rfl (G8 rfl F9))) (G3 rfl rfl (by simp) (by rfl) (D4 rfl rfl (C7 B5)))) ?_
    rw [c3b hnn hn, hr1]
    rfl
   skip
   apply xC rfl
   ·apply A9
    ·exact B7 rfl
    exact C5
   ·exact (by have hi := ih ws1 ⟨by simp only [List.length_cons] at hws; omega, fun x hx => hws.2 x (List.mem_cons_of_mem _ hx)⟩ (by simp only [List.length_cons] at hkk; omega); rw [hr1] at hi; exact hi)
   refine ⟨⟨rfl, rfl, rfl, dT rfl, rfl⟩, .inl rfl, B3, K4 rfl, fun _ => rfl, fun g39 => ?_⟩
   refine y_M rfl <| y_E rfl <| y_E rfl <| y_E rfl <| y_A rfl (fun _ => rfl) ?_
   intro g10
   refine xB rfl rfl rfl rfl rfl rfl rfl rfl rfl <| y_S rfl <| y_S rfl <| xN [2,8,10,11,12,34,35] [2,8,6,10] rfl <| A3 <| A3 <| A0 <| y_M rfl <| J0 rfl <| xN [2,8,10,11,34,35,44] [2,8,6,10] rfl ?_
   refine A5 rfl (fun hc => absurd hc (by decide)) (fun hc => ?_)
   refine A7 <| A3 <| A0 <| y_F rfl <| y_L rfl <| y_B rfl <| B4 (es := List.map trV [_]) rfl rfl (dT rfl) rfl rfl (fun _ => B1 (A6 fun _ => rfl)) (fun _ => rfl) ?_
   intro g49
   refine Q7 rfl rfl rfl (by simp) (by decide) rfl rfl rfl (dT rfl) (fun _ => ⟨rfl, rfl⟩) (by simp only [G9]; (simp only [List.length_nil, List.length_cons, List.length_append, Nat.zero_add, List.length_map]; omega)) (fun _ => rfl) ?_
   intro g50
   refine y_F rfl <| M4 rfl rfl rfl rfl rfl (Nat.le_refl _) rfl <| xN [2,8,11,34,35] [2,8,6,1000050] rfl <| A0 <| y_M rfl <| y_S rfl <| xN [2,8,9,34,35] [2,8,6,1000050] rfl <| A0 <| E4 rfl rfl (C3 (by omega)) <| y_M rfl <| xN [2,8,9,34,35] [2,8,6,1000050] rfl <| G0 <| A3 <| A0 <| F8 rfl rfl <| xN [2,8,9,34,35,36] [2,8,6,1000050] rfl <| A3 ?_
   refine A5 rfl (fun hc => absurd hc (by decide)) (fun hc => ?_)
   refine E3 <| A3 <| A0 <| y_B rfl <| y_M rfl <| E7 rfl rfl rfl rfl (F6 rfl (M3 (by decide) (X6 (by decide) (by decide) rfl (by simp) fun _ => I6))) (fun _ => rfl) ⟨by decide, rfl, dT rfl, Nat.le_refl _⟩ (fun _ => rfl) (fun _ => rfl) (fun _ => C1 (by rfl) (C1 (B1 (A6 fun _ => rfl)) (by rfl))) ?_
   intro z
   simp only [I2, List.cons_append, List.nil_append]
   refine y_S rfl <| y_S rfl <| xN [2,3,4] [2,6,300002] rfl <| A8 <| C0 (D5 rfl rfl rfl rfl (C4 rfl (c1v rfl rfl rfl (J8 rfl rfl (by simp) (fun _ => rfl) F9))) (D4 rfl rfl (D4 rfl rfl (C7 B5)))) ?_
   rw [c3b hnn hn, hr1]
   rfl
  ·skip
   apply xC rfl
   ·apply A9
    ·exact B7 rfl
    exact C5
   ·exact (show CW (cxT oG) 48 [tV w] = some (.tup [tV w, .own 1 [], bV true], []) from by have hi := a1u (oG := oG) w (by omega); rw [hnn] at hi; rw [show decide (0 ≤ rch (bA w)) = true from decide_eq_true (by omega)] at hi; exact hi)
   refine ⟨⟨rfl, rfl, rfl, dT rfl, rfl⟩, .inr ⟨rfl, rfl⟩, B3, H5 (I4 rfl (N0 fun _ => I4 rfl N1)), fun _ => C1 (B1 rfl) (by rfl), fun g21 => ?_⟩
   try simp only [List.length_map]
   refine y_M rfl <| y_E rfl <| y_E rfl <| y_E rfl <| y_S rfl ?_
   (refine H9 rfl rfl (by (simp; done)) rfl (fun _ => (B1 (by rfl))) (fun _ => rfl) ?_; intro g6)
   refine y_S rfl <| xN [0,2,5,6,7] [2,6] rfl <| A3 <| A3 <| A0 <| y_M rfl <| J0 rfl <| xN [0,2,5,6,26] [2,6] rfl ?_
   refine A5 rfl (fun hc => absurd hc (by decide)) (fun hc => ?_)
   refine A7 <| A3 <| A0 <| y_M rfl <| y_M rfl <| H1 (fs := [_, _, _]) rfl rfl rfl rfl rfl <| y_M rfl <| N7 rfl rfl rfl (Mv.sized_map fun _ => rfl) H8 (H0 (n := 1) rfl) (by simp) ?_
   rw [show ((List.map tV (w :: ws1)).drop 1).take ((List.map tV (w :: ws1)).length - 1) = ws1.map tV from by rw [List.map_cons, List.drop_succ_cons, List.drop_zero, List.take_of_length_le (by simp)]]
   refine y_A rfl (fun _ => rfl) ?_
   intro g8
   refine E7 rfl rfl rfl rfl (F6 rfl (M3 (by decide) (F6 rfl I6))) (fun _ => rfl) ⟨by decide, rfl, dT rfl, Nat.le_refl _⟩ (fun _ => rfl) (fun _ => rfl) (fun _ => (by rfl)) ?_
   intro z
   simp only [I2, List.cons_append, List.nil_append]
   refine y_S rfl ?_
   refine J6 ⟨fun _ => ⟨by (simp only [Z0, List.nil_append, List.append_nil, List.map_cons, List.map_nil, List.cons_append]; decide +kernel), by decide +kernel⟩, [(.t 2, _), (.t 5, _), (.t 8, _), (.t 9, _), (.h 2, _), (.h 8, _), (.h 6, _)], ⟨rfl, rfl, rfl, rfl, rfl, rfl, rfl, rfl, rfl, rfl, rfl, rfl, rfl, rfl, trivial⟩, ?_⟩
   refine A3 <| A3 <| A0 <| y_M rfl ?_
   refine xC1 rfl rfl (a9m (bA w)) ⟨rfl, rfl, rfl⟩ rfl rfl fun g34 => ?_
   rw [show nd (bA w) = 2 from (S9 (by omega)).trans hn]
   refine y_M rfl <| xN [2,8,9,34,35] [2,8,6] rfl <| B0 <| G0 <| A3 <| A0 <| F8 rfl rfl <| xN [2,8,9,34,35,36] [2,8,6] rfl <| A3 ?_
   refine A5 rfl (fun hc => ?_) (fun hc => absurd hc (by decide))
   refine A7 <| A3 <| B0 <| A3 <| A0 <| y_M rfl ?_
   rcases hr1 : rdT ws1 with _ | ⟨k1, r1⟩
   ·skip
    apply xC rfl
    ·apply A9
     ·exact B7 rfl
     exact C5
    ·exact (by have hi := ih ws1 ⟨by simp only [List.length_cons] at hws; omega, fun x hx => hws.2 x (List.mem_cons_of_mem _ hx)⟩ (by simp only [List.length_cons] at hkk; omega); rw [hr1] at hi; exact hi)
    refine ⟨⟨rfl, rfl, rfl, dT rfl, rfl⟩, .inl rfl, B3, H5 (I4 rfl (N0 fun _ => I4 rfl N1)), fun _ => C1 (B1 rfl) (by rfl), fun g39 => ?_⟩
    refine y_M rfl <| y_E rfl <| y_E rfl <| y_E rfl <| y_A rfl (fun _ => rfl) ?_
    intro g10
    refine xB rfl rfl rfl rfl rfl rfl rfl rfl rfl ?_
    (refine H9 rfl rfl (by (simp; done)) rfl (fun _ => (B1 (by rfl))) (fun _ => rfl) ?_; intro g11)
    refine y_S rfl <| xN [2,8,10,11,12,34,35] [2,8,6,10] rfl <| A3 <| A3 <| A0 <| y_M rfl <| J0 rfl <| xN [2,8,10,11,34,35,44] [2,8,6,10] rfl ?_
    refine A5 rfl (fun hc => ?_) (fun hc => absurd hc (by decide))
    refine A3 <| A0 <| H1 (fs := [_, _, _]) rfl rfl rfl rfl rfl <| xB rfl rfl rfl rfl rfl rfl rfl rfl rfl ?_
    (refine B2 rfl rfl (fun _ => rfl) ?_; intro g3)
    refine y_S rfl <| xN [2,3,4] [2,3] rfl <| A8 <| C0 (D5 rfl rfl rfl rfl (C4 rfl (G8 rfl (G8 rfl F9))) (G3 rfl rfl (by simp) (by rfl) (D4 rfl rfl (C7 B5)))) ?_
    rw [a7c hnn hn, hr1]
    rfl
   skip
   apply xC rfl
   ·apply A9
    ·exact B7 rfl
    exact C5
   ·exact (by have hi := ih ws1 ⟨by simp only [List.length_cons] at hws; omega, fun x hx => hws.2 x (List.mem_cons_of_mem _ hx)⟩ (by simp only [List.length_cons] at hkk; omega); rw [hr1] at hi; exact hi)
   refine ⟨⟨rfl, rfl, rfl, dT rfl, rfl⟩, .inl rfl, B3, K4 rfl, fun _ => rfl, fun g39 => ?_⟩
   refine y_M rfl <| y_E rfl <| y_E rfl <| y_E rfl <| y_A rfl (fun _ => rfl) ?_
   intro g10
   refine xB rfl rfl rfl rfl rfl rfl rfl rfl rfl <| y_S rfl <| y_S rfl <| xN [2,8,10,11,12,34,35] [2,8,6,10] rfl <| A3 <| A3 <| A0 <| y_M rfl <| J0 rfl <| xN [2,8,10,11,34,35,44] [2,8,6,10] rfl ?_
   refine A5 rfl (fun hc => absurd hc (by decide)) (fun hc => ?_)
   refine A7 <| A3 <| A0 <| y_F rfl <| y_L rfl <| y_B rfl <| B4 (es := List.map trV [_]) rfl rfl (dT rfl) rfl rfl (fun _ => B1 (A6 fun _ => rfl)) (fun _ => rfl) ?_
   intro g49
   refine Q7 rfl rfl rfl (by simp) (by decide) rfl rfl rfl (dT rfl) (fun _ => ⟨rfl, rfl⟩) (by simp only [G9]; (simp only [List.length_nil, List.length_cons, List.length_append, Nat.zero_add, List.length_map]; omega)) (fun _ => rfl) ?_
   intro g50
   refine y_F rfl <| M4 rfl rfl rfl rfl rfl (Nat.le_refl _) rfl <| xN [2,8,11,34,35] [2,8,6,1000050] rfl <| A0 <| y_M rfl <| y_S rfl <| xN [2,8,9,34,35] [2,8,6,1000050] rfl <| A0 <| E4 rfl rfl (C3 (by omega)) <| y_M rfl <| xN [2,8,9,34,35] [2,8,6,1000050] rfl <| G0 <| A3 <| A0 <| F8 rfl rfl <| xN [2,8,9,34,35,36] [2,8,6,1000050] rfl <| A3 ?_
   refine A5 rfl (fun hc => ?_) (fun hc => absurd hc (by decide))
   refine A7 <| A3 <| B0 <| A3 <| A0 <| y_M rfl ?_
   rcases hr2 : rdT r1 with _ | ⟨k2, r2⟩
   ·skip
    apply xC rfl
    ·apply A9
     ·exact B7 rfl
     exact C5
    ·exact (by have hi := ih r1 ⟨by have := a0g hr1; simp only [List.length_cons] at hws; omega, fun x hx => hws.2 x (List.mem_cons_of_mem _ (b3x hr1 x hx))⟩ (by have := a0g hr1; simp only [List.length_cons] at hkk; omega); rw [hr2] at hi; exact hi)
    refine ⟨⟨rfl, rfl, rfl, dT rfl, rfl⟩, .inl rfl, B3, H5 (I4 rfl (N0 fun _ => I4 rfl N1)), fun _ => C1 (B1 rfl) (by rfl), fun g39 => ?_⟩
    refine y_M rfl <| y_E rfl <| y_E rfl <| y_E rfl <| y_A rfl (fun _ => rfl) ?_
    intro g10
    refine xB rfl rfl rfl rfl rfl rfl rfl rfl rfl ?_
    (refine H9 rfl rfl (by (simp; done)) rfl (fun _ => (B1 (by rfl))) (fun _ => rfl) ?_; intro g11)
    refine y_S rfl <| xN [2,8,10,11,12,34,35] [2,8,6,1000050,10] rfl <| A3 <| A3 <| A0 <| y_M rfl <| J0 rfl <| xN [2,8,10,11,34,35,44] [2,8,6,1000050,10] rfl ?_
    refine A5 rfl (fun hc => ?_) (fun hc => absurd hc (by decide))
    refine A3 <| A0 <| H1 (fs := [_, _, _]) rfl rfl rfl rfl rfl <| xB rfl rfl rfl rfl rfl rfl rfl rfl rfl ?_
    (refine B2 rfl rfl (fun _ => rfl) ?_; intro g3)
    refine y_S rfl <| xN [2,3,4] [2,3] rfl <| A8 <| C0 (D5 rfl rfl rfl rfl (C4 rfl (G8 rfl (G8 rfl F9))) (G3 rfl rfl (by simp) (by rfl) (D4 rfl rfl (C7 B5)))) ?_
    rw [a7c hnn hn, hr1, Option.bind_some, hr2]
    rfl
   skip
   apply xC rfl
   ·apply A9
    ·exact B7 rfl
    exact C5
   ·exact (by have hi := ih r1 ⟨by have := a0g hr1; simp only [List.length_cons] at hws; omega, fun x hx => hws.2 x (List.mem_cons_of_mem _ (b3x hr1 x hx))⟩ (by have := a0g hr1; simp only [List.length_cons] at hkk; omega); rw [hr2] at hi; exact hi)
   refine ⟨⟨rfl, rfl, rfl, dT rfl, rfl⟩, .inl rfl, B3, K4 rfl, fun _ => rfl, fun g39 => ?_⟩
   refine y_M rfl <| y_E rfl <| y_E rfl <| y_E rfl <| y_A rfl (fun _ => rfl) ?_
   intro g10
   refine xB rfl rfl rfl rfl rfl rfl rfl rfl rfl <| y_S rfl <| y_S rfl <| xN [2,8,10,11,12,34,35] [2,8,6,1000050,10] rfl <| A3 <| A3 <| A0 <| y_M rfl <| J0 rfl <| xN [2,8,10,11,34,35,44] [2,8,6,1000050,10] rfl ?_
   refine A5 rfl (fun hc => absurd hc (by decide)) (fun hc => ?_)
   refine A7 <| A3 <| A0 <| y_F rfl <| y_L rfl <| y_B rfl <| B4 (es := List.map trV [_]) rfl rfl (dT rfl) rfl rfl (fun _ => B1 (A6 fun _ => rfl)) (fun _ => rfl) ?_
   intro g49
   refine xA rfl rfl rfl rfl (by simp) (by simp) rfl rfl rfl rfl rfl (fun _ => rfl) (by simp only [LN]; omega) (fun _ => rfl) ?_
   intro g50
   refine y_F rfl <| M4 rfl rfl rfl rfl rfl (Nat.le_refl _) rfl <| xN [2,8,11,34,35] [2,8,6,1000050] rfl <| A0 <| y_M rfl <| y_S rfl <| xN [2,8,9,34,35] [2,8,6,1000050] rfl <| A0 <| E4 rfl rfl (C3 (by omega)) <| y_M rfl <| xN [2,8,9,34,35] [2,8,6,1000050] rfl <| G0 <| A3 <| A0 <| F8 rfl rfl <| xN [2,8,9,34,35,36] [2,8,6,1000050] rfl <| A3 ?_
   refine A5 rfl (fun hc => absurd hc (by decide)) (fun hc => ?_)
   refine E3 <| A3 <| A0 <| y_B rfl <| y_M rfl <| E7 rfl rfl rfl rfl (F6 rfl (M3 (by decide) (X6 (by decide) (by decide) rfl (by simp) fun _ => I6))) (fun _ => rfl) ⟨by decide, rfl, dT rfl, Nat.le_refl _⟩ (fun _ => rfl) (fun _ => rfl) (fun _ => C1 (by rfl) (C1 (B1 (A6 fun _ => rfl)) (by rfl))) ?_
   intro z
   simp only [I2, List.cons_append, List.nil_append]
   refine y_S rfl <| y_S rfl <| xN [2,3,4] [2,6,300002] rfl <| A8 <| C0 (D5 rfl rfl rfl rfl (C4 rfl (c1v rfl rfl rfl (J8 rfl rfl (by simp) (fun _ => rfl) F9))) (D4 rfl rfl (D4 rfl rfl (C7 B5)))) ?_
   rw [a7c hnn hn, hr1, Option.bind_some, hr2]
   rfl
  skip
  apply xC rfl
  ·apply A9
   ·exact B7 rfl
   exact C5
  ·exact (show CW (cxT oG) 48 [tV w] = some (.tup [tV w, .own 1 [], bV false], []) from by have hi := a1u (oG := oG) w (by omega); rw [hnn] at hi; rw [show decide (0 ≤ rch (bA w)) = false from decide_eq_false (by omega)] at hi; exact hi)
  refine ⟨⟨rfl, rfl, rfl, dT rfl, rfl⟩, .inr ⟨rfl, rfl⟩, B3, H5 (I4 rfl (N0 fun _ => I4 rfl N1)), fun _ => C1 (B1 rfl) (by rfl), fun g21 => ?_⟩
  try simp only [List.length_map]
  refine y_M rfl <| y_E rfl <| y_E rfl <| y_E rfl <| y_S rfl ?_
  (refine H9 rfl rfl (by (simp; done)) rfl (fun _ => (B1 (by rfl))) (fun _ => rfl) ?_; intro g6)
  refine y_S rfl <| xN [0,2,5,6,7] [2,6] rfl <| A3 <| A3 <| A0 <| y_M rfl <| J0 rfl <| xN [0,2,5,6,26] [2,6] rfl ?_
  refine A5 rfl (fun hc => ?_) (fun hc => absurd hc (by decide))
  refine A3 <| A0 <| H1 (fs := [_, _, _]) rfl rfl rfl rfl rfl <| xB rfl rfl rfl rfl rfl rfl rfl rfl rfl ?_
  (refine B2 rfl rfl (fun _ => rfl) ?_; intro g3)
  refine y_S rfl <| xN [2,3,4] [2,3] rfl <| A8 <| C0 (D5 rfl rfl rfl rfl (C4 rfl (G8 rfl (G8 rfl F9))) (G3 rfl rfl (by simp) (by rfl) (D4 rfl rfl (C7 B5)))) ?_
  rw [d1d hnn hn]
  rfl

theorem b1m : F4 Tryz.f24 = [0, 2, 3, 4, 6, 7, 5, 12] := by kernel_rfl
theorem b1r (s : List UInt8) (hs : s.length ≤ 1048576) : CW (cxT oG) 24 [tV s] = some (.tup [trV (ipT s), bV (c5w s)], []) := by
 obtain ⟨ws, hws⟩ : ∃ ws, ws = splitB 32 s := ⟨_, rfl⟩
 have hwl := U5 32 s
 have hwp := W7 32 s
 rw [← hws] at hwl hwp
 refine E5 rfl Tryz.func24 rfl ⟨by kernel_rfl, rfl, dT rfl, dT rfl, by decide⟩ b1m <| A3 <| A0 <| y_A rfl (fun _ => rfl) ?_
 intro g2
 refine y_S rfl <| xN [0,2] [2] rfl <| A3 <| A0 <| y_M rfl ?_
 apply xC rfl
 ·apply A9
  ·exact B7 rfl
  apply A9
  ·exact B7 rfl
  exact C5
 ·exact c0x s 32 (by omega)
 refine ⟨⟨rfl, rfl, rfl, dT rfl, rfl⟩, .inl rfl, B3, K0, fun _ => rfl, fun g9 => ?_⟩
 rw [← hws]
 try simp only [List.length_map]
 (refine xO rfl rfl (by simp) rfl (fun _ => rfl) (fun _ => rfl) ?_; intro g4)
 refine xN [2,4] [2,4] rfl <| A3 <| A0 <| y_M rfl ?_
 rcases hr : rdT ws with _ | ⟨t, r⟩
 ·skip
  apply xC rfl
  ·apply A9
   ·exact J2 rfl rfl (by (simp; done)) (fun _ => rfl)
   exact C5
  ·exact (by have hi := b2d (oG := oG) ws ⟨by omega, fun w hw => by have := hwp w hw; omega⟩; rw [hr] at hi; exact hi)
  refine ⟨⟨rfl, rfl, rfl, dT rfl, rfl⟩, .inl rfl, B3, H5 (I4 rfl (N0 fun _ => I4 rfl N1)), fun _ => C1 (a1f (A6 fun _ => rfl) (by decide)) (by rfl), fun g12 => ?_⟩
  refine y_M rfl <| y_E rfl <| y_E rfl <| y_E rfl <| y_A rfl (fun _ => rfl) ?_
  intro g5
  refine xB rfl rfl rfl rfl rfl rfl rfl rfl rfl ?_
  (refine H9 rfl rfl (by (simp; done)) rfl (fun _ => (B1 (by rfl))) (fun _ => rfl) ?_; intro g6)
  refine y_S rfl <| xN [2,4,5,6,7] [2,4,5] rfl <| A3 <| A0 <| y_B rfl <| y_M rfl <| y_M rfl <| I7 rfl rfl rfl <| I7 rfl rfl rfl <| I7 rfl rfl rfl <| F3 rfl rfl rfl rfl <| y_M rfl <| I7 rfl rfl rfl <| I7 rfl rfl rfl <| I7 rfl rfl rfl <| F3 rfl rfl rfl rfl <| xB rfl rfl rfl rfl rfl rfl rfl rfl rfl <| y_S rfl <| xN [2,3] [2] rfl <| A8 <| C0 (D5 rfl rfl rfl rfl (C4 rfl (C4 rfl (C4 rfl F9))) (D4 rfl rfl (C7 B5))) ?_
  obtain ⟨h1, h2⟩ := e0b hws hr
  rw [h1, h2]
  rfl
 skip
 apply xC rfl
 ·apply A9
  ·exact J2 rfl rfl (by (simp; done)) (fun _ => rfl)
  exact C5
 ·exact (by have hi := b2d (oG := oG) ws ⟨by omega, fun w hw => by have := hwp w hw; omega⟩; rw [hr] at hi; exact hi)
 refine ⟨⟨rfl, rfl, rfl, dT rfl, rfl⟩, .inl rfl, B3, K4 rfl, fun _ => C1 (a1f (A6 fun _ => rfl) (by decide)) (by rfl), fun g12 => ?_⟩
 refine y_M rfl <| y_E rfl <| y_E rfl <| y_E rfl <| y_A rfl (fun _ => rfl) ?_
 intro g5
 refine xB rfl rfl rfl rfl rfl rfl rfl rfl rfl <| y_S rfl <| y_S rfl <| xN [2,4,5,6,7] [2,4,5] rfl <| A3 <| A0 <| y_B rfl <| y_M rfl <| y_M rfl <| H3 rfl rfl rfl <| y_M rfl <| H3 rfl rfl rfl <| B9 rfl rfl <| H3 rfl rfl rfl <| M9 rfl rfl <| F0 rfl rfl rfl rfl <| y_M rfl ?_
 refine C6 rfl rfl ?_ ?_ <;> intro hg0 <;> have hg := hg0 <;> try simp only [SG] at hg
 ·refine y_M rfl <| gT rfl rfl <| I5 rfl rfl <| gT rfl rfl <| a7i rfl rfl <| F0 rfl (by assumption) rfl rfl <| xB rfl rfl rfl rfl rfl rfl rfl rfl rfl <| y_S rfl <| xN [2,3] [2] rfl <| A8 <| C0 (D5 rfl rfl rfl rfl (C4 rfl (C4 rfl (C4 rfl F9))) (D4 rfl rfl (C7 B5))) ?_
  obtain ⟨h1, h2⟩ := c3l hws hr
  rw [h1, h2]
  simp_all
  try rfl
 refine gF rfl rfl <| gF rfl rfl <| F3 rfl (by assumption) rfl rfl <| xB rfl rfl rfl rfl rfl rfl rfl rfl rfl <| y_S rfl <| xN [2,3] [2] rfl <| A8 <| C0 (D5 rfl rfl rfl rfl (C4 rfl (C4 rfl (C4 rfl F9))) (D4 rfl rfl (C7 B5))) ?_
 obtain ⟨h1, h2⟩ := c3l hws hr
 rw [h1, h2]
 simp_all
 try rfl

theorem b1n : F4 Tryz.f18 = [0, 2, 3, 5, 4, 8] := by kernel_rfl
theorem b1x (s : List UInt8) (hs : s.length ≤ 1048576) : CW (cxT oG) 18 [tV s] = some (.tup [trV (ipT s), bV (rdPlan s).isSome], []) := by
 have hip := e2h s
 refine E5 rfl Tryz.func18 rfl ⟨by kernel_rfl, rfl, dT rfl, dT rfl, by decide⟩ b1n <| A3 <| A0 <| y_A rfl (fun _ => rfl) ?_
 intro g2
 refine y_S rfl <| xN [0,2] [2] rfl <| A3 <| A0 <| y_M rfl ?_
 apply xC rfl
 ·apply A9
  ·exact B7 rfl
  exact C5
 ·exact b1r s hs
 refine ⟨⟨rfl, rfl, rfl, dT rfl, rfl⟩, .inl rfl, B3, K4 rfl, fun _ => rfl, fun g8 => ?_⟩
 refine y_M rfl <| y_E rfl <| y_E rfl <| y_A rfl (fun _ => rfl) ?_
 intro g4
 refine xB rfl rfl rfl rfl rfl rfl rfl rfl rfl <| y_S rfl <| xN [0,2,4,5] [2,4] rfl <| A3 <| A0 <| y_B rfl <| y_M rfl <| y_M rfl ?_
 refine C6 rfl rfl ?_ ?_ <;> intro hg0 <;> have hg := hg0 <;> try simp only [SG] at hg
 ·refine y_M rfl <| gT rfl rfl <| a1o rfl rfl <| gT rfl rfl <| a7i rfl rfl <| F0 rfl (by assumption) rfl rfl <| xB rfl rfl rfl rfl rfl rfl rfl rfl rfl <| y_S rfl <| xN [2,3] [2] rfl <| A8 <| C0 (D5 rfl rfl rfl rfl (C4 rfl (C4 rfl (C4 rfl F9))) (D4 rfl rfl (C7 B5))) ?_
  rw [← hip]
  simp_all
  try rfl
 refine gF rfl rfl <| gF rfl rfl <| F3 rfl (by assumption) rfl rfl <| xB rfl rfl rfl rfl rfl rfl rfl rfl rfl <| y_S rfl <| xN [2,3] [2] rfl <| A8 <| C0 (D5 rfl rfl rfl rfl (C4 rfl (C4 rfl (C4 rfl F9))) (D4 rfl rfl (C7 B5))) ?_
 rw [← hip]
 simp_all
 try rfl

theorem a8v : F4 Tryz.f12 = [0, 2, 4, 7] := by kernel_rfl
theorem a3w (s : List UInt8) (hs : s.length ≤ 1048576) : CW (cxT oG) 12 [tV s] = some (bV (rdPlan s).isSome, []) := by
 refine E5 rfl Tryz.func12 rfl ⟨by kernel_rfl, rfl, dT rfl, dT rfl, by decide⟩ a8v <| A3 <| A0 <| y_S rfl <| xN [0] [] rfl <| A3 <| A0 <| y_M rfl ?_
 apply xC rfl
 ·apply A9
  ·exact B7 rfl
  exact C5
 ·exact b1x s hs
 refine ⟨⟨rfl, rfl, rfl, dT rfl, rfl⟩, .inl rfl, B3, K4 rfl, fun _ => rfl, fun g7 => ?_⟩
 refine y_M rfl <| y_E rfl <| y_E rfl <| y_A rfl (fun _ => rfl) ?_
 intro g3
 refine xB rfl rfl rfl rfl rfl rfl rfl rfl rfl <| y_S rfl <| xN [4] [] rfl <| A3 <| A0 <| y_M rfl <| y_S rfl <| xN [2] [] rfl <| A8 <| C2 rfl rfl trivial ?_
 rfl

theorem c2x : F4 Tryz.f19 = [0, 2, 1, 7, 8, 11, 20, 19, 21, 18, 5, 3] := by kernel_rfl
theorem e0h (t : Pl) (ht : t.sz ≤ 1000) : CW (cxT oG) 19 [trK t] = some (iV (costP t), []) := by
 obtain ⟨kk, hkk⟩ : ∃ kk : Nat, t.sz < kk := ⟨_, Nat.lt_succ_self _⟩
 revert t
 induction kk with
 | zero => intro t ht hkk; exact absurd hkk (Nat.not_lt_zero _)
 | succ kk ih =>
  intro t ht hkk
  have hkl := a5w t
  have hpb := R9 t
  have hprb := a7n (bA t.op)
  have hkb := fun i => R9 (t.kids.getD i default)
  have hkz := fun i => Z2 (t := t) (i := i)
  refine E5 rfl Tryz.func19 rfl ⟨by kernel_rfl, rfl, dT rfl, dT rfl, by decide⟩ c2x <| A3 <| A0 <| a0k rfl rfl rfl (fun _ => K3 rfl) (fun _ => rfl) ?_
  intro g1
  refine y_S rfl <| xN [1] [1] rfl <| A3 <| A0 <| y_S rfl <| xN [1,3] [1] rfl <| A3 <| A3 <| A0 <| y_F rfl <| y_L rfl <| xN [1,3,7] [1] rfl <| B0 <| A3 <| A3 <| A0 <| L6 rfl rfl <| y_S rfl <| xN [1,3,7,8] [1] rfl ?_
  refine A5 rfl ?_ ?_ <;> intro hc <;> try simp only [SL] at hc
  ·refine A7 ?_
   refine A5 rfl (fun hc => ?_) (fun hc => absurd hc (by simp_all))
   refine A0 <| y_S rfl <| xN [1,3] [1] rfl <| A3 <| A3 <| A0 <| y_F rfl <| y_L rfl <| B9 rfl rfl <| y_M rfl <| xN [3,18,19,20] [] rfl <| B0 <| E8 (β := Nat × Int) [(.t 18, _), (.t 19, _)] (fun (z : Nat × Int) => match z with | (i, a) => [(.t 20, iV i), (.t 3, iV a)]) (fun (z : Nat × Int) => match z with | (i, a) => i ≤ t.kids.length ∧ a = Q5 t i) (fun (z : Nat × Int) => match z with | (i, a) => t.kids.length - i) (0, _) ⟨rfl, rfl, rfl, rfl, trivial⟩ ⟨Nat.zero_le _, by show _ = pr (bA t.op); simp_all [pr]⟩ ?_
   intro z hb
   obtain ⟨i, a⟩ := z
   try dsimp only at hb
   obtain ⟨hi1, ha⟩ := hb
   have hnb := a0f hi1
   rw [← ha] at hnb
   refine A3 <| A0 <| F8 rfl rfl <| xN [3,18,19,20,21] [] rfl <| A3 ?_
   refine A5 rfl ?_ ?_ <;> intro hc <;> try simp only [SL] at hc
   ·refine A7 <| A3 <| B0 <| A3 <| A0 <| B8 rfl rfl rfl (fun _ => rfl) (by omega) <| y_I rfl <| y_A rfl (fun _ => rfl) ?_
    intro g5
    refine xB rfl rfl rfl rfl rfl rfl rfl rfl rfl <| xN [3,5,18,19,20] [5] rfl <| A0 <| y_M rfl <| y_B rfl ?_
    have h1 := hkb i
    have h2 := hkz i (by omega)
    refine xC1 rfl rfl ((by have hk2 := Z2 (t := t) (i := i) (by omega); have hi := ih (t.kids.getD i default) (by omega) (by omega); rw [← L7] at hi; exact hi)) ⟨rfl, rfl, rfl⟩ rfl rfl fun g26 => ?_
    refine E4 rfl rfl (C3 (by omega)) <| y_S rfl <| xN [3,18,19,20] [] rfl <| A0 <| E4 rfl rfl (C3 (by omega)) <| y_M rfl <| xN [3,18,19,20] [] rfl ?_
    refine ⟨(i + 1, _), ⟨by omega, by rw [Q5, ← ha]⟩, (by simp only; omega), ⟨rfl, rfl, rfl, rfl, trivial⟩⟩
   refine E3 <| A3 <| A0 <| y_M rfl <| y_S rfl <| xN [2] [] rfl <| A8 <| C2 rfl rfl trivial ?_
   rw [ha, show i = t.kids.length by omega, W1]
  refine A0 <| L6 rfl rfl <| y_S rfl <| xN [1,3,7,8] [1] rfl ?_
  refine A5 rfl ?_ ?_ <;> intro hc <;> try simp only [SL] at hc
  ·refine A0 <| y_S rfl <| xN [1,3] [1] rfl <| A3 <| A3 <| A0 <| y_F rfl <| y_L rfl <| B9 rfl rfl <| y_M rfl <| xN [3,18,19,20] [] rfl <| B0 <| E8 (β := Nat × Int) [(.t 18, _), (.t 19, _)] (fun (z : Nat × Int) => match z with | (i, a) => [(.t 20, iV i), (.t 3, iV a)]) (fun (z : Nat × Int) => match z with | (i, a) => i ≤ t.kids.length ∧ a = Q5 t i) (fun (z : Nat × Int) => match z with | (i, a) => t.kids.length - i) (0, _) ⟨rfl, rfl, rfl, rfl, trivial⟩ ⟨Nat.zero_le _, by show _ = pr (bA t.op); simp_all [pr]⟩ ?_
   intro z hb
   obtain ⟨i, a⟩ := z
   try dsimp only at hb
   obtain ⟨hi1, ha⟩ := hb
   have hnb := a0f hi1
   rw [← ha] at hnb
   refine A3 <| A0 <| F8 rfl rfl <| xN [3,18,19,20,21] [] rfl <| A3 ?_
   refine A5 rfl ?_ ?_ <;> intro hc <;> try simp only [SL] at hc
   ·refine A7 <| A3 <| B0 <| A3 <| A0 <| B8 rfl rfl rfl (fun _ => rfl) (by omega) <| y_I rfl <| y_A rfl (fun _ => rfl) ?_
    intro g5
    refine xB rfl rfl rfl rfl rfl rfl rfl rfl rfl <| xN [3,5,18,19,20] [5] rfl <| A0 <| y_M rfl <| y_B rfl ?_
    have h1 := hkb i
    have h2 := hkz i (by omega)
    refine xC1 rfl rfl ((by have hk2 := Z2 (t := t) (i := i) (by omega); have hi := ih (t.kids.getD i default) (by omega) (by omega); rw [← L7] at hi; exact hi)) ⟨rfl, rfl, rfl⟩ rfl rfl fun g26 => ?_
    refine E4 rfl rfl (C3 (by omega)) <| y_S rfl <| xN [3,18,19,20] [] rfl <| A0 <| E4 rfl rfl (C3 (by omega)) <| y_M rfl <| xN [3,18,19,20] [] rfl ?_
    refine ⟨(i + 1, _), ⟨by omega, by rw [Q5, ← ha]⟩, (by simp only; omega), ⟨rfl, rfl, rfl, rfl, trivial⟩⟩
   refine E3 <| A3 <| A0 <| y_M rfl <| y_S rfl <| xN [2] [] rfl <| A8 <| C2 rfl rfl trivial ?_
   rw [ha, show i = t.kids.length by omega, W1]
  refine A3 <| A3 <| A0 <| L6 rfl rfl <| y_S rfl <| xN [1,3,7,11] [1] rfl ?_
  refine A5 rfl ?_ ?_ <;> intro hc <;> try simp only [SL] at hc
  ·refine A7 ?_
   refine A5 rfl (fun hc => ?_) (fun hc => absurd hc (by simp_all))
   refine A0 <| y_S rfl <| xN [1,3] [1] rfl <| A3 <| A3 <| A0 <| y_F rfl <| y_L rfl <| B9 rfl rfl <| y_M rfl <| xN [3,18,19,20] [] rfl <| B0 <| E8 (β := Nat × Int) [(.t 18, _), (.t 19, _)] (fun (z : Nat × Int) => match z with | (i, a) => [(.t 20, iV i), (.t 3, iV a)]) (fun (z : Nat × Int) => match z with | (i, a) => i ≤ t.kids.length ∧ a = Q5 t i) (fun (z : Nat × Int) => match z with | (i, a) => t.kids.length - i) (0, _) ⟨rfl, rfl, rfl, rfl, trivial⟩ ⟨Nat.zero_le _, by show _ = pr (bA t.op); simp_all [pr]⟩ ?_
   intro z hb
   obtain ⟨i, a⟩ := z
   try dsimp only at hb
   obtain ⟨hi1, ha⟩ := hb
   have hnb := a0f hi1
   rw [← ha] at hnb
   refine A3 <| A0 <| F8 rfl rfl <| xN [3,18,19,20,21] [] rfl <| A3 ?_
   refine A5 rfl ?_ ?_ <;> intro hc <;> try simp only [SL] at hc
   ·refine A7 <| A3 <| B0 <| A3 <| A0 <| B8 rfl rfl rfl (fun _ => rfl) (by omega) <| y_I rfl <| y_A rfl (fun _ => rfl) ?_
    intro g5
    refine xB rfl rfl rfl rfl rfl rfl rfl rfl rfl <| xN [3,5,18,19,20] [5] rfl <| A0 <| y_M rfl <| y_B rfl ?_
    have h1 := hkb i
    have h2 := hkz i (by omega)
    refine xC1 rfl rfl ((by have hk2 := Z2 (t := t) (i := i) (by omega); have hi := ih (t.kids.getD i default) (by omega) (by omega); rw [← L7] at hi; exact hi)) ⟨rfl, rfl, rfl⟩ rfl rfl fun g26 => ?_
    refine E4 rfl rfl (C3 (by omega)) <| y_S rfl <| xN [3,18,19,20] [] rfl <| A0 <| E4 rfl rfl (C3 (by omega)) <| y_M rfl <| xN [3,18,19,20] [] rfl ?_
    refine ⟨(i + 1, _), ⟨by omega, by rw [Q5, ← ha]⟩, (by simp only; omega), ⟨rfl, rfl, rfl, rfl, trivial⟩⟩
   refine E3 <| A3 <| A0 <| y_M rfl <| y_S rfl <| xN [2] [] rfl <| A8 <| C2 rfl rfl trivial ?_
   rw [ha, show i = t.kids.length by omega, W1]
  refine A3 <| A0 <| L6 rfl rfl <| y_S rfl <| xN [1,3,7,11] [1] rfl ?_
  refine A5 rfl ?_ ?_ <;> intro hc <;> try simp only [SL] at hc
  ·refine A7 ?_
   refine A5 rfl (fun hc => ?_) (fun hc => absurd hc (by simp_all))
   refine A0 <| y_S rfl <| xN [1,3] [1] rfl <| A3 <| A3 <| A0 <| y_F rfl <| y_L rfl <| B9 rfl rfl <| y_M rfl <| xN [3,18,19,20] [] rfl <| B0 <| E8 (β := Nat × Int) [(.t 18, _), (.t 19, _)] (fun (z : Nat × Int) => match z with | (i, a) => [(.t 20, iV i), (.t 3, iV a)]) (fun (z : Nat × Int) => match z with | (i, a) => i ≤ t.kids.length ∧ a = Q5 t i) (fun (z : Nat × Int) => match z with | (i, a) => t.kids.length - i) (0, _) ⟨rfl, rfl, rfl, rfl, trivial⟩ ⟨Nat.zero_le _, by show _ = pr (bA t.op); simp_all [pr]⟩ ?_
   intro z hb
   obtain ⟨i, a⟩ := z
   try dsimp only at hb
   obtain ⟨hi1, ha⟩ := hb
   have hnb := a0f hi1
   rw [← ha] at hnb
   refine A3 <| A0 <| F8 rfl rfl <| xN [3,18,19,20,21] [] rfl <| A3 ?_
   refine A5 rfl ?_ ?_ <;> intro hc <;> try simp only [SL] at hc
   ·refine A7 <| A3 <| B0 <| A3 <| A0 <| B8 rfl rfl rfl (fun _ => rfl) (by omega) <| y_I rfl <| y_A rfl (fun _ => rfl) ?_
    intro g5
    refine xB rfl rfl rfl rfl rfl rfl rfl rfl rfl <| xN [3,5,18,19,20] [5] rfl <| A0 <| y_M rfl <| y_B rfl ?_
    have h1 := hkb i
    have h2 := hkz i (by omega)
    refine xC1 rfl rfl ((by have hk2 := Z2 (t := t) (i := i) (by omega); have hi := ih (t.kids.getD i default) (by omega) (by omega); rw [← L7] at hi; exact hi)) ⟨rfl, rfl, rfl⟩ rfl rfl fun g26 => ?_
    refine E4 rfl rfl (C3 (by omega)) <| y_S rfl <| xN [3,18,19,20] [] rfl <| A0 <| E4 rfl rfl (C3 (by omega)) <| y_M rfl <| xN [3,18,19,20] [] rfl ?_
    refine ⟨(i + 1, _), ⟨by omega, by rw [Q5, ← ha]⟩, (by simp only; omega), ⟨rfl, rfl, rfl, rfl, trivial⟩⟩
   refine E3 <| A3 <| A0 <| y_M rfl <| y_S rfl <| xN [2] [] rfl <| A8 <| C2 rfl rfl trivial ?_
   rw [ha, show i = t.kids.length by omega, W1]
  refine A3 <| A0 <| L6 rfl rfl <| y_S rfl <| xN [1,3,7,11] [1] rfl ?_
  refine A5 rfl ?_ ?_ <;> intro hc <;> try simp only [SL] at hc
  ·refine A7 ?_
   refine A5 rfl (fun hc => ?_) (fun hc => absurd hc (by simp_all))
   refine A0 <| y_S rfl <| xN [1,3] [1] rfl <| A3 <| A3 <| A0 <| y_F rfl <| y_L rfl <| B9 rfl rfl <| y_M rfl <| xN [3,18,19,20] [] rfl <| B0 <| E8 (β := Nat × Int) [(.t 18, _), (.t 19, _)] (fun (z : Nat × Int) => match z with | (i, a) => [(.t 20, iV i), (.t 3, iV a)]) (fun (z : Nat × Int) => match z with | (i, a) => i ≤ t.kids.length ∧ a = Q5 t i) (fun (z : Nat × Int) => match z with | (i, a) => t.kids.length - i) (0, _) ⟨rfl, rfl, rfl, rfl, trivial⟩ ⟨Nat.zero_le _, by show _ = pr (bA t.op); simp_all [pr]⟩ ?_
   intro z hb
   obtain ⟨i, a⟩ := z
   try dsimp only at hb
   obtain ⟨hi1, ha⟩ := hb
   have hnb := a0f hi1
   rw [← ha] at hnb
   refine A3 <| A0 <| F8 rfl rfl <| xN [3,18,19,20,21] [] rfl <| A3 ?_
   refine A5 rfl ?_ ?_ <;> intro hc <;> try simp only [SL] at hc
   ·refine A7 <| A3 <| B0 <| A3 <| A0 <| B8 rfl rfl rfl (fun _ => rfl) (by omega) <| y_I rfl <| y_A rfl (fun _ => rfl) ?_
    intro g5
    refine xB rfl rfl rfl rfl rfl rfl rfl rfl rfl <| xN [3,5,18,19,20] [5] rfl <| A0 <| y_M rfl <| y_B rfl ?_
    have h1 := hkb i
    have h2 := hkz i (by omega)
    refine xC1 rfl rfl ((by have hk2 := Z2 (t := t) (i := i) (by omega); have hi := ih (t.kids.getD i default) (by omega) (by omega); rw [← L7] at hi; exact hi)) ⟨rfl, rfl, rfl⟩ rfl rfl fun g26 => ?_
    refine E4 rfl rfl (C3 (by omega)) <| y_S rfl <| xN [3,18,19,20] [] rfl <| A0 <| E4 rfl rfl (C3 (by omega)) <| y_M rfl <| xN [3,18,19,20] [] rfl ?_
    refine ⟨(i + 1, _), ⟨by omega, by rw [Q5, ← ha]⟩, (by simp only; omega), ⟨rfl, rfl, rfl, rfl, trivial⟩⟩
   refine E3 <| A3 <| A0 <| y_M rfl <| y_S rfl <| xN [2] [] rfl <| A8 <| C2 rfl rfl trivial ?_
   rw [ha, show i = t.kids.length by omega, W1]
  refine A3 <| A0 <| L6 rfl rfl <| y_S rfl <| xN [1,3,7,11] [1] rfl ?_
  refine A5 rfl ?_ ?_ <;> intro hc <;> try simp only [SL] at hc
  ·refine A7 ?_
   refine A5 rfl (fun hc => ?_) (fun hc => absurd hc (by simp_all))
   refine A0 <| y_S rfl <| xN [1,3] [1] rfl <| A3 <| A3 <| A0 <| y_F rfl <| y_L rfl <| B9 rfl rfl <| y_M rfl <| xN [3,18,19,20] [] rfl <| B0 <| E8 (β := Nat × Int) [(.t 18, _), (.t 19, _)] (fun (z : Nat × Int) => match z with | (i, a) => [(.t 20, iV i), (.t 3, iV a)]) (fun (z : Nat × Int) => match z with | (i, a) => i ≤ t.kids.length ∧ a = Q5 t i) (fun (z : Nat × Int) => match z with | (i, a) => t.kids.length - i) (0, _) ⟨rfl, rfl, rfl, rfl, trivial⟩ ⟨Nat.zero_le _, by show _ = pr (bA t.op); simp_all [pr]⟩ ?_
   intro z hb
   obtain ⟨i, a⟩ := z
   try dsimp only at hb
   obtain ⟨hi1, ha⟩ := hb
   have hnb := a0f hi1
   rw [← ha] at hnb
   refine A3 <| A0 <| F8 rfl rfl <| xN [3,18,19,20,21] [] rfl <| A3 ?_
   refine A5 rfl ?_ ?_ <;> intro hc <;> try simp only [SL] at hc
   ·refine A7 <| A3 <| B0 <| A3 <| A0 <| B8 rfl rfl rfl (fun _ => rfl) (by omega) <| y_I rfl <| y_A rfl (fun _ => rfl) ?_
    intro g5
    refine xB rfl rfl rfl rfl rfl rfl rfl rfl rfl <| xN [3,5,18,19,20] [5] rfl <| A0 <| y_M rfl <| y_B rfl ?_
    have h1 := hkb i
    have h2 := hkz i (by omega)
    refine xC1 rfl rfl ((by have hk2 := Z2 (t := t) (i := i) (by omega); have hi := ih (t.kids.getD i default) (by omega) (by omega); rw [← L7] at hi; exact hi)) ⟨rfl, rfl, rfl⟩ rfl rfl fun g26 => ?_
    refine E4 rfl rfl (C3 (by omega)) <| y_S rfl <| xN [3,18,19,20] [] rfl <| A0 <| E4 rfl rfl (C3 (by omega)) <| y_M rfl <| xN [3,18,19,20] [] rfl ?_
    refine ⟨(i + 1, _), ⟨by omega, by rw [Q5, ← ha]⟩, (by simp only; omega), ⟨rfl, rfl, rfl, rfl, trivial⟩⟩
   refine E3 <| A3 <| A0 <| y_M rfl <| y_S rfl <| xN [2] [] rfl <| A8 <| C2 rfl rfl trivial ?_
   rw [ha, show i = t.kids.length by omega, W1]
  refine A0 <| L6 rfl rfl <| y_S rfl <| xN [1,3,11] [1] rfl ?_
  refine A5 rfl ?_ ?_ <;> intro hc <;> try simp only [SL] at hc
  ·refine A0 <| y_S rfl <| xN [1,3] [1] rfl <| A3 <| A3 <| A0 <| y_F rfl <| y_L rfl <| B9 rfl rfl <| y_M rfl <| xN [3,18,19,20] [] rfl <| B0 <| E8 (β := Nat × Int) [(.t 18, _), (.t 19, _)] (fun (z : Nat × Int) => match z with | (i, a) => [(.t 20, iV i), (.t 3, iV a)]) (fun (z : Nat × Int) => match z with | (i, a) => i ≤ t.kids.length ∧ a = Q5 t i) (fun (z : Nat × Int) => match z with | (i, a) => t.kids.length - i) (0, _) ⟨rfl, rfl, rfl, rfl, trivial⟩ ⟨Nat.zero_le _, by show _ = pr (bA t.op); simp_all [pr]⟩ ?_
   intro z hb
   obtain ⟨i, a⟩ := z
   try dsimp only at hb
   obtain ⟨hi1, ha⟩ := hb
   have hnb := a0f hi1
   rw [← ha] at hnb
   refine A3 <| A0 <| F8 rfl rfl <| xN [3,18,19,20,21] [] rfl <| A3 ?_
   refine A5 rfl ?_ ?_ <;> intro hc <;> try simp only [SL] at hc
   ·refine A7 <| A3 <| B0 <| A3 <| A0 <| B8 rfl rfl rfl (fun _ => rfl) (by omega) <| y_I rfl <| y_A rfl (fun _ => rfl) ?_
    intro g5
    refine xB rfl rfl rfl rfl rfl rfl rfl rfl rfl <| xN [3,5,18,19,20] [5] rfl <| A0 <| y_M rfl <| y_B rfl ?_
    have h1 := hkb i
    have h2 := hkz i (by omega)
    refine xC1 rfl rfl ((by have hk2 := Z2 (t := t) (i := i) (by omega); have hi := ih (t.kids.getD i default) (by omega) (by omega); rw [← L7] at hi; exact hi)) ⟨rfl, rfl, rfl⟩ rfl rfl fun g26 => ?_
    refine E4 rfl rfl (C3 (by omega)) <| y_S rfl <| xN [3,18,19,20] [] rfl <| A0 <| E4 rfl rfl (C3 (by omega)) <| y_M rfl <| xN [3,18,19,20] [] rfl ?_
    refine ⟨(i + 1, _), ⟨by omega, by rw [Q5, ← ha]⟩, (by simp only; omega), ⟨rfl, rfl, rfl, rfl, trivial⟩⟩
   refine E3 <| A3 <| A0 <| y_M rfl <| y_S rfl <| xN [2] [] rfl <| A8 <| C2 rfl rfl trivial ?_
   rw [ha, show i = t.kids.length by omega, W1]
  refine A7 <| A3 <| A3 <| A0 <| y_F rfl <| y_L rfl <| B9 rfl rfl <| y_M rfl <| xN [3,18,19,20] [] rfl <| B0 <| E8 (β := Nat × Int) [(.t 18, _), (.t 19, _)] (fun (z : Nat × Int) => match z with | (i, a) => [(.t 20, iV i), (.t 3, iV a)]) (fun (z : Nat × Int) => match z with | (i, a) => i ≤ t.kids.length ∧ a = Q5 t i) (fun (z : Nat × Int) => match z with | (i, a) => t.kids.length - i) (0, _) ⟨rfl, rfl, rfl, rfl, trivial⟩ ⟨Nat.zero_le _, by show _ = pr (bA t.op); simp_all [pr]⟩ ?_
  intro z hb
  obtain ⟨i, a⟩ := z
  try dsimp only at hb
  obtain ⟨hi1, ha⟩ := hb
  have hnb := a0f hi1
  rw [← ha] at hnb
  refine A3 <| A0 <| F8 rfl rfl <| xN [3,18,19,20,21] [] rfl <| A3 ?_
  refine A5 rfl ?_ ?_ <;> intro hc <;> try simp only [SL] at hc
  ·refine A7 <| A3 <| B0 <| A3 <| A0 <| B8 rfl rfl rfl (fun _ => rfl) (by omega) <| y_I rfl <| y_A rfl (fun _ => rfl) ?_
   intro g5
   refine xB rfl rfl rfl rfl rfl rfl rfl rfl rfl <| xN [3,5,18,19,20] [5] rfl <| A0 <| y_M rfl <| y_B rfl ?_
   have h1 := hkb i
   have h2 := hkz i (by omega)
   refine xC1 rfl rfl ((by have hk2 := Z2 (t := t) (i := i) (by omega); have hi := ih (t.kids.getD i default) (by omega) (by omega); rw [← L7] at hi; exact hi)) ⟨rfl, rfl, rfl⟩ rfl rfl fun g26 => ?_
   refine E4 rfl rfl (C3 (by omega)) <| y_S rfl <| xN [3,18,19,20] [] rfl <| A0 <| E4 rfl rfl (C3 (by omega)) <| y_M rfl <| xN [3,18,19,20] [] rfl ?_
   refine ⟨(i + 1, _), ⟨by omega, by rw [Q5, ← ha]⟩, (by simp only; omega), ⟨rfl, rfl, rfl, rfl, trivial⟩⟩
  refine E3 <| A3 <| A0 <| y_M rfl <| y_S rfl <| xN [2] [] rfl <| A8 <| C2 rfl rfl trivial ?_
  rw [ha, show i = t.kids.length by omega, W1]

theorem b6y : F4 Tryz.f7 = [0, 2, 4, 11, 3, 7] := by kernel_rfl
theorem b9o (s : List UInt8) (hs : s.length ≤ 1048576) : CW (cxT oG) 7 [tV s] = some (iV (b4z s), []) := by
 refine E5 rfl Tryz.func7 rfl ⟨by kernel_rfl, rfl, dT rfl, dT rfl, by decide⟩ b6y <| A3 <| A0 <| y_S rfl <| xN [0] [] rfl <| A3 <| A0 <| y_M rfl ?_
 apply xC rfl
 ·apply A9
  ·exact B7 rfl
  exact C5
 ·exact b1x s hs
 refine ⟨⟨rfl, rfl, rfl, dT rfl, rfl⟩, .inl rfl, B3, K4 rfl, fun _ => rfl, fun g7 => ?_⟩
 refine y_M rfl <| y_E rfl <| y_E rfl <| y_A rfl (fun _ => rfl) ?_
 intro g3
 refine xB rfl rfl rfl rfl rfl rfl rfl rfl rfl <| y_S rfl <| xN [3,4] [3] rfl <| A3 <| A3 <| A0 <| y_M rfl <| J0 rfl <| xN [3,11] [3] rfl ?_
 refine A5 rfl ?_ ?_ <;> intro hc <;> try simp only [SL] at hc
 ·refine A3 <| A0 <| y_S rfl <| xN [2] [] rfl <| A8 <| C2 rfl rfl trivial ?_
  rw [c8y hc]
  rfl
 refine A7 <| A3 <| A0 <| y_B rfl ?_
 obtain ⟨t, ht1, ht2, ht3⟩ := a1p hc
 rw [e1n ht1, L7]
 refine xC1 rfl rfl (e0h t (by omega)) ⟨rfl, rfl, rfl⟩ rfl rfl fun g13 => ?_
 refine y_S rfl <| xN [2] [] rfl <| A8 <| C2 rfl rfl trivial ?_
 rw [a7x ht1]

theorem c1k : F4 Tryz.f40 = [0, 2] := by kernel_rfl
theorem d9k (xs : List W8) (hx : xs.length ≤ G9) : CW (cxT oG) 40 [.own 1 (xs.map tV)] = some (.own 1 (xs.map tV), []) := by
 refine E5 rfl Tryz.func40 rfl ⟨by kernel_rfl, rfl, dT rfl, dT rfl, by decide⟩ c1k <| A3 <| A0 ?_
 (refine B2 rfl rfl (fun _ => rfl) ?_; intro g2)
 refine xN [0] [0] rfl <| A3 <| A0 <| y_M rfl <| y_M rfl <| I5 rfl rfl <| y_M rfl <| I5 rfl rfl ?_
 refine d4v rfl rfl rfl rfl rfl rfl (fun hz => ?_) (fun hz => ?_)
 ·skip
  (refine B2 rfl rfl (fun _ => rfl) ?_; intro g2)
  refine xN [2] [0,2] rfl <| A8 <| N4 rfl rfl (by (simp; done)) (by rfl) trivial ?_
  (have h0 : xs = [] := (by simpa using hz); subst h0; rfl)
 skip
 (refine xO rfl rfl (by simp) rfl (fun _ => rfl) (fun _ => rfl) ?_; intro g2)
 refine xN [2] [0,2] rfl <| A8 <| N4 rfl rfl (by (simp; done)) (by exact A6 fun _ => rfl) trivial ?_
 rfl

theorem b2v : F4 Tryz.f16 = [0, 2, 1, 7, 4, 19, 3] := by kernel_rfl
theorem a7z (t : Pl) (hln : (showP t).length ≤ 1048576) (hgd : t.good) : CW (cxT oG) 16 [trK t] = some (tV (showP t), []) := by
 obtain ⟨kk, hkk⟩ : ∃ kk : Nat, t.sz < kk := ⟨_, Nat.lt_succ_self _⟩
 revert t
 induction kk with
 | zero => intro t hln hgd hkk; exact absurd hkk (Nat.not_lt_zero _)
 | succ kk ih =>
  intro t hln hgd hkk
  have hkl := a5w t
  have hkz := fun i => Z2 (t := t) (i := i)
  have hkg := fun i => a4s hgd (i := i)
  have hst := fun i h => b6d (t := t) h (i := i)
  have hall := fun h => b1q (t := t) h
  refine E5 rfl Tryz.func16 rfl ⟨by kernel_rfl, rfl, dT rfl, dT rfl, by decide⟩ b2v <| A3 <| A0 <| a0k rfl rfl rfl (fun _ => K3 rfl) (fun _ => rfl) ?_
  intro g1
  refine y_S rfl <| xN [1] [1] rfl <| A3 <| A3 <| A0 <| y_F rfl <| y_L rfl <| L6 rfl rfl <| xN [1,7] [1] rfl ?_
  refine A5 rfl ?_ ?_ <;> intro hc <;> try simp only [SL] at hc
  ·obtain ⟨ns, rfl, hv⟩ := W0 hgd (by assumption)
   have hl := b1g hv
   have hnb := d1a hv
   have hll := V9 hnb
   refine A3 <| A0 <| y_F rfl <| y_L rfl ?_
   refine xC1 rfl rfl (a8e ns (by omega) hnb) ⟨rfl, rfl, rfl⟩ rfl rfl fun g10 => ?_
   iterate 2 refine L2 rfl rfl (by simp only [G9, List.length_append, List.length_cons, List.length_nil]; omega) ?_
   refine y_S rfl <| xN [2] [] rfl <| A8 <| C2 rfl rfl trivial ?_
   rfl
  have hop : t.op ≠ lW := by assumption
  refine A7 <| A3 <| A0 <| y_F rfl <| y_L rfl <| y_S rfl <| xN [1,3] [1] rfl <| A3 <| A3 <| A0 <| y_S rfl <| xN [1,3,4] [1] rfl <| B0 <| E8 (β := Nat × W8) [(.t 1, _), (.h 1, _)] (fun (z : Nat × W8) => match z with | (i, a) => [(.t 4, iV i), (.t 3, tV a)]) (fun (z : Nat × W8) => match z with | (i, a) => i ≤ t.kids.length ∧ a = a2c t i) (fun (z : Nat × W8) => match z with | (i, a) => t.kids.length - i) (0, _) ⟨rfl, rfl, rfl, rfl, trivial⟩ ⟨Nat.zero_le _, rfl⟩ ?_
  intro z hb
  obtain ⟨i, a⟩ := z
  try dsimp only at hb
  obtain ⟨hi1, ha⟩ := hb
  have hst1 := fun h => hst i hop h
  rw [← ha] at hst1
  refine A3 <| A3 <| A0 <| y_M rfl <| y_F rfl <| y_L rfl <| B9 rfl rfl <| F8 rfl rfl <| xN [1,3,4,19] [1] rfl ?_
  refine A5 rfl ?_ ?_ <;> intro hc <;> try simp only [SL] at hc
  ·refine A7 <| A3 <| B0 <| A0 <| y_M rfl <| L2 rfl rfl (by simp only [G9, List.length_append, List.length_cons, List.length_nil]; omega) <| y_F rfl <| y_L rfl <| y_M rfl <| B8 rfl rfl rfl (fun _ => rfl) (by omega) <| y_I rfl ?_
   have h1 := hst i hop (by omega)
   have h2 := hkz i (by omega)
   refine xC1 rfl rfl ((by have hi := ih (t.kids.getD i default) (by have := c1u (t := t) (i := i) (by omega); omega) (hkg i (by omega)) (by omega); rw [← L7] at hi; exact hi)) ⟨rfl, rfl, rfl⟩ rfl rfl fun g29 => ?_
   refine L2 rfl rfl (by simp only [G9, List.length_append, List.length_cons, List.length_nil]; omega) <| y_S rfl <| xN [1,3,4] [1] rfl <| A0 <| y_M rfl <| E4 rfl rfl (C3 (by omega)) <| y_S rfl <| xN [1,3,4] [1] rfl ?_
   refine ⟨(i + 1, _), ⟨by omega, by rw [a2c, ← ha]⟩, (by simp only; omega), ⟨rfl, rfl, rfl, rfl, trivial⟩⟩
  refine E3 <| A3 <| A0 <| y_M rfl <| y_S rfl <| xN [2] [] rfl <| A8 <| C2 rfl rfl trivial ?_
  rw [ha, show i = t.kids.length by omega, hall hop]

theorem c7j : F4 Tryz.f64 = [0, 2, 3, 1, 17, 4, 28, 29, 38, 42] := by kernel_rfl
theorem e0y (t : Pl) (hgd : t.good) : CW (cxT oG) 64 [trK t] = some (.tup [trV ((U0 t).getD t), bV (U0 t).isSome], []) := by
 have hkl := a5w t
 have hol := d1g hgd
 have hkg := fun h => d1g (a4s hgd (i := 0) h)
 refine E5 rfl Tryz.func64 rfl ⟨by kernel_rfl, rfl, dT rfl, dT rfl, by decide⟩ c7j <| A3 <| A0 <| a0k rfl rfl rfl (fun _ => K3 rfl) (fun _ => rfl) ?_
 intro g1
 refine y_A rfl (fun _ => rfl) ?_
 intro g2
 refine y_S rfl <| xN [1,2] [1,2] rfl <| A3 <| A3 <| A0 <| y_F rfl <| y_L rfl <| B9 rfl rfl <| c0g rfl rfl <| y_M rfl ?_
 refine C6 rfl rfl ?_ ?_ <;> intro hg0 <;> have hg := hg0 <;> try simp only [SG] at hg
 ·refine y_F rfl <| gT rfl rfl <| y_L rfl <| gT rfl rfl <| B8 rfl rfl rfl (fun _ => rfl) (by (change 0 < _; omega)) <| gT rfl rfl <| y_F rfl <| gT rfl rfl <| b7h rfl rfl rfl <| gT rfl rfl ?_
  rw [a2p]
  refine B9 rfl rfl <| gT rfl rfl <| c0g rfl rfl <| F3 rfl (by assumption) rfl rfl <| xN [1,2,17] [1,2] rfl ?_
  refine A5 rfl ?_ ?_ <;> intro hc <;> try simp only [SL] at hc
  ·refine A3 <| A0 <| y_B rfl <| xB rfl rfl rfl rfl rfl rfl rfl rfl rfl <| y_S rfl <| xN [2,3] [2] rfl <| A8 <| C0 (D5 rfl rfl rfl rfl (C4 rfl (C4 rfl (C4 rfl F9))) (D4 rfl rfl (C7 B5))) ?_
   (rw [b8y (by omega)]; show AV.tup [trK t, bV false] = AV.tup [trV t, bV false]; rw [L7])
  refine A7 <| A3 <| A0 <| y_F rfl <| y_L rfl <| B8 rfl rfl rfl (fun _ => rfl) (by (change 0 < _; omega)) <| y_I rfl <| y_A rfl (fun _ => rfl) ?_
  intro g4
  refine xB rfl rfl rfl rfl rfl rfl rfl rfl rfl <| xN [1,2,4] [1,2,4] rfl <| A3 <| A3 <| A0 <| y_F rfl <| y_L rfl <| L2 rfl rfl (by simp only [G9, List.length_append, List.length_cons, List.length_nil]; omega) <| y_F rfl <| y_L rfl <| L2 rfl rfl (by simp only [G9, List.length_append, List.length_cons, List.length_nil]; omega) <| xN [1,2,4,28] [1,2,4] rfl <| B0 <| A3 <| A3 <| A0 <| L6 rfl rfl <| y_S rfl <| xN [1,2,4,28,29] [1,2,4] rfl ?_
  refine A5 rfl ?_ ?_ <;> intro hc <;> try simp only [SL] at hc
  ·refine A7 ?_
   refine A5 rfl (fun hc => ?_) (fun hc => absurd hc (by simp_all))
   refine A3 <| A0 <| y_F rfl <| y_L rfl ?_
   rw [a2p]
   refine H2 rfl rfl rfl (fun _ => rfl) (by show (0 : Int) ≤ 0 ∧ (0 : Int) < ((t.kids.getD 0 default).kids.length : Int); omega) <| y_I rfl <| xB rfl rfl rfl rfl rfl rfl rfl rfl rfl <| y_S rfl <| xN [2,3] [2] rfl <| A8 <| C0 (D5 rfl rfl rfl rfl (C4 rfl (C4 rfl (C4 rfl F9))) (D4 rfl rfl (C7 B5))) ?_
   (rw [c1n (t := t) (k := [114, 101, 118, 32, 114, 101, 118]) (by omega) (by omega) (by assumption) (by decide)]; rfl)
  refine A3 <| A0 <| L6 rfl rfl <| y_S rfl <| xN [1,2,4,28,29] [1,2,4] rfl ?_
  refine A5 rfl ?_ ?_ <;> intro hc <;> try simp only [SL] at hc
  ·refine A7 ?_
   refine A5 rfl (fun hc => ?_) (fun hc => absurd hc (by simp_all))
   refine A3 <| A0 <| y_F rfl <| y_L rfl ?_
   rw [a2p]
   refine H2 rfl rfl rfl (fun _ => rfl) (by show (0 : Int) ≤ 0 ∧ (0 : Int) < ((t.kids.getD 0 default).kids.length : Int); omega) <| y_I rfl <| xB rfl rfl rfl rfl rfl rfl rfl rfl rfl <| y_S rfl <| xN [2,3] [2] rfl <| A8 <| C0 (D5 rfl rfl rfl rfl (C4 rfl (C4 rfl (C4 rfl F9))) (D4 rfl rfl (C7 B5))) ?_
   (rw [c1n (t := t) (k := [110, 101, 103, 32, 110, 101, 103]) (by omega) (by omega) (by assumption) (by decide)]; rfl)
  refine A3 <| A0 <| L6 rfl rfl <| y_S rfl <| xN [1,2,4,28,29] [1,2,4] rfl ?_
  refine A5 rfl ?_ ?_ <;> intro hc <;> try simp only [SL] at hc
  ·refine A7 ?_
   refine A5 rfl (fun hc => ?_) (fun hc => absurd hc (by simp_all))
   refine A3 <| A0 <| y_F rfl <| y_L rfl ?_
   rw [a2p]
   refine H2 rfl rfl rfl (fun _ => rfl) (by show (0 : Int) ≤ 0 ∧ (0 : Int) < ((t.kids.getD 0 default).kids.length : Int); omega) <| y_I rfl <| xB rfl rfl rfl rfl rfl rfl rfl rfl rfl <| y_S rfl <| xN [2,3] [2] rfl <| A8 <| C0 (D5 rfl rfl rfl rfl (C4 rfl (C4 rfl (C4 rfl F9))) (D4 rfl rfl (C7 B5))) ?_
   (rw [c1n (t := t) (k := [100, 105, 102, 102, 32, 115, 117, 109, 115]) (by omega) (by omega) (by assumption) (by decide)]; rfl)
  refine A0 <| L6 rfl rfl <| y_S rfl <| xN [1,2,4,28,29] [1,2,4] rfl ?_
  refine A5 rfl ?_ ?_ <;> intro hc <;> try simp only [SL] at hc
  ·refine A3 <| A0 <| y_F rfl <| y_L rfl ?_
   rw [a2p]
   refine H2 rfl rfl rfl (fun _ => rfl) (by show (0 : Int) ≤ 0 ∧ (0 : Int) < ((t.kids.getD 0 default).kids.length : Int); omega) <| y_I rfl <| xB rfl rfl rfl rfl rfl rfl rfl rfl rfl <| y_S rfl <| xN [2,3] [2] rfl <| A8 <| C0 (D5 rfl rfl rfl rfl (C4 rfl (C4 rfl (C4 rfl F9))) (D4 rfl rfl (C7 B5))) ?_
   (rw [c1n (t := t) (k := [115, 117, 109, 115, 32, 100, 105, 102, 102]) (by omega) (by omega) (by assumption) (by decide)]; rfl)
  refine A3 <| A3 <| A0 <| L6 rfl rfl <| y_S rfl <| xN [1,2,4,28,38] [1,2,4] rfl ?_
  refine A5 rfl ?_ ?_ <;> intro hc <;> try simp only [SL] at hc
  ·refine A7 ?_
   refine A5 rfl (fun hc => ?_) (fun hc => absurd hc (by simp_all))
   refine A3 <| A0 <| y_B rfl <| xB rfl rfl rfl rfl rfl rfl rfl rfl rfl <| y_S rfl <| xN [2,3] [2] rfl <| A8 <| C0 (D5 rfl rfl rfl rfl (C4 rfl (C4 rfl (C4 rfl F9))) (D4 rfl rfl (C7 B5))) ?_
   (rw [d6y (t := t) (k := [115, 111, 114, 116, 32, 115, 111, 114, 116]) (by omega) (by omega) (by assumption) (by decide)]; rfl)
  refine A0 <| L6 rfl rfl <| y_S rfl <| xN [1,2,4,28,38] [1,2,4] rfl ?_
  refine A5 rfl ?_ ?_ <;> intro hc <;> try simp only [SL] at hc
  ·refine A3 <| A0 <| y_B rfl <| xB rfl rfl rfl rfl rfl rfl rfl rfl rfl <| y_S rfl <| xN [2,3] [2] rfl <| A8 <| C0 (D5 rfl rfl rfl rfl (C4 rfl (C4 rfl (C4 rfl F9))) (D4 rfl rfl (C7 B5))) ?_
   (rw [d6y (t := t) (k := [97, 98, 115, 32, 97, 98, 115]) (by omega) (by omega) (by assumption) (by decide)]; rfl)
  refine A3 <| A3 <| A0 <| L6 rfl rfl <| y_S rfl <| xN [1,2,4,28,42] [1,2,4] rfl ?_
  refine A5 rfl ?_ ?_ <;> intro hc <;> try simp only [SL] at hc
  ·refine A7 ?_
   refine A5 rfl (fun hc => ?_) (fun hc => absurd hc (by simp_all))
   refine A3 <| A0 <| y_F rfl <| y_L rfl <| y_F rfl <| y_L rfl <| H1 (fs := [_, _, _]) rfl rfl rfl rfl rfl <| xB rfl rfl rfl rfl rfl rfl rfl rfl rfl <| y_S rfl <| xN [2,3] [2] rfl <| A8 <| C0 (D5 rfl rfl rfl rfl (C4 rfl (G8 rfl (C4 rfl F9))) (D4 rfl rfl (C7 B5))) ?_
   (rw [c3a (t := t) (k := [115, 111, 114, 116, 32, 114, 101, 118]) (by omega) (by omega) (by assumption) (by decide)]; show AV.tup [AV.agg [tV t.op, AV.list [], AV.list (a6e (t.kids.getD 0 default))], bV true] = AV.tup [trV (.un t.op ((t.kids.getD 0 default).kids.getD 0 default)), bV true]; rw [b4b (w := t.op) (t := t.kids.getD 0 default) (by omega)]; rfl)
  refine A3 <| A0 <| L6 rfl rfl <| y_S rfl <| xN [1,2,4,28,42] [1,2,4] rfl ?_
  refine A5 rfl ?_ ?_ <;> intro hc <;> try simp only [SL] at hc
  ·refine A7 ?_
   refine A5 rfl (fun hc => ?_) (fun hc => absurd hc (by simp_all))
   refine A3 <| A0 <| y_F rfl <| y_L rfl <| y_F rfl <| y_L rfl <| H1 (fs := [_, _, _]) rfl rfl rfl rfl rfl <| xB rfl rfl rfl rfl rfl rfl rfl rfl rfl <| y_S rfl <| xN [2,3] [2] rfl <| A8 <| C0 (D5 rfl rfl rfl rfl (C4 rfl (G8 rfl (C4 rfl F9))) (D4 rfl rfl (C7 B5))) ?_
   (rw [c3a (t := t) (k := [97, 98, 115, 32, 110, 101, 103]) (by omega) (by omega) (by assumption) (by decide)]; show AV.tup [AV.agg [tV t.op, AV.list [], AV.list (a6e (t.kids.getD 0 default))], bV true] = AV.tup [trV (.un t.op ((t.kids.getD 0 default).kids.getD 0 default)), bV true]; rw [b4b (w := t.op) (t := t.kids.getD 0 default) (by omega)]; rfl)
  refine A3 <| A0 <| L6 rfl rfl <| y_S rfl <| xN [1,2,4,28,42] [1,2,4] rfl ?_
  refine A5 rfl ?_ ?_ <;> intro hc <;> try simp only [SL] at hc
  ·refine A7 ?_
   refine A5 rfl (fun hc => ?_) (fun hc => absurd hc (by simp_all))
   refine A3 <| A0 <| y_F rfl <| y_L rfl <| y_F rfl <| y_L rfl <| H1 (fs := [_, _, _]) rfl rfl rfl rfl rfl <| xB rfl rfl rfl rfl rfl rfl rfl rfl rfl <| y_S rfl <| xN [2,3] [2] rfl <| A8 <| C0 (D5 rfl rfl rfl rfl (C4 rfl (G8 rfl (C4 rfl F9))) (D4 rfl rfl (C7 B5))) ?_
   (rw [c3a (t := t) (k := [116, 111, 116, 97, 108, 32, 115, 111, 114, 116]) (by omega) (by omega) (by assumption) (by decide)]; show AV.tup [AV.agg [tV t.op, AV.list [], AV.list (a6e (t.kids.getD 0 default))], bV true] = AV.tup [trV (.un t.op ((t.kids.getD 0 default).kids.getD 0 default)), bV true]; rw [b4b (w := t.op) (t := t.kids.getD 0 default) (by omega)]; rfl)
  refine A0 <| L6 rfl rfl <| y_S rfl <| xN [1,2,4,42] [1,2,4] rfl ?_
  refine A5 rfl ?_ ?_ <;> intro hc <;> try simp only [SL] at hc
  ·refine A3 <| A0 <| y_F rfl <| y_L rfl <| y_F rfl <| y_L rfl <| H1 (fs := [_, _, _]) rfl rfl rfl rfl rfl <| xB rfl rfl rfl rfl rfl rfl rfl rfl rfl <| y_S rfl <| xN [2,3] [2] rfl <| A8 <| C0 (D5 rfl rfl rfl rfl (C4 rfl (G8 rfl (C4 rfl F9))) (D4 rfl rfl (C7 B5))) ?_
   (rw [c3a (t := t) (k := [116, 111, 116, 97, 108, 32, 114, 101, 118]) (by omega) (by omega) (by assumption) (by decide)]; show AV.tup [AV.agg [tV t.op, AV.list [], AV.list (a6e (t.kids.getD 0 default))], bV true] = AV.tup [trV (.un t.op ((t.kids.getD 0 default).kids.getD 0 default)), bV true]; rw [b4b (w := t.op) (t := t.kids.getD 0 default) (by omega)]; rfl)
  refine A7 <| A3 <| A0 <| y_B rfl <| xB rfl rfl rfl rfl rfl rfl rfl rfl rfl <| y_S rfl <| xN [2,3] [2] rfl <| A8 <| C0 (D5 rfl rfl rfl rfl (C4 rfl (C4 rfl (C4 rfl F9))) (D4 rfl rfl (C7 B5))) ?_
  (rw [c6h (by omega) (by omega), d8l (by simp only [goneL, List.mem_cons, List.not_mem_nil, or_false]; rintro x (rfl | rfl | rfl | rfl | rfl | rfl | rfl | rfl | rfl | rfl) <;> assumption)]; show AV.tup [trK t, bV false] = AV.tup [trV t, bV false]; rw [L7])
 iterate 6 refine gF rfl rfl ?_
 refine F0 rfl (by assumption) rfl rfl <| xN [1,2,17] [1,2] rfl ?_
 refine A5 rfl (fun hc => ?_) (fun hc => absurd hc (by decide))
 refine A3 <| A0 <| y_B rfl <| xB rfl rfl rfl rfl rfl rfl rfl rfl rfl <| y_S rfl <| xN [2,3] [2] rfl <| A8 <| C0 (D5 rfl rfl rfl rfl (C4 rfl (C4 rfl (C4 rfl F9))) (D4 rfl rfl (C7 B5))) ?_
 (rw [b8y (by omega)]; show AV.tup [trK t, bV false] = AV.tup [trV t, bV false]; rw [L7])

theorem b6e : F4 Tryz.f46 = [0, 2, 1, 5, 16, 4, 3, 6, 25, 7, 8, 37, 9, 13] := by kernel_rfl
theorem d3u (t : Pl) (hsz : t.sz ≤ 1000) (hgd : t.good) : CW (cxT oG) 46 [trK t] = some (.own 3 ((oneP t).map trV), []) := by
 obtain ⟨kk, hkk⟩ : ∃ kk : Nat, t.sz < kk := ⟨_, Nat.lt_succ_self _⟩
 revert t
 induction kk with
 | zero => intro t hsz hgd hkk; exact absurd hkk (Nat.not_lt_zero _)
 | succ kk ih =>
  intro t hsz hgd hkk
  have hkl := a5w t
  have hhl := fun i (h : i ≤ t.kids.length) => c5s (t := t) h
  have hjl := fun i j (h : i < t.kids.length) => d6r (t := t) (j := j) h
  refine E5 rfl Tryz.func46 rfl ⟨by kernel_rfl, rfl, dT rfl, dT rfl, by decide⟩ b6e <| A3 <| A0 <| a0k rfl rfl rfl (fun _ => K3 rfl) (fun _ => rfl) ?_
  intro g1
  (refine B2 rfl rfl (fun _ => rfl) ?_; intro g2)
  refine xN [1] [1] rfl <| A3 <| A0 <| B4 (es := List.map trV []) rfl rfl (dT rfl) rfl rfl (fun _ => B1 (A6 fun _ => rfl)) (fun _ => rfl) ?_
  intro g10
  (refine xO rfl rfl (by simp) rfl (fun _ => rfl) (fun _ => rfl) ?_; intro g3)
  refine xN [1,3] [1,3] rfl <| A3 <| A0 <| y_B rfl ?_
  apply xC rfl
  ·apply A9
   ·exact B7 rfl
   exact C5
  ·exact e0y t hgd
  refine ⟨⟨rfl, rfl, rfl, dT rfl, rfl⟩, .inl rfl, B3, K4 rfl, fun _ => rfl, fun g13 => ?_⟩
  refine y_M rfl <| y_E rfl <| y_E rfl <| y_A rfl (fun _ => rfl) ?_
  intro g4
  refine xB rfl rfl rfl rfl rfl rfl rfl rfl rfl <| y_S rfl <| xN [1,3,4,5] [1,3,4] rfl <| A3 <| A3 <| A0 <| y_M rfl <| xN [1,3,4,16] [1,3,4] rfl ?_
  refine A5 rfl ?_ ?_ <;> intro hc <;> try simp only [SL] at hc
  ·refine A0 <| y_M rfl <| y_B rfl <| B4 (es := List.map trV [_]) rfl rfl (dT rfl) rfl rfl (fun _ => B1 (A6 fun _ => rfl)) (fun _ => rfl) ?_
   intro g19
   refine xA rfl rfl rfl rfl (by simp) (by simp) rfl rfl rfl rfl rfl (fun _ => rfl) (by simp only [LN]; omega) (fun _ => rfl) ?_
   intro g20
   (refine xO rfl rfl (by simp) rfl (fun _ => rfl) (fun _ => rfl) ?_; intro g3)
   refine xN [1,3] [1,3] rfl <| A3 <| A3 <| A0 <| y_S rfl <| xN [1,3,6] [1,3] rfl <| B0 <| E8 (β := Nat × List Pl × Nat) [(.t 1, _), (.h 1, _)] (fun (z : Nat × List Pl × Nat) => match z with | (i, us, g) => [(.t 6, iV i), (.h 3, .obj g 0 3 (us.map trV)), (.t 3, .sl 3 g none 0 us.length)]) (fun (z : Nat × List Pl × Nat) => match z with | (i, us, g) => i ≤ t.kids.length ∧ us = a9z t i) (fun (z : Nat × List Pl × Nat) => match z with | (i, us, g) => t.kids.length - i) (0, _, _) ⟨rfl, rfl, rfl, rfl, rfl, trivial⟩ ⟨Nat.zero_le _, by (rw [a9z, Option.isSome_iff_exists.1 hc |>.choose_spec]; rfl)⟩ ?_
   intro z hb
   obtain ⟨i, us, g⟩ := z
   try dsimp only at hb
   obtain ⟨hi1, hus⟩ := hb
   have hul := hhl i hi1
   rw [← hus] at hul
   refine A3 <| A3 <| A0 <| y_M rfl <| y_F rfl <| y_L rfl <| B9 rfl rfl <| F8 rfl rfl <| xN [1,3,6,25] [1,3] rfl ?_
   refine A5 rfl ?_ ?_ <;> intro hc <;> try simp only [SL] at hc
   ·refine A7 <| A3 <| B0 <| A3 <| A0 <| y_F rfl <| y_L rfl <| y_M rfl <| B8 rfl rfl rfl (fun _ => rfl) (by omega) <| y_I rfl ?_
    have hks := Z2 (t := t) (i := i) (by omega)
    have hol := a6p (t.kids.getD i default)
    apply xC rfl
    ·apply A9
     ·exact B7 rfl
     exact C5
    ·exact (by have hi := ih (t.kids.getD i default) (by omega) (a4s hgd (by omega)) (by omega); rw [← L7] at hi; exact hi)
    refine ⟨⟨rfl, rfl, rfl, dT rfl, rfl⟩, .inl rfl, B3, K0, fun _ => rfl, fun g33 => ?_⟩
    simp only [List.length_map]
    (refine xO rfl rfl (by simp) rfl (fun _ => rfl) (fun _ => rfl) ?_; intro g7)
    refine xN [1,3,6,7] [1,3,7] rfl <| A3 <| A0 <| y_S rfl <| xN [1,3,6,7,8] [1,3,7] rfl <| B0 <| E8 (β := Nat × List Pl × Nat) [(.t 1, _), (.t 6, _), (.t 7, _), (.h 1, _), (.h 7, _)] (fun (z : Nat × List Pl × Nat) => match z with | (j, vs, g1) => [(.t 8, iV j), (.h 3, .obj g1 0 3 (vs.map trV)), (.t 3, .sl 3 g1 none 0 vs.length)]) (fun (z : Nat × List Pl × Nat) => match z with | (j, vs, g1) => j ≤ (oneP (t.kids.getD i default)).length ∧ vs = b3g t i j) (fun (z : Nat × List Pl × Nat) => match z with | (j, vs, g1) => (oneP (t.kids.getD i default)).length - j) (0, _, _) ⟨rfl, rfl, rfl, rfl, rfl, rfl, rfl, rfl, trivial⟩ ⟨Nat.zero_le _, by rw [hus, c0k]⟩ ?_
    intro z hb
    obtain ⟨j, vs, g1⟩ := z
    try dsimp only at hb
    obtain ⟨hj1, hvs⟩ := hb
    have hvl := hjl i j (by omega)
    rw [← hvs] at hvl
    refine A3 <| A3 <| A0 <| y_M rfl <| y_M rfl <| I5 rfl rfl <| F8 rfl rfl <| xN [1,3,6,7,8,37] [1,3,7] rfl ?_
    refine A5 rfl ?_ ?_ <;> intro hc <;> try simp only [SL] at hc
    ·refine A7 <| A3 <| B0 <| A3 <| A0 <| B4 (es := List.map trV []) rfl rfl (dT rfl) rfl rfl (fun _ => B1 (A6 fun _ => rfl)) (fun _ => rfl) ?_
     intro g40
     refine y_F rfl <| y_L rfl <| S1 rfl rfl rfl (by (simp; done)) rfl rfl rfl (dT rfl) (fun _ => ⟨rfl, rfl, rfl⟩) (by simp only [G9]; (simp only [List.length_nil, List.length_cons, List.length_append, Nat.zero_add, List.length_map]; omega)) (fun _ => rfl) ?_
     intro g43
     (refine xO rfl rfl (by simp) rfl (fun _ => rfl) (fun _ => rfl) ?_; intro g9)
     refine xN [1,3,6,7,8,9] [1,3,7,9] rfl <| A3 <| A0 <| y_M rfl <| y_M rfl <| y_M rfl <| y_M rfl <| D9 rfl rfl rfl rfl (by omega) (by (simp; done)) rfl <| G2 rfl rfl (by omega) (fun _ => rfl) (fun _ => rfl) rfl <| D9 rfl rfl rfl rfl (by (simp; omega)) (by (simp; done)) rfl <| K6 rfl rfl rfl (by (simp; omega)) (fun _ _ => ⟨rfl, rfl, dT rfl, dT rfl, rfl, rfl⟩) (by decide) (by exact B1 (A6 fun _ => rfl)) <| xN [1,3,6,7,8,9] [1,3,7,9] rfl <| A0 <| y_M rfl <| y_F rfl <| y_L rfl <| y_F rfl <| y_L rfl <| y_M rfl <| H1 (fs := [_, _, _]) rfl rfl rfl rfl rfl <| b1s (mk := 2) (fs := [_, _, _]) rfl rfl rfl (dT rfl) rfl rfl (c3j rfl (c3j rfl (d7a rfl (by simp) (fun _ => rfl) I6))) (fun _ _ => C1 (a1f (A6 fun _ => rfl) (by decide)) (C1 (B1 rfl) (I0 rfl))) ?_
     intro z58 g58
     simp only [I2, List.cons_append, List.nil_append]
     rw [d7n (by omega)]
     refine xA rfl rfl rfl rfl (by simp) (by simp) rfl rfl rfl rfl rfl (fun _ => rfl) (by simp only [LN]; omega) (fun _ => rfl) ?_
     intro g59
     (refine xO rfl rfl (by simp) rfl (fun _ => rfl) (fun _ => rfl) ?_; intro g3)
     refine xN [1,3,6,7,8] [1,3,7] rfl <| A0 <| y_M rfl <| E4 rfl rfl (C3 (by omega)) <| y_S rfl <| xN [1,3,6,7,8] [1,3,7] rfl ?_
     refine ⟨(j + 1, _, _), ⟨by omega, by rw [hvs]; exact c0a (by omega)⟩, (by simp only; omega), ⟨rfl, rfl, rfl, rfl, rfl, rfl, rfl, rfl, trivial⟩⟩
    refine E3 <| A0 <| y_M rfl <| E4 rfl rfl (C3 (by omega)) <| y_S rfl <| xN [1,3,6] [1,3] rfl ?_
    refine ⟨(i + 1, _, _), ⟨by omega, by rw [hvs]; exact c3r (by omega)⟩, (by simp only; omega), ⟨rfl, rfl, rfl, rfl, rfl, trivial⟩⟩
   refine E3 <| A3 <| A0 <| y_M rfl ?_
   (refine xO rfl rfl (by simp) rfl (fun _ => rfl) (fun _ => rfl) ?_; intro g2)
   refine xN [2] [2] rfl <| A8 <| N4 rfl rfl (by simp) (by exact A6 fun _ => rfl) trivial ?_
   rw [hus, show i = t.kids.length by omega, b6o]
  refine A7 <| A3 <| A3 <| A0 <| y_S rfl <| xN [1,3,6] [1,3] rfl <| B0 <| E8 (β := Nat × List Pl × Nat) [(.t 1, _), (.h 1, _)] (fun (z : Nat × List Pl × Nat) => match z with | (i, us, g) => [(.t 6, iV i), (.h 3, .obj g 0 3 (us.map trV)), (.t 3, .sl 3 g none 0 us.length)]) (fun (z : Nat × List Pl × Nat) => match z with | (i, us, g) => i ≤ t.kids.length ∧ us = a9z t i) (fun (z : Nat × List Pl × Nat) => match z with | (i, us, g) => t.kids.length - i) (0, _, _) ⟨rfl, rfl, rfl, rfl, rfl, trivial⟩ ⟨Nat.zero_le _, by (rw [a9z]; simp_all)⟩ ?_
  intro z hb
  obtain ⟨i, us, g⟩ := z
  try dsimp only at hb
  obtain ⟨hi1, hus⟩ := hb
  have hul := hhl i hi1
  rw [← hus] at hul
  refine A3 <| A3 <| A0 <| y_M rfl <| y_F rfl <| y_L rfl <| B9 rfl rfl <| F8 rfl rfl <| xN [1,3,6,25] [1,3] rfl ?_
  refine A5 rfl ?_ ?_ <;> intro hc <;> try simp only [SL] at hc
  ·refine A7 <| A3 <| B0 <| A3 <| A0 <| y_F rfl <| y_L rfl <| y_M rfl <| B8 rfl rfl rfl (fun _ => rfl) (by omega) <| y_I rfl ?_
   have hks := Z2 (t := t) (i := i) (by omega)
   have hol := a6p (t.kids.getD i default)
   apply xC rfl
   ·apply A9
    ·exact B7 rfl
    exact C5
   ·exact (by have hi := ih (t.kids.getD i default) (by omega) (a4s hgd (by omega)) (by omega); rw [← L7] at hi; exact hi)
   refine ⟨⟨rfl, rfl, rfl, dT rfl, rfl⟩, .inl rfl, B3, K0, fun _ => rfl, fun g33 => ?_⟩
   simp only [List.length_map]
   (refine xO rfl rfl (by simp) rfl (fun _ => rfl) (fun _ => rfl) ?_; intro g7)
   refine xN [1,3,6,7] [1,3,7] rfl <| A3 <| A0 <| y_S rfl <| xN [1,3,6,7,8] [1,3,7] rfl <| B0 <| E8 (β := Nat × List Pl × Nat) [(.t 1, _), (.t 6, _), (.t 7, _), (.h 1, _), (.h 7, _)] (fun (z : Nat × List Pl × Nat) => match z with | (j, vs, g1) => [(.t 8, iV j), (.h 3, .obj g1 0 3 (vs.map trV)), (.t 3, .sl 3 g1 none 0 vs.length)]) (fun (z : Nat × List Pl × Nat) => match z with | (j, vs, g1) => j ≤ (oneP (t.kids.getD i default)).length ∧ vs = b3g t i j) (fun (z : Nat × List Pl × Nat) => match z with | (j, vs, g1) => (oneP (t.kids.getD i default)).length - j) (0, _, _) ⟨rfl, rfl, rfl, rfl, rfl, rfl, rfl, rfl, trivial⟩ ⟨Nat.zero_le _, by rw [hus, c0k]⟩ ?_
   intro z hb
   obtain ⟨j, vs, g1⟩ := z
   try dsimp only at hb
   obtain ⟨hj1, hvs⟩ := hb
   have hvl := hjl i j (by omega)
   rw [← hvs] at hvl
   refine A3 <| A3 <| A0 <| y_M rfl <| y_M rfl <| I5 rfl rfl <| F8 rfl rfl <| xN [1,3,6,7,8,37] [1,3,7] rfl ?_
   refine A5 rfl ?_ ?_ <;> intro hc <;> try simp only [SL] at hc
   ·refine A7 <| A3 <| B0 <| A3 <| A0 <| B4 (es := List.map trV []) rfl rfl (dT rfl) rfl rfl (fun _ => B1 (A6 fun _ => rfl)) (fun _ => rfl) ?_
    intro g40
    refine y_F rfl <| y_L rfl <| S1 rfl rfl rfl (by (simp; done)) rfl rfl rfl (dT rfl) (fun _ => ⟨rfl, rfl, rfl⟩) (by simp only [G9]; (simp only [List.length_nil, List.length_cons, List.length_append, Nat.zero_add, List.length_map]; omega)) (fun _ => rfl) ?_
    intro g43
    (refine xO rfl rfl (by simp) rfl (fun _ => rfl) (fun _ => rfl) ?_; intro g9)
    refine xN [1,3,6,7,8,9] [1,3,7,9] rfl <| A3 <| A0 <| y_M rfl <| y_M rfl <| y_M rfl <| y_M rfl <| D9 rfl rfl rfl rfl (by omega) (by (simp; done)) rfl <| G2 rfl rfl (by omega) (fun _ => rfl) (fun _ => rfl) rfl <| D9 rfl rfl rfl rfl (by (simp; omega)) (by (simp; done)) rfl <| K6 rfl rfl rfl (by (simp; omega)) (fun _ _ => ⟨rfl, rfl, dT rfl, dT rfl, rfl, rfl⟩) (by decide) (by exact B1 (A6 fun _ => rfl)) <| xN [1,3,6,7,8,9] [1,3,7,9] rfl <| A0 <| y_M rfl <| y_F rfl <| y_L rfl <| y_F rfl <| y_L rfl <| y_M rfl <| H1 (fs := [_, _, _]) rfl rfl rfl rfl rfl <| b1s (mk := 2) (fs := [_, _, _]) rfl rfl rfl (dT rfl) rfl rfl (c3j rfl (c3j rfl (d7a rfl (by simp) (fun _ => rfl) I6))) (fun _ _ => C1 (a1f (A6 fun _ => rfl) (by decide)) (C1 (B1 rfl) (I0 rfl))) ?_
    intro z58 g58
    simp only [I2, List.cons_append, List.nil_append]
    rw [d7n (by omega)]
    refine xA rfl rfl rfl rfl (by simp) (by simp) rfl rfl rfl rfl rfl (fun _ => rfl) (by simp only [LN]; omega) (fun _ => rfl) ?_
    intro g59
    (refine xO rfl rfl (by simp) rfl (fun _ => rfl) (fun _ => rfl) ?_; intro g3)
    refine xN [1,3,6,7,8] [1,3,7] rfl <| A0 <| y_M rfl <| E4 rfl rfl (C3 (by omega)) <| y_S rfl <| xN [1,3,6,7,8] [1,3,7] rfl ?_
    refine ⟨(j + 1, _, _), ⟨by omega, by rw [hvs]; exact c0a (by omega)⟩, (by simp only; omega), ⟨rfl, rfl, rfl, rfl, rfl, rfl, rfl, rfl, trivial⟩⟩
   refine E3 <| A0 <| y_M rfl <| E4 rfl rfl (C3 (by omega)) <| y_S rfl <| xN [1,3,6] [1,3] rfl ?_
   refine ⟨(i + 1, _, _), ⟨by omega, by rw [hvs]; exact c3r (by omega)⟩, (by simp only; omega), ⟨rfl, rfl, rfl, rfl, rfl, trivial⟩⟩
  refine E3 <| A3 <| A0 <| y_M rfl ?_
  (refine xO rfl rfl (by simp) rfl (fun _ => rfl) (fun _ => rfl) ?_; intro g2)
  refine xN [2] [2] rfl <| A8 <| N4 rfl rfl (by simp) (by exact A6 fun _ => rfl) trivial ?_
  rw [hus, show i = t.kids.length by omega, b6o]

theorem c2z : F4 Tryz.f27 = [0, 2, 3, 5, 17, 7, 37, 40, 39, 41, 38, 6, 9, 62, 10, 8, 4] := by kernel_rfl
theorem d8r (s : List UInt8) (hs : s.length ≤ 1048576) (hw : (splitB 32 s).length ≤ 1000) : CW (cxT (some rG)) 27 [tV s] = some (.own 1 (((L4 (splitB 32 s)).map (joinB 32)).map tV), []) := by
 obtain ⟨ws, hws⟩ : ∃ ws, ws = splitB 32 s := ⟨_, rfl⟩
 rw [← hws]
 have hwl : ws.length ≤ 1000 := by rw [hws]; exact hw
 have hwp : ∀ w ∈ ws, w.length ≤ 1048576 := fun w h => by rw [hws] at h; have := W7 32 s w h; omega
 have hpi := fun (i : Nat) (h : i < ws.length) => hwp _ (V8 h)
 have hjl : (joinB 32 ws).length ≤ 1048576 := by rw [hws, a8j]; exact hs
 have hne : 1 ≤ ws.length := by rw [hws]; have := b0y 32 s; cases h : splitB 32 s with | nil => exact absurd h this | cons a b => simp
 refine E5 rfl Tryz.func27 rfl ⟨by kernel_rfl, rfl, dT rfl, dT rfl, by decide⟩ c2z <| A3 <| A0 ?_
 (refine B2 rfl rfl (fun _ => rfl) ?_; intro g2)
 refine xN [0] [] rfl <| A3 <| A0 <| y_M rfl ?_
 apply xC rfl
 ·apply A9
  ·exact B7 rfl
  apply A9
  ·exact B7 rfl
  exact C5
 ·exact c0x s 32 (by omega)
 refine ⟨⟨rfl, rfl, rfl, dT rfl, rfl⟩, .inl rfl, B3, K0, fun _ => rfl, fun g12 => ?_⟩
 rw [← hws]
 try simp only [List.length_map]
 (refine xO rfl rfl (by simp) rfl (fun _ => rfl) (fun _ => rfl) ?_; intro g3)
 refine xN [3] [3] rfl <| A3 <| A0 ?_
 (refine B2 rfl rfl (fun _ => rfl) ?_; intro g4)
 refine xN [3,4] [3,4] rfl <| A3 <| A3 <| A0 <| y_S rfl <| xN [3,4,5] [3,4] rfl <| B0 <| E8 (β := Nat × List W8 × Nat) [(.t 3, _), (.h 3, _)] (fun (z : Nat × List W8 × Nat) => match z with | (i, us, g) => [(.t 5, iV i), (.h 4, .obj g 0 1 (us.map tV)), (.t 4, .sl 4 g none 0 us.length)]) (fun (z : Nat × List W8 × Nat) => match z with | (i, us, g) => i + 1 ≤ ws.length ∧ us = (hitsN ws i).map (joinB 32)) (fun (z : Nat × List W8 × Nat) => match z with | (i, us, g) => ws.length - i) (0, [], _) ⟨rfl, rfl, rfl, rfl, rfl, trivial⟩ ⟨by omega, rfl⟩ ?_
 intro z hb
 obtain ⟨i, us, g⟩ := z
 try dsimp only at hb
 obtain ⟨hi1, hus⟩ := hb
 have hul : us.length ≤ i := by rw [hus, List.length_map]; exact b9r ws i
 refine A3 <| A3 <| A0 <| y_M rfl <| E4 rfl rfl (C3 (by omega)) <| y_M rfl <| I5 rfl rfl <| F8 rfl rfl <| xN [3,4,5,17] [3,4] rfl ?_
 refine A5 rfl ?_ ?_ <;> intro hc <;> try simp only [SL] at hc
 ·refine A7 <| A3 <| B0 <| A3 <| A0 <| c6n rfl rfl rfl <| y_M rfl <| y_M rfl <| D9 rfl rfl rfl rfl (by omega) (by (simp; done)) rfl <| G2 rfl rfl (by omega) (fun _ => rfl) (fun _ => rfl) rfl ?_
  have hp1 := hpi i (by omega)
  refine L2 rfl rfl (by simp only [G9, List.length_append, List.length_cons, List.length_nil]; omega) <| y_M rfl <| y_M rfl <| E4 rfl rfl (C3 (by omega)) <| D9 rfl rfl rfl rfl (by (simp; omega)) (by (simp; done)) rfl <| G2 rfl rfl (by (simp; omega)) (fun _ => rfl) (fun _ => rfl) rfl ?_
  have hp2 := hpi (i + 1) (by omega)
  refine L2 rfl rfl (by simp only [G9, List.length_append, List.length_cons, List.length_nil]; omega) ?_
  rcases hkey : keyG ((ws.getD i default ++ [32]) ++ ws.getD (i + 1) default) with _ | ⟨x, y⟩
  ·skip
   refine c7l (u := .undef) (b := false) (v := .agg [bV false, bV false]) rfl rfl (show (cxT (some rG)).mp rG = some goneTb from if_pos rfl) rfl ⟨rfl, rfl⟩ (by rw [b6j, hkey]; rfl) rfl <| y_M rfl <| y_E rfl <| y_E rfl <| y_A rfl (fun _ => rfl) ?_
   intro g6
   refine xB rfl rfl rfl rfl rfl rfl rfl rfl rfl <| y_S rfl ?_
   refine J6 ⟨fun _ => ⟨by decide +kernel, by decide +kernel⟩, [(.t 3, _), (.t 4, _), (.t 5, _), (.t 6, _), (.t 7, _), (.h 3, _), (.h 4, _), (.h 6, _)], ⟨rfl, rfl, rfl, rfl, rfl, rfl, rfl, rfl, rfl, rfl, rfl, rfl, rfl, rfl, rfl, rfl, trivial⟩, ?_⟩
   refine A3 <| A3 <| A0 <| y_M rfl <| J0 rfl <| xN [3,4,5,6,37] [3,4,6] rfl ?_
   refine A5 rfl (fun hc => ?_) (fun hc => absurd hc (by decide))
   refine E3 <| A0 <| y_M rfl <| E4 rfl rfl (C3 (by omega)) <| y_S rfl <| xN [3,4,5] [3,4] rfl ?_
   refine ⟨(i + 1, _, _), ⟨by omega, by rw [hitsN, List.map_append, hus, b4h, hkey]; simp⟩, (by simp only; omega), ⟨rfl, rfl, rfl, rfl, rfl, trivial⟩⟩
  skip
  refine c7l (u := .undef) (b := true) (v := .agg [bV x, bV y]) rfl rfl (show (cxT (some rG)).mp rG = some goneTb from if_pos rfl) rfl ⟨rfl, rfl⟩ (by rw [b6j, hkey]; rfl) rfl <| y_M rfl <| y_E rfl <| y_E rfl <| y_A rfl (fun _ => rfl) ?_
  intro g6
  refine xB rfl rfl rfl rfl rfl rfl rfl rfl rfl <| y_S rfl ?_
  refine J6 ⟨fun _ => ⟨by decide +kernel, by decide +kernel⟩, [(.t 3, _), (.t 4, _), (.t 5, _), (.t 6, _), (.t 7, _), (.h 3, _), (.h 4, _), (.h 6, _)], ⟨rfl, rfl, rfl, rfl, rfl, rfl, rfl, rfl, rfl, rfl, rfl, rfl, rfl, rfl, rfl, rfl, trivial⟩, ?_⟩
  refine A3 <| A3 <| A0 <| y_M rfl <| J0 rfl <| xN [3,4,5,6,37] [3,4,6] rfl ?_
  refine A5 rfl (fun hc => absurd hc (by decide)) (fun hc => ?_)
  refine A7 <| A3 <| A0 ?_
  (refine B2 rfl rfl (fun _ => rfl) ?_; intro g8)
  refine xN [3,4,5,6,8] [3,4,6,8] rfl <| A3 <| A3 <| A0 <| y_M rfl <| I5 rfl rfl <| y_M rfl <| xN [3,4,5,6,8,38,39,40] [3,4,6,8] rfl <| B0 <| E8 (β := Nat × List W8 × Nat) [(.t 3, _), (.t 4, _), (.t 5, _), (.t 6, _), (.t 38, _), (.t 39, _), (.h 3, _), (.h 4, _), (.h 6, _)] (fun (z : Nat × List W8 × Nat) => match z with | (k, ls, g1) => [(.t 40, iV k), (.h 8, .obj g1 0 1 (ls.map tV)), (.t 8, .sl 8 g1 none 0 ls.length)]) (fun (z : Nat × List W8 × Nat) => match z with | (k, ls, g1) => k ≤ ws.length ∧ ls = leftN ws i x y k) (fun (z : Nat × List W8 × Nat) => match z with | (k, ls, g1) => ws.length - k) (0, [], _) ⟨rfl, rfl, rfl, rfl, rfl, rfl, rfl, rfl, rfl, rfl, rfl, rfl, trivial⟩ ⟨Nat.zero_le _, rfl⟩ ?_
  intro z hb
  obtain ⟨k, ls, g1⟩ := z
  try dsimp only at hb
  obtain ⟨hk1, hls⟩ := hb
  have hll : ls.length ≤ k := by rw [hls]; exact b8z ws i x y k
  refine A3 <| A0 <| F8 rfl rfl <| xN [3,4,5,6,8,38,39,40,41] [3,4,6,8] rfl <| A3 ?_
  refine A5 rfl ?_ ?_ <;> intro hc <;> try simp only [SL] at hc
  ·refine A7 <| A3 <| B0 <| A3 <| A0 <| y_M rfl <| D9 rfl rfl rfl rfl (by omega) (by (simp; done)) rfl <| G2 rfl rfl (by omega) (fun _ => rfl) (fun _ => rfl) rfl <| y_S rfl <| y_S rfl <| xN [3,4,5,6,8,9,10,38,39,40] [3,4,6,8] rfl <| A3 <| A0 <| y_M rfl <| y_M rfl <| M9 rfl rfl <| y_M rfl ?_
   refine C6 rfl rfl ?_ ?_ <;> intro hg0 <;> have hg := hg0 <;> try simp only [SG] at hg
   ·refine a4v rfl rfl rfl rfl rfl (by omega) rfl <| gT rfl rfl <| y_L rfl <| F0 rfl (by assumption) rfl rfl <| y_M rfl ?_
    refine C6 rfl rfl ?_ ?_ <;> intro hg0 <;> have hg := hg0 <;> try simp only [SG] at hg
    ·refine y_M rfl <| gT rfl rfl <| y_M rfl <| gT rfl rfl <| E4 rfl rfl (C3 (by omega)) <| gT rfl rfl <| M9 rfl rfl <| gT rfl rfl <| y_M rfl ?_
     refine C6 rfl rfl ?_ ?_ <;> intro hg0 <;> have hg := hg0 <;> try simp only [SG] at hg
     ·refine a4v rfl rfl rfl rfl rfl (by omega) rfl <| gT rfl rfl <| y_L rfl <| gT rfl rfl <| F0 rfl (by assumption) rfl rfl <| F3 rfl (by assumption) rfl rfl <| J0 rfl <| xN [3,4,5,6,8,10,38,39,40,62] [3,4,6,8] rfl ?_
      refine A5 rfl ?_ ?_ <;> intro hc <;> try simp only [SL] at hc
      ·refine A0 <| y_M rfl <| y_M rfl <| B4 (es := List.map tV [_]) rfl rfl (dT rfl) rfl rfl (fun _ => B1 (A6 fun _ => rfl)) (fun _ => rfl) ?_
       intro g65
       refine Q0 rfl rfl rfl rfl (by (simp; done)) (by simp) (by decide) rfl rfl rfl rfl (dT rfl) (fun _ => ⟨rfl, rfl⟩) (by simp only [G9]; omega) (fun _ => rfl) ?_
       intro g66
       (refine xO rfl rfl (by simp) rfl (fun _ => rfl) (fun _ => rfl) ?_; intro g8)
       refine xN [3,4,5,6,8,38,39,40] [3,4,6,8] rfl <| A0 <| E4 rfl rfl (C3 (by omega)) <| y_M rfl <| xN [3,4,5,6,8,38,39,40] [3,4,6,8] rfl ?_
       refine ⟨(k + 1, _, _), ⟨by omega, by (exfalso; omega)⟩, (by simp only; omega), ⟨rfl, rfl, rfl, rfl, rfl, rfl, rfl, rfl, rfl, rfl, rfl, rfl, trivial⟩⟩
      refine A7 <| A0 <| E4 rfl rfl (C3 (by omega)) <| y_M rfl <| xN [3,4,5,6,8,38,39,40] [3,4,6,8] rfl ?_
      refine ⟨(k + 1, _, _), ⟨by omega, by (exfalso; omega)⟩, (by simp only; omega), ⟨rfl, rfl, rfl, rfl, rfl, rfl, rfl, rfl, rfl, rfl, rfl, rfl, trivial⟩⟩
     refine gF rfl rfl <| gT rfl rfl <| F3 rfl (by assumption) rfl rfl <| F3 rfl (by assumption) rfl rfl <| J0 rfl <| xN [3,4,5,6,8,10,38,39,40,62] [3,4,6,8] rfl ?_
     refine A5 rfl (fun hc => ?_) (fun hc => absurd hc (by decide))
     refine A0 <| y_M rfl <| y_M rfl <| B4 (es := List.map tV [_]) rfl rfl (dT rfl) rfl rfl (fun _ => B1 (A6 fun _ => rfl)) (fun _ => rfl) ?_
     intro g65
     refine xA rfl rfl rfl rfl (by simp) (by simp) rfl rfl rfl rfl rfl (fun _ => rfl) (by simp only [LN]; omega) (fun _ => rfl) ?_
     intro g66
     (refine xO rfl rfl (by simp) rfl (fun _ => rfl) (fun _ => rfl) ?_; intro g8)
     refine xN [3,4,5,6,8,38,39,40] [3,4,6,8] rfl <| A0 <| E4 rfl rfl (C3 (by omega)) <| y_M rfl <| xN [3,4,5,6,8,38,39,40] [3,4,6,8] rfl ?_
     refine ⟨(k + 1, _, _), ⟨by omega, by exact b7m hls (by rintro (⟨h1, h2⟩ | ⟨h1, h2⟩) <;> first | omega | exact Bool.noConfusion (h2.symm.trans (show x = false by assumption)))⟩, (by simp only; omega), ⟨rfl, rfl, rfl, rfl, rfl, rfl, rfl, rfl, rfl, rfl, rfl, rfl, trivial⟩⟩
    iterate 4 refine gF rfl rfl ?_
    refine b9v rfl rfl <| b9v rfl rfl <| gF rfl rfl <| F0 rfl (by assumption) rfl rfl <| J0 rfl <| xN [3,4,5,6,8,10,38,39,40,62] [3,4,6,8] rfl ?_
    refine A5 rfl (fun hc => absurd hc (by decide)) (fun hc => ?_)
    refine A7 <| A0 <| E4 rfl rfl (C3 (by omega)) <| y_M rfl <| xN [3,4,5,6,8,38,39,40] [3,4,6,8] rfl ?_
    refine ⟨(k + 1, _, _), ⟨by omega, by exact c0p hls (.inl ⟨by omega, by assumption⟩)⟩, (by simp only; omega), ⟨rfl, rfl, rfl, rfl, rfl, rfl, rfl, rfl, rfl, rfl, rfl, rfl, trivial⟩⟩
   refine gF rfl rfl <| F3 rfl (by assumption) rfl rfl <| y_M rfl <| H3 rfl rfl rfl <| y_M rfl <| H3 rfl rfl rfl <| y_M rfl <| H3 rfl rfl rfl <| E4 rfl rfl (C3 (by omega)) <| H3 rfl rfl rfl <| M9 rfl rfl <| H3 rfl rfl rfl <| y_M rfl ?_
   refine C6 rfl rfl ?_ ?_ <;> intro hg0 <;> have hg := hg0 <;> try simp only [SG] at hg
   ·refine a4v rfl rfl rfl rfl rfl (by omega) rfl <| gT rfl rfl <| y_L rfl <| H3 rfl rfl rfl <| F0 rfl (by assumption) rfl rfl <| F3 rfl rfl rfl rfl <| J0 rfl <| xN [3,4,5,6,8,10,38,39,40,62] [3,4,6,8] rfl ?_
    refine A5 rfl ?_ ?_ <;> intro hc <;> try simp only [SL] at hc
    ·refine A0 <| y_M rfl <| y_M rfl <| B4 (es := List.map tV [_]) rfl rfl (dT rfl) rfl rfl (fun _ => B1 (A6 fun _ => rfl)) (fun _ => rfl) ?_
     intro g65
     refine xA rfl rfl rfl rfl (by simp) (by simp) rfl rfl rfl rfl rfl (fun _ => rfl) (by simp only [LN]; omega) (fun _ => rfl) ?_
     intro g66
     (refine xO rfl rfl (by simp) rfl (fun _ => rfl) (fun _ => rfl) ?_; intro g8)
     refine xN [3,4,5,6,8,38,39,40] [3,4,6,8] rfl <| A0 <| E4 rfl rfl (C3 (by omega)) <| y_M rfl <| xN [3,4,5,6,8,38,39,40] [3,4,6,8] rfl ?_
     refine ⟨(k + 1, _, _), ⟨by omega, by exact b7m hls (by rintro (⟨h1, h2⟩ | ⟨h1, h2⟩) <;> first | omega | exact Bool.noConfusion (h2.symm.trans (show y = false by assumption)))⟩, (by simp only; omega), ⟨rfl, rfl, rfl, rfl, rfl, rfl, rfl, rfl, rfl, rfl, rfl, rfl, trivial⟩⟩
    refine A7 <| A0 <| E4 rfl rfl (C3 (by omega)) <| y_M rfl <| xN [3,4,5,6,8,38,39,40] [3,4,6,8] rfl ?_
    refine ⟨(k + 1, _, _), ⟨by omega, by exact c0p hls (.inr ⟨by omega, by assumption⟩)⟩, (by simp only; omega), ⟨rfl, rfl, rfl, rfl, rfl, rfl, rfl, rfl, rfl, rfl, rfl, rfl, trivial⟩⟩
   refine gF rfl rfl <| H3 rfl rfl rfl <| F3 rfl (by assumption) rfl rfl <| F3 rfl rfl rfl rfl <| J0 rfl <| xN [3,4,5,6,8,10,38,39,40,62] [3,4,6,8] rfl ?_
   refine A5 rfl (fun hc => ?_) (fun hc => absurd hc (by decide))
   refine A0 <| y_M rfl <| y_M rfl <| B4 (es := List.map tV [_]) rfl rfl (dT rfl) rfl rfl (fun _ => B1 (A6 fun _ => rfl)) (fun _ => rfl) ?_
   intro g65
   refine xA rfl rfl rfl rfl (by simp) (by simp) rfl rfl rfl rfl rfl (fun _ => rfl) (by simp only [LN]; omega) (fun _ => rfl) ?_
   intro g66
   (refine xO rfl rfl (by simp) rfl (fun _ => rfl) (fun _ => rfl) ?_; intro g8)
   refine xN [3,4,5,6,8,38,39,40] [3,4,6,8] rfl <| A0 <| E4 rfl rfl (C3 (by omega)) <| y_M rfl <| xN [3,4,5,6,8,38,39,40] [3,4,6,8] rfl ?_
   refine ⟨(k + 1, _, _), ⟨by omega, by exact b7m hls (by rintro (⟨h1, h2⟩ | ⟨h1, h2⟩) <;> omega)⟩, (by simp only; omega), ⟨rfl, rfl, rfl, rfl, rfl, rfl, rfl, rfl, rfl, rfl, rfl, rfl, trivial⟩⟩
  refine E3 <| A0 <| y_M rfl <| y_M rfl ?_
  apply xC rfl
  ·apply A9
   ·exact I9 rfl rfl rfl (by (simp; done)) (fun _ => rfl)
   apply A9
   ·exact B7 rfl
   exact C5
  ·exact d6j ls 32 (by simp only [G9]; omega) (by rw [hls]; have := d4g (i := i) (x := x) (y := y) hjl (show k = ws.length by omega); simp only [G9]; omega)
  refine ⟨⟨rfl, rfl, rfl, dT rfl, rfl⟩, .inr ⟨rfl, rfl⟩, B3, C9 rfl, fun _ => rfl, fun g70 => ?_⟩
  refine B4 (es := List.map tV [_]) rfl rfl (dT rfl) rfl rfl (fun _ => B1 (A6 fun _ => rfl)) (fun _ => rfl) ?_
  intro g71
  refine xA rfl rfl rfl rfl (by simp) (by simp) rfl rfl rfl rfl rfl (fun _ => rfl) (by simp only [LN]; omega) (fun _ => rfl) ?_
  intro g72
  (refine xO rfl rfl (by simp) rfl (fun _ => rfl) (fun _ => rfl) ?_; intro g4)
  refine xN [3,4,5] [3,4] rfl <| A0 <| y_M rfl <| E4 rfl rfl (C3 (by omega)) <| y_S rfl <| xN [3,4,5] [3,4] rfl ?_
  refine ⟨(i + 1, _, _), ⟨by omega, by rw [hitsN, List.map_append, hus, b4h, hkey]; (rw [hls, show k = ws.length by omega]; rfl)⟩, (by simp only; omega), ⟨rfl, rfl, rfl, rfl, rfl, trivial⟩⟩
 refine E3 <| A3 <| A0 <| y_M rfl ?_
 apply xC rfl
 ·apply A9
  ·exact c3h rfl rfl (by (simp; done)) (A6 fun _ => rfl)
  exact C5
 ·exact d9k us (by simp only [G9]; omega)
 refine ⟨⟨rfl, rfl, rfl, dT rfl, rfl⟩, .inl rfl, B3, K0, fun _ => rfl, fun g74 => ?_⟩
 simp only [List.length_map]
 (refine xO rfl rfl (by simp) rfl (fun _ => rfl) (fun _ => rfl) ?_; intro g2)
 refine xN [2] [2] rfl <| A8 <| N4 rfl rfl (by simp) (by exact A6 fun _ => rfl) trivial ?_
 rw [hus, show i = ws.length - 1 by omega, b4j]

theorem b5x : F4 Tryz.f32 = [0, 2, 1, 3, 8] := by kernel_rfl
theorem d4i (t : Pl) (hsz : t.sz ≤ 1000) (hgd : t.good) (hwf : t.wf) : CW (cxT oG) 32 [trK t] = some (trV (normP t), []) := by
 refine E5 rfl Tryz.func32 rfl ⟨by kernel_rfl, rfl, dT rfl, dT rfl, by decide⟩ b5x <| A3 <| A0 <| a0k rfl rfl rfl (fun _ => K3 rfl) (fun _ => rfl) ?_
 intro g1
 refine y_A rfl (fun _ => rfl) ?_
 intro g2
 refine xN [1,2] [1,2] rfl <| B0 ?_
 rw [← L7]
 refine E8 (β := Pl) [(.t 1, _), (.t 2, _), (.h 2, _)] (fun (u : Pl) => [(.h 1, .obj g1 3 3 [trV u])]) (fun (u : Pl) => u.sz ≤ t.sz ∧ u.good ∧ u.wf ∧ normP u = normP t) (fun (u : Pl) => u.sz) t ⟨rfl, rfl, rfl, rfl, trivial⟩ ⟨Nat.le_refl _, hgd, hwf, rfl⟩ ?_
 intro u hb
 obtain ⟨hus, hug, huw, hun⟩ := hb
 refine B0 <| A3 <| A0 <| y_B rfl ?_
 rw [L7]
 apply xC rfl
 ·apply A9
  ·exact B7 rfl
  exact C5
 ·exact d3u u (by omega) hug
 refine ⟨⟨rfl, rfl, rfl, dT rfl, rfl⟩, .inl rfl, B3, K0, fun _ => rfl, fun g5 => ?_⟩
 simp only [List.length_map]
 (refine xO rfl rfl (by simp) rfl (fun _ => rfl) (fun _ => rfl) ?_; intro g3)
 refine xN [1,2,3] [1,2,3] rfl <| A3 <| A3 <| A0 <| y_M rfl <| I5 rfl rfl <| M9 rfl rfl <| xN [1,2,3,8] [1,2,3] rfl ?_
 refine A5 rfl ?_ ?_ <;> intro hc <;> try simp only [SL] at hc
 ·refine A3 <| A0 <| y_B rfl <| xB rfl rfl rfl rfl rfl rfl rfl rfl rfl <| xN [2] [2] rfl <| A8 <| C0 (D5 rfl rfl rfl rfl (C4 rfl (C4 rfl (C4 rfl F9))) (C7 B5)) ?_
  rw [← hun, a0m (List.length_eq_zero_iff.1 (by omega))]
  exact (L7 u).symm
 have hmem : (oneP u).getD 0 default ∈ oneP u := V8 (by omega)
 have hok := R4 u huw _ hmem
 refine A7 <| A0 <| y_M rfl <| D9 rfl rfl rfl rfl (by (change 0 < _; omega)) (by (simp; done)) rfl <| G2 rfl rfl (by (change 0 < _; omega)) (fun _ => rfl) (fun _ => rfl) rfl <| xB rfl rfl rfl rfl rfl rfl rfl rfl rfl <| xN [1,2] [1,2] rfl ?_
 try rw [hg0]
 refine ⟨((oneP u).getD 0 default), ⟨by omega, a5s u hug _ hmem, hok.1, by rw [← hun]; exact c4w huw hmem⟩, (by omega), ⟨rfl, rfl, rfl, rfl, trivial⟩⟩

theorem b6a : F4 Tryz.f14 = [0, 2, 3, 8] := by kernel_rfl
theorem b9j (t : Pl) (hwf : t.wf) (hsz : t.sz ≤ 1000) (hln : (showP t).length ≤ 1048576) : CW (cxT (some rG)) 14 [tV (showP t)] = some (tV (showP (normP t)), []) := by
 refine E5 rfl Tryz.func14 rfl ⟨by kernel_rfl, rfl, dT rfl, dT rfl, by decide⟩ b6a <| A3 <| A0 <| y_S rfl <| xN [0] [] rfl <| B0 <| c2b (β := Pl) (fun (u : Pl) => [(.t 0, tV (showP u))]) (fun (u : Pl) => u.sz ≤ t.sz ∧ u.wf ∧ (showP u).length ≤ (showP t).length ∧ normP u = normP t) (fun (u : Pl) => u.sz) t ⟨rfl, trivial⟩ ⟨Nat.le_refl _, hwf, Nat.le_refl _, rfl⟩ ?_
 intro u hb
 obtain ⟨hus, huw, hul, hun⟩ := hb
 refine B0 <| A3 <| A0 <| y_M rfl ?_
 apply xC rfl
 ·apply A9
  ·exact B7 rfl
  exact C5
 ·exact (by have hi := d8r (rG := rG) (showP u) (by omega) (by rw [b5n huw]; omega); rw [d0n huw] at hi; exact hi)
 refine ⟨⟨rfl, rfl, rfl, dT rfl, rfl⟩, .inl rfl, B3, K0, fun _ => rfl, fun g5 => ?_⟩
 simp only [List.length_map]
 (refine xO rfl rfl (by simp) rfl (fun _ => rfl) (fun _ => rfl) ?_; intro g3)
 refine xN [0,3] [3] rfl <| A3 <| A3 <| A0 <| y_M rfl <| I5 rfl rfl <| M9 rfl rfl <| xN [0,3,8] [3] rfl ?_
 refine A5 rfl ?_ ?_ <;> intro hc <;> try simp only [SL] at hc
 ·refine A3 <| A0 <| y_M rfl <| y_S rfl <| xN [2] [] rfl <| A8 <| C2 rfl rfl trivial ?_
  rw [← hun, a0m (List.length_eq_zero_iff.1 (by omega))]
 have hmem : (oneP u).getD 0 default ∈ oneP u := V8 (by omega)
 have hok := R4 u huw _ hmem
 have hsw := a9s u _ hmem
 have hg0 : ((oneP u).map showP).getD 0 default = showP ((oneP u).getD 0 default) := by rw [List.getD_eq_getElem?_getD, List.getD_eq_getElem?_getD, List.getElem?_map, List.getElem?_eq_getElem (by omega)]; rfl
 refine A7 <| A0 <| y_M rfl <| D9 rfl rfl rfl rfl (by (change 0 < _; omega)) (by (simp; done)) rfl <| G2 rfl rfl (by (simp; omega)) (fun _ => rfl) (fun _ => rfl) rfl <| y_S rfl <| xN [0] [] rfl ?_
 try rw [hg0]
 refine ⟨((oneP u).getD 0 default), ⟨by omega, hok.1, by omega, by rw [← hun]; exact c4w huw hmem⟩, (by omega), ⟨rfl, trivial⟩⟩

theorem b0m : F4 Tryz.f8 = [0, 2, 5] := by kernel_rfl
theorem c4s (s : List UInt8) (hs : s.length ≤ 1048576) : CW (cxT (some rG)) 8 [tV s] = some (tV (c0j s), []) := by
 refine E5 rfl Tryz.func8 rfl ⟨by kernel_rfl, rfl, dT rfl, dT rfl, by decide⟩ b0m <| A3 <| A0 <| y_S rfl <| xN [0] [] rfl <| A3 <| A3 <| A0 <| y_M rfl ?_
 refine xC1 rfl rfl (a3w s hs) ⟨rfl, rfl, rfl⟩ rfl rfl fun g4 => ?_
 refine J0 rfl <| xN [0,5] [] rfl ?_
 refine A5 rfl ?_ ?_ <;> intro hc <;> try simp only [SL] at hc
 ·refine A3 <| A0 <| y_S rfl <| xN [2] [] rfl <| A8 <| C2 rfl rfl trivial ?_
  rw [c8f hc]
  rfl
 refine A7 <| A3 <| A0 <| y_M rfl ?_
 obtain ⟨t, ht1, ht2, ht3⟩ := a1p hc
 obtain ⟨hst, hwf, hgd, hsl, hsz⟩ := a1n ht1
 subst hst
 refine xC1 rfl rfl (b9j t hwf (by omega) (by omega)) ⟨rfl, rfl, rfl⟩ rfl rfl fun g7 => ?_
 refine y_S rfl <| xN [2] [] rfl <| A8 <| C2 rfl rfl trivial ?_
 rw [b4y ht1]

theorem c4h : F4 Tryz.f22 = [0, 1, 4, 24, 5, 36, 6] := by kernel_rfl
theorem a0t (bs : List Int) (p : Int) (hbs : a4i bs) (hl : bs.length ≤ 1048576) (hp : 0 ≤ p ∧ p ≤ 1000000000) (n : Int) (hn : n ≤ 1000000000) : ∃ res outs, (fun res outs => ∃ k, res = iV k ∧ outs = [[rdr bs (p + 1)]] ∧ (1 ≤ n → 0 ≤ k ∧ k < n) ∧ (n < 1 → k = 0)) res outs ∧ CW (cxT oG) 22 [.ownp [rdr bs p] 0 0, iV n] = some (res, outs) := by
 refine Q8 rfl Tryz.func22 rfl ⟨by kernel_rfl, rfl, dT rfl, dT rfl, by decide⟩ c4h <| A3 <| A0 <| y_S rfl <| xN [0,1] [0] rfl <| A3 <| A0 <| y_M rfl <| y_M rfl <| O1 rfl rfl rfl <| y_F rfl <| y_L rfl <| E4 rfl rfl (C3 (by omega)) <| O1 rfl rfl rfl <| y_F rfl <| c1c rfl rfl rfl rfl rfl ⟨by decide, rfl, dT rfl, dT rfl, rfl⟩ (by exact d3s rfl) <| xN [0,1] [0] rfl <| A3 <| A3 <| A0 <| y_M rfl <| F8 rfl rfl <| y_M rfl ?_
 refine C6 rfl rfl ?_ ?_ <;> intro hg0 <;> have hg := hg0 <;> try simp only [SG] at hg
 ·refine y_M rfl <| gT rfl rfl <| O1 rfl rfl rfl <| gT rfl rfl <| y_F rfl <| gT rfl rfl <| y_L rfl <| gT rfl rfl <| B9 rfl rfl <| gT rfl rfl <| M9 rfl rfl <| F3 rfl (by assumption) rfl rfl <| xN [0,1,24] [0] rfl ?_
  refine A5 rfl ?_ ?_ <;> intro hc <;> try simp only [SL] at hc
  ·refine A3 <| A0 <| y_S rfl <| xN [4] [0] rfl <| A8 ?_
   refine ⟨_, _, ?_, K2 rfl rfl (J3 rfl rfl)⟩
   refine ⟨_, rfl, rfl, fun h => ?_, fun h => ?_⟩
   ·omega
   omega
  refine A7 <| A3 <| A0 <| y_M rfl <| O1 rfl rfl rfl <| y_F rfl <| y_L rfl <| P6 rfl rfl (C3 (by omega)) <| y_S rfl <| xN [0,1,5] [0] rfl <| A3 <| A3 <| A0 <| y_M rfl <| y_M rfl <| O1 rfl rfl rfl <| y_F rfl <| y_L rfl <| B9 rfl rfl <| F8 rfl rfl <| xN [0,1,5,36] [0] rfl ?_
  refine A5 rfl ?_ ?_ <;> intro hc <;> try simp only [SL] at hc
  ·refine A3 <| A0 <| y_M rfl <| O1 rfl rfl rfl <| y_F rfl <| y_L rfl <| y_M rfl <| H2 rfl rfl rfl (fun _ => rfl) (by omega) <| y_I rfl <| a8i rfl rfl rfl (C3 (by have := hbs.getD (p + 1 - 1).toNat; omega)) <| y_M rfl ?_
   have hk := hbs.getD (p + 1 - 1).toNat
   refine c5t rfl rfl (by omega) <| y_S rfl <| xN [4] [0] rfl <| A8 ?_
   refine ⟨_, _, ?_, K2 rfl rfl (J3 rfl rfl)⟩
   refine ⟨_, rfl, rfl, fun h => ?_, fun h => ?_⟩
   ·exact b4c (by omega) (by omega)
   omega
  refine A7 <| A3 <| A0 <| y_M rfl <| O1 rfl rfl rfl <| y_F rfl <| y_L rfl <| y_M rfl <| y_M rfl <| O1 rfl rfl rfl <| y_F rfl <| y_L rfl <| B9 rfl rfl ?_
  have hlen : 0 < (bs.length : Int) := by omega
  refine c5t rfl rfl (by omega) ?_
  have hm1 := b4c (a := p + 1 - 1) (by omega) hlen
  refine H2 rfl rfl rfl (fun _ => rfl) (by omega) <| y_I rfl <| a8i rfl rfl rfl (C3 (by have := hbs.getD ((p + 1 - 1).tmod bs.length).toNat; omega)) ?_
  have hk := hbs.getD ((p + 1 - 1).tmod bs.length).toNat
  refine a8z rfl rfl (C3 (by omega)) <| y_M rfl <| O1 rfl rfl rfl <| y_F rfl <| y_L rfl <| y_M rfl <| a8z rfl rfl (C3 (by omega)) <| E4 rfl rfl (C3 (by omega)) <| y_M rfl <| O1 rfl rfl rfl <| y_F rfl <| y_L rfl <| B9 rfl rfl <| c5t rfl rfl (by omega) ?_
  have hm2 := b4c (a := (p + 1 - 1) * 7 + 3) (by omega) hlen
  refine H2 rfl rfl rfl (fun _ => rfl) (by omega) <| y_I rfl <| a8i rfl rfl rfl (C3 (by have := hbs.getD (((p + 1 - 1) * 7 + 3).tmod bs.length).toNat; omega)) ?_
  have hk2 := hbs.getD (((p + 1 - 1) * 7 + 3).tmod bs.length).toNat
  refine a8z rfl rfl (C3 (by omega)) <| E4 rfl rfl (C3 (by omega)) <| y_M rfl <| a8z rfl rfl (C3 (by omega)) <| E4 rfl rfl (C3 (by omega)) <| y_M rfl <| y_M rfl <| O1 rfl rfl rfl <| y_F rfl <| y_L rfl <| B9 rfl rfl ?_
  have hd := d0u (a := p + 1 - 1) (b := bs.length) (by omega) (by omega)
  refine d8d rfl rfl ⟨by omega, C3 (by omega)⟩ <| a8z rfl rfl (C3 (by omega)) <| E4 rfl rfl (C3 (by omega)) <| y_S rfl ?_
  refine J6 ⟨fun _ => ⟨by decide +kernel, by decide +kernel⟩, [(.t 1, _), (.t 6, _), (.h 0, _)], ⟨rfl, rfl, rfl, rfl, rfl, rfl, trivial⟩, ?_⟩
  refine A3 <| A0 <| y_M rfl <| y_M rfl ?_
  have hd2 := d0u (a := (bs.getD ((p + 1 - 1).tmod bs.length).toNat default * 131 + bs.getD (((p + 1 - 1) * 7 + 3).tmod bs.length).toNat default * 1117 + (p + 1 - 1) * 29 + (p + 1 - 1).tdiv bs.length * 53)) (b := 64) (by omega) (by decide)
  refine d8d rfl rfl ⟨by omega, C3 (by omega)⟩ ?_
  have hx := e1h (x := (bs.getD ((p + 1 - 1).tmod bs.length).toNat default * 131 + bs.getD (((p + 1 - 1) * 7 + 3).tmod bs.length).toNat default * 1117 + (p + 1 - 1) * 29 + (p + 1 - 1).tdiv bs.length * 53)) (by omega) (y := (bs.getD ((p + 1 - 1).tmod bs.length).toNat default * 131 + bs.getD (((p + 1 - 1) * 7 + 3).tmod bs.length).toNat default * 1117 + (p + 1 - 1) * 29 + (p + 1 - 1).tdiv bs.length * 53).tdiv 64) (by omega)
  refine e2i rfl rfl <| y_S rfl <| xN [1,6] [0] rfl <| A3 <| A0 <| y_M rfl <| y_M rfl <| c5t rfl rfl (by omega) <| y_S rfl <| xN [4] [0] rfl <| A8 ?_
  refine ⟨_, _, ?_, K2 rfl rfl (J3 rfl rfl)⟩
  refine ⟨_, rfl, rfl, fun h => ?_, fun h => ?_⟩
  ·exact b4c (by omega) (by omega)
  omega
 iterate 5 refine gF rfl rfl ?_
 refine F0 rfl (by assumption) rfl rfl <| xN [0,1,24] [0] rfl ?_
 refine A5 rfl (fun hc => ?_) (fun hc => absurd hc (by decide))
 refine A3 <| A0 <| y_S rfl <| xN [4] [0] rfl <| A8 ?_
 refine ⟨_, _, ?_, K2 rfl rfl (J3 rfl rfl)⟩
 refine ⟨_, rfl, rfl, fun h => ?_, fun h => ?_⟩
 ·omega
 omega

theorem c9m : F4 Tryz.f21 = [0, 1, 4] := by kernel_rfl
theorem d6n (bs : List Int) (p : Int) (hbs : a4i bs) (hl : bs.length ≤ 1048576) (hp : 0 ≤ p ∧ p ≤ 1000000000) (xs : List Int) (hx : 1 ≤ xs.length ∧ xs.length ≤ 1000) : ∃ res outs, (fun res outs => ∃ k, res = iV k ∧ outs = [[rdr bs (p + 1)]] ∧ k ∈ xs) res outs ∧ CW (cxT oG) 21 [.ownp [rdr bs p] 0 0, L xs] = some (res, outs) := by
 refine Q8 rfl Tryz.func21 rfl ⟨by kernel_rfl, rfl, dT rfl, dT rfl, by decide⟩ c9m <| A3 <| A0 <| y_S rfl <| xN [0,1] [0] rfl <| A3 <| A0 <| y_M rfl <| y_M rfl <| y_M rfl <| B9 rfl rfl ?_
 obtain ⟨_, _, ⟨k, rfl, rfl, hk1, hk2⟩, hC⟩ := a0t (oG := oG) bs p hbs hl hp xs.length (by omega)
 have hk1 := hk1 (by omega)
 apply xC rfl
 ·apply A9
  ·exact L3 rfl (by decide) rfl
  apply A9
  ·exact B7 rfl
  exact C5
 ·exact hC
 refine ⟨⟨rfl, rfl, rfl, dT rfl, rfl⟩, .inl rfl, G4 rfl rfl rfl B3, C9 rfl, fun _ => rfl, fun g9 => ?_⟩
 refine H2 rfl rfl rfl (fun _ => rfl) (by omega) <| y_I rfl <| y_S rfl <| xN [4] [0] rfl <| A8 ?_
 refine ⟨_, _, ?_, K2 rfl rfl (J3 rfl rfl)⟩
 refine ⟨_, rfl, rfl, a5l (by omega)⟩

theorem b0j : F4 Tryz.f11 = [0, 2, 5] := by kernel_rfl
theorem c6a (bs : List Int) (hl : bs.length ≤ 1048576) : ∃ res outs, (fun res outs => res = .ownp [rdr (bs.take 2000) 0] 0 0 ∧ outs = []) res outs ∧ CW (cxT oG) 11 [.list (bs.map uV)] = some (res, outs) := by
 refine Q8 rfl Tryz.func11 rfl ⟨by kernel_rfl, rfl, dT rfl, dT rfl, by decide⟩ b0j <| A3 <| A0 <| y_S rfl <| xN [0] [] rfl <| A3 <| A3 <| A0 <| y_M rfl <| B9 rfl rfl <| O6 rfl rfl <| xN [0,5] [] rfl ?_
 refine A5 rfl ?_ ?_ <;> intro hc <;> try simp only [SL] at hc
 ·refine A0 <| y_M rfl <| N7 rfl rfl rfl (Mv.sized_map fun _ => rfl) (H0 rfl) H8 (by (simp; omega)) <| y_S rfl <| xN [0] [] rfl <| A3 <| A0 <| y_M rfl <| H1 (fs := [_, _]) rfl rfl rfl rfl rfl <| a0k rfl rfl rfl (fun _ => K3 rfl) (fun _ => rfl) ?_
  intro g10
  (refine a9e rfl rfl rfl rfl (fun _ => K3 rfl) (fun _ => rfl) ?_; intro g2)
  refine xN [2] [2] rfl <| A8 ?_
  refine ⟨_, _, ?_, d0x rfl rfl rfl B5⟩
  have e : rdr (bs.take 2000) 0 = .agg [.list ((bs.map uV).take 2000), iV 0] := by unfold rdr; rw [List.map_take]
  rw [e]
  exact ⟨rfl, rfl⟩
 refine A7 <| A3 <| A0 <| y_M rfl <| H1 (fs := [_, _]) rfl rfl rfl rfl rfl <| a0k rfl rfl rfl (fun _ => K3 rfl) (fun _ => rfl) ?_
 intro g10
 (refine a9e rfl rfl rfl rfl (fun _ => K3 rfl) (fun _ => rfl) ?_; intro g2)
 refine xN [2] [2] rfl <| A8 ?_
 refine ⟨_, _, ?_, d0x rfl rfl rfl B5⟩
 have e : bs.take 2000 = bs := List.take_of_length_le (by omega)
 rw [e]
 exact ⟨rfl, rfl⟩

theorem c9q : F4 Tryz.f33 = [0, 1, 4] := by kernel_rfl
theorem b1u (bs : List Int) (p : Int) (hbs : a4i bs) (hl : bs.length ≤ 1048576) (hp : 0 ≤ p ∧ p ≤ 1000000000) (ss : List W8) (hs : 1 ≤ ss.length ∧ ss.length ≤ 1000) : ∃ res outs, (fun res outs => ∃ k, res = tV k ∧ outs = [[rdr bs (p + 1)]] ∧ k ∈ ss) res outs ∧ CW (cxT oG) 33 [.ownp [rdr bs p] 0 0, .list (ss.map tV)] = some (res, outs) := by
 refine Q8 rfl Tryz.func33 rfl ⟨by kernel_rfl, rfl, dT rfl, dT rfl, by decide⟩ c9q <| A3 <| A0 <| y_S rfl <| xN [0,1] [0] rfl <| A3 <| A0 <| y_M rfl <| y_M rfl <| y_M rfl <| B9 rfl rfl ?_
 obtain ⟨_, _, ⟨k, rfl, rfl, hk, -⟩, hC⟩ := a0t (oG := oG) bs (p) hbs hl (by omega) (ss.length) (by omega)
 have hk := hk (by omega)
 apply xC rfl
 ·apply A9
  ·exact L3 rfl (by decide) rfl
  apply A9
  ·exact B7 rfl
  exact C5
 ·exact hC
 refine ⟨⟨rfl, rfl, rfl, dT rfl, rfl⟩, .inl rfl, G4 rfl rfl rfl B3, C9 rfl, fun _ => rfl, fun g9 => ?_⟩
 refine H2 rfl rfl rfl (fun _ => rfl) (by omega) <| y_I rfl <| y_S rfl <| xN [4] [0] rfl <| A8 ?_
 refine ⟨_, _, ?_, K2 rfl rfl (J3 rfl rfl)⟩
 refine ⟨_, rfl, rfl, V8 (by omega)⟩

theorem b3o : F4 Tryz.f20 = [0, 1, 4, 15, 18, 6, 5, 29, 42, 7, 50, 8] := by kernel_rfl
theorem d0m (bs : List Int) (p : Int) (d : Nat) (hbs : a4i bs) (hl : bs.length ≤ 1048576) (hp : 0 ≤ p ∧ p + gN d ≤ 50000000)  (hd : d ≤ 5) : ∃ res outs, (fun res outs => ∃ (x : W8) (q : Int), res = tV x ∧ outs = [[rdr bs q]] ∧ p ≤ q ∧ q ≤ p + gN d ∧ x.length ≤ lN d) res outs ∧ CW (cxT oG) 20 [.ownp [rdr bs p] 0 0, iV d] = some (res, outs) := by
 obtain ⟨kk, hkk⟩ : ∃ kk : Nat, d < kk := ⟨_, Nat.lt_succ_self _⟩
 revert bs p d
 induction kk with
 | zero => intro bs p d hbs hl hp hd hkk; exact absurd hkk (Nat.not_lt_zero _)
 | succ kk ih =>
  intro bs p d hbs hl hp hd hkk
  have hgd := c2c d
  have hld := c9c d
  refine Q8 rfl Tryz.func20 rfl ⟨by kernel_rfl, rfl, dT rfl, dT rfl, by decide⟩ b3o <| A3 <| A0 <| y_S rfl <| xN [0,1] [0] rfl <| A3 <| A3 <| A0 <| y_M rfl <| M9 rfl rfl <| y_M rfl ?_
  refine C6 rfl rfl ?_ ?_ <;> intro hg0 <;> have hg := hg0 <;> try simp only [SG] at hg
  ·refine y_M rfl <| gT rfl rfl ?_
   obtain ⟨_, _, ⟨k0, rfl, rfl, hk0, -⟩, hC0⟩ := a0t (oG := oG) bs (p) hbs hl (by omega) (5) (by omega)
   have hk0 := hk0 (by omega)
   apply xC rfl
   ·apply A9
    ·exact L3 rfl (by decide) rfl
    apply A9
    ·exact B7 rfl
    exact C5
   ·exact hC0
   refine ⟨⟨rfl, rfl, rfl, dT rfl, rfl⟩, .inl rfl, G4 rfl rfl rfl B3, C9 rfl, fun _ => rfl, fun g13 => ?_⟩
   refine gT rfl rfl <| M9 rfl rfl <| F3 rfl (by assumption) rfl rfl <| xN [0,1,15] [0] rfl ?_
   refine A5 rfl ?_ ?_ <;> intro hc <;> try simp only [SL] at hc
   ·refine A3 <| A3 <| A0 <| y_M rfl ?_
    obtain ⟨_, _, ⟨k1, rfl, rfl, hk1, -⟩, hC1⟩ := a0t (oG := oG) bs (p + 1) hbs hl (by omega) (2) (by omega)
    have hk1 := hk1 (by omega)
    apply xC rfl
    ·apply A9
     ·exact L3 rfl (by decide) rfl
     apply A9
     ·exact B7 rfl
     exact C5
    ·exact hC1
    refine ⟨⟨rfl, rfl, rfl, dT rfl, rfl⟩, .inl rfl, G4 rfl rfl rfl B3, C9 rfl, fun _ => rfl, fun g17 => ?_⟩
    refine M9 rfl rfl <| xN [0,18] [0] rfl ?_
    refine A5 rfl ?_ ?_ <;> intro hc <;> try simp only [SL] at hc
    ·refine A3 <| A0 <| y_M rfl <| B4 (es := List.map tV [[97], [98], [97], [99], [100]]) rfl rfl (dT rfl) rfl rfl (fun _ => B1 (A6 fun _ => rfl)) (fun _ => rfl) ?_
     intro g20
     obtain ⟨_, _, ⟨w1, rfl, rfl, hw1⟩, hC2⟩ := b1u (oG := oG) bs (p + 1 + 1) hbs hl (by omega) [[97], [98], [97], [99], [100]] (by decide)
     have hw1b : w1.length ≤ 1 := by have hall : ∀ x ∈ ([[97], [98], [97], [99], [100]] : List W8), x.length ≤ 1 := (by decide); exact hall _ hw1
     apply xC rfl
     ·apply A9
      ·exact L3 rfl (by decide) rfl
      apply A9
      ·exact J2 rfl rfl (by (simp; done)) (fun _ => rfl)
      exact C5
     ·exact hC2
     refine ⟨⟨rfl, rfl, rfl, dT rfl, rfl⟩, .inl rfl, G4 rfl rfl rfl B3, C9 rfl, fun _ => rfl, fun g21 => ?_⟩
     refine y_S rfl <| xN [4] [0] rfl <| A8 ?_
     refine ⟨_, _, ?_, K2 rfl rfl (J3 rfl rfl)⟩
     exact ⟨_, _, rfl, rfl, by omega, by omega, by omega⟩
    refine A7 <| A3 <| A0 <| B4 (es := List.map iV []) rfl rfl (dT rfl) rfl rfl (fun _ => B1 (A6 fun _ => rfl)) (fun _ => rfl) ?_
    intro g22
    (refine xO rfl rfl (by simp) rfl (fun _ => rfl) (fun _ => rfl) ?_; intro g5)
    refine xN [0,5] [0,5] rfl <| A3 <| A3 <| A0 <| y_M rfl <| B4 (es := List.map iV [2, 3, 1, 0, 4]) rfl rfl (dT rfl) rfl rfl (fun _ => B1 (A6 fun _ => rfl)) (fun _ => rfl) ?_
    intro g24
    obtain ⟨_, _, ⟨n1, rfl, rfl, hn1⟩, hC3⟩ := d6n (oG := oG) bs (p + 1 + 1) hbs hl (by omega) [2, 3, 1, 0, 4] (by decide)
    have hn1b : 0 ≤ n1 ∧ n1 ≤ 4 := by simp at hn1; omega
    apply xC rfl
    ·apply A9
     ·exact L3 rfl (by decide) rfl
     apply A9
     ·exact J2 rfl rfl (by (simp; done)) (fun _ => rfl)
     exact C5
    ·exact hC3
    refine ⟨⟨rfl, rfl, rfl, dT rfl, rfl⟩, .inl rfl, G4 rfl rfl rfl B3, C9 rfl, fun _ => rfl, fun g25 => ?_⟩
    refine y_S rfl <| xN [0,5,6] [0,5] rfl <| B0 <| E8 (β := List Int × Nat × Int) [(.t 0, _), (.t 6, _)] (fun (z : List Int × Nat × Int) => match z with | (xs, g, q) => [(.h 0, .obj 1 4 0 [rdr bs q]), (.t 5, .sl 5 g none 0 xs.length), (.h 5, .obj g 0 1 (xs.map iV))]) (fun (z : List Int × Nat × Int) => match z with | (xs, g, q) => (xs.length : Int) ≤ n1 ∧ p ≤ q ∧ q ≤ p + 4 + xs.length ∧ ∀ x ∈ xs, -20 ≤ x ∧ x ≤ 20) (fun (z : List Int × Nat × Int) => match z with | (xs, g, q) => 5 - xs.length) ([], _, _) ⟨rfl, rfl, rfl, rfl, rfl, trivial⟩ ⟨by simp; omega, by omega, by omega, by simp⟩ ?_
    intro z hb
    obtain ⟨xs, g, q⟩ := z
    try dsimp only at hb
    obtain ⟨hx1, hq1, hq2, hxb⟩ := hb
    refine A3 <| A3 <| A0 <| y_M rfl <| I5 rfl rfl <| y_M rfl <| F8 rfl rfl <| xN [0,5,6,29] [0,5] rfl ?_
    refine A5 rfl ?_ ?_ <;> intro hc <;> try simp only [SL] at hc
    ·refine A7 <| B0 <| A0 <| y_M rfl <| y_M rfl ?_
     obtain ⟨_, _, ⟨k2, rfl, rfl, hk2, -⟩, hC4⟩ := a0t (oG := oG) bs (q) hbs hl (by omega) (41) (by omega)
     have hk2 := hk2 (by omega)
     apply xC rfl
     ·apply A9
      ·exact L3 rfl (by decide) rfl
      apply A9
      ·exact B7 rfl
      exact C5
     ·exact hC4
     refine ⟨⟨rfl, rfl, rfl, dT rfl, rfl⟩, .inl rfl, G4 rfl rfl rfl B3, C9 rfl, fun _ => rfl, fun g32 => ?_⟩
     refine P6 rfl rfl (C3 (by omega)) <| B4 (es := List.map iV [k2 - 20]) rfl rfl (dT rfl) rfl rfl (fun _ => B1 (A6 fun _ => rfl)) (fun _ => rfl) ?_
     intro g34
     refine xA rfl rfl rfl rfl (by simp) (by simp) rfl rfl rfl rfl rfl (fun _ => rfl) (by simp only [LN]; omega) (fun _ => rfl) ?_
     intro g35
     (refine xO rfl rfl (by simp) rfl (fun _ => rfl) (fun _ => rfl) ?_; intro g5)
     refine xN [0,5,6] [0,5] rfl ?_
     refine ⟨(xs ++ [k2 - 20], _, q + 1), ?_, (by simp only [List.length_append, List.length_singleton]; omega), ⟨rfl, rfl, rfl, rfl, rfl, trivial⟩⟩
     refine ⟨?_, ?_, ?_, fun x hx => ?_⟩
     ·simp only [List.length_append, List.length_singleton]; omega
     ·omega
     ·simp only [List.length_append, List.length_singleton]; omega
     rcases List.mem_append.1 hx with hx | hx
     ·exact hxb x hx
     rw [List.mem_singleton.1 hx]; omega
    refine E3 <| A3 <| A0 <| y_M rfl ?_
    have hll := V9 (ns := xs) (fun n hn => by have := hxb n hn; omega)
    apply xC rfl
    ·apply A9
     ·exact I9 rfl rfl rfl (by (simp; done)) (fun _ => rfl)
     exact C5
    ·exact a8e xs (by omega) (fun n hn => by have := hxb n hn; omega)
    refine ⟨⟨rfl, rfl, rfl, dT rfl, rfl⟩, .inr ⟨rfl, rfl⟩, B3, C9 rfl, fun _ => rfl, fun g37 => ?_⟩
    iterate 2 refine L2 rfl rfl (by simp only [G9, List.length_append, List.length_cons, List.length_nil]; omega) ?_
    refine y_S rfl <| xN [4] [0] rfl <| A8 ?_
    refine ⟨_, _, ?_, K2 rfl rfl (J3 rfl rfl)⟩
    exact ⟨_, _, rfl, rfl, by omega, by omega, by (simp only [List.length_append, List.length_cons, List.length_nil]; omega)⟩
   obtain ⟨d1, rfl⟩ : ∃ d1, d = d1 + 1 := ⟨d - 1, by omega⟩
   have hge : gN (d1 + 1) = 2 * gN d1 + 20 := rfl
   have hle : lN (d1 + 1) = 2 * lN d1 + 60 := rfl
   have hgp := c2c d1
   have hlp := c9c d1
   have hlm := d1q (d := d1 + 1) hd
   refine A7 <| A3 <| A3 <| A0 <| y_M rfl ?_
   obtain ⟨_, _, ⟨k3, rfl, rfl, hk3, -⟩, hC5⟩ := a0t (oG := oG) bs (p + 1) hbs hl (by omega) (4) (by omega)
   have hk3 := hk3 (by omega)
   apply xC rfl
   ·apply A9
    ·exact L3 rfl (by decide) rfl
    apply A9
    ·exact B7 rfl
    exact C5
   ·exact hC5
   refine ⟨⟨rfl, rfl, rfl, dT rfl, rfl⟩, .inl rfl, G4 rfl rfl rfl B3, C9 rfl, fun _ => rfl, fun g41 => ?_⟩
   refine M9 rfl rfl <| xN [0,1,42] [0] rfl ?_
   refine A5 rfl ?_ ?_ <;> intro hc <;> try simp only [SL] at hc
   ·refine A3 <| A0 <| y_M rfl <| y_M rfl <| P6 rfl rfl (C3 (by omega)) ?_
    obtain ⟨_, _, ⟨x1, q1, rfl, rfl, hx11, hx12, hx13⟩, hC6⟩ := ih bs (p + 1 + 1) d1 hbs hl (by omega) (by omega) (by omega)
    rw [show ((d1 + 1 : Nat) : Int) - 1 = (d1 : Int) by omega]
    apply xC rfl
    ·apply A9
     ·exact L3 rfl (by decide) rfl
     apply A9
     ·exact B7 rfl
     exact C5
    ·exact hC6
    refine ⟨⟨rfl, rfl, rfl, dT rfl, rfl⟩, .inl rfl, G4 rfl rfl rfl B3, C9 rfl, fun _ => rfl, fun g46 => ?_⟩
    refine y_S rfl <| xN [0,1,7] [0] rfl <| A3 <| A0 <| y_M rfl <| y_S rfl <| xN [0,1,7,8] [0] rfl <| A3 <| A3 <| A0 <| y_M rfl ?_
    obtain ⟨_, _, ⟨k4, rfl, rfl, hk4, -⟩, hC7⟩ := a0t (oG := oG) bs (q1) hbs hl (by omega) (2) (by omega)
    have hk4 := hk4 (by omega)
    apply xC rfl
    ·apply A9
     ·exact L3 rfl (by decide) rfl
     apply A9
     ·exact B7 rfl
     exact C5
    ·exact hC7
    refine ⟨⟨rfl, rfl, rfl, dT rfl, rfl⟩, .inl rfl, G4 rfl rfl rfl B3, C9 rfl, fun _ => rfl, fun g49 => ?_⟩
    refine M9 rfl rfl <| xN [0,1,7,8,50] [0] rfl ?_
    refine A5 rfl ?_ ?_ <;> intro hc <;> try simp only [SL] at hc
    ·refine A0 <| y_M rfl <| y_M rfl <| P6 rfl rfl (C3 (by omega)) ?_
     obtain ⟨_, _, ⟨x2, q2, rfl, rfl, hx21, hx22, hx23⟩, hC8⟩ := ih bs (q1 + 1) d1 hbs hl (by omega) (by omega) (by omega)
     rw [show ((d1 + 1 : Nat) : Int) - 1 = (d1 : Int) by omega]
     apply xC rfl
     ·apply A9
      ·exact L3 rfl (by decide) rfl
      apply A9
      ·exact B7 rfl
      exact C5
     ·exact hC8
     refine ⟨⟨rfl, rfl, rfl, dT rfl, rfl⟩, .inl rfl, G4 rfl rfl rfl B3, C9 rfl, fun _ => rfl, fun g54 => ?_⟩
     refine y_S rfl <| xN [0,7,8] [0] rfl <| A3 <| A0 <| y_M rfl <| B4 (es := List.map tV [[97, 100, 100], [106, 111, 105, 110], [106, 111, 105, 110]]) rfl rfl (dT rfl) rfl rfl (fun _ => B1 (A6 fun _ => rfl)) (fun _ => rfl) ?_
     intro g56
     obtain ⟨_, _, ⟨w2, rfl, rfl, hw2⟩, hC9⟩ := b1u (oG := oG) bs (q2) hbs hl (by omega) [[97, 100, 100], [106, 111, 105, 110], [106, 111, 105, 110]] (by decide)
     have hw2b : w2.length ≤ 4 := by have hall : ∀ x ∈ ([[97, 100, 100], [106, 111, 105, 110], [106, 111, 105, 110]] : List W8), x.length ≤ 4 := (by decide); exact hall _ hw2
     apply xC rfl
     ·apply A9
      ·exact L3 rfl (by decide) rfl
      apply A9
      ·exact J2 rfl rfl (by (simp; done)) (fun _ => rfl)
      exact C5
     ·exact hC9
     refine ⟨⟨rfl, rfl, rfl, dT rfl, rfl⟩, .inl rfl, G4 rfl rfl rfl B3, C9 rfl, fun _ => rfl, fun g57 => ?_⟩
     refine L2 rfl rfl (by simp only [G9, List.length_append, List.length_cons, List.length_nil]; omega) <| y_M rfl ?_
     iterate 2 refine L2 rfl rfl (by simp only [G9, List.length_append, List.length_cons, List.length_nil]; omega) ?_
     refine y_M rfl <| L2 rfl rfl (by simp only [G9, List.length_append, List.length_cons, List.length_nil]; omega) <| y_S rfl <| xN [4] [0] rfl <| A8 ?_
     refine ⟨_, _, ?_, K2 rfl rfl (J3 rfl rfl)⟩
     exact ⟨_, _, rfl, rfl, by omega, by omega, by (simp only [List.length_append, List.length_cons, List.length_nil]; omega)⟩
    refine A7 <| A3 <| A0 <| y_M rfl <| B4 (es := List.map tV [[97, 100, 100], [106, 111, 105, 110], [106, 111, 105, 110]]) rfl rfl (dT rfl) rfl rfl (fun _ => B1 (A6 fun _ => rfl)) (fun _ => rfl) ?_
    intro g56
    obtain ⟨_, _, ⟨w2, rfl, rfl, hw2⟩, hC9⟩ := b1u (oG := oG) bs (q1 + 1) hbs hl (by omega) [[97, 100, 100], [106, 111, 105, 110], [106, 111, 105, 110]] (by decide)
    have hw2b : w2.length ≤ 4 := by have hall : ∀ x ∈ ([[97, 100, 100], [106, 111, 105, 110], [106, 111, 105, 110]] : List W8), x.length ≤ 4 := (by decide); exact hall _ hw2
    apply xC rfl
    ·apply A9
     ·exact L3 rfl (by decide) rfl
     apply A9
     ·exact J2 rfl rfl (by (simp; done)) (fun _ => rfl)
     exact C5
    ·exact hC9
    refine ⟨⟨rfl, rfl, rfl, dT rfl, rfl⟩, .inl rfl, G4 rfl rfl rfl B3, C9 rfl, fun _ => rfl, fun g57 => ?_⟩
    refine L2 rfl rfl (by simp only [G9, List.length_append, List.length_cons, List.length_nil]; omega) <| y_M rfl ?_
    iterate 2 refine L2 rfl rfl (by simp only [G9, List.length_append, List.length_cons, List.length_nil]; omega) ?_
    refine y_M rfl <| L2 rfl rfl (by simp only [G9, List.length_append, List.length_cons, List.length_nil]; omega) <| y_S rfl <| xN [4] [0] rfl <| A8 ?_
    refine ⟨_, _, ?_, K2 rfl rfl (J3 rfl rfl)⟩
    exact ⟨_, _, rfl, rfl, by omega, by omega, by (simp only [List.length_append, List.length_cons, List.length_nil]; omega)⟩
   refine A7 <| A3 <| A0 <| y_M rfl <| B4 (es := List.map tV [[115, 111, 114, 116], [114, 101, 118], [110, 101, 103], [97, 98, 115], [100, 105, 102, 102], [115, 117, 109, 115], [114, 97, 110, 107, 115], [116, 111, 116, 97, 108], [115, 111, 114, 116], [114, 101, 118], [110, 101, 103], [97, 98, 115]]) rfl rfl (dT rfl) rfl rfl (fun _ => B1 (A6 fun _ => rfl)) (fun _ => rfl) ?_
   intro g65
   obtain ⟨_, _, ⟨w3, rfl, rfl, hw3⟩, hC10⟩ := b1u (oG := oG) bs (p + 1 + 1) hbs hl (by omega) [[115, 111, 114, 116], [114, 101, 118], [110, 101, 103], [97, 98, 115], [100, 105, 102, 102], [115, 117, 109, 115], [114, 97, 110, 107, 115], [116, 111, 116, 97, 108], [115, 111, 114, 116], [114, 101, 118], [110, 101, 103], [97, 98, 115]] (by decide)
   have hw3b : w3.length ≤ 5 := by have hall : ∀ x ∈ ([[115, 111, 114, 116], [114, 101, 118], [110, 101, 103], [97, 98, 115], [100, 105, 102, 102], [115, 117, 109, 115], [114, 97, 110, 107, 115], [116, 111, 116, 97, 108], [115, 111, 114, 116], [114, 101, 118], [110, 101, 103], [97, 98, 115]] : List W8), x.length ≤ 5 := (by decide); exact hall _ hw3
   apply xC rfl
   ·apply A9
    ·exact L3 rfl (by decide) rfl
    apply A9
    ·exact J2 rfl rfl (by (simp; done)) (fun _ => rfl)
    exact C5
   ·exact hC10
   refine ⟨⟨rfl, rfl, rfl, dT rfl, rfl⟩, .inl rfl, G4 rfl rfl rfl B3, C9 rfl, fun _ => rfl, fun g66 => ?_⟩
   refine L2 rfl rfl (by simp only [G9, List.length_append, List.length_cons, List.length_nil]; omega) <| y_M rfl <| y_M rfl <| P6 rfl rfl (C3 (by omega)) ?_
   obtain ⟨_, _, ⟨x3, q3, rfl, rfl, hx31, hx32, hx33⟩, hC11⟩ := ih bs (p + 1 + 1 + 1) d1 hbs hl (by omega) (by omega) (by omega)
   rw [show ((d1 + 1 : Nat) : Int) - 1 = (d1 : Int) by omega]
   apply xC rfl
   ·apply A9
    ·exact L3 rfl (by decide) rfl
    apply A9
    ·exact B7 rfl
    exact C5
   ·exact hC11
   refine ⟨⟨rfl, rfl, rfl, dT rfl, rfl⟩, .inl rfl, G4 rfl rfl rfl B3, C9 rfl, fun _ => rfl, fun g71 => ?_⟩
   refine L2 rfl rfl (by simp only [G9, List.length_append, List.length_cons, List.length_nil]; omega) <| y_S rfl <| xN [4] [0] rfl <| A8 ?_
   refine ⟨_, _, ?_, K2 rfl rfl (J3 rfl rfl)⟩
   exact ⟨_, _, rfl, rfl, by omega, by omega, by (simp only [List.length_append, List.length_cons, List.length_nil]; omega)⟩
  refine gF rfl rfl <| gF rfl rfl <| F0 rfl (by assumption) rfl rfl <| xN [0,1,15] [0] rfl ?_
  refine A5 rfl (fun hc => ?_) (fun hc => absurd hc (by decide))
  refine A3 <| A3 <| A0 <| y_M rfl ?_
  obtain ⟨_, _, ⟨k1, rfl, rfl, hk1, -⟩, hC1⟩ := a0t (oG := oG) bs (p) hbs hl (by omega) (2) (by omega)
  have hk1 := hk1 (by omega)
  apply xC rfl
  ·apply A9
   ·exact L3 rfl (by decide) rfl
   apply A9
   ·exact B7 rfl
   exact C5
  ·exact hC1
  refine ⟨⟨rfl, rfl, rfl, dT rfl, rfl⟩, .inl rfl, G4 rfl rfl rfl B3, C9 rfl, fun _ => rfl, fun g17 => ?_⟩
  refine M9 rfl rfl <| xN [0,18] [0] rfl ?_
  refine A5 rfl ?_ ?_ <;> intro hc <;> try simp only [SL] at hc
  ·refine A3 <| A0 <| y_M rfl <| B4 (es := List.map tV [[97], [98], [97], [99], [100]]) rfl rfl (dT rfl) rfl rfl (fun _ => B1 (A6 fun _ => rfl)) (fun _ => rfl) ?_
   intro g20
   obtain ⟨_, _, ⟨w1, rfl, rfl, hw1⟩, hC2⟩ := b1u (oG := oG) bs (p + 1) hbs hl (by omega) [[97], [98], [97], [99], [100]] (by decide)
   have hw1b : w1.length ≤ 1 := by have hall : ∀ x ∈ ([[97], [98], [97], [99], [100]] : List W8), x.length ≤ 1 := (by decide); exact hall _ hw1
   apply xC rfl
   ·apply A9
    ·exact L3 rfl (by decide) rfl
    apply A9
    ·exact J2 rfl rfl (by (simp; done)) (fun _ => rfl)
    exact C5
   ·exact hC2
   refine ⟨⟨rfl, rfl, rfl, dT rfl, rfl⟩, .inl rfl, G4 rfl rfl rfl B3, C9 rfl, fun _ => rfl, fun g21 => ?_⟩
   refine y_S rfl <| xN [4] [0] rfl <| A8 ?_
   refine ⟨_, _, ?_, K2 rfl rfl (J3 rfl rfl)⟩
   exact ⟨_, _, rfl, rfl, by omega, by omega, by omega⟩
  refine A7 <| A3 <| A0 <| B4 (es := List.map iV []) rfl rfl (dT rfl) rfl rfl (fun _ => B1 (A6 fun _ => rfl)) (fun _ => rfl) ?_
  intro g22
  (refine xO rfl rfl (by simp) rfl (fun _ => rfl) (fun _ => rfl) ?_; intro g5)
  refine xN [0,5] [0,5] rfl <| A3 <| A3 <| A0 <| y_M rfl <| B4 (es := List.map iV [2, 3, 1, 0, 4]) rfl rfl (dT rfl) rfl rfl (fun _ => B1 (A6 fun _ => rfl)) (fun _ => rfl) ?_
  intro g24
  obtain ⟨_, _, ⟨n1, rfl, rfl, hn1⟩, hC3⟩ := d6n (oG := oG) bs (p + 1) hbs hl (by omega) [2, 3, 1, 0, 4] (by decide)
  have hn1b : 0 ≤ n1 ∧ n1 ≤ 4 := by simp at hn1; omega
  apply xC rfl
  ·apply A9
   ·exact L3 rfl (by decide) rfl
   apply A9
   ·exact J2 rfl rfl (by (simp; done)) (fun _ => rfl)
   exact C5
  ·exact hC3
  refine ⟨⟨rfl, rfl, rfl, dT rfl, rfl⟩, .inl rfl, G4 rfl rfl rfl B3, C9 rfl, fun _ => rfl, fun g25 => ?_⟩
  refine y_S rfl <| xN [0,5,6] [0,5] rfl <| B0 <| E8 (β := List Int × Nat × Int) [(.t 0, _), (.t 6, _)] (fun (z : List Int × Nat × Int) => match z with | (xs, g, q) => [(.h 0, .obj 1 4 0 [rdr bs q]), (.t 5, .sl 5 g none 0 xs.length), (.h 5, .obj g 0 1 (xs.map iV))]) (fun (z : List Int × Nat × Int) => match z with | (xs, g, q) => (xs.length : Int) ≤ n1 ∧ p ≤ q ∧ q ≤ p + 4 + xs.length ∧ ∀ x ∈ xs, -20 ≤ x ∧ x ≤ 20) (fun (z : List Int × Nat × Int) => match z with | (xs, g, q) => 5 - xs.length) ([], _, _) ⟨rfl, rfl, rfl, rfl, rfl, trivial⟩ ⟨by simp; omega, by omega, by omega, by simp⟩ ?_
  intro z hb
  obtain ⟨xs, g, q⟩ := z
  try dsimp only at hb
  obtain ⟨hx1, hq1, hq2, hxb⟩ := hb
  refine A3 <| A3 <| A0 <| y_M rfl <| I5 rfl rfl <| y_M rfl <| F8 rfl rfl <| xN [0,5,6,29] [0,5] rfl ?_
  refine A5 rfl ?_ ?_ <;> intro hc <;> try simp only [SL] at hc
  ·refine A7 <| B0 <| A0 <| y_M rfl <| y_M rfl ?_
   obtain ⟨_, _, ⟨k2, rfl, rfl, hk2, -⟩, hC4⟩ := a0t (oG := oG) bs (q) hbs hl (by omega) (41) (by omega)
   have hk2 := hk2 (by omega)
   apply xC rfl
   ·apply A9
    ·exact L3 rfl (by decide) rfl
    apply A9
    ·exact B7 rfl
    exact C5
   ·exact hC4
   refine ⟨⟨rfl, rfl, rfl, dT rfl, rfl⟩, .inl rfl, G4 rfl rfl rfl B3, C9 rfl, fun _ => rfl, fun g32 => ?_⟩
   refine P6 rfl rfl (C3 (by omega)) <| B4 (es := List.map iV [k2 - 20]) rfl rfl (dT rfl) rfl rfl (fun _ => B1 (A6 fun _ => rfl)) (fun _ => rfl) ?_
   intro g34
   refine xA rfl rfl rfl rfl (by simp) (by simp) rfl rfl rfl rfl rfl (fun _ => rfl) (by simp only [LN]; omega) (fun _ => rfl) ?_
   intro g35
   (refine xO rfl rfl (by simp) rfl (fun _ => rfl) (fun _ => rfl) ?_; intro g5)
   refine xN [0,5,6] [0,5] rfl ?_
   refine ⟨(xs ++ [k2 - 20], _, q + 1), ?_, (by simp only [List.length_append, List.length_singleton]; omega), ⟨rfl, rfl, rfl, rfl, rfl, trivial⟩⟩
   refine ⟨?_, ?_, ?_, fun x hx => ?_⟩
   ·simp only [List.length_append, List.length_singleton]; omega
   ·omega
   ·simp only [List.length_append, List.length_singleton]; omega
   rcases List.mem_append.1 hx with hx | hx
   ·exact hxb x hx
   rw [List.mem_singleton.1 hx]; omega
  refine E3 <| A3 <| A0 <| y_M rfl ?_
  have hll := V9 (ns := xs) (fun n hn => by have := hxb n hn; omega)
  apply xC rfl
  ·apply A9
   ·exact I9 rfl rfl rfl (by (simp; done)) (fun _ => rfl)
   exact C5
  ·exact a8e xs (by omega) (fun n hn => by have := hxb n hn; omega)
  refine ⟨⟨rfl, rfl, rfl, dT rfl, rfl⟩, .inr ⟨rfl, rfl⟩, B3, C9 rfl, fun _ => rfl, fun g37 => ?_⟩
  iterate 2 refine L2 rfl rfl (by simp only [G9, List.length_append, List.length_cons, List.length_nil]; omega) ?_
  refine y_S rfl <| xN [4] [0] rfl <| A8 ?_
  refine ⟨_, _, ?_, K2 rfl rfl (J3 rfl rfl)⟩
  exact ⟨_, _, rfl, rfl, by omega, by omega, by (simp only [List.length_append, List.length_cons, List.length_nil]; omega)⟩

theorem b8c : F4 Tryz.f23 = [0, 1, 4, 12, 13, 5, 19, 32, 37] := by kernel_rfl
theorem d6h (bs : List Int) (p : Int) (hbs : a4i bs) (hl : bs.length ≤ 1048576) (hp : 0 ≤ p ∧ p ≤ 100000000) (s : W8) (hs : s.length ≤ 100000) : ∃ res outs, (fun res outs => ∃ (x : W8) (q : Int), res = tV x ∧ outs = [[rdr bs q]] ∧ p ≤ q ∧ q ≤ p + 10 ∧ x.length ≤ s.length + 10) res outs ∧ CW (cxT oG) 23 [.ownp [rdr bs p] 0 0, tV s] = some (res, outs) := by
 refine Q8 rfl Tryz.func23 rfl ⟨by kernel_rfl, rfl, dT rfl, dT rfl, by decide⟩ b8c <| A3 <| A0 <| y_S rfl <| xN [0,1] [0] rfl <| A3 <| A0 <| y_M rfl <| y_M rfl <| a1o rfl rfl <| E4 rfl rfl (C3 (by omega)) ?_
 obtain ⟨_, _, ⟨k0, rfl, rfl, hk0, -⟩, hC0⟩ := a0t (oG := oG) bs (p) hbs hl (by omega) (s.length + 1) (by omega)
 have hk0 := hk0 (by omega)
 apply xC rfl
 ·apply A9
  ·exact L3 rfl (by decide) rfl
  apply A9
  ·exact B7 rfl
  exact C5
 ·exact hC0
 refine ⟨⟨rfl, rfl, rfl, dT rfl, rfl⟩, .inl rfl, G4 rfl rfl rfl B3, C9 rfl, fun _ => rfl, fun g10 => ?_⟩
 refine y_S rfl <| xN [0,1,5] [0] rfl <| A3 <| A3 <| A0 <| y_M rfl ?_
 obtain ⟨_, _, ⟨k1, rfl, rfl, hk1, -⟩, hC1⟩ := a0t (oG := oG) bs (p + 1) hbs hl (by omega) (5) (by omega)
 have hk1 := hk1 (by omega)
 apply xC rfl
 ·apply A9
  ·exact L3 rfl (by decide) rfl
  apply A9
  ·exact B7 rfl
  exact C5
 ·exact hC1
 refine ⟨⟨rfl, rfl, rfl, dT rfl, rfl⟩, .inl rfl, G4 rfl rfl rfl B3, C9 rfl, fun _ => rfl, fun g12 => ?_⟩
 refine xN [0,1,5,12] [0] rfl <| B0 <| A3 <| A3 <| A0 <| M9 rfl rfl <| y_S rfl <| xN [0,1,5,12,13] [0] rfl ?_
 refine A5 rfl ?_ ?_ <;> intro hc <;> try simp only [SL] at hc
 ·refine A7 ?_
  refine A5 rfl (fun hc => ?_) (fun hc => absurd hc (by simp_all))
  refine A3 <| A0 <| y_M rfl <| y_M rfl <| a1o rfl rfl <| F8 rfl rfl <| xN [0,1,5,19] [0] rfl ?_
  refine A5 rfl ?_ ?_ <;> intro hc <;> try simp only [SL] at hc
  ·refine A3 <| A0 <| y_M rfl <| y_M rfl <| U9 rfl rfl (P8 rfl (by omega)) H8 (by omega) <| y_M rfl <| B4 (es := List.map tV [[48], [49], [97], [44], [45], [93], [32]]) rfl rfl (dT rfl) rfl rfl (fun _ => B1 (A6 fun _ => rfl)) (fun _ => rfl) ?_
   intro g24
   obtain ⟨_, _, ⟨w1, rfl, rfl, hw1⟩, hC2⟩ := b1u (oG := oG) bs (p + 1 + 1) hbs hl (by omega) [[48], [49], [97], [44], [45], [93], [32]] (by decide)
   have hw1b : w1.length ≤ 1 := by have hall : ∀ x ∈ ([[48], [49], [97], [44], [45], [93], [32]] : List W8), x.length ≤ 1 := (by decide); exact hall _ hw1
   apply xC rfl
   ·apply A9
    ·exact L3 rfl (by decide) rfl
    apply A9
    ·exact J2 rfl rfl (by (simp; done)) (fun _ => rfl)
    exact C5
   ·exact hC2
   refine ⟨⟨rfl, rfl, rfl, dT rfl, rfl⟩, .inl rfl, G4 rfl rfl rfl B3, C9 rfl, fun _ => rfl, fun g25 => ?_⟩
   refine L2 rfl rfl (by simp only [G9, List.length_append, List.length_take, List.length_drop]; omega) <| y_M rfl <| y_M rfl <| E4 rfl rfl (C3 (by omega)) <| U9 rfl rfl H8 (P8 rfl (by omega)) (by omega) <| L2 rfl rfl (by simp only [G9, List.length_append, List.length_take, List.length_drop]; omega) <| y_S rfl ?_
   refine J6 ⟨fun _ => ⟨by (simp only [Z0, List.nil_append, List.append_nil, List.map_cons, List.map_nil, List.cons_append]; decide +kernel), by decide +kernel⟩, [(.t 4, _), (.h 0, _)], ⟨rfl, rfl, rfl, rfl, trivial⟩, ?_⟩
   refine A8 ?_
   refine ⟨_, _, ?_, K2 rfl rfl (J3 rfl rfl)⟩
   exact ⟨_, _, rfl, rfl, by omega, by omega, by (simp only [List.length_append, List.length_cons, List.length_nil, List.length_take, List.length_drop]; omega)⟩
  refine A7 <| A3 <| A0 <| y_M rfl <| y_S rfl <| xN [4] [0] rfl <| A8 ?_
  refine ⟨_, _, ?_, K2 rfl rfl (J3 rfl rfl)⟩
  exact ⟨_, _, rfl, rfl, by omega, by omega, by omega⟩
 refine A0 <| M9 rfl rfl <| y_S rfl <| xN [0,1,5,12,13] [0] rfl ?_
 refine A5 rfl ?_ ?_ <;> intro hc <;> try simp only [SL] at hc
 ·refine A3 <| A0 <| y_M rfl <| y_M rfl <| a1o rfl rfl <| F8 rfl rfl <| xN [0,1,5,19] [0] rfl ?_
  refine A5 rfl ?_ ?_ <;> intro hc <;> try simp only [SL] at hc
  ·refine A3 <| A0 <| y_M rfl <| y_M rfl <| U9 rfl rfl (P8 rfl (by omega)) H8 (by omega) <| y_M rfl <| B4 (es := List.map tV [[48], [49], [97], [44], [45], [93], [32]]) rfl rfl (dT rfl) rfl rfl (fun _ => B1 (A6 fun _ => rfl)) (fun _ => rfl) ?_
   intro g24
   obtain ⟨_, _, ⟨w1, rfl, rfl, hw1⟩, hC2⟩ := b1u (oG := oG) bs (p + 1 + 1) hbs hl (by omega) [[48], [49], [97], [44], [45], [93], [32]] (by decide)
   have hw1b : w1.length ≤ 1 := by have hall : ∀ x ∈ ([[48], [49], [97], [44], [45], [93], [32]] : List W8), x.length ≤ 1 := (by decide); exact hall _ hw1
   apply xC rfl
   ·apply A9
    ·exact L3 rfl (by decide) rfl
    apply A9
    ·exact J2 rfl rfl (by (simp; done)) (fun _ => rfl)
    exact C5
   ·exact hC2
   refine ⟨⟨rfl, rfl, rfl, dT rfl, rfl⟩, .inl rfl, G4 rfl rfl rfl B3, C9 rfl, fun _ => rfl, fun g25 => ?_⟩
   refine L2 rfl rfl (by simp only [G9, List.length_append, List.length_take, List.length_drop]; omega) <| y_M rfl <| y_M rfl <| E4 rfl rfl (C3 (by omega)) <| U9 rfl rfl H8 (P8 rfl (by omega)) (by omega) <| L2 rfl rfl (by simp only [G9, List.length_append, List.length_take, List.length_drop]; omega) <| y_S rfl ?_
   refine J6 ⟨fun _ => ⟨by (simp only [Z0, List.nil_append, List.append_nil, List.map_cons, List.map_nil, List.cons_append]; decide +kernel), by decide +kernel⟩, [(.t 4, _), (.h 0, _)], ⟨rfl, rfl, rfl, rfl, trivial⟩, ?_⟩
   refine A8 ?_
   refine ⟨_, _, ?_, K2 rfl rfl (J3 rfl rfl)⟩
   exact ⟨_, _, rfl, rfl, by omega, by omega, by (simp only [List.length_append, List.length_cons, List.length_nil, List.length_take, List.length_drop]; omega)⟩
  refine A7 <| A3 <| A0 <| y_M rfl <| y_S rfl <| xN [4] [0] rfl <| A8 ?_
  refine ⟨_, _, ?_, K2 rfl rfl (J3 rfl rfl)⟩
  exact ⟨_, _, rfl, rfl, by omega, by omega, by omega⟩
 refine A3 <| A0 <| M9 rfl rfl <| y_S rfl <| xN [0,1,5,12,32] [0] rfl ?_
 refine A5 rfl ?_ ?_ <;> intro hc <;> try simp only [SL] at hc
 ·refine A3 <| A0 <| y_M rfl <| y_M rfl <| U9 rfl rfl (P8 rfl (by omega)) H8 (by omega) <| y_S rfl <| xN [4] [0] rfl <| A8 ?_
  refine ⟨_, _, ?_, K2 rfl rfl (J3 rfl rfl)⟩
  exact ⟨_, _, rfl, rfl, by omega, by omega, by (simp only [List.length_append, List.length_cons, List.length_nil, List.length_take, List.length_drop]; omega)⟩
 refine A3 <| A0 <| M9 rfl rfl <| y_S rfl <| xN [0,1,37] [0] rfl ?_
 refine A5 rfl ?_ ?_ <;> intro hc <;> try simp only [SL] at hc
 ·refine A3 <| A0 <| y_M rfl <| y_M rfl <| B4 (es := List.map tV [[48], [44], [32], [32, 97]]) rfl rfl (dT rfl) rfl rfl (fun _ => B1 (A6 fun _ => rfl)) (fun _ => rfl) ?_
  intro g41
  obtain ⟨_, _, ⟨w2, rfl, rfl, hw2⟩, hC3⟩ := b1u (oG := oG) bs (p + 1 + 1) hbs hl (by omega) [[48], [44], [32], [32, 97]] (by decide)
  have hw2b : w2.length ≤ 2 := by have hall : ∀ x ∈ ([[48], [44], [32], [32, 97]] : List W8), x.length ≤ 2 := (by decide); exact hall _ hw2
  apply xC rfl
  ·apply A9
   ·exact L3 rfl (by decide) rfl
   apply A9
   ·exact J2 rfl rfl (by (simp; done)) (fun _ => rfl)
   exact C5
  ·exact hC3
  refine ⟨⟨rfl, rfl, rfl, dT rfl, rfl⟩, .inl rfl, G4 rfl rfl rfl B3, C9 rfl, fun _ => rfl, fun g42 => ?_⟩
  refine L2 rfl rfl (by simp only [G9, List.length_append, List.length_cons, List.length_nil]; omega) <| y_S rfl <| xN [4] [0] rfl <| A8 ?_
  refine ⟨_, _, ?_, K2 rfl rfl (J3 rfl rfl)⟩
  exact ⟨_, _, rfl, rfl, by omega, by omega, by (simp only [List.length_append, List.length_cons, List.length_nil, List.length_take, List.length_drop]; omega)⟩
 refine A7 <| A3 <| A0 <| y_M rfl <| y_S rfl <| xN [4] [0] rfl <| A8 ?_
 refine ⟨_, _, ?_, K2 rfl rfl (J3 rfl rfl)⟩
 exact ⟨_, _, rfl, rfl, by omega, by omega, by omega⟩

theorem b3i : F4 Tryz.f10 = [0, 2, 11, 3] := by kernel_rfl
theorem d0g (bs : List Int) (p : Int) (hbs : a4i bs) (hl : bs.length ≤ 1048576) (hp : 0 ≤ p ∧ p ≤ 1000000) : ∃ res outs, (fun res outs => ∃ (x : W8) (q : Int), res = tV x ∧ outs = [[rdr bs q]] ∧ p ≤ q ∧ q ≤ p + 3000 ∧ x.length ≤ 5000) res outs ∧ CW (cxT oG) 10 [.ownp [rdr bs p] 0 0] = some (res, outs) := by
 refine Q8 rfl Tryz.func10 rfl ⟨by kernel_rfl, rfl, dT rfl, dT rfl, by decide⟩ b3i <| A3 <| A0 <| y_S rfl <| xN [0] [0] rfl <| A3 <| A0 <| y_M rfl <| y_M rfl <| B4 (es := List.map iV [3, 4, 2, 5, 1, 0]) rfl rfl (dT rfl) rfl rfl (fun _ => B1 (A6 fun _ => rfl)) (fun _ => rfl) ?_
 intro g6
 obtain ⟨_, _, ⟨k0, rfl, rfl, hk0⟩, hC0⟩ := d6n (oG := oG) bs (p) hbs hl (by omega) [3, 4, 2, 5, 1, 0] (by decide)
 have hk0b : 0 ≤ k0 ∧ k0 ≤ 5 := by simp at hk0; omega
 obtain ⟨d, rfl⟩ : ∃ d : Nat, k0 = d := ⟨k0.toNat, by omega⟩
 have hgm := d8u (d := d) (by omega)
 have hlm := d1q (d := d) (by omega)
 have hgp := c2c d
 apply xC rfl
 ·apply A9
  ·exact L3 rfl (by decide) rfl
  apply A9
  ·exact J2 rfl rfl (by (simp; done)) (fun _ => rfl)
  exact C5
 ·exact hC0
 refine ⟨⟨rfl, rfl, rfl, dT rfl, rfl⟩, .inl rfl, G4 rfl rfl rfl B3, C9 rfl, fun _ => rfl, fun g7 => ?_⟩
 obtain ⟨_, _, ⟨x, q, rfl, rfl, hx1, hx2, hx3⟩, hC1⟩ := d0m (oG := oG) bs (p + 1) d hbs hl (by omega) (by omega)
 apply xC rfl
 ·apply A9
  ·exact L3 rfl (by decide) rfl
  apply A9
  ·exact B7 rfl
  exact C5
 ·exact hC1
 refine ⟨⟨rfl, rfl, rfl, dT rfl, rfl⟩, .inl rfl, G4 rfl rfl rfl B3, C9 rfl, fun _ => rfl, fun g8 => ?_⟩
 refine y_S rfl <| xN [0,3] [0] rfl <| A3 <| A3 <| A0 <| y_M rfl ?_
 obtain ⟨_, _, ⟨k1, rfl, rfl, hk1, -⟩, hC2⟩ := a0t (oG := oG) bs (q) hbs hl (by omega) (16) (by omega)
 have hk1 := hk1 (by omega)
 apply xC rfl
 ·apply A9
  ·exact L3 rfl (by decide) rfl
  apply A9
  ·exact B7 rfl
  exact C5
 ·exact hC2
 refine ⟨⟨rfl, rfl, rfl, dT rfl, rfl⟩, .inl rfl, G4 rfl rfl rfl B3, C9 rfl, fun _ => rfl, fun g10 => ?_⟩
 refine M9 rfl rfl <| xN [0,3,11] [0] rfl ?_
 refine A5 rfl ?_ ?_ <;> intro hc <;> try simp only [SL] at hc
 ·refine A0 <| y_M rfl <| y_M rfl ?_
  obtain ⟨_, _, ⟨y, q2, rfl, rfl, hy1, hy2, hy3⟩, hC3⟩ := d6h (oG := oG) bs (q + 1) hbs hl (by omega) x (by omega)
  apply xC rfl
  ·apply A9
   ·exact L3 rfl (by decide) rfl
   apply A9
   ·exact B7 rfl
   exact C5
  ·exact hC3
  refine ⟨⟨rfl, rfl, rfl, dT rfl, rfl⟩, .inl rfl, G4 rfl rfl rfl B3, C9 rfl, fun _ => rfl, fun g14 => ?_⟩
  refine y_S rfl <| xN [3] [0] rfl <| A3 <| A0 <| y_M rfl <| y_S rfl <| xN [2] [0] rfl <| A8 ?_
  refine ⟨_, _, ?_, K2 rfl rfl (J3 rfl rfl)⟩
  exact ⟨_, _, rfl, rfl, by omega, by omega, by omega⟩
 refine A7 <| A3 <| A0 <| y_M rfl <| y_S rfl <| xN [2] [0] rfl <| A8 ?_
 refine ⟨_, _, ?_, K2 rfl rfl (J3 rfl rfl)⟩
 exact ⟨_, _, rfl, rfl, by omega, by omega, by omega⟩

theorem a4k : F4 Tryz.f4 = [0, 2] := by kernel_rfl
theorem b0c (bs : List Int) (hbs : a4i bs) (hl : bs.length ≤ 1048576) : ∃ res outs, (fun res outs => ∃ x : W8, res = tV x ∧ outs = [] ∧ x.length ≤ 5000) res outs ∧ CW (cxT oG) 4 [.list (bs.map uV)] = some (res, outs) := by
 refine Q8 rfl Tryz.func4 rfl ⟨by kernel_rfl, rfl, dT rfl, dT rfl, by decide⟩ a4k <| A3 <| A0 <| y_S rfl <| xN [0] [] rfl <| A3 <| A0 <| y_M rfl ?_
 obtain ⟨_, _, ⟨rfl, rfl⟩, hC0⟩ := c6a (oG := oG) bs hl
 have hbs2 : a4i (bs.take 2000) := fun b hb => hbs b (List.mem_of_mem_take hb)
 have hl2 : (bs.take 2000).length ≤ 1048576 := by simp; omega
 apply xC rfl
 ·apply A9
  ·exact B7 rfl
  exact C5
 ·exact hC0
 refine ⟨⟨rfl, rfl, rfl, dT rfl, rfl⟩, .inl rfl, B3, d6v, fun _ => rfl, fun g4 => ?_⟩
 obtain ⟨_, _, ⟨x, q, rfl, rfl, -, -, hx3⟩, hC1⟩ := d0g (oG := oG) (bs.take 2000) 0 hbs2 hl2 (by omega)
 apply xC rfl
 ·apply A9
  ·exact L3 rfl (by decide) rfl
  exact C5
 ·exact hC1
 refine ⟨⟨rfl, rfl, rfl, dT rfl, rfl⟩, .inl rfl, G4 rfl rfl rfl B3, C9 rfl, fun _ => rfl, fun g5 => ?_⟩
 refine y_S rfl <| xN [2] [] rfl <| A8 ?_
 refine ⟨_, _, ?_, K2 rfl rfl B5⟩
 exact ⟨x, rfl, rfl, hx3⟩

theorem c0q : F4 Tryz.f75 = [0, 2] := by kernel_rfl
theorem d1x (xs : List Int) (hx : xs.length ≤ G9) : CW (cxT oG) 75 [.own 1 (xs.map iV)] = some (.own 1 (xs.map iV), []) := by
 refine E5 rfl Tryz.func75 rfl ⟨by kernel_rfl, rfl, dT rfl, dT rfl, by decide⟩ c0q <| A3 <| A0 ?_
 (refine B2 rfl rfl (fun _ => rfl) ?_; intro g2)
 refine xN [0] [0] rfl <| A3 <| A0 <| y_M rfl <| y_M rfl <| I5 rfl rfl <| y_M rfl <| I5 rfl rfl ?_
 refine d4v rfl rfl rfl rfl rfl rfl (fun hz => ?_) (fun hz => ?_)
 ·skip
  (refine B2 rfl rfl (fun _ => rfl) ?_; intro g2)
  refine xN [2] [0,2] rfl <| A8 <| N4 rfl rfl (by (simp; done)) (by rfl) trivial ?_
  (have h0 : xs = [] := (by simpa using hz); subst h0; rfl)
 skip
 (refine xO rfl rfl (by simp) rfl (fun _ => rfl) (fun _ => rfl) ?_; intro g2)
 refine xN [2] [0,2] rfl <| A8 <| N4 rfl rfl (by (simp; done)) (by exact A6 fun _ => rfl) trivial ?_
 rfl

theorem c3g : F4 Tryz.f69 = [0, 2] := by kernel_rfl
theorem d1n (x : List Int) (hl : x.length ≤ 1048576) : CW (cxT oG) 69 [L x] = some (.own 1 (x.map iV), []) := by
 refine E5 rfl Tryz.func69 rfl ⟨by kernel_rfl, rfl, dT rfl, dT rfl, by decide⟩ c3g <| A3 <| A0 ?_
 (refine B2 rfl rfl (fun _ => rfl) ?_; intro g2)
 refine xN [0] [] rfl <| A3 <| A0 <| y_M rfl ?_
 apply xC rfl
 ·apply A9
  ·exact B7 rfl
  exact C5
 ·exact d1k x (by simp only [G9]; omega)
 refine ⟨⟨rfl, rfl, rfl, dT rfl, rfl⟩, .inl rfl, B3, K0, fun _ => rfl, fun g4 => ?_⟩
 simp only [List.length_map]
 apply xC rfl
 ·apply A9
  ·exact c3h rfl rfl (by (simp; done)) (A6 fun _ => rfl)
  exact C5
 ·exact d1x x (by simp only [G9]; omega)
 refine ⟨⟨rfl, rfl, rfl, dT rfl, rfl⟩, .inl rfl, B3, K0, fun _ => rfl, fun g5 => ?_⟩
 simp only [List.length_map]
 (refine xO rfl rfl (by simp) rfl (fun _ => rfl) (fun _ => rfl) ?_; intro g2)
 refine xN [2] [2] rfl <| A8 <| N4 rfl rfl (by simp) (by exact A6 fun _ => rfl) trivial ?_
 rfl
end Go.Proofs.YtlainomgfkknbaaGreatDoor
